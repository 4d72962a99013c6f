/- Proved: for all arguments the given program's laws.FnPsalmMore returns true, and its arguments read afterwards as they read before (the given constant Rows.FnPsalmMoreCardSaid).
Conditions: none ahead of the given statement; the statement itself begins in a world whose listed package-level variables hold what the program's text lays there, and its card ties them to that text. -/
import Derived.Test.YtdgmkfbmeaalpaaDoorRowFnPsalmMoreK2
section
namespace Go.Proofs.YtdgmkfbmeaalpaaDoor.E
open Go.RowKit Go.Proofs.YtdgmkfbmeaalpaaDoorW.PrintWords Go.Proofs.YtdgmkfbmeaalpaaDoorW.PrintLast Go.Proofs.YtdgmkfbmeaalpaaDoorW.PrintMore
attribute [local go_sem] max2_int min2_int max_two min_two max_three min_three max_four min_four
set_option linter.unusedVariables false
set_option linter.unusedSimpArgs false
attribute [local go_sem] str_leq_ str_gtr_ str_geq_
mutual
def laws_FnPsalmMore.j0 : Nat → ByteArray → Int → Int → Bool → List (S25) → Int → Bool → List (S25) → List (S25) → Option (Bool)
 | 0, _, _, _, _, _, _, _, _, _ => none
 | k + 1, x4, x5, x6, x37, x532000, x532001, x532002, x532003, x532004 => if x37 = true then (some (x5 == x6)) else ((impl_VerseHalves.f x4).bind fun bt534 => (if bt534.1.size + 2 ≤ 9223372036854775807 then (if (bt534.1 ++ (⟨#[124, 120]⟩ : ByteArray)).size + bt534.2.1.size ≤ 9223372036854775807 then (if bt534.2.2 = true then ((impl_VerseValid.f ((bt534.1 ++ (⟨#[124, 120]⟩ : ByteArray)) ++ bt534.2.1)).bind fun t537 => (laws_FnPsalmMore.j1 k x4 x5 bt534.1 bt534.2.1 bt534.2.2 ((bt534.1 ++ (⟨#[124, 120]⟩ : ByteArray)) ++ bt534.2.1) (!t537) x532000 x532001 x532002 x532003 x532004)) else (laws_FnPsalmMore.j1 k x4 x5 bt534.1 bt534.2.1 bt534.2.2 ((bt534.1 ++ (⟨#[124, 120]⟩ : ByteArray)) ++ bt534.2.1) true x532000 x532001 x532002 x532003 x532004)) else (none)) else (none)))
def laws_FnPsalmMore.j1 : Nat → ByteArray → Int → ByteArray → ByteArray → Bool → ByteArray → Bool → List (S25) → Int → Bool → List (S25) → List (S25) → Option (Bool)
 | 0, _, _, _, _, _, _, _, _, _, _, _, _ => none
 | k + 1, x4, x5, x7, x8, x9, x10, x57, x532000, x532001, x532002, x532003, x532004 => if x57 = true then (some x9) else ((impl_PsalmSing.f k x532000 x532001 x532002 x532003 x532004 x4).bind fun bt538 => ((impl_PsalmSing.f k x532000 x532001 x532002 x532003 x532004 x10).bind fun bt542 => ((some (([] : List (S25)) : List (S25))).bind fun y546 => (if 0 ≤ (wrap64 ((wrap64 ((x7.size : Int) + (x8.size : Int))) - (x532004.length : Int))) then (if (wrap64 ((wrap64 ((x7.size : Int) + (x8.size : Int))) - (x532004.length : Int))) ≤ (bt538.1.length : Int) then ((some (bt538.1.take ((wrap64 ((wrap64 ((x7.size : Int) + (x8.size : Int))) - (x532004.length : Int))) : Int).toNat : List (S25))).bind fun y549 => (if y546.length + y549.length < 8796093022208 then ((some (y546 ++ y549 : List (S25))).bind fun y553 => ((some (([(⟨x532001, x532002⟩ : S25)] : List (S25)) : List (S25))).bind fun y556 => (if y553.length + y556.length < 8796093022208 then ((some (y553 ++ y556 : List (S25))).bind fun y559 => ((some (bt538.1.drop ((wrap64 ((wrap64 ((x7.size : Int) + (x8.size : Int))) - (x532004.length : Int))) : Int).toNat : List (S25))).bind fun y562 => (if y559.length + y562.length < 8796093022208 then (if bt538.2 = true then (if bt542.2 = true then ((impl_PsalmTenors.f k x532000 x532001 x532002 x532003 x532004 x10).bind fun t569 => (if t569 = (wrap64 (x5 + 1)) then ((laws_sameTones.f k bt542.1 (y559 ++ y562)).bind fun t570 => (some t570)) else (none))) else (none)) else (none)) else (none)))) else (none)))) else (none))) else (none)) else (none)))))
end
def laws_FnPsalmMore.f (k : Nat) (l0 : List Int) : Option (Bool) := if (l0.length : Int) > 1048576 then (some true) else ((spec_DrawPsalmTenors.f k l0).bind fun bt519 => ((impl_PsalmTenors.f k bt519.1 bt519.2.1 bt519.2.2.1 bt519.2.2.2.1 bt519.2.2.2.2.1 bt519.2.2.2.2.2).bind fun t532 => ((spec_PsalmTenors.f k bt519.1 bt519.2.1 bt519.2.2.1 bt519.2.2.2.1 bt519.2.2.2.2.1 bt519.2.2.2.2.2).bind fun t533 => (if t532 = t533 then (laws_FnPsalmMore.j0 k bt519.2.2.2.2.2 t532 t533 (decide (t532 < 0)) bt519.1 bt519.2.1 bt519.2.2.1 bt519.2.2.2.1 bt519.2.2.2.2.1) else (laws_FnPsalmMore.j0 k bt519.2.2.2.2.2 t532 t533 true bt519.1 bt519.2.1 bt519.2.2.1 bt519.2.2.2.1 bt519.2.2.2.2.1)))))
def laws_FnPsalmMore.T15 : Bool × List (List Nat × List Nat) := (true, [([], []), ([], []), ([], []), ([1, 2], [1, 2]), ([0, 3], [0, 3]), ([], []), ([5], [5]), ([6], [6]), ([4, 7, 4], [4, 7]), ([8, 8, 0, 1, 2, 3, 4, 5, 6, 7, 8], [8])])
def laws_FnPsalmMore.B15 : List Nat := [0, 0, 0, 6, 15, 0, 32, 96, 255, 511]
theorem laws_FnPsalmMore.tab15 : rtab .any (opsOf Tryd.f7 15) = laws_FnPsalmMore.T15 := by kernel_rfl
theorem laws_FnPsalmMore.bits15 : waitsOk laws_FnPsalmMore.T15.2 laws_FnPsalmMore.B15 = true := by kernel_rfl
set_option maxHeartbeats 8000000 in
set_option maxRecDepth 100000 in
theorem laws_FnPsalmMore.calls (k : Nat) (A0 : Option Addr) (c0 : Nat) (l0 : List Int) (r : Bool) (w : World) (hr0 : Kd.C (Kd.int .u8) w A0 l0.length l0) (hc0 : l0.length ≤ c0) (hG : GOk [0] w) (h : laws_FnPsalmMore.f k l0 = some r) :
  Calls Tryd.prog 7 #[.slice A0 l0.length c0] w fun e w' => e = .returned (.bool r) ∧ Below w.heap.size w w' := by
 have hu27 := Tryd.underlying27
 have hu25 := Tryd.underlying25
 have HR0 := Aside0.mk hr0
 have HC0 := Aside0.mk hc0
 clear hr0 hc0
 have HB := Aside0.mk (Below.refl w.heap.size w)
 have HG := Aside0.mk hG
 clear hG
 have H : (if (l0.length : Int) > 1048576 then (some true) else ((spec_DrawPsalmTenors.f k l0).bind fun bt519 => ((impl_PsalmTenors.f k bt519.1 bt519.2.1 bt519.2.2.1 bt519.2.2.2.1 bt519.2.2.2.2.1 bt519.2.2.2.2.2).bind fun t532 => ((spec_PsalmTenors.f k bt519.1 bt519.2.1 bt519.2.2.1 bt519.2.2.2.1 bt519.2.2.2.2.1 bt519.2.2.2.2.2).bind fun t533 => (if t532 = t533 then (laws_FnPsalmMore.j0 k bt519.2.2.2.2.2 t532 t533 (decide (t532 < 0)) bt519.1 bt519.2.1 bt519.2.2.1 bt519.2.2.2.1 bt519.2.2.2.2.1) else (laws_FnPsalmMore.j0 k bt519.2.2.2.2.2 t532 t533 true bt519.1 bt519.2.1 bt519.2.2.1 bt519.2.2.2.1 bt519.2.2.2.2.1)))))) = some r := h
 clear h
 by_cases c2 : (l0.length : Int) > 1048576
 ·rw [if_pos c2] at H
  have c2b0 : decide (1048576 < (l0.length : Int)) = true := decide_eq_true c2
  have c2b1 : decide (1048576 < l0.length) = true := decide_eq_true (by omega)
  clear c2
  obtain rfl := Option.some.inj H
  go_enter Tryd.func7, Tryd.ntmps7
  go_wp2
  go_ret
  exact ⟨by first | rfl | (simp [errW_none, errW_some] <;> rfl) | (simp [*, errW_none, errW_some] <;> rfl), by repeat (first | (with_reducible first | exact HB.out | apply below_alloc | apply pw_below_drewN | apply below_drew1) | exact HB.out)⟩
 rw [if_neg c2] at H
 have c2b0 : decide (1048576 < (l0.length : Int)) = false := decide_eq_false c2
 have c2b1 : decide (1048576 < l0.length) = false := decide_eq_false (by omega)
 clear c2
 replace H := Option.bind_eq_some_iff.mp H
 obtain ⟨⟨t519, t522, t523, t524, t527, t530⟩, A30, H⟩ := H
 replace H : ((impl_PsalmTenors.f k t519 t522 t523 t524 t527 t530).bind fun t532 => ((spec_PsalmTenors.f k t519 t522 t523 t524 t527 t530).bind fun t533 => (if t532 = t533 then (laws_FnPsalmMore.j0 k t530 t532 t533 (decide (t532 < 0)) t519 t522 t523 t524 t527) else (laws_FnPsalmMore.j0 k t530 t532 t533 true t519 t522 t523 t524 t527)))) = some r := H
 have A3 := Aside0.mk A30
 clear A30
 replace H := Option.bind_eq_some_iff.mp H
 obtain ⟨t532, A40, H⟩ := H
 replace H : ((spec_PsalmTenors.f k t519 t522 t523 t524 t527 t530).bind fun t533 => (if t532 = t533 then (laws_FnPsalmMore.j0 k t530 t532 t533 (decide (t532 < 0)) t519 t522 t523 t524 t527) else (laws_FnPsalmMore.j0 k t530 t532 t533 true t519 t522 t523 t524 t527))) = some r := H
 have A4 := Aside0.mk A40
 clear A40
 replace H := Option.bind_eq_some_iff.mp H
 obtain ⟨t533, A50, H⟩ := H
 replace H : (if t532 = t533 then (laws_FnPsalmMore.j0 k t530 t532 t533 (decide (t532 < 0)) t519 t522 t523 t524 t527) else (laws_FnPsalmMore.j0 k t530 t532 t533 true t519 t522 t523 t524 t527)) = some r := H
 have A5 := Aside0.mk A50
 clear A50
 have HC6 := Aside0.mk H
 clear H
 go_enter Tryd.func7, Tryd.ntmps7
 go_upto_region 6 with (first | ((with_reducible refine gate_callee (f := 31) rfl ?_); refine goesL_ (some 22) rfl rfl Tryd.func31 (by kernel_rfl) rfl #[.slice A0 l0.length c0] rfl (by (try simp only [List.map_toArray, List.map_cons, List.map_nil]); first | done | rfl | (simp only [List.length_drop, List.length_take]; rfl)) ?_; (with_reducible refine (spec_DrawPsalmTenors.calls k _ _ l0 t519 t522 t523 t524 t527 t530 _ ?side1 ?side2 A3.out).mono ?_); (case side1 => repeat (first | exact HR0.out | (with_reducible refine Kd.C_alloc ?_ _) | (with_reducible refine Kd.C_drewN ?_ _) | (with_reducible refine Kd.C_drew ?_))); (case side2 => exact HC0.out); rintro e w7 ⟨v520, v525, v528, rfl, ho0, ho1, ho2, hb⟩; refine ⟨_, rfl, ?_⟩; have n0_ := Aside0.mk (Kd.R_lower ho0 (below_size (by repeat (first | (with_reducible first | exact HB.out | apply below_alloc | apply pw_below_drewN | apply below_drew1) | exact HB.out)))); have n1_ := Aside0.mk (Kd.R_lower ho1 (below_size (by repeat (first | (with_reducible first | exact HB.out | apply below_alloc | apply pw_below_drewN | apply below_drew1) | exact HB.out)))); have n2_ := Aside0.mk (Kd.R_lower ho2 (below_size (by repeat (first | (with_reducible first | exact HB.out | apply below_alloc | apply pw_below_drewN | apply below_drew1) | exact HB.out)))); have n3_ := Aside0.mk (below_step (by repeat (first | (with_reducible first | exact HB.out | apply below_alloc | apply pw_below_drewN | apply below_drew1) | exact HB.out)) hb); clear HB; have HO521 := n0_; have HO526 := n1_; have HO529 := n2_; have HB := n3_; clear n0_ n1_ n2_ n3_; (try clear hb); (try clear hb2); (try clear hk); (try clear hi); (try clear ho0); (try clear ho1); (try clear ho2)) | ((with_reducible refine gate_dst (N := 3) rfl ?_); refine box_event ?hg (N := 3) ?hd (cs := #[.slice none 0 0, .int .i64 0, .bool false, .slice none 0 0, .slice none 0 0]) (t := 27) ?hr ?_; (case hd => rfl); (case hg => rfl); (case hr => first | (go_simp; done) | (go_simp; rfl)); intro gb531 hg w8 hbox hb; have n0_ := Aside0.mk (Kd.R_below (by (with_reducible repeat (first | apply Kd.R_alloc | apply Kd.R_drewN | apply Kd.R_drew)); exact HO521.out) hb); have n1_ := Aside0.mk (Kd.R_below (by (with_reducible repeat (first | apply Kd.R_alloc | apply Kd.R_drewN | apply Kd.R_drew)); exact HO526.out) hb); have n2_ := Aside0.mk (Kd.R_below (by (with_reducible repeat (first | apply Kd.R_alloc | apply Kd.R_drewN | apply Kd.R_drew)); exact HO529.out) hb); have n3_ := Aside0.mk (below_step (by repeat (first | (with_reducible first | exact HB.out | apply below_alloc | apply pw_below_drewN | apply below_drew1) | exact HB.out)) hb); have n4_ := Aside0.mk (hbox); have n5_ := Aside0.mk ((by rw [hg]; exact (below_size (by repeat (first | (with_reducible first | exact HB.out | apply below_alloc | apply pw_below_drewN | apply below_drew1) | exact HB.out))) : w.heap.size ≤ gb531)); have n6_ := Aside0.mk ((by rw [hg]; exact (below_size (by repeat (first | (with_reducible first | exact HB.out | apply below_alloc | apply pw_below_drewN | apply below_drew1) | exact HB.out))) : w.heap.size ≤ gb531)); clear HO521; clear HO526; clear HO529; clear HB; have HO521 := n0_; have HO526 := n1_; have HO529 := n2_; have HB := n3_; have BK531 := n4_; have GW531 := n5_; have GE531 := n6_; clear n0_ n1_ n2_ n3_ n4_ n5_ n6_; clear hb hbox hg; obtain ⟨Ao9, co9, eo9⟩ := Kd.R_slice HO521.out; subst eo9; have hcz10_0 : w8.cell? ⟨gb531, 0, none⟩ = some (.slice none 0 0) := (blk_cell BK531.out 0).trans rfl; have hcz10_1 : w8.cell? ⟨gb531, 1, none⟩ = some (.int .i64 0) := (blk_cell BK531.out 1).trans rfl; have hcz10_2 : w8.cell? ⟨gb531, 2, none⟩ = some (.bool false) := (blk_cell BK531.out 2).trans rfl; have hcz10_3 : w8.cell? ⟨gb531, 3, none⟩ = some (.slice none 0 0) := (blk_cell BK531.out 3).trans rfl; have hcz10_4 : w8.cell? ⟨gb531, 4, none⟩ = some (.slice none 0 0) := (blk_cell BK531.out 4).trans rfl; have hfz10_0 := blk_frozen BK531.out 0; have hfz10_1 := blk_frozen BK531.out 1; have hfz10_2 := blk_frozen BK531.out 2; have hfz10_3 := blk_frozen BK531.out 3; have hfz10_4 := blk_frozen BK531.out 4; obtain ⟨Ao11, co11, eo11⟩ := Kd.R_slice HO526.out; subst eo11; obtain ⟨Ao12, co12, eo12⟩ := Kd.R_slice HO529.out; subst eo12) | ((with_reducible refine gate_callee (f := 25) rfl ?_); refine goesL_ (some 27) rfl rfl Tryd.func25 (by kernel_rfl) rfl #[.agg #[.slice Ao9 t519.length co9, .int .i64 t522, .bool t523, .slice Ao11 t524.length co11, .slice Ao12 t527.length co12], .string t530] rfl (by (try simp only [List.map_toArray, List.map_cons, List.map_nil]); first | done | rfl | (simp only [List.length_drop, List.length_take]; rfl)) ?_; (with_reducible refine (impl_PsalmTenors.calls k _ _ t519 t522 t523 _ _ t524 _ _ t527 t530 t532 _ ?side1 ?side2 ?side3 ?side4 ?side5 ?side6 ?side7 A4.out).mono ?_); (case side1 => refine (Kd.R_reads' (e := 25) (base := w.heap.size) (ok := fun k_ => (some k_ ≠ (.slice Ao11 t524.length co11 : Value).ownBlock ∧ some k_ ≠ (.slice Ao12 t527.length co12 : Value).ownBlock)) (n := t519.length) (c := co9) ?_).2.2; exact (by (with_reducible repeat (first | apply Kd.R_alloc | apply Kd.R_drewN | apply Kd.R_drew)); exact (Kd.R_mono (Kd.R_far (p := ⟨gb531, 4, none⟩) (Kd.R_far (p := ⟨gb531, 3, none⟩) (Kd.R_far (p := ⟨gb531, 2, none⟩) (Kd.R_far (p := ⟨gb531, 1, none⟩) (Kd.R_far (p := ⟨gb531, 0, none⟩) (Kd.R_types HO521.out BK531.out (by decide)) (fun _ hk => hk.2) (.slice Ao9 t519.length co9)) (fun _ hk => hk.2) (.int .i64 t522)) (fun _ hk => hk.2) (.bool t523)) (fun _ hk => hk.2) (.slice Ao11 t524.length co11)) (fun _ hk => hk.2) (.slice Ao12 t527.length co12)) (fun _ h_ => h_.1)))); (case side2 => exact (Kd.R_reads' HO521.out).2.1); (case side3 => refine (Kd.R_reads' (e := 25) (base := w.heap.size) (ok := fun k_ => (some k_ ≠ (.slice Ao9 t519.length co9 : Value).ownBlock ∧ some k_ ≠ (.slice Ao12 t527.length co12 : Value).ownBlock)) (n := t524.length) (c := co11) ?_).2.2; exact (by (with_reducible repeat (first | apply Kd.R_alloc | apply Kd.R_drewN | apply Kd.R_drew)); exact (Kd.R_mono (Kd.R_far (p := ⟨gb531, 4, none⟩) (Kd.R_far (p := ⟨gb531, 3, none⟩) (Kd.R_far (p := ⟨gb531, 2, none⟩) (Kd.R_far (p := ⟨gb531, 1, none⟩) (Kd.R_far (p := ⟨gb531, 0, none⟩) (Kd.R_types HO526.out BK531.out (by decide)) (fun _ hk => hk.2) (.slice Ao9 t519.length co9)) (fun _ hk => hk.2) (.int .i64 t522)) (fun _ hk => hk.2) (.bool t523)) (fun _ hk => hk.2) (.slice Ao11 t524.length co11)) (fun _ hk => hk.2) (.slice Ao12 t527.length co12)) (fun _ h_ => h_.1)))); (case side4 => exact (Kd.R_reads' HO526.out).2.1); (case side5 => refine (Kd.R_reads' (e := 25) (base := w.heap.size) (ok := fun k_ => (some k_ ≠ (.slice Ao9 t519.length co9 : Value).ownBlock ∧ some k_ ≠ (.slice Ao11 t524.length co11 : Value).ownBlock)) (n := t527.length) (c := co12) ?_).2.2; exact (by (with_reducible repeat (first | apply Kd.R_alloc | apply Kd.R_drewN | apply Kd.R_drew)); exact (Kd.R_mono (Kd.R_far (p := ⟨gb531, 4, none⟩) (Kd.R_far (p := ⟨gb531, 3, none⟩) (Kd.R_far (p := ⟨gb531, 2, none⟩) (Kd.R_far (p := ⟨gb531, 1, none⟩) (Kd.R_far (p := ⟨gb531, 0, none⟩) (Kd.R_types HO529.out BK531.out (by decide)) (fun _ hk => hk.2) (.slice Ao9 t519.length co9)) (fun _ hk => hk.2) (.int .i64 t522)) (fun _ hk => hk.2) (.bool t523)) (fun _ hk => hk.2) (.slice Ao11 t524.length co11)) (fun _ hk => hk.2) (.slice Ao12 t527.length co12)) (fun _ h_ => h_.1)))); (case side6 => exact (Kd.R_reads' HO529.out).2.1); (case side7 => exact GOk.sub (GOk.below HG.out (by repeat (first | (with_reducible first | exact HB.out | apply below_alloc | apply pw_below_drewN | apply below_drew1 | refine below_set ?_ GE531.out) | exact HB.out))) (by decide)); rintro e w13 ⟨rfl, hb⟩; refine ⟨_, rfl, ?_⟩; have n0_ := Aside0.mk (Kd.R_below (by (with_reducible repeat (first | apply Kd.R_alloc | apply Kd.R_drewN | apply Kd.R_drew)); exact (Kd.R_mono (Kd.R_far (p := ⟨gb531, 4, none⟩) (Kd.R_far (p := ⟨gb531, 3, none⟩) (Kd.R_far (p := ⟨gb531, 2, none⟩) (Kd.R_far (p := ⟨gb531, 1, none⟩) (Kd.R_far (p := ⟨gb531, 0, none⟩) (Kd.R_types HO521.out BK531.out (by decide)) (fun _ hk => hk.2) (.slice Ao9 t519.length co9)) (fun _ hk => hk.2) (.int .i64 t522)) (fun _ hk => hk.2) (.bool t523)) (fun _ hk => hk.2) (.slice Ao11 t524.length co11)) (fun _ hk => hk.2) (.slice Ao12 t527.length co12)) (fun _ h_ => h_.1))) hb); have n1_ := Aside0.mk (Kd.R_below (by (with_reducible repeat (first | apply Kd.R_alloc | apply Kd.R_drewN | apply Kd.R_drew)); exact (Kd.R_mono (Kd.R_far (p := ⟨gb531, 4, none⟩) (Kd.R_far (p := ⟨gb531, 3, none⟩) (Kd.R_far (p := ⟨gb531, 2, none⟩) (Kd.R_far (p := ⟨gb531, 1, none⟩) (Kd.R_far (p := ⟨gb531, 0, none⟩) (Kd.R_types HO526.out BK531.out (by decide)) (fun _ hk => hk.2) (.slice Ao9 t519.length co9)) (fun _ hk => hk.2) (.int .i64 t522)) (fun _ hk => hk.2) (.bool t523)) (fun _ hk => hk.2) (.slice Ao11 t524.length co11)) (fun _ hk => hk.2) (.slice Ao12 t527.length co12)) (fun _ h_ => h_.1))) hb); have n2_ := Aside0.mk (Kd.R_below (by (with_reducible repeat (first | apply Kd.R_alloc | apply Kd.R_drewN | apply Kd.R_drew)); exact (Kd.R_mono (Kd.R_far (p := ⟨gb531, 4, none⟩) (Kd.R_far (p := ⟨gb531, 3, none⟩) (Kd.R_far (p := ⟨gb531, 2, none⟩) (Kd.R_far (p := ⟨gb531, 1, none⟩) (Kd.R_far (p := ⟨gb531, 0, none⟩) (Kd.R_types HO529.out BK531.out (by decide)) (fun _ hk => hk.2) (.slice Ao9 t519.length co9)) (fun _ hk => hk.2) (.int .i64 t522)) (fun _ hk => hk.2) (.bool t523)) (fun _ hk => hk.2) (.slice Ao11 t524.length co11)) (fun _ hk => hk.2) (.slice Ao12 t527.length co12)) (fun _ h_ => h_.1))) hb); have n3_ := Aside0.mk (blk_below (g := gb531) (o := .cells #[.slice Ao9 t519.length co9, .int .i64 t522, .bool t523, .slice Ao11 t524.length co11, .slice Ao12 t527.length co12] 27 (0, 0)) (by (with_reducible repeat (first | refine blk_drewN ?_ _ | refine blk_drew ?_ | refine blk_alloc ?_ _)); refine blk_put (cs := #[.slice Ao9 t519.length co9, .int .i64 t522, .bool t523, .slice Ao11 t524.length co11, .slice none 0 0]) ?_ 4 _ rfl; (with_reducible repeat (first | refine blk_drewN ?_ _ | refine blk_drew ?_ | refine blk_alloc ?_ _)); refine blk_put (cs := #[.slice Ao9 t519.length co9, .int .i64 t522, .bool t523, .slice none 0 0, .slice none 0 0]) ?_ 3 _ rfl; (with_reducible repeat (first | refine blk_drewN ?_ _ | refine blk_drew ?_ | refine blk_alloc ?_ _)); refine blk_put (cs := #[.slice Ao9 t519.length co9, .int .i64 t522, .bool false, .slice none 0 0, .slice none 0 0]) ?_ 2 _ rfl; (with_reducible repeat (first | refine blk_drewN ?_ _ | refine blk_drew ?_ | refine blk_alloc ?_ _)); refine blk_put (cs := #[.slice Ao9 t519.length co9, .int .i64 0, .bool false, .slice none 0 0, .slice none 0 0]) ?_ 1 _ rfl; (with_reducible repeat (first | refine blk_drewN ?_ _ | refine blk_drew ?_ | refine blk_alloc ?_ _)); refine blk_put (cs := #[.slice none 0 0, .int .i64 0, .bool false, .slice none 0 0, .slice none 0 0]) ?_ 0 _ rfl; (with_reducible repeat (first | refine blk_drewN ?_ _ | refine blk_drew ?_ | refine blk_alloc ?_ _)); exact BK531.out) hb); have n4_ := Aside0.mk (below_step (by repeat (first | (with_reducible first | exact HB.out | apply below_alloc | apply pw_below_drewN | apply below_drew1 | refine below_set ?_ GE531.out) | exact HB.out)) hb); clear HO521; clear HO526; clear HO529; clear BK531; clear HB; have HO521 := n0_; have HO526 := n1_; have HO529 := n2_; have BK531 := n3_; have HB := n4_; clear n0_ n1_ n2_ n3_ n4_; (try clear hb); (try clear hb2); (try clear hk); (try clear hi); have hcz14_0 : w13.cell? ⟨gb531, 0, none⟩ = some (.slice Ao9 t519.length co9) := (blk_cell BK531.out 0).trans rfl; have hcz14_1 : w13.cell? ⟨gb531, 1, none⟩ = some (.int .i64 t522) := (blk_cell BK531.out 1).trans rfl; have hcz14_2 : w13.cell? ⟨gb531, 2, none⟩ = some (.bool t523) := (blk_cell BK531.out 2).trans rfl; have hcz14_3 : w13.cell? ⟨gb531, 3, none⟩ = some (.slice Ao11 t524.length co11) := (blk_cell BK531.out 3).trans rfl; have hcz14_4 : w13.cell? ⟨gb531, 4, none⟩ = some (.slice Ao12 t527.length co12) := (blk_cell BK531.out 4).trans rfl; have hfz14_0 := blk_frozen BK531.out 0; have hfz14_1 := blk_frozen BK531.out 1; have hfz14_2 := blk_frozen BK531.out 2; have hfz14_3 := blk_frozen BK531.out 3; have hfz14_4 := blk_frozen BK531.out 4) | ((with_reducible refine gate_callee (f := 23) rfl ?_); refine goesL_ (some 30) rfl rfl Tryd.func23 (by kernel_rfl) rfl #[.agg #[.slice Ao9 t519.length co9, .int .i64 t522, .bool t523, .slice Ao11 t524.length co11, .slice Ao12 t527.length co12], .string t530] rfl (by (try simp only [List.map_toArray, List.map_cons, List.map_nil]); first | done | rfl | (simp only [List.length_drop, List.length_take]; rfl)) ?_; (with_reducible refine (spec_PsalmTenors.calls k _ _ t519 t522 t523 _ _ t524 _ _ t527 t530 t533 _ ?side1 ?side2 ?side3 ?side4 ?side5 ?side6 A5.out).mono ?_); (case side1 => repeat (first | exact (Kd.R_reads' HO521.out).2.2 | (with_reducible refine Kd.C_alloc ?_ _) | (with_reducible refine Kd.C_drewN ?_ _) | (with_reducible refine Kd.C_drew ?_))); (case side2 => exact (Kd.R_reads' HO521.out).2.1); (case side3 => repeat (first | exact (Kd.R_reads' HO526.out).2.2 | (with_reducible refine Kd.C_alloc ?_ _) | (with_reducible refine Kd.C_drewN ?_ _) | (with_reducible refine Kd.C_drew ?_))); (case side4 => exact (Kd.R_reads' HO526.out).2.1); (case side5 => repeat (first | exact (Kd.R_reads' HO529.out).2.2 | (with_reducible refine Kd.C_alloc ?_ _) | (with_reducible refine Kd.C_drewN ?_ _) | (with_reducible refine Kd.C_drew ?_))); (case side6 => exact (Kd.R_reads' HO529.out).2.1); rintro e w15 ⟨rfl, hb⟩; refine ⟨_, rfl, ?_⟩; have n0_ := Aside0.mk (Kd.R_below (by (with_reducible repeat (first | apply Kd.R_alloc | apply Kd.R_drewN | apply Kd.R_drew)); exact HO521.out) hb); have n1_ := Aside0.mk (Kd.R_below (by (with_reducible repeat (first | apply Kd.R_alloc | apply Kd.R_drewN | apply Kd.R_drew)); exact HO526.out) hb); have n2_ := Aside0.mk (Kd.R_below (by (with_reducible repeat (first | apply Kd.R_alloc | apply Kd.R_drewN | apply Kd.R_drew)); exact HO529.out) hb); have n3_ := Aside0.mk (blk_below (g := gb531) (o := .cells #[.slice Ao9 t519.length co9, .int .i64 t522, .bool t523, .slice Ao11 t524.length co11, .slice Ao12 t527.length co12] 27 (0, 0)) (by (with_reducible repeat (first | refine blk_drewN ?_ _ | refine blk_drew ?_ | refine blk_alloc ?_ _)); exact BK531.out) hb); have n4_ := Aside0.mk (below_step (by repeat (first | (with_reducible first | exact HB.out | apply below_alloc | apply pw_below_drewN | apply below_drew1 | refine below_set ?_ GE531.out) | exact HB.out)) hb); clear HO521; clear HO526; clear HO529; clear BK531; clear HB; have HO521 := n0_; have HO526 := n1_; have HO529 := n2_; have BK531 := n3_; have HB := n4_; clear n0_ n1_ n2_ n3_ n4_; (try clear hb); (try clear hb2); (try clear hk); (try clear hi)))
 (try simp only [Act.put, List.setIfInBounds_toArray, List.set_cons_zero, List.set_cons_succ])
 go_cut [37] (fun v37 wc => ∃ (kq : Nat) (x37_5 : Bool), v37 = .bool x37_5 ∧ Aside0 (laws_FnPsalmMore.j0 kq t530 t532 t533 x37_5 t519 t522 t523 t524 t527 = some r) ∧ Aside0 (kq ≤ k) ∧ Aside0 (Kd.R k25 25 wc w.heap.size (fun k_ => some k_ ≠ ((.slice Ao11 t524.length co11) : Value).ownBlock ∧ some k_ ≠ ((.slice Ao12 t527.length co12) : Value).ownBlock) (.slice Ao9 t519.length co9) t519) ∧ Aside0 (Kd.R k25 25 wc w.heap.size (fun k_ => some k_ ≠ ((.slice Ao9 t519.length co9) : Value).ownBlock ∧ some k_ ≠ ((.slice Ao12 t527.length co12) : Value).ownBlock) (.slice Ao11 t524.length co11) t524) ∧ Aside0 (Kd.R k25 25 wc w.heap.size (fun k_ => some k_ ≠ ((.slice Ao9 t519.length co9) : Value).ownBlock ∧ some k_ ≠ ((.slice Ao11 t524.length co11) : Value).ownBlock) (.slice Ao12 t527.length co12) t527) ∧ Aside0 (wc.heap[gb531]? = some (.cells #[(.slice Ao9 t519.length co9), .int .i64 t522, .bool t523, (.slice Ao11 t524.length co11), (.slice Ao12 t527.length co12)] 27 (0, 0))) ∧ Aside0 (Below w.heap.size w wc))
 case first =>
  have H := HC6.out
  clear HC6
  by_cases c16 : t532 = t533
  rotate_left
  ·rw [if_neg c16] at H
   have c16b0 : (t532 == t533) = false := beq_eq_false_iff_ne.mpr c16
   have c16b1 : (t532 != t533) = true := bne_iff_ne.mpr c16
   (first | rw [c16b0] | (simp only [i64_w, i32_w]; rw [c16b0]) | skip)
   have H' := Aside0.mk H
   clear H
   go_wp2
   go_meet
   case rel => exact ⟨_, (true), (by first | rfl | (simp; done) | (simp [*]; done)), H', ⟨by first | omega | exact Nat.le_refl _⟩, ⟨by (with_reducible repeat (first | apply Kd.R_alloc | apply Kd.R_drewN | apply Kd.R_drew)); exact HO521.out⟩, ⟨by (with_reducible repeat (first | apply Kd.R_alloc | apply Kd.R_drewN | apply Kd.R_drew)); exact HO526.out⟩, ⟨by (with_reducible repeat (first | apply Kd.R_alloc | apply Kd.R_drewN | apply Kd.R_drew)); exact HO529.out⟩, ⟨by (with_reducible repeat (first | refine blk_drewN ?_ _ | refine blk_drew ?_ | refine blk_alloc ?_ _)); exact BK531.out⟩, ⟨by repeat (first | (with_reducible first | exact HB.out | apply below_alloc | apply pw_below_drewN | apply below_drew1 | refine below_set ?_ GE531.out) | exact HB.out)⟩⟩
  rw [if_pos c16] at H
  have c16b0 : (t532 == t533) = true := beq_iff_eq.mpr c16
  have c16b1 : (t532 != t533) = false := bne_eq_false_iff_eq.mpr c16
  clear c16
  (first | rw [c16b0] | (simp only [i64_w, i32_w]; rw [c16b0]) | skip)
  have H' := Aside0.mk H
  clear H
  go_wp2
  go_meet
  case rel => exact ⟨_, (decide (t532 < 0)), (by first | rfl | (simp; done) | (simp [*]; done)), H', ⟨by first | omega | exact Nat.le_refl _⟩, ⟨by (with_reducible repeat (first | apply Kd.R_alloc | apply Kd.R_drewN | apply Kd.R_drew)); exact HO521.out⟩, ⟨by (with_reducible repeat (first | apply Kd.R_alloc | apply Kd.R_drewN | apply Kd.R_drew)); exact HO526.out⟩, ⟨by (with_reducible repeat (first | apply Kd.R_alloc | apply Kd.R_drewN | apply Kd.R_drew)); exact HO529.out⟩, ⟨by (with_reducible repeat (first | refine blk_drewN ?_ _ | refine blk_drew ?_ | refine blk_alloc ?_ _)); exact BK531.out⟩, ⟨by repeat (first | (with_reducible first | exact HB.out | apply below_alloc | apply pw_below_drewN | apply below_drew1 | refine below_set ?_ GE531.out) | exact HB.out)⟩⟩
 case rest =>
  clear HC6
  try clear c1
  try clear c2
  try clear c2b0
  try clear c2b1
  try clear p2
  try clear c3
  try clear c7
  try clear c16
  try clear c16b0
  try clear c16b1
  try clear hcz10_0
  try clear hcz10_1
  try clear hcz10_2
  try clear hcz10_3
  try clear hcz10_4
  try clear hcz14_0
  try clear hcz14_1
  try clear hcz14_2
  try clear hcz14_3
  try clear hcz14_4
  try clear hfz10_0
  try clear hfz10_1
  try clear hfz10_2
  try clear hfz10_3
  try clear hfz10_4
  try clear hfz14_0
  try clear hfz14_1
  try clear hfz14_2
  try clear hfz14_3
  try clear hfz14_4
  obtain ⟨kq, x37_5, rfl, HA, HJ5, HO_532000, HO_532003, HO_532004, BK531, HB⟩ := hcut
  cases kq with
  | zero => exact absurd HA.out (by simp [laws_FnPsalmMore.j0])
  | succ kj5 =>
   have H := HA.out
   clear HA
   simp only [laws_FnPsalmMore.j0] at H
   by_cases c17 : x37_5 = true
   ·subst c17
    have H1 : (some (t532 == t533)) = some r := by rw [if_pos rfl] at H; exact H
    clear H
    have H := H1
    clear H1
    obtain rfl := Option.some.inj H
    go_wp2
    go_ret
    exact ⟨by first | rfl | (simp [errW_none, errW_some] <;> rfl) | (simp [*, errW_none, errW_some] <;> rfl), by repeat (first | (with_reducible first | exact HB.out | apply below_alloc | apply pw_below_drewN | apply below_drew1 | refine below_set ?_ GE531.out) | exact HB.out)⟩
   replace c17 := Bool.eq_false_iff.mpr c17
   subst c17
   have H1 : ((impl_VerseHalves.f t530).bind fun bt534 => (if bt534.1.size + 2 ≤ 9223372036854775807 then (if (bt534.1 ++ (⟨#[124, 120]⟩ : ByteArray)).size + bt534.2.1.size ≤ 9223372036854775807 then (if bt534.2.2 = true then ((impl_VerseValid.f ((bt534.1 ++ (⟨#[124, 120]⟩ : ByteArray)) ++ bt534.2.1)).bind fun t537 => (laws_FnPsalmMore.j1 kj5 t530 t532 bt534.1 bt534.2.1 bt534.2.2 ((bt534.1 ++ (⟨#[124, 120]⟩ : ByteArray)) ++ bt534.2.1) (!t537) t519 t522 t523 t524 t527)) else (laws_FnPsalmMore.j1 kj5 t530 t532 bt534.1 bt534.2.1 bt534.2.2 ((bt534.1 ++ (⟨#[124, 120]⟩ : ByteArray)) ++ bt534.2.1) true t519 t522 t523 t524 t527)) else (none)) else (none))) = some r := by rw [if_neg (show ¬ (false = true) by decide)] at H; exact H
   clear H
   have H := H1
   clear H1
   replace H := Option.bind_eq_some_iff.mp H
   obtain ⟨⟨t534, t535, t536⟩, A180, H⟩ := H
   replace H : (if t534.size + 2 ≤ 9223372036854775807 then (if (t534 ++ (⟨#[124, 120]⟩ : ByteArray)).size + t535.size ≤ 9223372036854775807 then (if t536 = true then ((impl_VerseValid.f ((t534 ++ (⟨#[124, 120]⟩ : ByteArray)) ++ t535)).bind fun t537 => (laws_FnPsalmMore.j1 kj5 t530 t532 t534 t535 t536 ((t534 ++ (⟨#[124, 120]⟩ : ByteArray)) ++ t535) (!t537) t519 t522 t523 t524 t527)) else (laws_FnPsalmMore.j1 kj5 t530 t532 t534 t535 t536 ((t534 ++ (⟨#[124, 120]⟩ : ByteArray)) ++ t535) true t519 t522 t523 t524 t527)) else (none)) else (none)) = some r := H
   have A18 := Aside0.mk A180
   clear A180
   by_cases c19 : t534.size + 2 ≤ 9223372036854775807
   rotate_left
   ·rw [if_neg c19] at H
    exact absurd H (by simp)
   rw [if_pos c19] at H
   have c19b0 := eq_true c19
   have c19b1 : decide (t534.size + 2 ≤ 9223372036854775807) = true := decide_eq_true c19
   try have c19b2 : (9223372036854775807 < t534.size + 2) = False := eq_false (Nat.not_lt.2 c19)
   by_cases c20 : (t534 ++ (⟨#[124, 120]⟩ : ByteArray)).size + t535.size ≤ 9223372036854775807
   rotate_left
   ·rw [if_neg c20] at H
    exact absurd H (by simp)
   rw [if_pos c20] at H
   have c20b0 := eq_true c20
   have c20b1 : decide ((t534 ++ (⟨#[124, 120]⟩ : ByteArray)).size + t535.size ≤ 9223372036854775807) = true := decide_eq_true c20
   try have c20b2 : (9223372036854775807 < (t534 ++ (⟨#[124, 120]⟩ : ByteArray)).size + t535.size) = False := eq_false (Nat.not_lt.2 c20)
   have HC21 := Aside0.mk H
   clear H
   go_upto_region 10 with (first | ((with_reducible refine gate_callee (f := 18) rfl ?_); refine goesL_ (some 43) rfl rfl Tryd.func18 (by kernel_rfl) rfl #[.string t530] rfl (by (try simp only [List.map_toArray, List.map_cons, List.map_nil]); first | done | rfl | (simp only [List.length_drop, List.length_take]; rfl)) ?_; (with_reducible refine (impl_VerseHalves.calls t530 t534 t535 t536 _ ?side1 A18.out).mono ?_); (case side1 => exact GOk.sub (GOk.below HG.out (by repeat (first | (with_reducible first | exact HB.out | apply below_alloc | apply pw_below_drewN | apply below_drew1 | refine below_set ?_ GE531.out) | exact HB.out))) (by decide)); rintro e w22 ⟨rfl, hb⟩; refine ⟨_, rfl, ?_⟩; have n0_ := Aside0.mk (Kd.R_below (by (with_reducible repeat (first | apply Kd.R_alloc | apply Kd.R_drewN | apply Kd.R_drew)); exact HO_532000.out) hb); have n1_ := Aside0.mk (Kd.R_below (by (with_reducible repeat (first | apply Kd.R_alloc | apply Kd.R_drewN | apply Kd.R_drew)); exact HO_532003.out) hb); have n2_ := Aside0.mk (Kd.R_below (by (with_reducible repeat (first | apply Kd.R_alloc | apply Kd.R_drewN | apply Kd.R_drew)); exact HO_532004.out) hb); have n3_ := Aside0.mk (blk_below (g := gb531) (o := .cells #[.slice Ao9 t519.length co9, .int .i64 t522, .bool t523, .slice Ao11 t524.length co11, .slice Ao12 t527.length co12] 27 (0, 0)) (by (with_reducible repeat (first | refine blk_drewN ?_ _ | refine blk_drew ?_ | refine blk_alloc ?_ _)); exact BK531.out) hb); have n4_ := Aside0.mk (below_step (by repeat (first | (with_reducible first | exact HB.out | apply below_alloc | apply pw_below_drewN | apply below_drew1 | refine below_set ?_ GE531.out) | exact HB.out)) hb); clear HO_532000; clear HO_532003; clear HO_532004; clear BK531; clear HB; have HO_532000 := n0_; have HO_532003 := n1_; have HO_532004 := n2_; have BK531 := n3_; have HB := n4_; clear n0_ n1_ n2_ n3_ n4_; (try clear hb); (try clear hb2); (try clear hk); (try clear hi)))
   (try simp only [Act.put, List.setIfInBounds_toArray, List.set_cons_zero, List.set_cons_succ])
   go_cut [57] (fun v57 wc => ∃ (kq : Nat) (x57_20 : Bool), v57 = .bool x57_20 ∧ Aside0 (laws_FnPsalmMore.j1 kq t530 t532 t534 t535 t536 ((t534 ++ (⟨#[124, 120]⟩ : ByteArray)) ++ t535) x57_20 t519 t522 t523 t524 t527 = some r) ∧ Aside0 (kq ≤ kj5) ∧ Aside0 (Kd.R k25 25 wc w.heap.size (fun k_ => some k_ ≠ ((.slice Ao11 t524.length co11) : Value).ownBlock ∧ some k_ ≠ ((.slice Ao12 t527.length co12) : Value).ownBlock) (.slice Ao9 t519.length co9) t519) ∧ Aside0 (Kd.R k25 25 wc w.heap.size (fun k_ => some k_ ≠ ((.slice Ao9 t519.length co9) : Value).ownBlock ∧ some k_ ≠ ((.slice Ao12 t527.length co12) : Value).ownBlock) (.slice Ao11 t524.length co11) t524) ∧ Aside0 (Kd.R k25 25 wc w.heap.size (fun k_ => some k_ ≠ ((.slice Ao9 t519.length co9) : Value).ownBlock ∧ some k_ ≠ ((.slice Ao11 t524.length co11) : Value).ownBlock) (.slice Ao12 t527.length co12) t527) ∧ Aside0 (wc.heap[gb531]? = some (.cells #[(.slice Ao9 t519.length co9), .int .i64 t522, .bool t523, (.slice Ao11 t524.length co11), (.slice Ao12 t527.length co12)] 27 (0, 0))) ∧ Aside0 (Below w.heap.size w wc))
   case first =>
    have H := HC21.out
    clear HC21
    by_cases c23 : t536 = true
    rotate_left
    ·replace c23 := Bool.eq_false_iff.mpr c23
     subst c23
     have H1 : (laws_FnPsalmMore.j1 kj5 t530 t532 t534 t535 false ((t534 ++ (⟨#[124, 120]⟩ : ByteArray)) ++ t535) true t519 t522 t523 t524 t527) = some r := by rw [if_neg (show ¬ (false = true) by decide)] at H; exact H
     clear H
     have H := H1
     clear H1
     have H' := Aside0.mk H
     clear H
     go_wp2
     go_meet
     case rel => exact ⟨_, (true), (by first | rfl | (simp; done) | (simp [*]; done)), H', ⟨by have := HJ5.out; first | omega | exact Nat.le_refl _⟩, ⟨by (with_reducible repeat (first | apply Kd.R_alloc | apply Kd.R_drewN | apply Kd.R_drew)); exact HO_532000.out⟩, ⟨by (with_reducible repeat (first | apply Kd.R_alloc | apply Kd.R_drewN | apply Kd.R_drew)); exact HO_532003.out⟩, ⟨by (with_reducible repeat (first | apply Kd.R_alloc | apply Kd.R_drewN | apply Kd.R_drew)); exact HO_532004.out⟩, ⟨by (with_reducible repeat (first | refine blk_drewN ?_ _ | refine blk_drew ?_ | refine blk_alloc ?_ _)); exact BK531.out⟩, ⟨by repeat (first | (with_reducible first | exact HB.out | apply below_alloc | apply pw_below_drewN | apply below_drew1 | refine below_set ?_ GE531.out) | exact HB.out)⟩⟩
    subst c23
    have H1 : ((impl_VerseValid.f ((t534 ++ (⟨#[124, 120]⟩ : ByteArray)) ++ t535)).bind fun t537 => (laws_FnPsalmMore.j1 kj5 t530 t532 t534 t535 true ((t534 ++ (⟨#[124, 120]⟩ : ByteArray)) ++ t535) (!t537) t519 t522 t523 t524 t527)) = some r := by rw [if_pos rfl] at H; exact H
    clear H
    have H := H1
    clear H1
    replace H := Option.bind_eq_some_iff.mp H
    obtain ⟨t537, A240, H⟩ := H
    replace H : (laws_FnPsalmMore.j1 kj5 t530 t532 t534 t535 true ((t534 ++ (⟨#[124, 120]⟩ : ByteArray)) ++ t535) (!t537) t519 t522 t523 t524 t527) = some r := H
    have A24 := Aside0.mk A240
    clear A240
    have H' := Aside0.mk H
    clear H
    go_wp2_with (first | (go_at_call 21; (with_reducible refine (impl_VerseValid.calls ((t534 ++ (⟨#[124, 120]⟩ : ByteArray)) ++ t535) t537 _ ?side1 A24.out).mono ?_); (case side1 => exact GOk.sub (GOk.below HG.out (by repeat (first | (with_reducible first | exact HB.out | apply below_alloc | apply pw_below_drewN | apply below_drew1 | refine below_set ?_ GE531.out) | exact HB.out))) (by decide)); rintro e w25 ⟨rfl, hb⟩; have n0_ := Aside0.mk (Kd.R_below (by (with_reducible repeat (first | apply Kd.R_alloc | apply Kd.R_drewN | apply Kd.R_drew)); exact HO_532000.out) hb); have n1_ := Aside0.mk (Kd.R_below (by (with_reducible repeat (first | apply Kd.R_alloc | apply Kd.R_drewN | apply Kd.R_drew)); exact HO_532003.out) hb); have n2_ := Aside0.mk (Kd.R_below (by (with_reducible repeat (first | apply Kd.R_alloc | apply Kd.R_drewN | apply Kd.R_drew)); exact HO_532004.out) hb); have n3_ := Aside0.mk (blk_below (g := gb531) (o := .cells #[.slice Ao9 t519.length co9, .int .i64 t522, .bool t523, .slice Ao11 t524.length co11, .slice Ao12 t527.length co12] 27 (0, 0)) (by (with_reducible repeat (first | refine blk_drewN ?_ _ | refine blk_drew ?_ | refine blk_alloc ?_ _)); exact BK531.out) hb); have n4_ := Aside0.mk (below_step (by repeat (first | (with_reducible first | exact HB.out | apply below_alloc | apply pw_below_drewN | apply below_drew1 | refine below_set ?_ GE531.out) | exact HB.out)) hb); clear HO_532000; clear HO_532003; clear HO_532004; clear BK531; clear HB; have HO_532000 := n0_; have HO_532003 := n1_; have HO_532004 := n2_; have BK531 := n3_; have HB := n4_; clear n0_ n1_ n2_ n3_ n4_; (try clear hb); (try clear hb2); (try clear hk); (try clear hi)))
    go_meet
    case rel => exact ⟨_, (!t537), (by first | rfl | (simp; done) | (simp [*]; done)), H', ⟨by have := HJ5.out; first | omega | exact Nat.le_refl _⟩, ⟨by (with_reducible repeat (first | apply Kd.R_alloc | apply Kd.R_drewN | apply Kd.R_drew)); exact HO_532000.out⟩, ⟨by (with_reducible repeat (first | apply Kd.R_alloc | apply Kd.R_drewN | apply Kd.R_drew)); exact HO_532003.out⟩, ⟨by (with_reducible repeat (first | apply Kd.R_alloc | apply Kd.R_drewN | apply Kd.R_drew)); exact HO_532004.out⟩, ⟨by (with_reducible repeat (first | refine blk_drewN ?_ _ | refine blk_drew ?_ | refine blk_alloc ?_ _)); exact BK531.out⟩, ⟨by repeat (first | (with_reducible first | exact HB.out | apply below_alloc | apply pw_below_drewN | apply below_drew1 | refine below_set ?_ GE531.out) | exact HB.out)⟩⟩
   case rest =>
    clear HC21
    try clear c1
    try clear c2
    try clear c2b0
    try clear c2b1
    try clear p2
    try clear c3
    try clear c7
    try clear c16
    try clear c16b0
    try clear c16b1
    try clear c17
    try clear c18
    try clear c19
    try clear c19b0
    try clear c19b1
    try clear c19b2
    try clear c20
    try clear c20b0
    try clear c20b1
    try clear c20b2
    try clear c23
    try clear c25
    try clear hcz10_0
    try clear hcz10_1
    try clear hcz10_2
    try clear hcz10_3
    try clear hcz10_4
    try clear hcz14_0
    try clear hcz14_1
    try clear hcz14_2
    try clear hcz14_3
    try clear hcz14_4
    try clear hfz10_0
    try clear hfz10_1
    try clear hfz10_2
    try clear hfz10_3
    try clear hfz10_4
    try clear hfz14_0
    try clear hfz14_1
    try clear hfz14_2
    try clear hfz14_3
    try clear hfz14_4
    try clear p2
    obtain ⟨kq, x57_20, rfl, HA, HJ20, HO_532000, HO_532003, HO_532004, BK531, HB⟩ := hcut
    cases kq with
    | zero => exact absurd HA.out (by simp [laws_FnPsalmMore.j1])
    | succ kj20 =>
     have H := HA.out
     clear HA
     simp only [laws_FnPsalmMore.j1] at H
     by_cases c26 : x57_20 = true
     ·subst c26
      have H1 : (some t536) = some r := by rw [if_pos rfl] at H; exact H
      clear H
      have H := H1
      clear H1
      obtain rfl := Option.some.inj H
      go_wp2
      go_ret
      exact ⟨by first | rfl | (simp [errW_none, errW_some] <;> rfl) | (simp [*, errW_none, errW_some] <;> rfl), by repeat (first | (with_reducible first | exact HB.out | apply below_alloc | apply pw_below_drewN | apply below_drew1 | refine below_set ?_ GE531.out) | exact HB.out)⟩
     replace c26 := Bool.eq_false_iff.mpr c26
     subst c26
     have H1 : ((impl_PsalmSing.f kj20 t519 t522 t523 t524 t527 t530).bind fun bt538 => ((impl_PsalmSing.f kj20 t519 t522 t523 t524 t527 ((t534 ++ (⟨#[124, 120]⟩ : ByteArray)) ++ t535)).bind fun bt542 => ((some (([] : List (S25)) : List (S25))).bind fun y546 => (if 0 ≤ (wrap64 ((wrap64 ((t534.size : Int) + (t535.size : Int))) - (t527.length : Int))) then (if (wrap64 ((wrap64 ((t534.size : Int) + (t535.size : Int))) - (t527.length : Int))) ≤ (bt538.1.length : Int) then ((some (bt538.1.take ((wrap64 ((wrap64 ((t534.size : Int) + (t535.size : Int))) - (t527.length : Int))) : Int).toNat : List (S25))).bind fun y549 => (if y546.length + y549.length < 8796093022208 then ((some (y546 ++ y549 : List (S25))).bind fun y553 => ((some (([(⟨t522, t523⟩ : S25)] : List (S25)) : List (S25))).bind fun y556 => (if y553.length + y556.length < 8796093022208 then ((some (y553 ++ y556 : List (S25))).bind fun y559 => ((some (bt538.1.drop ((wrap64 ((wrap64 ((t534.size : Int) + (t535.size : Int))) - (t527.length : Int))) : Int).toNat : List (S25))).bind fun y562 => (if y559.length + y562.length < 8796093022208 then (if bt538.2 = true then (if bt542.2 = true then ((impl_PsalmTenors.f kj20 t519 t522 t523 t524 t527 ((t534 ++ (⟨#[124, 120]⟩ : ByteArray)) ++ t535)).bind fun t569 => (if t569 = (wrap64 (t532 + 1)) then ((laws_sameTones.f kj20 bt542.1 (y559 ++ y562)).bind fun t570 => (some t570)) else (none))) else (none)) else (none)) else (none)))) else (none)))) else (none))) else (none)) else (none))))) = some r := by rw [if_neg (show ¬ (false = true) by decide)] at H; exact H
     clear H
     have H := H1
     clear H1
     replace H := Option.bind_eq_some_iff.mp H
     obtain ⟨⟨t538, t541⟩, A270, H⟩ := H
     replace H : ((impl_PsalmSing.f kj20 t519 t522 t523 t524 t527 ((t534 ++ (⟨#[124, 120]⟩ : ByteArray)) ++ t535)).bind fun bt542 => ((some (([] : List (S25)) : List (S25))).bind fun y546 => (if 0 ≤ (wrap64 ((wrap64 ((t534.size : Int) + (t535.size : Int))) - (t527.length : Int))) then (if (wrap64 ((wrap64 ((t534.size : Int) + (t535.size : Int))) - (t527.length : Int))) ≤ (t538.length : Int) then ((some (t538.take ((wrap64 ((wrap64 ((t534.size : Int) + (t535.size : Int))) - (t527.length : Int))) : Int).toNat : List (S25))).bind fun y549 => (if y546.length + y549.length < 8796093022208 then ((some (y546 ++ y549 : List (S25))).bind fun y553 => ((some (([(⟨t522, t523⟩ : S25)] : List (S25)) : List (S25))).bind fun y556 => (if y553.length + y556.length < 8796093022208 then ((some (y553 ++ y556 : List (S25))).bind fun y559 => ((some (t538.drop ((wrap64 ((wrap64 ((t534.size : Int) + (t535.size : Int))) - (t527.length : Int))) : Int).toNat : List (S25))).bind fun y562 => (if y559.length + y562.length < 8796093022208 then (if t541 = true then (if bt542.2 = true then ((impl_PsalmTenors.f kj20 t519 t522 t523 t524 t527 ((t534 ++ (⟨#[124, 120]⟩ : ByteArray)) ++ t535)).bind fun t569 => (if t569 = (wrap64 (t532 + 1)) then ((laws_sameTones.f kj20 bt542.1 (y559 ++ y562)).bind fun t570 => (some t570)) else (none))) else (none)) else (none)) else (none)))) else (none)))) else (none))) else (none)) else (none)))) = some r := H
     have A27 := Aside0.mk A270
     clear A270
     replace H := Option.bind_eq_some_iff.mp H
     obtain ⟨⟨t542, t545⟩, A280, H⟩ := H
     replace H : ((some (([] : List (S25)) : List (S25))).bind fun y546 => (if 0 ≤ (wrap64 ((wrap64 ((t534.size : Int) + (t535.size : Int))) - (t527.length : Int))) then (if (wrap64 ((wrap64 ((t534.size : Int) + (t535.size : Int))) - (t527.length : Int))) ≤ (t538.length : Int) then ((some (t538.take ((wrap64 ((wrap64 ((t534.size : Int) + (t535.size : Int))) - (t527.length : Int))) : Int).toNat : List (S25))).bind fun y549 => (if y546.length + y549.length < 8796093022208 then ((some (y546 ++ y549 : List (S25))).bind fun y553 => ((some (([(⟨t522, t523⟩ : S25)] : List (S25)) : List (S25))).bind fun y556 => (if y553.length + y556.length < 8796093022208 then ((some (y553 ++ y556 : List (S25))).bind fun y559 => ((some (t538.drop ((wrap64 ((wrap64 ((t534.size : Int) + (t535.size : Int))) - (t527.length : Int))) : Int).toNat : List (S25))).bind fun y562 => (if y559.length + y562.length < 8796093022208 then (if t541 = true then (if t545 = true then ((impl_PsalmTenors.f kj20 t519 t522 t523 t524 t527 ((t534 ++ (⟨#[124, 120]⟩ : ByteArray)) ++ t535)).bind fun t569 => (if t569 = (wrap64 (t532 + 1)) then ((laws_sameTones.f kj20 t542 (y559 ++ y562)).bind fun t570 => (some t570)) else (none))) else (none)) else (none)) else (none)))) else (none)))) else (none))) else (none)) else (none))) = some r := H
     have A28 := Aside0.mk A280
     clear A280
     obtain ⟨y546, hy546⟩ : ∃ y_ : List (S25), y_ = (([] : List (S25))) := ⟨_, rfl⟩
     replace H : (if 0 ≤ (wrap64 ((wrap64 ((t534.size : Int) + (t535.size : Int))) - (t527.length : Int))) then (if (wrap64 ((wrap64 ((t534.size : Int) + (t535.size : Int))) - (t527.length : Int))) ≤ (t538.length : Int) then ((some (t538.take ((wrap64 ((wrap64 ((t534.size : Int) + (t535.size : Int))) - (t527.length : Int))) : Int).toNat : List (S25))).bind fun y549 => (if y546.length + y549.length < 8796093022208 then ((some (y546 ++ y549 : List (S25))).bind fun y553 => ((some (([(⟨t522, t523⟩ : S25)] : List (S25)) : List (S25))).bind fun y556 => (if y553.length + y556.length < 8796093022208 then ((some (y553 ++ y556 : List (S25))).bind fun y559 => ((some (t538.drop ((wrap64 ((wrap64 ((t534.size : Int) + (t535.size : Int))) - (t527.length : Int))) : Int).toNat : List (S25))).bind fun y562 => (if y559.length + y562.length < 8796093022208 then (if t541 = true then (if t545 = true then ((impl_PsalmTenors.f kj20 t519 t522 t523 t524 t527 ((t534 ++ (⟨#[124, 120]⟩ : ByteArray)) ++ t535)).bind fun t569 => (if t569 = (wrap64 (t532 + 1)) then ((laws_sameTones.f kj20 t542 (y559 ++ y562)).bind fun t570 => (some t570)) else (none))) else (none)) else (none)) else (none)))) else (none)))) else (none))) else (none)) else (none)) = some r := by first | (rw [hy546]; with_reducible exact H) | (have H2_ := (Option.bind_some _ _).symm.trans H; rw [hy546]; with_reducible exact H2_) | (have H2_ := (Option.bind_some _ _).symm.trans H; with_reducible exact H2_) | with_reducible exact H | (rw [hy546]; exact H) | exact H
     have Ny546 := Aside0.mk hy546
     clear hy546
     obtain ⟨ji29, hji29⟩ : ∃ j_ : Int, (wrap64 ((wrap64 ((t534.size : Int) + (t535.size : Int))) - (t527.length : Int))) = j_ := ⟨_, rfl⟩
     replace H : (if 0 ≤ (ji29) then (if (ji29) ≤ (t538.length : Int) then ((some (t538.take ((ji29) : Int).toNat : List (S25))).bind fun y549 => (if y546.length + y549.length < 8796093022208 then ((some (y546 ++ y549 : List (S25))).bind fun y553 => ((some (([(⟨t522, t523⟩ : S25)] : List (S25)) : List (S25))).bind fun y556 => (if y553.length + y556.length < 8796093022208 then ((some (y553 ++ y556 : List (S25))).bind fun y559 => ((some (t538.drop ((ji29) : Int).toNat : List (S25))).bind fun y562 => (if y559.length + y562.length < 8796093022208 then (if t541 = true then (if t545 = true then ((impl_PsalmTenors.f kj20 t519 t522 t523 t524 t527 ((t534 ++ (⟨#[124, 120]⟩ : ByteArray)) ++ t535)).bind fun t569 => (if t569 = (wrap64 (t532 + 1)) then ((laws_sameTones.f kj20 t542 (y559 ++ y562)).bind fun t570 => (some t570)) else (none))) else (none)) else (none)) else (none)))) else (none)))) else (none))) else (none)) else (none)) = some r := by first | (rw [hji29] at H; exact H) | (simp only [hji29] at H ⊢; exact H)
     (try rw [hji29] at A27)
     (try rw [hji29] at A28)
     have hji29w : (IntKind.i64.wrap ((wrap64 ((t534.size : Int) + (t535.size : Int))) - (t527.length : Int))) = ji29 := (i64_w _).trans hji29
     by_cases c30 : 0 ≤ (ji29)
     rotate_left
     ·rw [if_neg c30] at H
      exact absurd H (by simp)
     rw [if_pos c30] at H
     have c30b0 := eq_true c30
     have c30b1 : decide (0 ≤ (ji29)) = true := decide_eq_true c30
     clear c30
     by_cases c31 : (ji29) ≤ (t538.length : Int)
     rotate_left
     ·rw [if_neg c31] at H
      exact absurd H (by simp)
     rw [if_pos c31] at H
     have c31b0 := eq_true c31
     have c31b1 : decide ((ji29) ≤ (t538.length : Int)) = true := decide_eq_true c31
     clear c31
     obtain ⟨y549, hy549⟩ : ∃ y_ : List (S25), y_ = (t538.take ((ji29) : Int).toNat) := ⟨_, rfl⟩
     replace H : (if y546.length + y549.length < 8796093022208 then ((some (y546 ++ y549 : List (S25))).bind fun y553 => ((some (([(⟨t522, t523⟩ : S25)] : List (S25)) : List (S25))).bind fun y556 => (if y553.length + y556.length < 8796093022208 then ((some (y553 ++ y556 : List (S25))).bind fun y559 => ((some (t538.drop ((ji29) : Int).toNat : List (S25))).bind fun y562 => (if y559.length + y562.length < 8796093022208 then (if t541 = true then (if t545 = true then ((impl_PsalmTenors.f kj20 t519 t522 t523 t524 t527 ((t534 ++ (⟨#[124, 120]⟩ : ByteArray)) ++ t535)).bind fun t569 => (if t569 = (wrap64 (t532 + 1)) then ((laws_sameTones.f kj20 t542 (y559 ++ y562)).bind fun t570 => (some t570)) else (none))) else (none)) else (none)) else (none)))) else (none)))) else (none)) = some r := by first | (rw [hy549]; with_reducible exact H) | (have H2_ := (Option.bind_some _ _).symm.trans H; rw [hy549]; with_reducible exact H2_) | (have H2_ := (Option.bind_some _ _).symm.trans H; with_reducible exact H2_) | with_reducible exact H | (rw [hy549]; exact H) | exact H
     have Ny549 := Aside0.mk hy549
     clear hy549
     by_cases c32 : y546.length + y549.length < 8796093022208
     rotate_left
     ·rw [if_neg c32] at H
      exact absurd H (by simp)
     rw [if_pos c32] at H
     have LMc32 := Aside0.mk c32
     clear c32
     obtain ⟨y553, hy553⟩ : ∃ y_ : List (S25), y_ = (y546 ++ y549) := ⟨_, rfl⟩
     replace H : ((some (([(⟨t522, t523⟩ : S25)] : List (S25)) : List (S25))).bind fun y556 => (if y553.length + y556.length < 8796093022208 then ((some (y553 ++ y556 : List (S25))).bind fun y559 => ((some (t538.drop ((ji29) : Int).toNat : List (S25))).bind fun y562 => (if y559.length + y562.length < 8796093022208 then (if t541 = true then (if t545 = true then ((impl_PsalmTenors.f kj20 t519 t522 t523 t524 t527 ((t534 ++ (⟨#[124, 120]⟩ : ByteArray)) ++ t535)).bind fun t569 => (if t569 = (wrap64 (t532 + 1)) then ((laws_sameTones.f kj20 t542 (y559 ++ y562)).bind fun t570 => (some t570)) else (none))) else (none)) else (none)) else (none)))) else (none))) = some r := by first | (rw [hy553]; with_reducible exact H) | (have H2_ := (Option.bind_some _ _).symm.trans H; rw [hy553]; with_reducible exact H2_) | (have H2_ := (Option.bind_some _ _).symm.trans H; with_reducible exact H2_) | with_reducible exact H | (rw [hy553]; exact H) | exact H
     have Ny553 := Aside0.mk hy553
     clear hy553
     obtain ⟨y556, hy556⟩ : ∃ y_ : List (S25), y_ = (([(⟨t522, t523⟩ : S25)] : List (S25))) := ⟨_, rfl⟩
     replace H : (if y553.length + y556.length < 8796093022208 then ((some (y553 ++ y556 : List (S25))).bind fun y559 => ((some (t538.drop ((ji29) : Int).toNat : List (S25))).bind fun y562 => (if y559.length + y562.length < 8796093022208 then (if t541 = true then (if t545 = true then ((impl_PsalmTenors.f kj20 t519 t522 t523 t524 t527 ((t534 ++ (⟨#[124, 120]⟩ : ByteArray)) ++ t535)).bind fun t569 => (if t569 = (wrap64 (t532 + 1)) then ((laws_sameTones.f kj20 t542 (y559 ++ y562)).bind fun t570 => (some t570)) else (none))) else (none)) else (none)) else (none)))) else (none)) = some r := by first | (rw [hy556]; with_reducible exact H) | (have H2_ := (Option.bind_some _ _).symm.trans H; rw [hy556]; with_reducible exact H2_) | (have H2_ := (Option.bind_some _ _).symm.trans H; with_reducible exact H2_) | with_reducible exact H | (rw [hy556]; exact H) | exact H
     have Ny556 := Aside0.mk hy556
     clear hy556
     by_cases c33 : y553.length + y556.length < 8796093022208
     rotate_left
     ·rw [if_neg c33] at H
      exact absurd H (by simp)
     rw [if_pos c33] at H
     have LMc33 := Aside0.mk c33
     clear c33
     obtain ⟨y559, hy559⟩ : ∃ y_ : List (S25), y_ = (y553 ++ y556) := ⟨_, rfl⟩
     replace H : ((some (t538.drop ((ji29) : Int).toNat : List (S25))).bind fun y562 => (if y559.length + y562.length < 8796093022208 then (if t541 = true then (if t545 = true then ((impl_PsalmTenors.f kj20 t519 t522 t523 t524 t527 ((t534 ++ (⟨#[124, 120]⟩ : ByteArray)) ++ t535)).bind fun t569 => (if t569 = (wrap64 (t532 + 1)) then ((laws_sameTones.f kj20 t542 (y559 ++ y562)).bind fun t570 => (some t570)) else (none))) else (none)) else (none)) else (none))) = some r := by first | (rw [hy559]; with_reducible exact H) | (have H2_ := (Option.bind_some _ _).symm.trans H; rw [hy559]; with_reducible exact H2_) | (have H2_ := (Option.bind_some _ _).symm.trans H; with_reducible exact H2_) | with_reducible exact H | (rw [hy559]; exact H) | exact H
     have Ny559 := Aside0.mk hy559
     clear hy559
     have c34b0 := eq_true (of_decide_eq_true (by first | (with_reducible assumption) | assumption) : 0 ≤ (ji29))
     have c35b0 := eq_true (of_decide_eq_true (by first | (with_reducible assumption) | assumption) : (ji29) ≤ (t538.length : Int))
     obtain ⟨y562, hy562⟩ : ∃ y_ : List (S25), y_ = (t538.drop ((ji29) : Int).toNat) := ⟨_, rfl⟩
     replace H : (if y559.length + y562.length < 8796093022208 then (if t541 = true then (if t545 = true then ((impl_PsalmTenors.f kj20 t519 t522 t523 t524 t527 ((t534 ++ (⟨#[124, 120]⟩ : ByteArray)) ++ t535)).bind fun t569 => (if t569 = (wrap64 (t532 + 1)) then ((laws_sameTones.f kj20 t542 (y559 ++ y562)).bind fun t570 => (some t570)) else (none))) else (none)) else (none)) else (none)) = some r := by first | (rw [hy562]; with_reducible exact H) | (have H2_ := (Option.bind_some _ _).symm.trans H; rw [hy562]; with_reducible exact H2_) | (have H2_ := (Option.bind_some _ _).symm.trans H; with_reducible exact H2_) | with_reducible exact H | (rw [hy562]; exact H) | exact H
     have Ny562 := Aside0.mk hy562
     clear hy562
     by_cases c36 : y559.length + y562.length < 8796093022208
     rotate_left
     ·rw [if_neg c36] at H
      exact absurd H (by simp)
     rw [if_pos c36] at H
     have LMc36 := Aside0.mk c36
     clear c36
     obtain ⟨y566, hy566⟩ : ∃ y_ : List (S25), y_ = (y559 ++ y562) := ⟨_, rfl⟩
     replace H : (if t541 = true then (if t545 = true then ((impl_PsalmTenors.f kj20 t519 t522 t523 t524 t527 ((t534 ++ (⟨#[124, 120]⟩ : ByteArray)) ++ t535)).bind fun t569 => (if t569 = (wrap64 (t532 + 1)) then ((laws_sameTones.f kj20 t542 y566).bind fun t570 => (some t570)) else (none))) else (none)) else (none)) = some r := by first | (rw [hy566]; with_reducible exact H) | (have H2_ := (Option.bind_some _ _).symm.trans H; rw [hy566]; with_reducible exact H2_) | (have H2_ := (Option.bind_some _ _).symm.trans H; with_reducible exact H2_) | with_reducible exact H | (rw [hy566]; exact H) | exact H
     have Ny566 := Aside0.mk hy566
     clear hy566
     by_cases c37 : t541 = true
     rotate_left
     ·replace c37 := Bool.eq_false_iff.mpr c37
      subst c37
      have H1 : (none) = some r := by rw [if_neg (show ¬ (false = true) by decide)] at H; exact H
      clear H
      have H := H1
      clear H1
      exact absurd H (by simp)
     subst c37
     have H1 : (if t545 = true then ((impl_PsalmTenors.f kj20 t519 t522 t523 t524 t527 ((t534 ++ (⟨#[124, 120]⟩ : ByteArray)) ++ t535)).bind fun t569 => (if t569 = (wrap64 (t532 + 1)) then ((laws_sameTones.f kj20 t542 y566).bind fun t570 => (some t570)) else (none))) else (none)) = some r := by rw [if_pos rfl] at H; exact H
     clear H
     have H := H1
     clear H1
     by_cases c38 : t545 = true
     rotate_left
     ·replace c38 := Bool.eq_false_iff.mpr c38
      subst c38
      have H1 : (none) = some r := by rw [if_neg (show ¬ (false = true) by decide)] at H; exact H
      clear H
      have H := H1
      clear H1
      exact absurd H (by simp)
     subst c38
     have H1 : ((impl_PsalmTenors.f kj20 t519 t522 t523 t524 t527 ((t534 ++ (⟨#[124, 120]⟩ : ByteArray)) ++ t535)).bind fun t569 => (if t569 = (wrap64 (t532 + 1)) then ((laws_sameTones.f kj20 t542 y566).bind fun t570 => (some t570)) else (none))) = some r := by rw [if_pos rfl] at H; exact H
     clear H
     have H := H1
     clear H1
     replace H := Option.bind_eq_some_iff.mp H
     obtain ⟨t569, A390, H⟩ := H
     replace H : (if t569 = (wrap64 (t532 + 1)) then ((laws_sameTones.f kj20 t542 y566).bind fun t570 => (some t570)) else (none)) = some r := H
     have A39 := Aside0.mk A390
     clear A390
     by_cases c40 : t569 = (wrap64 (t532 + 1))
     rotate_left
     ·rw [if_neg c40] at H
      exact absurd H (by simp)
     rw [if_pos c40] at H
     have c40b0 : (t569 == (wrap64 (t532 + 1))) = true := beq_iff_eq.mpr c40
     have c40b1 : (t569 != (wrap64 (t532 + 1))) = false := bne_eq_false_iff_eq.mpr c40
     clear c40
     replace H := Option.bind_eq_some_iff.mp H
     obtain ⟨t570, A410, H⟩ := H
     replace H : (some t570) = some r := H
     have A41 := Aside0.mk A410
     clear A410
     obtain rfl := Option.some.inj H
     have hcz42_0 : wc.cell? ⟨gb531, 0, none⟩ = some (.slice Ao9 t519.length co9) := (blk_cell BK531.out 0).trans rfl
     have hcz42_1 : wc.cell? ⟨gb531, 1, none⟩ = some (.int .i64 t522) := (blk_cell BK531.out 1).trans rfl
     have hcz42_2 : wc.cell? ⟨gb531, 2, none⟩ = some (.bool t523) := (blk_cell BK531.out 2).trans rfl
     have hcz42_3 : wc.cell? ⟨gb531, 3, none⟩ = some (.slice Ao11 t524.length co11) := (blk_cell BK531.out 3).trans rfl
     have hcz42_4 : wc.cell? ⟨gb531, 4, none⟩ = some (.slice Ao12 t527.length co12) := (blk_cell BK531.out 4).trans rfl
     have hfz42_0 := blk_frozen BK531.out 0
     have hfz42_1 := blk_frozen BK531.out 1
     have hfz42_2 := blk_frozen BK531.out 2
     have hfz42_3 := blk_frozen BK531.out 3
     have hfz42_4 := blk_frozen BK531.out 4
     try go_wp2_with (first | ((with_reducible refine gate_callee (f := 19) rfl ?_); refine goesL_ (some 62) rfl rfl Tryd.func19 (by kernel_rfl) rfl #[.agg #[.slice Ao9 t519.length co9, .int .i64 t522, .bool t523, .slice Ao11 t524.length co11, .slice Ao12 t527.length co12], .string t530] rfl (by (try simp only [List.map_toArray, List.map_cons, List.map_nil]); first | done | rfl | (simp only [List.length_drop, List.length_take]; rfl)) ?_; (with_reducible refine (impl_PsalmSing.calls kj20 _ _ t519 t522 t523 _ _ t524 _ _ t527 t530 t538 true _ ?side1 ?side2 ?side3 ?side4 ?side5 ?side6 ?side7 A27.out).mono ?_); (case side1 => repeat (first | exact (Kd.R_reads' HO_532000.out).2.2 | (with_reducible refine Kd.C_alloc ?_ _) | (with_reducible refine Kd.C_drewN ?_ _) | (with_reducible refine Kd.C_drew ?_))); (case side2 => exact (Kd.R_reads' HO_532000.out).2.1); (case side3 => repeat (first | exact (Kd.R_reads' HO_532003.out).2.2 | (with_reducible refine Kd.C_alloc ?_ _) | (with_reducible refine Kd.C_drewN ?_ _) | (with_reducible refine Kd.C_drew ?_))); (case side4 => exact (Kd.R_reads' HO_532003.out).2.1); (case side5 => repeat (first | exact (Kd.R_reads' HO_532004.out).2.2 | (with_reducible refine Kd.C_alloc ?_ _) | (with_reducible refine Kd.C_drewN ?_ _) | (with_reducible refine Kd.C_drew ?_))); (case side6 => exact (Kd.R_reads' HO_532004.out).2.1); (case side7 => exact GOk.sub (GOk.below HG.out (by repeat (first | (with_reducible first | exact HB.out | apply below_alloc | apply pw_below_drewN | apply below_drew1 | refine below_set ?_ GE531.out) | exact HB.out))) (by decide)); rintro e w43 ⟨v539, rfl, ho0, hb⟩; refine ⟨_, rfl, ?_⟩; have n0_ := Aside0.mk (Kd.R_elder' (by (with_reducible repeat (first | apply Kd.R_alloc | apply Kd.R_drewN | apply Kd.R_drew)); exact HO_532000.out) (Kd.R_base ho0) hb); have n1_ := Aside0.mk (Kd.R_elder' (by (with_reducible repeat (first | apply Kd.R_alloc | apply Kd.R_drewN | apply Kd.R_drew)); exact HO_532003.out) (Kd.R_base ho0) hb); have n2_ := Aside0.mk (Kd.R_elder' (by (with_reducible repeat (first | apply Kd.R_alloc | apply Kd.R_drewN | apply Kd.R_drew)); exact HO_532004.out) (Kd.R_base ho0) hb); have n3_ := Aside0.mk (Kd.R_lower (Kd.R_new' (Kd.R_new' (Kd.R_new' ho0 (Kd.R_lt (by (with_reducible repeat (first | apply Kd.R_alloc | apply Kd.R_drewN | apply Kd.R_drew)); exact HO_532000.out))) (Kd.R_lt (by (with_reducible repeat (first | apply Kd.R_alloc | apply Kd.R_drewN | apply Kd.R_drew)); exact HO_532003.out))) (Kd.R_lt (by (with_reducible repeat (first | apply Kd.R_alloc | apply Kd.R_drewN | apply Kd.R_drew)); exact HO_532004.out))) (below_size (by repeat (first | (with_reducible first | exact HB.out | apply below_alloc | apply pw_below_drewN | apply below_drew1 | refine below_set ?_ GE531.out) | exact HB.out)))); have n4_ := Aside0.mk (blk_below (g := gb531) (o := .cells #[.slice Ao9 t519.length co9, .int .i64 t522, .bool t523, .slice Ao11 t524.length co11, .slice Ao12 t527.length co12] 27 (0, 0)) (by (with_reducible repeat (first | refine blk_drewN ?_ _ | refine blk_drew ?_ | refine blk_alloc ?_ _)); exact BK531.out) hb); have n5_ := Aside0.mk (below_step (by repeat (first | (with_reducible first | exact HB.out | apply below_alloc | apply pw_below_drewN | apply below_drew1 | refine below_set ?_ GE531.out) | exact HB.out)) hb); clear HO_532000; clear HO_532003; clear HO_532004; clear BK531; clear HB; have HO_532000 := n0_; have HO_532003 := n1_; have HO_532004 := n2_; have HO540 := n3_; have BK531 := n4_; have HB := n5_; clear n0_ n1_ n2_ n3_ n4_ n5_; (try clear hb); (try clear hb2); (try clear hk); (try clear hi); (try clear ho0); have hcz44_0 : w43.cell? ⟨gb531, 0, none⟩ = some (.slice Ao9 t519.length co9) := (blk_cell BK531.out 0).trans rfl; have hcz44_1 : w43.cell? ⟨gb531, 1, none⟩ = some (.int .i64 t522) := (blk_cell BK531.out 1).trans rfl; have hcz44_2 : w43.cell? ⟨gb531, 2, none⟩ = some (.bool t523) := (blk_cell BK531.out 2).trans rfl; have hcz44_3 : w43.cell? ⟨gb531, 3, none⟩ = some (.slice Ao11 t524.length co11) := (blk_cell BK531.out 3).trans rfl; have hcz44_4 : w43.cell? ⟨gb531, 4, none⟩ = some (.slice Ao12 t527.length co12) := (blk_cell BK531.out 4).trans rfl; have hfz44_0 := blk_frozen BK531.out 0; have hfz44_1 := blk_frozen BK531.out 1; have hfz44_2 := blk_frozen BK531.out 2; have hfz44_3 := blk_frozen BK531.out 3; have hfz44_4 := blk_frozen BK531.out 4) | ((with_reducible refine gate_callee (f := 19) rfl ?_); refine goesL_ (some 68) rfl rfl Tryd.func19 (by kernel_rfl) rfl #[.agg #[.slice Ao9 t519.length co9, .int .i64 t522, .bool t523, .slice Ao11 t524.length co11, .slice Ao12 t527.length co12], .string ((t534 ++ (⟨#[124, 120]⟩ : ByteArray)) ++ t535)] rfl (by (try simp only [List.map_toArray, List.map_cons, List.map_nil]); first | done | rfl | (simp only [List.length_drop, List.length_take]; rfl)) ?_; (with_reducible refine (impl_PsalmSing.calls kj20 _ _ t519 t522 t523 _ _ t524 _ _ t527 ((t534 ++ (⟨#[124, 120]⟩ : ByteArray)) ++ t535) t542 true _ ?side1 ?side2 ?side3 ?side4 ?side5 ?side6 ?side7 A28.out).mono ?_); (case side1 => repeat (first | exact (Kd.R_reads' HO_532000.out).2.2 | (with_reducible refine Kd.C_alloc ?_ _) | (with_reducible refine Kd.C_drewN ?_ _) | (with_reducible refine Kd.C_drew ?_))); (case side2 => exact (Kd.R_reads' HO_532000.out).2.1); (case side3 => repeat (first | exact (Kd.R_reads' HO_532003.out).2.2 | (with_reducible refine Kd.C_alloc ?_ _) | (with_reducible refine Kd.C_drewN ?_ _) | (with_reducible refine Kd.C_drew ?_))); (case side4 => exact (Kd.R_reads' HO_532003.out).2.1); (case side5 => repeat (first | exact (Kd.R_reads' HO_532004.out).2.2 | (with_reducible refine Kd.C_alloc ?_ _) | (with_reducible refine Kd.C_drewN ?_ _) | (with_reducible refine Kd.C_drew ?_))); (case side6 => exact (Kd.R_reads' HO_532004.out).2.1); (case side7 => exact GOk.sub (GOk.below HG.out (by repeat (first | (with_reducible first | exact HB.out | apply below_alloc | apply pw_below_drewN | apply below_drew1 | refine below_set ?_ GE531.out) | exact HB.out))) (by decide)); rintro e w45 ⟨v543, rfl, ho0, hb⟩; refine ⟨_, rfl, ?_⟩; have n0_ := Aside0.mk (Kd.R_elder' (by (with_reducible repeat (first | apply Kd.R_alloc | apply Kd.R_drewN | apply Kd.R_drew)); exact HO_532000.out) (Kd.R_base ho0) hb); have n1_ := Aside0.mk (Kd.R_elder' (by (with_reducible repeat (first | apply Kd.R_alloc | apply Kd.R_drewN | apply Kd.R_drew)); exact HO_532003.out) (Kd.R_base ho0) hb); have n2_ := Aside0.mk (Kd.R_elder' (by (with_reducible repeat (first | apply Kd.R_alloc | apply Kd.R_drewN | apply Kd.R_drew)); exact HO_532004.out) (Kd.R_base ho0) hb); have n3_ := Aside0.mk (Kd.R_elder' (by (with_reducible repeat (first | apply Kd.R_alloc | apply Kd.R_drewN | apply Kd.R_drew)); exact HO540.out) (Kd.R_base ho0) hb); have n4_ := Aside0.mk (Kd.R_lower (Kd.R_new' (Kd.R_new' (Kd.R_new' (Kd.R_new' ho0 (Kd.R_lt (by (with_reducible repeat (first | apply Kd.R_alloc | apply Kd.R_drewN | apply Kd.R_drew)); exact HO_532000.out))) (Kd.R_lt (by (with_reducible repeat (first | apply Kd.R_alloc | apply Kd.R_drewN | apply Kd.R_drew)); exact HO_532003.out))) (Kd.R_lt (by (with_reducible repeat (first | apply Kd.R_alloc | apply Kd.R_drewN | apply Kd.R_drew)); exact HO_532004.out))) (Kd.R_lt (by (with_reducible repeat (first | apply Kd.R_alloc | apply Kd.R_drewN | apply Kd.R_drew)); exact HO540.out))) (below_size (by repeat (first | (with_reducible first | exact HB.out | apply below_alloc | apply pw_below_drewN | apply below_drew1 | refine below_set ?_ GE531.out) | exact HB.out)))); have n5_ := Aside0.mk (blk_below (g := gb531) (o := .cells #[.slice Ao9 t519.length co9, .int .i64 t522, .bool t523, .slice Ao11 t524.length co11, .slice Ao12 t527.length co12] 27 (0, 0)) (by (with_reducible repeat (first | refine blk_drewN ?_ _ | refine blk_drew ?_ | refine blk_alloc ?_ _)); exact BK531.out) hb); have n6_ := Aside0.mk (below_step (by repeat (first | (with_reducible first | exact HB.out | apply below_alloc | apply pw_below_drewN | apply below_drew1 | refine below_set ?_ GE531.out) | exact HB.out)) hb); clear HO_532000; clear HO_532003; clear HO_532004; clear HO540; clear BK531; clear HB; have HO_532000 := n0_; have HO_532003 := n1_; have HO_532004 := n2_; have HO540 := n3_; have HO544 := n4_; have BK531 := n5_; have HB := n6_; clear n0_ n1_ n2_ n3_ n4_ n5_ n6_; (try clear hb); (try clear hb2); (try clear hk); (try clear hi); (try clear ho0); have hcz46_0 : w45.cell? ⟨gb531, 0, none⟩ = some (.slice Ao9 t519.length co9) := (blk_cell BK531.out 0).trans rfl; have hcz46_1 : w45.cell? ⟨gb531, 1, none⟩ = some (.int .i64 t522) := (blk_cell BK531.out 1).trans rfl; have hcz46_2 : w45.cell? ⟨gb531, 2, none⟩ = some (.bool t523) := (blk_cell BK531.out 2).trans rfl; have hcz46_3 : w45.cell? ⟨gb531, 3, none⟩ = some (.slice Ao11 t524.length co11) := (blk_cell BK531.out 3).trans rfl; have hcz46_4 : w45.cell? ⟨gb531, 4, none⟩ = some (.slice Ao12 t527.length co12) := (blk_cell BK531.out 4).trans rfl; have hfz46_0 := blk_frozen BK531.out 0; have hfz46_1 := blk_frozen BK531.out 1; have hfz46_2 := blk_frozen BK531.out 2; have hfz46_3 := blk_frozen BK531.out 3; have hfz46_4 := blk_frozen BK531.out 4))
     have n0_ := Aside0.mk (Kd.R_drew HO_532000.out)
     have n1_ := Aside0.mk (Kd.R_drew HO_532003.out)
     have n2_ := Aside0.mk (Kd.R_drew HO_532004.out)
     have n3_ := Aside0.mk (Kd.R_drew HO540.out)
     have n4_ := Aside0.mk (Kd.R_drew HO544.out)
     have n5_ := Aside0.mk (blk_drew BK531.out)
     have n6_ := Aside0.mk (below_drew1 HB.out)
     clear HO_532000
     clear HO_532003
     clear HO_532004
     clear HO540
     clear HO544
     clear BK531
     clear HB
     have HO_532000 := n0_
     have HO_532003 := n1_
     have HO_532004 := n2_
     have HO540 := n3_
     have HO544 := n4_
     have BK531 := n5_
     have HB := n6_
     clear n0_ n1_ n2_ n3_ n4_ n5_ n6_
     obtain ⟨Ao49, co49, eo49⟩ := Kd.R_slice HO540.out
     (first | subst eo49 | (injection eo49 with f1_ f2_ f3_; have f4_ := f1_.symm; have f5_ := f3_.symm; clear f1_ f2_ f3_; subst f4_; subst f5_))
     have q48 : ((ji29) : Int) ≤ ((t538.length : Int) : Int) := of_decide_eq_true (by first | (with_reducible assumption) | assumption)
     obtain ⟨i048, hi048, _, hsz48, _⟩ := info_parts info25
     have hroom48 : t538.length ≤ co49 := (Kd.R_reads' HO540.out).2.1
     have hC48 : Kd.C k25 _ Ao49 t538.length t538 := (Kd.R_reads' HO540.out).2.2
     have hcut48 := cut_to (P := Tryd.prog) 23 25 .i64 Tryd.underlying23 hi048 Ao49 t538.length co49 (ji29) (of_decide_eq_true (by first | (with_reducible assumption) | assumption)) q48 hroom48
     have hr48 := Kd.C_take (m := ((ji29) : Int).toNat) hC48 (by omega)
     have hy48 : y549.length = ((ji29) : Int).toNat := (by rw [Ny549.out, List.length_take]; omega)
     rw [← Ny549.out] at hr48
     rw [← hy48] at hcut48
     have HR552 := Aside0.mk hr48
     have HC552 := Aside0.mk (show y549.length ≤ co49 from by omega)
     clear hr48 hC48 hroom48 hi048 hsz48
     have KY48 := Aside0.mk hy48
     clear hy48
     have KL48 := Aside0.mk (show ((ji29) : Int).toNat ≤ t538.length from by omega)
     replace q48 := eq_true q48
     refine start_ (n := 10) (S := fun w' => w'.cell? ⟨gb531, 0, none⟩ = some (.slice Ao9 t519.length co9) ∧ w'.cell? ⟨gb531, 1, none⟩ = some (.int .i64 t522) ∧ w'.cell? ⟨gb531, 2, none⟩ = some (.bool t523) ∧ w'.cell? ⟨gb531, 3, none⟩ = some (.slice Ao11 t524.length co11) ∧ w'.cell? ⟨gb531, 4, none⟩ = some (.slice Ao12 t527.length co12)) (ds := []) #[false, false, false, false, false, false, false, false, false, false] (by kernel_rfl) rfl rfl ⟨(blk_cell BK531.out 0).trans rfl, (blk_cell BK531.out 1).trans rfl, (blk_cell BK531.out 2).trans rfl, (blk_cell BK531.out 3).trans rfl, (blk_cell BK531.out 4).trans rfl⟩ (fun hHeld => ?_); refine with_tabW laws_FnPsalmMore.tab15 laws_FnPsalmMore.bits15 (fun HT_ HW_ => ?_)
     generalize w45.drew = w47 at HO_532000 HO_532003 HO_532004 HO540 HO544 BK531 HB HR552 hHeld ⊢
     refine pure_ (i := 1) (N := some 81) (v := ?_) (a' := ?_) #[false, true, false, false, false, false, false, false, false, false] rfl rfl (any_of HT_.out (by kernel_rfl)) (fun _ _ _ h => h) (Or.inl ⟨by rfl, ?_⟩) ?_ ?_
     rotate_left
     ·intro w'
      go_simp
      with_reducible rfl
     rotate_left
     ·simp only [Act.put, List.setIfInBounds_toArray, List.set_cons_zero, List.set_cons_succ, i64_w, i32_w]
      rfl
     refine pure_ (i := 2) (N := some 82) (v := ?_) (a' := ?_) #[false, true, true, false, false, false, false, false, false, false] rfl rfl (any_of HT_.out (by kernel_rfl)) (fun _ _ _ h => h) (Or.inl ⟨by rfl, ?_⟩) ?_ ?_
     rotate_left
     ·intro w'
      go_simp
      with_reducible rfl
     rotate_left
     ·simp only [Act.put, List.setIfInBounds_toArray, List.set_cons_zero, List.set_cons_succ, i64_w, i32_w]
      rfl
     refine pure_ (i := 3) (N := some 83) (v := ?_) (a' := ?_) #[false, true, true, true, false, false, false, false, false, false] rfl rfl (any_of HT_.out (by kernel_rfl)) (fun _ _ _ h => h) (Or.inl ⟨by rfl, ?_⟩) ?_ ?_
     rotate_left
     ·intro w'
      go_simp
      with_reducible rfl
     rotate_left
     ·simp only [Act.put, List.setIfInBounds_toArray, List.set_cons_zero, List.set_cons_succ, i64_w, i32_w]
      rfl
     refine pure_ (i := 5) (N := some 85) (v := ?_) (a' := ?_) #[false, true, true, true, false, true, false, false, false, false] rfl rfl (any_of HT_.out (by kernel_rfl)) (fun _ _ _ h => h) (Or.inl ⟨by rfl, ?_⟩) ?_ ?_
     rotate_left
     ·intro w'
      go_simp
      with_reducible rfl
     rotate_left
     ·simp only [Act.put, List.setIfInBounds_toArray, List.set_cons_zero, List.set_cons_succ, i64_w, i32_w]
      rfl
     refine take_ (i := 6) (N := some 86) (v := ?_) (a' := ?_) #[false, true, true, true, false, true, true, false, false, false] rfl rfl (take_ofW HT_.out HW_.out (by kernel_rfl)) (fun _ _ _ h => h) (Or.inl ⟨by rfl, ?_⟩) hHeld ?_ ?_
     rotate_left
     ·rintro w' ⟨s0, s1, s2, s3, s4⟩
      go_simp
      with_reducible rfl
     rotate_left
     ·simp only [Act.put, List.setIfInBounds_toArray, List.set_cons_zero, List.set_cons_succ, i64_w, i32_w]
      rfl
     refine join_ (σ := Value × Value × Value) 2 #[true, true, true, true, true, true, true, true, false, false] (fun s_ => [(80, s_.1), (84, s_.2.1), (87, s_.2.2)]) (fun s_ w' => (w'.cell? ⟨gb531, 0, none⟩ = some (.slice Ao9 t519.length co9) ∧ w'.cell? ⟨gb531, 1, none⟩ = some (.int .i64 t522) ∧ w'.cell? ⟨gb531, 2, none⟩ = some (.bool t523) ∧ w'.cell? ⟨gb531, 3, none⟩ = some (.slice Ao11 t524.length co11) ∧ w'.cell? ⟨gb531, 4, none⟩ = some (.slice Ao12 t527.length co12)) ∧ (Kd.R k25 25 w' w.heap.size (fun k_ => some k_ ≠ (v543 : Value).ownBlock ∧ some k_ ≠ (s_.2.1 : Value).ownBlock ∧ some k_ ≠ (s_.2.2 : Value).ownBlock ∧ some k_ ≠ (.slice Ao9 t519.length co9 : Value).ownBlock ∧ some k_ ≠ (.slice Ao11 t524.length co11 : Value).ownBlock ∧ some k_ ≠ (.slice Ao12 t527.length co12 : Value).ownBlock) (.slice Ao49 t538.length co49) t538) ∧ (Kd.R k25 25 w' w.heap.size (fun k_ => some k_ ≠ (.slice Ao49 t538.length co49 : Value).ownBlock ∧ some k_ ≠ (s_.2.1 : Value).ownBlock ∧ some k_ ≠ (s_.2.2 : Value).ownBlock ∧ some k_ ≠ (.slice Ao9 t519.length co9 : Value).ownBlock ∧ some k_ ≠ (.slice Ao11 t524.length co11 : Value).ownBlock ∧ some k_ ≠ (.slice Ao12 t527.length co12 : Value).ownBlock) v543 t542) ∧ (Kd.R k25 25 w' w.heap.size (fun k_ => some k_ ≠ (.slice Ao49 t538.length co49 : Value).ownBlock ∧ some k_ ≠ (v543 : Value).ownBlock ∧ some k_ ≠ (s_.2.2 : Value).ownBlock ∧ some k_ ≠ (.slice Ao9 t519.length co9 : Value).ownBlock ∧ some k_ ≠ (.slice Ao11 t524.length co11 : Value).ownBlock ∧ some k_ ≠ (.slice Ao12 t527.length co12 : Value).ownBlock) s_.2.1 y553) ∧ (Kd.R k25 25 w' w.heap.size (fun k_ => some k_ ≠ (.slice Ao49 t538.length co49 : Value).ownBlock ∧ some k_ ≠ (v543 : Value).ownBlock ∧ some k_ ≠ (s_.2.1 : Value).ownBlock ∧ some k_ ≠ (.slice Ao9 t519.length co9 : Value).ownBlock ∧ some k_ ≠ (.slice Ao11 t524.length co11 : Value).ownBlock ∧ some k_ ≠ (.slice Ao12 t527.length co12 : Value).ownBlock) s_.2.2 y556) ∧ (Kd.R k25 25 w' w.heap.size (fun k_ => some k_ ≠ (.slice Ao49 t538.length co49 : Value).ownBlock ∧ some k_ ≠ (v543 : Value).ownBlock ∧ some k_ ≠ (s_.2.1 : Value).ownBlock ∧ some k_ ≠ (s_.2.2 : Value).ownBlock ∧ some k_ ≠ (.slice Ao11 t524.length co11 : Value).ownBlock ∧ some k_ ≠ (.slice Ao12 t527.length co12 : Value).ownBlock) (.slice Ao9 t519.length co9) t519) ∧ (Kd.R k25 25 w' w.heap.size (fun k_ => some k_ ≠ (.slice Ao49 t538.length co49 : Value).ownBlock ∧ some k_ ≠ (v543 : Value).ownBlock ∧ some k_ ≠ (s_.2.1 : Value).ownBlock ∧ some k_ ≠ (s_.2.2 : Value).ownBlock ∧ some k_ ≠ (.slice Ao9 t519.length co9 : Value).ownBlock ∧ some k_ ≠ (.slice Ao12 t527.length co12 : Value).ownBlock) (.slice Ao11 t524.length co11) t524) ∧ (Kd.R k25 25 w' w.heap.size (fun k_ => some k_ ≠ (.slice Ao49 t538.length co49 : Value).ownBlock ∧ some k_ ≠ (v543 : Value).ownBlock ∧ some k_ ≠ (s_.2.1 : Value).ownBlock ∧ some k_ ≠ (s_.2.2 : Value).ownBlock ∧ some k_ ≠ (.slice Ao9 t519.length co9 : Value).ownBlock ∧ some k_ ≠ (.slice Ao11 t524.length co11 : Value).ownBlock) (.slice Ao12 t527.length co12) t527) ∧ (w'.heap[gb531]? = some (.cells #[.slice Ao9 t519.length co9, .int .i64 t522, .bool t523, .slice Ao11 t524.length co11, .slice Ao12 t527.length co12] 27 (0, 0))) ∧ (Below w.heap.size w w')) ?_ ?_
     rotate_left
     ·intro hCont
      refine two_ (i := 0) (j := 7) (Ni := some 80) (Nj := some 87) #[true, true, true, true, false, true, true, false, false, false] #[false, true, true, true, false, true, true, true, false, false] rfl rfl rfl rfl (two_of HT_.out (by kernel_rfl)) (by decide) (by decide) (fun K hK => ?_) (fun K hK => ?_)
      ·skip
       refine Kd.R_lit_step k25 _ 25 ?hg (N := 80) ?hd (xs := ([] : List (S25))) (inner := []) (ok := fun _ => True) (okp := fun _ => True) ?hr ?hp (fun _ hk => hk) trivial (Below.refl _ _) (Nat.le_refl _) (by simp) ?_; (case hd => rfl); (case hg => rfl); (case hr => first | (go_simp; done) | (go_simp; rfl)); (case hp => exact (Reps.none _ _))
       intro v547 w50 ho51 hb hg_ hnew_
       clear hg_ hnew_
       (first | rw [← Ny546.out] at ho51 | (simp only [Int.reduceToNat] at ho51; rw [← Ny546.out] at ho51))
       have n0_ := Aside0.mk (Kd.R_elder' (by (with_reducible repeat (first | apply Kd.R_alloc | apply Kd.R_drewN | apply Kd.R_drew)); exact HO_532000.out) (Kd.R_base ho51) hb)
       have n1_ := Aside0.mk (Kd.R_elder' (by (with_reducible repeat (first | apply Kd.R_alloc | apply Kd.R_drewN | apply Kd.R_drew)); exact HO_532003.out) (Kd.R_base ho51) hb)
       have n2_ := Aside0.mk (Kd.R_elder' (by (with_reducible repeat (first | apply Kd.R_alloc | apply Kd.R_drewN | apply Kd.R_drew)); exact HO_532004.out) (Kd.R_base ho51) hb)
       have n3_ := Aside0.mk (Kd.R_elder' (by (with_reducible repeat (first | apply Kd.R_alloc | apply Kd.R_drewN | apply Kd.R_drew)); exact HO540.out) (Kd.R_base ho51) hb)
       have n4_ := Aside0.mk (Kd.R_elder' (by (with_reducible repeat (first | apply Kd.R_alloc | apply Kd.R_drewN | apply Kd.R_drew)); exact HO544.out) (Kd.R_base ho51) hb)
       have n5_ := Aside0.mk (Kd.R_lower (Kd.R_new' (Kd.R_new' (Kd.R_new' (Kd.R_new' (Kd.R_new' ho51 (Kd.R_lt (by (with_reducible repeat (first | apply Kd.R_alloc | apply Kd.R_drewN | apply Kd.R_drew)); exact HO_532000.out))) (Kd.R_lt (by (with_reducible repeat (first | apply Kd.R_alloc | apply Kd.R_drewN | apply Kd.R_drew)); exact HO_532003.out))) (Kd.R_lt (by (with_reducible repeat (first | apply Kd.R_alloc | apply Kd.R_drewN | apply Kd.R_drew)); exact HO_532004.out))) (Kd.R_lt (by (with_reducible repeat (first | apply Kd.R_alloc | apply Kd.R_drewN | apply Kd.R_drew)); exact HO540.out))) (Kd.R_lt (by (with_reducible repeat (first | apply Kd.R_alloc | apply Kd.R_drewN | apply Kd.R_drew)); exact HO544.out))) (below_size (by repeat (first | (with_reducible first | exact HB.out | apply below_alloc | apply pw_below_drewN | apply below_drew1 | refine below_set ?_ GE531.out) | exact HB.out))))
       have n6_ := Aside0.mk (blk_below (g := gb531) (o := .cells #[.slice Ao9 t519.length co9, .int .i64 t522, .bool t523, .slice Ao11 t524.length co11, .slice Ao12 t527.length co12] 27 (0, 0)) (by (with_reducible repeat (first | refine blk_drewN ?_ _ | refine blk_drew ?_ | refine blk_alloc ?_ _)); exact BK531.out) hb)
       have n7_ := Aside0.mk (Kd.C_below (by repeat (first | (with_reducible exact HR552.out) | (with_reducible refine Kd.C_alloc ?_ _) | (with_reducible refine Kd.C_drewN ?_ _) | (with_reducible refine Kd.C_drew ?_) | exact HR552.out)) hb)
       have n8_ := Aside0.mk (below_step (by repeat (first | (with_reducible first | exact HB.out | apply below_alloc | apply pw_below_drewN | apply below_drew1 | refine below_set ?_ GE531.out) | exact HB.out)) hb)
       clear HO_532000
       clear HO_532003
       clear HO_532004
       clear HO540
       clear HO544
       clear BK531
       clear HR552
       clear HB
       have HO_532000 := n0_
       have HO_532003 := n1_
       have HO_532004 := n2_
       have HO540 := n3_
       have HO544 := n4_
       have HO548 := n5_
       have BK531 := n6_
       have HR552 := n7_
       have HB := n8_
       clear n0_ n1_ n2_ n3_ n4_ n5_ n6_ n7_ n8_
       clear hb ho51
       refine hK.out _ _ ⟨(blk_cell BK531.out 0).trans rfl, (blk_cell BK531.out 1).trans rfl, (blk_cell BK531.out 2).trans rfl, (blk_cell BK531.out 3).trans rfl, (blk_cell BK531.out 4).trans rfl⟩ (fun hHeld => ?_)
       clear hK K
       refine norm_ (a' := ?_) ?_ ?_
       rotate_left
       ·show Act.put _ (some 80) _ = _
        simp only [Act.put, List.setIfInBounds_toArray, List.set_cons_zero, List.set_cons_succ, i64_w, i32_w]
        rfl
       refine two_ (i := 4) (j := 7) (Ni := some 84) (Nj := some 87) #[true, true, true, true, true, true, true, false, false, false] #[true, true, true, true, false, true, true, true, false, false] rfl rfl rfl rfl (two_of HT_.out (by kernel_rfl)) (by decide) (by decide) (fun K hK => ?_) (fun K hK => ?_)
       ·skip
        refine Kd.R_append_rows_step k25 (w0 := w) w.heap.size (by rfl) (.tmp 80) (.tmp 83) 23 25 (.agg #[(.int .i64 0), (.bool false)]) 16 rfl Tryd.underlying23 info25 rfl (by decide) (by omega) v547 y546 y549 _ _ _ (fun k_ => some k_ ≠ (.slice Ao9 t519.length co9 : Value).ownBlock ∧ some k_ ≠ (.slice Ao11 t524.length co11 : Value).ownBlock ∧ some k_ ≠ (.slice Ao12 t527.length co12 : Value).ownBlock ∧ some k_ ≠ (.slice Ao49 t538.length co49 : Value).ownBlock ∧ some k_ ≠ (v543 : Value).ownBlock) (fun _ => False) rfl rfl ?aO ?aR (fun _ _ h => h) (fun _ h => h.elim) ?aF ?aB ?aS ?aL ?_
        (case aR => repeat (first | exact (by repeat (first | (with_reducible exact HR552.out) | (with_reducible refine Kd.C_alloc ?_ _) | (with_reducible refine Kd.C_drewN ?_ _) | (with_reducible refine Kd.C_drew ?_) | exact HR552.out)) | (with_reducible refine Kd.C_alloc ?_ _) | (with_reducible refine Kd.C_drewN ?_ _) | (with_reducible refine Kd.C_drew ?_)))
        (case aB => exact (by repeat (first | (with_reducible first | exact HB.out | apply below_alloc | apply pw_below_drewN | apply below_drew1 | refine below_set ?_ GE531.out) | exact HB.out)))
        (case aF => exact (fun k_ hk => ⟨Kd.fresh' (Kd.R_lt (by (with_reducible repeat (first | apply Kd.R_alloc | apply Kd.R_drewN | apply Kd.R_drew)); exact HO_532000.out)) k_ hk, Kd.fresh' (Kd.R_lt (by (with_reducible repeat (first | apply Kd.R_alloc | apply Kd.R_drewN | apply Kd.R_drew)); exact HO_532003.out)) k_ hk, Kd.fresh' (Kd.R_lt (by (with_reducible repeat (first | apply Kd.R_alloc | apply Kd.R_drewN | apply Kd.R_drew)); exact HO_532004.out)) k_ hk, Kd.fresh' (Kd.R_lt (by (with_reducible repeat (first | apply Kd.R_alloc | apply Kd.R_drewN | apply Kd.R_drew)); exact HO540.out)) k_ hk, Kd.fresh' (Kd.R_lt (by (with_reducible repeat (first | apply Kd.R_alloc | apply Kd.R_drewN | apply Kd.R_drew)); exact HO544.out)) k_ hk⟩))
        (case aO => exact (by (with_reducible repeat (first | apply Kd.R_alloc | apply Kd.R_drewN | apply Kd.R_drew)); exact Kd.R_mono HO548.out (fun _ hk => ⟨hk.1.1.1.1.2, ⟨hk.1.1.1.2, ⟨hk.1.1.2, ⟨hk.1.2, hk.2⟩⟩⟩⟩)))
        (case aS => exact (below_size (by repeat (first | (with_reducible first | exact HB.out | apply below_alloc | apply pw_below_drewN | apply below_drew1 | refine below_set ?_ GE531.out) | exact HB.out))))
        (case aL => have := LMc32.out; omega)
        intro v554 w52 ho hb hg hat
        rw [← Ny553.out] at ho
        have n0_ := Aside0.mk (Kd.R_after (ok := (fun k_ => some k_ ≠ (.slice Ao11 t524.length co11 : Value).ownBlock ∧ some k_ ≠ (.slice Ao12 t527.length co12 : Value).ownBlock ∧ some k_ ≠ (.slice Ao49 t538.length co49 : Value).ownBlock ∧ some k_ ≠ (v543 : Value).ownBlock)) (by (with_reducible repeat (first | apply Kd.R_alloc | apply Kd.R_drewN | apply Kd.R_drew)); exact Kd.R_mono HO_532000.out (fun _ hk => ⟨⟨hk.1.1.1.1, ⟨hk.1.1.1.2, ⟨hk.1.1.2, hk.1.2⟩⟩⟩, hk.2⟩)) hg hat)
        have n1_ := Aside0.mk (Kd.R_after (ok := (fun k_ => some k_ ≠ (.slice Ao9 t519.length co9 : Value).ownBlock ∧ some k_ ≠ (.slice Ao12 t527.length co12 : Value).ownBlock ∧ some k_ ≠ (.slice Ao49 t538.length co49 : Value).ownBlock ∧ some k_ ≠ (v543 : Value).ownBlock)) (by (with_reducible repeat (first | apply Kd.R_alloc | apply Kd.R_drewN | apply Kd.R_drew)); exact Kd.R_mono HO_532003.out (fun _ hk => ⟨⟨hk.1.1.1.1, ⟨hk.1.1.1.2, ⟨hk.1.1.2, hk.1.2⟩⟩⟩, hk.2⟩)) hg hat)
        have n2_ := Aside0.mk (Kd.R_after (ok := (fun k_ => some k_ ≠ (.slice Ao9 t519.length co9 : Value).ownBlock ∧ some k_ ≠ (.slice Ao11 t524.length co11 : Value).ownBlock ∧ some k_ ≠ (.slice Ao49 t538.length co49 : Value).ownBlock ∧ some k_ ≠ (v543 : Value).ownBlock)) (by (with_reducible repeat (first | apply Kd.R_alloc | apply Kd.R_drewN | apply Kd.R_drew)); exact Kd.R_mono HO_532004.out (fun _ hk => ⟨⟨hk.1.1.1.1, ⟨hk.1.1.1.2, ⟨hk.1.1.2, hk.1.2⟩⟩⟩, hk.2⟩)) hg hat)
        have n3_ := Aside0.mk (blk_grown (g := gb531) (o := .cells #[.slice Ao9 t519.length co9, .int .i64 t522, .bool t523, .slice Ao11 t524.length co11, .slice Ao12 t527.length co12] 27 (0, 0)) (by (with_reducible repeat (first | refine blk_drewN ?_ _ | refine blk_drew ?_ | refine blk_alloc ?_ _)); exact BK531.out) hg (Kd.R_ne HO548.out BK531.out (by decide)))
        have n4_ := Aside0.mk (Kd.R_after (ok := (fun k_ => some k_ ≠ (.slice Ao9 t519.length co9 : Value).ownBlock ∧ some k_ ≠ (.slice Ao11 t524.length co11 : Value).ownBlock ∧ some k_ ≠ (.slice Ao12 t527.length co12 : Value).ownBlock ∧ some k_ ≠ (v543 : Value).ownBlock)) (by (with_reducible repeat (first | apply Kd.R_alloc | apply Kd.R_drewN | apply Kd.R_drew)); exact Kd.R_mono HO540.out (fun _ hk => ⟨⟨hk.1.1.1.1.2, ⟨hk.1.1.1.2, ⟨hk.1.1.2, hk.1.2⟩⟩⟩, hk.2⟩)) hg hat)
        have n5_ := Aside0.mk (Kd.R_after (ok := (fun k_ => some k_ ≠ (.slice Ao9 t519.length co9 : Value).ownBlock ∧ some k_ ≠ (.slice Ao11 t524.length co11 : Value).ownBlock ∧ some k_ ≠ (.slice Ao12 t527.length co12 : Value).ownBlock ∧ some k_ ≠ (.slice Ao49 t538.length co49 : Value).ownBlock)) (by (with_reducible repeat (first | apply Kd.R_alloc | apply Kd.R_drewN | apply Kd.R_drew)); exact Kd.R_mono HO544.out (fun _ hk => ⟨⟨hk.1.1.1.1.2, ⟨hk.1.1.1.2, ⟨hk.1.1.2, hk.1.2⟩⟩⟩, hk.2⟩)) hg hat)
        have n6_ := Aside0.mk (hb)
        have n7_ := Aside0.mk ((show Kd.C k25 w52 Ao49 y549.length y549 from by rw [Ny549.out]; exact Kd.C_take (m := ((ji29) : Int).toNat) ((Kd.R_reads' (Kd.R_after (ok := (fun k_ => some k_ ≠ (.slice Ao9 t519.length co9 : Value).ownBlock ∧ some k_ ≠ (.slice Ao11 t524.length co11 : Value).ownBlock ∧ some k_ ≠ (.slice Ao12 t527.length co12 : Value).ownBlock ∧ some k_ ≠ (v543 : Value).ownBlock)) (by (with_reducible repeat (first | apply Kd.R_alloc | apply Kd.R_drewN | apply Kd.R_drew)); exact Kd.R_mono HO540.out (fun _ hk => ⟨⟨hk.1.1.1.1.2, ⟨hk.1.1.1.2, ⟨hk.1.1.2, hk.1.2⟩⟩⟩, hk.2⟩)) hg hat)).2.2) KL48.out))
        have n8_ := Aside0.mk (ho)
        clear HO_532000
        clear HO_532003
        clear HO_532004
        clear BK531
        clear HO540
        clear HO544
        clear HB
        clear HR552
        clear HO548
        have HO_532000 := n0_
        have HO_532003 := n1_
        have HO_532004 := n2_
        have BK531 := n3_
        have HO540 := n4_
        have HO544 := n5_
        have HB := n6_
        have HR552 := n7_
        have HO555 := n8_
        clear n0_ n1_ n2_ n3_ n4_ n5_ n6_ n7_ n8_
        clear ho hb hg hat
        refine hK.out _ _ ⟨(blk_cell BK531.out 0).trans rfl, (blk_cell BK531.out 1).trans rfl, (blk_cell BK531.out 2).trans rfl, (blk_cell BK531.out 3).trans rfl, (blk_cell BK531.out 4).trans rfl⟩ (fun hHeld => ?_)
        clear hK K
        refine norm_ (a' := ?_) ?_ ?_
        rotate_left
        ·show Act.put _ (some 84) _ = _
         simp only [Act.put, List.setIfInBounds_toArray, List.set_cons_zero, List.set_cons_succ, i64_w, i32_w]
         rfl
        refine one_ (i := 7) (N := some 87) #[true, true, true, true, true, true, true, true, false, false] rfl rfl (one_of HT_.out (by kernel_rfl)) (by decide) (fun K hK => ?_)
        refine Kd.R_lit_step k25 _ 25 ?hg (N := 87) ?hd (xs := ([(⟨t522, t523⟩ : S25)] : List (S25))) (inner := [.int .i64 t522, .bool t523]) (ok := fun _ => True) (okp := fun _ => True) ?hr ?hp (fun _ hk => hk) trivial (Below.refl _ _) (Nat.le_refl _) (by simp) ?_; (case hd => rfl); (case hg => rfl); (case hr => first | (go_simp; done) | (go_simp; rfl)); (case hp => exact (Reps.c2 (show Kd.M k25 _ _ _ (⟨t522, t523⟩ : S25) [.int .i64 t522, .bool t523] from (k25_mkM _ _ _ (⟨t522, t523⟩ : S25) )) (Reps.none _ _)))
        intro v557 w53 ho54 hb hg_ hnew_
        clear hg_ hnew_
        (first | rw [← Ny556.out] at ho54 | (simp only [Int.reduceToNat] at ho54; rw [← Ny556.out] at ho54))
        have n0_ := Aside0.mk (Kd.R_elder' (by (with_reducible repeat (first | apply Kd.R_alloc | apply Kd.R_drewN | apply Kd.R_drew)); exact HO_532000.out) (Kd.R_base ho54) hb)
        have n1_ := Aside0.mk (Kd.R_elder' (by (with_reducible repeat (first | apply Kd.R_alloc | apply Kd.R_drewN | apply Kd.R_drew)); exact HO_532003.out) (Kd.R_base ho54) hb)
        have n2_ := Aside0.mk (Kd.R_elder' (by (with_reducible repeat (first | apply Kd.R_alloc | apply Kd.R_drewN | apply Kd.R_drew)); exact HO_532004.out) (Kd.R_base ho54) hb)
        have n3_ := Aside0.mk (Kd.R_elder' (by (with_reducible repeat (first | apply Kd.R_alloc | apply Kd.R_drewN | apply Kd.R_drew)); exact HO540.out) (Kd.R_base ho54) hb)
        have n4_ := Aside0.mk (Kd.R_elder' (by (with_reducible repeat (first | apply Kd.R_alloc | apply Kd.R_drewN | apply Kd.R_drew)); exact HO544.out) (Kd.R_base ho54) hb)
        have n5_ := Aside0.mk (Kd.R_elder' (by (with_reducible repeat (first | apply Kd.R_alloc | apply Kd.R_drewN | apply Kd.R_drew)); exact HO555.out) (Kd.R_base ho54) hb)
        have n6_ := Aside0.mk (Kd.R_lower (Kd.R_new' (Kd.R_new' (Kd.R_new' (Kd.R_new' (Kd.R_new' (Kd.R_new' ho54 (Kd.R_lt (by (with_reducible repeat (first | apply Kd.R_alloc | apply Kd.R_drewN | apply Kd.R_drew)); exact HO_532000.out))) (Kd.R_lt (by (with_reducible repeat (first | apply Kd.R_alloc | apply Kd.R_drewN | apply Kd.R_drew)); exact HO_532003.out))) (Kd.R_lt (by (with_reducible repeat (first | apply Kd.R_alloc | apply Kd.R_drewN | apply Kd.R_drew)); exact HO_532004.out))) (Kd.R_lt (by (with_reducible repeat (first | apply Kd.R_alloc | apply Kd.R_drewN | apply Kd.R_drew)); exact HO540.out))) (Kd.R_lt (by (with_reducible repeat (first | apply Kd.R_alloc | apply Kd.R_drewN | apply Kd.R_drew)); exact HO544.out))) (Kd.R_lt (by (with_reducible repeat (first | apply Kd.R_alloc | apply Kd.R_drewN | apply Kd.R_drew)); exact HO555.out))) (below_size (by repeat (first | (with_reducible first | exact HB.out | apply below_alloc | apply pw_below_drewN | apply below_drew1 | refine below_set ?_ GE531.out) | exact HB.out))))
        have n7_ := Aside0.mk (blk_below (g := gb531) (o := .cells #[.slice Ao9 t519.length co9, .int .i64 t522, .bool t523, .slice Ao11 t524.length co11, .slice Ao12 t527.length co12] 27 (0, 0)) (by (with_reducible repeat (first | refine blk_drewN ?_ _ | refine blk_drew ?_ | refine blk_alloc ?_ _)); exact BK531.out) hb)
        have n8_ := Aside0.mk (Kd.C_below (by repeat (first | (with_reducible exact HR552.out) | (with_reducible refine Kd.C_alloc ?_ _) | (with_reducible refine Kd.C_drewN ?_ _) | (with_reducible refine Kd.C_drew ?_) | exact HR552.out)) hb)
        have n9_ := Aside0.mk (below_step (by repeat (first | (with_reducible first | exact HB.out | apply below_alloc | apply pw_below_drewN | apply below_drew1 | refine below_set ?_ GE531.out) | exact HB.out)) hb)
        clear HO_532000
        clear HO_532003
        clear HO_532004
        clear HO540
        clear HO544
        clear HO555
        clear BK531
        clear HR552
        clear HB
        have HO_532000 := n0_
        have HO_532003 := n1_
        have HO_532004 := n2_
        have HO540 := n3_
        have HO544 := n4_
        have HO555 := n5_
        have HO558 := n6_
        have BK531 := n7_
        have HR552 := n8_
        have HB := n9_
        clear n0_ n1_ n2_ n3_ n4_ n5_ n6_ n7_ n8_ n9_
        clear hb ho54
        refine hK.out _ _ ⟨(blk_cell BK531.out 0).trans rfl, (blk_cell BK531.out 1).trans rfl, (blk_cell BK531.out 2).trans rfl, (blk_cell BK531.out 3).trans rfl, (blk_cell BK531.out 4).trans rfl⟩ (fun hHeld => ?_)
        clear hK K
        refine norm_ (a' := ?_) ?_ ?_
        rotate_left
        ·show Act.put _ (some 87) _ = _
         simp only [Act.put, List.setIfInBounds_toArray, List.set_cons_zero, List.set_cons_succ, i64_w, i32_w]
         rfl
        exact norm_ (by simp only [putAll, Act.put, List.setIfInBounds_toArray, List.set_cons_zero, List.set_cons_succ]) (hCont (v547, v554, v557) _ ⟨hHeld, (by (with_reducible repeat (first | apply Kd.R_alloc | apply Kd.R_drewN | apply Kd.R_drew)); exact Kd.R_mono HO540.out (fun _ hk => ⟨hk.1.1.2.2.2, ⟨hk.1.2, ⟨hk.2, ⟨hk.1.1.1, ⟨hk.1.1.2.1, hk.1.1.2.2.1⟩⟩⟩⟩⟩)), (by (with_reducible repeat (first | apply Kd.R_alloc | apply Kd.R_drewN | apply Kd.R_drew)); exact Kd.R_mono HO544.out (fun _ hk => ⟨hk.1.1.2.2.2, ⟨hk.1.2, ⟨hk.2, ⟨hk.1.1.1, ⟨hk.1.1.2.1, hk.1.1.2.2.1⟩⟩⟩⟩⟩)), (by (with_reducible repeat (first | apply Kd.R_alloc | apply Kd.R_drewN | apply Kd.R_drew)); exact Kd.R_mono HO555.out (fun _ hk => ⟨hk.1.2.2.2.1, ⟨hk.1.2.2.2.2, ⟨hk.2, ⟨hk.1.1, ⟨hk.1.2.1, hk.1.2.2.1⟩⟩⟩⟩⟩)), (by (with_reducible repeat (first | apply Kd.R_alloc | apply Kd.R_drewN | apply Kd.R_drew)); exact Kd.R_mono HO558.out (fun _ hk => ⟨hk.1.1.2, ⟨hk.1.2, ⟨hk.2, ⟨hk.1.1.1.1.1.2, ⟨hk.1.1.1.1.2, hk.1.1.1.2⟩⟩⟩⟩⟩)), (by (with_reducible repeat (first | apply Kd.R_alloc | apply Kd.R_drewN | apply Kd.R_drew)); exact Kd.R_mono HO_532000.out (fun _ hk => ⟨hk.1.1.2.2.1, ⟨hk.1.1.2.2.2, ⟨hk.1.2, ⟨hk.2, ⟨hk.1.1.1, hk.1.1.2.1⟩⟩⟩⟩⟩)), (by (with_reducible repeat (first | apply Kd.R_alloc | apply Kd.R_drewN | apply Kd.R_drew)); exact Kd.R_mono HO_532003.out (fun _ hk => ⟨hk.1.1.2.2.1, ⟨hk.1.1.2.2.2, ⟨hk.1.2, ⟨hk.2, ⟨hk.1.1.1, hk.1.1.2.1⟩⟩⟩⟩⟩)), (by (with_reducible repeat (first | apply Kd.R_alloc | apply Kd.R_drewN | apply Kd.R_drew)); exact Kd.R_mono HO_532004.out (fun _ hk => ⟨hk.1.1.2.2.1, ⟨hk.1.1.2.2.2, ⟨hk.1.2, ⟨hk.2, ⟨hk.1.1.1, hk.1.1.2.1⟩⟩⟩⟩⟩)), (by (with_reducible repeat (first | refine blk_drewN ?_ _ | refine blk_drew ?_ | refine blk_alloc ?_ _)); exact BK531.out), (by repeat (first | (with_reducible first | exact HB.out | apply below_alloc | apply pw_below_drewN | apply below_drew1 | refine below_set ?_ GE531.out) | exact HB.out))⟩)
       ·skip
        refine Kd.R_lit_step k25 _ 25 ?hg (N := 87) ?hd (xs := ([(⟨t522, t523⟩ : S25)] : List (S25))) (inner := [.int .i64 t522, .bool t523]) (ok := fun _ => True) (okp := fun _ => True) ?hr ?hp (fun _ hk => hk) trivial (Below.refl _ _) (Nat.le_refl _) (by simp) ?_; (case hd => rfl); (case hg => rfl); (case hr => first | (go_simp; done) | (go_simp; rfl)); (case hp => exact (Reps.c2 (show Kd.M k25 _ _ _ (⟨t522, t523⟩ : S25) [.int .i64 t522, .bool t523] from (k25_mkM _ _ _ (⟨t522, t523⟩ : S25) )) (Reps.none _ _)))
        intro v557 w52 ho53 hb hg_ hnew_
        clear hg_ hnew_
        (first | rw [← Ny556.out] at ho53 | (simp only [Int.reduceToNat] at ho53; rw [← Ny556.out] at ho53))
        have n0_ := Aside0.mk (Kd.R_elder' (by (with_reducible repeat (first | apply Kd.R_alloc | apply Kd.R_drewN | apply Kd.R_drew)); exact HO_532000.out) (Kd.R_base ho53) hb)
        have n1_ := Aside0.mk (Kd.R_elder' (by (with_reducible repeat (first | apply Kd.R_alloc | apply Kd.R_drewN | apply Kd.R_drew)); exact HO_532003.out) (Kd.R_base ho53) hb)
        have n2_ := Aside0.mk (Kd.R_elder' (by (with_reducible repeat (first | apply Kd.R_alloc | apply Kd.R_drewN | apply Kd.R_drew)); exact HO_532004.out) (Kd.R_base ho53) hb)
        have n3_ := Aside0.mk (Kd.R_elder' (by (with_reducible repeat (first | apply Kd.R_alloc | apply Kd.R_drewN | apply Kd.R_drew)); exact HO540.out) (Kd.R_base ho53) hb)
        have n4_ := Aside0.mk (Kd.R_elder' (by (with_reducible repeat (first | apply Kd.R_alloc | apply Kd.R_drewN | apply Kd.R_drew)); exact HO544.out) (Kd.R_base ho53) hb)
        have n5_ := Aside0.mk (Kd.R_elder' (by (with_reducible repeat (first | apply Kd.R_alloc | apply Kd.R_drewN | apply Kd.R_drew)); exact HO548.out) (Kd.R_base ho53) hb)
        have n6_ := Aside0.mk (Kd.R_lower (Kd.R_new' (Kd.R_new' (Kd.R_new' (Kd.R_new' (Kd.R_new' (Kd.R_new' ho53 (Kd.R_lt (by (with_reducible repeat (first | apply Kd.R_alloc | apply Kd.R_drewN | apply Kd.R_drew)); exact HO_532000.out))) (Kd.R_lt (by (with_reducible repeat (first | apply Kd.R_alloc | apply Kd.R_drewN | apply Kd.R_drew)); exact HO_532003.out))) (Kd.R_lt (by (with_reducible repeat (first | apply Kd.R_alloc | apply Kd.R_drewN | apply Kd.R_drew)); exact HO_532004.out))) (Kd.R_lt (by (with_reducible repeat (first | apply Kd.R_alloc | apply Kd.R_drewN | apply Kd.R_drew)); exact HO540.out))) (Kd.R_lt (by (with_reducible repeat (first | apply Kd.R_alloc | apply Kd.R_drewN | apply Kd.R_drew)); exact HO544.out))) (Kd.R_lt (by (with_reducible repeat (first | apply Kd.R_alloc | apply Kd.R_drewN | apply Kd.R_drew)); exact HO548.out))) (below_size (by repeat (first | (with_reducible first | exact HB.out | apply below_alloc | apply pw_below_drewN | apply below_drew1 | refine below_set ?_ GE531.out) | exact HB.out))))
        have n7_ := Aside0.mk (blk_below (g := gb531) (o := .cells #[.slice Ao9 t519.length co9, .int .i64 t522, .bool t523, .slice Ao11 t524.length co11, .slice Ao12 t527.length co12] 27 (0, 0)) (by (with_reducible repeat (first | refine blk_drewN ?_ _ | refine blk_drew ?_ | refine blk_alloc ?_ _)); exact BK531.out) hb)
        have n8_ := Aside0.mk (Kd.C_below (by repeat (first | (with_reducible exact HR552.out) | (with_reducible refine Kd.C_alloc ?_ _) | (with_reducible refine Kd.C_drewN ?_ _) | (with_reducible refine Kd.C_drew ?_) | exact HR552.out)) hb)
        have n9_ := Aside0.mk (below_step (by repeat (first | (with_reducible first | exact HB.out | apply below_alloc | apply pw_below_drewN | apply below_drew1 | refine below_set ?_ GE531.out) | exact HB.out)) hb)
        clear HO_532000
        clear HO_532003
        clear HO_532004
        clear HO540
        clear HO544
        clear HO548
        clear BK531
        clear HR552
        clear HB
        have HO_532000 := n0_
        have HO_532003 := n1_
        have HO_532004 := n2_
        have HO540 := n3_
        have HO544 := n4_
        have HO548 := n5_
        have HO558 := n6_
        have BK531 := n7_
        have HR552 := n8_
        have HB := n9_
        clear n0_ n1_ n2_ n3_ n4_ n5_ n6_ n7_ n8_ n9_
        clear hb ho53
        refine hK.out _ _ ⟨(blk_cell BK531.out 0).trans rfl, (blk_cell BK531.out 1).trans rfl, (blk_cell BK531.out 2).trans rfl, (blk_cell BK531.out 3).trans rfl, (blk_cell BK531.out 4).trans rfl⟩ (fun hHeld => ?_)
        clear hK K
        refine norm_ (a' := ?_) ?_ ?_
        rotate_left
        ·show Act.put _ (some 87) _ = _
         simp only [Act.put, List.setIfInBounds_toArray, List.set_cons_zero, List.set_cons_succ, i64_w, i32_w]
         rfl
        refine one_ (i := 4) (N := some 84) #[true, true, true, true, true, true, true, true, false, false] rfl rfl (one_of HT_.out (by kernel_rfl)) (by decide) (fun K hK => ?_)
        refine Kd.R_append_rows_step k25 (w0 := w) w.heap.size (by rfl) (.tmp 80) (.tmp 83) 23 25 (.agg #[(.int .i64 0), (.bool false)]) 16 rfl Tryd.underlying23 info25 rfl (by decide) (by omega) v547 y546 y549 _ _ _ (fun k_ => some k_ ≠ (.slice Ao9 t519.length co9 : Value).ownBlock ∧ some k_ ≠ (.slice Ao11 t524.length co11 : Value).ownBlock ∧ some k_ ≠ (.slice Ao12 t527.length co12 : Value).ownBlock ∧ some k_ ≠ (.slice Ao49 t538.length co49 : Value).ownBlock ∧ some k_ ≠ (v543 : Value).ownBlock ∧ some k_ ≠ (v557 : Value).ownBlock) (fun _ => False) rfl rfl ?aO ?aR (fun _ _ h => h) (fun _ h => h.elim) ?aF ?aB ?aS ?aL ?_
        (case aR => repeat (first | exact (by repeat (first | (with_reducible exact HR552.out) | (with_reducible refine Kd.C_alloc ?_ _) | (with_reducible refine Kd.C_drewN ?_ _) | (with_reducible refine Kd.C_drew ?_) | exact HR552.out)) | (with_reducible refine Kd.C_alloc ?_ _) | (with_reducible refine Kd.C_drewN ?_ _) | (with_reducible refine Kd.C_drew ?_)))
        (case aB => exact (by repeat (first | (with_reducible first | exact HB.out | apply below_alloc | apply pw_below_drewN | apply below_drew1 | refine below_set ?_ GE531.out) | exact HB.out)))
        (case aF => exact (fun k_ hk => ⟨Kd.fresh' (Kd.R_lt (by (with_reducible repeat (first | apply Kd.R_alloc | apply Kd.R_drewN | apply Kd.R_drew)); exact HO_532000.out)) k_ hk, Kd.fresh' (Kd.R_lt (by (with_reducible repeat (first | apply Kd.R_alloc | apply Kd.R_drewN | apply Kd.R_drew)); exact HO_532003.out)) k_ hk, Kd.fresh' (Kd.R_lt (by (with_reducible repeat (first | apply Kd.R_alloc | apply Kd.R_drewN | apply Kd.R_drew)); exact HO_532004.out)) k_ hk, Kd.fresh' (Kd.R_lt (by (with_reducible repeat (first | apply Kd.R_alloc | apply Kd.R_drewN | apply Kd.R_drew)); exact HO540.out)) k_ hk, Kd.fresh' (Kd.R_lt (by (with_reducible repeat (first | apply Kd.R_alloc | apply Kd.R_drewN | apply Kd.R_drew)); exact HO544.out)) k_ hk, Kd.fresh' (Kd.R_lt (by (with_reducible repeat (first | apply Kd.R_alloc | apply Kd.R_drewN | apply Kd.R_drew)); exact HO558.out)) k_ hk⟩))
        (case aO => exact (by (with_reducible repeat (first | apply Kd.R_alloc | apply Kd.R_drewN | apply Kd.R_drew)); exact Kd.R_mono HO548.out (fun _ hk => ⟨hk.1.1.1.1.1.2, ⟨hk.1.1.1.1.2, ⟨hk.1.1.1.2, ⟨hk.1.1.2, ⟨hk.1.2, hk.2⟩⟩⟩⟩⟩)))
        (case aS => exact (below_size (by repeat (first | (with_reducible first | exact HB.out | apply below_alloc | apply pw_below_drewN | apply below_drew1 | refine below_set ?_ GE531.out) | exact HB.out))))
        (case aL => have := LMc32.out; omega)
        intro v554 w54 ho hb hg hat
        rw [← Ny553.out] at ho
        have n0_ := Aside0.mk (Kd.R_after (ok := (fun k_ => some k_ ≠ (.slice Ao11 t524.length co11 : Value).ownBlock ∧ some k_ ≠ (.slice Ao12 t527.length co12 : Value).ownBlock ∧ some k_ ≠ (.slice Ao49 t538.length co49 : Value).ownBlock ∧ some k_ ≠ (v543 : Value).ownBlock ∧ some k_ ≠ (v557 : Value).ownBlock)) (by (with_reducible repeat (first | apply Kd.R_alloc | apply Kd.R_drewN | apply Kd.R_drew)); exact Kd.R_mono HO_532000.out (fun _ hk => ⟨⟨hk.1.1.1.1.1, ⟨hk.1.1.1.1.2, ⟨hk.1.1.1.2, ⟨hk.1.1.2, hk.2⟩⟩⟩⟩, hk.1.2⟩)) hg hat)
        have n1_ := Aside0.mk (Kd.R_after (ok := (fun k_ => some k_ ≠ (.slice Ao9 t519.length co9 : Value).ownBlock ∧ some k_ ≠ (.slice Ao12 t527.length co12 : Value).ownBlock ∧ some k_ ≠ (.slice Ao49 t538.length co49 : Value).ownBlock ∧ some k_ ≠ (v543 : Value).ownBlock ∧ some k_ ≠ (v557 : Value).ownBlock)) (by (with_reducible repeat (first | apply Kd.R_alloc | apply Kd.R_drewN | apply Kd.R_drew)); exact Kd.R_mono HO_532003.out (fun _ hk => ⟨⟨hk.1.1.1.1.1, ⟨hk.1.1.1.1.2, ⟨hk.1.1.1.2, ⟨hk.1.1.2, hk.2⟩⟩⟩⟩, hk.1.2⟩)) hg hat)
        have n2_ := Aside0.mk (Kd.R_after (ok := (fun k_ => some k_ ≠ (.slice Ao9 t519.length co9 : Value).ownBlock ∧ some k_ ≠ (.slice Ao11 t524.length co11 : Value).ownBlock ∧ some k_ ≠ (.slice Ao49 t538.length co49 : Value).ownBlock ∧ some k_ ≠ (v543 : Value).ownBlock ∧ some k_ ≠ (v557 : Value).ownBlock)) (by (with_reducible repeat (first | apply Kd.R_alloc | apply Kd.R_drewN | apply Kd.R_drew)); exact Kd.R_mono HO_532004.out (fun _ hk => ⟨⟨hk.1.1.1.1.1, ⟨hk.1.1.1.1.2, ⟨hk.1.1.1.2, ⟨hk.1.1.2, hk.2⟩⟩⟩⟩, hk.1.2⟩)) hg hat)
        have n3_ := Aside0.mk (blk_grown (g := gb531) (o := .cells #[.slice Ao9 t519.length co9, .int .i64 t522, .bool t523, .slice Ao11 t524.length co11, .slice Ao12 t527.length co12] 27 (0, 0)) (by (with_reducible repeat (first | refine blk_drewN ?_ _ | refine blk_drew ?_ | refine blk_alloc ?_ _)); exact BK531.out) hg (Kd.R_ne HO548.out BK531.out (by decide)))
        have n4_ := Aside0.mk (Kd.R_after (ok := (fun k_ => some k_ ≠ (.slice Ao9 t519.length co9 : Value).ownBlock ∧ some k_ ≠ (.slice Ao11 t524.length co11 : Value).ownBlock ∧ some k_ ≠ (.slice Ao12 t527.length co12 : Value).ownBlock ∧ some k_ ≠ (v543 : Value).ownBlock ∧ some k_ ≠ (v557 : Value).ownBlock)) (by (with_reducible repeat (first | apply Kd.R_alloc | apply Kd.R_drewN | apply Kd.R_drew)); exact Kd.R_mono HO540.out (fun _ hk => ⟨⟨hk.1.1.1.1.1.2, ⟨hk.1.1.1.1.2, ⟨hk.1.1.1.2, ⟨hk.1.1.2, hk.2⟩⟩⟩⟩, hk.1.2⟩)) hg hat)
        have n5_ := Aside0.mk (Kd.R_after (ok := (fun k_ => some k_ ≠ (.slice Ao9 t519.length co9 : Value).ownBlock ∧ some k_ ≠ (.slice Ao11 t524.length co11 : Value).ownBlock ∧ some k_ ≠ (.slice Ao12 t527.length co12 : Value).ownBlock ∧ some k_ ≠ (.slice Ao49 t538.length co49 : Value).ownBlock ∧ some k_ ≠ (v557 : Value).ownBlock)) (by (with_reducible repeat (first | apply Kd.R_alloc | apply Kd.R_drewN | apply Kd.R_drew)); exact Kd.R_mono HO544.out (fun _ hk => ⟨⟨hk.1.1.1.1.1.2, ⟨hk.1.1.1.1.2, ⟨hk.1.1.1.2, ⟨hk.1.1.2, hk.2⟩⟩⟩⟩, hk.1.2⟩)) hg hat)
        have n6_ := Aside0.mk (Kd.R_after (ok := (fun k_ => some k_ ≠ (.slice Ao9 t519.length co9 : Value).ownBlock ∧ some k_ ≠ (.slice Ao11 t524.length co11 : Value).ownBlock ∧ some k_ ≠ (.slice Ao12 t527.length co12 : Value).ownBlock ∧ some k_ ≠ (.slice Ao49 t538.length co49 : Value).ownBlock ∧ some k_ ≠ (v543 : Value).ownBlock)) (by (with_reducible repeat (first | apply Kd.R_alloc | apply Kd.R_drewN | apply Kd.R_drew)); exact Kd.R_mono HO558.out (fun _ hk => ⟨⟨hk.1.1.1.1.1.2, ⟨hk.1.1.1.1.2, ⟨hk.1.1.1.2, ⟨hk.1.1.2, hk.1.2⟩⟩⟩⟩, hk.2⟩)) hg hat)
        have n7_ := Aside0.mk (hb)
        have n8_ := Aside0.mk ((show Kd.C k25 w54 Ao49 y549.length y549 from by rw [Ny549.out]; exact Kd.C_take (m := ((ji29) : Int).toNat) ((Kd.R_reads' (Kd.R_after (ok := (fun k_ => some k_ ≠ (.slice Ao9 t519.length co9 : Value).ownBlock ∧ some k_ ≠ (.slice Ao11 t524.length co11 : Value).ownBlock ∧ some k_ ≠ (.slice Ao12 t527.length co12 : Value).ownBlock ∧ some k_ ≠ (v543 : Value).ownBlock ∧ some k_ ≠ (v557 : Value).ownBlock)) (by (with_reducible repeat (first | apply Kd.R_alloc | apply Kd.R_drewN | apply Kd.R_drew)); exact Kd.R_mono HO540.out (fun _ hk => ⟨⟨hk.1.1.1.1.1.2, ⟨hk.1.1.1.1.2, ⟨hk.1.1.1.2, ⟨hk.1.1.2, hk.2⟩⟩⟩⟩, hk.1.2⟩)) hg hat)).2.2) KL48.out))
        have n9_ := Aside0.mk (ho)
        clear HO_532000
        clear HO_532003
        clear HO_532004
        clear BK531
        clear HO540
        clear HO544
        clear HO558
        clear HB
        clear HR552
        clear HO548
        have HO_532000 := n0_
        have HO_532003 := n1_
        have HO_532004 := n2_
        have BK531 := n3_
        have HO540 := n4_
        have HO544 := n5_
        have HO558 := n6_
        have HB := n7_
        have HR552 := n8_
        have HO555 := n9_
        clear n0_ n1_ n2_ n3_ n4_ n5_ n6_ n7_ n8_ n9_
        clear ho hb hg hat
        refine hK.out _ _ ⟨(blk_cell BK531.out 0).trans rfl, (blk_cell BK531.out 1).trans rfl, (blk_cell BK531.out 2).trans rfl, (blk_cell BK531.out 3).trans rfl, (blk_cell BK531.out 4).trans rfl⟩ (fun hHeld => ?_)
        clear hK K
        refine norm_ (a' := ?_) ?_ ?_
        rotate_left
        ·show Act.put _ (some 84) _ = _
         simp only [Act.put, List.setIfInBounds_toArray, List.set_cons_zero, List.set_cons_succ, i64_w, i32_w]
         rfl
        exact norm_ (by simp only [putAll, Act.put, List.setIfInBounds_toArray, List.set_cons_zero, List.set_cons_succ]) (hCont (v547, v554, v557) _ ⟨hHeld, (by (with_reducible repeat (first | apply Kd.R_alloc | apply Kd.R_drewN | apply Kd.R_drew)); exact Kd.R_mono HO540.out (fun _ hk => ⟨hk.1.2.2.2.1, ⟨hk.2, ⟨hk.1.2.2.2.2, ⟨hk.1.1, ⟨hk.1.2.1, hk.1.2.2.1⟩⟩⟩⟩⟩)), (by (with_reducible repeat (first | apply Kd.R_alloc | apply Kd.R_drewN | apply Kd.R_drew)); exact Kd.R_mono HO544.out (fun _ hk => ⟨hk.1.2.2.2.1, ⟨hk.2, ⟨hk.1.2.2.2.2, ⟨hk.1.1, ⟨hk.1.2.1, hk.1.2.2.1⟩⟩⟩⟩⟩)), (by (with_reducible repeat (first | apply Kd.R_alloc | apply Kd.R_drewN | apply Kd.R_drew)); exact Kd.R_mono HO555.out (fun _ hk => ⟨hk.2.2.2.1, ⟨hk.2.2.2.2.1, ⟨hk.2.2.2.2.2, ⟨hk.1, ⟨hk.2.1, hk.2.2.1⟩⟩⟩⟩⟩)), (by (with_reducible repeat (first | apply Kd.R_alloc | apply Kd.R_drewN | apply Kd.R_drew)); exact Kd.R_mono HO558.out (fun _ hk => ⟨hk.1.2.2.2.1, ⟨hk.1.2.2.2.2, ⟨hk.2, ⟨hk.1.1, ⟨hk.1.2.1, hk.1.2.2.1⟩⟩⟩⟩⟩)), (by (with_reducible repeat (first | apply Kd.R_alloc | apply Kd.R_drewN | apply Kd.R_drew)); exact Kd.R_mono HO_532000.out (fun _ hk => ⟨hk.1.2.2.1, ⟨hk.1.2.2.2.1, ⟨hk.2, ⟨hk.1.2.2.2.2, ⟨hk.1.1, hk.1.2.1⟩⟩⟩⟩⟩)), (by (with_reducible repeat (first | apply Kd.R_alloc | apply Kd.R_drewN | apply Kd.R_drew)); exact Kd.R_mono HO_532003.out (fun _ hk => ⟨hk.1.2.2.1, ⟨hk.1.2.2.2.1, ⟨hk.2, ⟨hk.1.2.2.2.2, ⟨hk.1.1, hk.1.2.1⟩⟩⟩⟩⟩)), (by (with_reducible repeat (first | apply Kd.R_alloc | apply Kd.R_drewN | apply Kd.R_drew)); exact Kd.R_mono HO_532004.out (fun _ hk => ⟨hk.1.2.2.1, ⟨hk.1.2.2.2.1, ⟨hk.2, ⟨hk.1.2.2.2.2, ⟨hk.1.1, hk.1.2.1⟩⟩⟩⟩⟩)), (by (with_reducible repeat (first | refine blk_drewN ?_ _ | refine blk_drew ?_ | refine blk_alloc ?_ _)); exact BK531.out), (by repeat (first | (with_reducible first | exact HB.out | apply below_alloc | apply pw_below_drewN | apply below_drew1 | refine below_set ?_ GE531.out) | exact HB.out))⟩)
      ·skip
       refine Kd.R_lit_step k25 _ 25 ?hg (N := 87) ?hd (xs := ([(⟨t522, t523⟩ : S25)] : List (S25))) (inner := [.int .i64 t522, .bool t523]) (ok := fun _ => True) (okp := fun _ => True) ?hr ?hp (fun _ hk => hk) trivial (Below.refl _ _) (Nat.le_refl _) (by simp) ?_; (case hd => rfl); (case hg => rfl); (case hr => first | (go_simp; done) | (go_simp; rfl)); (case hp => exact (Reps.c2 (show Kd.M k25 _ _ _ (⟨t522, t523⟩ : S25) [.int .i64 t522, .bool t523] from (k25_mkM _ _ _ (⟨t522, t523⟩ : S25) )) (Reps.none _ _)))
       intro v557 w50 ho51 hb hg_ hnew_
       clear hg_ hnew_
       (first | rw [← Ny556.out] at ho51 | (simp only [Int.reduceToNat] at ho51; rw [← Ny556.out] at ho51))
       have n0_ := Aside0.mk (Kd.R_elder' (by (with_reducible repeat (first | apply Kd.R_alloc | apply Kd.R_drewN | apply Kd.R_drew)); exact HO_532000.out) (Kd.R_base ho51) hb)
       have n1_ := Aside0.mk (Kd.R_elder' (by (with_reducible repeat (first | apply Kd.R_alloc | apply Kd.R_drewN | apply Kd.R_drew)); exact HO_532003.out) (Kd.R_base ho51) hb)
       have n2_ := Aside0.mk (Kd.R_elder' (by (with_reducible repeat (first | apply Kd.R_alloc | apply Kd.R_drewN | apply Kd.R_drew)); exact HO_532004.out) (Kd.R_base ho51) hb)
       have n3_ := Aside0.mk (Kd.R_elder' (by (with_reducible repeat (first | apply Kd.R_alloc | apply Kd.R_drewN | apply Kd.R_drew)); exact HO540.out) (Kd.R_base ho51) hb)
       have n4_ := Aside0.mk (Kd.R_elder' (by (with_reducible repeat (first | apply Kd.R_alloc | apply Kd.R_drewN | apply Kd.R_drew)); exact HO544.out) (Kd.R_base ho51) hb)
       have n5_ := Aside0.mk (Kd.R_lower (Kd.R_new' (Kd.R_new' (Kd.R_new' (Kd.R_new' (Kd.R_new' ho51 (Kd.R_lt (by (with_reducible repeat (first | apply Kd.R_alloc | apply Kd.R_drewN | apply Kd.R_drew)); exact HO_532000.out))) (Kd.R_lt (by (with_reducible repeat (first | apply Kd.R_alloc | apply Kd.R_drewN | apply Kd.R_drew)); exact HO_532003.out))) (Kd.R_lt (by (with_reducible repeat (first | apply Kd.R_alloc | apply Kd.R_drewN | apply Kd.R_drew)); exact HO_532004.out))) (Kd.R_lt (by (with_reducible repeat (first | apply Kd.R_alloc | apply Kd.R_drewN | apply Kd.R_drew)); exact HO540.out))) (Kd.R_lt (by (with_reducible repeat (first | apply Kd.R_alloc | apply Kd.R_drewN | apply Kd.R_drew)); exact HO544.out))) (below_size (by repeat (first | (with_reducible first | exact HB.out | apply below_alloc | apply pw_below_drewN | apply below_drew1 | refine below_set ?_ GE531.out) | exact HB.out))))
       have n6_ := Aside0.mk (blk_below (g := gb531) (o := .cells #[.slice Ao9 t519.length co9, .int .i64 t522, .bool t523, .slice Ao11 t524.length co11, .slice Ao12 t527.length co12] 27 (0, 0)) (by (with_reducible repeat (first | refine blk_drewN ?_ _ | refine blk_drew ?_ | refine blk_alloc ?_ _)); exact BK531.out) hb)
       have n7_ := Aside0.mk (Kd.C_below (by repeat (first | (with_reducible exact HR552.out) | (with_reducible refine Kd.C_alloc ?_ _) | (with_reducible refine Kd.C_drewN ?_ _) | (with_reducible refine Kd.C_drew ?_) | exact HR552.out)) hb)
       have n8_ := Aside0.mk (below_step (by repeat (first | (with_reducible first | exact HB.out | apply below_alloc | apply pw_below_drewN | apply below_drew1 | refine below_set ?_ GE531.out) | exact HB.out)) hb)
       clear HO_532000
       clear HO_532003
       clear HO_532004
       clear HO540
       clear HO544
       clear BK531
       clear HR552
       clear HB
       have HO_532000 := n0_
       have HO_532003 := n1_
       have HO_532004 := n2_
       have HO540 := n3_
       have HO544 := n4_
       have HO558 := n5_
       have BK531 := n6_
       have HR552 := n7_
       have HB := n8_
       clear n0_ n1_ n2_ n3_ n4_ n5_ n6_ n7_ n8_
       clear hb ho51
       refine hK.out _ _ ⟨(blk_cell BK531.out 0).trans rfl, (blk_cell BK531.out 1).trans rfl, (blk_cell BK531.out 2).trans rfl, (blk_cell BK531.out 3).trans rfl, (blk_cell BK531.out 4).trans rfl⟩ (fun hHeld => ?_)
       clear hK K
       refine norm_ (a' := ?_) ?_ ?_
       rotate_left
       ·show Act.put _ (some 87) _ = _
        simp only [Act.put, List.setIfInBounds_toArray, List.set_cons_zero, List.set_cons_succ, i64_w, i32_w]
        rfl
       refine one_ (i := 0) (N := some 80) #[true, true, true, true, false, true, true, true, false, false] rfl rfl (one_of HT_.out (by kernel_rfl)) (by decide) (fun K hK => ?_)
       refine Kd.R_lit_step k25 _ 25 ?hg (N := 80) ?hd (xs := ([] : List (S25))) (inner := []) (ok := fun _ => True) (okp := fun _ => True) ?hr ?hp (fun _ hk => hk) trivial (Below.refl _ _) (Nat.le_refl _) (by simp) ?_; (case hd => rfl); (case hg => rfl); (case hr => first | (go_simp; done) | (go_simp; rfl)); (case hp => exact (Reps.none _ _))
       intro v547 w52 ho53 hb hg_ hnew_
       clear hg_ hnew_
       (first | rw [← Ny546.out] at ho53 | (simp only [Int.reduceToNat] at ho53; rw [← Ny546.out] at ho53))
       have n0_ := Aside0.mk (Kd.R_elder' (by (with_reducible repeat (first | apply Kd.R_alloc | apply Kd.R_drewN | apply Kd.R_drew)); exact HO_532000.out) (Kd.R_base ho53) hb)
       have n1_ := Aside0.mk (Kd.R_elder' (by (with_reducible repeat (first | apply Kd.R_alloc | apply Kd.R_drewN | apply Kd.R_drew)); exact HO_532003.out) (Kd.R_base ho53) hb)
       have n2_ := Aside0.mk (Kd.R_elder' (by (with_reducible repeat (first | apply Kd.R_alloc | apply Kd.R_drewN | apply Kd.R_drew)); exact HO_532004.out) (Kd.R_base ho53) hb)
       have n3_ := Aside0.mk (Kd.R_elder' (by (with_reducible repeat (first | apply Kd.R_alloc | apply Kd.R_drewN | apply Kd.R_drew)); exact HO540.out) (Kd.R_base ho53) hb)
       have n4_ := Aside0.mk (Kd.R_elder' (by (with_reducible repeat (first | apply Kd.R_alloc | apply Kd.R_drewN | apply Kd.R_drew)); exact HO544.out) (Kd.R_base ho53) hb)
       have n5_ := Aside0.mk (Kd.R_elder' (by (with_reducible repeat (first | apply Kd.R_alloc | apply Kd.R_drewN | apply Kd.R_drew)); exact HO558.out) (Kd.R_base ho53) hb)
       have n6_ := Aside0.mk (Kd.R_lower (Kd.R_new' (Kd.R_new' (Kd.R_new' (Kd.R_new' (Kd.R_new' (Kd.R_new' ho53 (Kd.R_lt (by (with_reducible repeat (first | apply Kd.R_alloc | apply Kd.R_drewN | apply Kd.R_drew)); exact HO_532000.out))) (Kd.R_lt (by (with_reducible repeat (first | apply Kd.R_alloc | apply Kd.R_drewN | apply Kd.R_drew)); exact HO_532003.out))) (Kd.R_lt (by (with_reducible repeat (first | apply Kd.R_alloc | apply Kd.R_drewN | apply Kd.R_drew)); exact HO_532004.out))) (Kd.R_lt (by (with_reducible repeat (first | apply Kd.R_alloc | apply Kd.R_drewN | apply Kd.R_drew)); exact HO540.out))) (Kd.R_lt (by (with_reducible repeat (first | apply Kd.R_alloc | apply Kd.R_drewN | apply Kd.R_drew)); exact HO544.out))) (Kd.R_lt (by (with_reducible repeat (first | apply Kd.R_alloc | apply Kd.R_drewN | apply Kd.R_drew)); exact HO558.out))) (below_size (by repeat (first | (with_reducible first | exact HB.out | apply below_alloc | apply pw_below_drewN | apply below_drew1 | refine below_set ?_ GE531.out) | exact HB.out))))
       have n7_ := Aside0.mk (blk_below (g := gb531) (o := .cells #[.slice Ao9 t519.length co9, .int .i64 t522, .bool t523, .slice Ao11 t524.length co11, .slice Ao12 t527.length co12] 27 (0, 0)) (by (with_reducible repeat (first | refine blk_drewN ?_ _ | refine blk_drew ?_ | refine blk_alloc ?_ _)); exact BK531.out) hb)
       have n8_ := Aside0.mk (Kd.C_below (by repeat (first | (with_reducible exact HR552.out) | (with_reducible refine Kd.C_alloc ?_ _) | (with_reducible refine Kd.C_drewN ?_ _) | (with_reducible refine Kd.C_drew ?_) | exact HR552.out)) hb)
       have n9_ := Aside0.mk (below_step (by repeat (first | (with_reducible first | exact HB.out | apply below_alloc | apply pw_below_drewN | apply below_drew1 | refine below_set ?_ GE531.out) | exact HB.out)) hb)
       clear HO_532000
       clear HO_532003
       clear HO_532004
       clear HO540
       clear HO544
       clear HO558
       clear BK531
       clear HR552
       clear HB
       have HO_532000 := n0_
       have HO_532003 := n1_
       have HO_532004 := n2_
       have HO540 := n3_
       have HO544 := n4_
       have HO558 := n5_
       have HO548 := n6_
       have BK531 := n7_
       have HR552 := n8_
       have HB := n9_
       clear n0_ n1_ n2_ n3_ n4_ n5_ n6_ n7_ n8_ n9_
       clear hb ho53
       refine hK.out _ _ ⟨(blk_cell BK531.out 0).trans rfl, (blk_cell BK531.out 1).trans rfl, (blk_cell BK531.out 2).trans rfl, (blk_cell BK531.out 3).trans rfl, (blk_cell BK531.out 4).trans rfl⟩ (fun hHeld => ?_)
       clear hK K
       refine norm_ (a' := ?_) ?_ ?_
       rotate_left
       ·show Act.put _ (some 80) _ = _
        simp only [Act.put, List.setIfInBounds_toArray, List.set_cons_zero, List.set_cons_succ, i64_w, i32_w]
        rfl
       refine one_ (i := 4) (N := some 84) #[true, true, true, true, true, true, true, true, false, false] rfl rfl (one_of HT_.out (by kernel_rfl)) (by decide) (fun K hK => ?_)
       refine Kd.R_append_rows_step k25 (w0 := w) w.heap.size (by rfl) (.tmp 80) (.tmp 83) 23 25 (.agg #[(.int .i64 0), (.bool false)]) 16 rfl Tryd.underlying23 info25 rfl (by decide) (by omega) v547 y546 y549 _ _ _ (fun k_ => some k_ ≠ (.slice Ao9 t519.length co9 : Value).ownBlock ∧ some k_ ≠ (.slice Ao11 t524.length co11 : Value).ownBlock ∧ some k_ ≠ (.slice Ao12 t527.length co12 : Value).ownBlock ∧ some k_ ≠ (.slice Ao49 t538.length co49 : Value).ownBlock ∧ some k_ ≠ (v543 : Value).ownBlock ∧ some k_ ≠ (v557 : Value).ownBlock) (fun _ => False) rfl rfl ?aO ?aR (fun _ _ h => h) (fun _ h => h.elim) ?aF ?aB ?aS ?aL ?_
       (case aR => repeat (first | exact (by repeat (first | (with_reducible exact HR552.out) | (with_reducible refine Kd.C_alloc ?_ _) | (with_reducible refine Kd.C_drewN ?_ _) | (with_reducible refine Kd.C_drew ?_) | exact HR552.out)) | (with_reducible refine Kd.C_alloc ?_ _) | (with_reducible refine Kd.C_drewN ?_ _) | (with_reducible refine Kd.C_drew ?_)))
       (case aB => exact (by repeat (first | (with_reducible first | exact HB.out | apply below_alloc | apply pw_below_drewN | apply below_drew1 | refine below_set ?_ GE531.out) | exact HB.out)))
       (case aF => exact (fun k_ hk => ⟨Kd.fresh' (Kd.R_lt (by (with_reducible repeat (first | apply Kd.R_alloc | apply Kd.R_drewN | apply Kd.R_drew)); exact HO_532000.out)) k_ hk, Kd.fresh' (Kd.R_lt (by (with_reducible repeat (first | apply Kd.R_alloc | apply Kd.R_drewN | apply Kd.R_drew)); exact HO_532003.out)) k_ hk, Kd.fresh' (Kd.R_lt (by (with_reducible repeat (first | apply Kd.R_alloc | apply Kd.R_drewN | apply Kd.R_drew)); exact HO_532004.out)) k_ hk, Kd.fresh' (Kd.R_lt (by (with_reducible repeat (first | apply Kd.R_alloc | apply Kd.R_drewN | apply Kd.R_drew)); exact HO540.out)) k_ hk, Kd.fresh' (Kd.R_lt (by (with_reducible repeat (first | apply Kd.R_alloc | apply Kd.R_drewN | apply Kd.R_drew)); exact HO544.out)) k_ hk, Kd.fresh' (Kd.R_lt (by (with_reducible repeat (first | apply Kd.R_alloc | apply Kd.R_drewN | apply Kd.R_drew)); exact HO558.out)) k_ hk⟩))
       (case aO => exact (by (with_reducible repeat (first | apply Kd.R_alloc | apply Kd.R_drewN | apply Kd.R_drew)); exact Kd.R_mono HO548.out (fun _ hk => ⟨hk.1.1.1.1.1.2, ⟨hk.1.1.1.1.2, ⟨hk.1.1.1.2, ⟨hk.1.1.2, ⟨hk.1.2, hk.2⟩⟩⟩⟩⟩)))
       (case aS => exact (below_size (by repeat (first | (with_reducible first | exact HB.out | apply below_alloc | apply pw_below_drewN | apply below_drew1 | refine below_set ?_ GE531.out) | exact HB.out))))
       (case aL => have := LMc32.out; omega)
       intro v554 w54 ho hb hg hat
       rw [← Ny553.out] at ho
       have n0_ := Aside0.mk (Kd.R_after (ok := (fun k_ => some k_ ≠ (.slice Ao11 t524.length co11 : Value).ownBlock ∧ some k_ ≠ (.slice Ao12 t527.length co12 : Value).ownBlock ∧ some k_ ≠ (.slice Ao49 t538.length co49 : Value).ownBlock ∧ some k_ ≠ (v543 : Value).ownBlock ∧ some k_ ≠ (v557 : Value).ownBlock)) (by (with_reducible repeat (first | apply Kd.R_alloc | apply Kd.R_drewN | apply Kd.R_drew)); exact Kd.R_mono HO_532000.out (fun _ hk => ⟨⟨hk.1.1.1.1.1, ⟨hk.1.1.1.1.2, ⟨hk.1.1.1.2, ⟨hk.1.1.2, hk.1.2⟩⟩⟩⟩, hk.2⟩)) hg hat)
       have n1_ := Aside0.mk (Kd.R_after (ok := (fun k_ => some k_ ≠ (.slice Ao9 t519.length co9 : Value).ownBlock ∧ some k_ ≠ (.slice Ao12 t527.length co12 : Value).ownBlock ∧ some k_ ≠ (.slice Ao49 t538.length co49 : Value).ownBlock ∧ some k_ ≠ (v543 : Value).ownBlock ∧ some k_ ≠ (v557 : Value).ownBlock)) (by (with_reducible repeat (first | apply Kd.R_alloc | apply Kd.R_drewN | apply Kd.R_drew)); exact Kd.R_mono HO_532003.out (fun _ hk => ⟨⟨hk.1.1.1.1.1, ⟨hk.1.1.1.1.2, ⟨hk.1.1.1.2, ⟨hk.1.1.2, hk.1.2⟩⟩⟩⟩, hk.2⟩)) hg hat)
       have n2_ := Aside0.mk (Kd.R_after (ok := (fun k_ => some k_ ≠ (.slice Ao9 t519.length co9 : Value).ownBlock ∧ some k_ ≠ (.slice Ao11 t524.length co11 : Value).ownBlock ∧ some k_ ≠ (.slice Ao49 t538.length co49 : Value).ownBlock ∧ some k_ ≠ (v543 : Value).ownBlock ∧ some k_ ≠ (v557 : Value).ownBlock)) (by (with_reducible repeat (first | apply Kd.R_alloc | apply Kd.R_drewN | apply Kd.R_drew)); exact Kd.R_mono HO_532004.out (fun _ hk => ⟨⟨hk.1.1.1.1.1, ⟨hk.1.1.1.1.2, ⟨hk.1.1.1.2, ⟨hk.1.1.2, hk.1.2⟩⟩⟩⟩, hk.2⟩)) hg hat)
       have n3_ := Aside0.mk (blk_grown (g := gb531) (o := .cells #[.slice Ao9 t519.length co9, .int .i64 t522, .bool t523, .slice Ao11 t524.length co11, .slice Ao12 t527.length co12] 27 (0, 0)) (by (with_reducible repeat (first | refine blk_drewN ?_ _ | refine blk_drew ?_ | refine blk_alloc ?_ _)); exact BK531.out) hg (Kd.R_ne HO548.out BK531.out (by decide)))
       have n4_ := Aside0.mk (Kd.R_after (ok := (fun k_ => some k_ ≠ (.slice Ao9 t519.length co9 : Value).ownBlock ∧ some k_ ≠ (.slice Ao11 t524.length co11 : Value).ownBlock ∧ some k_ ≠ (.slice Ao12 t527.length co12 : Value).ownBlock ∧ some k_ ≠ (v543 : Value).ownBlock ∧ some k_ ≠ (v557 : Value).ownBlock)) (by (with_reducible repeat (first | apply Kd.R_alloc | apply Kd.R_drewN | apply Kd.R_drew)); exact Kd.R_mono HO540.out (fun _ hk => ⟨⟨hk.1.1.1.1.1.2, ⟨hk.1.1.1.1.2, ⟨hk.1.1.1.2, ⟨hk.1.1.2, hk.1.2⟩⟩⟩⟩, hk.2⟩)) hg hat)
       have n5_ := Aside0.mk (Kd.R_after (ok := (fun k_ => some k_ ≠ (.slice Ao9 t519.length co9 : Value).ownBlock ∧ some k_ ≠ (.slice Ao11 t524.length co11 : Value).ownBlock ∧ some k_ ≠ (.slice Ao12 t527.length co12 : Value).ownBlock ∧ some k_ ≠ (.slice Ao49 t538.length co49 : Value).ownBlock ∧ some k_ ≠ (v557 : Value).ownBlock)) (by (with_reducible repeat (first | apply Kd.R_alloc | apply Kd.R_drewN | apply Kd.R_drew)); exact Kd.R_mono HO544.out (fun _ hk => ⟨⟨hk.1.1.1.1.1.2, ⟨hk.1.1.1.1.2, ⟨hk.1.1.1.2, ⟨hk.1.1.2, hk.1.2⟩⟩⟩⟩, hk.2⟩)) hg hat)
       have n6_ := Aside0.mk (Kd.R_after (ok := (fun k_ => some k_ ≠ (.slice Ao9 t519.length co9 : Value).ownBlock ∧ some k_ ≠ (.slice Ao11 t524.length co11 : Value).ownBlock ∧ some k_ ≠ (.slice Ao12 t527.length co12 : Value).ownBlock ∧ some k_ ≠ (.slice Ao49 t538.length co49 : Value).ownBlock ∧ some k_ ≠ (v543 : Value).ownBlock)) (by (with_reducible repeat (first | apply Kd.R_alloc | apply Kd.R_drewN | apply Kd.R_drew)); exact Kd.R_mono HO558.out (fun _ hk => ⟨⟨hk.1.1.1.1.1.2, ⟨hk.1.1.1.1.2, ⟨hk.1.1.1.2, ⟨hk.1.1.2, hk.1.2⟩⟩⟩⟩, hk.2⟩)) hg hat)
       have n7_ := Aside0.mk (hb)
       have n8_ := Aside0.mk ((show Kd.C k25 w54 Ao49 y549.length y549 from by rw [Ny549.out]; exact Kd.C_take (m := ((ji29) : Int).toNat) ((Kd.R_reads' (Kd.R_after (ok := (fun k_ => some k_ ≠ (.slice Ao9 t519.length co9 : Value).ownBlock ∧ some k_ ≠ (.slice Ao11 t524.length co11 : Value).ownBlock ∧ some k_ ≠ (.slice Ao12 t527.length co12 : Value).ownBlock ∧ some k_ ≠ (v543 : Value).ownBlock ∧ some k_ ≠ (v557 : Value).ownBlock)) (by (with_reducible repeat (first | apply Kd.R_alloc | apply Kd.R_drewN | apply Kd.R_drew)); exact Kd.R_mono HO540.out (fun _ hk => ⟨⟨hk.1.1.1.1.1.2, ⟨hk.1.1.1.1.2, ⟨hk.1.1.1.2, ⟨hk.1.1.2, hk.1.2⟩⟩⟩⟩, hk.2⟩)) hg hat)).2.2) KL48.out))
       have n9_ := Aside0.mk (ho)
       clear HO_532000
       clear HO_532003
       clear HO_532004
       clear BK531
       clear HO540
       clear HO544
       clear HO558
       clear HB
       clear HR552
       clear HO548
       have HO_532000 := n0_
       have HO_532003 := n1_
       have HO_532004 := n2_
       have BK531 := n3_
       have HO540 := n4_
       have HO544 := n5_
       have HO558 := n6_
       have HB := n7_
       have HR552 := n8_
       have HO555 := n9_
       clear n0_ n1_ n2_ n3_ n4_ n5_ n6_ n7_ n8_ n9_
       clear ho hb hg hat
       refine hK.out _ _ ⟨(blk_cell BK531.out 0).trans rfl, (blk_cell BK531.out 1).trans rfl, (blk_cell BK531.out 2).trans rfl, (blk_cell BK531.out 3).trans rfl, (blk_cell BK531.out 4).trans rfl⟩ (fun hHeld => ?_)
       clear hK K
       refine norm_ (a' := ?_) ?_ ?_
       rotate_left
       ·show Act.put _ (some 84) _ = _
        simp only [Act.put, List.setIfInBounds_toArray, List.set_cons_zero, List.set_cons_succ, i64_w, i32_w]
        rfl
       exact norm_ (by simp only [putAll, Act.put, List.setIfInBounds_toArray, List.set_cons_zero, List.set_cons_succ]) (hCont (v547, v554, v557) _ ⟨hHeld, (by (with_reducible repeat (first | apply Kd.R_alloc | apply Kd.R_drewN | apply Kd.R_drew)); exact Kd.R_mono HO540.out (fun _ hk => ⟨hk.1.2.2.2.1, ⟨hk.2, ⟨hk.1.2.2.2.2, ⟨hk.1.1, ⟨hk.1.2.1, hk.1.2.2.1⟩⟩⟩⟩⟩)), (by (with_reducible repeat (first | apply Kd.R_alloc | apply Kd.R_drewN | apply Kd.R_drew)); exact Kd.R_mono HO544.out (fun _ hk => ⟨hk.1.2.2.2.1, ⟨hk.2, ⟨hk.1.2.2.2.2, ⟨hk.1.1, ⟨hk.1.2.1, hk.1.2.2.1⟩⟩⟩⟩⟩)), (by (with_reducible repeat (first | apply Kd.R_alloc | apply Kd.R_drewN | apply Kd.R_drew)); exact Kd.R_mono HO555.out (fun _ hk => ⟨hk.2.2.2.1, ⟨hk.2.2.2.2.1, ⟨hk.2.2.2.2.2, ⟨hk.1, ⟨hk.2.1, hk.2.2.1⟩⟩⟩⟩⟩)), (by (with_reducible repeat (first | apply Kd.R_alloc | apply Kd.R_drewN | apply Kd.R_drew)); exact Kd.R_mono HO558.out (fun _ hk => ⟨hk.1.2.2.2.1, ⟨hk.1.2.2.2.2, ⟨hk.2, ⟨hk.1.1, ⟨hk.1.2.1, hk.1.2.2.1⟩⟩⟩⟩⟩)), (by (with_reducible repeat (first | apply Kd.R_alloc | apply Kd.R_drewN | apply Kd.R_drew)); exact Kd.R_mono HO_532000.out (fun _ hk => ⟨hk.1.2.2.1, ⟨hk.1.2.2.2.1, ⟨hk.2, ⟨hk.1.2.2.2.2, ⟨hk.1.1, hk.1.2.1⟩⟩⟩⟩⟩)), (by (with_reducible repeat (first | apply Kd.R_alloc | apply Kd.R_drewN | apply Kd.R_drew)); exact Kd.R_mono HO_532003.out (fun _ hk => ⟨hk.1.2.2.1, ⟨hk.1.2.2.2.1, ⟨hk.2, ⟨hk.1.2.2.2.2, ⟨hk.1.1, hk.1.2.1⟩⟩⟩⟩⟩)), (by (with_reducible repeat (first | apply Kd.R_alloc | apply Kd.R_drewN | apply Kd.R_drew)); exact Kd.R_mono HO_532004.out (fun _ hk => ⟨hk.1.2.2.1, ⟨hk.1.2.2.2.1, ⟨hk.2, ⟨hk.1.2.2.2.2, ⟨hk.1.1, hk.1.2.1⟩⟩⟩⟩⟩)), (by (with_reducible repeat (first | refine blk_drewN ?_ _ | refine blk_drew ?_ | refine blk_alloc ?_ _)); exact BK531.out), (by repeat (first | (with_reducible first | exact HB.out | apply below_alloc | apply pw_below_drewN | apply below_drew1 | refine below_set ?_ GE531.out) | exact HB.out))⟩)
     rintro ⟨v547, v554, v557⟩ w55 ⟨hS_, h0_, h1_, h2_, h3_, h4_, h5_, h6_, h7_, h8_⟩
     have n0_ : Aside0 (Kd.R k25 25 w55 w.heap.size (fun k_ => some k_ ≠ (v543 : Value).ownBlock ∧ some k_ ≠ (v554 : Value).ownBlock ∧ some k_ ≠ (v557 : Value).ownBlock ∧ some k_ ≠ (.slice Ao9 t519.length co9 : Value).ownBlock ∧ some k_ ≠ (.slice Ao11 t524.length co11 : Value).ownBlock ∧ some k_ ≠ (.slice Ao12 t527.length co12 : Value).ownBlock) (.slice Ao49 t538.length co49) t538) := ⟨h0_⟩
     have n1_ : Aside0 (Kd.R k25 25 w55 w.heap.size (fun k_ => some k_ ≠ (.slice Ao49 t538.length co49 : Value).ownBlock ∧ some k_ ≠ (v554 : Value).ownBlock ∧ some k_ ≠ (v557 : Value).ownBlock ∧ some k_ ≠ (.slice Ao9 t519.length co9 : Value).ownBlock ∧ some k_ ≠ (.slice Ao11 t524.length co11 : Value).ownBlock ∧ some k_ ≠ (.slice Ao12 t527.length co12 : Value).ownBlock) v543 t542) := ⟨h1_⟩
     have n2_ : Aside0 (Kd.R k25 25 w55 w.heap.size (fun k_ => some k_ ≠ (.slice Ao49 t538.length co49 : Value).ownBlock ∧ some k_ ≠ (v543 : Value).ownBlock ∧ some k_ ≠ (v557 : Value).ownBlock ∧ some k_ ≠ (.slice Ao9 t519.length co9 : Value).ownBlock ∧ some k_ ≠ (.slice Ao11 t524.length co11 : Value).ownBlock ∧ some k_ ≠ (.slice Ao12 t527.length co12 : Value).ownBlock) v554 y553) := ⟨h2_⟩
     have n3_ : Aside0 (Kd.R k25 25 w55 w.heap.size (fun k_ => some k_ ≠ (.slice Ao49 t538.length co49 : Value).ownBlock ∧ some k_ ≠ (v543 : Value).ownBlock ∧ some k_ ≠ (v554 : Value).ownBlock ∧ some k_ ≠ (.slice Ao9 t519.length co9 : Value).ownBlock ∧ some k_ ≠ (.slice Ao11 t524.length co11 : Value).ownBlock ∧ some k_ ≠ (.slice Ao12 t527.length co12 : Value).ownBlock) v557 y556) := ⟨h3_⟩
     have n4_ : Aside0 (Kd.R k25 25 w55 w.heap.size (fun k_ => some k_ ≠ (.slice Ao49 t538.length co49 : Value).ownBlock ∧ some k_ ≠ (v543 : Value).ownBlock ∧ some k_ ≠ (v554 : Value).ownBlock ∧ some k_ ≠ (v557 : Value).ownBlock ∧ some k_ ≠ (.slice Ao11 t524.length co11 : Value).ownBlock ∧ some k_ ≠ (.slice Ao12 t527.length co12 : Value).ownBlock) (.slice Ao9 t519.length co9) t519) := ⟨h4_⟩
     have n5_ : Aside0 (Kd.R k25 25 w55 w.heap.size (fun k_ => some k_ ≠ (.slice Ao49 t538.length co49 : Value).ownBlock ∧ some k_ ≠ (v543 : Value).ownBlock ∧ some k_ ≠ (v554 : Value).ownBlock ∧ some k_ ≠ (v557 : Value).ownBlock ∧ some k_ ≠ (.slice Ao9 t519.length co9 : Value).ownBlock ∧ some k_ ≠ (.slice Ao12 t527.length co12 : Value).ownBlock) (.slice Ao11 t524.length co11) t524) := ⟨h5_⟩
     have n6_ : Aside0 (Kd.R k25 25 w55 w.heap.size (fun k_ => some k_ ≠ (.slice Ao49 t538.length co49 : Value).ownBlock ∧ some k_ ≠ (v543 : Value).ownBlock ∧ some k_ ≠ (v554 : Value).ownBlock ∧ some k_ ≠ (v557 : Value).ownBlock ∧ some k_ ≠ (.slice Ao9 t519.length co9 : Value).ownBlock ∧ some k_ ≠ (.slice Ao11 t524.length co11 : Value).ownBlock) (.slice Ao12 t527.length co12) t527) := ⟨h6_⟩
     have n7_ : Aside0 (w55.heap[gb531]? = some (.cells #[.slice Ao9 t519.length co9, .int .i64 t522, .bool t523, .slice Ao11 t524.length co11, .slice Ao12 t527.length co12] 27 (0, 0))) := ⟨h7_⟩
     have n8_ : Aside0 (Below w.heap.size w w55) := ⟨h8_⟩
     clear HO_532000
     clear HO_532003
     clear HO_532004
     clear HO540
     clear HO544
     clear BK531
     clear HB
     clear h0_ h1_ h2_ h3_ h4_ h5_ h6_ h7_ h8_
     have HO540 := n0_
     have HO544 := n1_
     have HO555 := n2_
     have HO558 := n3_
     have HO_532000 := n4_
     have HO_532003 := n5_
     have HO_532004 := n6_
     have BK531 := n7_
     have HB := n8_
     clear n0_ n1_ n2_ n3_ n4_ n5_ n6_ n7_ n8_
     have hHeld : w55.cell? ⟨gb531, 0, none⟩ = some (.slice Ao9 t519.length co9) ∧ w55.cell? ⟨gb531, 1, none⟩ = some (.int .i64 t522) ∧ w55.cell? ⟨gb531, 2, none⟩ = some (.bool t523) ∧ w55.cell? ⟨gb531, 3, none⟩ = some (.slice Ao11 t524.length co11) ∧ w55.cell? ⟨gb531, 4, none⟩ = some (.slice Ao12 t527.length co12) := hS_
     obtain ⟨Ao57, co57, eo57⟩ := Kd.R_slice HO558.out
     (first | subst eo57 | (injection eo57 with f1_ f2_ f3_; have f4_ := f1_.symm; have f5_ := f3_.symm; clear f1_ f2_ f3_; subst f4_; subst f5_))
     refine norm_ (a' := ?_) ?_ ?_
     rotate_left
     ·simp only [putAll, Act.put, List.setIfInBounds_toArray, List.set_cons_zero, List.set_cons_succ]
      rfl
     refine one_ (i := 8) (N := some 88) #[true, true, true, true, true, true, true, true, true, false] rfl rfl (one_of HT_.out (by kernel_rfl)) (by decide) (fun K hK => ?_)
     refine Kd.R_append_rows_step k25 (w0 := w) w.heap.size (by rfl) (.tmp 84) (.tmp 87) 23 25 (.agg #[(.int .i64 0), (.bool false)]) 16 rfl Tryd.underlying23 info25 rfl (by decide) (by omega) v554 y553 y556 _ _ _ (fun k_ => some k_ ≠ (.slice Ao9 t519.length co9 : Value).ownBlock ∧ some k_ ≠ (.slice Ao11 t524.length co11 : Value).ownBlock ∧ some k_ ≠ (.slice Ao12 t527.length co12 : Value).ownBlock ∧ some k_ ≠ (.slice Ao49 t538.length co49 : Value).ownBlock ∧ some k_ ≠ (v543 : Value).ownBlock ∧ some k_ ≠ (.slice Ao57 y556.length co57 : Value).ownBlock) (fun _ => False) rfl rfl ?aO ?aR (fun _ _ h => h) (fun _ h => h.elim) ?aF ?aB ?aS ?aL ?_
     (case aR => repeat (first | exact (Kd.R_reads' HO558.out).2.2 | (with_reducible refine Kd.C_alloc ?_ _) | (with_reducible refine Kd.C_drewN ?_ _) | (with_reducible refine Kd.C_drew ?_)))
     (case aB => exact (by repeat (first | (with_reducible first | exact HB.out | apply below_alloc | apply pw_below_drewN | apply below_drew1 | refine below_set ?_ GE531.out) | exact HB.out)))
     (case aF => exact (fun k_ hk => ⟨Kd.fresh' (Kd.R_lt (by (with_reducible repeat (first | apply Kd.R_alloc | apply Kd.R_drewN | apply Kd.R_drew)); exact HO_532000.out)) k_ hk, Kd.fresh' (Kd.R_lt (by (with_reducible repeat (first | apply Kd.R_alloc | apply Kd.R_drewN | apply Kd.R_drew)); exact HO_532003.out)) k_ hk, Kd.fresh' (Kd.R_lt (by (with_reducible repeat (first | apply Kd.R_alloc | apply Kd.R_drewN | apply Kd.R_drew)); exact HO_532004.out)) k_ hk, Kd.fresh' (Kd.R_lt (by (with_reducible repeat (first | apply Kd.R_alloc | apply Kd.R_drewN | apply Kd.R_drew)); exact HO540.out)) k_ hk, Kd.fresh' (Kd.R_lt (by (with_reducible repeat (first | apply Kd.R_alloc | apply Kd.R_drewN | apply Kd.R_drew)); exact HO544.out)) k_ hk, Kd.fresh' (Kd.R_lt (by (with_reducible repeat (first | apply Kd.R_alloc | apply Kd.R_drewN | apply Kd.R_drew)); exact HO558.out)) k_ hk⟩))
     (case aO => exact (by (with_reducible repeat (first | apply Kd.R_alloc | apply Kd.R_drewN | apply Kd.R_drew)); exact Kd.R_mono HO555.out (fun _ hk => ⟨hk.2.2.2.1, ⟨hk.2.2.2.2.1, ⟨hk.2.2.2.2.2, ⟨hk.1, ⟨hk.2.1, hk.2.2.1⟩⟩⟩⟩⟩)))
     (case aS => exact (below_size (by repeat (first | (with_reducible first | exact HB.out | apply below_alloc | apply pw_below_drewN | apply below_drew1 | refine below_set ?_ GE531.out) | exact HB.out))))
     (case aL => have := LMc33.out; omega)
     intro v560 w56 ho hb hg hat
     rw [← Ny559.out] at ho
     have n0_ := Aside0.mk (Kd.R_after (ok := (fun k_ => some k_ ≠ (.slice Ao11 t524.length co11 : Value).ownBlock ∧ some k_ ≠ (.slice Ao12 t527.length co12 : Value).ownBlock ∧ some k_ ≠ (.slice Ao49 t538.length co49 : Value).ownBlock ∧ some k_ ≠ (v543 : Value).ownBlock ∧ some k_ ≠ (.slice Ao57 y556.length co57 : Value).ownBlock)) (by (with_reducible repeat (first | apply Kd.R_alloc | apply Kd.R_drewN | apply Kd.R_drew)); exact Kd.R_mono HO_532000.out (fun _ hk => ⟨⟨hk.2.2.2.2.1, ⟨hk.2.2.2.2.2, ⟨hk.1, ⟨hk.2.1, hk.2.2.2.1⟩⟩⟩⟩, hk.2.2.1⟩)) hg hat)
     have n1_ := Aside0.mk (Kd.R_after (ok := (fun k_ => some k_ ≠ (.slice Ao9 t519.length co9 : Value).ownBlock ∧ some k_ ≠ (.slice Ao12 t527.length co12 : Value).ownBlock ∧ some k_ ≠ (.slice Ao49 t538.length co49 : Value).ownBlock ∧ some k_ ≠ (v543 : Value).ownBlock ∧ some k_ ≠ (.slice Ao57 y556.length co57 : Value).ownBlock)) (by (with_reducible repeat (first | apply Kd.R_alloc | apply Kd.R_drewN | apply Kd.R_drew)); exact Kd.R_mono HO_532003.out (fun _ hk => ⟨⟨hk.2.2.2.2.1, ⟨hk.2.2.2.2.2, ⟨hk.1, ⟨hk.2.1, hk.2.2.2.1⟩⟩⟩⟩, hk.2.2.1⟩)) hg hat)
     have n2_ := Aside0.mk (Kd.R_after (ok := (fun k_ => some k_ ≠ (.slice Ao9 t519.length co9 : Value).ownBlock ∧ some k_ ≠ (.slice Ao11 t524.length co11 : Value).ownBlock ∧ some k_ ≠ (.slice Ao49 t538.length co49 : Value).ownBlock ∧ some k_ ≠ (v543 : Value).ownBlock ∧ some k_ ≠ (.slice Ao57 y556.length co57 : Value).ownBlock)) (by (with_reducible repeat (first | apply Kd.R_alloc | apply Kd.R_drewN | apply Kd.R_drew)); exact Kd.R_mono HO_532004.out (fun _ hk => ⟨⟨hk.2.2.2.2.1, ⟨hk.2.2.2.2.2, ⟨hk.1, ⟨hk.2.1, hk.2.2.2.1⟩⟩⟩⟩, hk.2.2.1⟩)) hg hat)
     have n3_ := Aside0.mk (blk_grown (g := gb531) (o := .cells #[.slice Ao9 t519.length co9, .int .i64 t522, .bool t523, .slice Ao11 t524.length co11, .slice Ao12 t527.length co12] 27 (0, 0)) (by (with_reducible repeat (first | refine blk_drewN ?_ _ | refine blk_drew ?_ | refine blk_alloc ?_ _)); exact BK531.out) hg (Kd.R_ne HO555.out BK531.out (by decide)))
     have n4_ := Aside0.mk (Kd.R_after (ok := (fun k_ => some k_ ≠ (.slice Ao9 t519.length co9 : Value).ownBlock ∧ some k_ ≠ (.slice Ao11 t524.length co11 : Value).ownBlock ∧ some k_ ≠ (.slice Ao12 t527.length co12 : Value).ownBlock ∧ some k_ ≠ (v543 : Value).ownBlock ∧ some k_ ≠ (.slice Ao57 y556.length co57 : Value).ownBlock)) (by (with_reducible repeat (first | apply Kd.R_alloc | apply Kd.R_drewN | apply Kd.R_drew)); exact Kd.R_mono HO540.out (fun _ hk => ⟨⟨hk.2.2.2.1, ⟨hk.2.2.2.2.1, ⟨hk.2.2.2.2.2, ⟨hk.1, hk.2.2.1⟩⟩⟩⟩, hk.2.1⟩)) hg hat)
     have n5_ := Aside0.mk (Kd.R_after (ok := (fun k_ => some k_ ≠ (.slice Ao9 t519.length co9 : Value).ownBlock ∧ some k_ ≠ (.slice Ao11 t524.length co11 : Value).ownBlock ∧ some k_ ≠ (.slice Ao12 t527.length co12 : Value).ownBlock ∧ some k_ ≠ (.slice Ao49 t538.length co49 : Value).ownBlock ∧ some k_ ≠ (.slice Ao57 y556.length co57 : Value).ownBlock)) (by (with_reducible repeat (first | apply Kd.R_alloc | apply Kd.R_drewN | apply Kd.R_drew)); exact Kd.R_mono HO544.out (fun _ hk => ⟨⟨hk.2.2.2.1, ⟨hk.2.2.2.2.1, ⟨hk.2.2.2.2.2, ⟨hk.1, hk.2.2.1⟩⟩⟩⟩, hk.2.1⟩)) hg hat)
     have n6_ := Aside0.mk (Kd.R_after (ok := (fun k_ => some k_ ≠ (.slice Ao9 t519.length co9 : Value).ownBlock ∧ some k_ ≠ (.slice Ao11 t524.length co11 : Value).ownBlock ∧ some k_ ≠ (.slice Ao12 t527.length co12 : Value).ownBlock ∧ some k_ ≠ (.slice Ao49 t538.length co49 : Value).ownBlock ∧ some k_ ≠ (v543 : Value).ownBlock)) (by (with_reducible repeat (first | apply Kd.R_alloc | apply Kd.R_drewN | apply Kd.R_drew)); exact Kd.R_mono HO558.out (fun _ hk => ⟨⟨hk.2.2.2.1, ⟨hk.2.2.2.2.1, ⟨hk.2.2.2.2.2, ⟨hk.1, hk.2.1⟩⟩⟩⟩, hk.2.2.1⟩)) hg hat)
     have n7_ := Aside0.mk (hb)
     have n8_ := Aside0.mk (ho)
     clear HO_532000
     clear HO_532003
     clear HO_532004
     clear BK531
     clear HO540
     clear HO544
     clear HO558
     clear HB
     clear HO555
     have HO_532000 := n0_
     have HO_532003 := n1_
     have HO_532004 := n2_
     have BK531 := n3_
     have HO540 := n4_
     have HO544 := n5_
     have HO558 := n6_
     have HB := n7_
     have HO561 := n8_
     clear n0_ n1_ n2_ n3_ n4_ n5_ n6_ n7_ n8_
     clear ho hb hg hat
     refine hK.out _ _ ⟨(blk_cell BK531.out 0).trans rfl, (blk_cell BK531.out 1).trans rfl, (blk_cell BK531.out 2).trans rfl, (blk_cell BK531.out 3).trans rfl, (blk_cell BK531.out 4).trans rfl⟩ (fun hHeld => ?_)
     clear hK K
     refine norm_ (a' := ?_) ?_ ?_
     rotate_left
     ·show Act.put _ (some 88) _ = _
      simp only [Act.put, List.setIfInBounds_toArray, List.set_cons_zero, List.set_cons_succ, i64_w, i32_w]
      rfl
     refine pure_ (i := 9) (N := some 16) (v := ?_) (a' := ?_) #[true, true, true, true, true, true, true, true, true, true] rfl rfl (any_of HT_.out (by kernel_rfl)) (fun _ _ _ h => h) (Or.inl ⟨by rfl, ?_⟩) ?_ ?_
     rotate_left
     ·intro w'
      go_simp
      with_reducible rfl
     rotate_left
     ·simp only [Act.put, List.setIfInBounds_toArray, List.set_cons_zero, List.set_cons_succ, i64_w, i32_w]
      rfl
     refine done_ (done_of HT_.out (by kernel_rfl)) ?_
     have q58 : ((ji29) : Int) ≤ ((t538.length : Int) : Int) := of_decide_eq_true (by first | (with_reducible assumption) | assumption)
     obtain ⟨i058, hi058, _, hsz58, _⟩ := info_parts info25
     have hroom58 : t538.length ≤ co49 := (Kd.R_reads' HO540.out).2.1
     have hC58 : Kd.C k25 _ Ao49 t538.length t538 := (Kd.R_reads' HO540.out).2.2
     have q058 : (0 : Int) ≤ ((ji29) : Int) := of_decide_eq_true (by first | (with_reducible assumption) | assumption)
     have hcut58 := cut_from (P := Tryd.prog) 23 25 .i64 Tryd.underlying23 hi058 2 hsz58 Ao49 t538.length co49 (ji29) q058 q58
     have hr58 := Kd.C_drop (m := ((ji29) : Int).toNat) (c := co49) hC58 (by omega) hroom58
     obtain ⟨A58, hA58⟩ : ∃ Az_, Az_ = (if co49 = ((ji29) : Int).toNat then Ao49 else (Ao49 : Option Addr).map (·.add (((ji29) : Int).toNat * 2))) := ⟨_, rfl⟩
     obtain ⟨c58, hc58⟩ : ∃ cz_, cz_ = co49 - ((ji29) : Int).toNat := ⟨_, rfl⟩
     have hy58 : y562.length = t538.length - ((ji29) : Int).toNat := (by rw [Ny562.out, List.length_drop] <;> omega)
     rw [show (t538).drop ((ji29) : Int).toNat = y562 from Ny562.out.symm] at hr58
     replace hr58 : Kd.C k25 _ A58 y562.length y562 := (by rw [hA58]; exact hr58)
     rw [← hy58, ← hA58, ← hc58] at hcut58
     have HR565 := Aside0.mk hr58
     have HC565 := Aside0.mk (show y562.length ≤ c58 from by rw [hy58, hc58]; exact Nat.sub_le_sub_right hroom58 _)
     clear hr58 hC58 hroom58 hi058 hsz58 hc58
     have KY58 := Aside0.mk hy58
     have KA58 := Aside0.mk hA58
     clear hy58 hA58
     have KL58 := Aside0.mk (show ((ji29) : Int).toNat ≤ t538.length from by omega)
     replace q58 := eq_true q58
     try go_wp2_with (first | ((with_reducible refine gate_builtin (b := .append) (xs := #[.tmp 89, .tmp 92]) rfl ?_); at_builtin; refine Kd.R_append_rows k25 (w0 := w) w.heap.size rfl (.tmp 89) (.tmp 92) 23 25 (.agg #[(.int .i64 0), (.bool false)]) 16 rfl Tryd.underlying23 info25 rfl (by decide) (by omega) v560 y559 y562 _ _ _ (fun k_ => some k_ ≠ (.slice Ao9 t519.length co9 : Value).ownBlock ∧ some k_ ≠ (.slice Ao11 t524.length co11 : Value).ownBlock ∧ some k_ ≠ (.slice Ao12 t527.length co12 : Value).ownBlock ∧ some k_ ≠ (.slice Ao49 t538.length co49 : Value).ownBlock ∧ some k_ ≠ (v543 : Value).ownBlock ∧ some k_ ≠ (.slice Ao57 y556.length co57 : Value).ownBlock) (fun _ => False) rfl rfl ?aO ?aR (fun _ _ h => h) (fun _ h => h.elim) ?aF ?aB ?aS ?aL ?_; (case aR => repeat (first | exact (by repeat (first | (with_reducible exact HR565.out) | (with_reducible refine Kd.C_alloc ?_ _) | (with_reducible refine Kd.C_drewN ?_ _) | (with_reducible refine Kd.C_drew ?_) | exact HR565.out)) | (with_reducible refine Kd.C_alloc ?_ _) | (with_reducible refine Kd.C_drewN ?_ _) | (with_reducible refine Kd.C_drew ?_))); (case aB => exact (by repeat (first | (with_reducible first | exact HB.out | apply below_alloc | apply pw_below_drewN | apply below_drew1 | refine below_set ?_ GE531.out) | exact HB.out))); (case aF => exact (fun k_ hk => ⟨Kd.fresh' (Kd.R_lt (by (with_reducible repeat (first | apply Kd.R_alloc | apply Kd.R_drewN | apply Kd.R_drew)); exact HO_532000.out)) k_ hk, Kd.fresh' (Kd.R_lt (by (with_reducible repeat (first | apply Kd.R_alloc | apply Kd.R_drewN | apply Kd.R_drew)); exact HO_532003.out)) k_ hk, Kd.fresh' (Kd.R_lt (by (with_reducible repeat (first | apply Kd.R_alloc | apply Kd.R_drewN | apply Kd.R_drew)); exact HO_532004.out)) k_ hk, Kd.fresh' (Kd.R_lt (by (with_reducible repeat (first | apply Kd.R_alloc | apply Kd.R_drewN | apply Kd.R_drew)); exact HO540.out)) k_ hk, Kd.fresh' (Kd.R_lt (by (with_reducible repeat (first | apply Kd.R_alloc | apply Kd.R_drewN | apply Kd.R_drew)); exact HO544.out)) k_ hk, Kd.fresh' (Kd.R_lt (by (with_reducible repeat (first | apply Kd.R_alloc | apply Kd.R_drewN | apply Kd.R_drew)); exact HO558.out)) k_ hk⟩)); (case aO => exact (by (with_reducible repeat (first | apply Kd.R_alloc | apply Kd.R_drewN | apply Kd.R_drew)); exact HO561.out)); (case aS => exact (below_size (by repeat (first | (with_reducible first | exact HB.out | apply below_alloc | apply pw_below_drewN | apply below_drew1 | refine below_set ?_ GE531.out) | exact HB.out)))); (case aL => have := LMc36.out; omega); intro v567 w59 ho hb hg hat; rw [← Ny566.out] at ho; have n0_ := Aside0.mk (Kd.R_after (ok := (fun k_ => some k_ ≠ (.slice Ao11 t524.length co11 : Value).ownBlock ∧ some k_ ≠ (.slice Ao12 t527.length co12 : Value).ownBlock ∧ some k_ ≠ (.slice Ao49 t538.length co49 : Value).ownBlock ∧ some k_ ≠ (v543 : Value).ownBlock ∧ some k_ ≠ (.slice Ao57 y556.length co57 : Value).ownBlock)) (by (with_reducible repeat (first | apply Kd.R_alloc | apply Kd.R_drewN | apply Kd.R_drew)); exact HO_532000.out) hg hat); have n1_ := Aside0.mk (Kd.R_after (ok := (fun k_ => some k_ ≠ (.slice Ao9 t519.length co9 : Value).ownBlock ∧ some k_ ≠ (.slice Ao12 t527.length co12 : Value).ownBlock ∧ some k_ ≠ (.slice Ao49 t538.length co49 : Value).ownBlock ∧ some k_ ≠ (v543 : Value).ownBlock ∧ some k_ ≠ (.slice Ao57 y556.length co57 : Value).ownBlock)) (by (with_reducible repeat (first | apply Kd.R_alloc | apply Kd.R_drewN | apply Kd.R_drew)); exact HO_532003.out) hg hat); have n2_ := Aside0.mk (Kd.R_after (ok := (fun k_ => some k_ ≠ (.slice Ao9 t519.length co9 : Value).ownBlock ∧ some k_ ≠ (.slice Ao11 t524.length co11 : Value).ownBlock ∧ some k_ ≠ (.slice Ao49 t538.length co49 : Value).ownBlock ∧ some k_ ≠ (v543 : Value).ownBlock ∧ some k_ ≠ (.slice Ao57 y556.length co57 : Value).ownBlock)) (by (with_reducible repeat (first | apply Kd.R_alloc | apply Kd.R_drewN | apply Kd.R_drew)); exact HO_532004.out) hg hat); have n3_ := Aside0.mk (blk_grown (g := gb531) (o := .cells #[.slice Ao9 t519.length co9, .int .i64 t522, .bool t523, .slice Ao11 t524.length co11, .slice Ao12 t527.length co12] 27 (0, 0)) (by (with_reducible repeat (first | refine blk_drewN ?_ _ | refine blk_drew ?_ | refine blk_alloc ?_ _)); exact BK531.out) hg (Kd.R_ne HO561.out BK531.out (by decide))); have n4_ := Aside0.mk (Kd.R_after (ok := (fun k_ => some k_ ≠ (.slice Ao9 t519.length co9 : Value).ownBlock ∧ some k_ ≠ (.slice Ao11 t524.length co11 : Value).ownBlock ∧ some k_ ≠ (.slice Ao12 t527.length co12 : Value).ownBlock ∧ some k_ ≠ (v543 : Value).ownBlock ∧ some k_ ≠ (.slice Ao57 y556.length co57 : Value).ownBlock)) (by (with_reducible repeat (first | apply Kd.R_alloc | apply Kd.R_drewN | apply Kd.R_drew)); exact HO540.out) hg hat); have n5_ := Aside0.mk (Kd.R_after (ok := (fun k_ => some k_ ≠ (.slice Ao9 t519.length co9 : Value).ownBlock ∧ some k_ ≠ (.slice Ao11 t524.length co11 : Value).ownBlock ∧ some k_ ≠ (.slice Ao12 t527.length co12 : Value).ownBlock ∧ some k_ ≠ (.slice Ao49 t538.length co49 : Value).ownBlock ∧ some k_ ≠ (.slice Ao57 y556.length co57 : Value).ownBlock)) (by (with_reducible repeat (first | apply Kd.R_alloc | apply Kd.R_drewN | apply Kd.R_drew)); exact HO544.out) hg hat); have n6_ := Aside0.mk (Kd.R_after (ok := (fun k_ => some k_ ≠ (.slice Ao9 t519.length co9 : Value).ownBlock ∧ some k_ ≠ (.slice Ao11 t524.length co11 : Value).ownBlock ∧ some k_ ≠ (.slice Ao12 t527.length co12 : Value).ownBlock ∧ some k_ ≠ (.slice Ao49 t538.length co49 : Value).ownBlock ∧ some k_ ≠ (v543 : Value).ownBlock)) (by (with_reducible repeat (first | apply Kd.R_alloc | apply Kd.R_drewN | apply Kd.R_drew)); exact HO558.out) hg hat); have n7_ := Aside0.mk (hb); have n8_ := Aside0.mk ((show Kd.C k25 w59 A58 y562.length y562 from by rw [Ny562.out, KA58.out]; exact Kd.C_drop (m := ((ji29) : Int).toNat) (c := co49) ((Kd.R_reads' (Kd.R_after (ok := (fun k_ => some k_ ≠ (.slice Ao9 t519.length co9 : Value).ownBlock ∧ some k_ ≠ (.slice Ao11 t524.length co11 : Value).ownBlock ∧ some k_ ≠ (.slice Ao12 t527.length co12 : Value).ownBlock ∧ some k_ ≠ (v543 : Value).ownBlock ∧ some k_ ≠ (.slice Ao57 y556.length co57 : Value).ownBlock)) (by (with_reducible repeat (first | apply Kd.R_alloc | apply Kd.R_drewN | apply Kd.R_drew)); exact HO540.out) hg hat)).2.2) KL58.out ((Kd.R_reads' (Kd.R_after (ok := (fun k_ => some k_ ≠ (.slice Ao9 t519.length co9 : Value).ownBlock ∧ some k_ ≠ (.slice Ao11 t524.length co11 : Value).ownBlock ∧ some k_ ≠ (.slice Ao12 t527.length co12 : Value).ownBlock ∧ some k_ ≠ (v543 : Value).ownBlock ∧ some k_ ≠ (.slice Ao57 y556.length co57 : Value).ownBlock)) (by (with_reducible repeat (first | apply Kd.R_alloc | apply Kd.R_drewN | apply Kd.R_drew)); exact HO540.out) hg hat)).2.1))); have n9_ := Aside0.mk (ho); clear HO_532000; clear HO_532003; clear HO_532004; clear BK531; clear HO540; clear HO544; clear HO558; clear HB; clear HR565; clear HO561; have HO_532000 := n0_; have HO_532003 := n1_; have HO_532004 := n2_; have BK531 := n3_; have HO540 := n4_; have HO544 := n5_; have HO558 := n6_; have HB := n7_; have HR565 := n8_; have HO568 := n9_; clear n0_ n1_ n2_ n3_ n4_ n5_ n6_ n7_ n8_ n9_; clear ho hb hg hat; have hcz60_0 : w59.cell? ⟨gb531, 0, none⟩ = some (.slice Ao9 t519.length co9) := (blk_cell BK531.out 0).trans rfl; have hcz60_1 : w59.cell? ⟨gb531, 1, none⟩ = some (.int .i64 t522) := (blk_cell BK531.out 1).trans rfl; have hcz60_2 : w59.cell? ⟨gb531, 2, none⟩ = some (.bool t523) := (blk_cell BK531.out 2).trans rfl; have hcz60_3 : w59.cell? ⟨gb531, 3, none⟩ = some (.slice Ao11 t524.length co11) := (blk_cell BK531.out 3).trans rfl; have hcz60_4 : w59.cell? ⟨gb531, 4, none⟩ = some (.slice Ao12 t527.length co12) := (blk_cell BK531.out 4).trans rfl; have hfz60_0 := blk_frozen BK531.out 0; have hfz60_1 := blk_frozen BK531.out 1; have hfz60_2 := blk_frozen BK531.out 2; have hfz60_3 := blk_frozen BK531.out 3; have hfz60_4 := blk_frozen BK531.out 4) | (go_at_call 25; (with_reducible refine (impl_PsalmTenors.calls kj20 _ _ t519 t522 t523 _ _ t524 _ _ t527 ((t534 ++ (⟨#[124, 120]⟩ : ByteArray)) ++ t535) t569 _ ?side1 ?side2 ?side3 ?side4 ?side5 ?side6 ?side7 A39.out).mono ?_); (case side1 => repeat (first | exact (Kd.R_reads' HO_532000.out).2.2 | (with_reducible refine Kd.C_alloc ?_ _) | (with_reducible refine Kd.C_drewN ?_ _) | (with_reducible refine Kd.C_drew ?_))); (case side2 => exact (Kd.R_reads' HO_532000.out).2.1); (case side3 => repeat (first | exact (Kd.R_reads' HO_532003.out).2.2 | (with_reducible refine Kd.C_alloc ?_ _) | (with_reducible refine Kd.C_drewN ?_ _) | (with_reducible refine Kd.C_drew ?_))); (case side4 => exact (Kd.R_reads' HO_532003.out).2.1); (case side5 => repeat (first | exact (Kd.R_reads' HO_532004.out).2.2 | (with_reducible refine Kd.C_alloc ?_ _) | (with_reducible refine Kd.C_drewN ?_ _) | (with_reducible refine Kd.C_drew ?_))); (case side6 => exact (Kd.R_reads' HO_532004.out).2.1); (case side7 => exact GOk.sub (GOk.below HG.out (by repeat (first | (with_reducible first | exact HB.out | apply below_alloc | apply pw_below_drewN | apply below_drew1 | refine below_set ?_ GE531.out) | exact HB.out))) (by decide)); rintro e w61 ⟨rfl, hb⟩; have n0_ := Aside0.mk (Kd.R_below (by (with_reducible repeat (first | apply Kd.R_alloc | apply Kd.R_drewN | apply Kd.R_drew)); exact HO_532000.out) hb); have n1_ := Aside0.mk (Kd.R_below (by (with_reducible repeat (first | apply Kd.R_alloc | apply Kd.R_drewN | apply Kd.R_drew)); exact HO_532003.out) hb); have n2_ := Aside0.mk (Kd.R_below (by (with_reducible repeat (first | apply Kd.R_alloc | apply Kd.R_drewN | apply Kd.R_drew)); exact HO_532004.out) hb); have n3_ := Aside0.mk (Kd.R_below (by (with_reducible repeat (first | apply Kd.R_alloc | apply Kd.R_drewN | apply Kd.R_drew)); exact HO540.out) hb); have n4_ := Aside0.mk (Kd.R_below (by (with_reducible repeat (first | apply Kd.R_alloc | apply Kd.R_drewN | apply Kd.R_drew)); exact HO544.out) hb); have n5_ := Aside0.mk (Kd.R_below (by (with_reducible repeat (first | apply Kd.R_alloc | apply Kd.R_drewN | apply Kd.R_drew)); exact HO558.out) hb); have n6_ := Aside0.mk (Kd.R_below (by (with_reducible repeat (first | apply Kd.R_alloc | apply Kd.R_drewN | apply Kd.R_drew)); exact HO568.out) hb); have n7_ := Aside0.mk (blk_below (g := gb531) (o := .cells #[.slice Ao9 t519.length co9, .int .i64 t522, .bool t523, .slice Ao11 t524.length co11, .slice Ao12 t527.length co12] 27 (0, 0)) (by (with_reducible repeat (first | refine blk_drewN ?_ _ | refine blk_drew ?_ | refine blk_alloc ?_ _)); exact BK531.out) hb); have n8_ := Aside0.mk (Kd.C_below (by repeat (first | (with_reducible exact HR565.out) | (with_reducible refine Kd.C_alloc ?_ _) | (with_reducible refine Kd.C_drewN ?_ _) | (with_reducible refine Kd.C_drew ?_) | exact HR565.out)) hb); have n9_ := Aside0.mk (below_step (by repeat (first | (with_reducible first | exact HB.out | apply below_alloc | apply pw_below_drewN | apply below_drew1 | refine below_set ?_ GE531.out) | exact HB.out)) hb); clear HO_532000; clear HO_532003; clear HO_532004; clear HO540; clear HO544; clear HO558; clear HO568; clear BK531; clear HR565; clear HB; have HO_532000 := n0_; have HO_532003 := n1_; have HO_532004 := n2_; have HO540 := n3_; have HO544 := n4_; have HO558 := n5_; have HO568 := n6_; have BK531 := n7_; have HR565 := n8_; have HB := n9_; clear n0_ n1_ n2_ n3_ n4_ n5_ n6_ n7_ n8_ n9_; (try clear hb); (try clear hb2); (try clear hk); (try clear hi); obtain ⟨Ao62, co62, eo62⟩ := Kd.R_slice HO544.out; subst eo62; obtain ⟨Ao63, co63, eo63⟩ := Kd.R_slice HO568.out; subst eo63) | (go_at_call 32; (with_reducible refine (laws_sameTones.calls kj20 _ _ t542 _ _ y566 t570 _ ?side1 ?side2 ?side3 ?side4 A41.out).mono ?_); (case side1 => repeat (first | exact (Kd.R_reads' HO544.out).2.2 | (with_reducible refine Kd.C_alloc ?_ _) | (with_reducible refine Kd.C_drewN ?_ _) | (with_reducible refine Kd.C_drew ?_))); (case side2 => exact (Kd.R_reads' HO544.out).2.1); (case side3 => repeat (first | exact (Kd.R_reads' HO568.out).2.2 | (with_reducible refine Kd.C_alloc ?_ _) | (with_reducible refine Kd.C_drewN ?_ _) | (with_reducible refine Kd.C_drew ?_))); (case side4 => exact (Kd.R_reads' HO568.out).2.1); rintro e w' ⟨rfl, ⟨nd, rfl⟩⟩))
     go_ret
     exact ⟨by first | rfl | (simp [errW_none, errW_some] <;> rfl) | (simp only [← hji29]; first | rfl | (simp [errW_none, errW_some] <;> rfl)) | (simp [*, errW_none, errW_some] <;> rfl), by repeat (first | (with_reducible first | exact HB.out | apply below_alloc | apply pw_below_drewN | apply below_drew1 | refine below_set ?_ GE531.out) | exact HB.out)⟩
def laws_FnPsalmMore.Pure : Prop := ∀ (l0 : List Int), l0.length ≤ maxLen → l0.length * 1 ≤ 140737488351232 → (∀ x ∈ l0, (Lit.int .u8 x).wf = true) → ∃ k, laws_FnPsalmMore.f k l0 = some true
end Go.Proofs.YtdgmkfbmeaalpaaDoor.E
end
section
namespace Go.Proofs.YtdgmkfbmeaalpaaDoor.Pur
open Go.RowKit Go.Proofs.YtdgmkfbmeaalpaaDoorW.PrintWords
def EvP {α : Type} (g : Nat → Option α) (P : α → Prop) : Prop := ∃ r, Ev g r ∧ P r
section
variable {α β : Type}
theorem EvP.bind {g : Nat → Option α} {f : Nat → α → Option β} {P : α → Prop} {Q : β → Prop} (h : EvP g P) (k : ∀ a, P a → EvP (fun n => f n a) Q) : EvP (fun n => (g n).bind (f n)) Q := by
  obtain ⟨a, ha, hp⟩ := h
  obtain ⟨b, hb, hq⟩ := k a hp
  exact ⟨b, Ev.bind ha hb, hq⟩
theorem EvP.ret {P : α → Prop} {r : α} (h : P r) : EvP (fun _ => some r) P := ⟨r, Ev.now r, h⟩
theorem EvP.con {o : Option α} {P : α → Prop} {r : α} (h : o = some r) (hp : P r) : EvP (fun _ => o) P := by subst h; exact .ret hp
theorem EvP.ite {c : Prop} [Decidable c] {f g : Nat → Option α} {P : α → Prop} (h : c → EvP f P) (k : ¬ c → EvP g P) : EvP (fun n => if c then f n else g n) P := by
  by_cases hc : c
  · obtain ⟨r, hr, hp⟩ := h hc
    exact ⟨r, Ev.congr (fun n => if_pos hc) hr, hp⟩
  · obtain ⟨r, hr, hp⟩ := k hc
    exact ⟨r, Ev.congr (fun n => if_neg hc) hr, hp⟩
theorem EvP.yes {c : Prop} [Decidable c] {f g : Nat → Option α} {P : α → Prop} (hc : c) (h : EvP f P) : EvP (fun n => if c then f n else g n) P := .ite (fun _ => h) (fun k => absurd hc k)
theorem EvP.no {c : Prop} [Decidable c] {f g : Nat → Option α} {P : α → Prop} (hc : ¬ c) (h : EvP g P) : EvP (fun n => if c then f n else g n) P := .ite (fun k => absurd k hc) (fun _ => h)
theorem EvP.step {g f : Nat → Option α} {P : α → Prop} (h : ∀ k, g (k + 1) = f k) (k : EvP f P) : EvP g P := by
  obtain ⟨r, hr, hp⟩ := k
  exact ⟨r, Ev.step h hr, hp⟩
theorem EvP.succ {g : Nat → Option α} {P : α → Prop} (k : EvP (fun n => g (n + 1)) P) : EvP g P := EvP.step (fun _ => rfl) k
theorem EvP.mono {g : Nat → Option α} {P Q : α → Prop} (h : EvP g P) (k : ∀ r, P r → Q r) : EvP g Q := by
  obtain ⟨r, hr, hp⟩ := h
  exact ⟨r, hr, k r hp⟩
theorem EvP.rounds {g : Nat → Option α} {r : α} (h : EvP g (· = r)) : ∃ k, g k = some r := by
  obtain ⟨_, hr, rfl⟩ := h
  exact hr.rounds
end
structure Hd (p : Prop) : Prop where mk :: (out : p)
theorem w64 {i : Int} (h0 : -9223372036854775808 ≤ i) (h1 : i ≤ 9223372036854775807) : wrap64 i = i := by unfold wrap64; omega
theorem tmod_pos {a : Int} (b : Int) (h : 0 ≤ a) : Int.tmod a b = a % b := Int.tmod_eq_emod_of_nonneg h
theorem tdiv_pos {a : Int} (b : Int) (h : 0 ≤ a) : Int.tdiv a b = a / b := Int.tdiv_eq_ediv_of_nonneg h
theorem toNat_nat (n : Nat) : ((n : Int)).toNat = n := rfl
theorem toNat_succ (n : Nat) : ((n : Int) + 1).toNat = n + 1 := by omega
end Go.Proofs.YtdgmkfbmeaalpaaDoor.Pur
end
section
namespace Go.Proofs.YtdgmkfbmeaalpaaDoor.E
open Go.RowKit Go.Proofs.YtdgmkfbmeaalpaaDoorW.PrintWords Go.Proofs.YtdgmkfbmeaalpaaDoorW.PrintLast Go.Proofs.YtdgmkfbmeaalpaaDoorW.PrintMore
attribute [local go_sem] max2_int min2_int max_two min_two max_three min_three max_four min_four
set_option linter.unusedVariables false
set_option linter.unusedSimpArgs false
attribute [local go_sem] str_leq_ str_gtr_ str_geq_
def impl_VerseSyllables.f (a0 : ByteArray) : Option (Int) := (impl_VerseHalves.f a0).bind fun bt613 => (if bt613.2.2 = true then (some (wrap64 ((bt613.1.size : Int) + (bt613.2.1.size : Int)))) else (some (-1)))
end Go.Proofs.YtdgmkfbmeaalpaaDoor.E
end
section
namespace Go.Proofs.YtdgmkfbmeaalpaaDoor.Pur
open Go.RowKit Go.Proofs.YtdgmkfbmeaalpaaDoorW.PrintWords Go.Proofs.YtdgmkfbmeaalpaaDoorW.PrintMore Go.Proofs.YtdgmkfbmeaalpaaDoor.E
theorem bt_at (t : ByteArray) (i : Nat) (h : i < t.size) : bt t (i : Int) = ((t.data.toList[i]'(by rw [Array.length_toList]; exact h)).toNat : Int) := by
  unfold bt
  rw [toNat_nat, dif_pos h, Array.getElem_toList]
  rfl
theorem list_len (t : ByteArray) : t.data.toList.length = t.size := Array.length_toList
theorem ba_ext {a b : ByteArray} (h : a.data.toList = b.data.toList) : a = b := by
  cases a; cases b
  congr 1
  exact Array.toList_inj.mp h
theorem ba_list (l : List UInt8) : (⟨l.toArray⟩ : ByteArray).data.toList = l := rfl
theorem ba_size (l : List UInt8) : (⟨l.toArray⟩ : ByteArray).size = l.length := by rw [← list_len]
def cutL : List UInt8 → List UInt8 × List UInt8 × Bool
  | [] => ([], [], false)
  | b :: l => if b = 124 then ([], l, true) else (b :: (cutL l).1, (cutL l).2.1, (cutL l).2.2)
theorem cut_is : ∀ l : List UInt8, Lib.cut l [124] = if (cutL l).2.2 = true then cutL l else (l, [], false)
  | [] => rfl
  | b :: l => by
    have ih := cut_is l
    have hge := Lib.index_ge l [124]
    have hp : List.isPrefixOf [(124 : UInt8)] (b :: l) = ((124 : UInt8) == b) := by simp [List.isPrefixOf]
    unfold Lib.cut at ih ⊢
    rw [Lib.index, hp, cutL]
    by_cases h : b = 124
    · subst h
      simp
    · rw [if_neg h, show ((124 : UInt8) == b) = false from beq_eq_false_iff_ne.mpr (fun e => h e.symm)]
      simp only [Bool.false_eq_true, if_false]
      by_cases g : Lib.index l [124] = -1
      · have e : (if (Lib.index l [124] == -1) = true then -1 else Lib.index l [124] + 1) = -1 := by rw [g]; rfl
        rw [e, if_neg (by decide)]
        rw [g, if_neg (by decide)] at ih
        by_cases k : (cutL l).2.2 = true
        · rw [if_pos k] at ih
          rw [← ih] at k
          exact absurd k Bool.false_ne_true
        · rw [if_neg k]
      · have e : (if (Lib.index l [124] == -1) = true then -1 else Lib.index l [124] + 1) = Lib.index l [124] + 1 := if_neg (fun h => g (by simpa using h))
        rw [e, if_pos (by omega)]
        rw [if_pos (by omega)] at ih
        by_cases k : (cutL l).2.2 = true
        · rw [if_pos k] at ih ⊢
          rw [← ih]
          obtain ⟨j, ej⟩ : ∃ j : Nat, Lib.index l [124] = (j : Int) := ⟨(Lib.index l [124]).toNat, by omega⟩
          rw [ej]
          simp only [toNat_nat, toNat_succ, List.take_succ_cons, List.length_singleton]
          rw [show j + 1 + 1 = (j + 1) + 1 from rfl, List.drop_succ_cons]
        · rw [if_neg k] at ih
          have := congrArg (fun x => x.2.2) ih
          exact absurd this (by simp)
theorem cut_miss : ∀ l : List UInt8, (cutL l).2.2 = false → cutL l = (l, [], false)
  | [], _ => rfl
  | b :: l, h => by
    rw [cutL] at h ⊢
    by_cases g : b = 124
    · rw [if_pos g] at h; cases h
    · rw [if_neg g] at h ⊢
      have := cut_miss l h
      rw [this]
theorem cut_eq (l : List UInt8) : Lib.cut l [124] = cutL l := by
  rw [cut_is]
  by_cases h : (cutL l).2.2 = true
  · rw [if_pos h]
  · rw [if_neg h, cut_miss l (Bool.eq_false_iff.mpr h)]
theorem cut_len : ∀ l : List UInt8, (cutL l).1.length + (cutL l).2.1.length + (if (cutL l).2.2 = true then 1 else 0) = l.length
  | [] => rfl
  | b :: l => by
    have ih := cut_len l
    rw [cutL]
    by_cases g : b = 124
    · rw [if_pos g]; simp
    · rw [if_neg g]
      simp only [List.length_cons]
      omega
def halfL (l : List UInt8) : Bool := !l.isEmpty && l.all (fun b => b == 120 || b == 47)
def verse (s : ByteArray) : Option (ByteArray × ByteArray) := if (cutL s.data.toList).2.2 = true ∧ halfL (cutL s.data.toList).1 = true ∧ halfL (cutL s.data.toList).2.1 = true ∧ (cutL s.data.toList).1.length + (cutL s.data.toList).2.1.length ≤ 20 then some (⟨(cutL s.data.toList).1.toArray⟩, ⟨(cutL s.data.toList).2.1.toArray⟩) else none
def halvesOf (s : ByteArray) : ByteArray × ByteArray × Bool := match verse s with
  | some (a, b) => (a, b, true)
  | none => (⟨#[]⟩, ⟨#[]⟩, false)
theorem verse_some {s a b : ByteArray} (h : verse s = some (a, b)) : a.size + b.size ≤ 20 ∧ 1 ≤ a.size ∧ 1 ≤ b.size ∧ s.size = a.size + b.size + 1 ∧ halfL a.data.toList = true ∧ halfL b.data.toList = true ∧ a.data.toList = (cutL s.data.toList).1 ∧ b.data.toList = (cutL s.data.toList).2.1 := by
  unfold verse at h
  split at h
  · rename_i g
    obtain ⟨g1, g2, g3, g4⟩ := g
    simp only [Option.some.injEq, Prod.mk.injEq] at h
    obtain ⟨rfl, rfl⟩ := h
    have hl := cut_len s.data.toList
    rw [if_pos g1, list_len s] at hl
    have n1 : 1 ≤ (cutL s.data.toList).1.length := by
      rw [halfL, Bool.and_eq_true] at g2
      have := g2.1
      rcases e : (cutL s.data.toList).1 with _ | ⟨x, y⟩
      · rw [e] at this; simp at this
      · simp
    have n2 : 1 ≤ (cutL s.data.toList).2.1.length := by
      rw [halfL, Bool.and_eq_true] at g3
      have := g3.1
      rcases e : (cutL s.data.toList).2.1 with _ | ⟨x, y⟩
      · rw [e] at this; simp at this
      · simp
    have e1 := ba_size (cutL s.data.toList).1
    have e2 := ba_size (cutL s.data.toList).2.1
    refine ⟨by omega, by omega, by omega, by omega, g2, g3, rfl, rfl⟩
  · cases h
theorem dropWhile_nil {α : Type} (p : α → Bool) : ∀ l : List α, l.dropWhile p = [] ↔ l.all p = true
  | [] => by simp
  | a :: l => by
    by_cases h : p a = true
    · simp [h, dropWhile_nil p l]
    · simp [h]
theorem trim_nil (l cs : List UInt8) : Lib.trimS l cs = [] ↔ l.all (cs.contains ·) = true := by
  unfold Lib.trimS Lib.trimLeftS Lib.trimRightS
  rw [dropWhile_nil, List.all_reverse]
  constructor
  · intro h
    rw [List.all_eq_true] at h ⊢
    intro x hx
    by_cases hm : x ∈ l.reverse.dropWhile (cs.contains ·)
    · exact h x hm
    · have hs := List.takeWhile_append_dropWhile (p := fun y => cs.contains y) (l := l.reverse)
      have hx' : x ∈ l.reverse := List.mem_reverse.mpr hx
      rw [← hs, List.mem_append] at hx'
      rcases hx' with g | g
      · have := List.all_takeWhile (p := fun y => cs.contains y) (l := l.reverse)
        rw [List.all_eq_true] at this
        exact this x g
      · exact absurd g hm
  · intro h
    rw [List.all_eq_true] at h ⊢
    intro x hx
    have := (List.dropWhile_sublist (fun y => cs.contains y) (l := l.reverse)).subset hx
    exact h x (List.mem_reverse.mp this)
theorem half_is (t : ByteArray) (ht : t.size ≤ 1000000) : impl_halfValid.f t = some (halfL t.data.toList) := by
  unfold impl_halfValid.f halfL
  rw [ByteArray.toList_eq]
  by_cases h0 : t.data.toList = ([] : List UInt8)
  · rw [if_pos h0, h0]
    rfl
  · rw [if_neg h0]
    unfold strings_Trim.f
    rw [if_pos (by omega), if_pos (by decide), if_pos (by decide)]
    simp only [Option.bind_some]
    congr 1
    have e : (t.data.toList.all (fun b => [120, 47].contains b)) = t.data.toList.all (fun b => b == 120 || b == 47) := by
      congr 1
      funext b
      simp only [List.contains, List.elem]
      cases b == 120 <;> cases b == 47 <;> rfl
    have hne : (!t.data.toList.isEmpty) = true := by
      rcases e : t.data.toList with _ | ⟨x, y⟩
      · exact absurd e h0
      · rfl
    rw [hne, Bool.true_and, ← e]
    rw [Bool.eq_iff_iff, beq_iff_eq, ByteArray.toList_eq]
    exact trim_nil t.data.toList [120, 47]
theorem impl_halves (s : ByteArray) (hs : s.size ≤ 100000000) : impl_VerseHalves.f s = some (halvesOf s) := by
  have hl := cut_len s.data.toList
  rw [list_len s] at hl
  have sz1 : (⟨(cutL s.data.toList).1.toArray⟩ : ByteArray).size = (cutL s.data.toList).1.length := ba_size _
  have sz2 : (⟨(cutL s.data.toList).2.1.toArray⟩ : ByteArray).size = (cutL s.data.toList).2.1.length := ba_size _
  unfold impl_VerseHalves.f strings_Cut.f halvesOf verse
  rw [if_pos (by omega), show (⟨#[124]⟩ : ByteArray).data.toList = [124] from rfl, cut_eq]
  simp only [Option.bind_some]
  by_cases g1 : (cutL s.data.toList).2.2 = true
  rotate_left
  · rw [if_neg g1, if_neg (fun h => g1 h.1)]
  rw [if_pos g1, sz1, sz2, w64 (by omega) (by omega)]
  by_cases g4 : (cutL s.data.toList).1.length + (cutL s.data.toList).2.1.length ≤ 20
  rotate_left
  · rw [if_pos (by omega), if_neg (fun h => g4 h.2.2.2)]
  rw [if_neg (by omega), half_is _ (by omega), half_is _ (by omega)]
  simp only [Option.bind_some]
  by_cases g2 : halfL (cutL s.data.toList).1 = true
  rotate_left
  · rw [if_neg g2, if_neg (fun h => g2 h.2.1)]
  rw [if_pos g2]
  by_cases g3 : halfL (cutL s.data.toList).2.1 = true
  · rw [if_pos g3, if_pos ⟨g1, g2, g3, g4⟩]
  · rw [if_neg g3, if_neg (fun h => g3 h.2.2.1)]
def hv (s : ByteArray) : ByteArray × ByteArray := (⟨(cutL s.data.toList).1.toArray⟩, ⟨(cutL s.data.toList).2.1.toArray⟩)
theorem cut_at : ∀ (l : List UInt8) (i : Nat), (∀ j, j < i → l[j]? ≠ some 124) → (cutL l).1 = l.take i ++ (cutL (l.drop i)).1 ∧ (cutL l).2.1 = (cutL (l.drop i)).2.1 ∧ (cutL l).2.2 = (cutL (l.drop i)).2.2
  | _, 0, _ => ⟨rfl, rfl, rfl⟩
  | [], i + 1, _ => ⟨rfl, rfl, rfl⟩
  | b :: l, i + 1, h => by
    have hb : b ≠ 124 := fun e => h 0 (by omega) (by rw [e]; rfl)
    have ih := cut_at l i (fun j hj => by have := h (j + 1) (by omega); rwa [List.getElem?_cons_succ] at this)
    rw [cutL, if_neg hb]
    refine ⟨?_, ih.2.1, ih.2.2⟩
    rw [List.take_succ_cons, List.drop_succ_cons, List.cons_append, ih.1]
theorem spec_halves_loop (s : ByteArray) (hs : s.size ≤ 100000000) : ∀ (d i : Nat), i + d = s.size → (∀ j, j < i → s.data.toList[j]? ≠ some 124) → EvP (fun k => spec_l4Halves.l0 k s (i : Int)) (· = hv s) := by
  intro d
  induction d with
  | zero =>
    intro i hi hn
    refine EvP.succ ?_
    simp only [spec_l4Halves.l0]
    refine EvP.no (by omega) (EvP.ret ?_)
    obtain ⟨a, b, c⟩ := cut_at s.data.toList i hn
    have e : s.data.toList.drop i = [] := List.drop_of_length_le (by rw [list_len]; omega)
    rw [e] at a b
    have e2 : s.data.toList.take i = s.data.toList := List.take_of_length_le (by rw [list_len]; omega)
    unfold hv
    rw [a, b, e2]
    refine Prod.ext (ba_ext ?_) (ba_ext rfl)
    rw [ba_list]
    simp [cutL]
  | succ d ih =>
    intro i hi hn
    have hlt : i < s.data.toList.length := by rw [list_len]; omega
    have e2 : Hd (wrap64 ((i : Int) + 1) = ((i + 1 : Nat) : Int)) := ⟨w64 (by omega) (by omega)⟩
    refine EvP.succ ?_
    simp only [spec_l4Halves.l0]
    refine EvP.yes (by omega) (EvP.yes (by omega) ?_)
    rw [bt_at s i (by omega), e2.out]
    refine EvP.ite (fun g => ?_) (fun g => ?_)
    · refine EvP.yes (by omega) (EvP.yes (by omega) (EvP.yes (by omega) (EvP.ret ?_)))
      have eb : s.data.toList[i] = 124 := by rw [← UInt8.toNat_inj]; show _ = 124; omega
      obtain ⟨a, b, c⟩ := cut_at s.data.toList i hn
      rw [List.drop_eq_getElem_cons hlt, eb, cutL, if_pos rfl] at a b
      unfold hv
      rw [a, b]
      refine Prod.ext (ba_ext ?_) (ba_ext ?_)
      · show (s.extract 0 (i : Int).toNat).data.toList = List.take i s.data.toList ++ []
        rw [Lib.extract_eq, toNat_nat, List.append_nil]
        rfl
      · show (s.extract ((i + 1 : Nat) : Int).toNat s.size).data.toList = List.drop (i + 1) s.data.toList
        rw [Lib.extract_eq, toNat_nat, ba_list, List.take_of_length_le (by rw [List.length_drop, list_len s]; omega)]
    · refine ih (i + 1) (by omega) (fun j hj e => ?_)
      by_cases ej : j = i
      · subst ej
        rw [List.getElem?_eq_getElem hlt] at e
        have := Option.some.inj e
        rw [this] at g
        exact g rfl
      · exact hn j (by omega) e
theorem spec_halves (s : ByteArray) (hs : s.size ≤ 100000000) : EvP (fun k => spec_l4Halves.f k s) (· = hv s) := by
  unfold spec_l4Halves.f
  exact spec_halves_loop s hs s.size 0 (by omega) (fun j hj => by omega)
theorem spec_half_loop (t : ByteArray) (ht : t.size ≤ 100000000) : ∀ (d i : Nat), i + d = t.size → EvP (fun k => spec_l4Half.l0 k t (i : Int)) (· = ((t.data.toList.drop i).all (fun b => b == 120 || b == 47) && decide (t.size > 0))) := by
  intro d
  induction d with
  | zero =>
    intro i hi
    refine EvP.succ ?_
    simp only [spec_l4Half.l0]
    refine EvP.no (by omega) (EvP.ret ?_)
    rw [List.drop_of_length_le (by rw [list_len]; omega)]
    rw [List.all_nil, Bool.true_and]
    exact decide_eq_decide.mpr (by omega)
  | succ d ih =>
    intro i hi
    have hlt : i < t.data.toList.length := by rw [list_len]; omega
    have e2 : Hd (wrap64 ((i : Int) + 1) = ((i + 1 : Nat) : Int)) := ⟨w64 (by omega) (by omega)⟩
    refine EvP.succ ?_
    simp only [spec_l4Half.l0]
    refine EvP.yes (by omega) (EvP.yes (by omega) ?_)
    rw [bt_at t i (by omega), e2.out, List.drop_eq_getElem_cons hlt, List.all_cons]
    refine EvP.ite (fun g => ?_) (fun g => EvP.ite (fun g' => ?_) (fun g' => EvP.ret ?_))
    · rw [show t.data.toList[i] = 120 from by rw [← UInt8.toNat_inj]; show _ = 120; omega]
      exact ih (i + 1) (by omega)
    · rw [show t.data.toList[i] = 47 from by rw [← UInt8.toNat_inj]; show _ = 47; omega]
      exact ih (i + 1) (by omega)
    · rw [show (t.data.toList[i] == 120) = false from beq_eq_false_iff_ne.mpr (fun e => g (by rw [e]; rfl)), show (t.data.toList[i] == 47) = false from beq_eq_false_iff_ne.mpr (fun e => g' (by rw [e]; rfl))]
      rfl
theorem spec_half (t : ByteArray) (ht : t.size ≤ 100000000) : EvP (fun k => spec_l4Half.f k t) (· = halfL t.data.toList) := by
  unfold spec_l4Half.f
  refine (spec_half_loop t ht t.size 0 (by omega)).mono (fun r e => ?_)
  rw [e, List.drop_zero, Bool.and_comm]
  unfold halfL
  congr 1
  rw [← list_len]
  rcases t.data.toList with _ | ⟨x, y⟩
  · rfl
  · simp
theorem hv_of {s a b : ByteArray} (h : verse s = some (a, b)) : hv s = (a, b) := by
  obtain ⟨_, _, _, _, _, _, e1, e2⟩ := verse_some h
  unfold hv
  exact Prod.ext (ba_ext e1.symm) (ba_ext e2.symm)
theorem spec_valid_v (s : ByteArray) (hs : s.size ≤ 100000000) : EvP (fun k => spec_VerseValid.f k s) (· = (verse s).isSome) := by
  have hl := cut_len s.data.toList
  rw [list_len s] at hl
  unfold spec_VerseValid.f
  refine EvP.bind (spec_halves s hs) (fun _ e => ?_)
  subst e
  have sz1 : (hv s).1.size = (cutL s.data.toList).1.length := ba_size _
  have sz2 : (hv s).2.size = (cutL s.data.toList).2.1.length := ba_size _
  refine EvP.bind (spec_half (hv s).1 (by omega)) (fun _ e => ?_)
  subst e
  unfold verse
  refine EvP.ite (fun g1 => ?_) (fun g1 => EvP.ret ?_)
  · refine EvP.bind (spec_half (hv s).2 (by omega)) (fun _ e => ?_)
    subst e
    refine EvP.ite (fun g2 => EvP.ret ?_) (fun g2 => EvP.ret ?_)
    · rw [w64 (by omega) (by omega), sz1, sz2]
      have g3 : (cutL s.data.toList).2.2 = true := by
        by_cases k : (cutL s.data.toList).2.2 = true
        · exact k
        · have := cut_miss _ (Bool.eq_false_iff.mpr k)
          have e2 : (hv s).2.data.toList = (cutL s.data.toList).2.1 := rfl
          rw [e2, this] at g2
          exact absurd (show halfL [] = true from g2) (by decide)
      by_cases g4 : (cutL s.data.toList).1.length + (cutL s.data.toList).2.1.length ≤ 20
      · rw [if_pos ⟨g3, g1, g2, g4⟩]
        exact decide_eq_true (by omega)
      · rw [if_neg (fun h => g4 h.2.2.2)]
        exact decide_eq_false (by omega)
    · rw [if_neg (fun h => g2 h.2.2.1)]; rfl
  · rw [if_neg (fun h => g1 h.2.1)]; rfl
theorem impl_valid_v (s : ByteArray) (hs : s.size ≤ 100000000) : impl_VerseValid.f s = some (verse s).isSome := by
  unfold impl_VerseValid.f
  rw [impl_halves s hs]
  simp only [Option.bind_some]
  congr 1
  unfold halvesOf
  split
  · rename_i a b e; rw [e]; rfl
  · rename_i e; rw [e]; rfl
end Go.Proofs.YtdgmkfbmeaalpaaDoor.Pur
end
section
namespace Go.Proofs.YtdgmkfbmeaalpaaDoor.Pur
open Go.RowKit Go.Proofs.YtdgmkfbmeaalpaaDoorW.PrintWords Go.Proofs.YtdgmkfbmeaalpaaDoor.E
def okT (t : S25) : Bool := decide (0 ≤ t.f0) && decide (t.f0 ≤ 20) && (!t.f1 || decide (t.f0 % 7 = 2))
def okM (l : List S25) : Bool := l.all okT && decide (l.length ≤ 24)
theorem spec_valid (t : S25) : spec_ToneValid.f t.f0 t.f1 = some (okT t) := by
  obtain ⟨s, b⟩ := t
  unfold spec_ToneValid.f spec_l6In.f spec_l1Letter.f okT
  by_cases h0 : s ≥ 0
  · rw [if_pos h0]
    by_cases h1 : s ≤ 20
    · cases b <;> simp [h0, h1, tmod_pos, Bool.beq_eq_decide_eq]
    · simp [h0, h1]
  · simp [h0]
theorem impl_valid (t : S25) : impl_Tone_valid.f t.f0 t.f1 = some (okT t) := by
  obtain ⟨s, b⟩ := t
  unfold impl_Tone_valid.f okT
  by_cases h0 : s ≥ 0
  · rw [if_pos h0]
    by_cases h1 : s ≤ 20
    · cases b <;> simp [h0, h1, tmod_pos, Bool.beq_eq_decide_eq]
    · simp [h0, h1]
  · simp [h0]
theorem rdT_lt {l : List S25} {i : Nat} (h : i < l.length) : rd_T25 l (i : Int) = l[i] := by
  unfold rd_T25
  rw [toNat_nat, List.getD_eq_getElem?_getD, List.getElem?_eq_getElem h]
  rfl
theorem all_drop {l : List S25} {i : Nat} (h : i < l.length) : (l.drop i).all okT = (okT l[i] && (l.drop (i + 1)).all okT) := by
  rw [List.drop_eq_getElem_cons h, List.all_cons]
theorem spec_melody_loop (l : List S25) (hl : l.length < 9223372036854775807) : ∀ d i : Nat, i + d = l.length → EvP (fun k => spec_MelodyValid.l0 k l (i : Int)) (· = ((l.drop i).all okT && decide (l.length ≤ 24))) := by
  intro d
  induction d with
  | zero =>
    intro i hi
    refine EvP.succ ?_
    simp only [spec_MelodyValid.l0]
    refine (EvP.no (by omega) (EvP.ret ?_))
    rw [List.drop_of_length_le (by omega)]
    simp only [List.all_nil, Bool.true_and]
    by_cases h : l.length ≤ 24
    · have : (l.length : Int) ≤ 24 := by omega
      simp [h, this]
    · have : ¬ (l.length : Int) ≤ 24 := by omega
      simp [h, this]
  | succ d ih =>
    intro i hi
    have hlt : i < l.length := by omega
    refine EvP.step (fun k => rfl) (EvP.yes (by omega) (EvP.yes (by omega) ?_))
    rw [rdT_lt hlt, all_drop hlt]
    refine EvP.bind (P := (· = okT l[i])) (EvP.con (spec_valid _) rfl) (fun _ e => ?_)
    subst e
    refine EvP.ite (fun h => ?_) (fun h => EvP.ret ?_)
    · rw [w64 (by omega) (by omega), h, Bool.true_and]
      exact ih (i + 1) (by omega)
    · simp [h]
theorem spec_melody (l : List S25) (hl : l.length < 9223372036854775807) : EvP (fun k => spec_MelodyValid.f k l) (· = okM l) := spec_melody_loop l hl l.length 0 (by omega)
theorem impl_melody_loop (l : List S25) (hl : l.length ≤ 24) : ∀ d i : Nat, i + d = l.length → EvP (fun k => impl_MelodyValid.l0 k l (l.length : Int) (i : Int)) (· = (l.drop i).all okT) := by
  intro d
  induction d with
  | zero =>
    intro i hi
    refine EvP.step (fun k => rfl) (EvP.no (by omega) (EvP.ret ?_))
    rw [List.drop_of_length_le (by omega)]
    rfl
  | succ d ih =>
    intro i hi
    have hlt : i < l.length := by omega
    refine EvP.step (fun k => rfl) (EvP.yes (by omega) (EvP.yes (by omega) ?_))
    try refine EvP.yes (by omega) ?_
    rw [rdT_lt hlt, all_drop hlt]
    refine EvP.bind (P := (· = okT l[i])) (EvP.con (impl_valid _) rfl) (fun _ e => ?_)
    subst e
    refine EvP.ite (fun h => ?_) (fun h => EvP.ret ?_)
    · rw [w64 (by omega) (by omega), h, Bool.true_and]
      exact ih (i + 1) (by omega)
    · simp [h]
theorem impl_melody (l : List S25) : EvP (fun k => impl_MelodyValid.f k l) (· = okM l) := by
  unfold impl_MelodyValid.f
  refine EvP.ite (fun h => EvP.ret ?_) (fun h => ?_)
  · simp [okM]; intro; omega
  · have hl : l.length ≤ 24 := by omega
    refine (impl_melody_loop l hl l.length 0 (by omega)).mono (fun r e => ?_)
    rw [e]
    simp [okM, hl]
end Go.Proofs.YtdgmkfbmeaalpaaDoor.Pur
end
section
namespace Go.Proofs.YtdgmkfbmeaalpaaDoor.Pur
open Go.RowKit Go.Proofs.YtdgmkfbmeaalpaaDoorW.PrintWords
def sumN (f : Nat → Nat) : Nat → Nat
  | 0 => 0
  | n + 1 => sumN f n + f n
end Go.Proofs.YtdgmkfbmeaalpaaDoor.Pur
end
section
namespace Go.Proofs.YtdgmkfbmeaalpaaDoor.E
open Go.RowKit Go.Proofs.YtdgmkfbmeaalpaaDoorW.PrintWords Go.Proofs.YtdgmkfbmeaalpaaDoorW.PrintLast Go.Proofs.YtdgmkfbmeaalpaaDoorW.PrintMore
attribute [local go_sem] max2_int min2_int max_two min_two max_three min_three max_four min_four
set_option linter.unusedVariables false
set_option linter.unusedSimpArgs false
attribute [local go_sem] str_leq_ str_gtr_ str_geq_
def impl_PsalmFits.f (k : Nat) (l0_0 : List (S25)) (a0_1 : Int) (a0_2 : Bool) (l0_3 : List (S25)) (l0_4 : List (S25)) (a1 : ByteArray) : Option (Bool) := (impl_sungVerse.f k l0_0 a0_1 a0_2 l0_3 l0_4 a1).bind fun bt224 => (some bt224.2)
end Go.Proofs.YtdgmkfbmeaalpaaDoor.E
end
section
namespace Go.Proofs.YtdgmkfbmeaalpaaDoor.E
open Go.RowKit Go.Proofs.YtdgmkfbmeaalpaaDoorW.PrintWords Go.Proofs.YtdgmkfbmeaalpaaDoorW.PrintLast Go.Proofs.YtdgmkfbmeaalpaaDoorW.PrintMore
attribute [local go_sem] max2_int min2_int max_two min_two max_three min_three max_four min_four
set_option linter.unusedVariables false
set_option linter.unusedSimpArgs false
attribute [local go_sem] str_leq_ str_gtr_ str_geq_
mutual
def spec_PsalmSing.l0 : Nat → ByteArray → ByteArray → List (S25) → List (S25) → Int → Bool → List (S25) → List (S25) → Option ((List (S25)) × Bool)
 | 0, _, _, _, _, _, _, _, _ => none
 | k + 1, x6, x7, x8, x589000, x589001, x589002, x589003, x589004 => if (x8.length : Int) < (wrap64 ((x6.size : Int) - (x589003.length : Int))) then (if x8.length < 8796093022208 then (spec_PsalmSing.l0 k x6 x7 (x8 ++ [(⟨x589001, x589002⟩ : S25)]) x589000 x589001 x589002 x589003 x589004) else (none)) else (if x8.length + x589003.length < 8796093022208 then (spec_PsalmSing.l1 k x6 x7 (x8 ++ x589003) x589000 x589001 x589002 x589003 x589004) else (none))
def spec_PsalmSing.l1 : Nat → ByteArray → ByteArray → List (S25) → List (S25) → Int → Bool → List (S25) → List (S25) → Option ((List (S25)) × Bool)
 | 0, _, _, _, _, _, _, _, _ => none
 | k + 1, x6, x7, x8, x589000, x589001, x589002, x589003, x589004 => if (x8.length : Int) < (wrap64 ((wrap64 ((x6.size : Int) + (x7.size : Int))) - (x589004.length : Int))) then (if x8.length < 8796093022208 then (spec_PsalmSing.l1 k x6 x7 (x8 ++ [(⟨x589001, x589002⟩ : S25)]) x589000 x589001 x589002 x589003 x589004) else (none)) else (if x8.length + x589004.length < 8796093022208 then (some ((x8 ++ x589004), true)) else (none))
end
def spec_PsalmSing.f (k : Nat) (l0_0 : List (S25)) (a0_1 : Int) (a0_2 : Bool) (l0_3 : List (S25)) (l0_4 : List (S25)) (a1 : ByteArray) : Option ((List (S25)) × Bool) := (spec_PsalmFits.f k l0_0 a0_1 a0_2 l0_3 l0_4 a1).bind fun t589 => (if t589 = true then ((spec_l4Halves.f k a1).bind fun bt593 => ((some (([] : List (S25)) : List (S25))).bind fun y595 => (if y595.length + l0_0.length < 8796093022208 then (spec_PsalmSing.l0 k bt593.1 bt593.2 (y595 ++ l0_0) l0_0 a0_1 a0_2 l0_3 l0_4) else (none)))) else (some ((([] : List (S25))), false)))
end Go.Proofs.YtdgmkfbmeaalpaaDoor.E
end
section
namespace Go.Proofs.YtdgmkfbmeaalpaaDoor.Pur
open Go.RowKit Go.Proofs.YtdgmkfbmeaalpaaDoorW.PrintWords Go.Proofs.YtdgmkfbmeaalpaaDoor.E
abbrev TL := List S25
def tonesB (l : TL) (lo hi : Int) : Bool := decide (lo ≤ (l.length : Int)) && (decide ((l.length : Int) ≤ hi) && okM l)
theorem impl_tones (l : TL) (lo hi : Int) : EvP (fun k => impl_tonesValid.f k l lo hi) (· = tonesB l lo hi) := by
  simp only [impl_tonesValid.f, tonesB]
  refine EvP.ite (fun h => EvP.ite (fun g => ?_) (fun g => EvP.ret ?_)) (fun h => EvP.ret ?_)
  · refine EvP.bind (impl_melody l) (fun _ e => EvP.ret ?_)
    subst e
    rw [decide_eq_true (show lo ≤ (l.length : Int) from h), decide_eq_true g]
    rfl
  · rw [decide_eq_false g]
    simp
  · rw [decide_eq_false (show ¬ lo ≤ (l.length : Int) from h)]
    rfl
theorem spec_tones (l : TL) (hl : l.length < 9223372036854775807) (lo hi : Int) : EvP (fun k => spec_l4Tones.f k l lo hi) (· = tonesB l lo hi) := by
  simp only [spec_l4Tones.f, tonesB, spec_l6In.f]
  refine EvP.bind (spec_melody l hl) (fun _ e => ?_)
  subst e
  refine EvP.ite (fun h => ?_) (fun h => EvP.ret ?_)
  · by_cases g : lo ≤ (l.length : Int)
    · rw [if_pos (show (l.length : Int) ≥ lo from g)]
      refine EvP.ret ?_
      rw [decide_eq_true g, h]
      simp
    · rw [if_neg (show ¬ (l.length : Int) ≥ lo from g)]
      refine EvP.ret ?_
      rw [decide_eq_false g]
      rfl
  · rw [Bool.eq_false_iff.mpr h]
    simp
def okPs (ps : TL) (x : Int) (b : Bool) (pm pe : TL) : Bool := tonesB ps 0 3 && (okT ⟨x, b⟩ && (tonesB pm 1 4 && tonesB pe 1 4))
theorem impl_psalm (ps : TL) (x : Int) (b : Bool) (pm pe : TL) : EvP (fun k => impl_PsalmValid.f k ps x b pm pe) (· = okPs ps x b pm pe) := by
  simp only [impl_PsalmValid.f, okPs]
  refine EvP.bind (impl_tones ps 0 3) (fun _ e => ?_)
  subst e
  refine EvP.ite (fun h => ?_) (fun h => EvP.ret ?_)
  · rw [h, Bool.true_and]
    refine EvP.bind (EvP.con (impl_valid ⟨x, b⟩) (P := (· = okT ⟨x, b⟩)) rfl) (fun _ e => ?_)
    subst e
    refine EvP.ite (fun h => ?_) (fun h => EvP.ret ?_)
    · rw [h, Bool.true_and]
      refine EvP.bind (impl_tones pm 1 4) (fun _ e => ?_)
      subst e
      refine EvP.ite (fun h => ?_) (fun h => EvP.ret ?_)
      · rw [h, Bool.true_and]
        refine EvP.bind (impl_tones pe 1 4) (fun _ e => EvP.ret e)
      · rw [Bool.eq_false_iff.mpr h, Bool.false_and]
    · rw [Bool.eq_false_iff.mpr h, Bool.false_and]
  · rw [Bool.eq_false_iff.mpr h, Bool.false_and]
theorem spec_psalm (ps : TL) (x : Int) (b : Bool) (pm pe : TL) (hs : ps.length < 9223372036854775807) (hm : pm.length < 9223372036854775807) (he : pe.length < 9223372036854775807) : EvP (fun k => spec_PsalmValid.f k ps x b pm pe) (· = okPs ps x b pm pe) := by
  simp only [spec_PsalmValid.f, okPs]
  refine EvP.bind (spec_tones ps hs 0 3) (fun _ e => ?_)
  subst e
  refine EvP.ite (fun h => ?_) (fun h => EvP.ret ?_)
  · rw [h, Bool.true_and]
    refine EvP.bind (EvP.con (spec_valid ⟨x, b⟩) (P := (· = okT ⟨x, b⟩)) rfl) (fun _ e => ?_)
    subst e
    refine EvP.ite (fun h => ?_) (fun h => EvP.ret ?_)
    · rw [h, Bool.true_and]
      refine EvP.bind (spec_tones pm hm 1 4) (fun _ e => ?_)
      subst e
      refine EvP.ite (fun h => ?_) (fun h => EvP.ret ?_)
      · rw [h, Bool.true_and]
        refine EvP.bind (spec_tones pe he 1 4) (fun _ e => EvP.ret e)
      · rw [Bool.eq_false_iff.mpr h, Bool.false_and]
    · rw [Bool.eq_false_iff.mpr h, Bool.false_and]
  · rw [Bool.eq_false_iff.mpr h, Bool.false_and]
theorem okPs_lens {ps pm pe : TL} {x : Int} {b : Bool} (h : okPs ps x b pm pe = true) : ps.length ≤ 3 ∧ 1 ≤ pm.length ∧ pm.length ≤ 4 ∧ 1 ≤ pe.length ∧ pe.length ≤ 4 ∧ okM ps = true ∧ okT ⟨x, b⟩ = true ∧ okM pm = true ∧ okM pe = true := by
  simp only [okPs, tonesB, Bool.and_eq_true, decide_eq_true_eq] at h
  obtain ⟨⟨_, h1, h2⟩, h3, ⟨h4, h5, h6⟩, h7, h8, h9⟩ := h
  exact ⟨by omega, by omega, by omega, by omega, by omega, h2, h3, h6, h9⟩
def fitP (ps : TL) (x : Int) (b : Bool) (pm pe : TL) (s : ByteArray) : Option (ByteArray × ByteArray) := if okPs ps x b pm pe = true then (verse s).bind (fun q => if ps.length + pm.length ≤ q.1.size ∧ pe.length ≤ q.2.size then some q else none) else none
theorem fit_some {ps pm pe : TL} {x : Int} {b : Bool} {s u v : ByteArray} (h : fitP ps x b pm pe s = some (u, v)) : okPs ps x b pm pe = true ∧ verse s = some (u, v) ∧ ps.length + pm.length ≤ u.size ∧ pe.length ≤ v.size := by
  unfold fitP at h
  split at h
  · rename_i g
    rw [Option.bind_eq_some_iff] at h
    obtain ⟨q, hq, h⟩ := h
    split at h
    · rename_i g2
      cases h
      exact ⟨g, hq, g2.1, g2.2⟩
    · cases h
  · cases h
theorem fit_of {ps pm pe : TL} {x : Int} {b : Bool} {s u v : ByteArray} (h : okPs ps x b pm pe = true) (hv : verse s = some (u, v)) (h1 : ps.length + pm.length ≤ u.size) (h2 : pe.length ≤ v.size) : fitP ps x b pm pe s = some (u, v) := by
  unfold fitP
  rw [if_pos h, hv]
  simp only [Option.bind_some]
  rw [if_pos ⟨h1, h2⟩]
theorem fit_bad {ps pm pe : TL} {x : Int} {b : Bool} {s : ByteArray} (h : okPs ps x b pm pe = false) : fitP ps x b pm pe s = none := by
  unfold fitP
  rw [h]
  rfl
theorem fit_none {ps pm pe : TL} {x : Int} {b : Bool} {s : ByteArray} (h : verse s = none) : fitP ps x b pm pe s = none := by
  unfold fitP
  rw [h]
  simp
theorem fit_short {ps pm pe : TL} {x : Int} {b : Bool} {s u v : ByteArray} (hv : verse s = some (u, v)) (h1 : ¬ (ps.length + pm.length ≤ u.size ∧ pe.length ≤ v.size)) : fitP ps x b pm pe s = none := by
  unfold fitP
  rw [hv]
  simp only [Option.bind_some]
  rw [if_neg h1]
  simp
def sungR (ps : TL) (x : Int) (b : Bool) (pm pe : TL) : Option (ByteArray × ByteArray) → List S86 × Bool
  | some q => (sungOf ps ⟨x, b⟩ pm pe q.1.size q.2.size, true)
  | none => ([], false)
theorem impl_sung (ps : TL) (x : Int) (b : Bool) (pm pe : TL) (s : ByteArray) (hs : s.size ≤ 100000000) : EvP (fun k => impl_sungVerse.f k ps x b pm pe s) (· = sungR ps x b pm pe (fitP ps x b pm pe s)) := by
  simp only [impl_sungVerse.f]
  refine EvP.bind (EvP.con (impl_halves s hs) (P := (· = halvesOf s)) rfl) (fun _ e => ?_)
  subst e
  rcases hv : verse s with _ | ⟨u, v⟩
  · have hh : halvesOf s = (⟨#[]⟩, ⟨#[]⟩, false) := by unfold halvesOf; rw [hv]
    rw [hh, fit_none hv]
    exact EvP.ret rfl
  · have hh : halvesOf s = (u, v, true) := by unfold halvesOf; rw [hv]
    rw [hh]
    refine EvP.yes rfl ?_
    refine EvP.bind (impl_psalm ps x b pm pe) (fun _ e => ?_)
    subst e
    refine EvP.ite (fun h => ?_) (fun h => EvP.ret ?_)
    · obtain ⟨l1, l2, l3, l4, l5, _⟩ := okPs_lens h
      have hl := (verse_some hv).1
      refine EvP.yes (by omega) ?_
      refine EvP.ite (fun g => EvP.ret ?_) (fun g => EvP.ite (fun g2 => EvP.ret ?_) (fun g2 => EvP.yes (by simp only []; omega) (EvP.ret ?_)))
      · rw [fit_short hv (by simp only [] at g; omega)]
        rfl
      · rw [fit_short hv (by simp only [] at g2; omega)]
        rfl
      · rw [fit_of h hv (by simp only [] at g; omega) (by simp only [] at g2; omega)]
        rfl
    · rw [fit_bad (Bool.eq_false_iff.mpr h)]
      rfl
theorem spec_fits (ps : TL) (x : Int) (b : Bool) (pm pe : TL) (s : ByteArray) (hs : s.size ≤ 100000000) (h1 : ps.length < 9223372036854775807) (hm : pm.length < 9223372036854775807) (he : pe.length < 9223372036854775807) : EvP (fun k => spec_PsalmFits.f k ps x b pm pe s) (· = (fitP ps x b pm pe s).isSome) := by
  simp only [spec_PsalmFits.f]
  refine EvP.bind (spec_halves s hs) (fun _ e => ?_)
  subst e
  refine EvP.bind (spec_psalm ps x b pm pe h1 hm he) (fun _ e => ?_)
  subst e
  refine EvP.ite (fun h => ?_) (fun h => EvP.ret ?_)
  · refine EvP.bind (spec_valid_v s hs) (fun _ e => ?_)
    subst e
    rcases hv : verse s with _ | ⟨u, v⟩
    · rw [fit_none hv]
      exact EvP.ret rfl
    · refine EvP.yes rfl ?_
      rw [hv_of hv]
      obtain ⟨l1, l2, l3, l4, l5, _⟩ := okPs_lens h
      rw [w64 (by omega) (by omega)]
      refine EvP.ite (fun g => EvP.ret ?_) (fun g => EvP.ret ?_)
      · simp only [] at g ⊢
        by_cases g2 : pe.length ≤ v.size
        · rw [fit_of h hv (by omega) g2]
          exact decide_eq_true (by omega)
        · rw [fit_short hv (by omega)]
          exact decide_eq_false (by omega)
      · simp only [] at g
        rw [fit_short hv (by omega)]
        rfl
  · rw [fit_bad (Bool.eq_false_iff.mpr h)]
    rfl
def singOf (ps : TL) (x : Int) (b : Bool) (pm pe : TL) (m n : Nat) : TL := ps ++ (List.replicate (m - pm.length - ps.length) ⟨x, b⟩ ++ (pm ++ (List.replicate (n - pe.length) ⟨x, b⟩ ++ pe)))
theorem sing_map (ps : TL) (x : Int) (b : Bool) (pm pe : TL) (m n : Nat) : (sungOf ps ⟨x, b⟩ pm pe m n).map (·.f0) = singOf ps x b pm pe m n := by
  unfold sungOf singOf
  simp only [List.map_append, List.map_map, List.map_replicate]
  have hid : ∀ (l : TL) (n : Int), l.map ((fun y : S86 => y.f0) ∘ fun y => ⟨y, n⟩) = l := fun l n => List.map_id l
  rw [hid, hid, hid]
theorem sing_len {ps pm pe : TL} {x : Int} {b : Bool} {m n : Nat} (h1 : ps.length + pm.length ≤ m) (h2 : pe.length ≤ n) : (singOf ps x b pm pe m n).length = m + n := by
  simp only [singOf, List.length_append, List.length_replicate]
  omega
def singR (ps : TL) (x : Int) (b : Bool) (pm pe : TL) : Option (ByteArray × ByteArray) → TL × Bool
  | some q => (singOf ps x b pm pe q.1.size q.2.size, true)
  | none => ([], false)
theorem rdS_lt {l : List S86} {i : Nat} (h : i < l.length) : rd_T86 l (i : Int) = l[i] := by
  unfold rd_T86
  rw [toNat_nat, List.getD_eq_getElem?_getD, List.getElem?_eq_getElem h]
  rfl
theorem impl_sing_loop (L : List S86) (hl : L.length ≤ 1000) : ∀ (d i : Nat) (xs : TL), i + d = L.length → xs.length = i → EvP (fun k => impl_PsalmSing.l0 k xs L (L.length : Int) (i : Int)) (· = (xs ++ (L.drop i).map (·.f0), true)) := by
  intro d
  induction d with
  | zero =>
    intro i xs hi hx
    refine EvP.succ ?_
    simp only [impl_PsalmSing.l0]
    refine EvP.no (by omega) (EvP.ret ?_)
    rw [List.drop_of_length_le (by omega)]
    simp
  | succ d ih =>
    intro i xs hi hx
    have hlt : i < L.length := by omega
    refine EvP.succ ?_
    simp only [impl_PsalmSing.l0]
    refine EvP.yes (by omega) (EvP.yes (by omega) (EvP.yes (by omega) (EvP.yes (by omega) ?_)))
    rw [rdS_lt hlt, w64 (by omega) (by omega), show (i : Int) + 1 = ((i + 1 : Nat) : Int) by omega]
    refine (ih (i + 1) (xs ++ [L[i].f0]) (by omega) (by simp; omega)).mono ?_
    intro r e
    rw [e, List.drop_eq_getElem_cons hlt, List.map_cons, List.append_assoc]
    rfl
theorem impl_sing (ps : TL) (x : Int) (b : Bool) (pm pe : TL) (s : ByteArray) (hs : s.size ≤ 100000000) : EvP (fun k => impl_PsalmSing.f k ps x b pm pe s) (· = singR ps x b pm pe (fitP ps x b pm pe s)) := by
  simp only [impl_PsalmSing.f]
  refine EvP.bind (impl_sung ps x b pm pe s hs) (fun _ e => ?_)
  subst e
  rcases hf : fitP ps x b pm pe s with _ | ⟨u, v⟩
  · exact EvP.ret rfl
  · refine EvP.yes rfl ?_
    obtain ⟨h, hv, h1, h2⟩ := fit_some hf
    have hl := (verse_some hv).1
    have hlen := sung_len (t := ⟨x, b⟩) h1 h2
    refine (impl_sing_loop (sungOf ps ⟨x, b⟩ pm pe u.size v.size) (by omega) _ 0 [] (by rw [Nat.zero_add]) rfl).mono ?_
    intro r e
    rw [e, List.drop_zero, List.nil_append, sing_map]
    rfl
theorem tenors_loop (L : List S86) (hl : L.length ≤ 1000) : ∀ (d i n : Nat), i + d = L.length → n ≤ i → EvP (fun k => impl_PsalmTenors.l0 k (n : Int) L (L.length : Int) (i : Int)) (· = ((n + (L.drop i).countP (fun y => y.f1 == 1) : Nat) : Int)) := by
  intro d
  induction d with
  | zero =>
    intro i n hi hn
    refine EvP.succ ?_
    simp only [impl_PsalmTenors.l0]
    refine EvP.no (by omega) (EvP.ret ?_)
    rw [List.drop_of_length_le (by omega)]
    simp
  | succ d ih =>
    intro i n hi hn
    have hlt : i < L.length := by omega
    refine EvP.succ ?_
    simp only [impl_PsalmTenors.l0]
    refine EvP.yes (by omega) (EvP.yes (by omega) (EvP.yes (by omega) ?_))
    rw [rdS_lt hlt, w64 (i := (i : Int) + 1) (by omega) (by omega), show (i : Int) + 1 = ((i + 1 : Nat) : Int) by omega, w64 (by omega) (by omega), show (n : Int) + 1 = ((n + 1 : Nat) : Int) by omega]
    rw [List.drop_eq_getElem_cons hlt, List.countP_cons]
    refine EvP.ite (fun h => ?_) (fun h => ?_)
    · refine (ih (i + 1) (n + 1) (by omega) (by omega)).mono ?_
      intro r e
      rw [e, h]
      simp
      omega
    · refine (ih (i + 1) n (by omega) (by omega)).mono ?_
      intro r e
      rw [e, if_neg (by simpa using h)]
      rfl
def tenR (ps pm pe : TL) : Option (ByteArray × ByteArray) → Int
  | some q => (q.1.size : Int) + q.2.size - ps.length - pm.length - pe.length
  | none => -1
theorem sung_tenors {ps pm pe : TL} {t : S25} {m n : Nat} (h1 : ps.length + pm.length ≤ m) (h2 : pe.length ≤ n) : (sungOf ps t pm pe m n).countP (fun y => y.f1 == 1) = m + n - ps.length - pm.length - pe.length := by
  unfold sungOf
  have hz : ∀ (l : TL) (z : Int), z ≠ 1 → (l.map (fun y => (⟨y, z⟩ : S86))).countP (fun y => y.f1 == 1) = 0 := by
    intro l z hz
    rw [List.countP_eq_zero]
    intro y hy
    rw [List.mem_map] at hy
    obtain ⟨_, _, rfl⟩ := hy
    simpa using hz
  have hr : ∀ j : Nat, (List.replicate j (⟨t, 1⟩ : S86)).countP (fun y => y.f1 == 1) = j := by
    intro j
    rw [List.countP_replicate]
    exact if_pos rfl
  simp only [List.countP_append]
  rw [hz _ _ (by decide), hz _ _ (by decide), hz _ _ (by decide), hr, hr]
  omega
theorem impl_tenors (ps : TL) (x : Int) (b : Bool) (pm pe : TL) (s : ByteArray) (hs : s.size ≤ 100000000) : EvP (fun k => impl_PsalmTenors.f k ps x b pm pe s) (· = tenR ps pm pe (fitP ps x b pm pe s)) := by
  simp only [impl_PsalmTenors.f]
  refine EvP.bind (impl_sung ps x b pm pe s hs) (fun _ e => ?_)
  subst e
  rcases hf : fitP ps x b pm pe s with _ | ⟨u, v⟩
  · exact EvP.ret rfl
  · refine EvP.yes rfl ?_
    obtain ⟨h, hv, h1, h2⟩ := fit_some hf
    have hl := (verse_some hv).1
    have hlen := sung_len (t := ⟨x, b⟩) h1 h2
    refine (tenors_loop (sungOf ps ⟨x, b⟩ pm pe u.size v.size) (by omega) _ 0 0 (by rw [Nat.zero_add]) (Nat.le_refl _)).mono ?_
    intro r e
    rw [e, List.drop_zero, sung_tenors h1 h2]
    simp only [tenR]
    omega
theorem spec_tenors (ps : TL) (x : Int) (b : Bool) (pm pe : TL) (s : ByteArray) (hs : s.size ≤ 100000000) (h1 : ps.length < 9223372036854775807) (hm : pm.length < 9223372036854775807) (he : pe.length < 9223372036854775807) : EvP (fun k => spec_PsalmTenors.f k ps x b pm pe s) (· = tenR ps pm pe (fitP ps x b pm pe s)) := by
  simp only [spec_PsalmTenors.f, spec_VerseSyllables.f]
  refine EvP.bind (spec_fits ps x b pm pe s hs h1 hm he) (fun _ e => ?_)
  subst e
  rcases hf : fitP ps x b pm pe s with _ | ⟨u, v⟩
  · exact EvP.ret rfl
  · refine EvP.yes rfl ?_
    obtain ⟨h, hv, g1, g2⟩ := fit_some hf
    obtain ⟨l1, l2, l3, l4, l5, _⟩ := okPs_lens h
    refine EvP.bind (P := (· = ((u.size : Int) + v.size))) ?_ (fun _ e => ?_)
    · refine EvP.bind (spec_valid_v s hs) (fun _ e => ?_)
      subst e
      rw [hv]
      refine EvP.yes rfl (EvP.ret ?_)
      have := (verse_some hv).2.2.2.1
      rw [w64 (by omega) (by omega)]
      omega
    · subst e
      refine EvP.ret ?_
      have := (verse_some hv).1
      simp only [tenR]
      rw [w64 (i := (u.size : Int) + v.size - ps.length) (by omega) (by omega), w64 (i := (u.size : Int) + v.size - ps.length - pm.length) (by omega) (by omega), w64 (by omega) (by omega)]
end Go.Proofs.YtdgmkfbmeaalpaaDoor.Pur
end
section
namespace Go.Proofs.YtdgmkfbmeaalpaaDoor.E
open Go.RowKit Go.Proofs.YtdgmkfbmeaalpaaDoorW.PrintWords Go.Proofs.YtdgmkfbmeaalpaaDoorW.PrintLast Go.Proofs.YtdgmkfbmeaalpaaDoorW.PrintMore
attribute [local go_sem] max2_int min2_int max_two min_two max_three min_three max_four min_four
set_option linter.unusedVariables false
set_option linter.unusedSimpArgs false
attribute [local go_sem] str_leq_ str_gtr_ str_geq_
def impl_VerseAccents.l0 : Nat → List Int → ByteArray → Int → Int → Option (List Int)
 | 0, _, _, _, _ => none
 | k + 1, x3, x7, x23, x24 => if x24 < x23 then (if 0 ≤ x24 then (if x24 < (x7.size : Int) then (if (bt x7 x24) = 47 then (if x3.length < 17592186044416 then (impl_VerseAccents.l0 k (x3 ++ [x24]) x7 x23 (wrap64 (x24 + 1))) else (none)) else (impl_VerseAccents.l0 k x3 x7 x23 (wrap64 (x24 + 1)))) else (none)) else (none)) else (some x3)
def impl_VerseAccents.f (k : Nat) (a0 : ByteArray) : Option (List Int) := (some (([] : List Int) : List Int)).bind fun y416 => ((impl_VerseHalves.f a0).bind fun bt419 => (if bt419.2.2 = true then (if bt419.1.size + bt419.2.1.size ≤ 9223372036854775807 then (impl_VerseAccents.l0 k y416 (bt419.1 ++ bt419.2.1) ((bt419.1 ++ bt419.2.1).size : Int) 0) else (none)) else (some y416)))
end Go.Proofs.YtdgmkfbmeaalpaaDoor.E
end
section
namespace Go.Proofs.YtdgmkfbmeaalpaaDoor.E
open Go.RowKit Go.Proofs.YtdgmkfbmeaalpaaDoorW.PrintWords Go.Proofs.YtdgmkfbmeaalpaaDoorW.PrintLast Go.Proofs.YtdgmkfbmeaalpaaDoorW.PrintMore
attribute [local go_sem] max2_int min2_int max_two min_two max_three min_three max_four min_four
set_option linter.unusedVariables false
set_option linter.unusedSimpArgs false
attribute [local go_sem] str_leq_ str_gtr_ str_geq_
def impl_PsalmAccents.l0 : Nat → List (S86) → Int → List Int → Int → Int → Option (Int)
 | 0, _, _, _, _, _ => none
 | k + 1, x5, x7, x20, x21, x22 => if x22 < x21 then (if 0 ≤ x22 then (if x22 < (x20.length : Int) then (if 0 ≤ (rd x20 x22) then (if (rd x20 x22) < (x5.length : Int) then (if ((rd_T86 x5 (rd x20 x22)).f1) = 2 then (impl_PsalmAccents.l0 k x5 (wrap64 (x7 + 1)) x20 x21 (wrap64 (x22 + 1))) else (if ((rd_T86 x5 (rd x20 x22)).f1) = 3 then (impl_PsalmAccents.l0 k x5 (wrap64 (x7 + 1)) x20 x21 (wrap64 (x22 + 1))) else (impl_PsalmAccents.l0 k x5 x7 x20 x21 (wrap64 (x22 + 1))))) else (none)) else (none)) else (none)) else (none)) else (some x7)
def impl_PsalmAccents.f (k : Nat) (l0_0 : List (S25)) (a0_1 : Int) (a0_2 : Bool) (l0_3 : List (S25)) (l0_4 : List (S25)) (a1 : ByteArray) : Option (Int) := (impl_sungVerse.f k l0_0 a0_1 a0_2 l0_3 l0_4 a1).bind fun bt426 => (if bt426.2 = true then ((impl_VerseAccents.f k a1).bind fun t430 => (impl_PsalmAccents.l0 k bt426.1 0 t430 (t430.length : Int) 0)) else (some (-1)))
end Go.Proofs.YtdgmkfbmeaalpaaDoor.E
end
section
namespace Go.Proofs.YtdgmkfbmeaalpaaDoor.E
open Go.RowKit Go.Proofs.YtdgmkfbmeaalpaaDoorW.PrintWords Go.Proofs.YtdgmkfbmeaalpaaDoorW.PrintLast Go.Proofs.YtdgmkfbmeaalpaaDoorW.PrintMore
attribute [local go_sem] max2_int min2_int max_two min_two max_three min_three max_four min_four
set_option linter.unusedVariables false
set_option linter.unusedSimpArgs false
attribute [local go_sem] str_leq_ str_gtr_ str_geq_
mutual
def spec_PsalmAccents.l0 : Nat → ByteArray → ByteArray → Int → Int → List (S25) → Int → Bool → List (S25) → List (S25) → Option (Int)
 | 0, _, _, _, _, _, _, _, _, _ => none
 | k + 1, x5, x6, x7, x8, x436000, x436001, x436002, x436003, x436004 => if x8 < (x5.size : Int) then (if 0 ≤ x8 then (if (bt x5 x8) = 47 then (spec_PsalmAccents.l0 k x5 x6 (wrap64 (x7 + 1)) (wrap64 (x8 + 1)) x436000 x436001 x436002 x436003 x436004) else (spec_PsalmAccents.l0 k x5 x6 x7 (wrap64 (x8 + 1)) x436000 x436001 x436002 x436003 x436004)) else (none)) else (spec_PsalmAccents.l1 k x6 x7 (wrap64 ((x6.size : Int) - (x436004.length : Int))))
def spec_PsalmAccents.l1 : Nat → ByteArray → Int → Int → Option (Int)
 | 0, _, _, _ => none
 | k + 1, x6, x7, x9 => if x9 < (x6.size : Int) then (if 0 ≤ x9 then (if (bt x6 x9) = 47 then (spec_PsalmAccents.l1 k x6 (wrap64 (x7 + 1)) (wrap64 (x9 + 1))) else (spec_PsalmAccents.l1 k x6 x7 (wrap64 (x9 + 1)))) else (none)) else (some x7)
end
def spec_PsalmAccents.f (k : Nat) (l0_0 : List (S25)) (a0_1 : Int) (a0_2 : Bool) (l0_3 : List (S25)) (l0_4 : List (S25)) (a1 : ByteArray) : Option (Int) := (spec_PsalmFits.f k l0_0 a0_1 a0_2 l0_3 l0_4 a1).bind fun t436 => (if t436 = true then ((spec_l4Halves.f k a1).bind fun bt437 => (spec_PsalmAccents.l0 k bt437.1 bt437.2 0 (wrap64 ((bt437.1.size : Int) - (l0_3.length : Int))) l0_0 a0_1 a0_2 l0_3 l0_4)) else (some (-1)))
end Go.Proofs.YtdgmkfbmeaalpaaDoor.E
end
section
namespace Go.Proofs.YtdgmkfbmeaalpaaDoor.Pur
open Go.RowKit Go.Proofs.YtdgmkfbmeaalpaaDoorW.PrintWords Go.Proofs.YtdgmkfbmeaalpaaDoor.E
def isA (v : ByteArray) (z : Nat) : Nat := if v.data.toList[z]? = some 47 then 1 else 0
def accN (u v : ByteArray) (m e : Nat) : Nat := sumN (fun j => isA u (u.size - m + j)) m + sumN (fun j => isA v (v.size - e + j)) e
def accR (pm pe : TL) : Option (ByteArray × ByteArray) → Int
  | some q => (accN q.1 q.2 pm.length pe.length : Int)
  | none => -1
def accFrom : List UInt8 → Nat → List Int
  | [], _ => []
  | b :: l, i => if b = 47 then (i : Int) :: accFrom l (i + 1) else accFrom l (i + 1)
def accL : Option (ByteArray × ByteArray) → List Int
  | some q => accFrom (q.1 ++ q.2).data.toList 0
  | none => []
end Go.Proofs.YtdgmkfbmeaalpaaDoor.Pur
end
section
namespace Go.Proofs.YtdgmkfbmeaalpaaDoor.Pur
open Go.RowKit Go.Proofs.YtdgmkfbmeaalpaaDoorW.PrintWords Go.Proofs.YtdgmkfbmeaalpaaDoorW.PrintMore Go.Proofs.YtdgmkfbmeaalpaaDoor.E
def okB (B : List Int) : Prop := B.length ≤ 2000 ∧ ∀ x ∈ B, 0 ≤ x ∧ x ≤ 255
theorem byte_range {x : Int} (h : (Lit.int .u8 x).wf = true) : 0 ≤ x ∧ x ≤ 255 := by
  simp [Lit.wf, IntKind.min, IntKind.max, IntKind.signed, IntKind.bits] at h
  omega
theorem okB_rd {B : List Int} (h : okB B) (i : Int) : 0 ≤ rd B i ∧ rd B i ≤ 255 := by
  unfold rd
  rw [List.getD_eq_getElem?_getD]
  cases e : B[i.toNat]? with
  | none => simp
  | some v => simpa using h.2 v (List.mem_of_getElem? e)
theorem open_code (l : List Int) (h : ∀ x ∈ l, (Lit.int .u8 x).wf = true) : EvP (fun _ => spec_l6Open.f l) (fun r => okB r.1 ∧ r.2 = 0) := by
  unfold spec_l6Open.f
  refine EvP.ite (fun h1 => EvP.yes (by omega) (EvP.ret ⟨⟨by simp; omega, fun x hx => byte_range (h x (List.mem_of_mem_take hx))⟩, rfl⟩)) (fun h1 => EvP.ret ⟨⟨by dsimp only; omega, fun x hx => byte_range (h x hx)⟩, rfl⟩)
theorem xor_nn {x y : Int} (hx : 0 ≤ x) (hx' : x < 4611686018427387904) (hy : 0 ≤ y) (hy' : y < 4611686018427387904) : 0 ≤ Go.bits .xor .i64 x y := by
  obtain ⟨a, rfl⟩ := Int.eq_ofNat_of_zero_le hx
  obtain ⟨b, rfl⟩ := Int.eq_ofNat_of_zero_le hy
  have ha : a < 2 ^ 62 := by omega
  have hb : b < 2 ^ 62 := by omega
  have hx : a ^^^ b < 2 ^ 62 := Nat.xor_lt_two_pow ha hb
  have ea : a % 2 ^ IntKind.i64.bits = a := Nat.mod_eq_of_lt (by simp [IntKind.bits]; omega)
  have eb : b % 2 ^ IntKind.i64.bits = b := Nat.mod_eq_of_lt (by simp [IntKind.bits]; omega)
  simp only [Go.bits, BitVec.ofInt_natCast, BitVec.toNat_xor, BitVec.toNat_ofNat, ea, eb]
  rw [IntKind.wrap_i64]
  omega
theorem mix_ok (E n : Int) (h0 : 0 ≤ E) (h1 : E < 4611686018427387904) (hn : 1 ≤ n) :
    0 ≤ Int.tmod (Go.bits .xor .i64 E (wrap64 (Int.tdiv E 64))) n ∧ Int.tmod (Go.bits .xor .i64 E (wrap64 (Int.tdiv E 64))) n < n := by
  have hd : Int.tdiv E 64 = E / 64 := tdiv_pos 64 h0
  have h2 := xor_nn h0 h1 (y := wrap64 (Int.tdiv E 64)) (by rw [hd, w64 (by omega) (by omega)]; omega) (by rw [hd, w64 (by omega) (by omega)]; omega)
  exact ⟨Int.tmod_nonneg n h2, Int.tmod_lt_of_pos _ (by omega)⟩
theorem mixE (r1 r2 p q : Int) (a1 : 0 ≤ r1 ∧ r1 ≤ 255) (a2 : 0 ≤ r2 ∧ r2 ≤ 255) (hp : 0 ≤ p ∧ p ≤ 1000000000) (hq : 0 ≤ q ∧ q ≤ 1000000000) :
    (wrap64 ((wrap64 ((wrap64 ((wrap64 ((wrap64 r1) * 131)) + (wrap64 ((wrap64 r2) * 1117)))) + (wrap64 (p * 29)))) + (wrap64 ((wrap64 q) * 53)))) = r1 * 131 + r2 * 1117 + p * 29 + q * 53 := by
  rw [w64 (i := r1) (by omega) (by omega), w64 (i := r2) (by omega) (by omega), w64 (i := q) (by omega) (by omega), w64 (i := r1 * 131) (by omega) (by omega), w64 (i := r2 * 1117) (by omega) (by omega), w64 (i := p * 29) (by omega) (by omega),
    w64 (i := q * 53) (by omega) (by omega), w64 (i := r1 * 131 + r2 * 1117) (by omega) (by omega), w64 (i := r1 * 131 + r2 * 1117 + p * 29) (by omega) (by omega), w64 (by omega) (by omega)]
theorem pick_ok {B : List Int} (hB : okB B) (p n : Int) (hp : 0 ≤ p ∧ p ≤ 100000000) (hn : 1 ≤ n ∧ n ≤ 1000000) : EvP (fun k => spec_l6Rd_pick.f k B p n) (fun r => 0 ≤ r.1 ∧ r.1 < n ∧ r.2 = p + 1) := by
  unfold spec_l6Rd_pick.f
  have e1 : wrap64 (p + 1) = p + 1 := w64 (by omega) (by omega)
  have e2 : wrap64 (p + 1 - 1) = p := by rw [w64 (by omega) (by omega)]; omega
  have hl := hB.1
  rw [e1]
  refine EvP.no (by omega) ?_
  refine EvP.succ ?_
  simp only [spec_l6Rd_pick.j0, e2]
  clear e1 e2
  refine EvP.ite (fun h0 => EvP.ret ⟨by omega, by dsimp only; omega, rfl⟩) (fun h0 => ?_)
  have hpos : 0 < (B.length : Int) := by
    rw [beq_iff_eq] at h0
    omega
  refine EvP.ite (fun h1 => ?_) (fun h1 => ?_)
  · have hr := okB_rd hB p
    refine EvP.yes (by omega) (EvP.no (by omega) (EvP.ret ⟨?_, ?_, rfl⟩))
    · rw [w64 (by omega) (by omega)]; exact Int.tmod_nonneg n hr.1
    · exact Int.tmod_lt_of_pos _ (by omega)
  · refine EvP.no (by omega) ?_
    have m1 : Int.tmod p (B.length : Int) = p % (B.length : Int) := tmod_pos _ hp.1
    have hm1 : 0 ≤ Int.tmod p (B.length : Int) ∧ Int.tmod p (B.length : Int) < (B.length : Int) := by rw [m1]; exact ⟨Int.emod_nonneg _ (by omega), Int.emod_lt_of_pos _ hpos⟩
    have e3 : wrap64 ((wrap64 (p * 7)) + 3) = p * 7 + 3 := by rw [w64 (i := p * 7) (by omega) (by omega), w64 (by omega) (by omega)]
    rw [e3]
    clear e3
    have hm2 : 0 ≤ Int.tmod (p * 7 + 3) (B.length : Int) ∧ Int.tmod (p * 7 + 3) (B.length : Int) < (B.length : Int) := by rw [tmod_pos _ (by omega)]; exact ⟨Int.emod_nonneg _ (by omega), Int.emod_lt_of_pos _ hpos⟩
    have hq : 0 ≤ Int.tdiv p (B.length : Int) ∧ Int.tdiv p (B.length : Int) ≤ 1000000000 := by
      rw [tdiv_pos _ hp.1]
      have := Int.ediv_le_self (B.length : Int) hp.1
      exact ⟨Int.ediv_nonneg hp.1 (by omega), by omega⟩
    have a1 := okB_rd hB (Int.tmod p (B.length : Int))
    have a2 := okB_rd hB (Int.tmod (p * 7 + 3) (B.length : Int))
    refine EvP.yes hm1.1 (EvP.yes hm1.2 (EvP.yes hm2.1 (EvP.yes hm2.2 (EvP.no (by omega) ?_))))
    rw [mixE _ _ p _ a1 a2 (by omega) hq]
    have := mix_ok (rd B (Int.tmod p (B.length : Int)) * 131 + rd B (Int.tmod (p * 7 + 3) (B.length : Int)) * 1117 + p * 29 + Int.tdiv p (B.length : Int) * 53) n (by omega) (by omega) hn.1
    exact EvP.ret ⟨this.1, this.2, rfl⟩
end Go.Proofs.YtdgmkfbmeaalpaaDoor.Pur
end
section
namespace Go.Proofs.YtdgmkfbmeaalpaaDoor.Pur
open Go.RowKit Go.Proofs.YtdgmkfbmeaalpaaDoorW.PrintWords Go.Proofs.YtdgmkfbmeaalpaaDoorW.PrintMore Go.Proofs.YtdgmkfbmeaalpaaDoor.E
theorem of_ok {B : List Int} (hB : okB B) (p : Int) (hp : 0 ≤ p ∧ p ≤ 1000000) (l : List ByteArray) (hl : 1 ≤ l.length ∧ l.length ≤ 1000) : EvP (fun k => spec_l6Rd_of.f k B p l) (fun r => (∃ i : Nat, i < l.length ∧ r.1 = l.getD i ByteArray.empty) ∧ r.2 = p + 1) := by
  unfold spec_l6Rd_of.f
  refine EvP.bind (pick_ok hB p (l.length : Int) (by omega) (by omega)) (fun r hr => ?_)
  exact EvP.yes hr.1 (EvP.yes hr.2.1 (EvP.ret ⟨⟨r.1.toNat, by omega, rfl⟩, hr.2.2⟩))
theorem of_size {B : List Int} (hB : okB B) (p : Int) (hp : 0 ≤ p ∧ p ≤ 1000000) (l : List ByteArray) (hl : 1 ≤ l.length ∧ l.length ≤ 1000) (n : Nat) (h : ∀ t ∈ l, t.size ≤ n) : EvP (fun k => spec_l6Rd_of.f k B p l) (fun r => r.1.size ≤ n ∧ r.1 ∈ l ∧ r.2 = p + 1) := by
  refine (of_ok hB p hp l hl).mono (fun r hr => ?_)
  obtain ⟨⟨i, hi, e⟩, e2⟩ := hr
  have hm : r.1 ∈ l := by
    rw [e, List.getD_eq_getElem?_getD, List.getElem?_eq_getElem hi]
    exact List.getElem_mem hi
  exact ⟨h _ hm, hm, e2⟩
end Go.Proofs.YtdgmkfbmeaalpaaDoor.Pur
end
section
namespace Go.Proofs.YtdgmkfbmeaalpaaDoor.E
open Go.RowKit Go.Proofs.YtdgmkfbmeaalpaaDoorW.PrintWords Go.Proofs.YtdgmkfbmeaalpaaDoorW.PrintLast Go.Proofs.YtdgmkfbmeaalpaaDoorW.PrintMore
attribute [local go_sem] max2_int min2_int max_two min_two max_three min_three max_four min_four
set_option linter.unusedVariables false
set_option linter.unusedSimpArgs false
attribute [local go_sem] str_leq_ str_gtr_ str_geq_
def spec_DrawPsalmAccents.f (k : Nat) (l0 : List Int) : Option ((List (S25)) × Int × Bool × (List (S25)) × (List (S25)) × ByteArray) := (spec_l6Open.f l0).bind fun bt400 => ((spec_l91Sing.f k bt400.1 bt400.2).bind fun bt403 => (some (bt403.1, bt403.2.1, bt403.2.2.1, bt403.2.2.2.1, bt403.2.2.2.2.1, bt403.2.2.2.2.2.1)))
end Go.Proofs.YtdgmkfbmeaalpaaDoor.E
end
section
namespace Go.Proofs.YtdgmkfbmeaalpaaDoor.E
open Go.RowKit Go.Proofs.YtdgmkfbmeaalpaaDoorW.PrintWords Go.Proofs.YtdgmkfbmeaalpaaDoorW.PrintLast Go.Proofs.YtdgmkfbmeaalpaaDoorW.PrintMore
attribute [local go_sem] max2_int min2_int max_two min_two max_three min_three max_four min_four
set_option linter.unusedVariables false
set_option linter.unusedSimpArgs false
attribute [local go_sem] str_leq_ str_gtr_ str_geq_
def spec_l91Psalms.l0 : Nat → List (S27) → Int → Int → List Int → Int → Option ((List (S27)) × Int)
 | 0, _, _, _, _, _ => none
 | k + 1, x3, x4, x5, x1000, x1001 => if x5 < x4 then ((spec_l91Psalm.f k x1000 x1001).bind fun bt747 => (if x3.length < 1599289640401 then (spec_l91Psalms.l0 k (x3 ++ [(⟨bt747.1, (⟨bt747.2.1, bt747.2.2.1⟩ : S25), bt747.2.2.2.1, bt747.2.2.2.2.1⟩ : S27)]) x4 (wrap64 (x5 + 1)) x1000 bt747.2.2.2.2.2) else (none))) else (some (x3, x1001))
def spec_l91Psalms.f (k : Nat) (s0_0 : List Int) (s0_1 : Int) : Option ((List (S27)) × Int) := (spec_l6Rd_pick.f k s0_0 s0_1 4).bind fun bt745 => (spec_l91Psalms.l0 k (([] : List (S27))) bt745.1 0 s0_0 bt745.2)
end Go.Proofs.YtdgmkfbmeaalpaaDoor.E
end
section
namespace Go.Proofs.YtdgmkfbmeaalpaaDoor.Pur
open Go.RowKit Go.Proofs.YtdgmkfbmeaalpaaDoorW.PrintWords Go.Proofs.YtdgmkfbmeaalpaaDoor.E
theorem some_loop {B : List Int} (hB : okB B) (n : Int) (hn : 0 ≤ n ∧ n ≤ 20) : ∀ (d : Nat) (i : Int) (acc : List S25) (p : Int), 0 ≤ i → i + d = n → (acc.length : Int) = i → 0 ≤ p → p ≤ 1000000 - 10 * d → EvP (fun k => spec_l91Some.l0 k n acc i B p) (fun r => (r.1.length : Int) = n ∧ 0 ≤ r.2 ∧ r.2 ≤ p + 2 * d) := by
  intro d
  induction d with
  | zero =>
    intro i acc p h0 hi ha hp hp'
    refine EvP.succ ?_
    simp only [spec_l91Some.l0]
    exact EvP.no (by omega) (EvP.ret ⟨by simp only []; omega, by simp only []; omega, by simp only []; omega⟩)
  | succ d ih =>
    intro i acc p h0 hi ha hp hp'
    refine EvP.succ ?_
    simp only [spec_l91Some.l0]
    refine EvP.yes (by omega) ?_
    refine EvP.bind (pick_ok hB p 6 (by omega) (by omega)) (fun r1 ⟨a1, a2, a3⟩ => ?_)
    have e1 : Hd (wrap64 (i + 1) = i + 1) := ⟨w64 (by omega) (by omega)⟩
    refine EvP.bind (P := fun _ => True) (EvP.con rfl trivial) (fun _ _ => ?_)
    refine EvP.ite (fun _ => ?_) (fun _ => ?_)
    · refine EvP.bind (pick_ok hB r1.2 2 (by omega) (by omega)) (fun r2 ⟨b1, b2, b3⟩ => ?_)
      refine EvP.yes (by omega) ?_
      rw [e1.out]
      refine (ih (i + 1) _ r2.2 (by omega) (by omega) (by simp; omega) (by omega) (by omega)).mono ?_
      rintro r ⟨c1, c2, c3⟩
      exact ⟨c1, c2, by omega⟩
    · refine EvP.yes (by omega) ?_
      rw [e1.out]
      refine (ih (i + 1) _ r1.2 (by omega) (by omega) (by simp; omega) (by omega) (by omega)).mono ?_
      rintro r ⟨c1, c2, c3⟩
      exact ⟨c1, c2, by omega⟩
theorem some_ok {B : List Int} (hB : okB B) (p n : Int) (hn : 0 ≤ n ∧ n ≤ 20) (hp : 0 ≤ p ∧ p ≤ 900000) : EvP (fun k => spec_l91Some.f k B p n) (fun r => (r.1.length : Int) = n ∧ 0 ≤ r.2 ∧ r.2 ≤ p + 2 * n) := by
  simp only [spec_l91Some.f]
  refine (some_loop hB n hn n.toNat 0 [] p (by omega) (by omega) rfl (by omega) (by omega)).mono ?_
  rintro r ⟨c1, c2, c3⟩
  exact ⟨c1, c2, by omega⟩
theorem draw_psalm {B : List Int} (hB : okB B) (p : Int) (hp : 0 ≤ p ∧ p ≤ 100000) : EvP (fun k => spec_l91Psalm.f k B p) (fun r => r.1.length ≤ 10 ∧ r.2.2.2.1.length ≤ 10 ∧ r.2.2.2.2.1.length ≤ 10 ∧ 0 ≤ r.2.2.2.2.2 ∧ r.2.2.2.2.2 ≤ p + 50) := by
  simp only [spec_l91Psalm.f]
  refine EvP.bind (pick_ok hB p 4 (by omega) (by omega)) (fun r1 ⟨a1, a2, a3⟩ => ?_)
  refine EvP.bind (some_ok hB r1.2 r1.1 (by omega) (by omega)) (fun r2 ⟨b1, b2, b3⟩ => ?_)
  refine EvP.bind (pick_ok hB r2.2 4 (by omega) (by omega)) (fun r3 ⟨c1, c2, c3⟩ => ?_)
  refine EvP.bind (pick_ok hB r3.2 3 (by omega) (by omega)) (fun r4 ⟨d1, d2, d3⟩ => ?_)
  have e4 : Hd (wrap64 (1 + r4.1) = 1 + r4.1) := ⟨w64 (by omega) (by omega)⟩
  rw [e4.out]
  refine EvP.bind (some_ok hB r4.2 (1 + r4.1) (by omega) (by omega)) (fun r5 ⟨f1, f2, f3⟩ => ?_)
  refine EvP.bind (pick_ok hB r5.2 4 (by omega) (by omega)) (fun r6 ⟨g1, g2, g3⟩ => ?_)
  have e6 : Hd (wrap64 (1 + r6.1) = 1 + r6.1) := ⟨w64 (by omega) (by omega)⟩
  rw [e6.out]
  refine EvP.bind (some_ok hB r6.2 (1 + r6.1) (by omega) (by omega)) (fun r7 ⟨h1, h2, h3⟩ => ?_)
  refine EvP.bind (pick_ok hB r7.2 40 (by omega) (by omega)) (fun r8 ⟨i1, i2, i3⟩ => ?_)
  refine EvP.ite (fun _ => EvP.ret ?_) (fun _ => EvP.ite (fun _ => EvP.ret ?_) (fun _ => EvP.ite (fun _ => ?_) (fun _ => EvP.ret ?_)))
  · exact ⟨by simp only []; omega, by simp only []; omega, by simp only []; omega, by simp only []; omega, by simp only []; omega⟩
  · exact ⟨by simp only []; omega, Nat.zero_le _, by simp only []; omega, by simp only []; omega, by simp only []; omega⟩
  · refine EvP.bind (some_ok hB r8.2 5 (by omega) (by omega)) (fun r9 ⟨j1, j2, j3⟩ => EvP.ret ?_)
    exact ⟨by simp only []; omega, by simp only []; omega, by simp only []; omega, by simp only []; omega, by simp only []; omega⟩
  · exact ⟨by simp only []; omega, by simp only []; omega, by simp only []; omega, by simp only []; omega, by simp only []; omega⟩
theorem verse_end {B : List Int} (hB : okB B) (t : ByteArray) (ht : t.size ≤ 1000) (p : Int) (hp : 0 ≤ p ∧ p ≤ 200000) : EvP (fun k => spec_l91Verse.l0 k t 2 B p) (fun r => r.1.size ≤ t.size + 12 ∧ 0 ≤ r.2 ∧ r.2 ≤ p + 2) := by
  refine EvP.succ ?_
  simp only [spec_l91Verse.l0]
  refine EvP.no (by omega) ?_
  refine EvP.bind (pick_ok hB p 24 (by omega) (by omega)) (fun r1 ⟨a1, a2, a3⟩ => ?_)
  refine EvP.ite (fun _ => ?_) (fun _ => EvP.ite (fun _ => ?_) (fun _ => EvP.ite (fun _ => ?_) (fun _ => EvP.ret ?_)))
  · refine EvP.bind (of_size hB r1.2 (by omega) _ (by decide) 2 (by intro t h; simp at h; rcases h with rfl | rfl | rfl <;> decide)) (fun r2 ⟨b1, _, b3⟩ => ?_)
    refine EvP.yes (by omega) (EvP.ret ⟨?_, by simp only []; omega, by simp only []; omega⟩)
    rw [ByteArray.size_append]
    omega
  · refine EvP.bind (of_size hB r1.2 (by omega) _ (by decide) 3 (by intro t h; simp at h; rcases h with rfl | rfl | rfl | rfl | rfl | rfl <;> decide)) (fun r2 ⟨b1, _, b3⟩ => ?_)
    exact EvP.ret ⟨by simp only []; omega, by simp only []; omega, by simp only []; omega⟩
  · refine EvP.yes (by omega) (EvP.ret ⟨?_, by simp only []; omega, by simp only []; omega⟩)
    rw [ByteArray.size_append]
    exact Nat.le_refl _
  · exact ⟨by simp only []; omega, by simp only []; omega, by simp only []; omega⟩
theorem verse_half {B : List Int} (hB : okB B) (x4 : Int) (n T : Nat) (P : Int) (Q : ByteArray × Int → Prop) (hn : n ≤ 100) (hT : T ≤ 900) (hP : P ≤ 200000) (hc : ∀ (t : ByteArray) (p : Int), t.size ≤ T → 0 ≤ p → p ≤ P → EvP (fun k => spec_l91Verse.l0 k (if x4 = 0 then t ++ (⟨#[124]⟩ : ByteArray) else t) (wrap64 (x4 + 1)) B p) Q) :
    ∀ (d i : Nat) (t : ByteArray) (p : Int), i + d = n → t.size + d ≤ T → 0 ≤ p → p + d ≤ P → EvP (fun k => spec_l91Verse.l1 k t x4 (n : Int) (i : Int) B p) Q := by
  intro d
  induction d with
  | zero =>
    intro i t p hi ht hp hp'
    refine EvP.succ ?_
    simp only [spec_l91Verse.l1]
    refine EvP.no (by omega) ?_
    have h := hc t p (by omega) hp (by omega)
    by_cases hx : x4 = 0
    · rw [if_pos hx] at h
      exact EvP.yes hx (EvP.yes (by omega) h)
    · rw [if_neg hx] at h
      exact EvP.no hx h
  | succ d ih =>
    intro i t p hi ht hp hp'
    refine EvP.succ ?_
    simp only [spec_l91Verse.l1]
    refine EvP.yes (by omega) ?_
    refine EvP.bind (of_size hB p (by omega) _ (by decide) 1 (by intro t h; simp at h; rcases h with rfl | rfl | rfl <;> decide)) (fun r2 ⟨b1, _, b3⟩ => ?_)
    refine EvP.yes (by omega) ?_
    have e1 : Hd (wrap64 ((i : Int) + 1) = ((i + 1 : Nat) : Int)) := ⟨w64 (by omega) (by omega)⟩
    rw [e1.out]
    exact ih (i + 1) _ _ (by omega) (by rw [ByteArray.size_append]; omega) (by omega) (by omega)
theorem draw_verse {B : List Int} (hB : okB B) (p : Int) (hp : 0 ≤ p ∧ p ≤ 100000) : EvP (fun k => spec_l91Verse.f k B p) (fun r => r.1.size ≤ 100 ∧ 0 ≤ r.2 ∧ r.2 ≤ p + 50) := by
  simp only [spec_l91Verse.f]
  have h2 : ∀ (t : ByteArray) (p' : Int), t.size ≤ 40 → 0 ≤ p' → p' ≤ p + 40 → EvP (fun k => spec_l91Verse.l0 k (if (1 : Int) = 0 then t ++ (⟨#[124]⟩ : ByteArray) else t) (wrap64 (1 + 1)) B p') (fun r => r.1.size ≤ 100 ∧ 0 ≤ r.2 ∧ r.2 ≤ p + 50) := by
    intro t p' ht h0 h1
    rw [if_neg (by decide), show wrap64 (1 + 1) = 2 from w64 (by omega) (by omega)]
    refine (verse_end hB t (by omega) p' (by omega)).mono ?_
    rintro r ⟨a, b, c⟩
    exact ⟨by omega, b, by omega⟩
  have h1 : ∀ (t : ByteArray) (p' : Int), t.size ≤ 20 → 0 ≤ p' → p' ≤ p + 20 → EvP (fun k => spec_l91Verse.l0 k t 1 B p') (fun r => r.1.size ≤ 100 ∧ 0 ≤ r.2 ∧ r.2 ≤ p + 50) := by
    intro t p' ht h0 h1
    refine EvP.succ ?_
    simp only [spec_l91Verse.l0]
    refine EvP.yes (by omega) ?_
    refine EvP.bind (pick_ok hB p' 8 (by omega) (by omega)) (fun r1 ⟨a1, a2, a3⟩ => ?_)
    have e4 : Hd (wrap64 (1 + r1.1) = ((1 + r1.1.toNat : Nat) : Int)) := ⟨by rw [w64 (by omega) (by omega)]; omega⟩
    rw [e4.out]
    exact verse_half hB 1 (1 + r1.1.toNat) 40 (p + 40) _ (by omega) (by omega) (by omega) h2 (1 + r1.1.toNat) 0 t r1.2 (by omega) (by omega) (by omega) (by omega)
  have h1' : ∀ (t : ByteArray) (p' : Int), t.size ≤ 19 → 0 ≤ p' → p' ≤ p + 20 → EvP (fun k => spec_l91Verse.l0 k (if (0 : Int) = 0 then t ++ (⟨#[124]⟩ : ByteArray) else t) (wrap64 (0 + 1)) B p') (fun r => r.1.size ≤ 100 ∧ 0 ≤ r.2 ∧ r.2 ≤ p + 50) := by
    intro t p' ht h0 h2
    rw [if_pos rfl, show wrap64 (0 + 1) = 1 from w64 (by omega) (by omega)]
    exact h1 _ p' (by rw [ByteArray.size_append]; show t.size + 1 ≤ 20; omega) h0 h2
  refine EvP.succ ?_
  simp only [spec_l91Verse.l0]
  refine EvP.yes (by omega) ?_
  refine EvP.bind (pick_ok hB p 8 (by omega) (by omega)) (fun r1 ⟨a1, a2, a3⟩ => ?_)
  have e4 : Hd (wrap64 (1 + r1.1) = ((1 + r1.1.toNat : Nat) : Int)) := ⟨by rw [w64 (by omega) (by omega)]; omega⟩
  rw [e4.out]
  exact verse_half hB 0 (1 + r1.1.toNat) 19 (p + 20) _ (by omega) (by omega) (by omega) h1' (1 + r1.1.toNat) 0 ⟨#[]⟩ r1.2 (by omega) (by show 0 + _ ≤ 19; omega) (by omega) (by omega)
theorem draw_sing {B : List Int} (hB : okB B) (p : Int) (hp : 0 ≤ p ∧ p ≤ 10000) : EvP (fun k => spec_l91Sing.f k B p) (fun r => r.1.length ≤ 10 ∧ r.2.2.2.1.length ≤ 10 ∧ r.2.2.2.2.1.length ≤ 10 ∧ r.2.2.2.2.2.1.size ≤ 100) := by
  simp only [spec_l91Sing.f]
  refine EvP.bind (draw_psalm hB p (by omega)) (fun r1 ⟨a1, a2, a3, a4, a5⟩ => ?_)
  refine EvP.bind (draw_verse hB r1.2.2.2.2.2 (by omega)) (fun r2 ⟨b1, b2, b3⟩ => EvP.ret ?_)
  exact ⟨a1, a2, a3, b1⟩
end Go.Proofs.YtdgmkfbmeaalpaaDoor.Pur
end
section
namespace Go.Proofs.YtdgmkfbmeaalpaaDoor.E
open Go.RowKit Go.Proofs.YtdgmkfbmeaalpaaDoorW.PrintWords Go.Proofs.YtdgmkfbmeaalpaaDoorW.PrintLast Go.Proofs.YtdgmkfbmeaalpaaDoorW.PrintMore
attribute [local go_sem] max2_int min2_int max_two min_two max_three min_three max_four min_four
set_option linter.unusedVariables false
set_option linter.unusedSimpArgs false
attribute [local go_sem] str_leq_ str_gtr_ str_geq_
mutual
def laws_FnPsalmAccents.j0 : Nat → ByteArray → Int → Int → Bool → List (S25) → Int → Bool → List (S25) → List (S25) → Option (Bool)
 | 0, _, _, _, _, _, _, _, _, _ => none
 | k + 1, x4, x5, x6, x33, x452000, x452001, x452002, x452003, x452004 => if x33 = true then (some (x5 == x6)) else ((impl_VerseHalves.f x4).bind fun bt454 => (laws_FnPsalmAccents.l0 k x4 x5 bt454.1 bt454.2.1 bt454.2.2 (⟨#[]⟩ : ByteArray) 0 x452000 x452001 x452002 x452003 x452004))
def laws_FnPsalmAccents.l0 : Nat → ByteArray → Int → ByteArray → ByteArray → Bool → ByteArray → Int → List (S25) → Int → Bool → List (S25) → List (S25) → Option (Bool)
 | 0, _, _, _, _, _, _, _, _, _, _, _, _ => none
 | k + 1, x4, x5, x7, x8, x9, x10, x11, x452000, x452001, x452002, x452003, x452004 => if x11 < (x7.size : Int) then (if x10.size + 1 ≤ 9223372036854775807 then (laws_FnPsalmAccents.l0 k x4 x5 x7 x8 x9 (x10 ++ (⟨#[120]⟩ : ByteArray)) (wrap64 (x11 + 1)) x452000 x452001 x452002 x452003 x452004) else (none)) else (if x10.size + 1 ≤ 9223372036854775807 then (laws_FnPsalmAccents.l1 k x4 x5 x8 x9 (x10 ++ (⟨#[124]⟩ : ByteArray)) 0 x452000 x452001 x452002 x452003 x452004) else (none))
def laws_FnPsalmAccents.l1 : Nat → ByteArray → Int → ByteArray → Bool → ByteArray → Int → List (S25) → Int → Bool → List (S25) → List (S25) → Option (Bool)
 | 0, _, _, _, _, _, _, _, _, _, _, _ => none
 | k + 1, x4, x5, x8, x9, x10, x12, x452000, x452001, x452002, x452003, x452004 => if x12 < (x8.size : Int) then (if x10.size + 1 ≤ 9223372036854775807 then (laws_FnPsalmAccents.l1 k x4 x5 x8 x9 (x10 ++ (⟨#[120]⟩ : ByteArray)) (wrap64 (x12 + 1)) x452000 x452001 x452002 x452003 x452004) else (none)) else (if x9 = true then ((impl_VerseAccents.f k x4).bind fun t457 => (if x5 ≤ (t457.length : Int) then (if x5 ≤ (wrap64 ((x452003.length : Int) + (x452004.length : Int))) then ((impl_PsalmAccents.f k x452000 x452001 x452002 x452003 x452004 x10).bind fun t460 => (some (t460 == 0))) else (none)) else (none))) else (none))
end
def laws_FnPsalmAccents.f (k : Nat) (l0 : List Int) : Option (Bool) := if (l0.length : Int) > 1048576 then (some true) else ((spec_DrawPsalmAccents.f k l0).bind fun bt439 => ((impl_PsalmAccents.f k bt439.1 bt439.2.1 bt439.2.2.1 bt439.2.2.2.1 bt439.2.2.2.2.1 bt439.2.2.2.2.2).bind fun t452 => ((spec_PsalmAccents.f k bt439.1 bt439.2.1 bt439.2.2.1 bt439.2.2.2.1 bt439.2.2.2.2.1 bt439.2.2.2.2.2).bind fun t453 => (if t452 = t453 then (laws_FnPsalmAccents.j0 k bt439.2.2.2.2.2 t452 t453 (decide (t452 < 0)) bt439.1 bt439.2.1 bt439.2.2.1 bt439.2.2.2.1 bt439.2.2.2.2.1) else (laws_FnPsalmAccents.j0 k bt439.2.2.2.2.2 t452 t453 true bt439.1 bt439.2.1 bt439.2.2.1 bt439.2.2.2.1 bt439.2.2.2.2.1)))))
def laws_FnPsalmAccents.Pure : Prop := ∀ (l0 : List Int), l0.length ≤ maxLen → l0.length * 1 ≤ 140737488351232 → (∀ x ∈ l0, (Lit.int .u8 x).wf = true) → ∃ k, laws_FnPsalmAccents.f k l0 = some true
end Go.Proofs.YtdgmkfbmeaalpaaDoor.E
end
section
namespace Go.Proofs.YtdgmkfbmeaalpaaDoor.Pur
open Go.RowKit Go.Proofs.YtdgmkfbmeaalpaaDoorW.PrintWords Go.Proofs.YtdgmkfbmeaalpaaDoorW.PrintMore Go.Proofs.YtdgmkfbmeaalpaaDoor.E
theorem EvP.now' {α β : Type} {o : Option α} {r : α} {f : Nat → α → Option β} {Q : β → Prop} (h : o = some r) (k : EvP (fun n => f n r) Q) : EvP (fun n => o.bind (f n)) Q := by
  subst h
  exact k
def mkB (l : List UInt8) : ByteArray := ⟨l.toArray⟩
theorem mkB_of (t : ByteArray) : mkB t.data.toList = t := ba_ext rfl
theorem mkB_size (l : List UInt8) : (mkB l).size = l.length := ba_size l
theorem mkB_list (l : List UInt8) : (mkB l).data.toList = l := rfl
theorem cutL_bar : ∀ (a b : List UInt8), (∀ x ∈ a, x ≠ 124) → cutL (a ++ 124 :: b) = (a, b, true)
  | [], b, _ => rfl
  | x :: a, b, h => by
    rw [List.cons_append, cutL, if_neg (h x List.mem_cons_self), cutL_bar a b (fun y hy => h y (List.mem_cons_of_mem _ hy))]
theorem half_bar {l : List UInt8} (h : halfL l = true) : ∀ x ∈ l, x ≠ 124 := by
  intro x hx e
  subst e
  simp only [halfL, Bool.and_eq_true, List.all_eq_true] at h
  exact absurd (h.2 _ hx) (by decide)
theorem verse_of {a b : List UInt8} (ha : halfL a = true) (hb : halfL b = true) (hl : a.length + b.length ≤ 20) : verse (mkB (a ++ 124 :: b)) = some (mkB a, mkB b) := by
  unfold verse
  rw [mkB_list, cutL_bar a b (half_bar ha), if_pos ⟨rfl, ha, hb, hl⟩]
  rfl
section
variable {ps pm pe : TL} {x : Int} {b : Bool} {s u v : ByteArray}
end
theorem halves_of {s u v : ByteArray} (h : verse s = some (u, v)) : halvesOf s = (u, v, true) := by
  unfold halvesOf
  rw [h]
theorem same_loop (l : TL) (hl : l.length ≤ 1000000) : ∀ d i : Nat, i + d = l.length → EvP (fun k => laws_sameTones.l0 k l l (i : Int)) (· = true) := by
  intro d
  induction d with
  | zero =>
    intro i hi
    refine EvP.succ ?_
    simp only [laws_sameTones.l0]
    exact EvP.no (by omega) (EvP.ret rfl)
  | succ d ih =>
    intro i hi
    refine EvP.succ ?_
    simp only [laws_sameTones.l0]
    refine EvP.yes (by omega) (EvP.yes (by omega) (EvP.yes (by omega) (EvP.no (by simp) ?_)))
    rw [w64 (by omega) (by omega), show (i : Int) + 1 = ((i + 1 : Nat) : Int) by omega]
    exact ih (i + 1) (by omega)
theorem same_self (l : TL) (hl : l.length ≤ 1000000) : EvP (fun k => laws_sameTones.f k l l) (· = true) := by
  simp only [laws_sameTones.f]
  exact EvP.yes (by trivial) (same_loop l hl l.length 0 (by omega))
theorem draw_tenors (l : List Int) (h : ∀ x ∈ l, (Lit.int .u8 x).wf = true) : EvP (fun k => spec_DrawPsalmTenors.f k l) (fun r => r.1.length ≤ 10 ∧ r.2.2.2.1.length ≤ 10 ∧ r.2.2.2.2.1.length ≤ 10 ∧ r.2.2.2.2.2.size ≤ 100) := by
  simp only [spec_DrawPsalmTenors.f]
  refine EvP.bind (open_code l h) (fun r0 ⟨hB, e0⟩ => ?_)
  refine EvP.bind (draw_sing hB r0.2 (by omega)) (fun r1 ⟨a1, a2, a3, a4⟩ => EvP.ret ?_)
  exact ⟨a1, a2, a3, a4⟩
theorem sing_more (ps : TL) (x : Int) (b : Bool) (pm pe : TL) (m n : Nat) (h1 : ps.length + pm.length ≤ m) (h2 : pe.length ≤ n) : singOf ps x b pm pe m (n + 1) = (singOf ps x b pm pe m n).take (m + n - pe.length) ++ [⟨x, b⟩] ++ (singOf ps x b pm pe m n).drop (m + n - pe.length) := by
  have e : singOf ps x b pm pe m n = (ps ++ (List.replicate (m - pm.length - ps.length) ⟨x, b⟩ ++ (pm ++ List.replicate (n - pe.length) ⟨x, b⟩))) ++ pe := by simp [singOf]
  have hl : (ps ++ (List.replicate (m - pm.length - ps.length) (⟨x, b⟩ : S25) ++ (pm ++ List.replicate (n - pe.length) (⟨x, b⟩ : S25)))).length = m + n - pe.length := by
    simp only [List.length_append, List.length_replicate]
    omega
  rw [e, List.take_left' hl, List.drop_left' hl]
  unfold singOf
  rw [show n + 1 - pe.length = n - pe.length + 1 by omega, List.replicate_succ']
  simp
theorem law_more (l : List Int) (_ : (l.length : Int) ≤ 9223372036854775807) (hw : ∀ x ∈ l, (Lit.int .u8 x).wf = true) : ∃ k, laws_FnPsalmMore.f k l = some true := by
  refine EvP.rounds ?_
  simp only [laws_FnPsalmMore.f]
  refine EvP.ite (fun _ => EvP.ret rfl) (fun _ => ?_)
  refine EvP.bind (draw_tenors l hw) (fun r ⟨a1, a2, a3, a4⟩ => ?_)
  refine EvP.bind (impl_tenors _ _ _ _ _ _ (by omega)) (fun _ e => ?_)
  subst e
  refine EvP.bind (spec_tenors _ _ _ _ _ _ (by omega) (by omega) (by omega) (by omega)) (fun _ e => ?_)
  subst e
  refine EvP.yes (by trivial) (EvP.succ ?_)
  simp only [laws_FnPsalmMore.j0]
  rcases hf : fitP r.1 r.2.1 r.2.2.1 r.2.2.2.1 r.2.2.2.2.1 r.2.2.2.2.2 with _ | ⟨u, v⟩
  · exact EvP.yes (by trivial) (EvP.ret rfl)
  · obtain ⟨h, hv, h1, h2⟩ := fit_some hf
    obtain ⟨hl, hu1, hv1, hsz, hhu, hhv, _⟩ := verse_some hv
    obtain ⟨l1, l2, l3, l4, l5, _⟩ := okPs_lens h
    have hn : ¬ (decide (tenR r.1 r.2.2.2.1 r.2.2.2.2.1 (some (u, v)) < 0) = true) := by
      intro hd
      have hd := of_decide_eq_true hd
      simp only [tenR] at hd
      omega
    refine EvP.no hn ?_
    refine EvP.bind (EvP.con (impl_halves _ (by omega)) (P := (· = halvesOf r.2.2.2.2.2)) rfl) (fun _ e => ?_)
    subst e
    rw [halves_of hv]
    simp only []
    have e2 : u ++ (⟨#[124, 120]⟩ : ByteArray) ++ v = mkB (u.data.toList ++ 124 :: (120 :: v.data.toList)) := by
      refine ba_ext ?_
      simp [ByteArray.data_append, mkB_list]
    refine EvP.yes (by omega) (EvP.yes (by rw [ByteArray.size_append]; show u.size + 2 + v.size ≤ _; omega) (EvP.yes (by trivial) ?_))
    rw [e2]
    have hsz2 : (mkB (u.data.toList ++ 124 :: (120 :: v.data.toList))).size = u.size + v.size + 2 := by
      rw [mkB_size]
      simp
      omega
    refine EvP.bind (EvP.con (impl_valid_v _ (by omega)) (P := (· = (verse (mkB (u.data.toList ++ 124 :: (120 :: v.data.toList)))).isSome)) rfl) (fun _ e => ?_)
    subst e
    refine EvP.succ ?_
    simp only [laws_FnPsalmMore.j1]
    rcases hq : verse (mkB (u.data.toList ++ 124 :: (120 :: v.data.toList))) with _ | ⟨u2, v2⟩
    · exact EvP.yes (by trivial) (EvP.ret rfl)
    · refine EvP.no (by simp) ?_
      have hb : halfL (120 :: v.data.toList) = true := by
        simp only [halfL, Bool.and_eq_true] at hhv ⊢
        refine ⟨rfl, ?_⟩
        rw [List.all_cons, hhv.2]
        rfl
      have hl2 : u.data.toList.length + (120 :: v.data.toList).length ≤ 20 := by
        have := (verse_some hq)
        obtain ⟨g1, g2, g3, g4, _⟩ := this
        rw [List.length_cons, list_len, list_len]
        omega
      have hq2 := verse_of hhu hb hl2
      rw [List.length_cons, list_len, list_len] at hl2
      have hz2 : (mkB (120 :: v.data.toList)).size = v.size + 1 := by rw [mkB_size, List.length_cons, list_len]
      have hf2 := fit_of (ps := r.1) (x := r.2.1) (b := r.2.2.1) (pm := r.2.2.2.1) (pe := r.2.2.2.2.1) h hq2 (by rw [mkB_of]; exact h1) (by rw [hz2]; omega)
      rw [mkB_of] at hf2
      refine EvP.bind (impl_sing r.1 r.2.1 r.2.2.1 r.2.2.2.1 r.2.2.2.2.1 r.2.2.2.2.2 (by omega)) (fun _ e => ?_)
      subst e
      refine EvP.bind (impl_sing r.1 r.2.1 r.2.2.1 r.2.2.2.1 r.2.2.2.2.1 _ (by omega)) (fun _ e => ?_)
      subst e
      rw [hf, hf2]
      simp only [singR]
      have hsl := sing_len (x := r.2.1) (b := r.2.2.1) h1 h2
      have ew : Hd (wrap64 (wrap64 ((u.size : Int) + (v.size : Int)) - (r.2.2.2.2.1.length : Int)) = ((u.size + v.size - r.2.2.2.2.1.length : Nat) : Int)) := ⟨by rw [w64 (i := (u.size : Int) + v.size) (by omega) (by omega), w64 (by omega) (by omega)]; omega⟩
      refine EvP.now' rfl ?_
      rw [ew.out]
      refine EvP.yes (by omega) (EvP.yes (by omega) ?_)
      rw [toNat_nat]
      refine EvP.now' rfl (EvP.yes (by rw [List.length_take, List.length_nil]; omega) ?_)
      refine EvP.now' rfl (EvP.now' rfl (EvP.yes (by rw [List.nil_append, List.length_take, List.length_singleton]; omega) ?_))
      refine EvP.now' rfl (EvP.now' rfl (EvP.yes (by rw [List.nil_append, List.length_append, List.length_take, List.length_singleton, List.length_drop]; omega) (EvP.yes (by trivial) (EvP.yes (by trivial) ?_))))
      refine EvP.bind (impl_tenors r.1 r.2.1 r.2.2.1 r.2.2.2.1 r.2.2.2.2.1 _ (by omega)) (fun _ e => ?_)
      subst e
      rw [hf2]
      simp only [tenR]
      refine EvP.yes (by rw [hz2, w64 (by omega) (by omega)]; omega) ?_
      rw [List.nil_append, ← sing_more _ _ _ _ _ _ _ h1 h2, hz2]
      refine EvP.bind (same_self _ ?_) (fun _ e => EvP.ret e)
      rw [sing_len h1 (by omega)]
      omega
end Go.Proofs.YtdgmkfbmeaalpaaDoor.Pur
end
section
namespace Go.Proofs.YtdgmkfbmeaalpaaDoor.Head
set_option maxRecDepth 100000
theorem and_t {a b : Bool} (h : a = true) (k : b = true) : (a && b) = true := by rw [h, k]; rfl
theorem mayEnter_of {P : Program} {l : List String} {W rest : List (List Char)} (h : behindMainWord (wordsSigns P.initOrder.toList) = W) (hc : ∃ c r, W = c :: r ∧ (c == "gc".toList || c == "spec".toList) = false ∧ (c == "carried".toList) = false) (hs : stripLifts liftWords W = (l, "cut".toList :: rest))
    (hl : (l.contains "finals" || !P.laysLater) = true) (hb : (l.contains "reflectrows" || !P.bearsReflect) = true) (hr : (l.contains "reflectrows" || !l.contains "leanrows") = true) (hd : P.doorFits l = true) : P.mayEnter = true := by
  obtain ⟨c, r, rfl, h1, h2⟩ := hc
  unfold Program.mayEnter
  rw [h]
  dsimp only
  rw [hs, hl, hb, hr, hd, h1, h2]
  simp
theorem headLifts_of {P : Program} {l : List String} {W rest : List (List Char)} (h : behindMainWord (wordsSigns P.initOrder.toList) = W) (hs : stripLifts liftWords W = (l, "cut".toList :: rest)) : P.headLifts = l := by
  unfold Program.headLifts
  rw [h]
  dsimp only
  rw [hs]
  simp
theorem liftsFinal_of {P : Program} {l : List String} {W rest : List (List Char)} (h : behindMainWord (wordsSigns P.initOrder.toList) = W) (hc : ∃ c r, W = c :: r ∧ (c == "gc".toList || c == "spec".toList) = false ∧ (c == "carried".toList) = false) (hs : stripLifts liftWords W = (l, "cut".toList :: rest)) : P.liftsFinal = l.contains "finals" := by
  unfold Program.liftsFinal
  rw [headLifts_of h hs, h]
  obtain ⟨c, r, rfl, h1, h2⟩ := hc
  have h3 : ((c :: r).head? == some "carried".toList) = false := by
    rw [beq_eq_false_iff_ne] at h2 ⊢
    exact fun e => h2 (Option.some.inj e)
  dsimp only
  rw [h3, Bool.false_and, Bool.false_or]
theorem make_of {P : Program} {rest : List (List Char)} (h : behindMainWord (wordsSigns P.initOrder.toList) = "cut".toList :: rest) : P.make = some .cut := by
  unfold Program.make
  rw [h]
  dsimp only
  rw [if_neg (by decide), if_pos (by simp)]
theorem mainIs_of {P : Program} {s : List Char} {rest : List (List Char)} (h : wordsSigns P.initOrder.toList = "harness".toList :: s :: rest) (hs : isSumSigns s = true) : P.mainIs = some (true, s) := by
  unfold Program.mainIs
  rw [h]
  dsimp only
  rw [hs]
  simp
def io : List Nat := [104, 97, 114, 110, 101, 115, 115, 32, 57, 53, 99, 56, 51, 49, 56, 101, 49, 51, 57, 50, 101, 98, 50, 97, 53, 100, 98, 55, 98, 56, 98, 55, 97, 57, 57, 100, 50, 56, 50, 99, 53, 54, 50, 53, 56, 101, 55, 102, 101, 54, 49, 101, 48, 100, 97, 56, 101, 52, 50, 57, 101, 54, 100, 53, 100, 51, 48, 52, 101, 52, 101, 101, 32, 99, 117, 116, 32, 97, 116, 32, 108, 111, 111, 112, 46, 101, 120, 97, 109, 112, 108, 101, 47, 110, 101, 117, 109, 101, 115, 47, 108, 97, 119, 115, 46, 70, 110, 80, 115, 97, 108, 109, 70, 105, 116, 115, 32, 108, 111, 111, 112, 46, 101, 120, 97, 109, 112, 108, 101, 47, 110, 101, 117, 109, 101, 115, 47, 108, 97, 119, 115, 46, 70, 110, 69, 120, 97, 99, 116, 80, 115, 97, 108, 109, 84, 101, 110, 111, 114, 115, 32, 108, 111, 111, 112, 46, 101, 120, 97, 109, 112, 108, 101, 47, 110, 101, 117, 109, 101, 115, 47, 108, 97, 119, 115, 46, 70, 110, 80, 115, 97, 108, 109, 65, 99, 99, 101, 110, 116, 115, 32, 108, 111, 111, 112, 46, 101, 120, 97, 109, 112, 108, 101, 47, 110, 101, 117, 109, 101, 115, 47, 108, 97, 119, 115, 46, 70, 110, 69, 120, 97, 99, 116, 80, 115, 97, 108, 109, 65, 99, 99, 101, 110, 116, 115, 32, 108, 111, 111, 112, 46, 101, 120, 97, 109, 112, 108, 101, 47, 110, 101, 117, 109, 101, 115, 47, 108, 97, 119, 115, 46, 70, 110, 80, 115, 97, 108, 109, 77, 111, 114, 101, 32, 108, 111, 111, 112, 46, 101, 120, 97, 109, 112, 108, 101, 47, 110, 101, 117, 109, 101, 115, 47, 108, 97, 119, 115, 46, 70, 110, 80, 115, 97, 108, 109, 32, 108, 111, 111, 112, 46, 101, 120, 97, 109, 112, 108, 101, 47, 110, 101, 117, 109, 101, 115, 47, 108, 97, 119, 115, 46, 70, 110, 69, 120, 97, 99, 116, 80, 115, 97, 108, 109, 83, 105, 110, 103, 32, 108, 111, 111, 112, 46, 101, 120, 97, 109, 112, 108, 101, 47, 110, 101, 117, 109, 101, 115, 47, 108, 97, 119, 115, 46, 70, 110, 80, 115, 97, 108, 109, 66, 101, 115, 116, 32, 108, 111, 111, 112, 46, 101, 120, 97, 109, 112, 108, 101, 47, 110, 101, 117, 109, 101, 115, 47, 108, 97, 119, 115, 46, 70, 110, 80, 115, 97, 108, 109, 82, 101, 97, 100, 32, 108, 111, 111, 112, 46, 101, 120, 97, 109, 112, 108, 101, 47, 110, 101, 117, 109, 101, 115, 47, 108, 97, 119, 115, 46, 70, 110, 69, 120, 97, 99, 116, 80, 115, 97, 108, 109, 82, 101, 97, 100, 32, 108, 111, 111, 112, 46, 101, 120, 97, 109, 112, 108, 101, 47, 110, 101, 117, 109, 101, 115, 47, 108, 97, 119, 115, 46, 70, 110, 69, 120, 97, 99, 116, 80, 115, 97, 108, 109, 66, 101, 115, 116, 32, 108, 111, 111, 112, 46, 101, 120, 97, 109, 112, 108, 101, 47, 110, 101, 117, 109, 101, 115, 47, 108, 97, 119, 115, 46, 70, 110, 80, 115, 97, 108, 109, 77, 111, 118, 101]
def ws : List (List Nat) := [[104, 97, 114, 110, 101, 115, 115], [57, 53, 99, 56, 51, 49, 56, 101, 49, 51, 57, 50, 101, 98, 50, 97, 53, 100, 98, 55, 98, 56, 98, 55, 97, 57, 57, 100, 50, 56, 50, 99, 53, 54, 50, 53, 56, 101, 55, 102, 101, 54, 49, 101, 48, 100, 97, 56, 101, 52, 50, 57, 101, 54, 100, 53, 100, 51, 48, 52, 101, 52, 101, 101], [99, 117, 116], [97, 116], [108, 111, 111, 112, 46, 101, 120, 97, 109, 112, 108, 101, 47, 110, 101, 117, 109, 101, 115, 47, 108, 97, 119, 115, 46, 70, 110, 80, 115, 97, 108, 109, 70, 105, 116, 115], [108, 111, 111, 112, 46, 101, 120, 97, 109, 112, 108, 101, 47, 110, 101, 117, 109, 101, 115, 47, 108, 97, 119, 115, 46, 70, 110, 69, 120, 97, 99, 116, 80, 115, 97, 108, 109, 84, 101, 110, 111, 114, 115], [108, 111, 111, 112, 46, 101, 120, 97, 109, 112, 108, 101, 47, 110, 101, 117, 109, 101, 115, 47, 108, 97, 119, 115, 46, 70, 110, 80, 115, 97, 108, 109, 65, 99, 99, 101, 110, 116, 115], [108, 111, 111, 112, 46, 101, 120, 97, 109, 112, 108, 101, 47, 110, 101, 117, 109, 101, 115, 47, 108, 97, 119, 115, 46, 70, 110, 69, 120, 97, 99, 116, 80, 115, 97, 108, 109, 65, 99, 99, 101, 110, 116, 115], [108, 111, 111, 112, 46, 101, 120, 97, 109, 112, 108, 101, 47, 110, 101, 117, 109, 101, 115, 47, 108, 97, 119, 115, 46, 70, 110, 80, 115, 97, 108, 109, 77, 111, 114, 101], [108, 111, 111, 112, 46, 101, 120, 97, 109, 112, 108, 101, 47, 110, 101, 117, 109, 101, 115, 47, 108, 97, 119, 115, 46, 70, 110, 80, 115, 97, 108, 109], [108, 111, 111, 112, 46, 101, 120, 97, 109, 112, 108, 101, 47, 110, 101, 117, 109, 101, 115, 47, 108, 97, 119, 115, 46, 70, 110, 69, 120, 97, 99, 116, 80, 115, 97, 108, 109, 83, 105, 110, 103], [108, 111, 111, 112, 46, 101, 120, 97, 109, 112, 108, 101, 47, 110, 101, 117, 109, 101, 115, 47, 108, 97, 119, 115, 46, 70, 110, 80, 115, 97, 108, 109, 66, 101, 115, 116], [108, 111, 111, 112, 46, 101, 120, 97, 109, 112, 108, 101, 47, 110, 101, 117, 109, 101, 115, 47, 108, 97, 119, 115, 46, 70, 110, 80, 115, 97, 108, 109, 82, 101, 97, 100], [108, 111, 111, 112, 46, 101, 120, 97, 109, 112, 108, 101, 47, 110, 101, 117, 109, 101, 115, 47, 108, 97, 119, 115, 46, 70, 110, 69, 120, 97, 99, 116, 80, 115, 97, 108, 109, 82, 101, 97, 100], [108, 111, 111, 112, 46, 101, 120, 97, 109, 112, 108, 101, 47, 110, 101, 117, 109, 101, 115, 47, 108, 97, 119, 115, 46, 70, 110, 69, 120, 97, 99, 116, 80, 115, 97, 108, 109, 66, 101, 115, 116], [108, 111, 111, 112, 46, 101, 120, 97, 109, 112, 108, 101, 47, 110, 101, 117, 109, 101, 115, 47, 108, 97, 119, 115, 46, 70, 110, 80, 115, 97, 108, 109, 77, 111, 118, 101]]
def ch (w : List Nat) : List Char := w.map Char.ofNat
theorem io_is : Tryd.prog.initOrder = String.ofList (ch io) := by kernel_rfl
theorem io_ws : wordsSigns (ch io) = ws.map ch := by kernel_rfl
theorem io_all : wordsSigns Tryd.prog.initOrder.toList = ws.map ch := by rw [io_is, String.toList_ofList, io_ws]
theorem be : behindMainWord (ws.map ch) = (ws.drop 2).map ch := by kernel_rfl
theorem io_be : behindMainWord (wordsSigns Tryd.prog.initOrder.toList) = (ws.drop 2).map ch := by rw [io_all, be]
theorem first : ∃ c r, (ws.drop 2).map ch = c :: r ∧ (c == "gc".toList || c == "spec".toList) = false ∧ (c == "carried".toList) = false := ⟨ch (ws.getD 2 []), (ws.drop 3).map ch, by kernel_rfl, by kernel_rfl, by kernel_rfl⟩
theorem st : stripLifts liftWords ((ws.drop 2).map ch) = ([], "cut".toList :: ((ws.drop 3).map ch)) := by kernel_rfl
theorem ll : ([].contains "finals" || !Tryd.prog.laysLater) = true := by kernel_rfl
theorem br : ([].contains "reflectrows" || !Tryd.prog.bearsReflect) = true := by kernel_rfl
theorem rr : ([].contains "reflectrows" || ![].contains "leanrows") = true := by kernel_rfl
theorem df : Tryd.prog.doorFits [] = true := by kernel_rfl
theorem mayE : Tryd.prog.mayEnter = true := mayEnter_of io_be first st ll br rr df
theorem finE : Tryd.prog.liftsFinal = [].contains "finals" := liftsFinal_of io_be first st
theorem mainE : Tryd.prog.mainIs = some (true, ch [57, 53, 99, 56, 51, 49, 56, 101, 49, 51, 57, 50, 101, 98, 50, 97, 53, 100, 98, 55, 98, 56, 98, 55, 97, 57, 57, 100, 50, 56, 50, 99, 53, 54, 50, 53, 56, 101, 55, 102, 101, 54, 49, 101, 48, 100, 97, 56, 101, 52, 50, 57, 101, 54, 100, 53, 100, 51, 48, 52, 101, 52, 101, 101]) := mainIs_of (rest := (ws.drop 2).map ch) (io_all.trans (by kernel_rfl)) (by kernel_rfl)
theorem makeE : Tryd.prog.make = some .cut := make_of (io_be.trans (by kernel_rfl : (ws.drop 2).map ch = "cut".toList :: ((ws.drop 3).map ch)))
end Go.Proofs.YtdgmkfbmeaalpaaDoor.Head
end
section
namespace Go.Proofs.YtdgmkfbmeaalpaaDoor.Pur
open Go.RowKit Go.ChangeShapes Go.Deep Go.Proofs.YtdgmkfbmeaalpaaDoorW.PrintWords Go.Proofs.YtdgmkfbmeaalpaaDoor.E
theorem open_rowP {P : Program} {H : Type} {enc : TypeId × Value → H} {W : World} {α : Type} [Inhabited α] {d : Kd α} {p : α → Prop} {t e : TypeId} {fuel : Nat} {cs : List Value} {x : DataW H × List MemPlace} (ht : P.underlying t = some (.slice e)) (hc : P.cellsOf e = d.sz)
    (o : ∀ (fuel : Nat) (cs : List Value) (x : DataW H × List MemPlace), DataW.trod enc P W 0 (fun _ => true) true fuel e cs = some x → ∃ y, d.K W y cs ∧ p y)
    (h : DataW.trod enc P W 0 (fun _ => true) true fuel t cs = some x) : ∃ (A : Option Addr) (c : Nat) (l : List α), cs = [.slice A l.length c] ∧ l.length ≤ c ∧ (l.length : Int) ≤ 9223372036854775807 ∧ d.C W A l.length l ∧ ∀ y ∈ l, p y := by
  rcases open_slice ht h with ⟨rfl, _⟩ | ⟨a, len, cap, m, n, D, Pl, rfl, _, hl, hm, hmm, _, hx⟩
  · exact ⟨none, 0, [], rfl, Nat.le_refl _, by simp, ⟨rfl, by simp, fun h => absurd h (by simp)⟩, fun y hy => by cases hy⟩
  · have hlm : len ≤ m := by rw [hmm]; simp; omega
    unfold maxLen at hm
    obtain ⟨Y, hY⟩ := choose_lt (α := α) (n := len) (p := fun i y => ∃ cs', W.cells? 0 (a.add (i * P.cellsOf e)) (P.cellsOf e) = some cs' ∧ d.K W y cs' ∧ p y) (fun i hi => by
      obtain ⟨cs', h1, h2⟩ := hx i (by omega)
      obtain ⟨y, hy, hp⟩ := o _ _ _ h2
      exact ⟨y, cs', h1, hy, hp⟩)
    have hlen : ((List.range len).map Y).length = len := by simp
    refine ⟨some a, cap, (List.range len).map Y, by rw [hlen], by rw [hlen]; exact hl, by rw [hlen]; omega, ⟨rfl, by rw [hlen]; omega, fun _ => ⟨a, rfl, fun j q hj => ?_⟩⟩, fun y hy => ?_⟩
    · obtain ⟨hj1, hj2⟩ := List.getElem?_eq_some_iff.1 hj
      rw [hlen] at hj1
      simp only [List.getElem_map, List.getElem_range] at hj2
      subst hj2
      obtain ⟨cs', h1, h2, _⟩ := hY j hj1
      obtain ⟨_, g1, g2⟩ := World.cells?_some h1
      refine ⟨cs', by rw [g1, hc], h2, fun i u hu => ?_⟩
      have := g2 i (by rw [← g1]; exact (List.getElem?_eq_some_iff.1 hu).1)
      rw [Go.Deep.add_add, hc, hu] at this
      exact this
    · obtain ⟨j, hj, rfl⟩ := List.mem_map.mp hy
      obtain ⟨_, _, _, hp⟩ := hY j (List.mem_range.mp hj)
      exact hp
theorem open_intsR {P : Program} {H : Type} {enc : TypeId × Value → H} {W : World} {k : IntKind} {t e : TypeId} {fuel : Nat} {cs : List Value} {x : DataW H × List MemPlace} (ht : P.underlying t = some (.slice e)) (he : P.underlying e = some (.int k)) (hc : P.cellsOf e = 1) (h : DataW.trod enc P W 0 (fun _ => true) true fuel t cs = some x) :
    ∃ (A : Option Addr) (c : Nat) (l : List Int), cs = [.slice A l.length c] ∧ l.length ≤ c ∧ (l.length : Int) ≤ 9223372036854775807 ∧ (Kd.int k).C W A l.length l ∧ ∀ y ∈ l, (Lit.int k y).wf = true :=
  open_rowP ht hc (fun fuel cs x h => by
    obtain ⟨s, rfl, _, hs⟩ := DataW.trod_int he h
    exact ⟨s, rfl, hs⟩) h
end Go.Proofs.YtdgmkfbmeaalpaaDoor.Pur
end
section
namespace Go.Proofs.YtdgmkfbmeaalpaaDoor.Pur
open Go
variable {H : Type} {enc : TypeId × Value → H}
theorem handed_shaped_and {a : Assume} {C : Checked} {os : Os} {f : FuncId} {fn : Func} {s : ChangeSpec} {conds : List PathCond} {apart fresh handsOn again : Bool} {X : World → Array Value → Prop}
    (hX : ∀ (w w' : World) (args : Array Value), w.heap = w'.heap → X w args → X w' args)
    (own : ownKnob C.prog.godebug = none) (started : os.Started) (noInit : C.prog.inits.idxOf? f = none) (hfn : C.prog.funcs[f]? = some fn)
    (witness : ∃ (w : World) (tape : Tape) (i : Input), w.os = os ∧ (w.forCall tape i).Shaped C.prog ∧ i.vars = [] ∧ Input.okWide C.prog (w.forCall tape i) .any w.heap.size f i ∧
      ((s.pre enc C.prog fn conds apart (w.forCall tape i).memory i.args ∧ X (w.forCall tape i).memory i.args) ∧ sizedMet enc C.prog fn (OpenSpec.ofChange s) apart (w.forCall tape i).memory i.args) ∧ a.holds C.prog (lone (Frame.enter C.prog f i.args .normal) [] (w.forCall tape i)))
    (contract : ∀ (W : World) (base : Nat) (args : Array Value) (ds gs : List (DataW H)) (before : List MemPlace),
      (∀ (j : Nat) t v, fn.params[j]? = some t → args[j]? = some v → Value.okWide C.prog W .any base t v) →
      DataW.Whole enc C.prog fn.params.toList s.vars apart W args.toList ds gs before →
      conds.all (PathCond.test C.prog ⟨fn.params.toList, ds, s.plain.varTypes C.prog, gs⟩) = true →
      (DataW.weightsEach C.prog (fn.params.toList ++ s.plain.varTypes C.prog) (ds ++ gs)).all (· ≤ reachBytes) = true → X W args → W.ShapedOpen C.prog →
      a.holds C.prog (lone (Frame.enter C.prog f args .normal) [] W) →
      Calls C.prog f args W fun e W' => ∃ v, e = .returned v ∧ s.post enc C.prog fn apart fresh handsOn again W args v W') :
    ReturnsInHanded a C os f .any (fun w args => (s.pre enc C.prog fn conds apart w args ∧ X w args) ∧ sizedMet enc C.prog fn (OpenSpec.ofChange s) apart w args) (s.post enc C.prog fn apart fresh handsOn again) := by
  refine returnsInHanded_of_calls own started noInit witness ?_
  intro w tape i _ hsh _ hok hpre hholds
  obtain ⟨_, _, _, fn', hfn', _, _, _, _, hval⟩ := hok
  have e : fn' = fn := Option.some.inj (hfn'.symm.trans hfn)
  subst e
  obtain ⟨⟨⟨ds, gs, before, hw, hc⟩, hx⟩, hz⟩ := hpre
  have hw' := DataW.Whole.of_heap (w' := w.forCall tape i) (by rfl) hw
  refine (contract (w.forCall tape i) w.heap.size i.args ds gs before hval hw' hc (hz.weights hw) (hX _ _ _ (by rfl) hx) hsh hholds).mono fun e W' ⟨v, he, hp⟩ => ?_
  subst he
  exact ChangeSpec.post_blind hp
end Go.Proofs.YtdgmkfbmeaalpaaDoor.Pur
end
section
namespace Go.Proofs.YtdgmkfbmeaalpaaDoor.Pur
open Go.Proofs.YtdgmkfbmeaalpaaDoor.E
theorem gok0 {W : World} (h : W.ShapedOpen Tryd.prog) : GOk [0] W := by
  intro n hn
  obtain rfl := List.mem_singleton.mp hn
  exact Tryd.laysCut.s1_3 W h
end Go.Proofs.YtdgmkfbmeaalpaaDoor.Pur
end
section
namespace Go.Proofs.YtdgmkfbmeaalpaaDoor.fnPsalmMore
open Go.ChangeShapes Go.WideShapes Go.ChangeAt Go.RowKit
open Go.ChangeMaps (open_string shut_string)
set_option linter.unusedVariables false
theorem own : ownKnob Tryd.prog.godebug = none := by kernel_rfl
theorem laidOut : laidOutB Tryd.prog = true := by kernel_rfl
set_option maxRecDepth 100000 in
theorem lifted (os : Os) (started : os.Started) (H : Type) (enc : TypeId × Value → H) :
    ReturnsInHanded {} Tryd.checked os 7 .any (fun w args => (Rows.fnPsalmMoreSpec.pre enc Tryd.prog Tryd.f7 Rows.fnPsalmMoreRow.domain false w args ∧ laidMetH Tryd.prog Rows.fnPsalmMoreRow.laid w) ∧ sizedMet enc Tryd.prog Tryd.f7 (OpenSpec.ofChange Rows.fnPsalmMoreSpec) false w args) (Rows.fnPsalmMoreSpec.post enc Tryd.prog Tryd.f7 false true false false) := by
  refine Pur.handed_shaped_and (C := Tryd.checked) (X := fun w _ => laidMetH Tryd.prog Rows.fnPsalmMoreRow.laid w) (fun _ _ _ hh h => h.of_heap hh) own started (by kernel_rfl) Tryd.func7
    (ChangeSpec.witness_shaped (enc := enc) (C := Tryd.checked) (os := os) (X := fun w _ => laidMetH Tryd.prog Rows.fnPsalmMoreRow.laid w) false (World.laidAll Tryd.prog os Rows.fnPsalmMoreRow.laid) #[.slice none 0 0] 8 (World.laidAll_os _ _ _) (World.shaped_of_ZipB (by kernel_rfl) (by kernel_rfl)) (by kernel_rfl) (by kernel_rfl) (by kernel_rfl) (by rw [MakeChecks.laidMetH_plain _ _ _ (by kernel_rfl)]; exact laidMet_laidAll _ (by kernel_rfl) (by kernel_rfl))) ?_
  intro W base args ds gs before hval0 hW hcnd hsz0 hL hSh _
  have hsz : (DataW.weightsEach Tryd.prog (Tryd.f7.params.toList ++ Rows.fnPsalmMoreSpec.plain.varTypes Tryd.prog) (ds ++ gs)).all (· ≤ reachBytes) = true := hsz0
  have hval : ∀ (j : Nat) t v, Tryd.f7.params[j]? = some t → args[j]? = some v → Value.okWide Tryd.prog W .any base t v := hval0
  have hW' := hW
  obtain ⟨p, q, hA0, hV, rfl, hfz, hnd⟩ := hW
  have hA : DataW.TrodAll enc Tryd.prog W 0 (fun _ => true) true Tryd.f7.params.toList args.toList ds p := hA0
  rw [Tryd.params7] at hA hval hsz
  obtain ⟨v0, vs0, d0, ds0, p0, q0, hargs, rfl, rfl, h0, r0⟩ := trodAll_cons hA
  obtain ⟨rfl, rfl, rfl⟩ := trodAll_nil r0
  obtain rfl : args = #[v0] := by cases args; simp_all
  obtain ⟨rfl, rfl⟩ := trodVars_none hV
  have k0 := h0
  have lt0 : ∀ x ∈ p0, x.block < W.heap.size := by obtain ⟨m, hm⟩ := k0; exact DataW.trod_lt m _ _ _ hm
  obtain ⟨a0, len0, cap0, rfl⟩ := okWide_slice Tryd.underlying22 (hval 0 22 v0 rfl rfl)
  obtain ⟨fuel0, hf0⟩ := h0
  obtain ⟨A0, c0, l0, hcs0, hle0, hm0, hC0, hx0⟩ := Pur.open_intsR Tryd.underlying22 Tryd.underlying5 (by kernel_rfl) hf0
  simp [Value.cells] at hcs0
  obtain ⟨rfl, rfl, rfl⟩ := hcs0
  clear hA0 hval0 hsz0 hsz
  obtain ⟨k, hk⟩ := Pur.law_more l0 hm0 hx0
  refine (E.laws_FnPsalmMore.calls k _ _ l0 true W hC0 hle0 (Pur.gok0 hSh) hk).mono fun e W' ⟨he, bel⟩ => ?_
  subst he
  exact ⟨_, rfl, _, _, _, [], _, [], hW', trodAll_mk1 (shut_bool Tryd.underlying4 _), (trodAll_cons_mk (Below.trod laidOut (by kernel_rfl) (of_decide_eq_true (by kernel_rfl)) k0 bel lt0) trodAll_mk0), rfl, bel.frame _, fun h => by cases h⟩
set_option maxRecDepth 100000 in
theorem closed : joinedFacts Tryd.prog 7 Tryd.f7 Rows.fnPsalmMoreSpec Rows.fnPsalmMoreRow = true := by
  have hf : (Rows.fnPsalmMoreRow.lifted == Tryd.prog.liftsFinal) = true := by rw [Head.finE]; kernel_rfl
  have hm : (Tryd.prog.make == some Rows.fnPsalmMoreRow.make) = true := by rw [Head.makeE]; kernel_rfl
  unfold joinedFacts
  repeat' (with_reducible refine Head.and_t ?_ ?_)
  all_goals first | with_reducible exact Head.mayE | with_reducible exact hf | with_reducible exact hm | (as_aux_lemma => kernel_rfl)
theorem over : Rows.fnPsalmMoreRow.holds Tryd.pinned (OpenSpec.ofChange Rows.fnPsalmMoreSpec) :=
  OpenClaim.holds_of_wide 7 Tryd.f7 rfl rfl rfl rfl rfl rfl rfl ⟨rfl, rfl, rfl, rfl, rfl⟩ rfl rfl rfl rfl rfl (by kernel_rfl) Tryd.func7 closed
    (of_decide_eq_true (by kernel_rfl)) (by unfold Func.isWrapper; first | (rw [if_pos (by decide +kernel)]; kernel_rfl) | (rw [if_neg (by decide +kernel)]; exact ⟨rfl, rfl⟩))
    (fun os started H enc _ => lifted os started H enc)
theorem card_ : Rows.FnPsalmMoreCardSaid :=
  Claim7.holds_tied_plain_at .later [] [.data, .pinned] true (true, "95c8318e1392eb2a5db7b8b7a99d282c56258e7fe61e0da8e429e6d5d304e4ee") false
    over (fun _ h => by cases h) (by as_aux_lemma => kernel_rfl) (fun _ h => by cases h) fnPsalmMore_row_tie rfl ⟨rfl, rfl⟩ (Head.mainE.trans (by as_aux_lemma => kernel_rfl)) rfl
    (fun f fn hf hfn => by
      obtain rfl : f = 7 := Option.some.inj ((show Tryd.prog.funcNamed "loop.example/neumes/laws.FnPsalmMore" = some 7 by kernel_rfl).symm.trans hf) |>.symm
      obtain rfl : fn = Tryd.f7 := (Option.some.inj (Tryd.func7.symm.trans hfn)).symm
      exact ⟨by kernel_rfl, fun j t ht => by
        rw [Tryd.params7] at ht
        have hm : t ∈ [22] := by simpa using Array.mem_of_getElem? ht
        have hall : ([22].all fun u => !Tryd.prog.wantsStandIn u) = true := by kernel_rfl
        exact (show Tryd.prog.wantsStandIn t = false by simpa using List.all_eq_true.1 hall t hm)⟩)
    (by kernel_rfl)
theorem proved : Rows.FnPsalmMoreCardSaid := card_
#print axioms proved
end Go.Proofs.YtdgmkfbmeaalpaaDoor.fnPsalmMore
namespace Go.Proofs.YtdgmkfbmeaalpaaDoor
theorem fnPsalmMore_holds : Rows.FnPsalmMoreCardSaid := fnPsalmMore.proved
end Go.Proofs.YtdgmkfbmeaalpaaDoor
end
