/- Texts of this claim, joined by a program of this session's (wip/tools/pack.py). -/
import Derived.Test.YtdgmkfbmeaalpaaDoorRowFnPsalmFitsK2
section
namespace Go.Proofs.YtdgmkfbmeaalpaaDoor.E
open Go.RowKit Go.Proofs.YtdgmkfbmeaalpaaDoorW.PrintWords Go.Proofs.YtdgmkfbmeaalpaaDoorW.PrintLast Go.Proofs.YtdgmkfbmeaalpaaDoorW.PrintMore
attribute [local go_sem] max2_int min2_int max_two min_two max_three min_three max_four min_four
set_option linter.unusedVariables false
set_option linter.unusedSimpArgs false
attribute [local go_sem] str_leq_ str_gtr_ str_geq_
mutual
def laws_FnPsalmFits.j0 : Nat → ByteArray → Bool → Bool → Bool → List (S25) → Int → Bool → List (S25) → List (S25) → Option (Bool)
 | 0, _, _, _, _, _, _, _, _, _ => none
 | k + 1, x4, x5, x6, x36, x278000, x278001, x278002, x278003, x278004 => if x36 = true then (some (x5 == x6)) else ((impl_VerseHalves.f x4).bind fun bt280 => (if bt280.1.size + 2 ≤ 9223372036854775807 then (if (bt280.1 ++ (⟨#[120, 124]⟩ : ByteArray)).size + bt280.2.1.size ≤ 9223372036854775807 then (if ((bt280.1 ++ (⟨#[120, 124]⟩ : ByteArray)) ++ bt280.2.1).size + 1 ≤ 9223372036854775807 then ((some (([] : List (S25)) : List (S25))).bind fun y283 => ((impl_PsalmSing.f k x278000 x278001 x278002 x278003 x278004 x4).bind fun bt287 => ((some (([] : List (S25)) : List (S25))).bind fun y291 => (if y291.length + x278003.length < 8796093022208 then ((some (y291 ++ x278003 : List (S25))).bind fun y294 => ((some (([(⟨x278001, x278002⟩ : S25)] : List (S25)) : List (S25))).bind fun y297 => (if y294.length + y297.length < 8796093022208 then ((some (y294 ++ y297 : List (S25))).bind fun y300 => ((impl_PsalmValid.f k x278000 x278001 x278002 y300 x278004).bind fun t304 => (if t304 = true then (laws_FnPsalmFits.j1 k x4 bt280.2.2 (((bt280.1 ++ (⟨#[120, 124]⟩ : ByteArray)) ++ bt280.2.1) ++ (⟨#[47]⟩ : ByteArray)) bt287.2 (decide ((bt280.1.size : Int) ≥ (wrap64 ((wrap64 ((x278000.length : Int) + (x278003.length : Int))) + 1)))) x278000 x278001 x278002 x278003 x278004 y283 x278001 x278002 x278003 x278004 x278000 x278001 x278002 y300 x278004) else (laws_FnPsalmFits.j1 k x4 bt280.2.2 (((bt280.1 ++ (⟨#[120, 124]⟩ : ByteArray)) ++ bt280.2.1) ++ (⟨#[47]⟩ : ByteArray)) bt287.2 false x278000 x278001 x278002 x278003 x278004 y283 x278001 x278002 x278003 x278004 x278000 x278001 x278002 y300 x278004)))) else (none)))) else (none))))) else (none)) else (none)) else (none)))
def laws_FnPsalmFits.j1 : Nat → ByteArray → Bool → ByteArray → Bool → Bool → List (S25) → Int → Bool → List (S25) → List (S25) → List (S25) → Int → Bool → List (S25) → List (S25) → List (S25) → Int → Bool → List (S25) → List (S25) → Option (Bool)
 | 0, _, _, _, _, _, _, _, _, _, _, _, _, _, _, _, _, _, _, _, _ => none
 | k + 1, x4, x9, x10, x13, x15, x278000, x278001, x278002, x278003, x278004, x287000, x287001, x287002, x287003, x287004, x304000, x304001, x304002, x304003, x304004 => if x9 = true then (if x13 = true then ((impl_PsalmFits.f k x287000 x287001 x287002 x287003 x287004 x4).bind fun t305 => (if t305 = true then ((impl_VerseValid.f x10).bind fun t306 => (if t306 = true then ((impl_PsalmFits.f k x278000 x278001 x278002 x278003 x278004 x10).bind fun t307 => (if t307 = true then ((impl_PsalmFits.f k x304000 x304001 x304002 x304003 x304004 x4).bind fun t308 => (some (t308 == x15))) else (none))) else ((impl_PsalmFits.f k x304000 x304001 x304002 x304003 x304004 x4).bind fun t309 => (some (t309 == x15))))) else (none))) else (none)) else (none)
end
def laws_FnPsalmFits.f (k : Nat) (l0 : List Int) : Option (Bool) := if (l0.length : Int) > 1048576 then (some true) else ((spec_DrawPsalmFits.f k l0).bind fun bt265 => ((impl_PsalmFits.f k bt265.1 bt265.2.1 bt265.2.2.1 bt265.2.2.2.1 bt265.2.2.2.2.1 bt265.2.2.2.2.2).bind fun t278 => ((spec_PsalmFits.f k bt265.1 bt265.2.1 bt265.2.2.1 bt265.2.2.2.1 bt265.2.2.2.2.1 bt265.2.2.2.2.2).bind fun t279 => (if (t278 != t279) = true then (laws_FnPsalmFits.j0 k bt265.2.2.2.2.2 t278 t279 true bt265.1 bt265.2.1 bt265.2.2.1 bt265.2.2.2.1 bt265.2.2.2.2.1) else (laws_FnPsalmFits.j0 k bt265.2.2.2.2.2 t278 t279 (!t278) bt265.1 bt265.2.1 bt265.2.2.1 bt265.2.2.2.1 bt265.2.2.2.2.1)))))
def laws_FnPsalmFits.T12 : Bool × List (List Nat × List Nat) := (true, [([], []), ([0], [0]), ([], []), ([2], [2]), ([], []), ([], []), ([5], [5]), ([4, 6], [4, 6]), ([], []), ([8], [8]), ([9], [9]), ([7, 10, 7], [7, 10]), ([], []), ([12], [12]), ([1, 3, 11, 13], [1, 3, 11, 13]), ([], []), ([15, 14, 11, 0, 1, 2, 3, 4, 5, 6, 7, 8, 9, 10, 11, 12, 13, 14, 15], [14, 15])])
def laws_FnPsalmFits.B12 : List Nat := [0, 1, 0, 4, 0, 0, 32, 112, 0, 256, 768, 2032, 0, 4096, 16383, 0, 65535]
theorem laws_FnPsalmFits.tab12 : rtab .any (opsOf Tryd.f3 12) = laws_FnPsalmFits.T12 := by kernel_rfl
theorem laws_FnPsalmFits.bits12 : waitsOk laws_FnPsalmFits.T12.2 laws_FnPsalmFits.B12 = true := by kernel_rfl
set_option maxHeartbeats 8000000 in
set_option maxRecDepth 100000 in
theorem laws_FnPsalmFits.calls (k : Nat) (A0 : Option Addr) (c0 : Nat) (l0 : List Int) (r : Bool) (w : World) (hr0 : Kd.C (Kd.int .u8) w A0 l0.length l0) (hc0 : l0.length ≤ c0) (hG : GOk [0] w) (h : laws_FnPsalmFits.f k l0 = some r) :
  Calls Tryd.prog 3 #[.slice A0 l0.length c0] w fun e w' => e = .returned (.bool r) ∧ Below w.heap.size w w' := by
 have hu27 := Tryd.underlying27
 have hu25 := Tryd.underlying25
 have HR0 := Aside0.mk hr0
 have HC0 := Aside0.mk hc0
 clear hr0 hc0
 have HB := Q0_ (Below.refl w.heap.size w)
 have HG := Aside0.mk hG
 clear hG
 have H : (if (l0.length : Int) > 1048576 then (some true) else ((spec_DrawPsalmFits.f k l0).bind fun bt265 => ((impl_PsalmFits.f k bt265.1 bt265.2.1 bt265.2.2.1 bt265.2.2.2.1 bt265.2.2.2.2.1 bt265.2.2.2.2.2).bind fun t278 => ((spec_PsalmFits.f k bt265.1 bt265.2.1 bt265.2.2.1 bt265.2.2.2.1 bt265.2.2.2.2.1 bt265.2.2.2.2.2).bind fun t279 => (if (t278 != t279) = true then (laws_FnPsalmFits.j0 k bt265.2.2.2.2.2 t278 t279 true bt265.1 bt265.2.1 bt265.2.2.1 bt265.2.2.2.1 bt265.2.2.2.2.1) else (laws_FnPsalmFits.j0 k bt265.2.2.2.2.2 t278 t279 (!t278) bt265.1 bt265.2.1 bt265.2.2.1 bt265.2.2.2.1 bt265.2.2.2.2.1)))))) = some r := h
 clear h
 by_cases c2 : (l0.length : Int) > 1048576
 ·rw [if_pos c2] at H
  have c2b0 : decide (1048576 < (l0.length : Int)) = true := decide_eq_true c2
  have c2b1 : decide (1048576 < l0.length) = true := decide_eq_true (by omega)
  clear c2
  obtain rfl := Option.some.inj H
  go_enter Tryd.func3, Tryd.ntmps3
  go_wp2
  go_ret
  exact ⟨by first | rfl | (simp [errW_none, errW_some] <;> rfl) | (simp [*, errW_none, errW_some] <;> rfl), by repeat (first | (with_reducible first | exact HB.out | apply below_alloc | apply pw_below_drewN | apply below_drew1) | exact HB.out)⟩
 rw [if_neg c2] at H
 have c2b0 : decide (1048576 < (l0.length : Int)) = false := decide_eq_false c2
 have c2b1 : decide (1048576 < l0.length) = false := decide_eq_false (by omega)
 clear c2
 obtain ⟨⟨t265, t268, t269, t270, t273, t276⟩, A30, H⟩ := Option.bind_eq_some_iff.mp H
 try dsimp only at H
 have A3 := Aside0.mk A30
 clear A30
 obtain ⟨t278, A40, H⟩ := Option.bind_eq_some_iff.mp H
 try dsimp only at H
 have A4 := Aside0.mk A40
 clear A40
 obtain ⟨t279, A50, H⟩ := Option.bind_eq_some_iff.mp H
 try dsimp only at H
 have A5 := Aside0.mk A50
 clear A50
 have HC6 := Aside0.mk H
 clear H
 go_enter Tryd.func3, Tryd.ntmps3
 go_upto_region 6 with (first | ((with_reducible refine gate_callee (f := 15) rfl ?_); refine goesL_ (some 21) rfl rfl Tryd.func15 (by kernel_rfl) rfl #[.slice A0 l0.length c0] rfl (by (try simp only [List.map_toArray, List.map_cons, List.map_nil]); first | done | rfl | (simp only [List.length_drop, List.length_take]; rfl)) ?_; (with_reducible refine (spec_DrawPsalmFits.calls k _ _ l0 t265 t268 t269 t270 t273 t276 _ ?side1 ?side2 A3.out).mono ?_); (case side1 => repeat (first | exact HR0.out | (with_reducible refine Kd.C_alloc ?_ _) | (with_reducible refine Kd.C_drewN ?_ _) | (with_reducible refine Kd.C_drew ?_))); (case side2 => exact HC0.out); rintro e w7 ⟨v266, v271, v274, rfl, ho0, ho1, ho2, hb⟩; refine ⟨_, rfl, ?_⟩; have n0_ := Q0_ (Kd.R_lower ho0 (below_size (upB HB))); have n1_ := Q0_ (Kd.R_lower ho1 (below_size (upB HB))); have n2_ := Q0_ (Kd.R_lower ho2 (below_size (upB HB))); have n3_ := Q0_ (below_step (upB HB) hb); clear HB; revert n0_ n1_ n2_ n3_; intro HO267 HO272 HO275 HB; (try clear hb); (try clear hb2); (try clear hk); (try clear hi); (try clear ho0); (try clear ho1); (try clear ho2)) | ((with_reducible refine gate_dst (N := 3) rfl ?_); (try (refine gate_guard (by rfl) ?_; dsimp only)); refine box_event ?hg (N := 3) ?hd (cs := #[.slice none 0 0, .int .i64 0, .bool false, .slice none 0 0, .slice none 0 0]) (t := 27) ?hr ?_; (case hd => rfl); (case hg => rfl); (case hr => first | (go_simp; done) | (go_simp; rfl)); intro gb277 hg w8 hbox hb; have n0_ := Q0_ (Kd.R_below (upR HO267) hb); have n1_ := Q0_ (Kd.R_below (upR HO272) hb); have n2_ := Q0_ (Kd.R_below (upR HO275) hb); have n3_ := Q0_ (below_step (upB HB) hb); have n4_ := Q0_ (hbox); have n5_ := Q0_ ((by rw [hg]; exact (below_size (upB HB)) : w.heap.size ≤ gb277)); have n6_ := Q0_ ((by rw [hg]; exact (below_size (upB HB)) : w.heap.size ≤ gb277)); clear HO267 HO272 HO275 HB; revert n0_ n1_ n2_ n3_ n4_ n5_ n6_; intro HO267 HO272 HO275 HB BK277 GW277 GE277; clear hb hbox hg; obtain ⟨Ao9, co9, eo9⟩ := Kd.R_slice HO267.out; subst eo9; have hcz10_0 : w8.cell? ⟨gb277, 0, none⟩ = some (.slice none 0 0) := (blk_cell BK277.out 0).trans rfl; have hcz10_1 : w8.cell? ⟨gb277, 1, none⟩ = some (.int .i64 0) := (blk_cell BK277.out 1).trans rfl; have hcz10_2 : w8.cell? ⟨gb277, 2, none⟩ = some (.bool false) := (blk_cell BK277.out 2).trans rfl; have hcz10_3 : w8.cell? ⟨gb277, 3, none⟩ = some (.slice none 0 0) := (blk_cell BK277.out 3).trans rfl; have hcz10_4 : w8.cell? ⟨gb277, 4, none⟩ = some (.slice none 0 0) := (blk_cell BK277.out 4).trans rfl; have hfz10_0 := blk_frozen BK277.out 0; have hfz10_1 := blk_frozen BK277.out 1; have hfz10_2 := blk_frozen BK277.out 2; have hfz10_3 := blk_frozen BK277.out 3; have hfz10_4 := blk_frozen BK277.out 4; obtain ⟨Ao11, co11, eo11⟩ := Kd.R_slice HO272.out; subst eo11; obtain ⟨Ao12, co12, eo12⟩ := Kd.R_slice HO275.out; subst eo12) | ((with_reducible refine gate_callee (f := 16) rfl ?_); refine goesL_ (some 26) rfl rfl Tryd.func16 (by kernel_rfl) rfl #[.agg #[.slice Ao9 t265.length co9, .int .i64 t268, .bool t269, .slice Ao11 t270.length co11, .slice Ao12 t273.length co12], .string t276] rfl (by (try simp only [List.map_toArray, List.map_cons, List.map_nil]); first | done | rfl | (simp only [List.length_drop, List.length_take]; rfl)) ?_; (with_reducible refine (impl_PsalmFits.calls k _ _ t265 t268 t269 _ _ t270 _ _ t273 t276 t278 _ ?side1 ?side2 ?side3 ?side4 ?side5 ?side6 ?side7 A4.out).mono ?_); (case side1 => refine (Kd.R_reads' (e := 25) (base := w.heap.size) (ok := fun k_ => (nb k_ (.slice Ao11 t270.length co11) ∧ nb k_ (.slice Ao12 t273.length co12))) (n := t265.length) (c := co9) ?_).2.2; exact (upR' ((Kd.R_mono (Kd.R_far (p := ⟨gb277, 4, none⟩) (Kd.R_far (p := ⟨gb277, 3, none⟩) (Kd.R_far (p := ⟨gb277, 2, none⟩) (Kd.R_far (p := ⟨gb277, 1, none⟩) (Kd.R_far (p := ⟨gb277, 0, none⟩) (Kd.R_types HO267.out BK277.out (by decide)) (fun _ hk => hk.2) (.slice Ao9 t265.length co9)) (fun _ hk => hk.2) (.int .i64 t268)) (fun _ hk => hk.2) (.bool t269)) (fun _ hk => hk.2) (.slice Ao11 t270.length co11)) (fun _ hk => hk.2) (.slice Ao12 t273.length co12)) (fun _ h_ => h_.1))))); (case side2 => exact (Kd.R_reads' HO267.out).2.1); (case side3 => refine (Kd.R_reads' (e := 25) (base := w.heap.size) (ok := fun k_ => (nb k_ (.slice Ao9 t265.length co9) ∧ nb k_ (.slice Ao12 t273.length co12))) (n := t270.length) (c := co11) ?_).2.2; exact (upR' ((Kd.R_mono (Kd.R_far (p := ⟨gb277, 4, none⟩) (Kd.R_far (p := ⟨gb277, 3, none⟩) (Kd.R_far (p := ⟨gb277, 2, none⟩) (Kd.R_far (p := ⟨gb277, 1, none⟩) (Kd.R_far (p := ⟨gb277, 0, none⟩) (Kd.R_types HO272.out BK277.out (by decide)) (fun _ hk => hk.2) (.slice Ao9 t265.length co9)) (fun _ hk => hk.2) (.int .i64 t268)) (fun _ hk => hk.2) (.bool t269)) (fun _ hk => hk.2) (.slice Ao11 t270.length co11)) (fun _ hk => hk.2) (.slice Ao12 t273.length co12)) (fun _ h_ => h_.1))))); (case side4 => exact (Kd.R_reads' HO272.out).2.1); (case side5 => refine (Kd.R_reads' (e := 25) (base := w.heap.size) (ok := fun k_ => (nb k_ (.slice Ao9 t265.length co9) ∧ nb k_ (.slice Ao11 t270.length co11))) (n := t273.length) (c := co12) ?_).2.2; exact (upR' ((Kd.R_mono (Kd.R_far (p := ⟨gb277, 4, none⟩) (Kd.R_far (p := ⟨gb277, 3, none⟩) (Kd.R_far (p := ⟨gb277, 2, none⟩) (Kd.R_far (p := ⟨gb277, 1, none⟩) (Kd.R_far (p := ⟨gb277, 0, none⟩) (Kd.R_types HO275.out BK277.out (by decide)) (fun _ hk => hk.2) (.slice Ao9 t265.length co9)) (fun _ hk => hk.2) (.int .i64 t268)) (fun _ hk => hk.2) (.bool t269)) (fun _ hk => hk.2) (.slice Ao11 t270.length co11)) (fun _ hk => hk.2) (.slice Ao12 t273.length co12)) (fun _ h_ => h_.1))))); (case side6 => exact (Kd.R_reads' HO275.out).2.1); (case side7 => exact GOk.sub (GOk.below HG.out upH) (by decide)); rintro e w13 ⟨rfl, hb⟩; refine ⟨_, rfl, ?_⟩; have n0_ := Q0_ (Kd.R_below (upR' ((Kd.R_mono (Kd.R_far (p := ⟨gb277, 4, none⟩) (Kd.R_far (p := ⟨gb277, 3, none⟩) (Kd.R_far (p := ⟨gb277, 2, none⟩) (Kd.R_far (p := ⟨gb277, 1, none⟩) (Kd.R_far (p := ⟨gb277, 0, none⟩) (Kd.R_types HO267.out BK277.out (by decide)) (fun _ hk => hk.2) (.slice Ao9 t265.length co9)) (fun _ hk => hk.2) (.int .i64 t268)) (fun _ hk => hk.2) (.bool t269)) (fun _ hk => hk.2) (.slice Ao11 t270.length co11)) (fun _ hk => hk.2) (.slice Ao12 t273.length co12)) (fun _ h_ => h_.1)))) hb); have n1_ := Q0_ (Kd.R_below (upR' ((Kd.R_mono (Kd.R_far (p := ⟨gb277, 4, none⟩) (Kd.R_far (p := ⟨gb277, 3, none⟩) (Kd.R_far (p := ⟨gb277, 2, none⟩) (Kd.R_far (p := ⟨gb277, 1, none⟩) (Kd.R_far (p := ⟨gb277, 0, none⟩) (Kd.R_types HO272.out BK277.out (by decide)) (fun _ hk => hk.2) (.slice Ao9 t265.length co9)) (fun _ hk => hk.2) (.int .i64 t268)) (fun _ hk => hk.2) (.bool t269)) (fun _ hk => hk.2) (.slice Ao11 t270.length co11)) (fun _ hk => hk.2) (.slice Ao12 t273.length co12)) (fun _ h_ => h_.1)))) hb); have n2_ := Q0_ (Kd.R_below (upR' ((Kd.R_mono (Kd.R_far (p := ⟨gb277, 4, none⟩) (Kd.R_far (p := ⟨gb277, 3, none⟩) (Kd.R_far (p := ⟨gb277, 2, none⟩) (Kd.R_far (p := ⟨gb277, 1, none⟩) (Kd.R_far (p := ⟨gb277, 0, none⟩) (Kd.R_types HO275.out BK277.out (by decide)) (fun _ hk => hk.2) (.slice Ao9 t265.length co9)) (fun _ hk => hk.2) (.int .i64 t268)) (fun _ hk => hk.2) (.bool t269)) (fun _ hk => hk.2) (.slice Ao11 t270.length co11)) (fun _ hk => hk.2) (.slice Ao12 t273.length co12)) (fun _ h_ => h_.1)))) hb); have n3_ := Q0_ (blk_below (g := gb277) (o := .cells #[.slice Ao9 t265.length co9, .int .i64 t268, .bool t269, .slice Ao11 t270.length co11, .slice Ao12 t273.length co12] 27 (0, 0)) (by (with_reducible repeat (first | refine blk_drewN ?_ _ | refine blk_drew ?_ | refine blk_alloc ?_ _)); refine blk_put (cs := #[.slice Ao9 t265.length co9, .int .i64 t268, .bool t269, .slice Ao11 t270.length co11, .slice none 0 0]) ?_ 4 _ rfl; (with_reducible repeat (first | refine blk_drewN ?_ _ | refine blk_drew ?_ | refine blk_alloc ?_ _)); refine blk_put (cs := #[.slice Ao9 t265.length co9, .int .i64 t268, .bool t269, .slice none 0 0, .slice none 0 0]) ?_ 3 _ rfl; (with_reducible repeat (first | refine blk_drewN ?_ _ | refine blk_drew ?_ | refine blk_alloc ?_ _)); refine blk_put (cs := #[.slice Ao9 t265.length co9, .int .i64 t268, .bool false, .slice none 0 0, .slice none 0 0]) ?_ 2 _ rfl; (with_reducible repeat (first | refine blk_drewN ?_ _ | refine blk_drew ?_ | refine blk_alloc ?_ _)); refine blk_put (cs := #[.slice Ao9 t265.length co9, .int .i64 0, .bool false, .slice none 0 0, .slice none 0 0]) ?_ 1 _ rfl; (with_reducible repeat (first | refine blk_drewN ?_ _ | refine blk_drew ?_ | refine blk_alloc ?_ _)); refine blk_put (cs := #[.slice none 0 0, .int .i64 0, .bool false, .slice none 0 0, .slice none 0 0]) ?_ 0 _ rfl; (with_reducible repeat (first | refine blk_drewN ?_ _ | refine blk_drew ?_ | refine blk_alloc ?_ _)); exact BK277.out) hb); have n4_ := Q0_ (below_step upH hb); clear HO267 HO272 HO275 BK277 HB; revert n0_ n1_ n2_ n3_ n4_; intro HO267 HO272 HO275 BK277 HB; (try clear hb); (try clear hb2); (try clear hk); (try clear hi); have hcz14_0 : w13.cell? ⟨gb277, 0, none⟩ = some (.slice Ao9 t265.length co9) := (blk_cell BK277.out 0).trans rfl; have hcz14_1 : w13.cell? ⟨gb277, 1, none⟩ = some (.int .i64 t268) := (blk_cell BK277.out 1).trans rfl; have hcz14_2 : w13.cell? ⟨gb277, 2, none⟩ = some (.bool t269) := (blk_cell BK277.out 2).trans rfl; have hcz14_3 : w13.cell? ⟨gb277, 3, none⟩ = some (.slice Ao11 t270.length co11) := (blk_cell BK277.out 3).trans rfl; have hcz14_4 : w13.cell? ⟨gb277, 4, none⟩ = some (.slice Ao12 t273.length co12) := (blk_cell BK277.out 4).trans rfl; have hfz14_0 := blk_frozen BK277.out 0; have hfz14_1 := blk_frozen BK277.out 1; have hfz14_2 := blk_frozen BK277.out 2; have hfz14_3 := blk_frozen BK277.out 3; have hfz14_4 := blk_frozen BK277.out 4) | ((with_reducible refine gate_callee (f := 17) rfl ?_); refine goesL_ (some 29) rfl rfl Tryd.func17 (by kernel_rfl) rfl #[.agg #[.slice Ao9 t265.length co9, .int .i64 t268, .bool t269, .slice Ao11 t270.length co11, .slice Ao12 t273.length co12], .string t276] rfl (by (try simp only [List.map_toArray, List.map_cons, List.map_nil]); first | done | rfl | (simp only [List.length_drop, List.length_take]; rfl)) ?_; (with_reducible refine (spec_PsalmFits.calls k _ _ t265 t268 t269 _ _ t270 _ _ t273 t276 t279 _ ?side1 ?side2 ?side3 ?side4 ?side5 ?side6 A5.out).mono ?_); (case side1 => repeat (first | exact (Kd.R_reads' HO267.out).2.2 | (with_reducible refine Kd.C_alloc ?_ _) | (with_reducible refine Kd.C_drewN ?_ _) | (with_reducible refine Kd.C_drew ?_))); (case side2 => exact (Kd.R_reads' HO267.out).2.1); (case side3 => repeat (first | exact (Kd.R_reads' HO272.out).2.2 | (with_reducible refine Kd.C_alloc ?_ _) | (with_reducible refine Kd.C_drewN ?_ _) | (with_reducible refine Kd.C_drew ?_))); (case side4 => exact (Kd.R_reads' HO272.out).2.1); (case side5 => repeat (first | exact (Kd.R_reads' HO275.out).2.2 | (with_reducible refine Kd.C_alloc ?_ _) | (with_reducible refine Kd.C_drewN ?_ _) | (with_reducible refine Kd.C_drew ?_))); (case side6 => exact (Kd.R_reads' HO275.out).2.1); rintro e w15 ⟨rfl, hb⟩; refine ⟨_, rfl, ?_⟩; have n0_ := Q0_ (Kd.R_below (upR HO267) hb); have n1_ := Q0_ (Kd.R_below (upR HO272) hb); have n2_ := Q0_ (Kd.R_below (upR HO275) hb); have n3_ := Q0_ (blk_below (upK BK277) hb); have n4_ := Q0_ (below_step upH hb); clear HO267 HO272 HO275 BK277 HB; revert n0_ n1_ n2_ n3_ n4_; intro HO267 HO272 HO275 BK277 HB; (try clear hb); (try clear hb2); (try clear hk); (try clear hi)))
 (try simp only [Act.put, sI, s0, sS])
 go_cut [36] (fun v36 wc => ∃ (kq : Nat) (x36_5 : Bool), v36 = .bool x36_5 ∧ Aside0 (laws_FnPsalmFits.j0 kq t276 t278 t279 x36_5 t265 t268 t269 t270 t273 = some r) ∧ Aside0 (kq ≤ k) ∧ Aside0 (Kd.R k25 25 wc w.heap.size (fun k_ => nb k_ ((.slice Ao11 t270.length co11)) ∧ nb k_ ((.slice Ao12 t273.length co12))) (.slice Ao9 t265.length co9) t265) ∧ Aside0 (Kd.R k25 25 wc w.heap.size (fun k_ => nb k_ ((.slice Ao9 t265.length co9)) ∧ nb k_ ((.slice Ao12 t273.length co12))) (.slice Ao11 t270.length co11) t270) ∧ Aside0 (Kd.R k25 25 wc w.heap.size (fun k_ => nb k_ ((.slice Ao9 t265.length co9)) ∧ nb k_ ((.slice Ao11 t270.length co11))) (.slice Ao12 t273.length co12) t273) ∧ Aside0 (wc.heap[gb277]? = some (.cells #[(.slice Ao9 t265.length co9), .int .i64 t268, .bool t269, (.slice Ao11 t270.length co11), (.slice Ao12 t273.length co12)] 27 (0, 0))) ∧ Aside0 (Below w.heap.size w wc))
 case first =>
  have H := HC6.out
  clear HC6
  by_cases c16 : (t278 != t279) = true
  rotate_left
  ·rw [if_neg c16] at H
   have c16b0 : (t278 != t279) = false := by simpa using c16
   (try (have c16b1 : decide (t278 = t279) = true := by simpa using c16))
   (try (have c16b2 : (t278 == t279) = true := by simpa using c16))
   clear c16
   (first | rw [c16b0] | (simp only [i64_w, i32_w]; rw [c16b0]) | skip)
   have H' := Aside0.mk H
   clear H
   go_wp2
   go_meet
   case rel => exact ⟨_, (!t278), (by first | rfl | (simp; done) | (simp [*]; done)), H', ⟨by first | omega | exact Nat.le_refl _⟩, ⟨by (with_reducible repeat (first | apply Kd.R_alloc | apply Kd.R_drewN | apply Kd.R_drew)); exact HO267.out⟩, ⟨by (with_reducible repeat (first | apply Kd.R_alloc | apply Kd.R_drewN | apply Kd.R_drew)); exact HO272.out⟩, ⟨by (with_reducible repeat (first | apply Kd.R_alloc | apply Kd.R_drewN | apply Kd.R_drew)); exact HO275.out⟩, ⟨by (with_reducible repeat (first | refine blk_drewN ?_ _ | refine blk_drew ?_ | refine blk_alloc ?_ _)); exact BK277.out⟩, ⟨by repeat (first | (with_reducible first | exact HB.out | apply below_alloc | apply pw_below_drewN | apply below_drew1 | refine below_set ?_ GE277.out) | exact HB.out)⟩⟩
  rw [if_pos c16] at H
  have c16b0 : (t278 != t279) = true := c16
  (try (have c16b1 : decide (t278 = t279) = false := by simpa using c16))
  (try (have c16b2 : (t278 == t279) = false := by simpa using c16))
  (try (have c16b3 : ¬ (t278 = t279) := by simpa using c16))
  clear c16
  (first | rw [c16b0] | (simp only [i64_w, i32_w]; rw [c16b0]) | skip)
  have H' := Aside0.mk H
  clear H
  go_wp2
  go_meet
  case rel => exact ⟨_, (true), (by first | rfl | (simp; done) | (simp [*]; done)), H', ⟨by first | omega | exact Nat.le_refl _⟩, ⟨by (with_reducible repeat (first | apply Kd.R_alloc | apply Kd.R_drewN | apply Kd.R_drew)); exact HO267.out⟩, ⟨by (with_reducible repeat (first | apply Kd.R_alloc | apply Kd.R_drewN | apply Kd.R_drew)); exact HO272.out⟩, ⟨by (with_reducible repeat (first | apply Kd.R_alloc | apply Kd.R_drewN | apply Kd.R_drew)); exact HO275.out⟩, ⟨by (with_reducible repeat (first | refine blk_drewN ?_ _ | refine blk_drew ?_ | refine blk_alloc ?_ _)); exact BK277.out⟩, ⟨by repeat (first | (with_reducible first | exact HB.out | apply below_alloc | apply pw_below_drewN | apply below_drew1 | refine below_set ?_ GE277.out) | exact HB.out)⟩⟩
 case rest =>
  clear HC6
  try clear c1
  try clear c2
  try clear c2b0
  try clear c2b1
  try clear p2
  try clear c3
  try clear c15
  try clear c16
  try clear c16b0
  try clear c16b1
  try clear c16b2
  try clear hcz10_0
  try clear hcz10_1
  try clear hcz10_2
  try clear hcz10_3
  try clear hcz10_4
  try clear hcz14_0
  try clear hcz14_1
  try clear hcz14_2
  try clear hcz14_3
  try clear hcz14_4
  try clear hfz10_0
  try clear hfz10_1
  try clear hfz10_2
  try clear hfz10_3
  try clear hfz10_4
  try clear hfz14_0
  try clear hfz14_1
  try clear hfz14_2
  try clear hfz14_3
  try clear hfz14_4
  obtain ⟨kq, x36_5, rfl, HA, HJ5, HO_278000, HO_278003, HO_278004, BK277, HB⟩ := hcut
  cases kq with
  | zero => exact absurd HA.out (by simp [laws_FnPsalmFits.j0])
  | succ kj5 =>
   have H := HA.out
   clear HA
   simp only [laws_FnPsalmFits.j0] at H
   by_cases c17 : x36_5 = true
   ·subst c17
    replace H := ifP (rfl) H
    obtain rfl := Option.some.inj H
    go_wp2
    go_ret
    exact ⟨by first | rfl | (simp [errW_none, errW_some] <;> rfl) | (simp [*, errW_none, errW_some] <;> rfl), by repeat (first | (with_reducible first | exact HB.out | apply below_alloc | apply pw_below_drewN | apply below_drew1 | refine below_set ?_ GE277.out) | exact HB.out)⟩
   replace c17 := Bool.eq_false_iff.mpr c17
   subst c17
   replace H := ifN ((show ¬ (false = true) by decide)) H
   obtain ⟨⟨t280, t281, t282⟩, A180, H⟩ := Option.bind_eq_some_iff.mp H
   try dsimp only at H
   have A18 := Aside0.mk A180
   clear A180
   by_cases c19 : t280.size + 2 ≤ 9223372036854775807
   rotate_left
   ·rw [if_neg c19] at H
    exact absurd H (by simp)
   rw [if_pos c19] at H
   have c19b0 := eq_true c19
   have c19b1 : decide (t280.size + 2 ≤ 9223372036854775807) = true := decide_eq_true c19
   try have c19b2 : (9223372036854775807 < t280.size + 2) = False := eq_false (Nat.not_lt.2 c19)
   by_cases c20 : (t280 ++ (⟨#[120, 124]⟩ : ByteArray)).size + t281.size ≤ 9223372036854775807
   rotate_left
   ·rw [if_neg c20] at H
    exact absurd H (by simp)
   rw [if_pos c20] at H
   have c20b0 := eq_true c20
   have c20b1 : decide ((t280 ++ (⟨#[120, 124]⟩ : ByteArray)).size + t281.size ≤ 9223372036854775807) = true := decide_eq_true c20
   try have c20b2 : (9223372036854775807 < (t280 ++ (⟨#[120, 124]⟩ : ByteArray)).size + t281.size) = False := eq_false (Nat.not_lt.2 c20)
   try have c20b2e := c20b2
   (try simp only [ByteArray.size_append, show (⟨#[120, 124]⟩ : ByteArray).size = 2 from rfl] at c20b2e)
   by_cases c21 : ((t280 ++ (⟨#[120, 124]⟩ : ByteArray)) ++ t281).size + 1 ≤ 9223372036854775807
   rotate_left
   ·rw [if_neg c21] at H
    exact absurd H (by simp)
   rw [if_pos c21] at H
   have c21b0 := eq_true c21
   have c21b1 : decide (((t280 ++ (⟨#[120, 124]⟩ : ByteArray)) ++ t281).size + 1 ≤ 9223372036854775807) = true := decide_eq_true c21
   try have c21b2 : (9223372036854775807 < ((t280 ++ (⟨#[120, 124]⟩ : ByteArray)) ++ t281).size + 1) = False := eq_false (Nat.not_lt.2 c21)
   try have c21b2e := c21b2
   (try simp only [ByteArray.size_append, show (⟨#[120, 124]⟩ : ByteArray).size = 2 from rfl] at c21b2e)
   obtain ⟨y283, hy283⟩ : ∃ y_ : List (S25), y_ = (([] : List (S25))) := ⟨_, rfl⟩
   replace H : ((impl_PsalmSing.f kj5 t265 t268 t269 t270 t273 t276).bind fun bt287 => ((some (([] : List (S25)) : List (S25))).bind fun y291 => (if y291.length + t270.length < 8796093022208 then ((some (y291 ++ t270 : List (S25))).bind fun y294 => ((some (([(⟨t268, t269⟩ : S25)] : List (S25)) : List (S25))).bind fun y297 => (if y294.length + y297.length < 8796093022208 then ((some (y294 ++ y297 : List (S25))).bind fun y300 => ((impl_PsalmValid.f kj5 t265 t268 t269 y300 t273).bind fun t304 => (if t304 = true then (laws_FnPsalmFits.j1 kj5 t276 t282 (((t280 ++ (⟨#[120, 124]⟩ : ByteArray)) ++ t281) ++ (⟨#[47]⟩ : ByteArray)) bt287.2 (decide ((t280.size : Int) ≥ (wrap64 ((wrap64 ((t265.length : Int) + (t270.length : Int))) + 1)))) t265 t268 t269 t270 t273 y283 t268 t269 t270 t273 t265 t268 t269 y300 t273) else (laws_FnPsalmFits.j1 kj5 t276 t282 (((t280 ++ (⟨#[120, 124]⟩ : ByteArray)) ++ t281) ++ (⟨#[47]⟩ : ByteArray)) bt287.2 false t265 t268 t269 t270 t273 y283 t268 t269 t270 t273 t265 t268 t269 y300 t273)))) else (none)))) else (none)))) = some r := by first | (rw [hy283]; with_reducible exact H) | (have H2_ := (Option.bind_some _ _).symm.trans H; rw [hy283]; with_reducible exact H2_) | (have H2_ := (Option.bind_some _ _).symm.trans H; with_reducible exact H2_) | with_reducible exact H | (rw [hy283]; exact H) | exact H
   have Ny283 := Aside0.mk hy283
   clear hy283
   obtain ⟨⟨t287, t290⟩, A220, H⟩ := Option.bind_eq_some_iff.mp H
   try dsimp only at H
   have A22 := Aside0.mk A220
   clear A220
   obtain ⟨y291, hy291⟩ : ∃ y_ : List (S25), y_ = (([] : List (S25))) := ⟨_, rfl⟩
   replace H : (if y291.length + t270.length < 8796093022208 then ((some (y291 ++ t270 : List (S25))).bind fun y294 => ((some (([(⟨t268, t269⟩ : S25)] : List (S25)) : List (S25))).bind fun y297 => (if y294.length + y297.length < 8796093022208 then ((some (y294 ++ y297 : List (S25))).bind fun y300 => ((impl_PsalmValid.f kj5 t265 t268 t269 y300 t273).bind fun t304 => (if t304 = true then (laws_FnPsalmFits.j1 kj5 t276 t282 (((t280 ++ (⟨#[120, 124]⟩ : ByteArray)) ++ t281) ++ (⟨#[47]⟩ : ByteArray)) t290 (decide ((t280.size : Int) ≥ (wrap64 ((wrap64 ((t265.length : Int) + (t270.length : Int))) + 1)))) t265 t268 t269 t270 t273 y283 t268 t269 t270 t273 t265 t268 t269 y300 t273) else (laws_FnPsalmFits.j1 kj5 t276 t282 (((t280 ++ (⟨#[120, 124]⟩ : ByteArray)) ++ t281) ++ (⟨#[47]⟩ : ByteArray)) t290 false t265 t268 t269 t270 t273 y283 t268 t269 t270 t273 t265 t268 t269 y300 t273)))) else (none)))) else (none)) = some r := by first | (rw [hy291]; with_reducible exact H) | (have H2_ := (Option.bind_some _ _).symm.trans H; rw [hy291]; with_reducible exact H2_) | (have H2_ := (Option.bind_some _ _).symm.trans H; with_reducible exact H2_) | with_reducible exact H | (rw [hy291]; exact H) | exact H
   have Ny291 := Aside0.mk hy291
   clear hy291
   by_cases c23 : y291.length + t270.length < 8796093022208
   rotate_left
   ·rw [if_neg c23] at H
    exact absurd H (by simp)
   rw [if_pos c23] at H
   have LMc23 := Aside0.mk c23
   clear c23
   obtain ⟨y294, hy294⟩ : ∃ y_ : List (S25), y_ = (y291 ++ t270) := ⟨_, rfl⟩
   replace H : ((some (([(⟨t268, t269⟩ : S25)] : List (S25)) : List (S25))).bind fun y297 => (if y294.length + y297.length < 8796093022208 then ((some (y294 ++ y297 : List (S25))).bind fun y300 => ((impl_PsalmValid.f kj5 t265 t268 t269 y300 t273).bind fun t304 => (if t304 = true then (laws_FnPsalmFits.j1 kj5 t276 t282 (((t280 ++ (⟨#[120, 124]⟩ : ByteArray)) ++ t281) ++ (⟨#[47]⟩ : ByteArray)) t290 (decide ((t280.size : Int) ≥ (wrap64 ((wrap64 ((t265.length : Int) + (t270.length : Int))) + 1)))) t265 t268 t269 t270 t273 y283 t268 t269 t270 t273 t265 t268 t269 y300 t273) else (laws_FnPsalmFits.j1 kj5 t276 t282 (((t280 ++ (⟨#[120, 124]⟩ : ByteArray)) ++ t281) ++ (⟨#[47]⟩ : ByteArray)) t290 false t265 t268 t269 t270 t273 y283 t268 t269 t270 t273 t265 t268 t269 y300 t273)))) else (none))) = some r := by first | (rw [hy294]; with_reducible exact H) | (have H2_ := (Option.bind_some _ _).symm.trans H; rw [hy294]; with_reducible exact H2_) | (have H2_ := (Option.bind_some _ _).symm.trans H; with_reducible exact H2_) | with_reducible exact H | (rw [hy294]; exact H) | exact H
   have Ny294 := Aside0.mk hy294
   clear hy294
   obtain ⟨y297, hy297⟩ : ∃ y_ : List (S25), y_ = (([(⟨t268, t269⟩ : S25)] : List (S25))) := ⟨_, rfl⟩
   replace H : (if y294.length + y297.length < 8796093022208 then ((some (y294 ++ y297 : List (S25))).bind fun y300 => ((impl_PsalmValid.f kj5 t265 t268 t269 y300 t273).bind fun t304 => (if t304 = true then (laws_FnPsalmFits.j1 kj5 t276 t282 (((t280 ++ (⟨#[120, 124]⟩ : ByteArray)) ++ t281) ++ (⟨#[47]⟩ : ByteArray)) t290 (decide ((t280.size : Int) ≥ (wrap64 ((wrap64 ((t265.length : Int) + (t270.length : Int))) + 1)))) t265 t268 t269 t270 t273 y283 t268 t269 t270 t273 t265 t268 t269 y300 t273) else (laws_FnPsalmFits.j1 kj5 t276 t282 (((t280 ++ (⟨#[120, 124]⟩ : ByteArray)) ++ t281) ++ (⟨#[47]⟩ : ByteArray)) t290 false t265 t268 t269 t270 t273 y283 t268 t269 t270 t273 t265 t268 t269 y300 t273)))) else (none)) = some r := by first | (rw [hy297]; with_reducible exact H) | (have H2_ := (Option.bind_some _ _).symm.trans H; rw [hy297]; with_reducible exact H2_) | (have H2_ := (Option.bind_some _ _).symm.trans H; with_reducible exact H2_) | with_reducible exact H | (rw [hy297]; exact H) | exact H
   have Ny297 := Aside0.mk hy297
   clear hy297
   by_cases c24 : y294.length + y297.length < 8796093022208
   rotate_left
   ·rw [if_neg c24] at H
    exact absurd H (by simp)
   rw [if_pos c24] at H
   have LMc24 := Aside0.mk c24
   clear c24
   obtain ⟨y300, hy300⟩ : ∃ y_ : List (S25), y_ = (y294 ++ y297) := ⟨_, rfl⟩
   replace H : ((impl_PsalmValid.f kj5 t265 t268 t269 y300 t273).bind fun t304 => (if t304 = true then (laws_FnPsalmFits.j1 kj5 t276 t282 (((t280 ++ (⟨#[120, 124]⟩ : ByteArray)) ++ t281) ++ (⟨#[47]⟩ : ByteArray)) t290 (decide ((t280.size : Int) ≥ (wrap64 ((wrap64 ((t265.length : Int) + (t270.length : Int))) + 1)))) t265 t268 t269 t270 t273 y283 t268 t269 t270 t273 t265 t268 t269 y300 t273) else (laws_FnPsalmFits.j1 kj5 t276 t282 (((t280 ++ (⟨#[120, 124]⟩ : ByteArray)) ++ t281) ++ (⟨#[47]⟩ : ByteArray)) t290 false t265 t268 t269 t270 t273 y283 t268 t269 t270 t273 t265 t268 t269 y300 t273))) = some r := by first | (rw [hy300]; with_reducible exact H) | (have H2_ := (Option.bind_some _ _).symm.trans H; rw [hy300]; with_reducible exact H2_) | (have H2_ := (Option.bind_some _ _).symm.trans H; with_reducible exact H2_) | with_reducible exact H | (rw [hy300]; exact H) | exact H
   have Ny300 := Aside0.mk hy300
   clear hy300
   have HC25 := Aside0.mk H
   clear H
   try go_wp2_with (first | ((with_reducible refine gate_callee (f := 18) rfl ?_); refine goesL_ (some 42) rfl rfl Tryd.func18 (by kernel_rfl) rfl #[.string t276] rfl (by (try simp only [List.map_toArray, List.map_cons, List.map_nil]); first | done | rfl | (simp only [List.length_drop, List.length_take]; rfl)) ?_; (with_reducible refine (impl_VerseHalves.calls t276 t280 t281 t282 _ ?side1 A18.out).mono ?_); (case side1 => exact GOk.sub (GOk.below HG.out upH) (by decide)); rintro e w26 ⟨rfl, hb⟩; refine ⟨_, rfl, ?_⟩; have n0_ := Q0_ (Kd.R_below (upR HO_278000) hb); have n1_ := Q0_ (Kd.R_below (upR HO_278003) hb); have n2_ := Q0_ (Kd.R_below (upR HO_278004) hb); have n3_ := Q0_ (blk_below (upK BK277) hb); have n4_ := Q0_ (below_step upH hb); clear HO_278000 HO_278003 HO_278004 BK277 HB; revert n0_ n1_ n2_ n3_ n4_; intro HO_278000 HO_278003 HO_278004 BK277 HB; (try clear hb); (try clear hb2); (try clear hk); (try clear hi)) | ((with_reducible refine gate_dst (N := 51) rfl ?_); (try (refine gate_guard (by rfl) ?_; dsimp only)); refine Kd.R_lit k25 _ 25 ?hg (N := 51) ?hd (xs := ([] : List (S25))) (inner := []) (ok := fun _ => True) (okp := fun _ => True) ?hr ?hp (fun _ hk => hk) trivial (Below.refl _ _) (Nat.le_refl _) (by simp) ?_; (case hd => rfl); (case hg => rfl); (case hr => first | (go_simp; done) | (go_simp; rfl)); (case hp => exact (Reps.none _ _)); intro v284 w27 ho28 hb hg_ hnew_; clear hg_ hnew_; (first | rw [← Ny283.out] at ho28 | (simp only [Int.reduceToNat] at ho28; rw [← Ny283.out] at ho28)); have n0_ := Q0_ (Kd.R_elder' (upR HO_278000) (Kd.R_base ho28) hb); have n1_ := Q0_ (Kd.R_elder' (upR HO_278003) (Kd.R_base ho28) hb); have n2_ := Q0_ (Kd.R_elder' (upR HO_278004) (Kd.R_base ho28) hb); have n3_ := Q0_ (Kd.R_lower (Kd.R_new' (Kd.R_new' (Kd.R_new' ho28 (Kd.R_lt (upR HO_278000))) (Kd.R_lt (upR HO_278003))) (Kd.R_lt (upR HO_278004))) (below_size upH)); have n4_ := Q0_ (blk_below (upK BK277) hb); have n5_ := Q0_ (below_step upH hb); clear HO_278000 HO_278003 HO_278004 BK277 HB; revert n0_ n1_ n2_ n3_ n4_ n5_; intro HO_278000 HO_278003 HO_278004 HO285 BK277 HB; clear hb ho28; have hcz29_0 : w27.cell? ⟨gb277, 0, none⟩ = some (.slice Ao9 t265.length co9) := (blk_cell BK277.out 0).trans rfl; have hcz29_1 : w27.cell? ⟨gb277, 1, none⟩ = some (.int .i64 t268) := (blk_cell BK277.out 1).trans rfl; have hcz29_2 : w27.cell? ⟨gb277, 2, none⟩ = some (.bool t269) := (blk_cell BK277.out 2).trans rfl; have hcz29_3 : w27.cell? ⟨gb277, 3, none⟩ = some (.slice Ao11 t270.length co11) := (blk_cell BK277.out 3).trans rfl; have hcz29_4 : w27.cell? ⟨gb277, 4, none⟩ = some (.slice Ao12 t273.length co12) := (blk_cell BK277.out 4).trans rfl; have hfz29_0 := blk_frozen BK277.out 0; have hfz29_1 := blk_frozen BK277.out 1; have hfz29_2 := blk_frozen BK277.out 2; have hfz29_3 := blk_frozen BK277.out 3; have hfz29_4 := blk_frozen BK277.out 4; obtain ⟨Ao30, co30, eo30⟩ := Kd.R_slice HO285.out; subst eo30) | ((with_reducible refine gate_dst (N := 11) rfl ?_); (try (refine gate_guard (by rfl) ?_; dsimp only)); refine box_event ?hg (N := 11) ?hd (cs := #[.slice none 0 0, .int .i64 0, .bool false, .slice none 0 0, .slice none 0 0]) (t := 27) ?hr ?_; (case hd => rfl); (case hg => rfl); (case hr => first | (go_simp; done) | (go_simp; rfl)); intro gb286 hg w31 hbox hb; have n0_ := Q0_ (Kd.R_below (upR HO_278000) hb); have n1_ := Q0_ (Kd.R_below (upR HO_278003) hb); have n2_ := Q0_ (Kd.R_below (upR HO_278004) hb); have n3_ := Q0_ (Kd.R_below (upR HO285) hb); have n4_ := Q0_ (blk_below (upK BK277) hb); have n5_ := Q0_ (below_step upH hb); have n6_ := Q0_ (hbox); have n7_ := Q0_ ((by rw [hg]; exact (below_size upH) : w.heap.size ≤ gb286)); have n8_ := Q0_ ((by rw [hg]; exact (below_size upH) : w.heap.size ≤ gb286)); have n9_ := Q0_ ((by rw [hg]; exact Nat.ne_of_lt (blk_lt (upK BK277)) : gb277 ≠ gb286)); have n10_ := Q0_ ((by rw [hg]; exact Nat.ne_of_gt (blk_lt (upK BK277)) : gb286 ≠ gb277)); clear HO_278000 HO_278003 HO_278004 HO285 BK277 HB; revert n0_ n1_ n2_ n3_ n4_ n5_ n6_ n7_ n8_ n9_ n10_; intro HO_278000 HO_278003 HO_278004 HO285 BK277 HB BK286 GW286 GE286 NB277_286 NB286_277; clear hb hbox hg; have hnb32 := NB286_277.out; have hnc32 := NB277_286.out; have hcz33_0 : w31.cell? ⟨gb286, 0, none⟩ = some (.slice none 0 0) := (blk_cell BK286.out 0).trans rfl; have hcz33_1 : w31.cell? ⟨gb286, 1, none⟩ = some (.int .i64 0) := (blk_cell BK286.out 1).trans rfl; have hcz33_2 : w31.cell? ⟨gb286, 2, none⟩ = some (.bool false) := (blk_cell BK286.out 2).trans rfl; have hcz33_3 : w31.cell? ⟨gb286, 3, none⟩ = some (.slice none 0 0) := (blk_cell BK286.out 3).trans rfl; have hcz33_4 : w31.cell? ⟨gb286, 4, none⟩ = some (.slice none 0 0) := (blk_cell BK286.out 4).trans rfl; have hfz33_0 := blk_frozen BK286.out 0; have hfz33_1 := blk_frozen BK286.out 1; have hfz33_2 := blk_frozen BK286.out 2; have hfz33_3 := blk_frozen BK286.out 3; have hfz33_4 := blk_frozen BK286.out 4; have hcz34_0 : w31.cell? ⟨gb277, 0, none⟩ = some (.slice Ao9 t265.length co9) := (blk_cell BK277.out 0).trans rfl; have hcz34_1 : w31.cell? ⟨gb277, 1, none⟩ = some (.int .i64 t268) := (blk_cell BK277.out 1).trans rfl; have hcz34_2 : w31.cell? ⟨gb277, 2, none⟩ = some (.bool t269) := (blk_cell BK277.out 2).trans rfl; have hcz34_3 : w31.cell? ⟨gb277, 3, none⟩ = some (.slice Ao11 t270.length co11) := (blk_cell BK277.out 3).trans rfl; have hcz34_4 : w31.cell? ⟨gb277, 4, none⟩ = some (.slice Ao12 t273.length co12) := (blk_cell BK277.out 4).trans rfl; have hfz34_0 := blk_frozen BK277.out 0; have hfz34_1 := blk_frozen BK277.out 1; have hfz34_2 := blk_frozen BK277.out 2; have hfz34_3 := blk_frozen BK277.out 3; have hfz34_4 := blk_frozen BK277.out 4) | ((with_reducible refine gate_callee (f := 19) rfl ?_); refine goesL_ (some 62) rfl rfl Tryd.func19 (by kernel_rfl) rfl #[.agg #[.slice Ao9 t265.length co9, .int .i64 t268, .bool t269, .slice Ao11 t270.length co11, .slice Ao12 t273.length co12], .string t276] rfl (by (try simp only [List.map_toArray, List.map_cons, List.map_nil]); first | done | rfl | (simp only [List.length_drop, List.length_take]; rfl)) ?_; (with_reducible refine (impl_PsalmSing.calls kj5 _ _ t265 t268 t269 _ _ t270 _ _ t273 t276 t287 t290 _ ?side1 ?side2 ?side3 ?side4 ?side5 ?side6 ?side7 A22.out).mono ?_); (case side1 => refine (Kd.R_reads' (e := 25) (base := w.heap.size) (ok := fun k_ => ((nb k_ (.slice Ao11 t270.length co11) ∧ nb k_ (.slice Ao12 t273.length co12)) ∧ nb k_ (.slice Ao30 y283.length co30))) (n := t265.length) (c := co9) ?_).2.2; exact (upR' ((Kd.R_mono (Kd.R_far (p := ⟨gb286, 4, none⟩) (Kd.R_far (p := ⟨gb286, 3, none⟩) (Kd.R_far (p := ⟨gb286, 2, none⟩) (Kd.R_far (p := ⟨gb286, 1, none⟩) (Kd.R_far (p := ⟨gb286, 0, none⟩) (Kd.R_types HO_278000.out BK286.out (by decide)) (fun _ hk => hk.2) (.slice Ao30 y283.length co30)) (fun _ hk => hk.2) (.int .i64 t268)) (fun _ hk => hk.2) (.bool t269)) (fun _ hk => hk.2) (.slice Ao11 t270.length co11)) (fun _ hk => hk.2) (.slice Ao12 t273.length co12)) (fun _ h_ => h_.1))))); (case side2 => exact (Kd.R_reads' HO_278000.out).2.1); (case side3 => refine (Kd.R_reads' (e := 25) (base := w.heap.size) (ok := fun k_ => ((nb k_ (.slice Ao9 t265.length co9) ∧ nb k_ (.slice Ao12 t273.length co12)) ∧ nb k_ (.slice Ao30 y283.length co30))) (n := t270.length) (c := co11) ?_).2.2; exact (upR' ((Kd.R_mono (Kd.R_far (p := ⟨gb286, 4, none⟩) (Kd.R_far (p := ⟨gb286, 3, none⟩) (Kd.R_far (p := ⟨gb286, 2, none⟩) (Kd.R_far (p := ⟨gb286, 1, none⟩) (Kd.R_far (p := ⟨gb286, 0, none⟩) (Kd.R_types HO_278003.out BK286.out (by decide)) (fun _ hk => hk.2) (.slice Ao30 y283.length co30)) (fun _ hk => hk.2) (.int .i64 t268)) (fun _ hk => hk.2) (.bool t269)) (fun _ hk => hk.2) (.slice Ao11 t270.length co11)) (fun _ hk => hk.2) (.slice Ao12 t273.length co12)) (fun _ h_ => h_.1))))); (case side4 => exact (Kd.R_reads' HO_278003.out).2.1); (case side5 => refine (Kd.R_reads' (e := 25) (base := w.heap.size) (ok := fun k_ => ((nb k_ (.slice Ao9 t265.length co9) ∧ nb k_ (.slice Ao11 t270.length co11)) ∧ nb k_ (.slice Ao30 y283.length co30))) (n := t273.length) (c := co12) ?_).2.2; exact (upR' ((Kd.R_mono (Kd.R_far (p := ⟨gb286, 4, none⟩) (Kd.R_far (p := ⟨gb286, 3, none⟩) (Kd.R_far (p := ⟨gb286, 2, none⟩) (Kd.R_far (p := ⟨gb286, 1, none⟩) (Kd.R_far (p := ⟨gb286, 0, none⟩) (Kd.R_types HO_278004.out BK286.out (by decide)) (fun _ hk => hk.2) (.slice Ao30 y283.length co30)) (fun _ hk => hk.2) (.int .i64 t268)) (fun _ hk => hk.2) (.bool t269)) (fun _ hk => hk.2) (.slice Ao11 t270.length co11)) (fun _ hk => hk.2) (.slice Ao12 t273.length co12)) (fun _ h_ => h_.1))))); (case side6 => exact (Kd.R_reads' HO_278004.out).2.1); (case side7 => exact GOk.sub (GOk.below HG.out upH) (by decide)); rintro e w35 ⟨v288, rfl, ho0, hb⟩; refine ⟨_, rfl, ?_⟩; have n0_ := Q0_ (Kd.R_elder' (upR' ((Kd.R_mono (Kd.R_far (p := ⟨gb286, 4, none⟩) (Kd.R_far (p := ⟨gb286, 3, none⟩) (Kd.R_far (p := ⟨gb286, 2, none⟩) (Kd.R_far (p := ⟨gb286, 1, none⟩) (Kd.R_far (p := ⟨gb286, 0, none⟩) (Kd.R_types HO_278000.out BK286.out (by decide)) (fun _ hk => hk.2) (.slice Ao30 y283.length co30)) (fun _ hk => hk.2) (.int .i64 t268)) (fun _ hk => hk.2) (.bool t269)) (fun _ hk => hk.2) (.slice Ao11 t270.length co11)) (fun _ hk => hk.2) (.slice Ao12 t273.length co12)) (fun _ h_ => h_.1)))) (Kd.R_base ho0) hb); have n1_ := Q0_ (Kd.R_elder' (upR' ((Kd.R_mono (Kd.R_far (p := ⟨gb286, 4, none⟩) (Kd.R_far (p := ⟨gb286, 3, none⟩) (Kd.R_far (p := ⟨gb286, 2, none⟩) (Kd.R_far (p := ⟨gb286, 1, none⟩) (Kd.R_far (p := ⟨gb286, 0, none⟩) (Kd.R_types HO_278003.out BK286.out (by decide)) (fun _ hk => hk.2) (.slice Ao30 y283.length co30)) (fun _ hk => hk.2) (.int .i64 t268)) (fun _ hk => hk.2) (.bool t269)) (fun _ hk => hk.2) (.slice Ao11 t270.length co11)) (fun _ hk => hk.2) (.slice Ao12 t273.length co12)) (fun _ h_ => h_.1)))) (Kd.R_base ho0) hb); have n2_ := Q0_ (Kd.R_elder' (upR' ((Kd.R_mono (Kd.R_far (p := ⟨gb286, 4, none⟩) (Kd.R_far (p := ⟨gb286, 3, none⟩) (Kd.R_far (p := ⟨gb286, 2, none⟩) (Kd.R_far (p := ⟨gb286, 1, none⟩) (Kd.R_far (p := ⟨gb286, 0, none⟩) (Kd.R_types HO_278004.out BK286.out (by decide)) (fun _ hk => hk.2) (.slice Ao30 y283.length co30)) (fun _ hk => hk.2) (.int .i64 t268)) (fun _ hk => hk.2) (.bool t269)) (fun _ hk => hk.2) (.slice Ao11 t270.length co11)) (fun _ hk => hk.2) (.slice Ao12 t273.length co12)) (fun _ h_ => h_.1)))) (Kd.R_base ho0) hb); have n3_ := Q0_ (Kd.R_elder' (upR' ((Kd.R_mono (Kd.R_far (p := ⟨gb286, 4, none⟩) (Kd.R_far (p := ⟨gb286, 3, none⟩) (Kd.R_far (p := ⟨gb286, 2, none⟩) (Kd.R_far (p := ⟨gb286, 1, none⟩) (Kd.R_far (p := ⟨gb286, 0, none⟩) (Kd.R_types HO285.out BK286.out (by decide)) (fun _ hk => hk.2) (.slice Ao30 y283.length co30)) (fun _ hk => hk.2) (.int .i64 t268)) (fun _ hk => hk.2) (.bool t269)) (fun _ hk => hk.2) (.slice Ao11 t270.length co11)) (fun _ hk => hk.2) (.slice Ao12 t273.length co12)) (fun _ h_ => h_.1)))) (Kd.R_base ho0) hb); have n4_ := Q0_ (Kd.R_lower (Kd.R_new' (Kd.R_new' (Kd.R_new' (Kd.R_new' ho0 (Kd.R_lt (upR' ((Kd.R_mono (Kd.R_far (p := ⟨gb286, 4, none⟩) (Kd.R_far (p := ⟨gb286, 3, none⟩) (Kd.R_far (p := ⟨gb286, 2, none⟩) (Kd.R_far (p := ⟨gb286, 1, none⟩) (Kd.R_far (p := ⟨gb286, 0, none⟩) (Kd.R_types HO_278000.out BK286.out (by decide)) (fun _ hk => hk.2) (.slice Ao30 y283.length co30)) (fun _ hk => hk.2) (.int .i64 t268)) (fun _ hk => hk.2) (.bool t269)) (fun _ hk => hk.2) (.slice Ao11 t270.length co11)) (fun _ hk => hk.2) (.slice Ao12 t273.length co12)) (fun _ h_ => h_.1)))))) (Kd.R_lt (upR' ((Kd.R_mono (Kd.R_far (p := ⟨gb286, 4, none⟩) (Kd.R_far (p := ⟨gb286, 3, none⟩) (Kd.R_far (p := ⟨gb286, 2, none⟩) (Kd.R_far (p := ⟨gb286, 1, none⟩) (Kd.R_far (p := ⟨gb286, 0, none⟩) (Kd.R_types HO_278003.out BK286.out (by decide)) (fun _ hk => hk.2) (.slice Ao30 y283.length co30)) (fun _ hk => hk.2) (.int .i64 t268)) (fun _ hk => hk.2) (.bool t269)) (fun _ hk => hk.2) (.slice Ao11 t270.length co11)) (fun _ hk => hk.2) (.slice Ao12 t273.length co12)) (fun _ h_ => h_.1)))))) (Kd.R_lt (upR' ((Kd.R_mono (Kd.R_far (p := ⟨gb286, 4, none⟩) (Kd.R_far (p := ⟨gb286, 3, none⟩) (Kd.R_far (p := ⟨gb286, 2, none⟩) (Kd.R_far (p := ⟨gb286, 1, none⟩) (Kd.R_far (p := ⟨gb286, 0, none⟩) (Kd.R_types HO_278004.out BK286.out (by decide)) (fun _ hk => hk.2) (.slice Ao30 y283.length co30)) (fun _ hk => hk.2) (.int .i64 t268)) (fun _ hk => hk.2) (.bool t269)) (fun _ hk => hk.2) (.slice Ao11 t270.length co11)) (fun _ hk => hk.2) (.slice Ao12 t273.length co12)) (fun _ h_ => h_.1)))))) (Kd.R_lt (upR' ((Kd.R_mono (Kd.R_far (p := ⟨gb286, 4, none⟩) (Kd.R_far (p := ⟨gb286, 3, none⟩) (Kd.R_far (p := ⟨gb286, 2, none⟩) (Kd.R_far (p := ⟨gb286, 1, none⟩) (Kd.R_far (p := ⟨gb286, 0, none⟩) (Kd.R_types HO285.out BK286.out (by decide)) (fun _ hk => hk.2) (.slice Ao30 y283.length co30)) (fun _ hk => hk.2) (.int .i64 t268)) (fun _ hk => hk.2) (.bool t269)) (fun _ hk => hk.2) (.slice Ao11 t270.length co11)) (fun _ hk => hk.2) (.slice Ao12 t273.length co12)) (fun _ h_ => h_.1)))))) (below_size upH)); have n5_ := Q0_ (blk_below (g := gb277) (o := .cells #[.slice Ao9 t265.length co9, .int .i64 t268, .bool t269, .slice Ao11 t270.length co11, .slice Ao12 t273.length co12] 27 (0, 0)) (by (with_reducible repeat (first | refine blk_drewN ?_ _ | refine blk_drew ?_ | refine blk_alloc ?_ _)); refine blk_far ?_ NB277_286.out _; (with_reducible repeat (first | refine blk_drewN ?_ _ | refine blk_drew ?_ | refine blk_alloc ?_ _)); refine blk_far ?_ NB277_286.out _; (with_reducible repeat (first | refine blk_drewN ?_ _ | refine blk_drew ?_ | refine blk_alloc ?_ _)); refine blk_far ?_ NB277_286.out _; (with_reducible repeat (first | refine blk_drewN ?_ _ | refine blk_drew ?_ | refine blk_alloc ?_ _)); refine blk_far ?_ NB277_286.out _; (with_reducible repeat (first | refine blk_drewN ?_ _ | refine blk_drew ?_ | refine blk_alloc ?_ _)); refine blk_far ?_ NB277_286.out _; (with_reducible repeat (first | refine blk_drewN ?_ _ | refine blk_drew ?_ | refine blk_alloc ?_ _)); exact BK277.out) hb); have n6_ := Q0_ (blk_below (g := gb286) (o := .cells #[.slice Ao30 y283.length co30, .int .i64 t268, .bool t269, .slice Ao11 t270.length co11, .slice Ao12 t273.length co12] 27 (0, 0)) (by (with_reducible repeat (first | refine blk_drewN ?_ _ | refine blk_drew ?_ | refine blk_alloc ?_ _)); refine blk_put (cs := #[.slice Ao30 y283.length co30, .int .i64 t268, .bool t269, .slice Ao11 t270.length co11, .slice none 0 0]) ?_ 4 _ rfl; (with_reducible repeat (first | refine blk_drewN ?_ _ | refine blk_drew ?_ | refine blk_alloc ?_ _)); refine blk_put (cs := #[.slice Ao30 y283.length co30, .int .i64 t268, .bool t269, .slice none 0 0, .slice none 0 0]) ?_ 3 _ rfl; (with_reducible repeat (first | refine blk_drewN ?_ _ | refine blk_drew ?_ | refine blk_alloc ?_ _)); refine blk_put (cs := #[.slice Ao30 y283.length co30, .int .i64 t268, .bool false, .slice none 0 0, .slice none 0 0]) ?_ 2 _ rfl; (with_reducible repeat (first | refine blk_drewN ?_ _ | refine blk_drew ?_ | refine blk_alloc ?_ _)); refine blk_put (cs := #[.slice Ao30 y283.length co30, .int .i64 0, .bool false, .slice none 0 0, .slice none 0 0]) ?_ 1 _ rfl; (with_reducible repeat (first | refine blk_drewN ?_ _ | refine blk_drew ?_ | refine blk_alloc ?_ _)); refine blk_put (cs := #[.slice none 0 0, .int .i64 0, .bool false, .slice none 0 0, .slice none 0 0]) ?_ 0 _ rfl; (with_reducible repeat (first | refine blk_drewN ?_ _ | refine blk_drew ?_ | refine blk_alloc ?_ _)); exact BK286.out) hb); have n7_ := Q0_ (below_step upH hb); clear HO_278000 HO_278003 HO_278004 HO285 BK277 BK286 HB; revert n0_ n1_ n2_ n3_ n4_ n5_ n6_ n7_; intro HO_278000 HO_278003 HO_278004 HO285 HO289 BK277 BK286 HB; (try clear hb); (try clear hb2); (try clear hk); (try clear hi); (try clear ho0)))
   have n0_ := Q0_ (Kd.R_drew HO_278000.out)
   have n1_ := Q0_ (Kd.R_drew HO_278003.out)
   have n2_ := Q0_ (Kd.R_drew HO_278004.out)
   have n3_ := Q0_ (Kd.R_drew HO285.out)
   have n4_ := Q0_ (Kd.R_drew HO289.out)
   have n5_ := Q0_ (blk_drew BK277.out)
   have n6_ := Q0_ (blk_drew BK286.out)
   have n7_ := Q0_ (below_drew1 HB.out)
   clear HO_278000 HO_278003 HO_278004 HO285 HO289 BK277 BK286 HB; revert n0_ n1_ n2_ n3_ n4_ n5_ n6_ n7_; intro HO_278000 HO_278003 HO_278004 HO285 HO289 BK277 BK286 HB
   refine start_ (n := 17) (S := fun w' => w'.cell? ⟨gb277, 0, none⟩ = some (.slice Ao9 t265.length co9) ∧ w'.cell? ⟨gb277, 1, none⟩ = some (.int .i64 t268) ∧ w'.cell? ⟨gb277, 2, none⟩ = some (.bool t269) ∧ w'.cell? ⟨gb277, 3, none⟩ = some (.slice Ao11 t270.length co11) ∧ w'.cell? ⟨gb277, 4, none⟩ = some (.slice Ao12 t273.length co12)) (ds := []) #[ff,ff,ff,ff,ff,ff,ff,ff,ff,ff,ff,ff,ff,ff,ff,ff,ff] (by kernel_rfl) rfl rfl ⟨(blk_cell BK277.out 0).trans rfl, (blk_cell BK277.out 1).trans rfl, (blk_cell BK277.out 2).trans rfl, (blk_cell BK277.out 3).trans rfl, (blk_cell BK277.out 4).trans rfl⟩ (fun hHeld => ?_); refine with_tabW laws_FnPsalmFits.tab12 laws_FnPsalmFits.bits12 (fun HT_ HW_ => ?_)
   generalize w35.drew = w36 at HO_278000 HO_278003 HO_278004 HO285 HO289 BK277 BK286 HB hHeld ⊢
   refine pure_ (i := 0) (N := some 65) (v := ?_) (a' := ?_) #[tt,ff,ff,ff,ff,ff,ff,ff,ff,ff,ff,ff,ff,ff,ff,ff,ff] rfl rfl (any_of HT_.out (by kernel_rfl)) (fun _ _ _ h => h) (Or.inl ⟨by rfl, ?_⟩) ?_ ?_
   rotate_left
   ·intro w'
    go_simp
    with_reducible rfl
   rotate_left
   ·simp only [Act.put, sI, s0, sS, i64_w, i32_w]
    rfl
   refine pure_ (i := 2) (N := some 67) (v := ?_) (a' := ?_) #[tt,ff,tt,ff,ff,ff,ff,ff,ff,ff,ff,ff,ff,ff,ff,ff,ff] rfl rfl (any_of HT_.out (by kernel_rfl)) (fun _ _ _ h => h) (Or.inl ⟨by rfl, ?_⟩) ?_ ?_
   rotate_left
   ·intro w'
    go_simp
    with_reducible rfl
   rotate_left
   ·simp only [Act.put, sI, s0, sS, i64_w, i32_w]
    rfl
   refine pure_ (i := 5) (N := some 70) (v := ?_) (a' := ?_) #[tt,ff,tt,ff,ff,tt,ff,ff,ff,ff,ff,ff,ff,ff,ff,ff,ff] rfl rfl (any_of HT_.out (by kernel_rfl)) (fun _ _ _ h => h) (Or.inl ⟨by rfl, ?_⟩) ?_ ?_
   rotate_left
   ·intro w'
    go_simp
    with_reducible rfl
   rotate_left
   ·simp only [Act.put, sI, s0, sS, i64_w, i32_w]
    rfl
   refine pure_ (i := 8) (N := some 73) (v := ?_) (a' := ?_) #[tt,ff,tt,ff,ff,tt,ff,ff,tt,ff,ff,ff,ff,ff,ff,ff,ff] rfl rfl (any_of HT_.out (by kernel_rfl)) (fun _ _ _ h => h) (Or.inl ⟨by rfl, ?_⟩) ?_ ?_
   rotate_left
   ·intro w'
    go_simp
    with_reducible rfl
   rotate_left
   ·simp only [Act.put, sI, s0, sS, i64_w, i32_w]
    rfl
   refine pure_ (i := 12) (N := some 77) (v := ?_) (a' := ?_) #[tt,ff,tt,ff,ff,tt,ff,ff,tt,ff,ff,ff,tt,ff,ff,ff,ff] rfl rfl (any_of HT_.out (by kernel_rfl)) (fun _ _ _ h => h) (Or.inl ⟨by rfl, ?_⟩) ?_ ?_
   rotate_left
   ·intro w'
    go_simp
    with_reducible rfl
   rotate_left
   ·simp only [Act.put, sI, s0, sS, i64_w, i32_w]
    rfl
   refine take_ (i := 1) (N := some 66) (v := ?_) (a' := ?_) #[tt,tt,tt,ff,ff,tt,ff,ff,tt,ff,ff,ff,tt,ff,ff,ff,ff] rfl rfl (take_ofW HT_.out HW_.out (by kernel_rfl)) (fun _ _ _ h => h) (Or.inl ⟨by rfl, ?_⟩) hHeld ?_ ?_
   rotate_left
   ·rintro w' ⟨s0, s1, s2, s3, s4⟩
    go_simp
    with_reducible rfl
   rotate_left
   ·simp only [Act.put, sI, s0, sS, i64_w, i32_w]
    rfl
   refine take_ (i := 3) (N := some 68) (v := ?_) (a' := ?_) #[tt,tt,tt,tt,ff,tt,ff,ff,tt,ff,ff,ff,tt,ff,ff,ff,ff] rfl rfl (take_ofW HT_.out HW_.out (by kernel_rfl)) (fun _ _ _ h => h) (Or.inl ⟨by rfl, ?_⟩) hHeld ?_ ?_
   rotate_left
   ·rintro w' ⟨s0, s1, s2, s3, s4⟩
    go_simp
    with_reducible rfl
   rotate_left
   ·simp only [Act.put, sI, s0, sS, i64_w, i32_w]
    rfl
   refine take_ (i := 6) (N := some 71) (v := ?_) (a' := ?_) #[tt,tt,tt,tt,ff,tt,tt,ff,tt,ff,ff,ff,tt,ff,ff,ff,ff] rfl rfl (take_ofW HT_.out HW_.out (by kernel_rfl)) (fun _ _ _ h => h) (Or.inl ⟨by rfl, ?_⟩) hHeld ?_ ?_
   rotate_left
   ·rintro w' ⟨s0, s1, s2, s3, s4⟩
    go_simp
    with_reducible rfl
   rotate_left
   ·simp only [Act.put, sI, s0, sS, i64_w, i32_w]
    rfl
   refine take_ (i := 9) (N := some 74) (v := ?_) (a' := ?_) #[tt,tt,tt,tt,ff,tt,tt,ff,tt,tt,ff,ff,tt,ff,ff,ff,ff] rfl rfl (take_ofW HT_.out HW_.out (by kernel_rfl)) (fun _ _ _ h => h) (Or.inl ⟨by rfl, ?_⟩) hHeld ?_ ?_
   rotate_left
   ·rintro w' ⟨s0, s1, s2, s3, s4⟩
    go_simp
    with_reducible rfl
   rotate_left
   ·simp only [Act.put, sI, s0, sS, i64_w, i32_w]
    rfl
   refine take_ (i := 13) (N := some 78) (v := ?_) (a' := ?_) #[tt,tt,tt,tt,ff,tt,tt,ff,tt,tt,ff,ff,tt,tt,ff,ff,ff] rfl rfl (take_ofW HT_.out HW_.out (by kernel_rfl)) (fun _ _ _ h => h) (Or.inl ⟨by rfl, ?_⟩) hHeld ?_ ?_
   rotate_left
   ·rintro w' ⟨s0, s1, s2, s3, s4⟩
    go_simp
    with_reducible rfl
   rotate_left
   ·simp only [Act.put, sI, s0, sS, i64_w, i32_w]
    rfl
   refine join_ (σ := Value × Value × Value × Value × Nat) 1 #[tt,tt,tt,tt,tt,tt,tt,tt,tt,tt,tt,tt,tt,tt,tt,tt,ff] (fun s_ => [(69, s_.1), (72, s_.2.1), (75, s_.2.2.1), (76, s_.2.2.2.1), (14, .pointer (some ⟨s_.2.2.2.2, 0, none⟩)), (79, .agg #[.slice Ao9 t265.length co9, .int .i64 t268, .bool t269, s_.2.2.2.1, .slice Ao12 t273.length co12])]) (fun s_ w' => (w'.cell? ⟨gb277, 0, none⟩ = some (.slice Ao9 t265.length co9) ∧ w'.cell? ⟨gb277, 1, none⟩ = some (.int .i64 t268) ∧ w'.cell? ⟨gb277, 2, none⟩ = some (.bool t269) ∧ w'.cell? ⟨gb277, 3, none⟩ = some (.slice Ao11 t270.length co11) ∧ w'.cell? ⟨gb277, 4, none⟩ = some (.slice Ao12 t273.length co12)) ∧ (Kd.R k25 25 w' w.heap.size (fun k_ => nb k_ (v288) ∧ nb k_ (s_.2.2.1) ∧ nb k_ (s_.2.2.2.1) ∧ nb k_ (.slice Ao9 t265.length co9) ∧ nb k_ (.slice Ao11 t270.length co11) ∧ nb k_ (.slice Ao12 t273.length co12)) (.slice Ao30 y283.length co30) y283) ∧ (Kd.R k25 25 w' w.heap.size (fun k_ => nb k_ (.slice Ao30 y283.length co30) ∧ nb k_ (s_.2.2.1) ∧ nb k_ (s_.2.2.2.1) ∧ nb k_ (.slice Ao9 t265.length co9) ∧ nb k_ (.slice Ao11 t270.length co11) ∧ nb k_ (.slice Ao12 t273.length co12)) v288 t287) ∧ (Kd.R k25 25 w' w.heap.size (fun k_ => nb k_ (.slice Ao30 y283.length co30) ∧ nb k_ (v288) ∧ nb k_ (s_.2.2.2.1) ∧ nb k_ (.slice Ao9 t265.length co9) ∧ nb k_ (.slice Ao11 t270.length co11) ∧ nb k_ (.slice Ao12 t273.length co12)) s_.2.2.1 y297) ∧ (Kd.R k25 25 w' w.heap.size (fun k_ => nb k_ (.slice Ao30 y283.length co30) ∧ nb k_ (v288) ∧ nb k_ (s_.2.2.1) ∧ nb k_ (.slice Ao9 t265.length co9) ∧ nb k_ (.slice Ao11 t270.length co11) ∧ nb k_ (.slice Ao12 t273.length co12)) s_.2.2.2.1 y300) ∧ (Kd.R k25 25 w' w.heap.size (fun k_ => nb k_ (.slice Ao30 y283.length co30) ∧ nb k_ (v288) ∧ nb k_ (s_.2.2.1) ∧ nb k_ (s_.2.2.2.1) ∧ nb k_ (.slice Ao11 t270.length co11) ∧ nb k_ (.slice Ao12 t273.length co12)) (.slice Ao9 t265.length co9) t265) ∧ (Kd.R k25 25 w' w.heap.size (fun k_ => nb k_ (.slice Ao30 y283.length co30) ∧ nb k_ (v288) ∧ nb k_ (s_.2.2.1) ∧ nb k_ (s_.2.2.2.1) ∧ nb k_ (.slice Ao9 t265.length co9) ∧ nb k_ (.slice Ao12 t273.length co12)) (.slice Ao11 t270.length co11) t270) ∧ (Kd.R k25 25 w' w.heap.size (fun k_ => nb k_ (.slice Ao30 y283.length co30) ∧ nb k_ (v288) ∧ nb k_ (s_.2.2.1) ∧ nb k_ (s_.2.2.2.1) ∧ nb k_ (.slice Ao9 t265.length co9) ∧ nb k_ (.slice Ao11 t270.length co11)) (.slice Ao12 t273.length co12) t273) ∧ (w'.heap[gb277]? = some (.cells #[.slice Ao9 t265.length co9, .int .i64 t268, .bool t269, .slice Ao11 t270.length co11, .slice Ao12 t273.length co12] 27 (0, 0))) ∧ (w'.heap[gb286]? = some (.cells #[.slice Ao30 y283.length co30, .int .i64 t268, .bool t269, .slice Ao11 t270.length co11, .slice Ao12 t273.length co12] 27 (0, 0))) ∧ (w'.heap[s_.2.2.2.2]? = some (.cells #[.slice none 0 0, .int .i64 0, .bool false, .slice none 0 0, .slice none 0 0] 27 (0, 0))) ∧ (w.heap.size ≤ s_.2.2.2.2) ∧ (w.heap.size ≤ s_.2.2.2.2) ∧ (gb277 ≠ s_.2.2.2.2) ∧ (s_.2.2.2.2 ≠ gb277) ∧ (gb286 ≠ s_.2.2.2.2) ∧ (s_.2.2.2.2 ≠ gb286) ∧ (Below w.heap.size w w')) ?_ ?_
   rotate_left
   ·intro hJ4_7_10_11_15
    refine join_ (σ := Value × Value × Value × Value) 2 #[tt,tt,tt,tt,tt,tt,tt,tt,tt,tt,tt,tt,tt,tt,tt,ff,ff] (fun s_ => [(69, s_.1), (72, s_.2.1), (75, s_.2.2.1), (76, s_.2.2.2), (79, .agg #[.slice Ao9 t265.length co9, .int .i64 t268, .bool t269, s_.2.2.2, .slice Ao12 t273.length co12])]) (fun s_ w' => (w'.cell? ⟨gb277, 0, none⟩ = some (.slice Ao9 t265.length co9) ∧ w'.cell? ⟨gb277, 1, none⟩ = some (.int .i64 t268) ∧ w'.cell? ⟨gb277, 2, none⟩ = some (.bool t269) ∧ w'.cell? ⟨gb277, 3, none⟩ = some (.slice Ao11 t270.length co11) ∧ w'.cell? ⟨gb277, 4, none⟩ = some (.slice Ao12 t273.length co12)) ∧ (Kd.R k25 25 w' w.heap.size (fun k_ => nb k_ (v288) ∧ nb k_ (s_.2.2.1) ∧ nb k_ (s_.2.2.2) ∧ nb k_ (.slice Ao9 t265.length co9) ∧ nb k_ (.slice Ao11 t270.length co11) ∧ nb k_ (.slice Ao12 t273.length co12)) (.slice Ao30 y283.length co30) y283) ∧ (Kd.R k25 25 w' w.heap.size (fun k_ => nb k_ (.slice Ao30 y283.length co30) ∧ nb k_ (s_.2.2.1) ∧ nb k_ (s_.2.2.2) ∧ nb k_ (.slice Ao9 t265.length co9) ∧ nb k_ (.slice Ao11 t270.length co11) ∧ nb k_ (.slice Ao12 t273.length co12)) v288 t287) ∧ (Kd.R k25 25 w' w.heap.size (fun k_ => nb k_ (.slice Ao30 y283.length co30) ∧ nb k_ (v288) ∧ nb k_ (s_.2.2.2) ∧ nb k_ (.slice Ao9 t265.length co9) ∧ nb k_ (.slice Ao11 t270.length co11) ∧ nb k_ (.slice Ao12 t273.length co12)) s_.2.2.1 y297) ∧ (Kd.R k25 25 w' w.heap.size (fun k_ => nb k_ (.slice Ao30 y283.length co30) ∧ nb k_ (v288) ∧ nb k_ (s_.2.2.1) ∧ nb k_ (.slice Ao9 t265.length co9) ∧ nb k_ (.slice Ao11 t270.length co11) ∧ nb k_ (.slice Ao12 t273.length co12)) s_.2.2.2 y300) ∧ (Kd.R k25 25 w' w.heap.size (fun k_ => nb k_ (.slice Ao30 y283.length co30) ∧ nb k_ (v288) ∧ nb k_ (s_.2.2.1) ∧ nb k_ (s_.2.2.2) ∧ nb k_ (.slice Ao11 t270.length co11) ∧ nb k_ (.slice Ao12 t273.length co12)) (.slice Ao9 t265.length co9) t265) ∧ (Kd.R k25 25 w' w.heap.size (fun k_ => nb k_ (.slice Ao30 y283.length co30) ∧ nb k_ (v288) ∧ nb k_ (s_.2.2.1) ∧ nb k_ (s_.2.2.2) ∧ nb k_ (.slice Ao9 t265.length co9) ∧ nb k_ (.slice Ao12 t273.length co12)) (.slice Ao11 t270.length co11) t270) ∧ (Kd.R k25 25 w' w.heap.size (fun k_ => nb k_ (.slice Ao30 y283.length co30) ∧ nb k_ (v288) ∧ nb k_ (s_.2.2.1) ∧ nb k_ (s_.2.2.2) ∧ nb k_ (.slice Ao9 t265.length co9) ∧ nb k_ (.slice Ao11 t270.length co11)) (.slice Ao12 t273.length co12) t273) ∧ (w'.heap[gb277]? = some (.cells #[.slice Ao9 t265.length co9, .int .i64 t268, .bool t269, .slice Ao11 t270.length co11, .slice Ao12 t273.length co12] 27 (0, 0))) ∧ (w'.heap[gb286]? = some (.cells #[.slice Ao30 y283.length co30, .int .i64 t268, .bool t269, .slice Ao11 t270.length co11, .slice Ao12 t273.length co12] 27 (0, 0))) ∧ (Below w.heap.size w w')) ?_ ?_
    rotate_left
    ·intro hJ4_7_10_11
     refine join_ (σ := Value × Value × Value × Nat) 3 #[tt,tt,tt,tt,tt,tt,tt,tt,tt,tt,tt,ff,tt,tt,ff,tt,ff] (fun s_ => [(69, s_.1), (72, s_.2.1), (75, s_.2.2.1), (14, .pointer (some ⟨s_.2.2.2, 0, none⟩))]) (fun s_ w' => (w'.cell? ⟨gb277, 0, none⟩ = some (.slice Ao9 t265.length co9) ∧ w'.cell? ⟨gb277, 1, none⟩ = some (.int .i64 t268) ∧ w'.cell? ⟨gb277, 2, none⟩ = some (.bool t269) ∧ w'.cell? ⟨gb277, 3, none⟩ = some (.slice Ao11 t270.length co11) ∧ w'.cell? ⟨gb277, 4, none⟩ = some (.slice Ao12 t273.length co12)) ∧ (Kd.R k25 25 w' w.heap.size (fun k_ => nb k_ (v288) ∧ nb k_ (s_.2.1) ∧ nb k_ (s_.2.2.1) ∧ nb k_ (.slice Ao9 t265.length co9) ∧ nb k_ (.slice Ao11 t270.length co11) ∧ nb k_ (.slice Ao12 t273.length co12)) (.slice Ao30 y283.length co30) y283) ∧ (Kd.R k25 25 w' w.heap.size (fun k_ => nb k_ (.slice Ao30 y283.length co30) ∧ nb k_ (s_.2.1) ∧ nb k_ (s_.2.2.1) ∧ nb k_ (.slice Ao9 t265.length co9) ∧ nb k_ (.slice Ao11 t270.length co11) ∧ nb k_ (.slice Ao12 t273.length co12)) v288 t287) ∧ (Kd.R k25 25 w' w.heap.size (fun k_ => nb k_ (.slice Ao30 y283.length co30) ∧ nb k_ (v288) ∧ nb k_ (s_.2.2.1) ∧ nb k_ (.slice Ao9 t265.length co9) ∧ nb k_ (.slice Ao11 t270.length co11) ∧ nb k_ (.slice Ao12 t273.length co12)) s_.2.1 y294) ∧ (Kd.R k25 25 w' w.heap.size (fun k_ => nb k_ (.slice Ao30 y283.length co30) ∧ nb k_ (v288) ∧ nb k_ (s_.2.1) ∧ nb k_ (.slice Ao9 t265.length co9) ∧ nb k_ (.slice Ao11 t270.length co11) ∧ nb k_ (.slice Ao12 t273.length co12)) s_.2.2.1 y297) ∧ (Kd.R k25 25 w' w.heap.size (fun k_ => nb k_ (.slice Ao30 y283.length co30) ∧ nb k_ (v288) ∧ nb k_ (s_.2.1) ∧ nb k_ (s_.2.2.1) ∧ nb k_ (.slice Ao11 t270.length co11) ∧ nb k_ (.slice Ao12 t273.length co12)) (.slice Ao9 t265.length co9) t265) ∧ (Kd.R k25 25 w' w.heap.size (fun k_ => nb k_ (.slice Ao30 y283.length co30) ∧ nb k_ (v288) ∧ nb k_ (s_.2.1) ∧ nb k_ (s_.2.2.1) ∧ nb k_ (.slice Ao9 t265.length co9) ∧ nb k_ (.slice Ao12 t273.length co12)) (.slice Ao11 t270.length co11) t270) ∧ (Kd.R k25 25 w' w.heap.size (fun k_ => nb k_ (.slice Ao30 y283.length co30) ∧ nb k_ (v288) ∧ nb k_ (s_.2.1) ∧ nb k_ (s_.2.2.1) ∧ nb k_ (.slice Ao9 t265.length co9) ∧ nb k_ (.slice Ao11 t270.length co11)) (.slice Ao12 t273.length co12) t273) ∧ (w'.heap[gb277]? = some (.cells #[.slice Ao9 t265.length co9, .int .i64 t268, .bool t269, .slice Ao11 t270.length co11, .slice Ao12 t273.length co12] 27 (0, 0))) ∧ (w'.heap[gb286]? = some (.cells #[.slice Ao30 y283.length co30, .int .i64 t268, .bool t269, .slice Ao11 t270.length co11, .slice Ao12 t273.length co12] 27 (0, 0))) ∧ (w'.heap[s_.2.2.2]? = some (.cells #[.slice none 0 0, .int .i64 0, .bool false, .slice none 0 0, .slice none 0 0] 27 (0, 0))) ∧ (w.heap.size ≤ s_.2.2.2) ∧ (w.heap.size ≤ s_.2.2.2) ∧ (gb277 ≠ s_.2.2.2) ∧ (s_.2.2.2 ≠ gb277) ∧ (gb286 ≠ s_.2.2.2) ∧ (s_.2.2.2 ≠ gb286) ∧ (Below w.heap.size w w')) ?_ ?_
     rotate_left
     ·intro hJ4_7_10_15
      refine join_ (σ := Value × Value × Value) 4 #[tt,tt,tt,tt,tt,tt,tt,tt,tt,tt,tt,ff,tt,tt,ff,ff,ff] (fun s_ => [(69, s_.1), (72, s_.2.1), (75, s_.2.2)]) (fun s_ w' => (w'.cell? ⟨gb277, 0, none⟩ = some (.slice Ao9 t265.length co9) ∧ w'.cell? ⟨gb277, 1, none⟩ = some (.int .i64 t268) ∧ w'.cell? ⟨gb277, 2, none⟩ = some (.bool t269) ∧ w'.cell? ⟨gb277, 3, none⟩ = some (.slice Ao11 t270.length co11) ∧ w'.cell? ⟨gb277, 4, none⟩ = some (.slice Ao12 t273.length co12)) ∧ (Kd.R k25 25 w' w.heap.size (fun k_ => nb k_ (v288) ∧ nb k_ (s_.2.1) ∧ nb k_ (s_.2.2) ∧ nb k_ (.slice Ao9 t265.length co9) ∧ nb k_ (.slice Ao11 t270.length co11) ∧ nb k_ (.slice Ao12 t273.length co12)) (.slice Ao30 y283.length co30) y283) ∧ (Kd.R k25 25 w' w.heap.size (fun k_ => nb k_ (.slice Ao30 y283.length co30) ∧ nb k_ (s_.2.1) ∧ nb k_ (s_.2.2) ∧ nb k_ (.slice Ao9 t265.length co9) ∧ nb k_ (.slice Ao11 t270.length co11) ∧ nb k_ (.slice Ao12 t273.length co12)) v288 t287) ∧ (Kd.R k25 25 w' w.heap.size (fun k_ => nb k_ (.slice Ao30 y283.length co30) ∧ nb k_ (v288) ∧ nb k_ (s_.2.2) ∧ nb k_ (.slice Ao9 t265.length co9) ∧ nb k_ (.slice Ao11 t270.length co11) ∧ nb k_ (.slice Ao12 t273.length co12)) s_.2.1 y294) ∧ (Kd.R k25 25 w' w.heap.size (fun k_ => nb k_ (.slice Ao30 y283.length co30) ∧ nb k_ (v288) ∧ nb k_ (s_.2.1) ∧ nb k_ (.slice Ao9 t265.length co9) ∧ nb k_ (.slice Ao11 t270.length co11) ∧ nb k_ (.slice Ao12 t273.length co12)) s_.2.2 y297) ∧ (Kd.R k25 25 w' w.heap.size (fun k_ => nb k_ (.slice Ao30 y283.length co30) ∧ nb k_ (v288) ∧ nb k_ (s_.2.1) ∧ nb k_ (s_.2.2) ∧ nb k_ (.slice Ao11 t270.length co11) ∧ nb k_ (.slice Ao12 t273.length co12)) (.slice Ao9 t265.length co9) t265) ∧ (Kd.R k25 25 w' w.heap.size (fun k_ => nb k_ (.slice Ao30 y283.length co30) ∧ nb k_ (v288) ∧ nb k_ (s_.2.1) ∧ nb k_ (s_.2.2) ∧ nb k_ (.slice Ao9 t265.length co9) ∧ nb k_ (.slice Ao12 t273.length co12)) (.slice Ao11 t270.length co11) t270) ∧ (Kd.R k25 25 w' w.heap.size (fun k_ => nb k_ (.slice Ao30 y283.length co30) ∧ nb k_ (v288) ∧ nb k_ (s_.2.1) ∧ nb k_ (s_.2.2) ∧ nb k_ (.slice Ao9 t265.length co9) ∧ nb k_ (.slice Ao11 t270.length co11)) (.slice Ao12 t273.length co12) t273) ∧ (w'.heap[gb277]? = some (.cells #[.slice Ao9 t265.length co9, .int .i64 t268, .bool t269, .slice Ao11 t270.length co11, .slice Ao12 t273.length co12] 27 (0, 0))) ∧ (w'.heap[gb286]? = some (.cells #[.slice Ao30 y283.length co30, .int .i64 t268, .bool t269, .slice Ao11 t270.length co11, .slice Ao12 t273.length co12] 27 (0, 0))) ∧ (Below w.heap.size w w')) ?_ ?_
      rotate_left
      ·intro hJ4_7_10
       refine join_ (σ := Value × Value × Nat) 4 #[tt,tt,tt,tt,tt,tt,tt,tt,tt,tt,ff,ff,tt,tt,ff,tt,ff] (fun s_ => [(69, s_.1), (72, s_.2.1), (14, .pointer (some ⟨s_.2.2, 0, none⟩))]) (fun s_ w' => (w'.cell? ⟨gb277, 0, none⟩ = some (.slice Ao9 t265.length co9) ∧ w'.cell? ⟨gb277, 1, none⟩ = some (.int .i64 t268) ∧ w'.cell? ⟨gb277, 2, none⟩ = some (.bool t269) ∧ w'.cell? ⟨gb277, 3, none⟩ = some (.slice Ao11 t270.length co11) ∧ w'.cell? ⟨gb277, 4, none⟩ = some (.slice Ao12 t273.length co12)) ∧ (Kd.R k25 25 w' w.heap.size (fun k_ => nb k_ (v288) ∧ nb k_ (s_.2.1) ∧ nb k_ (.slice Ao9 t265.length co9) ∧ nb k_ (.slice Ao11 t270.length co11) ∧ nb k_ (.slice Ao12 t273.length co12)) (.slice Ao30 y283.length co30) y283) ∧ (Kd.R k25 25 w' w.heap.size (fun k_ => nb k_ (.slice Ao30 y283.length co30) ∧ nb k_ (s_.2.1) ∧ nb k_ (.slice Ao9 t265.length co9) ∧ nb k_ (.slice Ao11 t270.length co11) ∧ nb k_ (.slice Ao12 t273.length co12)) v288 t287) ∧ (Kd.R k25 25 w' w.heap.size (fun k_ => nb k_ (.slice Ao30 y283.length co30) ∧ nb k_ (v288) ∧ nb k_ (.slice Ao9 t265.length co9) ∧ nb k_ (.slice Ao11 t270.length co11) ∧ nb k_ (.slice Ao12 t273.length co12)) s_.2.1 y294) ∧ (Kd.R k25 25 w' w.heap.size (fun k_ => nb k_ (.slice Ao30 y283.length co30) ∧ nb k_ (v288) ∧ nb k_ (s_.2.1) ∧ nb k_ (.slice Ao11 t270.length co11) ∧ nb k_ (.slice Ao12 t273.length co12)) (.slice Ao9 t265.length co9) t265) ∧ (Kd.R k25 25 w' w.heap.size (fun k_ => nb k_ (.slice Ao30 y283.length co30) ∧ nb k_ (v288) ∧ nb k_ (s_.2.1) ∧ nb k_ (.slice Ao9 t265.length co9) ∧ nb k_ (.slice Ao12 t273.length co12)) (.slice Ao11 t270.length co11) t270) ∧ (Kd.R k25 25 w' w.heap.size (fun k_ => nb k_ (.slice Ao30 y283.length co30) ∧ nb k_ (v288) ∧ nb k_ (s_.2.1) ∧ nb k_ (.slice Ao9 t265.length co9) ∧ nb k_ (.slice Ao11 t270.length co11)) (.slice Ao12 t273.length co12) t273) ∧ (w'.heap[gb277]? = some (.cells #[.slice Ao9 t265.length co9, .int .i64 t268, .bool t269, .slice Ao11 t270.length co11, .slice Ao12 t273.length co12] 27 (0, 0))) ∧ (w'.heap[gb286]? = some (.cells #[.slice Ao30 y283.length co30, .int .i64 t268, .bool t269, .slice Ao11 t270.length co11, .slice Ao12 t273.length co12] 27 (0, 0))) ∧ (w'.heap[s_.2.2]? = some (.cells #[.slice none 0 0, .int .i64 0, .bool false, .slice none 0 0, .slice none 0 0] 27 (0, 0))) ∧ (w.heap.size ≤ s_.2.2) ∧ (w.heap.size ≤ s_.2.2) ∧ (gb277 ≠ s_.2.2) ∧ (s_.2.2 ≠ gb277) ∧ (gb286 ≠ s_.2.2) ∧ (s_.2.2 ≠ gb286) ∧ (Below w.heap.size w w')) ?_ ?_
       rotate_left
       ·intro hJ4_7_15
        refine join_ (σ := Value × Value × Nat) 4 #[tt,tt,tt,tt,tt,tt,tt,ff,tt,tt,tt,ff,tt,tt,ff,tt,ff] (fun s_ => [(69, s_.1), (75, s_.2.1), (14, .pointer (some ⟨s_.2.2, 0, none⟩))]) (fun s_ w' => (w'.cell? ⟨gb277, 0, none⟩ = some (.slice Ao9 t265.length co9) ∧ w'.cell? ⟨gb277, 1, none⟩ = some (.int .i64 t268) ∧ w'.cell? ⟨gb277, 2, none⟩ = some (.bool t269) ∧ w'.cell? ⟨gb277, 3, none⟩ = some (.slice Ao11 t270.length co11) ∧ w'.cell? ⟨gb277, 4, none⟩ = some (.slice Ao12 t273.length co12)) ∧ (Kd.R k25 25 w' w.heap.size (fun k_ => nb k_ (v288) ∧ nb k_ (s_.1) ∧ nb k_ (s_.2.1) ∧ nb k_ (.slice Ao9 t265.length co9) ∧ nb k_ (.slice Ao11 t270.length co11) ∧ nb k_ (.slice Ao12 t273.length co12)) (.slice Ao30 y283.length co30) y283) ∧ (Kd.R k25 25 w' w.heap.size (fun k_ => nb k_ (.slice Ao30 y283.length co30) ∧ nb k_ (s_.1) ∧ nb k_ (s_.2.1) ∧ nb k_ (.slice Ao9 t265.length co9) ∧ nb k_ (.slice Ao11 t270.length co11) ∧ nb k_ (.slice Ao12 t273.length co12)) v288 t287) ∧ (Kd.R k25 25 w' w.heap.size (fun k_ => nb k_ (.slice Ao30 y283.length co30) ∧ nb k_ (v288) ∧ nb k_ (s_.2.1) ∧ nb k_ (.slice Ao9 t265.length co9) ∧ nb k_ (.slice Ao11 t270.length co11) ∧ nb k_ (.slice Ao12 t273.length co12)) s_.1 y291) ∧ (Kd.R k25 25 w' w.heap.size (fun k_ => nb k_ (.slice Ao30 y283.length co30) ∧ nb k_ (v288) ∧ nb k_ (s_.1) ∧ nb k_ (.slice Ao9 t265.length co9) ∧ nb k_ (.slice Ao11 t270.length co11) ∧ nb k_ (.slice Ao12 t273.length co12)) s_.2.1 y297) ∧ (Kd.R k25 25 w' w.heap.size (fun k_ => nb k_ (.slice Ao30 y283.length co30) ∧ nb k_ (v288) ∧ nb k_ (s_.1) ∧ nb k_ (s_.2.1) ∧ nb k_ (.slice Ao11 t270.length co11) ∧ nb k_ (.slice Ao12 t273.length co12)) (.slice Ao9 t265.length co9) t265) ∧ (Kd.R k25 25 w' w.heap.size (fun k_ => nb k_ (.slice Ao30 y283.length co30) ∧ nb k_ (v288) ∧ nb k_ (s_.1) ∧ nb k_ (s_.2.1) ∧ nb k_ (.slice Ao9 t265.length co9) ∧ nb k_ (.slice Ao12 t273.length co12)) (.slice Ao11 t270.length co11) t270) ∧ (Kd.R k25 25 w' w.heap.size (fun k_ => nb k_ (.slice Ao30 y283.length co30) ∧ nb k_ (v288) ∧ nb k_ (s_.1) ∧ nb k_ (s_.2.1) ∧ nb k_ (.slice Ao9 t265.length co9) ∧ nb k_ (.slice Ao11 t270.length co11)) (.slice Ao12 t273.length co12) t273) ∧ (w'.heap[gb277]? = some (.cells #[.slice Ao9 t265.length co9, .int .i64 t268, .bool t269, .slice Ao11 t270.length co11, .slice Ao12 t273.length co12] 27 (0, 0))) ∧ (w'.heap[gb286]? = some (.cells #[.slice Ao30 y283.length co30, .int .i64 t268, .bool t269, .slice Ao11 t270.length co11, .slice Ao12 t273.length co12] 27 (0, 0))) ∧ (w'.heap[s_.2.2]? = some (.cells #[.slice none 0 0, .int .i64 0, .bool false, .slice none 0 0, .slice none 0 0] 27 (0, 0))) ∧ (w.heap.size ≤ s_.2.2) ∧ (w.heap.size ≤ s_.2.2) ∧ (gb277 ≠ s_.2.2) ∧ (s_.2.2 ≠ gb277) ∧ (gb286 ≠ s_.2.2) ∧ (s_.2.2 ≠ gb286) ∧ (Below w.heap.size w w')) ?_ ?_
        rotate_left
        ·intro hJ4_10_15
         refine join_ (σ := Value × Value) 5 #[tt,tt,tt,tt,tt,tt,tt,tt,tt,tt,ff,ff,tt,tt,ff,ff,ff] (fun s_ => [(69, s_.1), (72, s_.2)]) (fun s_ w' => (w'.cell? ⟨gb277, 0, none⟩ = some (.slice Ao9 t265.length co9) ∧ w'.cell? ⟨gb277, 1, none⟩ = some (.int .i64 t268) ∧ w'.cell? ⟨gb277, 2, none⟩ = some (.bool t269) ∧ w'.cell? ⟨gb277, 3, none⟩ = some (.slice Ao11 t270.length co11) ∧ w'.cell? ⟨gb277, 4, none⟩ = some (.slice Ao12 t273.length co12)) ∧ (Kd.R k25 25 w' w.heap.size (fun k_ => nb k_ (v288) ∧ nb k_ (s_.2) ∧ nb k_ (.slice Ao9 t265.length co9) ∧ nb k_ (.slice Ao11 t270.length co11) ∧ nb k_ (.slice Ao12 t273.length co12)) (.slice Ao30 y283.length co30) y283) ∧ (Kd.R k25 25 w' w.heap.size (fun k_ => nb k_ (.slice Ao30 y283.length co30) ∧ nb k_ (s_.2) ∧ nb k_ (.slice Ao9 t265.length co9) ∧ nb k_ (.slice Ao11 t270.length co11) ∧ nb k_ (.slice Ao12 t273.length co12)) v288 t287) ∧ (Kd.R k25 25 w' w.heap.size (fun k_ => nb k_ (.slice Ao30 y283.length co30) ∧ nb k_ (v288) ∧ nb k_ (.slice Ao9 t265.length co9) ∧ nb k_ (.slice Ao11 t270.length co11) ∧ nb k_ (.slice Ao12 t273.length co12)) s_.2 y294) ∧ (Kd.R k25 25 w' w.heap.size (fun k_ => nb k_ (.slice Ao30 y283.length co30) ∧ nb k_ (v288) ∧ nb k_ (s_.2) ∧ nb k_ (.slice Ao11 t270.length co11) ∧ nb k_ (.slice Ao12 t273.length co12)) (.slice Ao9 t265.length co9) t265) ∧ (Kd.R k25 25 w' w.heap.size (fun k_ => nb k_ (.slice Ao30 y283.length co30) ∧ nb k_ (v288) ∧ nb k_ (s_.2) ∧ nb k_ (.slice Ao9 t265.length co9) ∧ nb k_ (.slice Ao12 t273.length co12)) (.slice Ao11 t270.length co11) t270) ∧ (Kd.R k25 25 w' w.heap.size (fun k_ => nb k_ (.slice Ao30 y283.length co30) ∧ nb k_ (v288) ∧ nb k_ (s_.2) ∧ nb k_ (.slice Ao9 t265.length co9) ∧ nb k_ (.slice Ao11 t270.length co11)) (.slice Ao12 t273.length co12) t273) ∧ (w'.heap[gb277]? = some (.cells #[.slice Ao9 t265.length co9, .int .i64 t268, .bool t269, .slice Ao11 t270.length co11, .slice Ao12 t273.length co12] 27 (0, 0))) ∧ (w'.heap[gb286]? = some (.cells #[.slice Ao30 y283.length co30, .int .i64 t268, .bool t269, .slice Ao11 t270.length co11, .slice Ao12 t273.length co12] 27 (0, 0))) ∧ (Below w.heap.size w w')) ?_ ?_
         rotate_left
         ·intro hJ4_7
          refine join_ (σ := Value × Value) 5 #[tt,tt,tt,tt,tt,tt,tt,ff,tt,tt,tt,ff,tt,tt,ff,ff,ff] (fun s_ => [(69, s_.1), (75, s_.2)]) (fun s_ w' => (w'.cell? ⟨gb277, 0, none⟩ = some (.slice Ao9 t265.length co9) ∧ w'.cell? ⟨gb277, 1, none⟩ = some (.int .i64 t268) ∧ w'.cell? ⟨gb277, 2, none⟩ = some (.bool t269) ∧ w'.cell? ⟨gb277, 3, none⟩ = some (.slice Ao11 t270.length co11) ∧ w'.cell? ⟨gb277, 4, none⟩ = some (.slice Ao12 t273.length co12)) ∧ (Kd.R k25 25 w' w.heap.size (fun k_ => nb k_ (v288) ∧ nb k_ (s_.1) ∧ nb k_ (s_.2) ∧ nb k_ (.slice Ao9 t265.length co9) ∧ nb k_ (.slice Ao11 t270.length co11) ∧ nb k_ (.slice Ao12 t273.length co12)) (.slice Ao30 y283.length co30) y283) ∧ (Kd.R k25 25 w' w.heap.size (fun k_ => nb k_ (.slice Ao30 y283.length co30) ∧ nb k_ (s_.1) ∧ nb k_ (s_.2) ∧ nb k_ (.slice Ao9 t265.length co9) ∧ nb k_ (.slice Ao11 t270.length co11) ∧ nb k_ (.slice Ao12 t273.length co12)) v288 t287) ∧ (Kd.R k25 25 w' w.heap.size (fun k_ => nb k_ (.slice Ao30 y283.length co30) ∧ nb k_ (v288) ∧ nb k_ (s_.2) ∧ nb k_ (.slice Ao9 t265.length co9) ∧ nb k_ (.slice Ao11 t270.length co11) ∧ nb k_ (.slice Ao12 t273.length co12)) s_.1 y291) ∧ (Kd.R k25 25 w' w.heap.size (fun k_ => nb k_ (.slice Ao30 y283.length co30) ∧ nb k_ (v288) ∧ nb k_ (s_.1) ∧ nb k_ (.slice Ao9 t265.length co9) ∧ nb k_ (.slice Ao11 t270.length co11) ∧ nb k_ (.slice Ao12 t273.length co12)) s_.2 y297) ∧ (Kd.R k25 25 w' w.heap.size (fun k_ => nb k_ (.slice Ao30 y283.length co30) ∧ nb k_ (v288) ∧ nb k_ (s_.1) ∧ nb k_ (s_.2) ∧ nb k_ (.slice Ao11 t270.length co11) ∧ nb k_ (.slice Ao12 t273.length co12)) (.slice Ao9 t265.length co9) t265) ∧ (Kd.R k25 25 w' w.heap.size (fun k_ => nb k_ (.slice Ao30 y283.length co30) ∧ nb k_ (v288) ∧ nb k_ (s_.1) ∧ nb k_ (s_.2) ∧ nb k_ (.slice Ao9 t265.length co9) ∧ nb k_ (.slice Ao12 t273.length co12)) (.slice Ao11 t270.length co11) t270) ∧ (Kd.R k25 25 w' w.heap.size (fun k_ => nb k_ (.slice Ao30 y283.length co30) ∧ nb k_ (v288) ∧ nb k_ (s_.1) ∧ nb k_ (s_.2) ∧ nb k_ (.slice Ao9 t265.length co9) ∧ nb k_ (.slice Ao11 t270.length co11)) (.slice Ao12 t273.length co12) t273) ∧ (w'.heap[gb277]? = some (.cells #[.slice Ao9 t265.length co9, .int .i64 t268, .bool t269, .slice Ao11 t270.length co11, .slice Ao12 t273.length co12] 27 (0, 0))) ∧ (w'.heap[gb286]? = some (.cells #[.slice Ao30 y283.length co30, .int .i64 t268, .bool t269, .slice Ao11 t270.length co11, .slice Ao12 t273.length co12] 27 (0, 0))) ∧ (Below w.heap.size w w')) ?_ ?_
          rotate_left
          ·intro hJ4_10
           refine join_ (σ := Value × Nat) 5 #[tt,tt,tt,tt,tt,tt,tt,ff,tt,tt,ff,ff,tt,tt,ff,tt,ff] (fun s_ => [(69, s_.1), (14, .pointer (some ⟨s_.2, 0, none⟩))]) (fun s_ w' => (w'.cell? ⟨gb277, 0, none⟩ = some (.slice Ao9 t265.length co9) ∧ w'.cell? ⟨gb277, 1, none⟩ = some (.int .i64 t268) ∧ w'.cell? ⟨gb277, 2, none⟩ = some (.bool t269) ∧ w'.cell? ⟨gb277, 3, none⟩ = some (.slice Ao11 t270.length co11) ∧ w'.cell? ⟨gb277, 4, none⟩ = some (.slice Ao12 t273.length co12)) ∧ (Kd.R k25 25 w' w.heap.size (fun k_ => nb k_ (v288) ∧ nb k_ (s_.1) ∧ nb k_ (.slice Ao9 t265.length co9) ∧ nb k_ (.slice Ao11 t270.length co11) ∧ nb k_ (.slice Ao12 t273.length co12)) (.slice Ao30 y283.length co30) y283) ∧ (Kd.R k25 25 w' w.heap.size (fun k_ => nb k_ (.slice Ao30 y283.length co30) ∧ nb k_ (s_.1) ∧ nb k_ (.slice Ao9 t265.length co9) ∧ nb k_ (.slice Ao11 t270.length co11) ∧ nb k_ (.slice Ao12 t273.length co12)) v288 t287) ∧ (Kd.R k25 25 w' w.heap.size (fun k_ => nb k_ (.slice Ao30 y283.length co30) ∧ nb k_ (v288) ∧ nb k_ (.slice Ao9 t265.length co9) ∧ nb k_ (.slice Ao11 t270.length co11) ∧ nb k_ (.slice Ao12 t273.length co12)) s_.1 y291) ∧ (Kd.R k25 25 w' w.heap.size (fun k_ => nb k_ (.slice Ao30 y283.length co30) ∧ nb k_ (v288) ∧ nb k_ (s_.1) ∧ nb k_ (.slice Ao11 t270.length co11) ∧ nb k_ (.slice Ao12 t273.length co12)) (.slice Ao9 t265.length co9) t265) ∧ (Kd.R k25 25 w' w.heap.size (fun k_ => nb k_ (.slice Ao30 y283.length co30) ∧ nb k_ (v288) ∧ nb k_ (s_.1) ∧ nb k_ (.slice Ao9 t265.length co9) ∧ nb k_ (.slice Ao12 t273.length co12)) (.slice Ao11 t270.length co11) t270) ∧ (Kd.R k25 25 w' w.heap.size (fun k_ => nb k_ (.slice Ao30 y283.length co30) ∧ nb k_ (v288) ∧ nb k_ (s_.1) ∧ nb k_ (.slice Ao9 t265.length co9) ∧ nb k_ (.slice Ao11 t270.length co11)) (.slice Ao12 t273.length co12) t273) ∧ (w'.heap[gb277]? = some (.cells #[.slice Ao9 t265.length co9, .int .i64 t268, .bool t269, .slice Ao11 t270.length co11, .slice Ao12 t273.length co12] 27 (0, 0))) ∧ (w'.heap[gb286]? = some (.cells #[.slice Ao30 y283.length co30, .int .i64 t268, .bool t269, .slice Ao11 t270.length co11, .slice Ao12 t273.length co12] 27 (0, 0))) ∧ (w'.heap[s_.2]? = some (.cells #[.slice none 0 0, .int .i64 0, .bool false, .slice none 0 0, .slice none 0 0] 27 (0, 0))) ∧ (w.heap.size ≤ s_.2) ∧ (w.heap.size ≤ s_.2) ∧ (gb277 ≠ s_.2) ∧ (s_.2 ≠ gb277) ∧ (gb286 ≠ s_.2) ∧ (s_.2 ≠ gb286) ∧ (Below w.heap.size w w')) ?_ ?_
           rotate_left
           ·intro hJ4_15
            refine join_ (σ := Value × Nat) 5 #[tt,tt,tt,tt,ff,tt,tt,ff,tt,tt,tt,ff,tt,tt,ff,tt,ff] (fun s_ => [(75, s_.1), (14, .pointer (some ⟨s_.2, 0, none⟩))]) (fun s_ w' => (w'.cell? ⟨gb277, 0, none⟩ = some (.slice Ao9 t265.length co9) ∧ w'.cell? ⟨gb277, 1, none⟩ = some (.int .i64 t268) ∧ w'.cell? ⟨gb277, 2, none⟩ = some (.bool t269) ∧ w'.cell? ⟨gb277, 3, none⟩ = some (.slice Ao11 t270.length co11) ∧ w'.cell? ⟨gb277, 4, none⟩ = some (.slice Ao12 t273.length co12)) ∧ (Kd.R k25 25 w' w.heap.size (fun k_ => nb k_ (v288) ∧ nb k_ (s_.1) ∧ nb k_ (.slice Ao9 t265.length co9) ∧ nb k_ (.slice Ao11 t270.length co11) ∧ nb k_ (.slice Ao12 t273.length co12)) (.slice Ao30 y283.length co30) y283) ∧ (Kd.R k25 25 w' w.heap.size (fun k_ => nb k_ (.slice Ao30 y283.length co30) ∧ nb k_ (s_.1) ∧ nb k_ (.slice Ao9 t265.length co9) ∧ nb k_ (.slice Ao11 t270.length co11) ∧ nb k_ (.slice Ao12 t273.length co12)) v288 t287) ∧ (Kd.R k25 25 w' w.heap.size (fun k_ => nb k_ (.slice Ao30 y283.length co30) ∧ nb k_ (v288) ∧ nb k_ (.slice Ao9 t265.length co9) ∧ nb k_ (.slice Ao11 t270.length co11) ∧ nb k_ (.slice Ao12 t273.length co12)) s_.1 y297) ∧ (Kd.R k25 25 w' w.heap.size (fun k_ => nb k_ (.slice Ao30 y283.length co30) ∧ nb k_ (v288) ∧ nb k_ (s_.1) ∧ nb k_ (.slice Ao11 t270.length co11) ∧ nb k_ (.slice Ao12 t273.length co12)) (.slice Ao9 t265.length co9) t265) ∧ (Kd.R k25 25 w' w.heap.size (fun k_ => nb k_ (.slice Ao30 y283.length co30) ∧ nb k_ (v288) ∧ nb k_ (s_.1) ∧ nb k_ (.slice Ao9 t265.length co9) ∧ nb k_ (.slice Ao12 t273.length co12)) (.slice Ao11 t270.length co11) t270) ∧ (Kd.R k25 25 w' w.heap.size (fun k_ => nb k_ (.slice Ao30 y283.length co30) ∧ nb k_ (v288) ∧ nb k_ (s_.1) ∧ nb k_ (.slice Ao9 t265.length co9) ∧ nb k_ (.slice Ao11 t270.length co11)) (.slice Ao12 t273.length co12) t273) ∧ (w'.heap[gb277]? = some (.cells #[.slice Ao9 t265.length co9, .int .i64 t268, .bool t269, .slice Ao11 t270.length co11, .slice Ao12 t273.length co12] 27 (0, 0))) ∧ (w'.heap[gb286]? = some (.cells #[.slice Ao30 y283.length co30, .int .i64 t268, .bool t269, .slice Ao11 t270.length co11, .slice Ao12 t273.length co12] 27 (0, 0))) ∧ (w'.heap[s_.2]? = some (.cells #[.slice none 0 0, .int .i64 0, .bool false, .slice none 0 0, .slice none 0 0] 27 (0, 0))) ∧ (w.heap.size ≤ s_.2) ∧ (w.heap.size ≤ s_.2) ∧ (gb277 ≠ s_.2) ∧ (s_.2 ≠ gb277) ∧ (gb286 ≠ s_.2) ∧ (s_.2 ≠ gb286) ∧ (Below w.heap.size w w')) ?_ ?_
            rotate_left
            ·intro hJ10_15
             refine join_ (σ := Value) 6 #[tt,tt,tt,tt,tt,tt,tt,ff,tt,tt,ff,ff,tt,tt,ff,ff,ff] (fun s_ => [(69, s_)]) (fun s_ w' => (w'.cell? ⟨gb277, 0, none⟩ = some (.slice Ao9 t265.length co9) ∧ w'.cell? ⟨gb277, 1, none⟩ = some (.int .i64 t268) ∧ w'.cell? ⟨gb277, 2, none⟩ = some (.bool t269) ∧ w'.cell? ⟨gb277, 3, none⟩ = some (.slice Ao11 t270.length co11) ∧ w'.cell? ⟨gb277, 4, none⟩ = some (.slice Ao12 t273.length co12)) ∧ (Kd.R k25 25 w' w.heap.size (fun k_ => nb k_ (v288) ∧ nb k_ (s_) ∧ nb k_ (.slice Ao9 t265.length co9) ∧ nb k_ (.slice Ao11 t270.length co11) ∧ nb k_ (.slice Ao12 t273.length co12)) (.slice Ao30 y283.length co30) y283) ∧ (Kd.R k25 25 w' w.heap.size (fun k_ => nb k_ (.slice Ao30 y283.length co30) ∧ nb k_ (s_) ∧ nb k_ (.slice Ao9 t265.length co9) ∧ nb k_ (.slice Ao11 t270.length co11) ∧ nb k_ (.slice Ao12 t273.length co12)) v288 t287) ∧ (Kd.R k25 25 w' w.heap.size (fun k_ => nb k_ (.slice Ao30 y283.length co30) ∧ nb k_ (v288) ∧ nb k_ (.slice Ao9 t265.length co9) ∧ nb k_ (.slice Ao11 t270.length co11) ∧ nb k_ (.slice Ao12 t273.length co12)) s_ y291) ∧ (Kd.R k25 25 w' w.heap.size (fun k_ => nb k_ (.slice Ao30 y283.length co30) ∧ nb k_ (v288) ∧ nb k_ (s_) ∧ nb k_ (.slice Ao11 t270.length co11) ∧ nb k_ (.slice Ao12 t273.length co12)) (.slice Ao9 t265.length co9) t265) ∧ (Kd.R k25 25 w' w.heap.size (fun k_ => nb k_ (.slice Ao30 y283.length co30) ∧ nb k_ (v288) ∧ nb k_ (s_) ∧ nb k_ (.slice Ao9 t265.length co9) ∧ nb k_ (.slice Ao12 t273.length co12)) (.slice Ao11 t270.length co11) t270) ∧ (Kd.R k25 25 w' w.heap.size (fun k_ => nb k_ (.slice Ao30 y283.length co30) ∧ nb k_ (v288) ∧ nb k_ (s_) ∧ nb k_ (.slice Ao9 t265.length co9) ∧ nb k_ (.slice Ao11 t270.length co11)) (.slice Ao12 t273.length co12) t273) ∧ (w'.heap[gb277]? = some (.cells #[.slice Ao9 t265.length co9, .int .i64 t268, .bool t269, .slice Ao11 t270.length co11, .slice Ao12 t273.length co12] 27 (0, 0))) ∧ (w'.heap[gb286]? = some (.cells #[.slice Ao30 y283.length co30, .int .i64 t268, .bool t269, .slice Ao11 t270.length co11, .slice Ao12 t273.length co12] 27 (0, 0))) ∧ (Below w.heap.size w w')) ?_ ?_
             rotate_left
             ·intro hJ4
              refine join_ (σ := Value) 6 #[tt,tt,tt,tt,ff,tt,tt,ff,tt,tt,tt,ff,tt,tt,ff,ff,ff] (fun s_ => [(75, s_)]) (fun s_ w' => (w'.cell? ⟨gb277, 0, none⟩ = some (.slice Ao9 t265.length co9) ∧ w'.cell? ⟨gb277, 1, none⟩ = some (.int .i64 t268) ∧ w'.cell? ⟨gb277, 2, none⟩ = some (.bool t269) ∧ w'.cell? ⟨gb277, 3, none⟩ = some (.slice Ao11 t270.length co11) ∧ w'.cell? ⟨gb277, 4, none⟩ = some (.slice Ao12 t273.length co12)) ∧ (Kd.R k25 25 w' w.heap.size (fun k_ => nb k_ (v288) ∧ nb k_ (s_) ∧ nb k_ (.slice Ao9 t265.length co9) ∧ nb k_ (.slice Ao11 t270.length co11) ∧ nb k_ (.slice Ao12 t273.length co12)) (.slice Ao30 y283.length co30) y283) ∧ (Kd.R k25 25 w' w.heap.size (fun k_ => nb k_ (.slice Ao30 y283.length co30) ∧ nb k_ (s_) ∧ nb k_ (.slice Ao9 t265.length co9) ∧ nb k_ (.slice Ao11 t270.length co11) ∧ nb k_ (.slice Ao12 t273.length co12)) v288 t287) ∧ (Kd.R k25 25 w' w.heap.size (fun k_ => nb k_ (.slice Ao30 y283.length co30) ∧ nb k_ (v288) ∧ nb k_ (.slice Ao9 t265.length co9) ∧ nb k_ (.slice Ao11 t270.length co11) ∧ nb k_ (.slice Ao12 t273.length co12)) s_ y297) ∧ (Kd.R k25 25 w' w.heap.size (fun k_ => nb k_ (.slice Ao30 y283.length co30) ∧ nb k_ (v288) ∧ nb k_ (s_) ∧ nb k_ (.slice Ao11 t270.length co11) ∧ nb k_ (.slice Ao12 t273.length co12)) (.slice Ao9 t265.length co9) t265) ∧ (Kd.R k25 25 w' w.heap.size (fun k_ => nb k_ (.slice Ao30 y283.length co30) ∧ nb k_ (v288) ∧ nb k_ (s_) ∧ nb k_ (.slice Ao9 t265.length co9) ∧ nb k_ (.slice Ao12 t273.length co12)) (.slice Ao11 t270.length co11) t270) ∧ (Kd.R k25 25 w' w.heap.size (fun k_ => nb k_ (.slice Ao30 y283.length co30) ∧ nb k_ (v288) ∧ nb k_ (s_) ∧ nb k_ (.slice Ao9 t265.length co9) ∧ nb k_ (.slice Ao11 t270.length co11)) (.slice Ao12 t273.length co12) t273) ∧ (w'.heap[gb277]? = some (.cells #[.slice Ao9 t265.length co9, .int .i64 t268, .bool t269, .slice Ao11 t270.length co11, .slice Ao12 t273.length co12] 27 (0, 0))) ∧ (w'.heap[gb286]? = some (.cells #[.slice Ao30 y283.length co30, .int .i64 t268, .bool t269, .slice Ao11 t270.length co11, .slice Ao12 t273.length co12] 27 (0, 0))) ∧ (Below w.heap.size w w')) ?_ ?_
              rotate_left
              ·intro hJ10
               refine join_ (σ := Nat) 6 #[tt,tt,tt,tt,ff,tt,tt,ff,tt,tt,ff,ff,tt,tt,ff,tt,ff] (fun s_ => [(14, .pointer (some ⟨s_, 0, none⟩))]) (fun s_ w' => (w'.cell? ⟨gb277, 0, none⟩ = some (.slice Ao9 t265.length co9) ∧ w'.cell? ⟨gb277, 1, none⟩ = some (.int .i64 t268) ∧ w'.cell? ⟨gb277, 2, none⟩ = some (.bool t269) ∧ w'.cell? ⟨gb277, 3, none⟩ = some (.slice Ao11 t270.length co11) ∧ w'.cell? ⟨gb277, 4, none⟩ = some (.slice Ao12 t273.length co12)) ∧ (Kd.R k25 25 w' w.heap.size (fun k_ => nb k_ (v288) ∧ nb k_ (.slice Ao9 t265.length co9) ∧ nb k_ (.slice Ao11 t270.length co11) ∧ nb k_ (.slice Ao12 t273.length co12)) (.slice Ao30 y283.length co30) y283) ∧ (Kd.R k25 25 w' w.heap.size (fun k_ => nb k_ (.slice Ao30 y283.length co30) ∧ nb k_ (.slice Ao9 t265.length co9) ∧ nb k_ (.slice Ao11 t270.length co11) ∧ nb k_ (.slice Ao12 t273.length co12)) v288 t287) ∧ (Kd.R k25 25 w' w.heap.size (fun k_ => nb k_ (.slice Ao30 y283.length co30) ∧ nb k_ (v288) ∧ nb k_ (.slice Ao11 t270.length co11) ∧ nb k_ (.slice Ao12 t273.length co12)) (.slice Ao9 t265.length co9) t265) ∧ (Kd.R k25 25 w' w.heap.size (fun k_ => nb k_ (.slice Ao30 y283.length co30) ∧ nb k_ (v288) ∧ nb k_ (.slice Ao9 t265.length co9) ∧ nb k_ (.slice Ao12 t273.length co12)) (.slice Ao11 t270.length co11) t270) ∧ (Kd.R k25 25 w' w.heap.size (fun k_ => nb k_ (.slice Ao30 y283.length co30) ∧ nb k_ (v288) ∧ nb k_ (.slice Ao9 t265.length co9) ∧ nb k_ (.slice Ao11 t270.length co11)) (.slice Ao12 t273.length co12) t273) ∧ (w'.heap[gb277]? = some (.cells #[.slice Ao9 t265.length co9, .int .i64 t268, .bool t269, .slice Ao11 t270.length co11, .slice Ao12 t273.length co12] 27 (0, 0))) ∧ (w'.heap[gb286]? = some (.cells #[.slice Ao30 y283.length co30, .int .i64 t268, .bool t269, .slice Ao11 t270.length co11, .slice Ao12 t273.length co12] 27 (0, 0))) ∧ (w'.heap[s_]? = some (.cells #[.slice none 0 0, .int .i64 0, .bool false, .slice none 0 0, .slice none 0 0] 27 (0, 0))) ∧ (w.heap.size ≤ s_) ∧ (w.heap.size ≤ s_) ∧ (gb277 ≠ s_) ∧ (s_ ≠ gb277) ∧ (gb286 ≠ s_) ∧ (s_ ≠ gb286) ∧ (Below w.heap.size w w')) ?_ ?_
               rotate_left
               ·intro hJ15
                refine three_ (i := 4) (j := 10) (k := 15) (Ni := some 69) (Nj := some 75) (Nk := some 14) #[tt,tt,tt,tt,tt,tt,tt,ff,tt,tt,ff,ff,tt,tt,ff,ff,ff] #[tt,tt,tt,tt,ff,tt,tt,ff,tt,tt,tt,ff,tt,tt,ff,ff,ff] #[tt,tt,tt,tt,ff,tt,tt,ff,tt,tt,ff,ff,tt,tt,ff,tt,ff] rfl rfl rfl rfl rfl rfl (three_of HT_.out (by kernel_rfl)) (by decide) (by decide) (by decide) (fun K hK => ?_) (fun K hK => ?_) (fun K hK => ?_)
                ·skip
                 refine Kd.R_lit_step k25 _ 25 ?hg (N := 69) ?hd (xs := ([] : List (S25))) (inner := []) (ok := fun _ => True) (okp := fun _ => True) ?hr ?hp (fun _ hk => hk) trivial (Below.refl _ _) (Nat.le_refl _) (by simp) ?_; (case hd => rfl); (case hg => rfl); (case hr => first | (go_simp; done) | (go_simp; rfl)); (case hp => exact (Reps.none _ _))
                 intro v292 w37 ho38 hb hg_ hnew_
                 clear hg_ hnew_
                 (first | rw [← Ny291.out] at ho38 | (simp only [Int.reduceToNat] at ho38; rw [← Ny291.out] at ho38))
                 have n0_ := Q0_ (Kd.R_elder' (upR HO_278000) (Kd.R_base ho38) hb)
                 have n1_ := Q0_ (Kd.R_elder' (upR HO_278003) (Kd.R_base ho38) hb)
                 have n2_ := Q0_ (Kd.R_elder' (upR HO_278004) (Kd.R_base ho38) hb)
                 have n3_ := Q0_ (Kd.R_elder' (upR HO285) (Kd.R_base ho38) hb)
                 have n4_ := Q0_ (Kd.R_elder' (upR HO289) (Kd.R_base ho38) hb)
                 have n5_ := Q0_ (Kd.R_lower (Kd.R_new' (Kd.R_new' (Kd.R_new' (Kd.R_new' (Kd.R_new' ho38 (Kd.R_lt (upR HO_278000))) (Kd.R_lt (upR HO_278003))) (Kd.R_lt (upR HO_278004))) (Kd.R_lt (upR HO285))) (Kd.R_lt (upR HO289))) (below_size upH))
                 have n6_ := Q0_ (blk_below (upK BK277) hb)
                 have n7_ := Q0_ (blk_below (upK BK286) hb)
                 have n8_ := Q0_ (below_step upH hb)
                 clear HO_278000 HO_278003 HO_278004 HO285 HO289 BK277 BK286 HB; revert n0_ n1_ n2_ n3_ n4_ n5_ n6_ n7_ n8_; intro HO_278000 HO_278003 HO_278004 HO285 HO289 HO293 BK277 BK286 HB
                 clear hb ho38
                 refine hK.out _ _ ⟨(blk_cell BK277.out 0).trans rfl, (blk_cell BK277.out 1).trans rfl, (blk_cell BK277.out 2).trans rfl, (blk_cell BK277.out 3).trans rfl, (blk_cell BK277.out 4).trans rfl⟩ (fun hHeld => ?_)
                 clear hK K
                 refine norm_ (a' := ?_) ?_ ?_
                 rotate_left
                 ·show Act.put _ (some 69) _ = _
                  simp only [Act.put, sI, s0, sS, i64_w, i32_w]
                  rfl
                 exact norm_ (by first | (simp only [putAll, Act.put, sI, s0, sS]; done) | (simp only [putAll, Act.put, sI, s0, sS]; rfl)) (hJ4 (v292) _ ⟨hHeld, (upR' (Kd.R_mono HO285.out (fun _ hk => ⟨hk.1.2, ⟨hk.2, ⟨hk.1.1.1.1.2, ⟨hk.1.1.1.2, hk.1.1.2⟩⟩⟩⟩))), (upR' (Kd.R_mono HO289.out (fun _ hk => ⟨hk.1.2, ⟨hk.2, ⟨hk.1.1.1.1.2, ⟨hk.1.1.1.2, hk.1.1.2⟩⟩⟩⟩))), (upR' (Kd.R_mono HO293.out (fun _ hk => ⟨hk.1.2, ⟨hk.2, ⟨hk.1.1.1.1.2, ⟨hk.1.1.1.2, hk.1.1.2⟩⟩⟩⟩))), (upR' (Kd.R_mono HO_278000.out (fun _ hk => ⟨hk.1.1.2, ⟨hk.1.2, ⟨hk.2, ⟨hk.1.1.1.1, hk.1.1.1.2⟩⟩⟩⟩))), (upR' (Kd.R_mono HO_278003.out (fun _ hk => ⟨hk.1.1.2, ⟨hk.1.2, ⟨hk.2, ⟨hk.1.1.1.1, hk.1.1.1.2⟩⟩⟩⟩))), (upR' (Kd.R_mono HO_278004.out (fun _ hk => ⟨hk.1.1.2, ⟨hk.1.2, ⟨hk.2, ⟨hk.1.1.1.1, hk.1.1.1.2⟩⟩⟩⟩))), (upK BK277), (upK BK286), upH⟩)
                ·skip
                 refine Kd.R_lit_step k25 _ 25 ?hg (N := 75) ?hd (xs := ([(⟨t268, t269⟩ : S25)] : List (S25))) (inner := [.int .i64 t268, .bool t269]) (ok := fun _ => True) (okp := fun _ => True) ?hr ?hp (fun _ hk => hk) trivial (Below.refl _ _) (Nat.le_refl _) (by simp) ?_; (case hd => rfl); (case hg => rfl); (case hr => first | (go_simp; done) | (go_simp; rfl)); (case hp => exact (Reps.c2 (show Kd.M k25 _ _ _ (⟨t268, t269⟩ : S25) [.int .i64 t268, .bool t269] from (k25_mkM _ _ _ (⟨t268, t269⟩ : S25) )) (Reps.none _ _)))
                 intro v298 w37 ho38 hb hg_ hnew_
                 clear hg_ hnew_
                 (first | rw [← Ny297.out] at ho38 | (simp only [Int.reduceToNat] at ho38; rw [← Ny297.out] at ho38))
                 have n0_ := Q0_ (Kd.R_elder' (upR HO_278000) (Kd.R_base ho38) hb)
                 have n1_ := Q0_ (Kd.R_elder' (upR HO_278003) (Kd.R_base ho38) hb)
                 have n2_ := Q0_ (Kd.R_elder' (upR HO_278004) (Kd.R_base ho38) hb)
                 have n3_ := Q0_ (Kd.R_elder' (upR HO285) (Kd.R_base ho38) hb)
                 have n4_ := Q0_ (Kd.R_elder' (upR HO289) (Kd.R_base ho38) hb)
                 have n5_ := Q0_ (Kd.R_lower (Kd.R_new' (Kd.R_new' (Kd.R_new' (Kd.R_new' (Kd.R_new' ho38 (Kd.R_lt (upR HO_278000))) (Kd.R_lt (upR HO_278003))) (Kd.R_lt (upR HO_278004))) (Kd.R_lt (upR HO285))) (Kd.R_lt (upR HO289))) (below_size upH))
                 have n6_ := Q0_ (blk_below (upK BK277) hb)
                 have n7_ := Q0_ (blk_below (upK BK286) hb)
                 have n8_ := Q0_ (below_step upH hb)
                 clear HO_278000 HO_278003 HO_278004 HO285 HO289 BK277 BK286 HB; revert n0_ n1_ n2_ n3_ n4_ n5_ n6_ n7_ n8_; intro HO_278000 HO_278003 HO_278004 HO285 HO289 HO299 BK277 BK286 HB
                 clear hb ho38
                 refine hK.out _ _ ⟨(blk_cell BK277.out 0).trans rfl, (blk_cell BK277.out 1).trans rfl, (blk_cell BK277.out 2).trans rfl, (blk_cell BK277.out 3).trans rfl, (blk_cell BK277.out 4).trans rfl⟩ (fun hHeld => ?_)
                 clear hK K
                 refine norm_ (a' := ?_) ?_ ?_
                 rotate_left
                 ·show Act.put _ (some 75) _ = _
                  simp only [Act.put, sI, s0, sS, i64_w, i32_w]
                  rfl
                 exact norm_ (by first | (simp only [putAll, Act.put, sI, s0, sS]; done) | (simp only [putAll, Act.put, sI, s0, sS]; rfl)) (hJ10 (v298) _ ⟨hHeld, (upR' (Kd.R_mono HO285.out (fun _ hk => ⟨hk.1.2, ⟨hk.2, ⟨hk.1.1.1.1.2, ⟨hk.1.1.1.2, hk.1.1.2⟩⟩⟩⟩))), (upR' (Kd.R_mono HO289.out (fun _ hk => ⟨hk.1.2, ⟨hk.2, ⟨hk.1.1.1.1.2, ⟨hk.1.1.1.2, hk.1.1.2⟩⟩⟩⟩))), (upR' (Kd.R_mono HO299.out (fun _ hk => ⟨hk.1.2, ⟨hk.2, ⟨hk.1.1.1.1.2, ⟨hk.1.1.1.2, hk.1.1.2⟩⟩⟩⟩))), (upR' (Kd.R_mono HO_278000.out (fun _ hk => ⟨hk.1.1.2, ⟨hk.1.2, ⟨hk.2, ⟨hk.1.1.1.1, hk.1.1.1.2⟩⟩⟩⟩))), (upR' (Kd.R_mono HO_278003.out (fun _ hk => ⟨hk.1.1.2, ⟨hk.1.2, ⟨hk.2, ⟨hk.1.1.1.1, hk.1.1.1.2⟩⟩⟩⟩))), (upR' (Kd.R_mono HO_278004.out (fun _ hk => ⟨hk.1.1.2, ⟨hk.1.2, ⟨hk.2, ⟨hk.1.1.1.1, hk.1.1.1.2⟩⟩⟩⟩))), (upK BK277), (upK BK286), upH⟩)
                ·skip
                 refine box_step ?hg (N := 14) ?hd (cs := #[.slice none 0 0, .int .i64 0, .bool false, .slice none 0 0, .slice none 0 0]) (t := 27) ?hr ?_; (case hd => rfl); (case hg => rfl); (case hr => first | (go_simp; done) | (go_simp; rfl))
                 intro gb303 hg w37 hbox hb
                 have n0_ := Q0_ (Kd.R_below (upR HO_278000) hb)
                 have n1_ := Q0_ (Kd.R_below (upR HO_278003) hb)
                 have n2_ := Q0_ (Kd.R_below (upR HO_278004) hb)
                 have n3_ := Q0_ (Kd.R_below (upR HO285) hb)
                 have n4_ := Q0_ (Kd.R_below (upR HO289) hb)
                 have n5_ := Q0_ (blk_below (upK BK277) hb)
                 have n6_ := Q0_ (blk_below (upK BK286) hb)
                 have n7_ := Q0_ (below_step upH hb)
                 have n8_ := Q0_ (hbox)
                 have n9_ := Q0_ ((by rw [hg]; exact (below_size upH) : w.heap.size ≤ gb303))
                 have n10_ := Q0_ ((by rw [hg]; exact (below_size upH) : w.heap.size ≤ gb303))
                 have n11_ := Q0_ ((by rw [hg]; exact Nat.ne_of_lt (blk_lt (upK BK277)) : gb277 ≠ gb303))
                 have n12_ := Q0_ ((by rw [hg]; exact Nat.ne_of_gt (blk_lt (upK BK277)) : gb303 ≠ gb277))
                 have n13_ := Q0_ ((by rw [hg]; exact Nat.ne_of_lt (blk_lt (upK BK286)) : gb286 ≠ gb303))
                 have n14_ := Q0_ ((by rw [hg]; exact Nat.ne_of_gt (blk_lt (upK BK286)) : gb303 ≠ gb286))
                 clear HO_278000 HO_278003 HO_278004 HO285 HO289 BK277 BK286 HB; revert n0_ n1_ n2_ n3_ n4_ n5_ n6_ n7_ n8_ n9_ n10_ n11_ n12_ n13_ n14_; intro HO_278000 HO_278003 HO_278004 HO285 HO289 BK277 BK286 HB BK303 GW303 GE303 NB277_303 NB303_277 NB286_303 NB303_286
                 clear hb hbox hg
                 refine hK.out _ _ ⟨(blk_cell BK277.out 0).trans rfl, (blk_cell BK277.out 1).trans rfl, (blk_cell BK277.out 2).trans rfl, (blk_cell BK277.out 3).trans rfl, (blk_cell BK277.out 4).trans rfl⟩ (fun hHeld => ?_)
                 clear hK K
                 refine norm_ (a' := ?_) ?_ ?_
                 rotate_left
                 ·show Act.put _ (some 14) _ = _
                  simp only [Act.put, sI, s0, sS, i64_w, i32_w]
                  rfl
                 exact norm_ (by first | (simp only [putAll, Act.put, sI, s0, sS]; done) | (simp only [putAll, Act.put, sI, s0, sS]; rfl)) (hJ15 (gb303) _ ⟨hHeld, (upR' (Kd.R_mono HO285.out (fun _ hk => ⟨hk.2, ⟨hk.1.1.1.2, ⟨hk.1.1.2, hk.1.2⟩⟩⟩))), (upR' (Kd.R_mono HO289.out (fun _ hk => ⟨hk.2, ⟨hk.1.1.1.2, ⟨hk.1.1.2, hk.1.2⟩⟩⟩))), (upR' (Kd.R_mono HO_278000.out (fun _ hk => ⟨hk.1.2, ⟨hk.2, ⟨hk.1.1.1, hk.1.1.2⟩⟩⟩))), (upR' (Kd.R_mono HO_278003.out (fun _ hk => ⟨hk.1.2, ⟨hk.2, ⟨hk.1.1.1, hk.1.1.2⟩⟩⟩))), (upR' (Kd.R_mono HO_278004.out (fun _ hk => ⟨hk.1.2, ⟨hk.2, ⟨hk.1.1.1, hk.1.1.2⟩⟩⟩))), (upK BK277), (upK BK286), (upK BK303), GW303.out, GE303.out, NB277_303.out, NB303_277.out, NB286_303.out, NB303_286.out, upH⟩)
               ·skip
                rintro gb303 w38 ⟨hS_, h0_, h1_, h2_, h3_, h4_, h5_, h6_, h7_, h8_, h9_, h10_, h11_, h12_, h13_, h14_⟩
                try dsimp only at h0_ h1_ h2_ h3_ h4_ h5_ h6_ h7_ h8_ h9_ h10_ h11_ h12_ h13_ h14_
                have n0_ := Q0_ h0_
                have n1_ := Q0_ h1_
                have n2_ := Q0_ h2_
                have n3_ := Q0_ h3_
                have n4_ := Q0_ h4_
                have n5_ := Q0_ h5_
                have n6_ := Q0_ h6_
                have n7_ := Q0_ h7_
                have n8_ := Q0_ h8_
                have n9_ := Q0_ h9_
                have n10_ := Q0_ h10_
                have n11_ := Q0_ h11_
                have n12_ := Q0_ h12_
                have n13_ := Q0_ h13_
                have n14_ := Q0_ h14_
                clear HO_278000
                clear HO_278003
                clear HO_278004
                clear HO285
                clear HO289
                clear BK277
                clear BK286
                clear HB
                clear h0_ h1_ h2_ h3_ h4_ h5_ h6_ h7_ h8_ h9_ h10_ h11_ h12_ h13_ h14_
                have HO285 := n0_
                have HO289 := n1_
                have HO_278000 := n2_
                have HO_278003 := n3_
                have HO_278004 := n4_
                have BK277 := n5_
                have BK286 := n6_
                have BK303 := n7_
                have GW303 := n8_
                have GE303 := n9_
                have NB277_303 := n10_
                have NB303_277 := n11_
                have NB286_303 := n12_
                have NB303_286 := n13_
                have HB := n14_
                clear n0_ n1_ n2_ n3_ n4_ n5_ n6_ n7_ n8_ n9_ n10_ n11_ n12_ n13_ n14_
                have hHeld : w38.cell? ⟨gb277, 0, none⟩ = some (.slice Ao9 t265.length co9) ∧ w38.cell? ⟨gb277, 1, none⟩ = some (.int .i64 t268) ∧ w38.cell? ⟨gb277, 2, none⟩ = some (.bool t269) ∧ w38.cell? ⟨gb277, 3, none⟩ = some (.slice Ao11 t270.length co11) ∧ w38.cell? ⟨gb277, 4, none⟩ = some (.slice Ao12 t273.length co12) := hS_
                refine norm_ (a' := ?_) ?_ ?_
                rotate_left
                ·simp only [putAll, Act.put, sI, s0, sS]
                 rfl
                refine two_ (i := 4) (j := 10) (Ni := some 69) (Nj := some 75) #[tt,tt,tt,tt,tt,tt,tt,ff,tt,tt,ff,ff,tt,tt,ff,tt,ff] #[tt,tt,tt,tt,ff,tt,tt,ff,tt,tt,tt,ff,tt,tt,ff,tt,ff] rfl rfl rfl rfl (two_of HT_.out (by kernel_rfl)) (by decide) (by decide) (fun K hK => ?_) (fun K hK => ?_)
                ·skip
                 refine Kd.R_lit_step k25 _ 25 ?hg (N := 69) ?hd (xs := ([] : List (S25))) (inner := []) (ok := fun _ => True) (okp := fun _ => True) ?hr ?hp (fun _ hk => hk) trivial (Below.refl _ _) (Nat.le_refl _) (by simp) ?_; (case hd => rfl); (case hg => rfl); (case hr => first | (go_simp; done) | (go_simp; rfl)); (case hp => exact (Reps.none _ _))
                 intro v292 w39 ho40 hb hg_ hnew_
                 clear hg_ hnew_
                 (first | rw [← Ny291.out] at ho40 | (simp only [Int.reduceToNat] at ho40; rw [← Ny291.out] at ho40))
                 have n0_ := Q0_ (Kd.R_elder' (upR HO_278000) (Kd.R_base ho40) hb)
                 have n1_ := Q0_ (Kd.R_elder' (upR HO_278003) (Kd.R_base ho40) hb)
                 have n2_ := Q0_ (Kd.R_elder' (upR HO_278004) (Kd.R_base ho40) hb)
                 have n3_ := Q0_ (Kd.R_elder' (upR HO285) (Kd.R_base ho40) hb)
                 have n4_ := Q0_ (Kd.R_elder' (upR HO289) (Kd.R_base ho40) hb)
                 have n5_ := Q0_ (Kd.R_lower (Kd.R_new' (Kd.R_new' (Kd.R_new' (Kd.R_new' (Kd.R_new' ho40 (Kd.R_lt (upR HO_278000))) (Kd.R_lt (upR HO_278003))) (Kd.R_lt (upR HO_278004))) (Kd.R_lt (upR HO285))) (Kd.R_lt (upR HO289))) (below_size upH))
                 have n6_ := Q0_ (blk_below (upK BK277) hb)
                 have n7_ := Q0_ (blk_below (upK BK286) hb)
                 have n8_ := Q0_ (blk_below (upK BK303) hb)
                 have n9_ := Q0_ (below_step upH hb)
                 clear HO_278000 HO_278003 HO_278004 HO285 HO289 BK277 BK286 BK303 HB; revert n0_ n1_ n2_ n3_ n4_ n5_ n6_ n7_ n8_ n9_; intro HO_278000 HO_278003 HO_278004 HO285 HO289 HO293 BK277 BK286 BK303 HB
                 clear hb ho40
                 refine hK.out _ _ ⟨(blk_cell BK277.out 0).trans rfl, (blk_cell BK277.out 1).trans rfl, (blk_cell BK277.out 2).trans rfl, (blk_cell BK277.out 3).trans rfl, (blk_cell BK277.out 4).trans rfl⟩ (fun hHeld => ?_)
                 clear hK K
                 refine norm_ (a' := ?_) ?_ ?_
                 rotate_left
                 ·show Act.put _ (some 69) _ = _
                  simp only [Act.put, sI, s0, sS, i64_w, i32_w]
                  rfl
                 exact norm_ (by first | (simp only [putAll, Act.put, sI, s0, sS]; done) | (simp only [putAll, Act.put, sI, s0, sS]; rfl)) (hJ4_15 (v292, gb303) _ ⟨hHeld, (upR' (Kd.R_mono HO285.out (fun _ hk => ⟨hk.1.1, ⟨hk.2, ⟨hk.1.2.1, ⟨hk.1.2.2.1, hk.1.2.2.2⟩⟩⟩⟩))), (upR' (Kd.R_mono HO289.out (fun _ hk => ⟨hk.1.1, ⟨hk.2, ⟨hk.1.2.1, ⟨hk.1.2.2.1, hk.1.2.2.2⟩⟩⟩⟩))), (upR' (Kd.R_mono HO293.out (fun _ hk => ⟨hk.1.2, ⟨hk.2, ⟨hk.1.1.1.1.2, ⟨hk.1.1.1.2, hk.1.1.2⟩⟩⟩⟩))), (upR' (Kd.R_mono HO_278000.out (fun _ hk => ⟨hk.1.1, ⟨hk.1.2.1, ⟨hk.2, ⟨hk.1.2.2.1, hk.1.2.2.2⟩⟩⟩⟩))), (upR' (Kd.R_mono HO_278003.out (fun _ hk => ⟨hk.1.1, ⟨hk.1.2.1, ⟨hk.2, ⟨hk.1.2.2.1, hk.1.2.2.2⟩⟩⟩⟩))), (upR' (Kd.R_mono HO_278004.out (fun _ hk => ⟨hk.1.1, ⟨hk.1.2.1, ⟨hk.2, ⟨hk.1.2.2.1, hk.1.2.2.2⟩⟩⟩⟩))), (upK BK277), (upK BK286), (upK BK303), GW303.out, GE303.out, NB277_303.out, NB303_277.out, NB286_303.out, NB303_286.out, upH⟩)
                ·skip
                 refine Kd.R_lit_step k25 _ 25 ?hg (N := 75) ?hd (xs := ([(⟨t268, t269⟩ : S25)] : List (S25))) (inner := [.int .i64 t268, .bool t269]) (ok := fun _ => True) (okp := fun _ => True) ?hr ?hp (fun _ hk => hk) trivial (Below.refl _ _) (Nat.le_refl _) (by simp) ?_; (case hd => rfl); (case hg => rfl); (case hr => first | (go_simp; done) | (go_simp; rfl)); (case hp => exact (Reps.c2 (show Kd.M k25 _ _ _ (⟨t268, t269⟩ : S25) [.int .i64 t268, .bool t269] from (k25_mkM _ _ _ (⟨t268, t269⟩ : S25) )) (Reps.none _ _)))
                 intro v298 w39 ho40 hb hg_ hnew_
                 clear hg_ hnew_
                 (first | rw [← Ny297.out] at ho40 | (simp only [Int.reduceToNat] at ho40; rw [← Ny297.out] at ho40))
                 have n0_ := Q0_ (Kd.R_elder' (upR HO_278000) (Kd.R_base ho40) hb)
                 have n1_ := Q0_ (Kd.R_elder' (upR HO_278003) (Kd.R_base ho40) hb)
                 have n2_ := Q0_ (Kd.R_elder' (upR HO_278004) (Kd.R_base ho40) hb)
                 have n3_ := Q0_ (Kd.R_elder' (upR HO285) (Kd.R_base ho40) hb)
                 have n4_ := Q0_ (Kd.R_elder' (upR HO289) (Kd.R_base ho40) hb)
                 have n5_ := Q0_ (Kd.R_lower (Kd.R_new' (Kd.R_new' (Kd.R_new' (Kd.R_new' (Kd.R_new' ho40 (Kd.R_lt (upR HO_278000))) (Kd.R_lt (upR HO_278003))) (Kd.R_lt (upR HO_278004))) (Kd.R_lt (upR HO285))) (Kd.R_lt (upR HO289))) (below_size upH))
                 have n6_ := Q0_ (blk_below (upK BK277) hb)
                 have n7_ := Q0_ (blk_below (upK BK286) hb)
                 have n8_ := Q0_ (blk_below (upK BK303) hb)
                 have n9_ := Q0_ (below_step upH hb)
                 clear HO_278000 HO_278003 HO_278004 HO285 HO289 BK277 BK286 BK303 HB; revert n0_ n1_ n2_ n3_ n4_ n5_ n6_ n7_ n8_ n9_; intro HO_278000 HO_278003 HO_278004 HO285 HO289 HO299 BK277 BK286 BK303 HB
                 clear hb ho40
                 refine hK.out _ _ ⟨(blk_cell BK277.out 0).trans rfl, (blk_cell BK277.out 1).trans rfl, (blk_cell BK277.out 2).trans rfl, (blk_cell BK277.out 3).trans rfl, (blk_cell BK277.out 4).trans rfl⟩ (fun hHeld => ?_)
                 clear hK K
                 refine norm_ (a' := ?_) ?_ ?_
                 rotate_left
                 ·show Act.put _ (some 75) _ = _
                  simp only [Act.put, sI, s0, sS, i64_w, i32_w]
                  rfl
                 exact norm_ (by first | (simp only [putAll, Act.put, sI, s0, sS]; done) | (simp only [putAll, Act.put, sI, s0, sS]; rfl)) (hJ10_15 (v298, gb303) _ ⟨hHeld, (upR' (Kd.R_mono HO285.out (fun _ hk => ⟨hk.1.1, ⟨hk.2, ⟨hk.1.2.1, ⟨hk.1.2.2.1, hk.1.2.2.2⟩⟩⟩⟩))), (upR' (Kd.R_mono HO289.out (fun _ hk => ⟨hk.1.1, ⟨hk.2, ⟨hk.1.2.1, ⟨hk.1.2.2.1, hk.1.2.2.2⟩⟩⟩⟩))), (upR' (Kd.R_mono HO299.out (fun _ hk => ⟨hk.1.2, ⟨hk.2, ⟨hk.1.1.1.1.2, ⟨hk.1.1.1.2, hk.1.1.2⟩⟩⟩⟩))), (upR' (Kd.R_mono HO_278000.out (fun _ hk => ⟨hk.1.1, ⟨hk.1.2.1, ⟨hk.2, ⟨hk.1.2.2.1, hk.1.2.2.2⟩⟩⟩⟩))), (upR' (Kd.R_mono HO_278003.out (fun _ hk => ⟨hk.1.1, ⟨hk.1.2.1, ⟨hk.2, ⟨hk.1.2.2.1, hk.1.2.2.2⟩⟩⟩⟩))), (upR' (Kd.R_mono HO_278004.out (fun _ hk => ⟨hk.1.1, ⟨hk.1.2.1, ⟨hk.2, ⟨hk.1.2.2.1, hk.1.2.2.2⟩⟩⟩⟩))), (upK BK277), (upK BK286), (upK BK303), GW303.out, GE303.out, NB277_303.out, NB303_277.out, NB286_303.out, NB303_286.out, upH⟩)
              ·skip
               rintro v298 w39 ⟨hS_, h0_, h1_, h2_, h3_, h4_, h5_, h6_, h7_, h8_⟩
               try dsimp only at h0_ h1_ h2_ h3_ h4_ h5_ h6_ h7_ h8_
               have n0_ := Q0_ h0_
               have n1_ := Q0_ h1_
               have n2_ := Q0_ h2_
               have n3_ := Q0_ h3_
               have n4_ := Q0_ h4_
               have n5_ := Q0_ h5_
               have n6_ := Q0_ h6_
               have n7_ := Q0_ h7_
               have n8_ := Q0_ h8_
               clear HO_278000
               clear HO_278003
               clear HO_278004
               clear HO285
               clear HO289
               clear BK277
               clear BK286
               clear HB
               clear h0_ h1_ h2_ h3_ h4_ h5_ h6_ h7_ h8_
               have HO285 := n0_
               have HO289 := n1_
               have HO299 := n2_
               have HO_278000 := n3_
               have HO_278003 := n4_
               have HO_278004 := n5_
               have BK277 := n6_
               have BK286 := n7_
               have HB := n8_
               clear n0_ n1_ n2_ n3_ n4_ n5_ n6_ n7_ n8_
               have hHeld : w39.cell? ⟨gb277, 0, none⟩ = some (.slice Ao9 t265.length co9) ∧ w39.cell? ⟨gb277, 1, none⟩ = some (.int .i64 t268) ∧ w39.cell? ⟨gb277, 2, none⟩ = some (.bool t269) ∧ w39.cell? ⟨gb277, 3, none⟩ = some (.slice Ao11 t270.length co11) ∧ w39.cell? ⟨gb277, 4, none⟩ = some (.slice Ao12 t273.length co12) := hS_
               refine norm_ (a' := ?_) ?_ ?_
               rotate_left
               ·simp only [putAll, Act.put, sI, s0, sS]
                rfl
               refine two_ (i := 4) (j := 15) (Ni := some 69) (Nj := some 14) #[tt,tt,tt,tt,tt,tt,tt,ff,tt,tt,tt,ff,tt,tt,ff,ff,ff] #[tt,tt,tt,tt,ff,tt,tt,ff,tt,tt,tt,ff,tt,tt,ff,tt,ff] rfl rfl rfl rfl (two_of HT_.out (by kernel_rfl)) (by decide) (by decide) (fun K hK => ?_) (fun K hK => ?_)
               ·skip
                refine Kd.R_lit_step k25 _ 25 ?hg (N := 69) ?hd (xs := ([] : List (S25))) (inner := []) (ok := fun _ => True) (okp := fun _ => True) ?hr ?hp (fun _ hk => hk) trivial (Below.refl _ _) (Nat.le_refl _) (by simp) ?_; (case hd => rfl); (case hg => rfl); (case hr => first | (go_simp; done) | (go_simp; rfl)); (case hp => exact (Reps.none _ _))
                intro v292 w40 ho41 hb hg_ hnew_
                clear hg_ hnew_
                (first | rw [← Ny291.out] at ho41 | (simp only [Int.reduceToNat] at ho41; rw [← Ny291.out] at ho41))
                have n0_ := Q0_ (Kd.R_elder' (upR HO_278000) (Kd.R_base ho41) hb)
                have n1_ := Q0_ (Kd.R_elder' (upR HO_278003) (Kd.R_base ho41) hb)
                have n2_ := Q0_ (Kd.R_elder' (upR HO_278004) (Kd.R_base ho41) hb)
                have n3_ := Q0_ (Kd.R_elder' (upR HO285) (Kd.R_base ho41) hb)
                have n4_ := Q0_ (Kd.R_elder' (upR HO289) (Kd.R_base ho41) hb)
                have n5_ := Q0_ (Kd.R_elder' (upR HO299) (Kd.R_base ho41) hb)
                have n6_ := Q0_ (Kd.R_lower (Kd.R_new' (Kd.R_new' (Kd.R_new' (Kd.R_new' (Kd.R_new' (Kd.R_new' ho41 (Kd.R_lt (upR HO_278000))) (Kd.R_lt (upR HO_278003))) (Kd.R_lt (upR HO_278004))) (Kd.R_lt (upR HO285))) (Kd.R_lt (upR HO289))) (Kd.R_lt (upR HO299))) (below_size upH))
                have n7_ := Q0_ (blk_below (upK BK277) hb)
                have n8_ := Q0_ (blk_below (upK BK286) hb)
                have n9_ := Q0_ (below_step upH hb)
                clear HO_278000 HO_278003 HO_278004 HO285 HO289 HO299 BK277 BK286 HB; revert n0_ n1_ n2_ n3_ n4_ n5_ n6_ n7_ n8_ n9_; intro HO_278000 HO_278003 HO_278004 HO285 HO289 HO299 HO293 BK277 BK286 HB
                clear hb ho41
                refine hK.out _ _ ⟨(blk_cell BK277.out 0).trans rfl, (blk_cell BK277.out 1).trans rfl, (blk_cell BK277.out 2).trans rfl, (blk_cell BK277.out 3).trans rfl, (blk_cell BK277.out 4).trans rfl⟩ (fun hHeld => ?_)
                clear hK K
                refine norm_ (a' := ?_) ?_ ?_
                rotate_left
                ·show Act.put _ (some 69) _ = _
                 simp only [Act.put, sI, s0, sS, i64_w, i32_w]
                 rfl
                exact norm_ (by first | (simp only [putAll, Act.put, sI, s0, sS]; done) | (simp only [putAll, Act.put, sI, s0, sS]; rfl)) (hJ4_10 (v292, v298) _ ⟨hHeld, (upR' (Kd.R_mono HO285.out (fun _ hk => ⟨hk.1.1, ⟨hk.2, ⟨hk.1.2.1, ⟨hk.1.2.2.1, ⟨hk.1.2.2.2.1, hk.1.2.2.2.2⟩⟩⟩⟩⟩))), (upR' (Kd.R_mono HO289.out (fun _ hk => ⟨hk.1.1, ⟨hk.2, ⟨hk.1.2.1, ⟨hk.1.2.2.1, ⟨hk.1.2.2.2.1, hk.1.2.2.2.2⟩⟩⟩⟩⟩))), (upR' (Kd.R_mono HO293.out (fun _ hk => ⟨hk.1.1.2, ⟨hk.1.2, ⟨hk.2, ⟨hk.1.1.1.1.1.2, ⟨hk.1.1.1.1.2, hk.1.1.1.2⟩⟩⟩⟩⟩))), (upR' (Kd.R_mono HO299.out (fun _ hk => ⟨hk.1.1, ⟨hk.1.2.1, ⟨hk.2, ⟨hk.1.2.2.1, ⟨hk.1.2.2.2.1, hk.1.2.2.2.2⟩⟩⟩⟩⟩))), (upR' (Kd.R_mono HO_278000.out (fun _ hk => ⟨hk.1.1, ⟨hk.1.2.1, ⟨hk.2, ⟨hk.1.2.2.1, ⟨hk.1.2.2.2.1, hk.1.2.2.2.2⟩⟩⟩⟩⟩))), (upR' (Kd.R_mono HO_278003.out (fun _ hk => ⟨hk.1.1, ⟨hk.1.2.1, ⟨hk.2, ⟨hk.1.2.2.1, ⟨hk.1.2.2.2.1, hk.1.2.2.2.2⟩⟩⟩⟩⟩))), (upR' (Kd.R_mono HO_278004.out (fun _ hk => ⟨hk.1.1, ⟨hk.1.2.1, ⟨hk.2, ⟨hk.1.2.2.1, ⟨hk.1.2.2.2.1, hk.1.2.2.2.2⟩⟩⟩⟩⟩))), (upK BK277), (upK BK286), upH⟩)
               ·skip
                refine box_step ?hg (N := 14) ?hd (cs := #[.slice none 0 0, .int .i64 0, .bool false, .slice none 0 0, .slice none 0 0]) (t := 27) ?hr ?_; (case hd => rfl); (case hg => rfl); (case hr => first | (go_simp; done) | (go_simp; rfl))
                intro gb303 hg w40 hbox hb
                have n0_ := Q0_ (Kd.R_below (upR HO_278000) hb)
                have n1_ := Q0_ (Kd.R_below (upR HO_278003) hb)
                have n2_ := Q0_ (Kd.R_below (upR HO_278004) hb)
                have n3_ := Q0_ (Kd.R_below (upR HO285) hb)
                have n4_ := Q0_ (Kd.R_below (upR HO289) hb)
                have n5_ := Q0_ (Kd.R_below (upR HO299) hb)
                have n6_ := Q0_ (blk_below (upK BK277) hb)
                have n7_ := Q0_ (blk_below (upK BK286) hb)
                have n8_ := Q0_ (below_step upH hb)
                have n9_ := Q0_ (hbox)
                have n10_ := Q0_ ((by rw [hg]; exact (below_size upH) : w.heap.size ≤ gb303))
                have n11_ := Q0_ ((by rw [hg]; exact (below_size upH) : w.heap.size ≤ gb303))
                have n12_ := Q0_ ((by rw [hg]; exact Nat.ne_of_lt (blk_lt (upK BK277)) : gb277 ≠ gb303))
                have n13_ := Q0_ ((by rw [hg]; exact Nat.ne_of_gt (blk_lt (upK BK277)) : gb303 ≠ gb277))
                have n14_ := Q0_ ((by rw [hg]; exact Nat.ne_of_lt (blk_lt (upK BK286)) : gb286 ≠ gb303))
                have n15_ := Q0_ ((by rw [hg]; exact Nat.ne_of_gt (blk_lt (upK BK286)) : gb303 ≠ gb286))
                clear HO_278000 HO_278003 HO_278004 HO285 HO289 HO299 BK277 BK286 HB; revert n0_ n1_ n2_ n3_ n4_ n5_ n6_ n7_ n8_ n9_ n10_ n11_ n12_ n13_ n14_ n15_; intro HO_278000 HO_278003 HO_278004 HO285 HO289 HO299 BK277 BK286 HB BK303 GW303 GE303 NB277_303 NB303_277 NB286_303 NB303_286
                clear hb hbox hg
                refine hK.out _ _ ⟨(blk_cell BK277.out 0).trans rfl, (blk_cell BK277.out 1).trans rfl, (blk_cell BK277.out 2).trans rfl, (blk_cell BK277.out 3).trans rfl, (blk_cell BK277.out 4).trans rfl⟩ (fun hHeld => ?_)
                clear hK K
                refine norm_ (a' := ?_) ?_ ?_
                rotate_left
                ·show Act.put _ (some 14) _ = _
                 simp only [Act.put, sI, s0, sS, i64_w, i32_w]
                 rfl
                exact norm_ (by first | (simp only [putAll, Act.put, sI, s0, sS]; done) | (simp only [putAll, Act.put, sI, s0, sS]; rfl)) (hJ10_15 (v298, gb303) _ ⟨hHeld, (upR HO285), (upR HO289), (upR HO299), (upR HO_278000), (upR HO_278003), (upR HO_278004), (upK BK277), (upK BK286), (upK BK303), GW303.out, GE303.out, NB277_303.out, NB303_277.out, NB286_303.out, NB303_286.out, upH⟩)
             ·skip
              rintro v292 w39 ⟨hS_, h0_, h1_, h2_, h3_, h4_, h5_, h6_, h7_, h8_⟩
              try dsimp only at h0_ h1_ h2_ h3_ h4_ h5_ h6_ h7_ h8_
              have n0_ := Q0_ h0_
              have n1_ := Q0_ h1_
              have n2_ := Q0_ h2_
              have n3_ := Q0_ h3_
              have n4_ := Q0_ h4_
              have n5_ := Q0_ h5_
              have n6_ := Q0_ h6_
              have n7_ := Q0_ h7_
              have n8_ := Q0_ h8_
              clear HO_278000
              clear HO_278003
              clear HO_278004
              clear HO285
              clear HO289
              clear BK277
              clear BK286
              clear HB
              clear h0_ h1_ h2_ h3_ h4_ h5_ h6_ h7_ h8_
              have HO285 := n0_
              have HO289 := n1_
              have HO293 := n2_
              have HO_278000 := n3_
              have HO_278003 := n4_
              have HO_278004 := n5_
              have BK277 := n6_
              have BK286 := n7_
              have HB := n8_
              clear n0_ n1_ n2_ n3_ n4_ n5_ n6_ n7_ n8_
              have hHeld : w39.cell? ⟨gb277, 0, none⟩ = some (.slice Ao9 t265.length co9) ∧ w39.cell? ⟨gb277, 1, none⟩ = some (.int .i64 t268) ∧ w39.cell? ⟨gb277, 2, none⟩ = some (.bool t269) ∧ w39.cell? ⟨gb277, 3, none⟩ = some (.slice Ao11 t270.length co11) ∧ w39.cell? ⟨gb277, 4, none⟩ = some (.slice Ao12 t273.length co12) := hS_
              refine norm_ (a' := ?_) ?_ ?_
              rotate_left
              ·simp only [putAll, Act.put, sI, s0, sS]
               rfl
              refine three_ (i := 7) (j := 10) (k := 15) (Ni := some 72) (Nj := some 75) (Nk := some 14) #[tt,tt,tt,tt,tt,tt,tt,tt,tt,tt,ff,ff,tt,tt,ff,ff,ff] #[tt,tt,tt,tt,tt,tt,tt,ff,tt,tt,tt,ff,tt,tt,ff,ff,ff] #[tt,tt,tt,tt,tt,tt,tt,ff,tt,tt,ff,ff,tt,tt,ff,tt,ff] rfl rfl rfl rfl rfl rfl (three_of HT_.out (by kernel_rfl)) (by decide) (by decide) (by decide) (fun K hK => ?_) (fun K hK => ?_) (fun K hK => ?_)
              ·skip
               refine Kd.R_append_rows_step k25 (w0 := w) w.heap.size (by rfl) (.tmp 69) (.tmp 71) 23 25 (.agg #[(.int .i64 0), (.bool false)]) 16 rfl Tryd.underlying23 info25 rfl (by decide) (by omega) v292 y291 t270 _ _ _ (fun k_ => nb k_ (.slice Ao9 t265.length co9) ∧ nb k_ (.slice Ao11 t270.length co11) ∧ nb k_ (.slice Ao12 t273.length co12) ∧ nb k_ (.slice Ao30 y283.length co30) ∧ nb k_ (v288)) (fun _ => False) rfl rfl ?aO ?aR (fun _ _ h => h) (fun _ h => h.elim) ?aF ?aB ?aS ?aL ?_
               (case aR => repeat (first | exact (Kd.R_reads' HO_278003.out).2.2 | (with_reducible refine Kd.C_alloc ?_ _) | (with_reducible refine Kd.C_drewN ?_ _) | (with_reducible refine Kd.C_drew ?_)))
               (case aB => exact upH)
               (case aF => exact (fun k_ hk => ⟨Kd.fresh' (Kd.R_lt (upR HO_278000)) k_ hk, Kd.fresh' (Kd.R_lt (upR HO_278003)) k_ hk, Kd.fresh' (Kd.R_lt (upR HO_278004)) k_ hk, Kd.fresh' (Kd.R_lt (upR HO285)) k_ hk, Kd.fresh' (Kd.R_lt (upR HO289)) k_ hk⟩))
               (case aO => exact (upR' (Kd.R_mono HO293.out (fun _ hk => ⟨hk.2.2.1, ⟨hk.2.2.2.1, ⟨hk.2.2.2.2, ⟨hk.1, hk.2.1⟩⟩⟩⟩))))
               (case aS => exact (below_size upH))
               (case aL => have := LMc23.out; omega)
               intro v295 w40 ho hb hg hat
               rw [← Ny294.out] at ho
               have n0_ := Q0_ (Kd.R_after (ok := (fun k_ => nb k_ (.slice Ao11 t270.length co11) ∧ nb k_ (.slice Ao12 t273.length co12) ∧ nb k_ (.slice Ao30 y283.length co30) ∧ nb k_ (v288))) (upR' (Kd.R_mono HO_278000.out (fun _ hk => ⟨⟨hk.2.2.2.1, ⟨hk.2.2.2.2, ⟨hk.1, hk.2.1⟩⟩⟩, hk.2.2.1⟩))) hg hat)
               have n1_ := Q0_ (Kd.R_after (ok := (fun k_ => nb k_ (.slice Ao9 t265.length co9) ∧ nb k_ (.slice Ao12 t273.length co12) ∧ nb k_ (.slice Ao30 y283.length co30) ∧ nb k_ (v288))) (upR' (Kd.R_mono HO_278003.out (fun _ hk => ⟨⟨hk.2.2.2.1, ⟨hk.2.2.2.2, ⟨hk.1, hk.2.1⟩⟩⟩, hk.2.2.1⟩))) hg hat)
               have n2_ := Q0_ (Kd.R_after (ok := (fun k_ => nb k_ (.slice Ao9 t265.length co9) ∧ nb k_ (.slice Ao11 t270.length co11) ∧ nb k_ (.slice Ao30 y283.length co30) ∧ nb k_ (v288))) (upR' (Kd.R_mono HO_278004.out (fun _ hk => ⟨⟨hk.2.2.2.1, ⟨hk.2.2.2.2, ⟨hk.1, hk.2.1⟩⟩⟩, hk.2.2.1⟩))) hg hat)
               have n3_ := Q0_ (blk_grown (g := gb277) (o := .cells #[.slice Ao9 t265.length co9, .int .i64 t268, .bool t269, .slice Ao11 t270.length co11, .slice Ao12 t273.length co12] 27 (0, 0)) (upK BK277) hg (Kd.R_ne HO293.out BK277.out (by decide)))
               have n4_ := Q0_ (Kd.R_after (ok := (fun k_ => nb k_ (.slice Ao9 t265.length co9) ∧ nb k_ (.slice Ao11 t270.length co11) ∧ nb k_ (.slice Ao12 t273.length co12) ∧ nb k_ (v288))) (upR' (Kd.R_mono HO285.out (fun _ hk => ⟨⟨hk.2.2.1, ⟨hk.2.2.2.1, ⟨hk.2.2.2.2, hk.1⟩⟩⟩, hk.2.1⟩))) hg hat)
               have n5_ := Q0_ (blk_grown (g := gb286) (o := .cells #[.slice Ao30 y283.length co30, .int .i64 t268, .bool t269, .slice Ao11 t270.length co11, .slice Ao12 t273.length co12] 27 (0, 0)) (upK BK286) hg (Kd.R_ne HO293.out BK286.out (by decide)))
               have n6_ := Q0_ (Kd.R_after (ok := (fun k_ => nb k_ (.slice Ao9 t265.length co9) ∧ nb k_ (.slice Ao11 t270.length co11) ∧ nb k_ (.slice Ao12 t273.length co12) ∧ nb k_ (.slice Ao30 y283.length co30))) (upR' (Kd.R_mono HO289.out (fun _ hk => ⟨⟨hk.2.2.1, ⟨hk.2.2.2.1, ⟨hk.2.2.2.2, hk.1⟩⟩⟩, hk.2.1⟩))) hg hat)
               have n7_ := Q0_ (hb)
               have n8_ := Q0_ (ho)
               clear HO_278000 HO_278003 HO_278004 BK277 HO285 BK286 HO289 HB HO293; revert n0_ n1_ n2_ n3_ n4_ n5_ n6_ n7_ n8_; intro HO_278000 HO_278003 HO_278004 BK277 HO285 BK286 HO289 HB HO296
               clear ho hb hg hat
               refine hK.out _ _ ⟨(blk_cell BK277.out 0).trans rfl, (blk_cell BK277.out 1).trans rfl, (blk_cell BK277.out 2).trans rfl, (blk_cell BK277.out 3).trans rfl, (blk_cell BK277.out 4).trans rfl⟩ (fun hHeld => ?_)
               clear hK K
               refine norm_ (a' := ?_) ?_ ?_
               rotate_left
               ·show Act.put _ (some 72) _ = _
                simp only [Act.put, sI, s0, sS, i64_w, i32_w]
                rfl
               exact norm_ (by first | (simp only [putAll, Act.put, sI, s0, sS]; done) | (simp only [putAll, Act.put, sI, s0, sS]; rfl)) (hJ4_7 (v292, v295) _ ⟨hHeld, (upR' (Kd.R_mono HO285.out (fun _ hk => ⟨hk.1.2.2.2, ⟨hk.2, ⟨hk.1.1, ⟨hk.1.2.1, hk.1.2.2.1⟩⟩⟩⟩))), (upR' (Kd.R_mono HO289.out (fun _ hk => ⟨hk.1.2.2.2, ⟨hk.2, ⟨hk.1.1, ⟨hk.1.2.1, hk.1.2.2.1⟩⟩⟩⟩))), (upR' (Kd.R_mono HO296.out (fun _ hk => ⟨hk.2.2.2.1, ⟨hk.2.2.2.2, ⟨hk.1, ⟨hk.2.1, hk.2.2.1⟩⟩⟩⟩))), (upR' (Kd.R_mono HO_278000.out (fun _ hk => ⟨hk.1.2.2.1, ⟨hk.1.2.2.2, ⟨hk.2, ⟨hk.1.1, hk.1.2.1⟩⟩⟩⟩))), (upR' (Kd.R_mono HO_278003.out (fun _ hk => ⟨hk.1.2.2.1, ⟨hk.1.2.2.2, ⟨hk.2, ⟨hk.1.1, hk.1.2.1⟩⟩⟩⟩))), (upR' (Kd.R_mono HO_278004.out (fun _ hk => ⟨hk.1.2.2.1, ⟨hk.1.2.2.2, ⟨hk.2, ⟨hk.1.1, hk.1.2.1⟩⟩⟩⟩))), (upK BK277), (upK BK286), upH⟩)
              ·skip
               refine Kd.R_lit_step k25 _ 25 ?hg (N := 75) ?hd (xs := ([(⟨t268, t269⟩ : S25)] : List (S25))) (inner := [.int .i64 t268, .bool t269]) (ok := fun _ => True) (okp := fun _ => True) ?hr ?hp (fun _ hk => hk) trivial (Below.refl _ _) (Nat.le_refl _) (by simp) ?_; (case hd => rfl); (case hg => rfl); (case hr => first | (go_simp; done) | (go_simp; rfl)); (case hp => exact (Reps.c2 (show Kd.M k25 _ _ _ (⟨t268, t269⟩ : S25) [.int .i64 t268, .bool t269] from (k25_mkM _ _ _ (⟨t268, t269⟩ : S25) )) (Reps.none _ _)))
               intro v298 w40 ho41 hb hg_ hnew_
               clear hg_ hnew_
               (first | rw [← Ny297.out] at ho41 | (simp only [Int.reduceToNat] at ho41; rw [← Ny297.out] at ho41))
               have n0_ := Q0_ (Kd.R_elder' (upR HO_278000) (Kd.R_base ho41) hb)
               have n1_ := Q0_ (Kd.R_elder' (upR HO_278003) (Kd.R_base ho41) hb)
               have n2_ := Q0_ (Kd.R_elder' (upR HO_278004) (Kd.R_base ho41) hb)
               have n3_ := Q0_ (Kd.R_elder' (upR HO285) (Kd.R_base ho41) hb)
               have n4_ := Q0_ (Kd.R_elder' (upR HO289) (Kd.R_base ho41) hb)
               have n5_ := Q0_ (Kd.R_elder' (upR HO293) (Kd.R_base ho41) hb)
               have n6_ := Q0_ (Kd.R_lower (Kd.R_new' (Kd.R_new' (Kd.R_new' (Kd.R_new' (Kd.R_new' (Kd.R_new' ho41 (Kd.R_lt (upR HO_278000))) (Kd.R_lt (upR HO_278003))) (Kd.R_lt (upR HO_278004))) (Kd.R_lt (upR HO285))) (Kd.R_lt (upR HO289))) (Kd.R_lt (upR HO293))) (below_size upH))
               have n7_ := Q0_ (blk_below (upK BK277) hb)
               have n8_ := Q0_ (blk_below (upK BK286) hb)
               have n9_ := Q0_ (below_step upH hb)
               clear HO_278000 HO_278003 HO_278004 HO285 HO289 HO293 BK277 BK286 HB; revert n0_ n1_ n2_ n3_ n4_ n5_ n6_ n7_ n8_ n9_; intro HO_278000 HO_278003 HO_278004 HO285 HO289 HO293 HO299 BK277 BK286 HB
               clear hb ho41
               refine hK.out _ _ ⟨(blk_cell BK277.out 0).trans rfl, (blk_cell BK277.out 1).trans rfl, (blk_cell BK277.out 2).trans rfl, (blk_cell BK277.out 3).trans rfl, (blk_cell BK277.out 4).trans rfl⟩ (fun hHeld => ?_)
               clear hK K
               refine norm_ (a' := ?_) ?_ ?_
               rotate_left
               ·show Act.put _ (some 75) _ = _
                simp only [Act.put, sI, s0, sS, i64_w, i32_w]
                rfl
               exact norm_ (by first | (simp only [putAll, Act.put, sI, s0, sS]; done) | (simp only [putAll, Act.put, sI, s0, sS]; rfl)) (hJ4_10 (v292, v298) _ ⟨hHeld, (upR' (Kd.R_mono HO285.out (fun _ hk => ⟨hk.1.1, ⟨hk.1.2.1, ⟨hk.2, ⟨hk.1.2.2.1, ⟨hk.1.2.2.2.1, hk.1.2.2.2.2⟩⟩⟩⟩⟩))), (upR' (Kd.R_mono HO289.out (fun _ hk => ⟨hk.1.1, ⟨hk.1.2.1, ⟨hk.2, ⟨hk.1.2.2.1, ⟨hk.1.2.2.2.1, hk.1.2.2.2.2⟩⟩⟩⟩⟩))), (upR' (Kd.R_mono HO293.out (fun _ hk => ⟨hk.1.1, ⟨hk.1.2.1, ⟨hk.2, ⟨hk.1.2.2.1, ⟨hk.1.2.2.2.1, hk.1.2.2.2.2⟩⟩⟩⟩⟩))), (upR' (Kd.R_mono HO299.out (fun _ hk => ⟨hk.1.1.2, ⟨hk.1.2, ⟨hk.2, ⟨hk.1.1.1.1.1.2, ⟨hk.1.1.1.1.2, hk.1.1.1.2⟩⟩⟩⟩⟩))), (upR' (Kd.R_mono HO_278000.out (fun _ hk => ⟨hk.1.1, ⟨hk.1.2.1, ⟨hk.1.2.2.1, ⟨hk.2, ⟨hk.1.2.2.2.1, hk.1.2.2.2.2⟩⟩⟩⟩⟩))), (upR' (Kd.R_mono HO_278003.out (fun _ hk => ⟨hk.1.1, ⟨hk.1.2.1, ⟨hk.1.2.2.1, ⟨hk.2, ⟨hk.1.2.2.2.1, hk.1.2.2.2.2⟩⟩⟩⟩⟩))), (upR' (Kd.R_mono HO_278004.out (fun _ hk => ⟨hk.1.1, ⟨hk.1.2.1, ⟨hk.1.2.2.1, ⟨hk.2, ⟨hk.1.2.2.2.1, hk.1.2.2.2.2⟩⟩⟩⟩⟩))), (upK BK277), (upK BK286), upH⟩)
              ·skip
               refine box_step ?hg (N := 14) ?hd (cs := #[.slice none 0 0, .int .i64 0, .bool false, .slice none 0 0, .slice none 0 0]) (t := 27) ?hr ?_; (case hd => rfl); (case hg => rfl); (case hr => first | (go_simp; done) | (go_simp; rfl))
               intro gb303 hg w40 hbox hb
               have n0_ := Q0_ (Kd.R_below (upR HO_278000) hb)
               have n1_ := Q0_ (Kd.R_below (upR HO_278003) hb)
               have n2_ := Q0_ (Kd.R_below (upR HO_278004) hb)
               have n3_ := Q0_ (Kd.R_below (upR HO285) hb)
               have n4_ := Q0_ (Kd.R_below (upR HO289) hb)
               have n5_ := Q0_ (Kd.R_below (upR HO293) hb)
               have n6_ := Q0_ (blk_below (upK BK277) hb)
               have n7_ := Q0_ (blk_below (upK BK286) hb)
               have n8_ := Q0_ (below_step upH hb)
               have n9_ := Q0_ (hbox)
               have n10_ := Q0_ ((by rw [hg]; exact (below_size upH) : w.heap.size ≤ gb303))
               have n11_ := Q0_ ((by rw [hg]; exact (below_size upH) : w.heap.size ≤ gb303))
               have n12_ := Q0_ ((by rw [hg]; exact Nat.ne_of_lt (blk_lt (upK BK277)) : gb277 ≠ gb303))
               have n13_ := Q0_ ((by rw [hg]; exact Nat.ne_of_gt (blk_lt (upK BK277)) : gb303 ≠ gb277))
               have n14_ := Q0_ ((by rw [hg]; exact Nat.ne_of_lt (blk_lt (upK BK286)) : gb286 ≠ gb303))
               have n15_ := Q0_ ((by rw [hg]; exact Nat.ne_of_gt (blk_lt (upK BK286)) : gb303 ≠ gb286))
               clear HO_278000 HO_278003 HO_278004 HO285 HO289 HO293 BK277 BK286 HB; revert n0_ n1_ n2_ n3_ n4_ n5_ n6_ n7_ n8_ n9_ n10_ n11_ n12_ n13_ n14_ n15_; intro HO_278000 HO_278003 HO_278004 HO285 HO289 HO293 BK277 BK286 HB BK303 GW303 GE303 NB277_303 NB303_277 NB286_303 NB303_286
               clear hb hbox hg
               refine hK.out _ _ ⟨(blk_cell BK277.out 0).trans rfl, (blk_cell BK277.out 1).trans rfl, (blk_cell BK277.out 2).trans rfl, (blk_cell BK277.out 3).trans rfl, (blk_cell BK277.out 4).trans rfl⟩ (fun hHeld => ?_)
               clear hK K
               refine norm_ (a' := ?_) ?_ ?_
               rotate_left
               ·show Act.put _ (some 14) _ = _
                simp only [Act.put, sI, s0, sS, i64_w, i32_w]
                rfl
               exact norm_ (by first | (simp only [putAll, Act.put, sI, s0, sS]; done) | (simp only [putAll, Act.put, sI, s0, sS]; rfl)) (hJ4_15 (v292, gb303) _ ⟨hHeld, (upR HO285), (upR HO289), (upR HO293), (upR HO_278000), (upR HO_278003), (upR HO_278004), (upK BK277), (upK BK286), (upK BK303), GW303.out, GE303.out, NB277_303.out, NB303_277.out, NB286_303.out, NB303_286.out, upH⟩)
            ·skip
             rintro ⟨v298, gb303⟩ w40 ⟨hS_, h0_, h1_, h2_, h3_, h4_, h5_, h6_, h7_, h8_, h9_, h10_, h11_, h12_, h13_, h14_, h15_⟩
             try dsimp only at h0_ h1_ h2_ h3_ h4_ h5_ h6_ h7_ h8_ h9_ h10_ h11_ h12_ h13_ h14_ h15_
             have n0_ := Q0_ h0_
             have n1_ := Q0_ h1_
             have n2_ := Q0_ h2_
             have n3_ := Q0_ h3_
             have n4_ := Q0_ h4_
             have n5_ := Q0_ h5_
             have n6_ := Q0_ h6_
             have n7_ := Q0_ h7_
             have n8_ := Q0_ h8_
             have n9_ := Q0_ h9_
             have n10_ := Q0_ h10_
             have n11_ := Q0_ h11_
             have n12_ := Q0_ h12_
             have n13_ := Q0_ h13_
             have n14_ := Q0_ h14_
             have n15_ := Q0_ h15_
             clear HO_278000
             clear HO_278003
             clear HO_278004
             clear HO285
             clear HO289
             clear BK277
             clear BK286
             clear HB
             clear h0_ h1_ h2_ h3_ h4_ h5_ h6_ h7_ h8_ h9_ h10_ h11_ h12_ h13_ h14_ h15_
             have HO285 := n0_
             have HO289 := n1_
             have HO299 := n2_
             have HO_278000 := n3_
             have HO_278003 := n4_
             have HO_278004 := n5_
             have BK277 := n6_
             have BK286 := n7_
             have BK303 := n8_
             have GW303 := n9_
             have GE303 := n10_
             have NB277_303 := n11_
             have NB303_277 := n12_
             have NB286_303 := n13_
             have NB303_286 := n14_
             have HB := n15_
             clear n0_ n1_ n2_ n3_ n4_ n5_ n6_ n7_ n8_ n9_ n10_ n11_ n12_ n13_ n14_ n15_
             have hHeld : w40.cell? ⟨gb277, 0, none⟩ = some (.slice Ao9 t265.length co9) ∧ w40.cell? ⟨gb277, 1, none⟩ = some (.int .i64 t268) ∧ w40.cell? ⟨gb277, 2, none⟩ = some (.bool t269) ∧ w40.cell? ⟨gb277, 3, none⟩ = some (.slice Ao11 t270.length co11) ∧ w40.cell? ⟨gb277, 4, none⟩ = some (.slice Ao12 t273.length co12) := hS_
             refine norm_ (a' := ?_) ?_ ?_
             rotate_left
             ·simp only [putAll, Act.put, sI, s0, sS]
              rfl
             refine one_ (i := 4) (N := some 69) #[tt,tt,tt,tt,tt,tt,tt,ff,tt,tt,tt,ff,tt,tt,ff,tt,ff] rfl rfl (one_of HT_.out (by kernel_rfl)) (by decide) (fun K hK => ?_)
             refine Kd.R_lit_step k25 _ 25 ?hg (N := 69) ?hd (xs := ([] : List (S25))) (inner := []) (ok := fun _ => True) (okp := fun _ => True) ?hr ?hp (fun _ hk => hk) trivial (Below.refl _ _) (Nat.le_refl _) (by simp) ?_; (case hd => rfl); (case hg => rfl); (case hr => first | (go_simp; done) | (go_simp; rfl)); (case hp => exact (Reps.none _ _))
             intro v292 w41 ho42 hb hg_ hnew_
             clear hg_ hnew_
             (first | rw [← Ny291.out] at ho42 | (simp only [Int.reduceToNat] at ho42; rw [← Ny291.out] at ho42))
             have n0_ := Q0_ (Kd.R_elder' (upR HO_278000) (Kd.R_base ho42) hb)
             have n1_ := Q0_ (Kd.R_elder' (upR HO_278003) (Kd.R_base ho42) hb)
             have n2_ := Q0_ (Kd.R_elder' (upR HO_278004) (Kd.R_base ho42) hb)
             have n3_ := Q0_ (Kd.R_elder' (upR HO285) (Kd.R_base ho42) hb)
             have n4_ := Q0_ (Kd.R_elder' (upR HO289) (Kd.R_base ho42) hb)
             have n5_ := Q0_ (Kd.R_elder' (upR HO299) (Kd.R_base ho42) hb)
             have n6_ := Q0_ (Kd.R_lower (Kd.R_new' (Kd.R_new' (Kd.R_new' (Kd.R_new' (Kd.R_new' (Kd.R_new' ho42 (Kd.R_lt (upR HO_278000))) (Kd.R_lt (upR HO_278003))) (Kd.R_lt (upR HO_278004))) (Kd.R_lt (upR HO285))) (Kd.R_lt (upR HO289))) (Kd.R_lt (upR HO299))) (below_size upH))
             have n7_ := Q0_ (blk_below (upK BK277) hb)
             have n8_ := Q0_ (blk_below (upK BK286) hb)
             have n9_ := Q0_ (blk_below (upK BK303) hb)
             have n10_ := Q0_ (below_step upH hb)
             clear HO_278000 HO_278003 HO_278004 HO285 HO289 HO299 BK277 BK286 BK303 HB; revert n0_ n1_ n2_ n3_ n4_ n5_ n6_ n7_ n8_ n9_ n10_; intro HO_278000 HO_278003 HO_278004 HO285 HO289 HO299 HO293 BK277 BK286 BK303 HB
             clear hb ho42
             refine hK.out _ _ ⟨(blk_cell BK277.out 0).trans rfl, (blk_cell BK277.out 1).trans rfl, (blk_cell BK277.out 2).trans rfl, (blk_cell BK277.out 3).trans rfl, (blk_cell BK277.out 4).trans rfl⟩ (fun hHeld => ?_)
             clear hK K
             refine norm_ (a' := ?_) ?_ ?_
             rotate_left
             ·show Act.put _ (some 69) _ = _
              simp only [Act.put, sI, s0, sS, i64_w, i32_w]
              rfl
             exact norm_ (by first | (simp only [putAll, Act.put, sI, s0, sS]; done) | (simp only [putAll, Act.put, sI, s0, sS]; rfl)) (hJ4_10_15 (v292, v298, gb303) _ ⟨hHeld, (upR' (Kd.R_mono HO285.out (fun _ hk => ⟨hk.1.1, ⟨hk.2, ⟨hk.1.2.1, ⟨hk.1.2.2.1, ⟨hk.1.2.2.2.1, hk.1.2.2.2.2⟩⟩⟩⟩⟩))), (upR' (Kd.R_mono HO289.out (fun _ hk => ⟨hk.1.1, ⟨hk.2, ⟨hk.1.2.1, ⟨hk.1.2.2.1, ⟨hk.1.2.2.2.1, hk.1.2.2.2.2⟩⟩⟩⟩⟩))), (upR' (Kd.R_mono HO293.out (fun _ hk => ⟨hk.1.1.2, ⟨hk.1.2, ⟨hk.2, ⟨hk.1.1.1.1.1.2, ⟨hk.1.1.1.1.2, hk.1.1.1.2⟩⟩⟩⟩⟩))), (upR' (Kd.R_mono HO299.out (fun _ hk => ⟨hk.1.1, ⟨hk.1.2.1, ⟨hk.2, ⟨hk.1.2.2.1, ⟨hk.1.2.2.2.1, hk.1.2.2.2.2⟩⟩⟩⟩⟩))), (upR' (Kd.R_mono HO_278000.out (fun _ hk => ⟨hk.1.1, ⟨hk.1.2.1, ⟨hk.2, ⟨hk.1.2.2.1, ⟨hk.1.2.2.2.1, hk.1.2.2.2.2⟩⟩⟩⟩⟩))), (upR' (Kd.R_mono HO_278003.out (fun _ hk => ⟨hk.1.1, ⟨hk.1.2.1, ⟨hk.2, ⟨hk.1.2.2.1, ⟨hk.1.2.2.2.1, hk.1.2.2.2.2⟩⟩⟩⟩⟩))), (upR' (Kd.R_mono HO_278004.out (fun _ hk => ⟨hk.1.1, ⟨hk.1.2.1, ⟨hk.2, ⟨hk.1.2.2.1, ⟨hk.1.2.2.2.1, hk.1.2.2.2.2⟩⟩⟩⟩⟩))), (upK BK277), (upK BK286), (upK BK303), GW303.out, GE303.out, NB277_303.out, NB303_277.out, NB286_303.out, NB303_286.out, upH⟩)
           ·skip
            rintro ⟨v292, gb303⟩ w40 ⟨hS_, h0_, h1_, h2_, h3_, h4_, h5_, h6_, h7_, h8_, h9_, h10_, h11_, h12_, h13_, h14_, h15_⟩
            try dsimp only at h0_ h1_ h2_ h3_ h4_ h5_ h6_ h7_ h8_ h9_ h10_ h11_ h12_ h13_ h14_ h15_
            have n0_ := Q0_ h0_
            have n1_ := Q0_ h1_
            have n2_ := Q0_ h2_
            have n3_ := Q0_ h3_
            have n4_ := Q0_ h4_
            have n5_ := Q0_ h5_
            have n6_ := Q0_ h6_
            have n7_ := Q0_ h7_
            have n8_ := Q0_ h8_
            have n9_ := Q0_ h9_
            have n10_ := Q0_ h10_
            have n11_ := Q0_ h11_
            have n12_ := Q0_ h12_
            have n13_ := Q0_ h13_
            have n14_ := Q0_ h14_
            have n15_ := Q0_ h15_
            clear HO_278000
            clear HO_278003
            clear HO_278004
            clear HO285
            clear HO289
            clear BK277
            clear BK286
            clear HB
            clear h0_ h1_ h2_ h3_ h4_ h5_ h6_ h7_ h8_ h9_ h10_ h11_ h12_ h13_ h14_ h15_
            have HO285 := n0_
            have HO289 := n1_
            have HO293 := n2_
            have HO_278000 := n3_
            have HO_278003 := n4_
            have HO_278004 := n5_
            have BK277 := n6_
            have BK286 := n7_
            have BK303 := n8_
            have GW303 := n9_
            have GE303 := n10_
            have NB277_303 := n11_
            have NB303_277 := n12_
            have NB286_303 := n13_
            have NB303_286 := n14_
            have HB := n15_
            clear n0_ n1_ n2_ n3_ n4_ n5_ n6_ n7_ n8_ n9_ n10_ n11_ n12_ n13_ n14_ n15_
            have hHeld : w40.cell? ⟨gb277, 0, none⟩ = some (.slice Ao9 t265.length co9) ∧ w40.cell? ⟨gb277, 1, none⟩ = some (.int .i64 t268) ∧ w40.cell? ⟨gb277, 2, none⟩ = some (.bool t269) ∧ w40.cell? ⟨gb277, 3, none⟩ = some (.slice Ao11 t270.length co11) ∧ w40.cell? ⟨gb277, 4, none⟩ = some (.slice Ao12 t273.length co12) := hS_
            refine norm_ (a' := ?_) ?_ ?_
            rotate_left
            ·simp only [putAll, Act.put, sI, s0, sS]
             rfl
            refine two_ (i := 7) (j := 10) (Ni := some 72) (Nj := some 75) #[tt,tt,tt,tt,tt,tt,tt,tt,tt,tt,ff,ff,tt,tt,ff,tt,ff] #[tt,tt,tt,tt,tt,tt,tt,ff,tt,tt,tt,ff,tt,tt,ff,tt,ff] rfl rfl rfl rfl (two_of HT_.out (by kernel_rfl)) (by decide) (by decide) (fun K hK => ?_) (fun K hK => ?_)
            ·skip
             refine Kd.R_append_rows_step k25 (w0 := w) w.heap.size (by rfl) (.tmp 69) (.tmp 71) 23 25 (.agg #[(.int .i64 0), (.bool false)]) 16 rfl Tryd.underlying23 info25 rfl (by decide) (by omega) v292 y291 t270 _ _ _ (fun k_ => nb k_ (.slice Ao9 t265.length co9) ∧ nb k_ (.slice Ao11 t270.length co11) ∧ nb k_ (.slice Ao12 t273.length co12) ∧ nb k_ (.slice Ao30 y283.length co30) ∧ nb k_ (v288)) (fun _ => False) rfl rfl ?aO ?aR (fun _ _ h => h) (fun _ h => h.elim) ?aF ?aB ?aS ?aL ?_
             (case aR => repeat (first | exact (Kd.R_reads' HO_278003.out).2.2 | (with_reducible refine Kd.C_alloc ?_ _) | (with_reducible refine Kd.C_drewN ?_ _) | (with_reducible refine Kd.C_drew ?_)))
             (case aB => exact upH)
             (case aF => exact (fun k_ hk => ⟨Kd.fresh' (Kd.R_lt (upR HO_278000)) k_ hk, Kd.fresh' (Kd.R_lt (upR HO_278003)) k_ hk, Kd.fresh' (Kd.R_lt (upR HO_278004)) k_ hk, Kd.fresh' (Kd.R_lt (upR HO285)) k_ hk, Kd.fresh' (Kd.R_lt (upR HO289)) k_ hk⟩))
             (case aO => exact (upR' (Kd.R_mono HO293.out (fun _ hk => ⟨hk.2.2.1, ⟨hk.2.2.2.1, ⟨hk.2.2.2.2, ⟨hk.1, hk.2.1⟩⟩⟩⟩))))
             (case aS => exact (below_size upH))
             (case aL => have := LMc23.out; omega)
             intro v295 w41 ho hb hg hat
             rw [← Ny294.out] at ho
             have n0_ := Q0_ (Kd.R_after (ok := (fun k_ => nb k_ (.slice Ao11 t270.length co11) ∧ nb k_ (.slice Ao12 t273.length co12) ∧ nb k_ (.slice Ao30 y283.length co30) ∧ nb k_ (v288))) (upR' (Kd.R_mono HO_278000.out (fun _ hk => ⟨⟨hk.2.2.2.1, ⟨hk.2.2.2.2, ⟨hk.1, hk.2.1⟩⟩⟩, hk.2.2.1⟩))) hg hat)
             have n1_ := Q0_ (Kd.R_after (ok := (fun k_ => nb k_ (.slice Ao9 t265.length co9) ∧ nb k_ (.slice Ao12 t273.length co12) ∧ nb k_ (.slice Ao30 y283.length co30) ∧ nb k_ (v288))) (upR' (Kd.R_mono HO_278003.out (fun _ hk => ⟨⟨hk.2.2.2.1, ⟨hk.2.2.2.2, ⟨hk.1, hk.2.1⟩⟩⟩, hk.2.2.1⟩))) hg hat)
             have n2_ := Q0_ (Kd.R_after (ok := (fun k_ => nb k_ (.slice Ao9 t265.length co9) ∧ nb k_ (.slice Ao11 t270.length co11) ∧ nb k_ (.slice Ao30 y283.length co30) ∧ nb k_ (v288))) (upR' (Kd.R_mono HO_278004.out (fun _ hk => ⟨⟨hk.2.2.2.1, ⟨hk.2.2.2.2, ⟨hk.1, hk.2.1⟩⟩⟩, hk.2.2.1⟩))) hg hat)
             have n3_ := Q0_ (blk_grown (g := gb277) (o := .cells #[.slice Ao9 t265.length co9, .int .i64 t268, .bool t269, .slice Ao11 t270.length co11, .slice Ao12 t273.length co12] 27 (0, 0)) (upK BK277) hg (Kd.R_ne HO293.out BK277.out (by decide)))
             have n4_ := Q0_ (Kd.R_after (ok := (fun k_ => nb k_ (.slice Ao9 t265.length co9) ∧ nb k_ (.slice Ao11 t270.length co11) ∧ nb k_ (.slice Ao12 t273.length co12) ∧ nb k_ (v288))) (upR' (Kd.R_mono HO285.out (fun _ hk => ⟨⟨hk.2.2.1, ⟨hk.2.2.2.1, ⟨hk.2.2.2.2, hk.1⟩⟩⟩, hk.2.1⟩))) hg hat)
             have n5_ := Q0_ (blk_grown (g := gb286) (o := .cells #[.slice Ao30 y283.length co30, .int .i64 t268, .bool t269, .slice Ao11 t270.length co11, .slice Ao12 t273.length co12] 27 (0, 0)) (upK BK286) hg (Kd.R_ne HO293.out BK286.out (by decide)))
             have n6_ := Q0_ (Kd.R_after (ok := (fun k_ => nb k_ (.slice Ao9 t265.length co9) ∧ nb k_ (.slice Ao11 t270.length co11) ∧ nb k_ (.slice Ao12 t273.length co12) ∧ nb k_ (.slice Ao30 y283.length co30))) (upR' (Kd.R_mono HO289.out (fun _ hk => ⟨⟨hk.2.2.1, ⟨hk.2.2.2.1, ⟨hk.2.2.2.2, hk.1⟩⟩⟩, hk.2.1⟩))) hg hat)
             have n7_ := Q0_ (blk_grown (g := gb303) (o := .cells #[.slice none 0 0, .int .i64 0, .bool false, .slice none 0 0, .slice none 0 0] 27 (0, 0)) (upK BK303) hg (Kd.R_ne HO293.out BK303.out (by decide)))
             have n8_ := Q0_ (hb)
             have n9_ := Q0_ (ho)
             clear HO_278000 HO_278003 HO_278004 BK277 HO285 BK286 HO289 BK303 HB HO293; revert n0_ n1_ n2_ n3_ n4_ n5_ n6_ n7_ n8_ n9_; intro HO_278000 HO_278003 HO_278004 BK277 HO285 BK286 HO289 BK303 HB HO296
             clear ho hb hg hat
             refine hK.out _ _ ⟨(blk_cell BK277.out 0).trans rfl, (blk_cell BK277.out 1).trans rfl, (blk_cell BK277.out 2).trans rfl, (blk_cell BK277.out 3).trans rfl, (blk_cell BK277.out 4).trans rfl⟩ (fun hHeld => ?_)
             clear hK K
             refine norm_ (a' := ?_) ?_ ?_
             rotate_left
             ·show Act.put _ (some 72) _ = _
              simp only [Act.put, sI, s0, sS, i64_w, i32_w]
              rfl
             exact norm_ (by first | (simp only [putAll, Act.put, sI, s0, sS]; done) | (simp only [putAll, Act.put, sI, s0, sS]; rfl)) (hJ4_7_15 (v292, v295, gb303) _ ⟨hHeld, (upR' (Kd.R_mono HO285.out (fun _ hk => ⟨hk.1.2.2.2, ⟨hk.2, ⟨hk.1.1, ⟨hk.1.2.1, hk.1.2.2.1⟩⟩⟩⟩))), (upR' (Kd.R_mono HO289.out (fun _ hk => ⟨hk.1.2.2.2, ⟨hk.2, ⟨hk.1.1, ⟨hk.1.2.1, hk.1.2.2.1⟩⟩⟩⟩))), (upR' (Kd.R_mono HO296.out (fun _ hk => ⟨hk.2.2.2.1, ⟨hk.2.2.2.2, ⟨hk.1, ⟨hk.2.1, hk.2.2.1⟩⟩⟩⟩))), (upR' (Kd.R_mono HO_278000.out (fun _ hk => ⟨hk.1.2.2.1, ⟨hk.1.2.2.2, ⟨hk.2, ⟨hk.1.1, hk.1.2.1⟩⟩⟩⟩))), (upR' (Kd.R_mono HO_278003.out (fun _ hk => ⟨hk.1.2.2.1, ⟨hk.1.2.2.2, ⟨hk.2, ⟨hk.1.1, hk.1.2.1⟩⟩⟩⟩))), (upR' (Kd.R_mono HO_278004.out (fun _ hk => ⟨hk.1.2.2.1, ⟨hk.1.2.2.2, ⟨hk.2, ⟨hk.1.1, hk.1.2.1⟩⟩⟩⟩))), (upK BK277), (upK BK286), (upK BK303), GW303.out, GE303.out, NB277_303.out, NB303_277.out, NB286_303.out, NB303_286.out, upH⟩)
            ·skip
             refine Kd.R_lit_step k25 _ 25 ?hg (N := 75) ?hd (xs := ([(⟨t268, t269⟩ : S25)] : List (S25))) (inner := [.int .i64 t268, .bool t269]) (ok := fun _ => True) (okp := fun _ => True) ?hr ?hp (fun _ hk => hk) trivial (Below.refl _ _) (Nat.le_refl _) (by simp) ?_; (case hd => rfl); (case hg => rfl); (case hr => first | (go_simp; done) | (go_simp; rfl)); (case hp => exact (Reps.c2 (show Kd.M k25 _ _ _ (⟨t268, t269⟩ : S25) [.int .i64 t268, .bool t269] from (k25_mkM _ _ _ (⟨t268, t269⟩ : S25) )) (Reps.none _ _)))
             intro v298 w41 ho42 hb hg_ hnew_
             clear hg_ hnew_
             (first | rw [← Ny297.out] at ho42 | (simp only [Int.reduceToNat] at ho42; rw [← Ny297.out] at ho42))
             have n0_ := Q0_ (Kd.R_elder' (upR HO_278000) (Kd.R_base ho42) hb)
             have n1_ := Q0_ (Kd.R_elder' (upR HO_278003) (Kd.R_base ho42) hb)
             have n2_ := Q0_ (Kd.R_elder' (upR HO_278004) (Kd.R_base ho42) hb)
             have n3_ := Q0_ (Kd.R_elder' (upR HO285) (Kd.R_base ho42) hb)
             have n4_ := Q0_ (Kd.R_elder' (upR HO289) (Kd.R_base ho42) hb)
             have n5_ := Q0_ (Kd.R_elder' (upR HO293) (Kd.R_base ho42) hb)
             have n6_ := Q0_ (Kd.R_lower (Kd.R_new' (Kd.R_new' (Kd.R_new' (Kd.R_new' (Kd.R_new' (Kd.R_new' ho42 (Kd.R_lt (upR HO_278000))) (Kd.R_lt (upR HO_278003))) (Kd.R_lt (upR HO_278004))) (Kd.R_lt (upR HO285))) (Kd.R_lt (upR HO289))) (Kd.R_lt (upR HO293))) (below_size upH))
             have n7_ := Q0_ (blk_below (upK BK277) hb)
             have n8_ := Q0_ (blk_below (upK BK286) hb)
             have n9_ := Q0_ (blk_below (upK BK303) hb)
             have n10_ := Q0_ (below_step upH hb)
             clear HO_278000 HO_278003 HO_278004 HO285 HO289 HO293 BK277 BK286 BK303 HB; revert n0_ n1_ n2_ n3_ n4_ n5_ n6_ n7_ n8_ n9_ n10_; intro HO_278000 HO_278003 HO_278004 HO285 HO289 HO293 HO299 BK277 BK286 BK303 HB
             clear hb ho42
             refine hK.out _ _ ⟨(blk_cell BK277.out 0).trans rfl, (blk_cell BK277.out 1).trans rfl, (blk_cell BK277.out 2).trans rfl, (blk_cell BK277.out 3).trans rfl, (blk_cell BK277.out 4).trans rfl⟩ (fun hHeld => ?_)
             clear hK K
             refine norm_ (a' := ?_) ?_ ?_
             rotate_left
             ·show Act.put _ (some 75) _ = _
              simp only [Act.put, sI, s0, sS, i64_w, i32_w]
              rfl
             exact norm_ (by first | (simp only [putAll, Act.put, sI, s0, sS]; done) | (simp only [putAll, Act.put, sI, s0, sS]; rfl)) (hJ4_10_15 (v292, v298, gb303) _ ⟨hHeld, (upR' (Kd.R_mono HO285.out (fun _ hk => ⟨hk.1.1, ⟨hk.1.2.1, ⟨hk.2, ⟨hk.1.2.2.1, ⟨hk.1.2.2.2.1, hk.1.2.2.2.2⟩⟩⟩⟩⟩))), (upR' (Kd.R_mono HO289.out (fun _ hk => ⟨hk.1.1, ⟨hk.1.2.1, ⟨hk.2, ⟨hk.1.2.2.1, ⟨hk.1.2.2.2.1, hk.1.2.2.2.2⟩⟩⟩⟩⟩))), (upR' (Kd.R_mono HO293.out (fun _ hk => ⟨hk.1.1, ⟨hk.1.2.1, ⟨hk.2, ⟨hk.1.2.2.1, ⟨hk.1.2.2.2.1, hk.1.2.2.2.2⟩⟩⟩⟩⟩))), (upR' (Kd.R_mono HO299.out (fun _ hk => ⟨hk.1.1.2, ⟨hk.1.2, ⟨hk.2, ⟨hk.1.1.1.1.1.2, ⟨hk.1.1.1.1.2, hk.1.1.1.2⟩⟩⟩⟩⟩))), (upR' (Kd.R_mono HO_278000.out (fun _ hk => ⟨hk.1.1, ⟨hk.1.2.1, ⟨hk.1.2.2.1, ⟨hk.2, ⟨hk.1.2.2.2.1, hk.1.2.2.2.2⟩⟩⟩⟩⟩))), (upR' (Kd.R_mono HO_278003.out (fun _ hk => ⟨hk.1.1, ⟨hk.1.2.1, ⟨hk.1.2.2.1, ⟨hk.2, ⟨hk.1.2.2.2.1, hk.1.2.2.2.2⟩⟩⟩⟩⟩))), (upR' (Kd.R_mono HO_278004.out (fun _ hk => ⟨hk.1.1, ⟨hk.1.2.1, ⟨hk.1.2.2.1, ⟨hk.2, ⟨hk.1.2.2.2.1, hk.1.2.2.2.2⟩⟩⟩⟩⟩))), (upK BK277), (upK BK286), (upK BK303), GW303.out, GE303.out, NB277_303.out, NB303_277.out, NB286_303.out, NB303_286.out, upH⟩)
          ·skip
           rintro ⟨v292, v298⟩ w41 ⟨hS_, h0_, h1_, h2_, h3_, h4_, h5_, h6_, h7_, h8_, h9_⟩
           try dsimp only at h0_ h1_ h2_ h3_ h4_ h5_ h6_ h7_ h8_ h9_
           have n0_ := Q0_ h0_
           have n1_ := Q0_ h1_
           have n2_ := Q0_ h2_
           have n3_ := Q0_ h3_
           have n4_ := Q0_ h4_
           have n5_ := Q0_ h5_
           have n6_ := Q0_ h6_
           have n7_ := Q0_ h7_
           have n8_ := Q0_ h8_
           have n9_ := Q0_ h9_
           clear HO_278000
           clear HO_278003
           clear HO_278004
           clear HO285
           clear HO289
           clear BK277
           clear BK286
           clear HB
           clear h0_ h1_ h2_ h3_ h4_ h5_ h6_ h7_ h8_ h9_
           have HO285 := n0_
           have HO289 := n1_
           have HO293 := n2_
           have HO299 := n3_
           have HO_278000 := n4_
           have HO_278003 := n5_
           have HO_278004 := n6_
           have BK277 := n7_
           have BK286 := n8_
           have HB := n9_
           clear n0_ n1_ n2_ n3_ n4_ n5_ n6_ n7_ n8_ n9_
           have hHeld : w41.cell? ⟨gb277, 0, none⟩ = some (.slice Ao9 t265.length co9) ∧ w41.cell? ⟨gb277, 1, none⟩ = some (.int .i64 t268) ∧ w41.cell? ⟨gb277, 2, none⟩ = some (.bool t269) ∧ w41.cell? ⟨gb277, 3, none⟩ = some (.slice Ao11 t270.length co11) ∧ w41.cell? ⟨gb277, 4, none⟩ = some (.slice Ao12 t273.length co12) := hS_
           refine norm_ (a' := ?_) ?_ ?_
           rotate_left
           ·simp only [putAll, Act.put, sI, s0, sS]
            rfl
           refine two_ (i := 7) (j := 15) (Ni := some 72) (Nj := some 14) #[tt,tt,tt,tt,tt,tt,tt,tt,tt,tt,tt,ff,tt,tt,ff,ff,ff] #[tt,tt,tt,tt,tt,tt,tt,ff,tt,tt,tt,ff,tt,tt,ff,tt,ff] rfl rfl rfl rfl (two_of HT_.out (by kernel_rfl)) (by decide) (by decide) (fun K hK => ?_) (fun K hK => ?_)
           ·skip
            refine Kd.R_append_rows_step k25 (w0 := w) w.heap.size (by rfl) (.tmp 69) (.tmp 71) 23 25 (.agg #[(.int .i64 0), (.bool false)]) 16 rfl Tryd.underlying23 info25 rfl (by decide) (by omega) v292 y291 t270 _ _ _ (fun k_ => nb k_ (.slice Ao9 t265.length co9) ∧ nb k_ (.slice Ao11 t270.length co11) ∧ nb k_ (.slice Ao12 t273.length co12) ∧ nb k_ (.slice Ao30 y283.length co30) ∧ nb k_ (v288) ∧ nb k_ (v298)) (fun _ => False) rfl rfl ?aO ?aR (fun _ _ h => h) (fun _ h => h.elim) ?aF ?aB ?aS ?aL ?_
            (case aR => repeat (first | exact (Kd.R_reads' HO_278003.out).2.2 | (with_reducible refine Kd.C_alloc ?_ _) | (with_reducible refine Kd.C_drewN ?_ _) | (with_reducible refine Kd.C_drew ?_)))
            (case aB => exact upH)
            (case aF => exact (fun k_ hk => ⟨Kd.fresh' (Kd.R_lt (upR HO_278000)) k_ hk, Kd.fresh' (Kd.R_lt (upR HO_278003)) k_ hk, Kd.fresh' (Kd.R_lt (upR HO_278004)) k_ hk, Kd.fresh' (Kd.R_lt (upR HO285)) k_ hk, Kd.fresh' (Kd.R_lt (upR HO289)) k_ hk, Kd.fresh' (Kd.R_lt (upR HO299)) k_ hk⟩))
            (case aO => exact (upR' (Kd.R_mono HO293.out (fun _ hk => ⟨hk.2.2.2.1, ⟨hk.2.2.2.2.1, ⟨hk.2.2.2.2.2, ⟨hk.1, ⟨hk.2.1, hk.2.2.1⟩⟩⟩⟩⟩))))
            (case aS => exact (below_size upH))
            (case aL => have := LMc23.out; omega)
            intro v295 w42 ho hb hg hat
            rw [← Ny294.out] at ho
            have n0_ := Q0_ (Kd.R_after (ok := (fun k_ => nb k_ (.slice Ao11 t270.length co11) ∧ nb k_ (.slice Ao12 t273.length co12) ∧ nb k_ (.slice Ao30 y283.length co30) ∧ nb k_ (v288) ∧ nb k_ (v298))) (upR' (Kd.R_mono HO_278000.out (fun _ hk => ⟨⟨hk.2.2.2.2.1, ⟨hk.2.2.2.2.2, ⟨hk.1, ⟨hk.2.1, hk.2.2.2.1⟩⟩⟩⟩, hk.2.2.1⟩))) hg hat)
            have n1_ := Q0_ (Kd.R_after (ok := (fun k_ => nb k_ (.slice Ao9 t265.length co9) ∧ nb k_ (.slice Ao12 t273.length co12) ∧ nb k_ (.slice Ao30 y283.length co30) ∧ nb k_ (v288) ∧ nb k_ (v298))) (upR' (Kd.R_mono HO_278003.out (fun _ hk => ⟨⟨hk.2.2.2.2.1, ⟨hk.2.2.2.2.2, ⟨hk.1, ⟨hk.2.1, hk.2.2.2.1⟩⟩⟩⟩, hk.2.2.1⟩))) hg hat)
            have n2_ := Q0_ (Kd.R_after (ok := (fun k_ => nb k_ (.slice Ao9 t265.length co9) ∧ nb k_ (.slice Ao11 t270.length co11) ∧ nb k_ (.slice Ao30 y283.length co30) ∧ nb k_ (v288) ∧ nb k_ (v298))) (upR' (Kd.R_mono HO_278004.out (fun _ hk => ⟨⟨hk.2.2.2.2.1, ⟨hk.2.2.2.2.2, ⟨hk.1, ⟨hk.2.1, hk.2.2.2.1⟩⟩⟩⟩, hk.2.2.1⟩))) hg hat)
            have n3_ := Q0_ (blk_grown (g := gb277) (o := .cells #[.slice Ao9 t265.length co9, .int .i64 t268, .bool t269, .slice Ao11 t270.length co11, .slice Ao12 t273.length co12] 27 (0, 0)) (upK BK277) hg (Kd.R_ne HO293.out BK277.out (by decide)))
            have n4_ := Q0_ (Kd.R_after (ok := (fun k_ => nb k_ (.slice Ao9 t265.length co9) ∧ nb k_ (.slice Ao11 t270.length co11) ∧ nb k_ (.slice Ao12 t273.length co12) ∧ nb k_ (v288) ∧ nb k_ (v298))) (upR' (Kd.R_mono HO285.out (fun _ hk => ⟨⟨hk.2.2.2.1, ⟨hk.2.2.2.2.1, ⟨hk.2.2.2.2.2, ⟨hk.1, hk.2.2.1⟩⟩⟩⟩, hk.2.1⟩))) hg hat)
            have n5_ := Q0_ (blk_grown (g := gb286) (o := .cells #[.slice Ao30 y283.length co30, .int .i64 t268, .bool t269, .slice Ao11 t270.length co11, .slice Ao12 t273.length co12] 27 (0, 0)) (upK BK286) hg (Kd.R_ne HO293.out BK286.out (by decide)))
            have n6_ := Q0_ (Kd.R_after (ok := (fun k_ => nb k_ (.slice Ao9 t265.length co9) ∧ nb k_ (.slice Ao11 t270.length co11) ∧ nb k_ (.slice Ao12 t273.length co12) ∧ nb k_ (.slice Ao30 y283.length co30) ∧ nb k_ (v298))) (upR' (Kd.R_mono HO289.out (fun _ hk => ⟨⟨hk.2.2.2.1, ⟨hk.2.2.2.2.1, ⟨hk.2.2.2.2.2, ⟨hk.1, hk.2.2.1⟩⟩⟩⟩, hk.2.1⟩))) hg hat)
            have n7_ := Q0_ (Kd.R_after (ok := (fun k_ => nb k_ (.slice Ao9 t265.length co9) ∧ nb k_ (.slice Ao11 t270.length co11) ∧ nb k_ (.slice Ao12 t273.length co12) ∧ nb k_ (.slice Ao30 y283.length co30) ∧ nb k_ (v288))) (upR' (Kd.R_mono HO299.out (fun _ hk => ⟨⟨hk.2.2.2.1, ⟨hk.2.2.2.2.1, ⟨hk.2.2.2.2.2, ⟨hk.1, hk.2.1⟩⟩⟩⟩, hk.2.2.1⟩))) hg hat)
            have n8_ := Q0_ (hb)
            have n9_ := Q0_ (ho)
            clear HO_278000 HO_278003 HO_278004 BK277 HO285 BK286 HO289 HO299 HB HO293; revert n0_ n1_ n2_ n3_ n4_ n5_ n6_ n7_ n8_ n9_; intro HO_278000 HO_278003 HO_278004 BK277 HO285 BK286 HO289 HO299 HB HO296
            clear ho hb hg hat
            refine hK.out _ _ ⟨(blk_cell BK277.out 0).trans rfl, (blk_cell BK277.out 1).trans rfl, (blk_cell BK277.out 2).trans rfl, (blk_cell BK277.out 3).trans rfl, (blk_cell BK277.out 4).trans rfl⟩ (fun hHeld => ?_)
            clear hK K
            refine norm_ (a' := ?_) ?_ ?_
            rotate_left
            ·show Act.put _ (some 72) _ = _
             simp only [Act.put, sI, s0, sS, i64_w, i32_w]
             rfl
            exact norm_ (by first | (simp only [putAll, Act.put, sI, s0, sS]; done) | (simp only [putAll, Act.put, sI, s0, sS]; rfl)) (hJ4_7_10 (v292, v295, v298) _ ⟨hHeld, (upR' (Kd.R_mono HO285.out (fun _ hk => ⟨hk.1.2.2.2.1, ⟨hk.2, ⟨hk.1.2.2.2.2, ⟨hk.1.1, ⟨hk.1.2.1, hk.1.2.2.1⟩⟩⟩⟩⟩))), (upR' (Kd.R_mono HO289.out (fun _ hk => ⟨hk.1.2.2.2.1, ⟨hk.2, ⟨hk.1.2.2.2.2, ⟨hk.1.1, ⟨hk.1.2.1, hk.1.2.2.1⟩⟩⟩⟩⟩))), (upR' (Kd.R_mono HO296.out (fun _ hk => ⟨hk.2.2.2.1, ⟨hk.2.2.2.2.1, ⟨hk.2.2.2.2.2, ⟨hk.1, ⟨hk.2.1, hk.2.2.1⟩⟩⟩⟩⟩))), (upR' (Kd.R_mono HO299.out (fun _ hk => ⟨hk.1.2.2.2.1, ⟨hk.1.2.2.2.2, ⟨hk.2, ⟨hk.1.1, ⟨hk.1.2.1, hk.1.2.2.1⟩⟩⟩⟩⟩))), (upR' (Kd.R_mono HO_278000.out (fun _ hk => ⟨hk.1.2.2.1, ⟨hk.1.2.2.2.1, ⟨hk.2, ⟨hk.1.2.2.2.2, ⟨hk.1.1, hk.1.2.1⟩⟩⟩⟩⟩))), (upR' (Kd.R_mono HO_278003.out (fun _ hk => ⟨hk.1.2.2.1, ⟨hk.1.2.2.2.1, ⟨hk.2, ⟨hk.1.2.2.2.2, ⟨hk.1.1, hk.1.2.1⟩⟩⟩⟩⟩))), (upR' (Kd.R_mono HO_278004.out (fun _ hk => ⟨hk.1.2.2.1, ⟨hk.1.2.2.2.1, ⟨hk.2, ⟨hk.1.2.2.2.2, ⟨hk.1.1, hk.1.2.1⟩⟩⟩⟩⟩))), (upK BK277), (upK BK286), upH⟩)
           ·skip
            refine box_step ?hg (N := 14) ?hd (cs := #[.slice none 0 0, .int .i64 0, .bool false, .slice none 0 0, .slice none 0 0]) (t := 27) ?hr ?_; (case hd => rfl); (case hg => rfl); (case hr => first | (go_simp; done) | (go_simp; rfl))
            intro gb303 hg w42 hbox hb
            have n0_ := Q0_ (Kd.R_below (upR HO_278000) hb)
            have n1_ := Q0_ (Kd.R_below (upR HO_278003) hb)
            have n2_ := Q0_ (Kd.R_below (upR HO_278004) hb)
            have n3_ := Q0_ (Kd.R_below (upR HO285) hb)
            have n4_ := Q0_ (Kd.R_below (upR HO289) hb)
            have n5_ := Q0_ (Kd.R_below (upR HO293) hb)
            have n6_ := Q0_ (Kd.R_below (upR HO299) hb)
            have n7_ := Q0_ (blk_below (upK BK277) hb)
            have n8_ := Q0_ (blk_below (upK BK286) hb)
            have n9_ := Q0_ (below_step upH hb)
            have n10_ := Q0_ (hbox)
            have n11_ := Q0_ ((by rw [hg]; exact (below_size upH) : w.heap.size ≤ gb303))
            have n12_ := Q0_ ((by rw [hg]; exact (below_size upH) : w.heap.size ≤ gb303))
            have n13_ := Q0_ ((by rw [hg]; exact Nat.ne_of_lt (blk_lt (upK BK277)) : gb277 ≠ gb303))
            have n14_ := Q0_ ((by rw [hg]; exact Nat.ne_of_gt (blk_lt (upK BK277)) : gb303 ≠ gb277))
            have n15_ := Q0_ ((by rw [hg]; exact Nat.ne_of_lt (blk_lt (upK BK286)) : gb286 ≠ gb303))
            have n16_ := Q0_ ((by rw [hg]; exact Nat.ne_of_gt (blk_lt (upK BK286)) : gb303 ≠ gb286))
            clear HO_278000 HO_278003 HO_278004 HO285 HO289 HO293 HO299 BK277 BK286 HB; revert n0_ n1_ n2_ n3_ n4_ n5_ n6_ n7_ n8_ n9_ n10_ n11_ n12_ n13_ n14_ n15_ n16_; intro HO_278000 HO_278003 HO_278004 HO285 HO289 HO293 HO299 BK277 BK286 HB BK303 GW303 GE303 NB277_303 NB303_277 NB286_303 NB303_286
            clear hb hbox hg
            refine hK.out _ _ ⟨(blk_cell BK277.out 0).trans rfl, (blk_cell BK277.out 1).trans rfl, (blk_cell BK277.out 2).trans rfl, (blk_cell BK277.out 3).trans rfl, (blk_cell BK277.out 4).trans rfl⟩ (fun hHeld => ?_)
            clear hK K
            refine norm_ (a' := ?_) ?_ ?_
            rotate_left
            ·show Act.put _ (some 14) _ = _
             simp only [Act.put, sI, s0, sS, i64_w, i32_w]
             rfl
            exact norm_ (by first | (simp only [putAll, Act.put, sI, s0, sS]; done) | (simp only [putAll, Act.put, sI, s0, sS]; rfl)) (hJ4_10_15 (v292, v298, gb303) _ ⟨hHeld, (upR HO285), (upR HO289), (upR HO293), (upR HO299), (upR HO_278000), (upR HO_278003), (upR HO_278004), (upK BK277), (upK BK286), (upK BK303), GW303.out, GE303.out, NB277_303.out, NB303_277.out, NB286_303.out, NB303_286.out, upH⟩)
         ·skip
          rintro ⟨v292, v295⟩ w40 ⟨hS_, h0_, h1_, h2_, h3_, h4_, h5_, h6_, h7_, h8_⟩
          try dsimp only at h0_ h1_ h2_ h3_ h4_ h5_ h6_ h7_ h8_
          have n0_ := Q0_ h0_
          have n1_ := Q0_ h1_
          have n2_ := Q0_ h2_
          have n3_ := Q0_ h3_
          have n4_ := Q0_ h4_
          have n5_ := Q0_ h5_
          have n6_ := Q0_ h6_
          have n7_ := Q0_ h7_
          have n8_ := Q0_ h8_
          clear HO_278000
          clear HO_278003
          clear HO_278004
          clear HO285
          clear HO289
          clear BK277
          clear BK286
          clear HB
          clear h0_ h1_ h2_ h3_ h4_ h5_ h6_ h7_ h8_
          have HO285 := n0_
          have HO289 := n1_
          have HO296 := n2_
          have HO_278000 := n3_
          have HO_278003 := n4_
          have HO_278004 := n5_
          have BK277 := n6_
          have BK286 := n7_
          have HB := n8_
          clear n0_ n1_ n2_ n3_ n4_ n5_ n6_ n7_ n8_
          have hHeld : w40.cell? ⟨gb277, 0, none⟩ = some (.slice Ao9 t265.length co9) ∧ w40.cell? ⟨gb277, 1, none⟩ = some (.int .i64 t268) ∧ w40.cell? ⟨gb277, 2, none⟩ = some (.bool t269) ∧ w40.cell? ⟨gb277, 3, none⟩ = some (.slice Ao11 t270.length co11) ∧ w40.cell? ⟨gb277, 4, none⟩ = some (.slice Ao12 t273.length co12) := hS_
          refine norm_ (a' := ?_) ?_ ?_
          rotate_left
          ·simp only [putAll, Act.put, sI, s0, sS]
           rfl
          refine two_ (i := 10) (j := 15) (Ni := some 75) (Nj := some 14) #[tt,tt,tt,tt,tt,tt,tt,tt,tt,tt,tt,ff,tt,tt,ff,ff,ff] #[tt,tt,tt,tt,tt,tt,tt,tt,tt,tt,ff,ff,tt,tt,ff,tt,ff] rfl rfl rfl rfl (two_of HT_.out (by kernel_rfl)) (by decide) (by decide) (fun K hK => ?_) (fun K hK => ?_)
          ·skip
           refine Kd.R_lit_step k25 _ 25 ?hg (N := 75) ?hd (xs := ([(⟨t268, t269⟩ : S25)] : List (S25))) (inner := [.int .i64 t268, .bool t269]) (ok := fun _ => True) (okp := fun _ => True) ?hr ?hp (fun _ hk => hk) trivial (Below.refl _ _) (Nat.le_refl _) (by simp) ?_; (case hd => rfl); (case hg => rfl); (case hr => first | (go_simp; done) | (go_simp; rfl)); (case hp => exact (Reps.c2 (show Kd.M k25 _ _ _ (⟨t268, t269⟩ : S25) [.int .i64 t268, .bool t269] from (k25_mkM _ _ _ (⟨t268, t269⟩ : S25) )) (Reps.none _ _)))
           intro v298 w41 ho42 hb hg_ hnew_
           clear hg_ hnew_
           (first | rw [← Ny297.out] at ho42 | (simp only [Int.reduceToNat] at ho42; rw [← Ny297.out] at ho42))
           have n0_ := Q0_ (Kd.R_elder' (upR HO_278000) (Kd.R_base ho42) hb)
           have n1_ := Q0_ (Kd.R_elder' (upR HO_278003) (Kd.R_base ho42) hb)
           have n2_ := Q0_ (Kd.R_elder' (upR HO_278004) (Kd.R_base ho42) hb)
           have n3_ := Q0_ (Kd.R_elder' (upR HO285) (Kd.R_base ho42) hb)
           have n4_ := Q0_ (Kd.R_elder' (upR HO289) (Kd.R_base ho42) hb)
           have n5_ := Q0_ (Kd.R_elder' (upR HO296) (Kd.R_base ho42) hb)
           have n6_ := Q0_ (Kd.R_lower (Kd.R_new' (Kd.R_new' (Kd.R_new' (Kd.R_new' (Kd.R_new' (Kd.R_new' ho42 (Kd.R_lt (upR HO_278000))) (Kd.R_lt (upR HO_278003))) (Kd.R_lt (upR HO_278004))) (Kd.R_lt (upR HO285))) (Kd.R_lt (upR HO289))) (Kd.R_lt (upR HO296))) (below_size upH))
           have n7_ := Q0_ (blk_below (upK BK277) hb)
           have n8_ := Q0_ (blk_below (upK BK286) hb)
           have n9_ := Q0_ (below_step upH hb)
           clear HO_278000 HO_278003 HO_278004 HO285 HO289 HO296 BK277 BK286 HB; revert n0_ n1_ n2_ n3_ n4_ n5_ n6_ n7_ n8_ n9_; intro HO_278000 HO_278003 HO_278004 HO285 HO289 HO296 HO299 BK277 BK286 HB
           clear hb ho42
           refine hK.out _ _ ⟨(blk_cell BK277.out 0).trans rfl, (blk_cell BK277.out 1).trans rfl, (blk_cell BK277.out 2).trans rfl, (blk_cell BK277.out 3).trans rfl, (blk_cell BK277.out 4).trans rfl⟩ (fun hHeld => ?_)
           clear hK K
           refine norm_ (a' := ?_) ?_ ?_
           rotate_left
           ·show Act.put _ (some 75) _ = _
            simp only [Act.put, sI, s0, sS, i64_w, i32_w]
            rfl
           exact norm_ (by first | (simp only [putAll, Act.put, sI, s0, sS]; done) | (simp only [putAll, Act.put, sI, s0, sS]; rfl)) (hJ4_7_10 (v292, v295, v298) _ ⟨hHeld, (upR' (Kd.R_mono HO285.out (fun _ hk => ⟨hk.1.1, ⟨hk.1.2.1, ⟨hk.2, ⟨hk.1.2.2.1, ⟨hk.1.2.2.2.1, hk.1.2.2.2.2⟩⟩⟩⟩⟩))), (upR' (Kd.R_mono HO289.out (fun _ hk => ⟨hk.1.1, ⟨hk.1.2.1, ⟨hk.2, ⟨hk.1.2.2.1, ⟨hk.1.2.2.2.1, hk.1.2.2.2.2⟩⟩⟩⟩⟩))), (upR' (Kd.R_mono HO296.out (fun _ hk => ⟨hk.1.1, ⟨hk.1.2.1, ⟨hk.2, ⟨hk.1.2.2.1, ⟨hk.1.2.2.2.1, hk.1.2.2.2.2⟩⟩⟩⟩⟩))), (upR' (Kd.R_mono HO299.out (fun _ hk => ⟨hk.1.1.2, ⟨hk.1.2, ⟨hk.2, ⟨hk.1.1.1.1.1.2, ⟨hk.1.1.1.1.2, hk.1.1.1.2⟩⟩⟩⟩⟩))), (upR' (Kd.R_mono HO_278000.out (fun _ hk => ⟨hk.1.1, ⟨hk.1.2.1, ⟨hk.1.2.2.1, ⟨hk.2, ⟨hk.1.2.2.2.1, hk.1.2.2.2.2⟩⟩⟩⟩⟩))), (upR' (Kd.R_mono HO_278003.out (fun _ hk => ⟨hk.1.1, ⟨hk.1.2.1, ⟨hk.1.2.2.1, ⟨hk.2, ⟨hk.1.2.2.2.1, hk.1.2.2.2.2⟩⟩⟩⟩⟩))), (upR' (Kd.R_mono HO_278004.out (fun _ hk => ⟨hk.1.1, ⟨hk.1.2.1, ⟨hk.1.2.2.1, ⟨hk.2, ⟨hk.1.2.2.2.1, hk.1.2.2.2.2⟩⟩⟩⟩⟩))), (upK BK277), (upK BK286), upH⟩)
          ·skip
           refine box_step ?hg (N := 14) ?hd (cs := #[.slice none 0 0, .int .i64 0, .bool false, .slice none 0 0, .slice none 0 0]) (t := 27) ?hr ?_; (case hd => rfl); (case hg => rfl); (case hr => first | (go_simp; done) | (go_simp; rfl))
           intro gb303 hg w41 hbox hb
           have n0_ := Q0_ (Kd.R_below (upR HO_278000) hb)
           have n1_ := Q0_ (Kd.R_below (upR HO_278003) hb)
           have n2_ := Q0_ (Kd.R_below (upR HO_278004) hb)
           have n3_ := Q0_ (Kd.R_below (upR HO285) hb)
           have n4_ := Q0_ (Kd.R_below (upR HO289) hb)
           have n5_ := Q0_ (Kd.R_below (upR HO296) hb)
           have n6_ := Q0_ (blk_below (upK BK277) hb)
           have n7_ := Q0_ (blk_below (upK BK286) hb)
           have n8_ := Q0_ (below_step upH hb)
           have n9_ := Q0_ (hbox)
           have n10_ := Q0_ ((by rw [hg]; exact (below_size upH) : w.heap.size ≤ gb303))
           have n11_ := Q0_ ((by rw [hg]; exact (below_size upH) : w.heap.size ≤ gb303))
           have n12_ := Q0_ ((by rw [hg]; exact Nat.ne_of_lt (blk_lt (upK BK277)) : gb277 ≠ gb303))
           have n13_ := Q0_ ((by rw [hg]; exact Nat.ne_of_gt (blk_lt (upK BK277)) : gb303 ≠ gb277))
           have n14_ := Q0_ ((by rw [hg]; exact Nat.ne_of_lt (blk_lt (upK BK286)) : gb286 ≠ gb303))
           have n15_ := Q0_ ((by rw [hg]; exact Nat.ne_of_gt (blk_lt (upK BK286)) : gb303 ≠ gb286))
           clear HO_278000 HO_278003 HO_278004 HO285 HO289 HO296 BK277 BK286 HB; revert n0_ n1_ n2_ n3_ n4_ n5_ n6_ n7_ n8_ n9_ n10_ n11_ n12_ n13_ n14_ n15_; intro HO_278000 HO_278003 HO_278004 HO285 HO289 HO296 BK277 BK286 HB BK303 GW303 GE303 NB277_303 NB303_277 NB286_303 NB303_286
           clear hb hbox hg
           refine hK.out _ _ ⟨(blk_cell BK277.out 0).trans rfl, (blk_cell BK277.out 1).trans rfl, (blk_cell BK277.out 2).trans rfl, (blk_cell BK277.out 3).trans rfl, (blk_cell BK277.out 4).trans rfl⟩ (fun hHeld => ?_)
           clear hK K
           refine norm_ (a' := ?_) ?_ ?_
           rotate_left
           ·show Act.put _ (some 14) _ = _
            simp only [Act.put, sI, s0, sS, i64_w, i32_w]
            rfl
           exact norm_ (by first | (simp only [putAll, Act.put, sI, s0, sS]; done) | (simp only [putAll, Act.put, sI, s0, sS]; rfl)) (hJ4_7_15 (v292, v295, gb303) _ ⟨hHeld, (upR HO285), (upR HO289), (upR HO296), (upR HO_278000), (upR HO_278003), (upR HO_278004), (upK BK277), (upK BK286), (upK BK303), GW303.out, GE303.out, NB277_303.out, NB303_277.out, NB286_303.out, NB303_286.out, upH⟩)
        ·skip
         rintro ⟨v292, v298, gb303⟩ w42 ⟨hS_, h0_, h1_, h2_, h3_, h4_, h5_, h6_, h7_, h8_, h9_, h10_, h11_, h12_, h13_, h14_, h15_, h16_⟩
         try dsimp only at h0_ h1_ h2_ h3_ h4_ h5_ h6_ h7_ h8_ h9_ h10_ h11_ h12_ h13_ h14_ h15_ h16_
         have n0_ := Q0_ h0_
         have n1_ := Q0_ h1_
         have n2_ := Q0_ h2_
         have n3_ := Q0_ h3_
         have n4_ := Q0_ h4_
         have n5_ := Q0_ h5_
         have n6_ := Q0_ h6_
         have n7_ := Q0_ h7_
         have n8_ := Q0_ h8_
         have n9_ := Q0_ h9_
         have n10_ := Q0_ h10_
         have n11_ := Q0_ h11_
         have n12_ := Q0_ h12_
         have n13_ := Q0_ h13_
         have n14_ := Q0_ h14_
         have n15_ := Q0_ h15_
         have n16_ := Q0_ h16_
         clear HO_278000
         clear HO_278003
         clear HO_278004
         clear HO285
         clear HO289
         clear BK277
         clear BK286
         clear HB
         clear h0_ h1_ h2_ h3_ h4_ h5_ h6_ h7_ h8_ h9_ h10_ h11_ h12_ h13_ h14_ h15_ h16_
         have HO285 := n0_
         have HO289 := n1_
         have HO293 := n2_
         have HO299 := n3_
         have HO_278000 := n4_
         have HO_278003 := n5_
         have HO_278004 := n6_
         have BK277 := n7_
         have BK286 := n8_
         have BK303 := n9_
         have GW303 := n10_
         have GE303 := n11_
         have NB277_303 := n12_
         have NB303_277 := n13_
         have NB286_303 := n14_
         have NB303_286 := n15_
         have HB := n16_
         clear n0_ n1_ n2_ n3_ n4_ n5_ n6_ n7_ n8_ n9_ n10_ n11_ n12_ n13_ n14_ n15_ n16_
         have hHeld : w42.cell? ⟨gb277, 0, none⟩ = some (.slice Ao9 t265.length co9) ∧ w42.cell? ⟨gb277, 1, none⟩ = some (.int .i64 t268) ∧ w42.cell? ⟨gb277, 2, none⟩ = some (.bool t269) ∧ w42.cell? ⟨gb277, 3, none⟩ = some (.slice Ao11 t270.length co11) ∧ w42.cell? ⟨gb277, 4, none⟩ = some (.slice Ao12 t273.length co12) := hS_
         refine norm_ (a' := ?_) ?_ ?_
         rotate_left
         ·simp only [putAll, Act.put, sI, s0, sS]
          rfl
         refine one_ (i := 7) (N := some 72) #[tt,tt,tt,tt,tt,tt,tt,tt,tt,tt,tt,ff,tt,tt,ff,tt,ff] rfl rfl (one_of HT_.out (by kernel_rfl)) (by decide) (fun K hK => ?_)
         refine Kd.R_append_rows_step k25 (w0 := w) w.heap.size (by rfl) (.tmp 69) (.tmp 71) 23 25 (.agg #[(.int .i64 0), (.bool false)]) 16 rfl Tryd.underlying23 info25 rfl (by decide) (by omega) v292 y291 t270 _ _ _ (fun k_ => nb k_ (.slice Ao9 t265.length co9) ∧ nb k_ (.slice Ao11 t270.length co11) ∧ nb k_ (.slice Ao12 t273.length co12) ∧ nb k_ (.slice Ao30 y283.length co30) ∧ nb k_ (v288) ∧ nb k_ (v298)) (fun _ => False) rfl rfl ?aO ?aR (fun _ _ h => h) (fun _ h => h.elim) ?aF ?aB ?aS ?aL ?_
         (case aR => repeat (first | exact (Kd.R_reads' HO_278003.out).2.2 | (with_reducible refine Kd.C_alloc ?_ _) | (with_reducible refine Kd.C_drewN ?_ _) | (with_reducible refine Kd.C_drew ?_)))
         (case aB => exact upH)
         (case aF => exact (fun k_ hk => ⟨Kd.fresh' (Kd.R_lt (upR HO_278000)) k_ hk, Kd.fresh' (Kd.R_lt (upR HO_278003)) k_ hk, Kd.fresh' (Kd.R_lt (upR HO_278004)) k_ hk, Kd.fresh' (Kd.R_lt (upR HO285)) k_ hk, Kd.fresh' (Kd.R_lt (upR HO289)) k_ hk, Kd.fresh' (Kd.R_lt (upR HO299)) k_ hk⟩))
         (case aO => exact (upR' (Kd.R_mono HO293.out (fun _ hk => ⟨hk.2.2.2.1, ⟨hk.2.2.2.2.1, ⟨hk.2.2.2.2.2, ⟨hk.1, ⟨hk.2.1, hk.2.2.1⟩⟩⟩⟩⟩))))
         (case aS => exact (below_size upH))
         (case aL => have := LMc23.out; omega)
         intro v295 w43 ho hb hg hat
         rw [← Ny294.out] at ho
         have n0_ := Q0_ (Kd.R_after (ok := (fun k_ => nb k_ (.slice Ao11 t270.length co11) ∧ nb k_ (.slice Ao12 t273.length co12) ∧ nb k_ (.slice Ao30 y283.length co30) ∧ nb k_ (v288) ∧ nb k_ (v298))) (upR' (Kd.R_mono HO_278000.out (fun _ hk => ⟨⟨hk.2.2.2.2.1, ⟨hk.2.2.2.2.2, ⟨hk.1, ⟨hk.2.1, hk.2.2.2.1⟩⟩⟩⟩, hk.2.2.1⟩))) hg hat)
         have n1_ := Q0_ (Kd.R_after (ok := (fun k_ => nb k_ (.slice Ao9 t265.length co9) ∧ nb k_ (.slice Ao12 t273.length co12) ∧ nb k_ (.slice Ao30 y283.length co30) ∧ nb k_ (v288) ∧ nb k_ (v298))) (upR' (Kd.R_mono HO_278003.out (fun _ hk => ⟨⟨hk.2.2.2.2.1, ⟨hk.2.2.2.2.2, ⟨hk.1, ⟨hk.2.1, hk.2.2.2.1⟩⟩⟩⟩, hk.2.2.1⟩))) hg hat)
         have n2_ := Q0_ (Kd.R_after (ok := (fun k_ => nb k_ (.slice Ao9 t265.length co9) ∧ nb k_ (.slice Ao11 t270.length co11) ∧ nb k_ (.slice Ao30 y283.length co30) ∧ nb k_ (v288) ∧ nb k_ (v298))) (upR' (Kd.R_mono HO_278004.out (fun _ hk => ⟨⟨hk.2.2.2.2.1, ⟨hk.2.2.2.2.2, ⟨hk.1, ⟨hk.2.1, hk.2.2.2.1⟩⟩⟩⟩, hk.2.2.1⟩))) hg hat)
         have n3_ := Q0_ (blk_grown (g := gb277) (o := .cells #[.slice Ao9 t265.length co9, .int .i64 t268, .bool t269, .slice Ao11 t270.length co11, .slice Ao12 t273.length co12] 27 (0, 0)) (upK BK277) hg (Kd.R_ne HO293.out BK277.out (by decide)))
         have n4_ := Q0_ (Kd.R_after (ok := (fun k_ => nb k_ (.slice Ao9 t265.length co9) ∧ nb k_ (.slice Ao11 t270.length co11) ∧ nb k_ (.slice Ao12 t273.length co12) ∧ nb k_ (v288) ∧ nb k_ (v298))) (upR' (Kd.R_mono HO285.out (fun _ hk => ⟨⟨hk.2.2.2.1, ⟨hk.2.2.2.2.1, ⟨hk.2.2.2.2.2, ⟨hk.1, hk.2.2.1⟩⟩⟩⟩, hk.2.1⟩))) hg hat)
         have n5_ := Q0_ (blk_grown (g := gb286) (o := .cells #[.slice Ao30 y283.length co30, .int .i64 t268, .bool t269, .slice Ao11 t270.length co11, .slice Ao12 t273.length co12] 27 (0, 0)) (upK BK286) hg (Kd.R_ne HO293.out BK286.out (by decide)))
         have n6_ := Q0_ (Kd.R_after (ok := (fun k_ => nb k_ (.slice Ao9 t265.length co9) ∧ nb k_ (.slice Ao11 t270.length co11) ∧ nb k_ (.slice Ao12 t273.length co12) ∧ nb k_ (.slice Ao30 y283.length co30) ∧ nb k_ (v298))) (upR' (Kd.R_mono HO289.out (fun _ hk => ⟨⟨hk.2.2.2.1, ⟨hk.2.2.2.2.1, ⟨hk.2.2.2.2.2, ⟨hk.1, hk.2.2.1⟩⟩⟩⟩, hk.2.1⟩))) hg hat)
         have n7_ := Q0_ (Kd.R_after (ok := (fun k_ => nb k_ (.slice Ao9 t265.length co9) ∧ nb k_ (.slice Ao11 t270.length co11) ∧ nb k_ (.slice Ao12 t273.length co12) ∧ nb k_ (.slice Ao30 y283.length co30) ∧ nb k_ (v288))) (upR' (Kd.R_mono HO299.out (fun _ hk => ⟨⟨hk.2.2.2.1, ⟨hk.2.2.2.2.1, ⟨hk.2.2.2.2.2, ⟨hk.1, hk.2.1⟩⟩⟩⟩, hk.2.2.1⟩))) hg hat)
         have n8_ := Q0_ (blk_grown (g := gb303) (o := .cells #[.slice none 0 0, .int .i64 0, .bool false, .slice none 0 0, .slice none 0 0] 27 (0, 0)) (upK BK303) hg (Kd.R_ne HO293.out BK303.out (by decide)))
         have n9_ := Q0_ (hb)
         have n10_ := Q0_ (ho)
         clear HO_278000 HO_278003 HO_278004 BK277 HO285 BK286 HO289 HO299 BK303 HB HO293; revert n0_ n1_ n2_ n3_ n4_ n5_ n6_ n7_ n8_ n9_ n10_; intro HO_278000 HO_278003 HO_278004 BK277 HO285 BK286 HO289 HO299 BK303 HB HO296
         clear ho hb hg hat
         refine hK.out _ _ ⟨(blk_cell BK277.out 0).trans rfl, (blk_cell BK277.out 1).trans rfl, (blk_cell BK277.out 2).trans rfl, (blk_cell BK277.out 3).trans rfl, (blk_cell BK277.out 4).trans rfl⟩ (fun hHeld => ?_)
         clear hK K
         refine norm_ (a' := ?_) ?_ ?_
         rotate_left
         ·show Act.put _ (some 72) _ = _
          simp only [Act.put, sI, s0, sS, i64_w, i32_w]
          rfl
         exact norm_ (by first | (simp only [putAll, Act.put, sI, s0, sS]; done) | (simp only [putAll, Act.put, sI, s0, sS]; rfl)) (hJ4_7_10_15 (v292, v295, v298, gb303) _ ⟨hHeld, (upR' (Kd.R_mono HO285.out (fun _ hk => ⟨hk.1.2.2.2.1, ⟨hk.2, ⟨hk.1.2.2.2.2, ⟨hk.1.1, ⟨hk.1.2.1, hk.1.2.2.1⟩⟩⟩⟩⟩))), (upR' (Kd.R_mono HO289.out (fun _ hk => ⟨hk.1.2.2.2.1, ⟨hk.2, ⟨hk.1.2.2.2.2, ⟨hk.1.1, ⟨hk.1.2.1, hk.1.2.2.1⟩⟩⟩⟩⟩))), (upR' (Kd.R_mono HO296.out (fun _ hk => ⟨hk.2.2.2.1, ⟨hk.2.2.2.2.1, ⟨hk.2.2.2.2.2, ⟨hk.1, ⟨hk.2.1, hk.2.2.1⟩⟩⟩⟩⟩))), (upR' (Kd.R_mono HO299.out (fun _ hk => ⟨hk.1.2.2.2.1, ⟨hk.1.2.2.2.2, ⟨hk.2, ⟨hk.1.1, ⟨hk.1.2.1, hk.1.2.2.1⟩⟩⟩⟩⟩))), (upR' (Kd.R_mono HO_278000.out (fun _ hk => ⟨hk.1.2.2.1, ⟨hk.1.2.2.2.1, ⟨hk.2, ⟨hk.1.2.2.2.2, ⟨hk.1.1, hk.1.2.1⟩⟩⟩⟩⟩))), (upR' (Kd.R_mono HO_278003.out (fun _ hk => ⟨hk.1.2.2.1, ⟨hk.1.2.2.2.1, ⟨hk.2, ⟨hk.1.2.2.2.2, ⟨hk.1.1, hk.1.2.1⟩⟩⟩⟩⟩))), (upR' (Kd.R_mono HO_278004.out (fun _ hk => ⟨hk.1.2.2.1, ⟨hk.1.2.2.2.1, ⟨hk.2, ⟨hk.1.2.2.2.2, ⟨hk.1.1, hk.1.2.1⟩⟩⟩⟩⟩))), (upK BK277), (upK BK286), (upK BK303), GW303.out, GE303.out, NB277_303.out, NB303_277.out, NB286_303.out, NB303_286.out, upH⟩)
       ·skip
        rintro ⟨v292, v295, gb303⟩ w41 ⟨hS_, h0_, h1_, h2_, h3_, h4_, h5_, h6_, h7_, h8_, h9_, h10_, h11_, h12_, h13_, h14_, h15_⟩
        try dsimp only at h0_ h1_ h2_ h3_ h4_ h5_ h6_ h7_ h8_ h9_ h10_ h11_ h12_ h13_ h14_ h15_
        have n0_ := Q0_ h0_
        have n1_ := Q0_ h1_
        have n2_ := Q0_ h2_
        have n3_ := Q0_ h3_
        have n4_ := Q0_ h4_
        have n5_ := Q0_ h5_
        have n6_ := Q0_ h6_
        have n7_ := Q0_ h7_
        have n8_ := Q0_ h8_
        have n9_ := Q0_ h9_
        have n10_ := Q0_ h10_
        have n11_ := Q0_ h11_
        have n12_ := Q0_ h12_
        have n13_ := Q0_ h13_
        have n14_ := Q0_ h14_
        have n15_ := Q0_ h15_
        clear HO_278000
        clear HO_278003
        clear HO_278004
        clear HO285
        clear HO289
        clear BK277
        clear BK286
        clear HB
        clear h0_ h1_ h2_ h3_ h4_ h5_ h6_ h7_ h8_ h9_ h10_ h11_ h12_ h13_ h14_ h15_
        have HO285 := n0_
        have HO289 := n1_
        have HO296 := n2_
        have HO_278000 := n3_
        have HO_278003 := n4_
        have HO_278004 := n5_
        have BK277 := n6_
        have BK286 := n7_
        have BK303 := n8_
        have GW303 := n9_
        have GE303 := n10_
        have NB277_303 := n11_
        have NB303_277 := n12_
        have NB286_303 := n13_
        have NB303_286 := n14_
        have HB := n15_
        clear n0_ n1_ n2_ n3_ n4_ n5_ n6_ n7_ n8_ n9_ n10_ n11_ n12_ n13_ n14_ n15_
        have hHeld : w41.cell? ⟨gb277, 0, none⟩ = some (.slice Ao9 t265.length co9) ∧ w41.cell? ⟨gb277, 1, none⟩ = some (.int .i64 t268) ∧ w41.cell? ⟨gb277, 2, none⟩ = some (.bool t269) ∧ w41.cell? ⟨gb277, 3, none⟩ = some (.slice Ao11 t270.length co11) ∧ w41.cell? ⟨gb277, 4, none⟩ = some (.slice Ao12 t273.length co12) := hS_
        refine norm_ (a' := ?_) ?_ ?_
        rotate_left
        ·simp only [putAll, Act.put, sI, s0, sS]
         rfl
        refine one_ (i := 10) (N := some 75) #[tt,tt,tt,tt,tt,tt,tt,tt,tt,tt,tt,ff,tt,tt,ff,tt,ff] rfl rfl (one_of HT_.out (by kernel_rfl)) (by decide) (fun K hK => ?_)
        refine Kd.R_lit_step k25 _ 25 ?hg (N := 75) ?hd (xs := ([(⟨t268, t269⟩ : S25)] : List (S25))) (inner := [.int .i64 t268, .bool t269]) (ok := fun _ => True) (okp := fun _ => True) ?hr ?hp (fun _ hk => hk) trivial (Below.refl _ _) (Nat.le_refl _) (by simp) ?_; (case hd => rfl); (case hg => rfl); (case hr => first | (go_simp; done) | (go_simp; rfl)); (case hp => exact (Reps.c2 (show Kd.M k25 _ _ _ (⟨t268, t269⟩ : S25) [.int .i64 t268, .bool t269] from (k25_mkM _ _ _ (⟨t268, t269⟩ : S25) )) (Reps.none _ _)))
        intro v298 w42 ho43 hb hg_ hnew_
        clear hg_ hnew_
        (first | rw [← Ny297.out] at ho43 | (simp only [Int.reduceToNat] at ho43; rw [← Ny297.out] at ho43))
        have n0_ := Q0_ (Kd.R_elder' (upR HO_278000) (Kd.R_base ho43) hb)
        have n1_ := Q0_ (Kd.R_elder' (upR HO_278003) (Kd.R_base ho43) hb)
        have n2_ := Q0_ (Kd.R_elder' (upR HO_278004) (Kd.R_base ho43) hb)
        have n3_ := Q0_ (Kd.R_elder' (upR HO285) (Kd.R_base ho43) hb)
        have n4_ := Q0_ (Kd.R_elder' (upR HO289) (Kd.R_base ho43) hb)
        have n5_ := Q0_ (Kd.R_elder' (upR HO296) (Kd.R_base ho43) hb)
        have n6_ := Q0_ (Kd.R_lower (Kd.R_new' (Kd.R_new' (Kd.R_new' (Kd.R_new' (Kd.R_new' (Kd.R_new' ho43 (Kd.R_lt (upR HO_278000))) (Kd.R_lt (upR HO_278003))) (Kd.R_lt (upR HO_278004))) (Kd.R_lt (upR HO285))) (Kd.R_lt (upR HO289))) (Kd.R_lt (upR HO296))) (below_size upH))
        have n7_ := Q0_ (blk_below (upK BK277) hb)
        have n8_ := Q0_ (blk_below (upK BK286) hb)
        have n9_ := Q0_ (blk_below (upK BK303) hb)
        have n10_ := Q0_ (below_step upH hb)
        clear HO_278000 HO_278003 HO_278004 HO285 HO289 HO296 BK277 BK286 BK303 HB; revert n0_ n1_ n2_ n3_ n4_ n5_ n6_ n7_ n8_ n9_ n10_; intro HO_278000 HO_278003 HO_278004 HO285 HO289 HO296 HO299 BK277 BK286 BK303 HB
        clear hb ho43
        refine hK.out _ _ ⟨(blk_cell BK277.out 0).trans rfl, (blk_cell BK277.out 1).trans rfl, (blk_cell BK277.out 2).trans rfl, (blk_cell BK277.out 3).trans rfl, (blk_cell BK277.out 4).trans rfl⟩ (fun hHeld => ?_)
        clear hK K
        refine norm_ (a' := ?_) ?_ ?_
        rotate_left
        ·show Act.put _ (some 75) _ = _
         simp only [Act.put, sI, s0, sS, i64_w, i32_w]
         rfl
        exact norm_ (by first | (simp only [putAll, Act.put, sI, s0, sS]; done) | (simp only [putAll, Act.put, sI, s0, sS]; rfl)) (hJ4_7_10_15 (v292, v295, v298, gb303) _ ⟨hHeld, (upR' (Kd.R_mono HO285.out (fun _ hk => ⟨hk.1.1, ⟨hk.1.2.1, ⟨hk.2, ⟨hk.1.2.2.1, ⟨hk.1.2.2.2.1, hk.1.2.2.2.2⟩⟩⟩⟩⟩))), (upR' (Kd.R_mono HO289.out (fun _ hk => ⟨hk.1.1, ⟨hk.1.2.1, ⟨hk.2, ⟨hk.1.2.2.1, ⟨hk.1.2.2.2.1, hk.1.2.2.2.2⟩⟩⟩⟩⟩))), (upR' (Kd.R_mono HO296.out (fun _ hk => ⟨hk.1.1, ⟨hk.1.2.1, ⟨hk.2, ⟨hk.1.2.2.1, ⟨hk.1.2.2.2.1, hk.1.2.2.2.2⟩⟩⟩⟩⟩))), (upR' (Kd.R_mono HO299.out (fun _ hk => ⟨hk.1.1.2, ⟨hk.1.2, ⟨hk.2, ⟨hk.1.1.1.1.1.2, ⟨hk.1.1.1.1.2, hk.1.1.1.2⟩⟩⟩⟩⟩))), (upR' (Kd.R_mono HO_278000.out (fun _ hk => ⟨hk.1.1, ⟨hk.1.2.1, ⟨hk.1.2.2.1, ⟨hk.2, ⟨hk.1.2.2.2.1, hk.1.2.2.2.2⟩⟩⟩⟩⟩))), (upR' (Kd.R_mono HO_278003.out (fun _ hk => ⟨hk.1.1, ⟨hk.1.2.1, ⟨hk.1.2.2.1, ⟨hk.2, ⟨hk.1.2.2.2.1, hk.1.2.2.2.2⟩⟩⟩⟩⟩))), (upR' (Kd.R_mono HO_278004.out (fun _ hk => ⟨hk.1.1, ⟨hk.1.2.1, ⟨hk.1.2.2.1, ⟨hk.2, ⟨hk.1.2.2.2.1, hk.1.2.2.2.2⟩⟩⟩⟩⟩))), (upK BK277), (upK BK286), (upK BK303), GW303.out, GE303.out, NB277_303.out, NB303_277.out, NB286_303.out, NB303_286.out, upH⟩)
      ·skip
       rintro ⟨v292, v295, v298⟩ w42 ⟨hS_, h0_, h1_, h2_, h3_, h4_, h5_, h6_, h7_, h8_, h9_⟩
       try dsimp only at h0_ h1_ h2_ h3_ h4_ h5_ h6_ h7_ h8_ h9_
       have n0_ := Q0_ h0_
       have n1_ := Q0_ h1_
       have n2_ := Q0_ h2_
       have n3_ := Q0_ h3_
       have n4_ := Q0_ h4_
       have n5_ := Q0_ h5_
       have n6_ := Q0_ h6_
       have n7_ := Q0_ h7_
       have n8_ := Q0_ h8_
       have n9_ := Q0_ h9_
       clear HO_278000
       clear HO_278003
       clear HO_278004
       clear HO285
       clear HO289
       clear BK277
       clear BK286
       clear HB
       clear h0_ h1_ h2_ h3_ h4_ h5_ h6_ h7_ h8_ h9_
       have HO285 := n0_
       have HO289 := n1_
       have HO296 := n2_
       have HO299 := n3_
       have HO_278000 := n4_
       have HO_278003 := n5_
       have HO_278004 := n6_
       have BK277 := n7_
       have BK286 := n8_
       have HB := n9_
       clear n0_ n1_ n2_ n3_ n4_ n5_ n6_ n7_ n8_ n9_
       have hHeld : w42.cell? ⟨gb277, 0, none⟩ = some (.slice Ao9 t265.length co9) ∧ w42.cell? ⟨gb277, 1, none⟩ = some (.int .i64 t268) ∧ w42.cell? ⟨gb277, 2, none⟩ = some (.bool t269) ∧ w42.cell? ⟨gb277, 3, none⟩ = some (.slice Ao11 t270.length co11) ∧ w42.cell? ⟨gb277, 4, none⟩ = some (.slice Ao12 t273.length co12) := hS_
       obtain ⟨Ao44, co44, eo44⟩ := Kd.R_slice HO299.out
       (first | subst eo44 | (injection eo44 with f1_ f2_ f3_; have f4_ := f1_.symm; have f5_ := f3_.symm; clear f1_ f2_ f3_; subst f4_; subst f5_))
       refine norm_ (a' := ?_) ?_ ?_
       rotate_left
       ·simp only [putAll, Act.put, sI, s0, sS]
        rfl
       refine two_ (i := 11) (j := 15) (Ni := some 76) (Nj := some 14) #[tt,tt,tt,tt,tt,tt,tt,tt,tt,tt,tt,tt,tt,tt,ff,ff,ff] #[tt,tt,tt,tt,tt,tt,tt,tt,tt,tt,tt,ff,tt,tt,ff,tt,ff] rfl rfl rfl rfl (two_of HT_.out (by kernel_rfl)) (by decide) (by decide) (fun K hK => ?_) (fun K hK => ?_)
       ·skip
        refine Kd.R_append_rows_step k25 (w0 := w) w.heap.size (by rfl) (.tmp 72) (.tmp 75) 23 25 (.agg #[(.int .i64 0), (.bool false)]) 16 rfl Tryd.underlying23 info25 rfl (by decide) (by omega) v295 y294 y297 _ _ _ (fun k_ => nb k_ (.slice Ao9 t265.length co9) ∧ nb k_ (.slice Ao11 t270.length co11) ∧ nb k_ (.slice Ao12 t273.length co12) ∧ nb k_ (.slice Ao30 y283.length co30) ∧ nb k_ (v288) ∧ nb k_ (.slice Ao44 y297.length co44)) (fun _ => False) rfl rfl ?aO ?aR (fun _ _ h => h) (fun _ h => h.elim) ?aF ?aB ?aS ?aL ?_
        (case aR => repeat (first | exact (Kd.R_reads' HO299.out).2.2 | (with_reducible refine Kd.C_alloc ?_ _) | (with_reducible refine Kd.C_drewN ?_ _) | (with_reducible refine Kd.C_drew ?_)))
        (case aB => exact upH)
        (case aF => exact (fun k_ hk => ⟨Kd.fresh' (Kd.R_lt (upR HO_278000)) k_ hk, Kd.fresh' (Kd.R_lt (upR HO_278003)) k_ hk, Kd.fresh' (Kd.R_lt (upR HO_278004)) k_ hk, Kd.fresh' (Kd.R_lt (upR HO285)) k_ hk, Kd.fresh' (Kd.R_lt (upR HO289)) k_ hk, Kd.fresh' (Kd.R_lt (upR HO299)) k_ hk⟩))
        (case aO => exact (upR' (Kd.R_mono HO296.out (fun _ hk => ⟨hk.2.2.2.1, ⟨hk.2.2.2.2.1, ⟨hk.2.2.2.2.2, ⟨hk.1, ⟨hk.2.1, hk.2.2.1⟩⟩⟩⟩⟩))))
        (case aS => exact (below_size upH))
        (case aL => have := LMc24.out; omega)
        intro v301 w43 ho hb hg hat
        rw [← Ny300.out] at ho
        have n0_ := Q0_ (Kd.R_after (ok := (fun k_ => nb k_ (.slice Ao11 t270.length co11) ∧ nb k_ (.slice Ao12 t273.length co12) ∧ nb k_ (.slice Ao30 y283.length co30) ∧ nb k_ (v288) ∧ nb k_ (.slice Ao44 y297.length co44))) (upR' (Kd.R_mono HO_278000.out (fun _ hk => ⟨⟨hk.2.2.2.2.1, ⟨hk.2.2.2.2.2, ⟨hk.1, ⟨hk.2.1, hk.2.2.2.1⟩⟩⟩⟩, hk.2.2.1⟩))) hg hat)
        have n1_ := Q0_ (Kd.R_after (ok := (fun k_ => nb k_ (.slice Ao9 t265.length co9) ∧ nb k_ (.slice Ao12 t273.length co12) ∧ nb k_ (.slice Ao30 y283.length co30) ∧ nb k_ (v288) ∧ nb k_ (.slice Ao44 y297.length co44))) (upR' (Kd.R_mono HO_278003.out (fun _ hk => ⟨⟨hk.2.2.2.2.1, ⟨hk.2.2.2.2.2, ⟨hk.1, ⟨hk.2.1, hk.2.2.2.1⟩⟩⟩⟩, hk.2.2.1⟩))) hg hat)
        have n2_ := Q0_ (Kd.R_after (ok := (fun k_ => nb k_ (.slice Ao9 t265.length co9) ∧ nb k_ (.slice Ao11 t270.length co11) ∧ nb k_ (.slice Ao30 y283.length co30) ∧ nb k_ (v288) ∧ nb k_ (.slice Ao44 y297.length co44))) (upR' (Kd.R_mono HO_278004.out (fun _ hk => ⟨⟨hk.2.2.2.2.1, ⟨hk.2.2.2.2.2, ⟨hk.1, ⟨hk.2.1, hk.2.2.2.1⟩⟩⟩⟩, hk.2.2.1⟩))) hg hat)
        have n3_ := Q0_ (blk_grown (g := gb277) (o := .cells #[.slice Ao9 t265.length co9, .int .i64 t268, .bool t269, .slice Ao11 t270.length co11, .slice Ao12 t273.length co12] 27 (0, 0)) (upK BK277) hg (Kd.R_ne HO296.out BK277.out (by decide)))
        have n4_ := Q0_ (Kd.R_after (ok := (fun k_ => nb k_ (.slice Ao9 t265.length co9) ∧ nb k_ (.slice Ao11 t270.length co11) ∧ nb k_ (.slice Ao12 t273.length co12) ∧ nb k_ (v288) ∧ nb k_ (.slice Ao44 y297.length co44))) (upR' (Kd.R_mono HO285.out (fun _ hk => ⟨⟨hk.2.2.2.1, ⟨hk.2.2.2.2.1, ⟨hk.2.2.2.2.2, ⟨hk.1, hk.2.2.1⟩⟩⟩⟩, hk.2.1⟩))) hg hat)
        have n5_ := Q0_ (blk_grown (g := gb286) (o := .cells #[.slice Ao30 y283.length co30, .int .i64 t268, .bool t269, .slice Ao11 t270.length co11, .slice Ao12 t273.length co12] 27 (0, 0)) (upK BK286) hg (Kd.R_ne HO296.out BK286.out (by decide)))
        have n6_ := Q0_ (Kd.R_after (ok := (fun k_ => nb k_ (.slice Ao9 t265.length co9) ∧ nb k_ (.slice Ao11 t270.length co11) ∧ nb k_ (.slice Ao12 t273.length co12) ∧ nb k_ (.slice Ao30 y283.length co30) ∧ nb k_ (.slice Ao44 y297.length co44))) (upR' (Kd.R_mono HO289.out (fun _ hk => ⟨⟨hk.2.2.2.1, ⟨hk.2.2.2.2.1, ⟨hk.2.2.2.2.2, ⟨hk.1, hk.2.2.1⟩⟩⟩⟩, hk.2.1⟩))) hg hat)
        have n7_ := Q0_ (Kd.R_after (ok := (fun k_ => nb k_ (.slice Ao9 t265.length co9) ∧ nb k_ (.slice Ao11 t270.length co11) ∧ nb k_ (.slice Ao12 t273.length co12) ∧ nb k_ (.slice Ao30 y283.length co30) ∧ nb k_ (v288))) (upR' (Kd.R_mono HO299.out (fun _ hk => ⟨⟨hk.2.2.2.1, ⟨hk.2.2.2.2.1, ⟨hk.2.2.2.2.2, ⟨hk.1, hk.2.1⟩⟩⟩⟩, hk.2.2.1⟩))) hg hat)
        have n8_ := Q0_ (hb)
        have n9_ := Q0_ (ho)
        clear HO_278000 HO_278003 HO_278004 BK277 HO285 BK286 HO289 HO299 HB HO296; revert n0_ n1_ n2_ n3_ n4_ n5_ n6_ n7_ n8_ n9_; intro HO_278000 HO_278003 HO_278004 BK277 HO285 BK286 HO289 HO299 HB HO302
        clear ho hb hg hat
        obtain ⟨Ao45, co45, eo45⟩ := Kd.R_slice HO302.out
        (first | subst eo45 | (injection eo45 with f1_ f2_ f3_; have f4_ := f1_.symm; have f5_ := f3_.symm; clear f1_ f2_ f3_; subst f4_; subst f5_))
        refine hK.out _ _ ⟨(blk_cell BK277.out 0).trans rfl, (blk_cell BK277.out 1).trans rfl, (blk_cell BK277.out 2).trans rfl, (blk_cell BK277.out 3).trans rfl, (blk_cell BK277.out 4).trans rfl⟩ (fun hHeld => ?_)
        clear hK K
        refine norm_ (a' := ?_) ?_ ?_
        rotate_left
        ·show Act.put _ (some 76) _ = _
         simp only [Act.put, sI, s0, sS, i64_w, i32_w]
         rfl
        refine pure_ (i := 14) (N := some 79) (v := ?_) (a' := ?_) #[tt,tt,tt,tt,tt,tt,tt,tt,tt,tt,tt,tt,tt,tt,tt,ff,ff] rfl rfl (any_of HT_.out (by kernel_rfl)) (fun _ _ _ h => h) (Or.inl ⟨by rfl, ?_⟩) ?_ ?_
        rotate_left
        ·intro w'
         go_simp
         with_reducible rfl
        rotate_left
        ·simp only [Act.put, sI, s0, sS, i64_w, i32_w]
         rfl
        exact norm_ (by first | (simp only [putAll, Act.put, sI, s0, sS]; done) | (simp only [putAll, Act.put, sI, s0, sS]; rfl)) (hJ4_7_10_11 (v292, v295, .slice Ao44 y297.length co44, .slice Ao45 y300.length co45) _ ⟨hHeld, (upR' (Kd.R_mono HO285.out (fun _ hk => ⟨hk.1.2.2.2.1, ⟨hk.1.2.2.2.2, ⟨hk.2, ⟨hk.1.1, ⟨hk.1.2.1, hk.1.2.2.1⟩⟩⟩⟩⟩))), (upR' (Kd.R_mono HO289.out (fun _ hk => ⟨hk.1.2.2.2.1, ⟨hk.1.2.2.2.2, ⟨hk.2, ⟨hk.1.1, ⟨hk.1.2.1, hk.1.2.2.1⟩⟩⟩⟩⟩))), (upR' (Kd.R_mono HO299.out (fun _ hk => ⟨hk.1.2.2.2.1, ⟨hk.1.2.2.2.2, ⟨hk.2, ⟨hk.1.1, ⟨hk.1.2.1, hk.1.2.2.1⟩⟩⟩⟩⟩))), (upR' (Kd.R_mono HO302.out (fun _ hk => ⟨hk.2.2.2.1, ⟨hk.2.2.2.2.1, ⟨hk.2.2.2.2.2, ⟨hk.1, ⟨hk.2.1, hk.2.2.1⟩⟩⟩⟩⟩))), (upR' (Kd.R_mono HO_278000.out (fun _ hk => ⟨hk.1.2.2.1, ⟨hk.1.2.2.2.1, ⟨hk.1.2.2.2.2, ⟨hk.2, ⟨hk.1.1, hk.1.2.1⟩⟩⟩⟩⟩))), (upR' (Kd.R_mono HO_278003.out (fun _ hk => ⟨hk.1.2.2.1, ⟨hk.1.2.2.2.1, ⟨hk.1.2.2.2.2, ⟨hk.2, ⟨hk.1.1, hk.1.2.1⟩⟩⟩⟩⟩))), (upR' (Kd.R_mono HO_278004.out (fun _ hk => ⟨hk.1.2.2.1, ⟨hk.1.2.2.2.1, ⟨hk.1.2.2.2.2, ⟨hk.2, ⟨hk.1.1, hk.1.2.1⟩⟩⟩⟩⟩))), (upK BK277), (upK BK286), upH⟩)
       ·skip
        refine box_step ?hg (N := 14) ?hd (cs := #[.slice none 0 0, .int .i64 0, .bool false, .slice none 0 0, .slice none 0 0]) (t := 27) ?hr ?_; (case hd => rfl); (case hg => rfl); (case hr => first | (go_simp; done) | (go_simp; rfl))
        intro gb303 hg w43 hbox hb
        have n0_ := Q0_ (Kd.R_below (upR HO_278000) hb)
        have n1_ := Q0_ (Kd.R_below (upR HO_278003) hb)
        have n2_ := Q0_ (Kd.R_below (upR HO_278004) hb)
        have n3_ := Q0_ (Kd.R_below (upR HO285) hb)
        have n4_ := Q0_ (Kd.R_below (upR HO289) hb)
        have n5_ := Q0_ (Kd.R_below (upR HO296) hb)
        have n6_ := Q0_ (Kd.R_below (upR HO299) hb)
        have n7_ := Q0_ (blk_below (upK BK277) hb)
        have n8_ := Q0_ (blk_below (upK BK286) hb)
        have n9_ := Q0_ (below_step upH hb)
        have n10_ := Q0_ (hbox)
        have n11_ := Q0_ ((by rw [hg]; exact (below_size upH) : w.heap.size ≤ gb303))
        have n12_ := Q0_ ((by rw [hg]; exact (below_size upH) : w.heap.size ≤ gb303))
        have n13_ := Q0_ ((by rw [hg]; exact Nat.ne_of_lt (blk_lt (upK BK277)) : gb277 ≠ gb303))
        have n14_ := Q0_ ((by rw [hg]; exact Nat.ne_of_gt (blk_lt (upK BK277)) : gb303 ≠ gb277))
        have n15_ := Q0_ ((by rw [hg]; exact Nat.ne_of_lt (blk_lt (upK BK286)) : gb286 ≠ gb303))
        have n16_ := Q0_ ((by rw [hg]; exact Nat.ne_of_gt (blk_lt (upK BK286)) : gb303 ≠ gb286))
        clear HO_278000 HO_278003 HO_278004 HO285 HO289 HO296 HO299 BK277 BK286 HB; revert n0_ n1_ n2_ n3_ n4_ n5_ n6_ n7_ n8_ n9_ n10_ n11_ n12_ n13_ n14_ n15_ n16_; intro HO_278000 HO_278003 HO_278004 HO285 HO289 HO296 HO299 BK277 BK286 HB BK303 GW303 GE303 NB277_303 NB303_277 NB286_303 NB303_286
        clear hb hbox hg
        refine hK.out _ _ ⟨(blk_cell BK277.out 0).trans rfl, (blk_cell BK277.out 1).trans rfl, (blk_cell BK277.out 2).trans rfl, (blk_cell BK277.out 3).trans rfl, (blk_cell BK277.out 4).trans rfl⟩ (fun hHeld => ?_)
        clear hK K
        refine norm_ (a' := ?_) ?_ ?_
        rotate_left
        ·show Act.put _ (some 14) _ = _
         simp only [Act.put, sI, s0, sS, i64_w, i32_w]
         rfl
        exact norm_ (by first | (simp only [putAll, Act.put, sI, s0, sS]; done) | (simp only [putAll, Act.put, sI, s0, sS]; rfl)) (hJ4_7_10_15 (v292, v295, _, gb303) _ ⟨hHeld, (upR HO285), (upR HO289), (upR HO296), (upR HO299), (upR HO_278000), (upR HO_278003), (upR HO_278004), (upK BK277), (upK BK286), (upK BK303), GW303.out, GE303.out, NB277_303.out, NB303_277.out, NB286_303.out, NB303_286.out, upH⟩)
     ·skip
      rintro ⟨v292, v295, v298, gb303⟩ w43 ⟨hS_, h0_, h1_, h2_, h3_, h4_, h5_, h6_, h7_, h8_, h9_, h10_, h11_, h12_, h13_, h14_, h15_, h16_⟩
      try dsimp only at h0_ h1_ h2_ h3_ h4_ h5_ h6_ h7_ h8_ h9_ h10_ h11_ h12_ h13_ h14_ h15_ h16_
      have n0_ := Q0_ h0_
      have n1_ := Q0_ h1_
      have n2_ := Q0_ h2_
      have n3_ := Q0_ h3_
      have n4_ := Q0_ h4_
      have n5_ := Q0_ h5_
      have n6_ := Q0_ h6_
      have n7_ := Q0_ h7_
      have n8_ := Q0_ h8_
      have n9_ := Q0_ h9_
      have n10_ := Q0_ h10_
      have n11_ := Q0_ h11_
      have n12_ := Q0_ h12_
      have n13_ := Q0_ h13_
      have n14_ := Q0_ h14_
      have n15_ := Q0_ h15_
      have n16_ := Q0_ h16_
      clear HO_278000
      clear HO_278003
      clear HO_278004
      clear HO285
      clear HO289
      clear BK277
      clear BK286
      clear HB
      clear h0_ h1_ h2_ h3_ h4_ h5_ h6_ h7_ h8_ h9_ h10_ h11_ h12_ h13_ h14_ h15_ h16_
      have HO285 := n0_
      have HO289 := n1_
      have HO296 := n2_
      have HO299 := n3_
      have HO_278000 := n4_
      have HO_278003 := n5_
      have HO_278004 := n6_
      have BK277 := n7_
      have BK286 := n8_
      have BK303 := n9_
      have GW303 := n10_
      have GE303 := n11_
      have NB277_303 := n12_
      have NB303_277 := n13_
      have NB286_303 := n14_
      have NB303_286 := n15_
      have HB := n16_
      clear n0_ n1_ n2_ n3_ n4_ n5_ n6_ n7_ n8_ n9_ n10_ n11_ n12_ n13_ n14_ n15_ n16_
      have hHeld : w43.cell? ⟨gb277, 0, none⟩ = some (.slice Ao9 t265.length co9) ∧ w43.cell? ⟨gb277, 1, none⟩ = some (.int .i64 t268) ∧ w43.cell? ⟨gb277, 2, none⟩ = some (.bool t269) ∧ w43.cell? ⟨gb277, 3, none⟩ = some (.slice Ao11 t270.length co11) ∧ w43.cell? ⟨gb277, 4, none⟩ = some (.slice Ao12 t273.length co12) := hS_
      obtain ⟨Ao45, co45, eo45⟩ := Kd.R_slice HO299.out
      (first | subst eo45 | (injection eo45 with f1_ f2_ f3_; have f4_ := f1_.symm; have f5_ := f3_.symm; clear f1_ f2_ f3_; subst f4_; subst f5_))
      refine norm_ (a' := ?_) ?_ ?_
      rotate_left
      ·simp only [putAll, Act.put, sI, s0, sS]
       rfl
      refine one_ (i := 11) (N := some 76) #[tt,tt,tt,tt,tt,tt,tt,tt,tt,tt,tt,tt,tt,tt,ff,tt,ff] rfl rfl (one_of HT_.out (by kernel_rfl)) (by decide) (fun K hK => ?_)
      refine Kd.R_append_rows_step k25 (w0 := w) w.heap.size (by rfl) (.tmp 72) (.tmp 75) 23 25 (.agg #[(.int .i64 0), (.bool false)]) 16 rfl Tryd.underlying23 info25 rfl (by decide) (by omega) v295 y294 y297 _ _ _ (fun k_ => nb k_ (.slice Ao9 t265.length co9) ∧ nb k_ (.slice Ao11 t270.length co11) ∧ nb k_ (.slice Ao12 t273.length co12) ∧ nb k_ (.slice Ao30 y283.length co30) ∧ nb k_ (v288) ∧ nb k_ (.slice Ao45 y297.length co45)) (fun _ => False) rfl rfl ?aO ?aR (fun _ _ h => h) (fun _ h => h.elim) ?aF ?aB ?aS ?aL ?_
      (case aR => repeat (first | exact (Kd.R_reads' HO299.out).2.2 | (with_reducible refine Kd.C_alloc ?_ _) | (with_reducible refine Kd.C_drewN ?_ _) | (with_reducible refine Kd.C_drew ?_)))
      (case aB => exact upH)
      (case aF => exact (fun k_ hk => ⟨Kd.fresh' (Kd.R_lt (upR HO_278000)) k_ hk, Kd.fresh' (Kd.R_lt (upR HO_278003)) k_ hk, Kd.fresh' (Kd.R_lt (upR HO_278004)) k_ hk, Kd.fresh' (Kd.R_lt (upR HO285)) k_ hk, Kd.fresh' (Kd.R_lt (upR HO289)) k_ hk, Kd.fresh' (Kd.R_lt (upR HO299)) k_ hk⟩))
      (case aO => exact (upR' (Kd.R_mono HO296.out (fun _ hk => ⟨hk.2.2.2.1, ⟨hk.2.2.2.2.1, ⟨hk.2.2.2.2.2, ⟨hk.1, ⟨hk.2.1, hk.2.2.1⟩⟩⟩⟩⟩))))
      (case aS => exact (below_size upH))
      (case aL => have := LMc24.out; omega)
      intro v301 w44 ho hb hg hat
      rw [← Ny300.out] at ho
      have n0_ := Q0_ (Kd.R_after (ok := (fun k_ => nb k_ (.slice Ao11 t270.length co11) ∧ nb k_ (.slice Ao12 t273.length co12) ∧ nb k_ (.slice Ao30 y283.length co30) ∧ nb k_ (v288) ∧ nb k_ (.slice Ao45 y297.length co45))) (upR' (Kd.R_mono HO_278000.out (fun _ hk => ⟨⟨hk.2.2.2.2.1, ⟨hk.2.2.2.2.2, ⟨hk.1, ⟨hk.2.1, hk.2.2.2.1⟩⟩⟩⟩, hk.2.2.1⟩))) hg hat)
      have n1_ := Q0_ (Kd.R_after (ok := (fun k_ => nb k_ (.slice Ao9 t265.length co9) ∧ nb k_ (.slice Ao12 t273.length co12) ∧ nb k_ (.slice Ao30 y283.length co30) ∧ nb k_ (v288) ∧ nb k_ (.slice Ao45 y297.length co45))) (upR' (Kd.R_mono HO_278003.out (fun _ hk => ⟨⟨hk.2.2.2.2.1, ⟨hk.2.2.2.2.2, ⟨hk.1, ⟨hk.2.1, hk.2.2.2.1⟩⟩⟩⟩, hk.2.2.1⟩))) hg hat)
      have n2_ := Q0_ (Kd.R_after (ok := (fun k_ => nb k_ (.slice Ao9 t265.length co9) ∧ nb k_ (.slice Ao11 t270.length co11) ∧ nb k_ (.slice Ao30 y283.length co30) ∧ nb k_ (v288) ∧ nb k_ (.slice Ao45 y297.length co45))) (upR' (Kd.R_mono HO_278004.out (fun _ hk => ⟨⟨hk.2.2.2.2.1, ⟨hk.2.2.2.2.2, ⟨hk.1, ⟨hk.2.1, hk.2.2.2.1⟩⟩⟩⟩, hk.2.2.1⟩))) hg hat)
      have n3_ := Q0_ (blk_grown (g := gb277) (o := .cells #[.slice Ao9 t265.length co9, .int .i64 t268, .bool t269, .slice Ao11 t270.length co11, .slice Ao12 t273.length co12] 27 (0, 0)) (upK BK277) hg (Kd.R_ne HO296.out BK277.out (by decide)))
      have n4_ := Q0_ (Kd.R_after (ok := (fun k_ => nb k_ (.slice Ao9 t265.length co9) ∧ nb k_ (.slice Ao11 t270.length co11) ∧ nb k_ (.slice Ao12 t273.length co12) ∧ nb k_ (v288) ∧ nb k_ (.slice Ao45 y297.length co45))) (upR' (Kd.R_mono HO285.out (fun _ hk => ⟨⟨hk.2.2.2.1, ⟨hk.2.2.2.2.1, ⟨hk.2.2.2.2.2, ⟨hk.1, hk.2.2.1⟩⟩⟩⟩, hk.2.1⟩))) hg hat)
      have n5_ := Q0_ (blk_grown (g := gb286) (o := .cells #[.slice Ao30 y283.length co30, .int .i64 t268, .bool t269, .slice Ao11 t270.length co11, .slice Ao12 t273.length co12] 27 (0, 0)) (upK BK286) hg (Kd.R_ne HO296.out BK286.out (by decide)))
      have n6_ := Q0_ (Kd.R_after (ok := (fun k_ => nb k_ (.slice Ao9 t265.length co9) ∧ nb k_ (.slice Ao11 t270.length co11) ∧ nb k_ (.slice Ao12 t273.length co12) ∧ nb k_ (.slice Ao30 y283.length co30) ∧ nb k_ (.slice Ao45 y297.length co45))) (upR' (Kd.R_mono HO289.out (fun _ hk => ⟨⟨hk.2.2.2.1, ⟨hk.2.2.2.2.1, ⟨hk.2.2.2.2.2, ⟨hk.1, hk.2.2.1⟩⟩⟩⟩, hk.2.1⟩))) hg hat)
      have n7_ := Q0_ (Kd.R_after (ok := (fun k_ => nb k_ (.slice Ao9 t265.length co9) ∧ nb k_ (.slice Ao11 t270.length co11) ∧ nb k_ (.slice Ao12 t273.length co12) ∧ nb k_ (.slice Ao30 y283.length co30) ∧ nb k_ (v288))) (upR' (Kd.R_mono HO299.out (fun _ hk => ⟨⟨hk.2.2.2.1, ⟨hk.2.2.2.2.1, ⟨hk.2.2.2.2.2, ⟨hk.1, hk.2.1⟩⟩⟩⟩, hk.2.2.1⟩))) hg hat)
      have n8_ := Q0_ (blk_grown (g := gb303) (o := .cells #[.slice none 0 0, .int .i64 0, .bool false, .slice none 0 0, .slice none 0 0] 27 (0, 0)) (upK BK303) hg (Kd.R_ne HO296.out BK303.out (by decide)))
      have n9_ := Q0_ (hb)
      have n10_ := Q0_ (ho)
      clear HO_278000 HO_278003 HO_278004 BK277 HO285 BK286 HO289 HO299 BK303 HB HO296; revert n0_ n1_ n2_ n3_ n4_ n5_ n6_ n7_ n8_ n9_ n10_; intro HO_278000 HO_278003 HO_278004 BK277 HO285 BK286 HO289 HO299 BK303 HB HO302
      clear ho hb hg hat
      obtain ⟨Ao46, co46, eo46⟩ := Kd.R_slice HO302.out
      (first | subst eo46 | (injection eo46 with f1_ f2_ f3_; have f4_ := f1_.symm; have f5_ := f3_.symm; clear f1_ f2_ f3_; subst f4_; subst f5_))
      refine hK.out _ _ ⟨(blk_cell BK277.out 0).trans rfl, (blk_cell BK277.out 1).trans rfl, (blk_cell BK277.out 2).trans rfl, (blk_cell BK277.out 3).trans rfl, (blk_cell BK277.out 4).trans rfl⟩ (fun hHeld => ?_)
      clear hK K
      refine norm_ (a' := ?_) ?_ ?_
      rotate_left
      ·show Act.put _ (some 76) _ = _
       simp only [Act.put, sI, s0, sS, i64_w, i32_w]
       rfl
      refine pure_ (i := 14) (N := some 79) (v := ?_) (a' := ?_) #[tt,tt,tt,tt,tt,tt,tt,tt,tt,tt,tt,tt,tt,tt,tt,tt,ff] rfl rfl (any_of HT_.out (by kernel_rfl)) (fun _ _ _ h => h) (Or.inl ⟨by rfl, ?_⟩) ?_ ?_
      rotate_left
      ·intro w'
       go_simp
       with_reducible rfl
      rotate_left
      ·simp only [Act.put, sI, s0, sS, i64_w, i32_w]
       rfl
      exact norm_ (by first | (simp only [putAll, Act.put, sI, s0, sS]; done) | (simp only [putAll, Act.put, sI, s0, sS]; rfl)) (hJ4_7_10_11_15 (v292, v295, .slice Ao45 y297.length co45, .slice Ao46 y300.length co46, gb303) _ ⟨hHeld, (upR' (Kd.R_mono HO285.out (fun _ hk => ⟨hk.1.2.2.2.1, ⟨hk.1.2.2.2.2, ⟨hk.2, ⟨hk.1.1, ⟨hk.1.2.1, hk.1.2.2.1⟩⟩⟩⟩⟩))), (upR' (Kd.R_mono HO289.out (fun _ hk => ⟨hk.1.2.2.2.1, ⟨hk.1.2.2.2.2, ⟨hk.2, ⟨hk.1.1, ⟨hk.1.2.1, hk.1.2.2.1⟩⟩⟩⟩⟩))), (upR' (Kd.R_mono HO299.out (fun _ hk => ⟨hk.1.2.2.2.1, ⟨hk.1.2.2.2.2, ⟨hk.2, ⟨hk.1.1, ⟨hk.1.2.1, hk.1.2.2.1⟩⟩⟩⟩⟩))), (upR' (Kd.R_mono HO302.out (fun _ hk => ⟨hk.2.2.2.1, ⟨hk.2.2.2.2.1, ⟨hk.2.2.2.2.2, ⟨hk.1, ⟨hk.2.1, hk.2.2.1⟩⟩⟩⟩⟩))), (upR' (Kd.R_mono HO_278000.out (fun _ hk => ⟨hk.1.2.2.1, ⟨hk.1.2.2.2.1, ⟨hk.1.2.2.2.2, ⟨hk.2, ⟨hk.1.1, hk.1.2.1⟩⟩⟩⟩⟩))), (upR' (Kd.R_mono HO_278003.out (fun _ hk => ⟨hk.1.2.2.1, ⟨hk.1.2.2.2.1, ⟨hk.1.2.2.2.2, ⟨hk.2, ⟨hk.1.1, hk.1.2.1⟩⟩⟩⟩⟩))), (upR' (Kd.R_mono HO_278004.out (fun _ hk => ⟨hk.1.2.2.1, ⟨hk.1.2.2.2.1, ⟨hk.1.2.2.2.2, ⟨hk.2, ⟨hk.1.1, hk.1.2.1⟩⟩⟩⟩⟩))), (upK BK277), (upK BK286), (upK BK303), GW303.out, GE303.out, NB277_303.out, NB303_277.out, NB286_303.out, NB303_286.out, upH⟩)
    ·skip
     rintro ⟨v292, v295, v298, v301⟩ w45 ⟨hS_, h0_, h1_, h2_, h3_, h4_, h5_, h6_, h7_, h8_, h9_⟩
     try dsimp only at h0_ h1_ h2_ h3_ h4_ h5_ h6_ h7_ h8_ h9_
     have n0_ := Q0_ h0_
     have n1_ := Q0_ h1_
     have n2_ := Q0_ h2_
     have n3_ := Q0_ h3_
     have n4_ := Q0_ h4_
     have n5_ := Q0_ h5_
     have n6_ := Q0_ h6_
     have n7_ := Q0_ h7_
     have n8_ := Q0_ h8_
     have n9_ := Q0_ h9_
     clear HO_278000
     clear HO_278003
     clear HO_278004
     clear HO285
     clear HO289
     clear BK277
     clear BK286
     clear HB
     clear h0_ h1_ h2_ h3_ h4_ h5_ h6_ h7_ h8_ h9_
     have HO285 := n0_
     have HO289 := n1_
     have HO299 := n2_
     have HO302 := n3_
     have HO_278000 := n4_
     have HO_278003 := n5_
     have HO_278004 := n6_
     have BK277 := n7_
     have BK286 := n8_
     have HB := n9_
     clear n0_ n1_ n2_ n3_ n4_ n5_ n6_ n7_ n8_ n9_
     have hHeld : w45.cell? ⟨gb277, 0, none⟩ = some (.slice Ao9 t265.length co9) ∧ w45.cell? ⟨gb277, 1, none⟩ = some (.int .i64 t268) ∧ w45.cell? ⟨gb277, 2, none⟩ = some (.bool t269) ∧ w45.cell? ⟨gb277, 3, none⟩ = some (.slice Ao11 t270.length co11) ∧ w45.cell? ⟨gb277, 4, none⟩ = some (.slice Ao12 t273.length co12) := hS_
     obtain ⟨Ao46, co46, eo46⟩ := Kd.R_slice HO302.out
     (first | subst eo46 | (injection eo46 with f1_ f2_ f3_; have f4_ := f1_.symm; have f5_ := f3_.symm; clear f1_ f2_ f3_; subst f4_; subst f5_))
     refine norm_ (a' := ?_) ?_ ?_
     rotate_left
     ·simp only [putAll, Act.put, sI, s0, sS]
      rfl
     refine one_ (i := 15) (N := some 14) #[tt,tt,tt,tt,tt,tt,tt,tt,tt,tt,tt,tt,tt,tt,tt,tt,ff] rfl rfl (one_of HT_.out (by kernel_rfl)) (by decide) (fun K hK => ?_)
     refine box_step ?hg (N := 14) ?hd (cs := #[.slice none 0 0, .int .i64 0, .bool false, .slice none 0 0, .slice none 0 0]) (t := 27) ?hr ?_; (case hd => rfl); (case hg => rfl); (case hr => first | (go_simp; done) | (go_simp; rfl))
     intro gb303 hg w47 hbox hb
     have n0_ := Q0_ (Kd.R_below (upR HO_278000) hb)
     have n1_ := Q0_ (Kd.R_below (upR HO_278003) hb)
     have n2_ := Q0_ (Kd.R_below (upR HO_278004) hb)
     have n3_ := Q0_ (Kd.R_below (upR HO285) hb)
     have n4_ := Q0_ (Kd.R_below (upR HO289) hb)
     have n5_ := Q0_ (Kd.R_below (upR HO299) hb)
     have n6_ := Q0_ (Kd.R_below (upR HO302) hb)
     have n7_ := Q0_ (blk_below (upK BK277) hb)
     have n8_ := Q0_ (blk_below (upK BK286) hb)
     have n9_ := Q0_ (below_step upH hb)
     have n10_ := Q0_ (hbox)
     have n11_ := Q0_ ((by rw [hg]; exact (below_size upH) : w.heap.size ≤ gb303))
     have n12_ := Q0_ ((by rw [hg]; exact (below_size upH) : w.heap.size ≤ gb303))
     have n13_ := Q0_ ((by rw [hg]; exact Nat.ne_of_lt (blk_lt (upK BK277)) : gb277 ≠ gb303))
     have n14_ := Q0_ ((by rw [hg]; exact Nat.ne_of_gt (blk_lt (upK BK277)) : gb303 ≠ gb277))
     have n15_ := Q0_ ((by rw [hg]; exact Nat.ne_of_lt (blk_lt (upK BK286)) : gb286 ≠ gb303))
     have n16_ := Q0_ ((by rw [hg]; exact Nat.ne_of_gt (blk_lt (upK BK286)) : gb303 ≠ gb286))
     clear HO_278000 HO_278003 HO_278004 HO285 HO289 HO299 HO302 BK277 BK286 HB; revert n0_ n1_ n2_ n3_ n4_ n5_ n6_ n7_ n8_ n9_ n10_ n11_ n12_ n13_ n14_ n15_ n16_; intro HO_278000 HO_278003 HO_278004 HO285 HO289 HO299 HO302 BK277 BK286 HB BK303 GW303 GE303 NB277_303 NB303_277 NB286_303 NB303_286
     clear hb hbox hg
     refine hK.out _ _ ⟨(blk_cell BK277.out 0).trans rfl, (blk_cell BK277.out 1).trans rfl, (blk_cell BK277.out 2).trans rfl, (blk_cell BK277.out 3).trans rfl, (blk_cell BK277.out 4).trans rfl⟩ (fun hHeld => ?_)
     clear hK K
     refine norm_ (a' := ?_) ?_ ?_
     rotate_left
     ·show Act.put _ (some 14) _ = _
      simp only [Act.put, sI, s0, sS, i64_w, i32_w]
      rfl
     exact norm_ (by first | (simp only [putAll, Act.put, sI, s0, sS]; done) | (simp only [putAll, Act.put, sI, s0, sS]; rfl)) (hJ4_7_10_11_15 (v292, v295, v298, .slice Ao46 y300.length co46, gb303) _ ⟨hHeld, (upR HO285), (upR HO289), (upR HO299), (upR HO302), (upR HO_278000), (upR HO_278003), (upR HO_278004), (upK BK277), (upK BK286), (upK BK303), GW303.out, GE303.out, NB277_303.out, NB303_277.out, NB286_303.out, NB303_286.out, upH⟩)
   rintro ⟨v292, v295, v298, v301, gb303⟩ w46 ⟨hS_, h0_, h1_, h2_, h3_, h4_, h5_, h6_, h7_, h8_, h9_, h10_, h11_, h12_, h13_, h14_, h15_, h16_⟩
   try dsimp only at h0_ h1_ h2_ h3_ h4_ h5_ h6_ h7_ h8_ h9_ h10_ h11_ h12_ h13_ h14_ h15_ h16_
   have n0_ := Q0_ h0_
   have n1_ := Q0_ h1_
   have n2_ := Q0_ h2_
   have n3_ := Q0_ h3_
   have n4_ := Q0_ h4_
   have n5_ := Q0_ h5_
   have n6_ := Q0_ h6_
   have n7_ := Q0_ h7_
   have n8_ := Q0_ h8_
   have n9_ := Q0_ h9_
   have n10_ := Q0_ h10_
   have n11_ := Q0_ h11_
   have n12_ := Q0_ h12_
   have n13_ := Q0_ h13_
   have n14_ := Q0_ h14_
   have n15_ := Q0_ h15_
   have n16_ := Q0_ h16_
   clear HO_278000
   clear HO_278003
   clear HO_278004
   clear HO285
   clear HO289
   clear BK277
   clear BK286
   clear HB
   clear h0_ h1_ h2_ h3_ h4_ h5_ h6_ h7_ h8_ h9_ h10_ h11_ h12_ h13_ h14_ h15_ h16_
   have HO285 := n0_
   have HO289 := n1_
   have HO299 := n2_
   have HO302 := n3_
   have HO_278000 := n4_
   have HO_278003 := n5_
   have HO_278004 := n6_
   have BK277 := n7_
   have BK286 := n8_
   have BK303 := n9_
   have GW303 := n10_
   have GE303 := n11_
   have NB277_303 := n12_
   have NB303_277 := n13_
   have NB286_303 := n14_
   have NB303_286 := n15_
   have HB := n16_
   clear n0_ n1_ n2_ n3_ n4_ n5_ n6_ n7_ n8_ n9_ n10_ n11_ n12_ n13_ n14_ n15_ n16_
   have hHeld : w46.cell? ⟨gb277, 0, none⟩ = some (.slice Ao9 t265.length co9) ∧ w46.cell? ⟨gb277, 1, none⟩ = some (.int .i64 t268) ∧ w46.cell? ⟨gb277, 2, none⟩ = some (.bool t269) ∧ w46.cell? ⟨gb277, 3, none⟩ = some (.slice Ao11 t270.length co11) ∧ w46.cell? ⟨gb277, 4, none⟩ = some (.slice Ao12 t273.length co12) := hS_
   obtain ⟨Ao47, co47, eo47⟩ := Kd.R_slice HO302.out
   (first | subst eo47 | (injection eo47 with f1_ f2_ f3_; have f4_ := f1_.symm; have f5_ := f3_.symm; clear f1_ f2_ f3_; subst f4_; subst f5_))
   refine norm_ (a' := ?_) ?_ ?_
   rotate_left
   ·simp only [putAll, Act.put, sI, s0, sS]
    rfl
   refine one_ (i := 16) (N := none) #[tt,tt,tt,tt,tt,tt,tt,tt,tt,tt,tt,tt,tt,tt,tt,tt,tt] rfl rfl (one_of HT_.out (by kernel_rfl)) (by decide) (fun K hK => ?_)
   have hs48 : w46.cell? ⟨gb303, 0, none⟩ = some (.slice none 0 0) := (blk_cell BK303.out 0).trans rfl
   have hfs48 := blk_frozen BK303.out 0
   have hns48_0 := NB277_303.out
   have hns48_1 := NB286_303.out
   have hms48_0 := NB303_277.out
   have hms48_1 := NB303_286.out
   have hs49 : w46.cell? ⟨gb303, 1, none⟩ = some (.int .i64 0) := (blk_cell BK303.out 1).trans rfl
   have hfs49 := blk_frozen BK303.out 1
   have hns49_0 := NB277_303.out
   have hns49_1 := NB286_303.out
   have hms49_0 := NB303_277.out
   have hms49_1 := NB303_286.out
   have hs50 : w46.cell? ⟨gb303, 2, none⟩ = some (.bool false) := (blk_cell BK303.out 2).trans rfl
   have hfs50 := blk_frozen BK303.out 2
   have hns50_0 := NB277_303.out
   have hns50_1 := NB286_303.out
   have hms50_0 := NB303_277.out
   have hms50_1 := NB303_286.out
   have hs51 : w46.cell? ⟨gb303, 3, none⟩ = some (.slice none 0 0) := (blk_cell BK303.out 3).trans rfl
   have hfs51 := blk_frozen BK303.out 3
   have hns51_0 := NB277_303.out
   have hns51_1 := NB286_303.out
   have hms51_0 := NB303_277.out
   have hms51_1 := NB303_286.out
   have hs52 : w46.cell? ⟨gb303, 4, none⟩ = some (.slice none 0 0) := (blk_cell BK303.out 4).trans rfl
   have hfs52 := blk_frozen BK303.out 4
   have hns52_0 := NB277_303.out
   have hns52_1 := NB286_303.out
   have hms52_0 := NB303_277.out
   have hms52_1 := NB303_286.out
   refine skip_ (w1 := ?_) (by rfl) rfl ?_ ?_
   rotate_left
   ·go_simp
    rfl
   refine hK.out _ _ ⟨((cell_far (p := ⟨gb303, _, none⟩) NB277_303.out _).trans (((cell_far (p := ⟨gb303, _, none⟩) NB277_303.out _).trans (((cell_far (p := ⟨gb303, _, none⟩) NB277_303.out _).trans (((cell_far (p := ⟨gb303, _, none⟩) NB277_303.out _).trans (((cell_far (p := ⟨gb303, _, none⟩) NB277_303.out _).trans (hHeld.1)))))))))), ((cell_far (p := ⟨gb303, _, none⟩) NB277_303.out _).trans (((cell_far (p := ⟨gb303, _, none⟩) NB277_303.out _).trans (((cell_far (p := ⟨gb303, _, none⟩) NB277_303.out _).trans (((cell_far (p := ⟨gb303, _, none⟩) NB277_303.out _).trans (((cell_far (p := ⟨gb303, _, none⟩) NB277_303.out _).trans (hHeld.2.1)))))))))), ((cell_far (p := ⟨gb303, _, none⟩) NB277_303.out _).trans (((cell_far (p := ⟨gb303, _, none⟩) NB277_303.out _).trans (((cell_far (p := ⟨gb303, _, none⟩) NB277_303.out _).trans (((cell_far (p := ⟨gb303, _, none⟩) NB277_303.out _).trans (((cell_far (p := ⟨gb303, _, none⟩) NB277_303.out _).trans (hHeld.2.2.1)))))))))), ((cell_far (p := ⟨gb303, _, none⟩) NB277_303.out _).trans (((cell_far (p := ⟨gb303, _, none⟩) NB277_303.out _).trans (((cell_far (p := ⟨gb303, _, none⟩) NB277_303.out _).trans (((cell_far (p := ⟨gb303, _, none⟩) NB277_303.out _).trans (((cell_far (p := ⟨gb303, _, none⟩) NB277_303.out _).trans (hHeld.2.2.2.1)))))))))), ((cell_far (p := ⟨gb303, _, none⟩) NB277_303.out _).trans (((cell_far (p := ⟨gb303, _, none⟩) NB277_303.out _).trans (((cell_far (p := ⟨gb303, _, none⟩) NB277_303.out _).trans (((cell_far (p := ⟨gb303, _, none⟩) NB277_303.out _).trans (((cell_far (p := ⟨gb303, _, none⟩) NB277_303.out _).trans (hHeld.2.2.2.2))))))))))⟩ (fun hHeld => ?_)
   clear hK K
   refine done_ (done_of HT_.out (by kernel_rfl)) ?_
   go_upto_region 13 with (fail)
   go_cut [15] (fun v15 wc => ∃ (kq : Nat) (x15_24 : Bool), v15 = .bool x15_24 ∧ Aside0 (laws_FnPsalmFits.j1 kq t276 t282 (((t280 ++ (⟨#[120, 124]⟩ : ByteArray)) ++ t281) ++ (⟨#[47]⟩ : ByteArray)) t290 x15_24 t265 t268 t269 t270 t273 y283 t268 t269 t270 t273 t265 t268 t269 y300 t273 = some r) ∧ Aside0 (kq ≤ kj5) ∧ Aside0 (Kd.R k25 25 wc w.heap.size (fun k_ => nb k_ ((.slice Ao11 t270.length co11)) ∧ nb k_ ((.slice Ao12 t273.length co12)) ∧ nb k_ ((.slice Ao30 y283.length co30)) ∧ nb k_ ((.slice Ao11 t270.length co11)) ∧ nb k_ ((.slice Ao12 t273.length co12)) ∧ nb k_ ((.slice Ao47 y300.length co47)) ∧ nb k_ ((.slice Ao12 t273.length co12))) (.slice Ao9 t265.length co9) t265) ∧ Aside0 (Kd.R k25 25 wc w.heap.size (fun k_ => nb k_ ((.slice Ao9 t265.length co9)) ∧ nb k_ ((.slice Ao12 t273.length co12)) ∧ nb k_ ((.slice Ao30 y283.length co30)) ∧ nb k_ ((.slice Ao12 t273.length co12)) ∧ nb k_ ((.slice Ao9 t265.length co9)) ∧ nb k_ ((.slice Ao47 y300.length co47)) ∧ nb k_ ((.slice Ao12 t273.length co12))) (.slice Ao11 t270.length co11) t270) ∧ Aside0 (Kd.R k25 25 wc w.heap.size (fun k_ => nb k_ ((.slice Ao9 t265.length co9)) ∧ nb k_ ((.slice Ao11 t270.length co11)) ∧ nb k_ ((.slice Ao30 y283.length co30)) ∧ nb k_ ((.slice Ao11 t270.length co11)) ∧ nb k_ ((.slice Ao9 t265.length co9)) ∧ nb k_ ((.slice Ao47 y300.length co47))) (.slice Ao12 t273.length co12) t273) ∧ Aside0 (Kd.R k25 25 wc w.heap.size (fun k_ => nb k_ ((.slice Ao9 t265.length co9)) ∧ nb k_ ((.slice Ao11 t270.length co11)) ∧ nb k_ ((.slice Ao12 t273.length co12)) ∧ nb k_ ((.slice Ao11 t270.length co11)) ∧ nb k_ ((.slice Ao12 t273.length co12)) ∧ nb k_ ((.slice Ao9 t265.length co9)) ∧ nb k_ ((.slice Ao47 y300.length co47)) ∧ nb k_ ((.slice Ao12 t273.length co12))) (.slice Ao30 y283.length co30) y283) ∧ Aside0 (Kd.R k25 25 wc w.heap.size (fun k_ => nb k_ ((.slice Ao9 t265.length co9)) ∧ nb k_ ((.slice Ao12 t273.length co12)) ∧ nb k_ ((.slice Ao30 y283.length co30)) ∧ nb k_ ((.slice Ao12 t273.length co12)) ∧ nb k_ ((.slice Ao9 t265.length co9)) ∧ nb k_ ((.slice Ao47 y300.length co47)) ∧ nb k_ ((.slice Ao12 t273.length co12))) (.slice Ao11 t270.length co11) t270) ∧ Aside0 (Kd.R k25 25 wc w.heap.size (fun k_ => nb k_ ((.slice Ao9 t265.length co9)) ∧ nb k_ ((.slice Ao11 t270.length co11)) ∧ nb k_ ((.slice Ao30 y283.length co30)) ∧ nb k_ ((.slice Ao11 t270.length co11)) ∧ nb k_ ((.slice Ao9 t265.length co9)) ∧ nb k_ ((.slice Ao47 y300.length co47))) (.slice Ao12 t273.length co12) t273) ∧ Aside0 (Kd.R k25 25 wc w.heap.size (fun k_ => nb k_ ((.slice Ao11 t270.length co11)) ∧ nb k_ ((.slice Ao12 t273.length co12)) ∧ nb k_ ((.slice Ao30 y283.length co30)) ∧ nb k_ ((.slice Ao11 t270.length co11)) ∧ nb k_ ((.slice Ao12 t273.length co12)) ∧ nb k_ ((.slice Ao47 y300.length co47)) ∧ nb k_ ((.slice Ao12 t273.length co12))) (.slice Ao9 t265.length co9) t265) ∧ Aside0 (Kd.R k25 25 wc w.heap.size (fun k_ => nb k_ ((.slice Ao9 t265.length co9)) ∧ nb k_ ((.slice Ao11 t270.length co11)) ∧ nb k_ ((.slice Ao12 t273.length co12)) ∧ nb k_ ((.slice Ao30 y283.length co30)) ∧ nb k_ ((.slice Ao11 t270.length co11)) ∧ nb k_ ((.slice Ao12 t273.length co12)) ∧ nb k_ ((.slice Ao9 t265.length co9)) ∧ nb k_ ((.slice Ao12 t273.length co12))) (.slice Ao47 y300.length co47) y300) ∧ Aside0 (Kd.R k25 25 wc w.heap.size (fun k_ => nb k_ ((.slice Ao9 t265.length co9)) ∧ nb k_ ((.slice Ao11 t270.length co11)) ∧ nb k_ ((.slice Ao30 y283.length co30)) ∧ nb k_ ((.slice Ao11 t270.length co11)) ∧ nb k_ ((.slice Ao9 t265.length co9)) ∧ nb k_ ((.slice Ao47 y300.length co47))) (.slice Ao12 t273.length co12) t273) ∧ Aside0 (wc.heap[gb277]? = some (.cells #[(.slice Ao9 t265.length co9), .int .i64 t268, .bool t269, (.slice Ao11 t270.length co11), (.slice Ao12 t273.length co12)] 27 (0, 0))) ∧ Aside0 (wc.heap[gb286]? = some (.cells #[(.slice Ao30 y283.length co30), .int .i64 t268, .bool t269, (.slice Ao11 t270.length co11), (.slice Ao12 t273.length co12)] 27 (0, 0))) ∧ Aside0 (wc.heap[gb303]? = some (.cells #[(.slice Ao9 t265.length co9), .int .i64 t268, .bool t269, (.slice Ao47 y300.length co47), (.slice Ao12 t273.length co12)] 27 (0, 0))) ∧ Aside0 (Below w.heap.size w wc))
   case first =>
    have H := HC25.out
    clear HC25
    obtain ⟨t304, A530, H⟩ := Option.bind_eq_some_iff.mp H
    try dsimp only at H
    have A53 := Aside0.mk A530
    clear A530
    by_cases c54 : t304 = true
    ·subst c54
     replace H := ifP (rfl) H
     have H' := Aside0.mk H
     clear H
     have hnb55 := NB303_277.out
     have hnc55 := NB277_303.out
     have hnb56 := NB303_286.out
     have hnc56 := NB286_303.out
     have hcz57_0 : w46.cell? ⟨gb303, 0, none⟩ = some (.slice none 0 0) := (blk_cell BK303.out 0).trans rfl
     have hcz57_1 : w46.cell? ⟨gb303, 1, none⟩ = some (.int .i64 0) := (blk_cell BK303.out 1).trans rfl
     have hcz57_2 : w46.cell? ⟨gb303, 2, none⟩ = some (.bool false) := (blk_cell BK303.out 2).trans rfl
     have hcz57_3 : w46.cell? ⟨gb303, 3, none⟩ = some (.slice none 0 0) := (blk_cell BK303.out 3).trans rfl
     have hcz57_4 : w46.cell? ⟨gb303, 4, none⟩ = some (.slice none 0 0) := (blk_cell BK303.out 4).trans rfl
     have hfz57_0 := blk_frozen BK303.out 0
     have hfz57_1 := blk_frozen BK303.out 1
     have hfz57_2 := blk_frozen BK303.out 2
     have hfz57_3 := blk_frozen BK303.out 3
     have hfz57_4 := blk_frozen BK303.out 4
     go_wp2_with (first | ((with_reducible refine gate_callee (f := 20) rfl ?_); refine goesL_ (some 81) rfl rfl Tryd.func20 (by kernel_rfl) rfl #[.agg #[.slice Ao9 t265.length co9, .int .i64 t268, .bool t269, .slice Ao47 y300.length co47, .slice Ao12 t273.length co12]] rfl (by (try simp only [List.map_toArray, List.map_cons, List.map_nil]); first | done | rfl | (simp only [List.length_drop, List.length_take]; rfl)) ?_; (with_reducible refine (impl_PsalmValid.calls kj5 _ _ t265 t268 t269 _ _ y300 _ _ t273 true _ ?side1 ?side2 ?side3 ?side4 ?side5 ?side6 A53.out).mono ?_); (case side1 => refine (Kd.R_reads' (e := 25) (base := w.heap.size) (ok := fun k_ => (nb k_ (.slice Ao30 y283.length co30) ∧ (nb k_ (v288) ∧ (nb k_ (v298) ∧ (nb k_ (.slice Ao47 y300.length co47) ∧ (nb k_ (.slice Ao11 t270.length co11) ∧ nb k_ (.slice Ao12 t273.length co12))))))) (n := t265.length) (c := co9) ?_).2.2; exact (upR' ((Kd.R_mono (Kd.R_far (p := ⟨gb303, 4, none⟩) (Kd.R_far (p := ⟨gb303, 3, none⟩) (Kd.R_far (p := ⟨gb303, 2, none⟩) (Kd.R_far (p := ⟨gb303, 1, none⟩) (Kd.R_far (p := ⟨gb303, 0, none⟩) (Kd.R_types HO_278000.out BK303.out (by decide)) (fun _ hk => hk.2) (.slice Ao9 t265.length co9)) (fun _ hk => hk.2) (.int .i64 t268)) (fun _ hk => hk.2) (.bool t269)) (fun _ hk => hk.2) (.slice Ao47 y300.length co47)) (fun _ hk => hk.2) (.slice Ao12 t273.length co12)) (fun _ h_ => h_.1))))); (case side2 => exact (Kd.R_reads' HO_278000.out).2.1); (case side3 => refine (Kd.R_reads' (e := 25) (base := w.heap.size) (ok := fun k_ => (nb k_ (.slice Ao30 y283.length co30) ∧ (nb k_ (v288) ∧ (nb k_ (v298) ∧ (nb k_ (.slice Ao9 t265.length co9) ∧ (nb k_ (.slice Ao11 t270.length co11) ∧ nb k_ (.slice Ao12 t273.length co12))))))) (n := y300.length) (c := co47) ?_).2.2; exact (upR' ((Kd.R_mono (Kd.R_far (p := ⟨gb303, 4, none⟩) (Kd.R_far (p := ⟨gb303, 3, none⟩) (Kd.R_far (p := ⟨gb303, 2, none⟩) (Kd.R_far (p := ⟨gb303, 1, none⟩) (Kd.R_far (p := ⟨gb303, 0, none⟩) (Kd.R_types HO302.out BK303.out (by decide)) (fun _ hk => hk.2) (.slice Ao9 t265.length co9)) (fun _ hk => hk.2) (.int .i64 t268)) (fun _ hk => hk.2) (.bool t269)) (fun _ hk => hk.2) (.slice Ao47 y300.length co47)) (fun _ hk => hk.2) (.slice Ao12 t273.length co12)) (fun _ h_ => h_.1))))); (case side4 => exact (Kd.R_reads' HO302.out).2.1); (case side5 => refine (Kd.R_reads' (e := 25) (base := w.heap.size) (ok := fun k_ => (nb k_ (.slice Ao30 y283.length co30) ∧ (nb k_ (v288) ∧ (nb k_ (v298) ∧ (nb k_ (.slice Ao47 y300.length co47) ∧ (nb k_ (.slice Ao9 t265.length co9) ∧ nb k_ (.slice Ao11 t270.length co11))))))) (n := t273.length) (c := co12) ?_).2.2; exact (upR' ((Kd.R_mono (Kd.R_far (p := ⟨gb303, 4, none⟩) (Kd.R_far (p := ⟨gb303, 3, none⟩) (Kd.R_far (p := ⟨gb303, 2, none⟩) (Kd.R_far (p := ⟨gb303, 1, none⟩) (Kd.R_far (p := ⟨gb303, 0, none⟩) (Kd.R_types HO_278004.out BK303.out (by decide)) (fun _ hk => hk.2) (.slice Ao9 t265.length co9)) (fun _ hk => hk.2) (.int .i64 t268)) (fun _ hk => hk.2) (.bool t269)) (fun _ hk => hk.2) (.slice Ao47 y300.length co47)) (fun _ hk => hk.2) (.slice Ao12 t273.length co12)) (fun _ h_ => h_.1))))); (case side6 => exact (Kd.R_reads' HO_278004.out).2.1); rintro e w58 ⟨rfl, hb⟩; refine ⟨_, rfl, ?_⟩; have n0_ := Q0_ (Kd.R_below (upR' ((Kd.R_mono (Kd.R_far (p := ⟨gb303, 4, none⟩) (Kd.R_far (p := ⟨gb303, 3, none⟩) (Kd.R_far (p := ⟨gb303, 2, none⟩) (Kd.R_far (p := ⟨gb303, 1, none⟩) (Kd.R_far (p := ⟨gb303, 0, none⟩) (Kd.R_types HO_278000.out BK303.out (by decide)) (fun _ hk => hk.2) (.slice Ao9 t265.length co9)) (fun _ hk => hk.2) (.int .i64 t268)) (fun _ hk => hk.2) (.bool t269)) (fun _ hk => hk.2) (.slice Ao47 y300.length co47)) (fun _ hk => hk.2) (.slice Ao12 t273.length co12)) (fun _ h_ => h_.1)))) hb); have n1_ := Q0_ (Kd.R_below (upR' ((Kd.R_mono (Kd.R_far (p := ⟨gb303, 4, none⟩) (Kd.R_far (p := ⟨gb303, 3, none⟩) (Kd.R_far (p := ⟨gb303, 2, none⟩) (Kd.R_far (p := ⟨gb303, 1, none⟩) (Kd.R_far (p := ⟨gb303, 0, none⟩) (Kd.R_types HO_278003.out BK303.out (by decide)) (fun _ hk => hk.2) (.slice Ao9 t265.length co9)) (fun _ hk => hk.2) (.int .i64 t268)) (fun _ hk => hk.2) (.bool t269)) (fun _ hk => hk.2) (.slice Ao47 y300.length co47)) (fun _ hk => hk.2) (.slice Ao12 t273.length co12)) (fun _ h_ => h_.1)))) hb); have n2_ := Q0_ (Kd.R_below (upR' ((Kd.R_mono (Kd.R_far (p := ⟨gb303, 4, none⟩) (Kd.R_far (p := ⟨gb303, 3, none⟩) (Kd.R_far (p := ⟨gb303, 2, none⟩) (Kd.R_far (p := ⟨gb303, 1, none⟩) (Kd.R_far (p := ⟨gb303, 0, none⟩) (Kd.R_types HO_278004.out BK303.out (by decide)) (fun _ hk => hk.2) (.slice Ao9 t265.length co9)) (fun _ hk => hk.2) (.int .i64 t268)) (fun _ hk => hk.2) (.bool t269)) (fun _ hk => hk.2) (.slice Ao47 y300.length co47)) (fun _ hk => hk.2) (.slice Ao12 t273.length co12)) (fun _ h_ => h_.1)))) hb); have n3_ := Q0_ (Kd.R_below (upR' ((Kd.R_mono (Kd.R_far (p := ⟨gb303, 4, none⟩) (Kd.R_far (p := ⟨gb303, 3, none⟩) (Kd.R_far (p := ⟨gb303, 2, none⟩) (Kd.R_far (p := ⟨gb303, 1, none⟩) (Kd.R_far (p := ⟨gb303, 0, none⟩) (Kd.R_types HO285.out BK303.out (by decide)) (fun _ hk => hk.2) (.slice Ao9 t265.length co9)) (fun _ hk => hk.2) (.int .i64 t268)) (fun _ hk => hk.2) (.bool t269)) (fun _ hk => hk.2) (.slice Ao47 y300.length co47)) (fun _ hk => hk.2) (.slice Ao12 t273.length co12)) (fun _ h_ => h_.1)))) hb); have n4_ := Q0_ (Kd.R_below (upR' ((Kd.R_mono (Kd.R_far (p := ⟨gb303, 4, none⟩) (Kd.R_far (p := ⟨gb303, 3, none⟩) (Kd.R_far (p := ⟨gb303, 2, none⟩) (Kd.R_far (p := ⟨gb303, 1, none⟩) (Kd.R_far (p := ⟨gb303, 0, none⟩) (Kd.R_types HO289.out BK303.out (by decide)) (fun _ hk => hk.2) (.slice Ao9 t265.length co9)) (fun _ hk => hk.2) (.int .i64 t268)) (fun _ hk => hk.2) (.bool t269)) (fun _ hk => hk.2) (.slice Ao47 y300.length co47)) (fun _ hk => hk.2) (.slice Ao12 t273.length co12)) (fun _ h_ => h_.1)))) hb); have n5_ := Q0_ (Kd.R_below (upR' ((Kd.R_mono (Kd.R_far (p := ⟨gb303, 4, none⟩) (Kd.R_far (p := ⟨gb303, 3, none⟩) (Kd.R_far (p := ⟨gb303, 2, none⟩) (Kd.R_far (p := ⟨gb303, 1, none⟩) (Kd.R_far (p := ⟨gb303, 0, none⟩) (Kd.R_types HO299.out BK303.out (by decide)) (fun _ hk => hk.2) (.slice Ao9 t265.length co9)) (fun _ hk => hk.2) (.int .i64 t268)) (fun _ hk => hk.2) (.bool t269)) (fun _ hk => hk.2) (.slice Ao47 y300.length co47)) (fun _ hk => hk.2) (.slice Ao12 t273.length co12)) (fun _ h_ => h_.1)))) hb); have n6_ := Q0_ (Kd.R_below (upR' ((Kd.R_mono (Kd.R_far (p := ⟨gb303, 4, none⟩) (Kd.R_far (p := ⟨gb303, 3, none⟩) (Kd.R_far (p := ⟨gb303, 2, none⟩) (Kd.R_far (p := ⟨gb303, 1, none⟩) (Kd.R_far (p := ⟨gb303, 0, none⟩) (Kd.R_types HO302.out BK303.out (by decide)) (fun _ hk => hk.2) (.slice Ao9 t265.length co9)) (fun _ hk => hk.2) (.int .i64 t268)) (fun _ hk => hk.2) (.bool t269)) (fun _ hk => hk.2) (.slice Ao47 y300.length co47)) (fun _ hk => hk.2) (.slice Ao12 t273.length co12)) (fun _ h_ => h_.1)))) hb); have n7_ := Q0_ (blk_below (g := gb277) (o := .cells #[.slice Ao9 t265.length co9, .int .i64 t268, .bool t269, .slice Ao11 t270.length co11, .slice Ao12 t273.length co12] 27 (0, 0)) (by (with_reducible repeat (first | refine blk_drewN ?_ _ | refine blk_drew ?_ | refine blk_alloc ?_ _)); refine blk_far ?_ NB277_303.out _; (with_reducible repeat (first | refine blk_drewN ?_ _ | refine blk_drew ?_ | refine blk_alloc ?_ _)); refine blk_far ?_ NB277_303.out _; (with_reducible repeat (first | refine blk_drewN ?_ _ | refine blk_drew ?_ | refine blk_alloc ?_ _)); refine blk_far ?_ NB277_303.out _; (with_reducible repeat (first | refine blk_drewN ?_ _ | refine blk_drew ?_ | refine blk_alloc ?_ _)); refine blk_far ?_ NB277_303.out _; (with_reducible repeat (first | refine blk_drewN ?_ _ | refine blk_drew ?_ | refine blk_alloc ?_ _)); refine blk_far ?_ NB277_303.out _; (with_reducible repeat (first | refine blk_drewN ?_ _ | refine blk_drew ?_ | refine blk_alloc ?_ _)); exact BK277.out) hb); have n8_ := Q0_ (blk_below (g := gb286) (o := .cells #[.slice Ao30 y283.length co30, .int .i64 t268, .bool t269, .slice Ao11 t270.length co11, .slice Ao12 t273.length co12] 27 (0, 0)) (by (with_reducible repeat (first | refine blk_drewN ?_ _ | refine blk_drew ?_ | refine blk_alloc ?_ _)); refine blk_far ?_ NB286_303.out _; (with_reducible repeat (first | refine blk_drewN ?_ _ | refine blk_drew ?_ | refine blk_alloc ?_ _)); refine blk_far ?_ NB286_303.out _; (with_reducible repeat (first | refine blk_drewN ?_ _ | refine blk_drew ?_ | refine blk_alloc ?_ _)); refine blk_far ?_ NB286_303.out _; (with_reducible repeat (first | refine blk_drewN ?_ _ | refine blk_drew ?_ | refine blk_alloc ?_ _)); refine blk_far ?_ NB286_303.out _; (with_reducible repeat (first | refine blk_drewN ?_ _ | refine blk_drew ?_ | refine blk_alloc ?_ _)); refine blk_far ?_ NB286_303.out _; (with_reducible repeat (first | refine blk_drewN ?_ _ | refine blk_drew ?_ | refine blk_alloc ?_ _)); exact BK286.out) hb); have n9_ := Q0_ (blk_below (g := gb303) (o := .cells #[.slice Ao9 t265.length co9, .int .i64 t268, .bool t269, .slice Ao47 y300.length co47, .slice Ao12 t273.length co12] 27 (0, 0)) (by (with_reducible repeat (first | refine blk_drewN ?_ _ | refine blk_drew ?_ | refine blk_alloc ?_ _)); refine blk_put (cs := #[.slice Ao9 t265.length co9, .int .i64 t268, .bool t269, .slice Ao47 y300.length co47, .slice none 0 0]) ?_ 4 _ rfl; (with_reducible repeat (first | refine blk_drewN ?_ _ | refine blk_drew ?_ | refine blk_alloc ?_ _)); refine blk_put (cs := #[.slice Ao9 t265.length co9, .int .i64 t268, .bool t269, .slice none 0 0, .slice none 0 0]) ?_ 3 _ rfl; (with_reducible repeat (first | refine blk_drewN ?_ _ | refine blk_drew ?_ | refine blk_alloc ?_ _)); refine blk_put (cs := #[.slice Ao9 t265.length co9, .int .i64 t268, .bool false, .slice none 0 0, .slice none 0 0]) ?_ 2 _ rfl; (with_reducible repeat (first | refine blk_drewN ?_ _ | refine blk_drew ?_ | refine blk_alloc ?_ _)); refine blk_put (cs := #[.slice Ao9 t265.length co9, .int .i64 0, .bool false, .slice none 0 0, .slice none 0 0]) ?_ 1 _ rfl; (with_reducible repeat (first | refine blk_drewN ?_ _ | refine blk_drew ?_ | refine blk_alloc ?_ _)); refine blk_put (cs := #[.slice none 0 0, .int .i64 0, .bool false, .slice none 0 0, .slice none 0 0]) ?_ 0 _ rfl; (with_reducible repeat (first | refine blk_drewN ?_ _ | refine blk_drew ?_ | refine blk_alloc ?_ _)); exact BK303.out) hb); have n10_ := Q0_ (below_step upH hb); clear HO_278000 HO_278003 HO_278004 HO285 HO289 HO299 HO302 BK277 BK286 BK303 HB; revert n0_ n1_ n2_ n3_ n4_ n5_ n6_ n7_ n8_ n9_ n10_; intro HO_278000 HO_278003 HO_278004 HO285 HO289 HO299 HO302 BK277 BK286 BK303 HB; (try clear hb); (try clear hb2); (try clear hk); (try clear hi); have hnb59 := NB277_286.out; have hnc59 := NB286_277.out; have hcz60_0 : w58.cell? ⟨gb277, 0, none⟩ = some (.slice Ao9 t265.length co9) := (blk_cell BK277.out 0).trans rfl; have hcz60_1 : w58.cell? ⟨gb277, 1, none⟩ = some (.int .i64 t268) := (blk_cell BK277.out 1).trans rfl; have hcz60_2 : w58.cell? ⟨gb277, 2, none⟩ = some (.bool t269) := (blk_cell BK277.out 2).trans rfl; have hcz60_3 : w58.cell? ⟨gb277, 3, none⟩ = some (.slice Ao11 t270.length co11) := (blk_cell BK277.out 3).trans rfl; have hcz60_4 : w58.cell? ⟨gb277, 4, none⟩ = some (.slice Ao12 t273.length co12) := (blk_cell BK277.out 4).trans rfl; have hfz60_0 := blk_frozen BK277.out 0; have hfz60_1 := blk_frozen BK277.out 1; have hfz60_2 := blk_frozen BK277.out 2; have hfz60_3 := blk_frozen BK277.out 3; have hfz60_4 := blk_frozen BK277.out 4))
     go_meet
     case rel => exact ⟨_, (decide ((t280.size : Int) ≥ (wrap64 ((wrap64 ((t265.length : Int) + (t270.length : Int))) + 1)))), (by first | rfl | (simp; done) | (simp [*]; done)), H', ⟨by have := HJ5.out; first | omega | exact Nat.le_refl _⟩, ⟨by (with_reducible repeat (first | apply Kd.R_alloc | apply Kd.R_drewN | apply Kd.R_drew)); exact Kd.R_mono HO_278000.out (fun _ hk => ⟨hk.2.2.2.2.1, ⟨hk.2.2.2.2.2, ⟨hk.1, ⟨hk.2.2.2.2.1, ⟨hk.2.2.2.2.2, ⟨hk.2.2.2.1, hk.2.2.2.2.2⟩⟩⟩⟩⟩⟩)⟩, ⟨by (with_reducible repeat (first | apply Kd.R_alloc | apply Kd.R_drewN | apply Kd.R_drew)); exact Kd.R_mono HO_278003.out (fun _ hk => ⟨hk.2.2.2.2.1, ⟨hk.2.2.2.2.2, ⟨hk.1, ⟨hk.2.2.2.2.2, ⟨hk.2.2.2.2.1, ⟨hk.2.2.2.1, hk.2.2.2.2.2⟩⟩⟩⟩⟩⟩)⟩, ⟨by (with_reducible repeat (first | apply Kd.R_alloc | apply Kd.R_drewN | apply Kd.R_drew)); exact Kd.R_mono HO_278004.out (fun _ hk => ⟨hk.2.2.2.2.1, ⟨hk.2.2.2.2.2, ⟨hk.1, ⟨hk.2.2.2.2.2, ⟨hk.2.2.2.2.1, hk.2.2.2.1⟩⟩⟩⟩⟩)⟩, ⟨by (with_reducible repeat (first | apply Kd.R_alloc | apply Kd.R_drewN | apply Kd.R_drew)); exact Kd.R_mono HO285.out (fun _ hk => ⟨hk.2.2.2.1, ⟨hk.2.2.2.2.1, ⟨hk.2.2.2.2.2, ⟨hk.2.2.2.2.1, ⟨hk.2.2.2.2.2, ⟨hk.2.2.2.1, ⟨hk.2.2.1, hk.2.2.2.2.2⟩⟩⟩⟩⟩⟩⟩)⟩, ⟨by (with_reducible repeat (first | apply Kd.R_alloc | apply Kd.R_drewN | apply Kd.R_drew)); exact Kd.R_mono HO_278003.out (fun _ hk => ⟨hk.2.2.2.2.1, ⟨hk.2.2.2.2.2, ⟨hk.1, ⟨hk.2.2.2.2.2, ⟨hk.2.2.2.2.1, ⟨hk.2.2.2.1, hk.2.2.2.2.2⟩⟩⟩⟩⟩⟩)⟩, ⟨by (with_reducible repeat (first | apply Kd.R_alloc | apply Kd.R_drewN | apply Kd.R_drew)); exact Kd.R_mono HO_278004.out (fun _ hk => ⟨hk.2.2.2.2.1, ⟨hk.2.2.2.2.2, ⟨hk.1, ⟨hk.2.2.2.2.2, ⟨hk.2.2.2.2.1, hk.2.2.2.1⟩⟩⟩⟩⟩)⟩, ⟨by (with_reducible repeat (first | apply Kd.R_alloc | apply Kd.R_drewN | apply Kd.R_drew)); exact Kd.R_mono HO_278000.out (fun _ hk => ⟨hk.2.2.2.2.1, ⟨hk.2.2.2.2.2, ⟨hk.1, ⟨hk.2.2.2.2.1, ⟨hk.2.2.2.2.2, ⟨hk.2.2.2.1, hk.2.2.2.2.2⟩⟩⟩⟩⟩⟩)⟩, ⟨by (with_reducible repeat (first | apply Kd.R_alloc | apply Kd.R_drewN | apply Kd.R_drew)); exact Kd.R_mono HO302.out (fun _ hk => ⟨hk.2.2.2.1, ⟨hk.2.2.2.2.1, ⟨hk.2.2.2.2.2, ⟨hk.1, ⟨hk.2.2.2.2.1, ⟨hk.2.2.2.2.2, ⟨hk.2.2.2.1, hk.2.2.2.2.2⟩⟩⟩⟩⟩⟩⟩)⟩, ⟨by (with_reducible repeat (first | apply Kd.R_alloc | apply Kd.R_drewN | apply Kd.R_drew)); exact Kd.R_mono HO_278004.out (fun _ hk => ⟨hk.2.2.2.2.1, ⟨hk.2.2.2.2.2, ⟨hk.1, ⟨hk.2.2.2.2.2, ⟨hk.2.2.2.2.1, hk.2.2.2.1⟩⟩⟩⟩⟩)⟩, ⟨by (with_reducible repeat (first | refine blk_drewN ?_ _ | refine blk_drew ?_ | refine blk_alloc ?_ _)); exact BK277.out⟩, ⟨by (with_reducible repeat (first | refine blk_drewN ?_ _ | refine blk_drew ?_ | refine blk_alloc ?_ _)); exact BK286.out⟩, ⟨by (with_reducible repeat (first | refine blk_drewN ?_ _ | refine blk_drew ?_ | refine blk_alloc ?_ _)); exact BK303.out⟩, ⟨by repeat (first | (with_reducible first | exact HB.out | apply below_alloc | apply pw_below_drewN | apply below_drew1 | refine below_set ?_ GE277.out | refine below_set ?_ GE286.out | refine below_set ?_ GE303.out) | exact HB.out)⟩⟩
    replace c54 := Bool.eq_false_iff.mpr c54
    subst c54
    replace H := ifN ((show ¬ (false = true) by decide)) H
    have H' := Aside0.mk H
    clear H
    have hnb61 := NB303_277.out
    have hnc61 := NB277_303.out
    have hnb62 := NB303_286.out
    have hnc62 := NB286_303.out
    have hcz63_0 : w46.cell? ⟨gb303, 0, none⟩ = some (.slice none 0 0) := (blk_cell BK303.out 0).trans rfl
    have hcz63_1 : w46.cell? ⟨gb303, 1, none⟩ = some (.int .i64 0) := (blk_cell BK303.out 1).trans rfl
    have hcz63_2 : w46.cell? ⟨gb303, 2, none⟩ = some (.bool false) := (blk_cell BK303.out 2).trans rfl
    have hcz63_3 : w46.cell? ⟨gb303, 3, none⟩ = some (.slice none 0 0) := (blk_cell BK303.out 3).trans rfl
    have hcz63_4 : w46.cell? ⟨gb303, 4, none⟩ = some (.slice none 0 0) := (blk_cell BK303.out 4).trans rfl
    have hfz63_0 := blk_frozen BK303.out 0
    have hfz63_1 := blk_frozen BK303.out 1
    have hfz63_2 := blk_frozen BK303.out 2
    have hfz63_3 := blk_frozen BK303.out 3
    have hfz63_4 := blk_frozen BK303.out 4
    go_wp2_with (first | ((with_reducible refine gate_callee (f := 20) rfl ?_); refine goesL_ (some 81) rfl rfl Tryd.func20 (by kernel_rfl) rfl #[.agg #[.slice Ao9 t265.length co9, .int .i64 t268, .bool t269, .slice Ao47 y300.length co47, .slice Ao12 t273.length co12]] rfl (by (try simp only [List.map_toArray, List.map_cons, List.map_nil]); first | done | rfl | (simp only [List.length_drop, List.length_take]; rfl)) ?_; (with_reducible refine (impl_PsalmValid.calls kj5 _ _ t265 t268 t269 _ _ y300 _ _ t273 false _ ?side1 ?side2 ?side3 ?side4 ?side5 ?side6 A53.out).mono ?_); (case side1 => refine (Kd.R_reads' (e := 25) (base := w.heap.size) (ok := fun k_ => (nb k_ (.slice Ao30 y283.length co30) ∧ (nb k_ (v288) ∧ (nb k_ (v298) ∧ (nb k_ (.slice Ao47 y300.length co47) ∧ (nb k_ (.slice Ao11 t270.length co11) ∧ nb k_ (.slice Ao12 t273.length co12))))))) (n := t265.length) (c := co9) ?_).2.2; exact (upR' ((Kd.R_mono (Kd.R_far (p := ⟨gb303, 4, none⟩) (Kd.R_far (p := ⟨gb303, 3, none⟩) (Kd.R_far (p := ⟨gb303, 2, none⟩) (Kd.R_far (p := ⟨gb303, 1, none⟩) (Kd.R_far (p := ⟨gb303, 0, none⟩) (Kd.R_types HO_278000.out BK303.out (by decide)) (fun _ hk => hk.2) (.slice Ao9 t265.length co9)) (fun _ hk => hk.2) (.int .i64 t268)) (fun _ hk => hk.2) (.bool t269)) (fun _ hk => hk.2) (.slice Ao47 y300.length co47)) (fun _ hk => hk.2) (.slice Ao12 t273.length co12)) (fun _ h_ => h_.1))))); (case side2 => exact (Kd.R_reads' HO_278000.out).2.1); (case side3 => refine (Kd.R_reads' (e := 25) (base := w.heap.size) (ok := fun k_ => (nb k_ (.slice Ao30 y283.length co30) ∧ (nb k_ (v288) ∧ (nb k_ (v298) ∧ (nb k_ (.slice Ao9 t265.length co9) ∧ (nb k_ (.slice Ao11 t270.length co11) ∧ nb k_ (.slice Ao12 t273.length co12))))))) (n := y300.length) (c := co47) ?_).2.2; exact (upR' ((Kd.R_mono (Kd.R_far (p := ⟨gb303, 4, none⟩) (Kd.R_far (p := ⟨gb303, 3, none⟩) (Kd.R_far (p := ⟨gb303, 2, none⟩) (Kd.R_far (p := ⟨gb303, 1, none⟩) (Kd.R_far (p := ⟨gb303, 0, none⟩) (Kd.R_types HO302.out BK303.out (by decide)) (fun _ hk => hk.2) (.slice Ao9 t265.length co9)) (fun _ hk => hk.2) (.int .i64 t268)) (fun _ hk => hk.2) (.bool t269)) (fun _ hk => hk.2) (.slice Ao47 y300.length co47)) (fun _ hk => hk.2) (.slice Ao12 t273.length co12)) (fun _ h_ => h_.1))))); (case side4 => exact (Kd.R_reads' HO302.out).2.1); (case side5 => refine (Kd.R_reads' (e := 25) (base := w.heap.size) (ok := fun k_ => (nb k_ (.slice Ao30 y283.length co30) ∧ (nb k_ (v288) ∧ (nb k_ (v298) ∧ (nb k_ (.slice Ao47 y300.length co47) ∧ (nb k_ (.slice Ao9 t265.length co9) ∧ nb k_ (.slice Ao11 t270.length co11))))))) (n := t273.length) (c := co12) ?_).2.2; exact (upR' ((Kd.R_mono (Kd.R_far (p := ⟨gb303, 4, none⟩) (Kd.R_far (p := ⟨gb303, 3, none⟩) (Kd.R_far (p := ⟨gb303, 2, none⟩) (Kd.R_far (p := ⟨gb303, 1, none⟩) (Kd.R_far (p := ⟨gb303, 0, none⟩) (Kd.R_types HO_278004.out BK303.out (by decide)) (fun _ hk => hk.2) (.slice Ao9 t265.length co9)) (fun _ hk => hk.2) (.int .i64 t268)) (fun _ hk => hk.2) (.bool t269)) (fun _ hk => hk.2) (.slice Ao47 y300.length co47)) (fun _ hk => hk.2) (.slice Ao12 t273.length co12)) (fun _ h_ => h_.1))))); (case side6 => exact (Kd.R_reads' HO_278004.out).2.1); rintro e w64 ⟨rfl, hb⟩; refine ⟨_, rfl, ?_⟩; have n0_ := Q0_ (Kd.R_below (upR' ((Kd.R_mono (Kd.R_far (p := ⟨gb303, 4, none⟩) (Kd.R_far (p := ⟨gb303, 3, none⟩) (Kd.R_far (p := ⟨gb303, 2, none⟩) (Kd.R_far (p := ⟨gb303, 1, none⟩) (Kd.R_far (p := ⟨gb303, 0, none⟩) (Kd.R_types HO_278000.out BK303.out (by decide)) (fun _ hk => hk.2) (.slice Ao9 t265.length co9)) (fun _ hk => hk.2) (.int .i64 t268)) (fun _ hk => hk.2) (.bool t269)) (fun _ hk => hk.2) (.slice Ao47 y300.length co47)) (fun _ hk => hk.2) (.slice Ao12 t273.length co12)) (fun _ h_ => h_.1)))) hb); have n1_ := Q0_ (Kd.R_below (upR' ((Kd.R_mono (Kd.R_far (p := ⟨gb303, 4, none⟩) (Kd.R_far (p := ⟨gb303, 3, none⟩) (Kd.R_far (p := ⟨gb303, 2, none⟩) (Kd.R_far (p := ⟨gb303, 1, none⟩) (Kd.R_far (p := ⟨gb303, 0, none⟩) (Kd.R_types HO_278003.out BK303.out (by decide)) (fun _ hk => hk.2) (.slice Ao9 t265.length co9)) (fun _ hk => hk.2) (.int .i64 t268)) (fun _ hk => hk.2) (.bool t269)) (fun _ hk => hk.2) (.slice Ao47 y300.length co47)) (fun _ hk => hk.2) (.slice Ao12 t273.length co12)) (fun _ h_ => h_.1)))) hb); have n2_ := Q0_ (Kd.R_below (upR' ((Kd.R_mono (Kd.R_far (p := ⟨gb303, 4, none⟩) (Kd.R_far (p := ⟨gb303, 3, none⟩) (Kd.R_far (p := ⟨gb303, 2, none⟩) (Kd.R_far (p := ⟨gb303, 1, none⟩) (Kd.R_far (p := ⟨gb303, 0, none⟩) (Kd.R_types HO_278004.out BK303.out (by decide)) (fun _ hk => hk.2) (.slice Ao9 t265.length co9)) (fun _ hk => hk.2) (.int .i64 t268)) (fun _ hk => hk.2) (.bool t269)) (fun _ hk => hk.2) (.slice Ao47 y300.length co47)) (fun _ hk => hk.2) (.slice Ao12 t273.length co12)) (fun _ h_ => h_.1)))) hb); have n3_ := Q0_ (Kd.R_below (upR' ((Kd.R_mono (Kd.R_far (p := ⟨gb303, 4, none⟩) (Kd.R_far (p := ⟨gb303, 3, none⟩) (Kd.R_far (p := ⟨gb303, 2, none⟩) (Kd.R_far (p := ⟨gb303, 1, none⟩) (Kd.R_far (p := ⟨gb303, 0, none⟩) (Kd.R_types HO285.out BK303.out (by decide)) (fun _ hk => hk.2) (.slice Ao9 t265.length co9)) (fun _ hk => hk.2) (.int .i64 t268)) (fun _ hk => hk.2) (.bool t269)) (fun _ hk => hk.2) (.slice Ao47 y300.length co47)) (fun _ hk => hk.2) (.slice Ao12 t273.length co12)) (fun _ h_ => h_.1)))) hb); have n4_ := Q0_ (Kd.R_below (upR' ((Kd.R_mono (Kd.R_far (p := ⟨gb303, 4, none⟩) (Kd.R_far (p := ⟨gb303, 3, none⟩) (Kd.R_far (p := ⟨gb303, 2, none⟩) (Kd.R_far (p := ⟨gb303, 1, none⟩) (Kd.R_far (p := ⟨gb303, 0, none⟩) (Kd.R_types HO289.out BK303.out (by decide)) (fun _ hk => hk.2) (.slice Ao9 t265.length co9)) (fun _ hk => hk.2) (.int .i64 t268)) (fun _ hk => hk.2) (.bool t269)) (fun _ hk => hk.2) (.slice Ao47 y300.length co47)) (fun _ hk => hk.2) (.slice Ao12 t273.length co12)) (fun _ h_ => h_.1)))) hb); have n5_ := Q0_ (Kd.R_below (upR' ((Kd.R_mono (Kd.R_far (p := ⟨gb303, 4, none⟩) (Kd.R_far (p := ⟨gb303, 3, none⟩) (Kd.R_far (p := ⟨gb303, 2, none⟩) (Kd.R_far (p := ⟨gb303, 1, none⟩) (Kd.R_far (p := ⟨gb303, 0, none⟩) (Kd.R_types HO299.out BK303.out (by decide)) (fun _ hk => hk.2) (.slice Ao9 t265.length co9)) (fun _ hk => hk.2) (.int .i64 t268)) (fun _ hk => hk.2) (.bool t269)) (fun _ hk => hk.2) (.slice Ao47 y300.length co47)) (fun _ hk => hk.2) (.slice Ao12 t273.length co12)) (fun _ h_ => h_.1)))) hb); have n6_ := Q0_ (Kd.R_below (upR' ((Kd.R_mono (Kd.R_far (p := ⟨gb303, 4, none⟩) (Kd.R_far (p := ⟨gb303, 3, none⟩) (Kd.R_far (p := ⟨gb303, 2, none⟩) (Kd.R_far (p := ⟨gb303, 1, none⟩) (Kd.R_far (p := ⟨gb303, 0, none⟩) (Kd.R_types HO302.out BK303.out (by decide)) (fun _ hk => hk.2) (.slice Ao9 t265.length co9)) (fun _ hk => hk.2) (.int .i64 t268)) (fun _ hk => hk.2) (.bool t269)) (fun _ hk => hk.2) (.slice Ao47 y300.length co47)) (fun _ hk => hk.2) (.slice Ao12 t273.length co12)) (fun _ h_ => h_.1)))) hb); have n7_ := Q0_ (blk_below (g := gb277) (o := .cells #[.slice Ao9 t265.length co9, .int .i64 t268, .bool t269, .slice Ao11 t270.length co11, .slice Ao12 t273.length co12] 27 (0, 0)) (by (with_reducible repeat (first | refine blk_drewN ?_ _ | refine blk_drew ?_ | refine blk_alloc ?_ _)); refine blk_far ?_ NB277_303.out _; (with_reducible repeat (first | refine blk_drewN ?_ _ | refine blk_drew ?_ | refine blk_alloc ?_ _)); refine blk_far ?_ NB277_303.out _; (with_reducible repeat (first | refine blk_drewN ?_ _ | refine blk_drew ?_ | refine blk_alloc ?_ _)); refine blk_far ?_ NB277_303.out _; (with_reducible repeat (first | refine blk_drewN ?_ _ | refine blk_drew ?_ | refine blk_alloc ?_ _)); refine blk_far ?_ NB277_303.out _; (with_reducible repeat (first | refine blk_drewN ?_ _ | refine blk_drew ?_ | refine blk_alloc ?_ _)); refine blk_far ?_ NB277_303.out _; (with_reducible repeat (first | refine blk_drewN ?_ _ | refine blk_drew ?_ | refine blk_alloc ?_ _)); exact BK277.out) hb); have n8_ := Q0_ (blk_below (g := gb286) (o := .cells #[.slice Ao30 y283.length co30, .int .i64 t268, .bool t269, .slice Ao11 t270.length co11, .slice Ao12 t273.length co12] 27 (0, 0)) (by (with_reducible repeat (first | refine blk_drewN ?_ _ | refine blk_drew ?_ | refine blk_alloc ?_ _)); refine blk_far ?_ NB286_303.out _; (with_reducible repeat (first | refine blk_drewN ?_ _ | refine blk_drew ?_ | refine blk_alloc ?_ _)); refine blk_far ?_ NB286_303.out _; (with_reducible repeat (first | refine blk_drewN ?_ _ | refine blk_drew ?_ | refine blk_alloc ?_ _)); refine blk_far ?_ NB286_303.out _; (with_reducible repeat (first | refine blk_drewN ?_ _ | refine blk_drew ?_ | refine blk_alloc ?_ _)); refine blk_far ?_ NB286_303.out _; (with_reducible repeat (first | refine blk_drewN ?_ _ | refine blk_drew ?_ | refine blk_alloc ?_ _)); refine blk_far ?_ NB286_303.out _; (with_reducible repeat (first | refine blk_drewN ?_ _ | refine blk_drew ?_ | refine blk_alloc ?_ _)); exact BK286.out) hb); have n9_ := Q0_ (blk_below (g := gb303) (o := .cells #[.slice Ao9 t265.length co9, .int .i64 t268, .bool t269, .slice Ao47 y300.length co47, .slice Ao12 t273.length co12] 27 (0, 0)) (by (with_reducible repeat (first | refine blk_drewN ?_ _ | refine blk_drew ?_ | refine blk_alloc ?_ _)); refine blk_put (cs := #[.slice Ao9 t265.length co9, .int .i64 t268, .bool t269, .slice Ao47 y300.length co47, .slice none 0 0]) ?_ 4 _ rfl; (with_reducible repeat (first | refine blk_drewN ?_ _ | refine blk_drew ?_ | refine blk_alloc ?_ _)); refine blk_put (cs := #[.slice Ao9 t265.length co9, .int .i64 t268, .bool t269, .slice none 0 0, .slice none 0 0]) ?_ 3 _ rfl; (with_reducible repeat (first | refine blk_drewN ?_ _ | refine blk_drew ?_ | refine blk_alloc ?_ _)); refine blk_put (cs := #[.slice Ao9 t265.length co9, .int .i64 t268, .bool false, .slice none 0 0, .slice none 0 0]) ?_ 2 _ rfl; (with_reducible repeat (first | refine blk_drewN ?_ _ | refine blk_drew ?_ | refine blk_alloc ?_ _)); refine blk_put (cs := #[.slice Ao9 t265.length co9, .int .i64 0, .bool false, .slice none 0 0, .slice none 0 0]) ?_ 1 _ rfl; (with_reducible repeat (first | refine blk_drewN ?_ _ | refine blk_drew ?_ | refine blk_alloc ?_ _)); refine blk_put (cs := #[.slice none 0 0, .int .i64 0, .bool false, .slice none 0 0, .slice none 0 0]) ?_ 0 _ rfl; (with_reducible repeat (first | refine blk_drewN ?_ _ | refine blk_drew ?_ | refine blk_alloc ?_ _)); exact BK303.out) hb); have n10_ := Q0_ (below_step upH hb); clear HO_278000 HO_278003 HO_278004 HO285 HO289 HO299 HO302 BK277 BK286 BK303 HB; revert n0_ n1_ n2_ n3_ n4_ n5_ n6_ n7_ n8_ n9_ n10_; intro HO_278000 HO_278003 HO_278004 HO285 HO289 HO299 HO302 BK277 BK286 BK303 HB; (try clear hb); (try clear hb2); (try clear hk); (try clear hi)))
    go_meet
    case rel => exact ⟨_, (false), (by first | rfl | (simp; done) | (simp [*]; done)), H', ⟨by have := HJ5.out; first | omega | exact Nat.le_refl _⟩, ⟨by (with_reducible repeat (first | apply Kd.R_alloc | apply Kd.R_drewN | apply Kd.R_drew)); exact Kd.R_mono HO_278000.out (fun _ hk => ⟨hk.2.2.2.2.1, ⟨hk.2.2.2.2.2, ⟨hk.1, ⟨hk.2.2.2.2.1, ⟨hk.2.2.2.2.2, ⟨hk.2.2.2.1, hk.2.2.2.2.2⟩⟩⟩⟩⟩⟩)⟩, ⟨by (with_reducible repeat (first | apply Kd.R_alloc | apply Kd.R_drewN | apply Kd.R_drew)); exact Kd.R_mono HO_278003.out (fun _ hk => ⟨hk.2.2.2.2.1, ⟨hk.2.2.2.2.2, ⟨hk.1, ⟨hk.2.2.2.2.2, ⟨hk.2.2.2.2.1, ⟨hk.2.2.2.1, hk.2.2.2.2.2⟩⟩⟩⟩⟩⟩)⟩, ⟨by (with_reducible repeat (first | apply Kd.R_alloc | apply Kd.R_drewN | apply Kd.R_drew)); exact Kd.R_mono HO_278004.out (fun _ hk => ⟨hk.2.2.2.2.1, ⟨hk.2.2.2.2.2, ⟨hk.1, ⟨hk.2.2.2.2.2, ⟨hk.2.2.2.2.1, hk.2.2.2.1⟩⟩⟩⟩⟩)⟩, ⟨by (with_reducible repeat (first | apply Kd.R_alloc | apply Kd.R_drewN | apply Kd.R_drew)); exact Kd.R_mono HO285.out (fun _ hk => ⟨hk.2.2.2.1, ⟨hk.2.2.2.2.1, ⟨hk.2.2.2.2.2, ⟨hk.2.2.2.2.1, ⟨hk.2.2.2.2.2, ⟨hk.2.2.2.1, ⟨hk.2.2.1, hk.2.2.2.2.2⟩⟩⟩⟩⟩⟩⟩)⟩, ⟨by (with_reducible repeat (first | apply Kd.R_alloc | apply Kd.R_drewN | apply Kd.R_drew)); exact Kd.R_mono HO_278003.out (fun _ hk => ⟨hk.2.2.2.2.1, ⟨hk.2.2.2.2.2, ⟨hk.1, ⟨hk.2.2.2.2.2, ⟨hk.2.2.2.2.1, ⟨hk.2.2.2.1, hk.2.2.2.2.2⟩⟩⟩⟩⟩⟩)⟩, ⟨by (with_reducible repeat (first | apply Kd.R_alloc | apply Kd.R_drewN | apply Kd.R_drew)); exact Kd.R_mono HO_278004.out (fun _ hk => ⟨hk.2.2.2.2.1, ⟨hk.2.2.2.2.2, ⟨hk.1, ⟨hk.2.2.2.2.2, ⟨hk.2.2.2.2.1, hk.2.2.2.1⟩⟩⟩⟩⟩)⟩, ⟨by (with_reducible repeat (first | apply Kd.R_alloc | apply Kd.R_drewN | apply Kd.R_drew)); exact Kd.R_mono HO_278000.out (fun _ hk => ⟨hk.2.2.2.2.1, ⟨hk.2.2.2.2.2, ⟨hk.1, ⟨hk.2.2.2.2.1, ⟨hk.2.2.2.2.2, ⟨hk.2.2.2.1, hk.2.2.2.2.2⟩⟩⟩⟩⟩⟩)⟩, ⟨by (with_reducible repeat (first | apply Kd.R_alloc | apply Kd.R_drewN | apply Kd.R_drew)); exact Kd.R_mono HO302.out (fun _ hk => ⟨hk.2.2.2.1, ⟨hk.2.2.2.2.1, ⟨hk.2.2.2.2.2, ⟨hk.1, ⟨hk.2.2.2.2.1, ⟨hk.2.2.2.2.2, ⟨hk.2.2.2.1, hk.2.2.2.2.2⟩⟩⟩⟩⟩⟩⟩)⟩, ⟨by (with_reducible repeat (first | apply Kd.R_alloc | apply Kd.R_drewN | apply Kd.R_drew)); exact Kd.R_mono HO_278004.out (fun _ hk => ⟨hk.2.2.2.2.1, ⟨hk.2.2.2.2.2, ⟨hk.1, ⟨hk.2.2.2.2.2, ⟨hk.2.2.2.2.1, hk.2.2.2.1⟩⟩⟩⟩⟩)⟩, ⟨by (with_reducible repeat (first | refine blk_drewN ?_ _ | refine blk_drew ?_ | refine blk_alloc ?_ _)); exact BK277.out⟩, ⟨by (with_reducible repeat (first | refine blk_drewN ?_ _ | refine blk_drew ?_ | refine blk_alloc ?_ _)); exact BK286.out⟩, ⟨by (with_reducible repeat (first | refine blk_drewN ?_ _ | refine blk_drew ?_ | refine blk_alloc ?_ _)); exact BK303.out⟩, ⟨by repeat (first | (with_reducible first | exact HB.out | apply below_alloc | apply pw_below_drewN | apply below_drew1 | refine below_set ?_ GE277.out | refine below_set ?_ GE286.out | refine below_set ?_ GE303.out) | exact HB.out)⟩⟩
   case rest =>
    clear HC25
    try clear c2
    try clear p2
    try clear c5
    try clear c6
    try clear p6
    try clear c20
    try clear c24
    try clear c54
    try clear c55
    try clear c56
    try clear c59
    try clear c61
    try clear c62
    try clear p64
    try clear hcz57_0
    try clear hcz57_1
    try clear hcz57_2
    try clear hcz57_3
    try clear hcz57_4
    try clear hcz60_0
    try clear hcz60_1
    try clear hcz60_2
    try clear hcz60_3
    try clear hcz60_4
    try clear hcz63_0
    try clear hcz63_1
    try clear hcz63_2
    try clear hcz63_3
    try clear hcz63_4
    try clear hfz57_0
    try clear hfz57_1
    try clear hfz57_2
    try clear hfz57_3
    try clear hfz57_4
    try clear hfz60_0
    try clear hfz60_1
    try clear hfz60_2
    try clear hfz60_3
    try clear hfz60_4
    try clear hfz63_0
    try clear hfz63_1
    try clear hfz63_2
    try clear hfz63_3
    try clear hfz63_4
    obtain ⟨kq, x15_24, rfl, HA, HJ24, HO_278000, HO_278003, HO_278004, HO_287000, HO_287003, HO_287004, HO_304000, HO_304003, HO_304004, BK277, BK286, BK303, HB⟩ := hcut
    cases kq with
    | zero => exact absurd HA.out (by simp [laws_FnPsalmFits.j1])
    | succ kj24 =>
     have H := HA.out
     clear HA
     simp only [laws_FnPsalmFits.j1] at H
     by_cases c65 : t282 = true
     rotate_left
     ·replace c65 := Bool.eq_false_iff.mpr c65
      subst c65
      replace H := ifN ((show ¬ (false = true) by decide)) H
      exact absurd H (by simp)
     subst c65
     replace H := ifP (rfl) H
     by_cases c66 : t290 = true
     rotate_left
     ·replace c66 := Bool.eq_false_iff.mpr c66
      subst c66
      replace H := ifN ((show ¬ (false = true) by decide)) H
      exact absurd H (by simp)
     subst c66
     replace H := ifP (rfl) H
     obtain ⟨t305, A670, H⟩ := Option.bind_eq_some_iff.mp H
     try dsimp only at H
     have A67 := Aside0.mk A670
     clear A670
     by_cases c68 : t305 = true
     rotate_left
     ·replace c68 := Bool.eq_false_iff.mpr c68
      subst c68
      replace H := ifN ((show ¬ (false = true) by decide)) H
      exact absurd H (by simp)
     subst c68
     replace H := ifP (rfl) H
     obtain ⟨t306, A690, H⟩ := Option.bind_eq_some_iff.mp H
     try dsimp only at H
     have A69 := Aside0.mk A690
     clear A690
     by_cases c70 : t306 = true
     rotate_left
     ·replace c70 := Bool.eq_false_iff.mpr c70
      subst c70
      replace H := ifN ((show ¬ (false = true) by decide)) H
      obtain ⟨t309, A840, H⟩ := Option.bind_eq_some_iff.mp H
      try dsimp only at H
      have A84 := Aside0.mk A840
      clear A840
      obtain rfl := Option.some.inj H
      have hnb85 := NB286_277.out
      have hnc85 := NB277_286.out
      have hnb86 := NB286_303.out
      have hnc86 := NB303_286.out
      have hcz87_0 : wc.cell? ⟨gb286, 0, none⟩ = some (.slice Ao30 y283.length co30) := (blk_cell BK286.out 0).trans rfl
      have hcz87_1 : wc.cell? ⟨gb286, 1, none⟩ = some (.int .i64 t268) := (blk_cell BK286.out 1).trans rfl
      have hcz87_2 : wc.cell? ⟨gb286, 2, none⟩ = some (.bool t269) := (blk_cell BK286.out 2).trans rfl
      have hcz87_3 : wc.cell? ⟨gb286, 3, none⟩ = some (.slice Ao11 t270.length co11) := (blk_cell BK286.out 3).trans rfl
      have hcz87_4 : wc.cell? ⟨gb286, 4, none⟩ = some (.slice Ao12 t273.length co12) := (blk_cell BK286.out 4).trans rfl
      have hfz87_0 := blk_frozen BK286.out 0
      have hfz87_1 := blk_frozen BK286.out 1
      have hfz87_2 := blk_frozen BK286.out 2
      have hfz87_3 := blk_frozen BK286.out 3
      have hfz87_4 := blk_frozen BK286.out 4
      go_wp2_with (first | (go_at_call 16; (with_reducible refine (impl_PsalmFits.calls kj24 _ _ y283 t268 t269 _ _ t270 _ _ t273 t276 true _ ?side1 ?side2 ?side3 ?side4 ?side5 ?side6 ?side7 A67.out).mono ?_); (case side1 => repeat (first | exact (Kd.R_reads' HO_287000.out).2.2 | (with_reducible refine Kd.C_alloc ?_ _) | (with_reducible refine Kd.C_drewN ?_ _) | (with_reducible refine Kd.C_drew ?_))); (case side2 => exact (Kd.R_reads' HO_287000.out).2.1); (case side3 => repeat (first | exact (Kd.R_reads' HO_287003.out).2.2 | (with_reducible refine Kd.C_alloc ?_ _) | (with_reducible refine Kd.C_drewN ?_ _) | (with_reducible refine Kd.C_drew ?_))); (case side4 => exact (Kd.R_reads' HO_287003.out).2.1); (case side5 => repeat (first | exact (Kd.R_reads' HO_287004.out).2.2 | (with_reducible refine Kd.C_alloc ?_ _) | (with_reducible refine Kd.C_drewN ?_ _) | (with_reducible refine Kd.C_drew ?_))); (case side6 => exact (Kd.R_reads' HO_287004.out).2.1); (case side7 => exact GOk.sub (GOk.below HG.out upH) (by decide)); rintro e w88 ⟨rfl, hb⟩; have n0_ := Q0_ (Kd.R_below (upR HO_278000) hb); have n1_ := Q0_ (Kd.R_below (upR HO_278003) hb); have n2_ := Q0_ (Kd.R_below (upR HO_278004) hb); have n3_ := Q0_ (Kd.R_below (upR HO_287000) hb); have n4_ := Q0_ (Kd.R_below (upR HO_287003) hb); have n5_ := Q0_ (Kd.R_below (upR HO_287004) hb); have n6_ := Q0_ (Kd.R_below (upR HO_304000) hb); have n7_ := Q0_ (Kd.R_below (upR HO_304003) hb); have n8_ := Q0_ (Kd.R_below (upR HO_304004) hb); have n9_ := Q0_ (blk_below (upK BK277) hb); have n10_ := Q0_ (blk_below (upK BK286) hb); have n11_ := Q0_ (blk_below (upK BK303) hb); have n12_ := Q0_ (below_step upH hb); clear HO_278000 HO_278003 HO_278004 HO_287000 HO_287003 HO_287004 HO_304000 HO_304003 HO_304004 BK277 BK286 BK303 HB; revert n0_ n1_ n2_ n3_ n4_ n5_ n6_ n7_ n8_ n9_ n10_ n11_ n12_; intro HO_278000 HO_278003 HO_278004 HO_287000 HO_287003 HO_287004 HO_304000 HO_304003 HO_304004 BK277 BK286 BK303 HB; (try clear hb); (try clear hb2); (try clear hk); (try clear hi)) | (go_at_call 21; (with_reducible refine (impl_VerseValid.calls (((t280 ++ (⟨#[120, 124]⟩ : ByteArray)) ++ t281) ++ (⟨#[47]⟩ : ByteArray)) false _ ?side1 A69.out).mono ?_); (case side1 => exact GOk.sub (GOk.below HG.out upH) (by decide)); rintro e w89 ⟨rfl, hb⟩; have n0_ := Q0_ (Kd.R_below (upR HO_278000) hb); have n1_ := Q0_ (Kd.R_below (upR HO_278003) hb); have n2_ := Q0_ (Kd.R_below (upR HO_278004) hb); have n3_ := Q0_ (Kd.R_below (upR HO_287000) hb); have n4_ := Q0_ (Kd.R_below (upR HO_287003) hb); have n5_ := Q0_ (Kd.R_below (upR HO_287004) hb); have n6_ := Q0_ (Kd.R_below (upR HO_304000) hb); have n7_ := Q0_ (Kd.R_below (upR HO_304003) hb); have n8_ := Q0_ (Kd.R_below (upR HO_304004) hb); have n9_ := Q0_ (blk_below (upK BK277) hb); have n10_ := Q0_ (blk_below (upK BK286) hb); have n11_ := Q0_ (blk_below (upK BK303) hb); have n12_ := Q0_ (below_step upH hb); clear HO_278000 HO_278003 HO_278004 HO_287000 HO_287003 HO_287004 HO_304000 HO_304003 HO_304004 BK277 BK286 BK303 HB; revert n0_ n1_ n2_ n3_ n4_ n5_ n6_ n7_ n8_ n9_ n10_ n11_ n12_; intro HO_278000 HO_278003 HO_278004 HO_287000 HO_287003 HO_287004 HO_304000 HO_304003 HO_304004 BK277 BK286 BK303 HB; (try clear hb); (try clear hb2); (try clear hk); (try clear hi); have hnb90 := NB303_277.out; have hnc90 := NB277_303.out; have hcz91_0 : w89.cell? ⟨gb303, 0, none⟩ = some (.slice Ao9 t265.length co9) := (blk_cell BK303.out 0).trans rfl; have hcz91_1 : w89.cell? ⟨gb303, 1, none⟩ = some (.int .i64 t268) := (blk_cell BK303.out 1).trans rfl; have hcz91_2 : w89.cell? ⟨gb303, 2, none⟩ = some (.bool t269) := (blk_cell BK303.out 2).trans rfl; have hcz91_3 : w89.cell? ⟨gb303, 3, none⟩ = some (.slice Ao47 y300.length co47) := (blk_cell BK303.out 3).trans rfl; have hcz91_4 : w89.cell? ⟨gb303, 4, none⟩ = some (.slice Ao12 t273.length co12) := (blk_cell BK303.out 4).trans rfl; have hfz91_0 := blk_frozen BK303.out 0; have hfz91_1 := blk_frozen BK303.out 1; have hfz91_2 := blk_frozen BK303.out 2; have hfz91_3 := blk_frozen BK303.out 3; have hfz91_4 := blk_frozen BK303.out 4) | (go_at_call 16; (with_reducible refine (impl_PsalmFits.calls kj24 _ _ t265 t268 t269 _ _ y300 _ _ t273 t276 t309 _ ?side1 ?side2 ?side3 ?side4 ?side5 ?side6 ?side7 A84.out).mono ?_); (case side1 => repeat (first | exact (Kd.R_reads' HO_304000.out).2.2 | (with_reducible refine Kd.C_alloc ?_ _) | (with_reducible refine Kd.C_drewN ?_ _) | (with_reducible refine Kd.C_drew ?_))); (case side2 => exact (Kd.R_reads' HO_304000.out).2.1); (case side3 => repeat (first | exact (Kd.R_reads' HO_304003.out).2.2 | (with_reducible refine Kd.C_alloc ?_ _) | (with_reducible refine Kd.C_drewN ?_ _) | (with_reducible refine Kd.C_drew ?_))); (case side4 => exact (Kd.R_reads' HO_304003.out).2.1); (case side5 => repeat (first | exact (Kd.R_reads' HO_304004.out).2.2 | (with_reducible refine Kd.C_alloc ?_ _) | (with_reducible refine Kd.C_drewN ?_ _) | (with_reducible refine Kd.C_drew ?_))); (case side6 => exact (Kd.R_reads' HO_304004.out).2.1); (case side7 => exact GOk.sub (GOk.below HG.out upH) (by decide)); rintro e w92 ⟨rfl, hb⟩; have n0_ := Q0_ (Kd.R_below (upR HO_278000) hb); have n1_ := Q0_ (Kd.R_below (upR HO_278003) hb); have n2_ := Q0_ (Kd.R_below (upR HO_278004) hb); have n3_ := Q0_ (Kd.R_below (upR HO_287000) hb); have n4_ := Q0_ (Kd.R_below (upR HO_287003) hb); have n5_ := Q0_ (Kd.R_below (upR HO_287004) hb); have n6_ := Q0_ (Kd.R_below (upR HO_304000) hb); have n7_ := Q0_ (Kd.R_below (upR HO_304003) hb); have n8_ := Q0_ (Kd.R_below (upR HO_304004) hb); have n9_ := Q0_ (blk_below (upK BK277) hb); have n10_ := Q0_ (blk_below (upK BK286) hb); have n11_ := Q0_ (blk_below (upK BK303) hb); have n12_ := Q0_ (below_step upH hb); clear HO_278000 HO_278003 HO_278004 HO_287000 HO_287003 HO_287004 HO_304000 HO_304003 HO_304004 BK277 BK286 BK303 HB; revert n0_ n1_ n2_ n3_ n4_ n5_ n6_ n7_ n8_ n9_ n10_ n11_ n12_; intro HO_278000 HO_278003 HO_278004 HO_287000 HO_287003 HO_287004 HO_304000 HO_304003 HO_304004 BK277 BK286 BK303 HB; (try clear hb); (try clear hb2); (try clear hk); (try clear hi)))
      go_ret
      exact ⟨by first | (simp only [IntKind.wrap_i64, Go.RowKit.wrap64]; rfl) | rfl | (simp [errW_none, errW_some] <;> rfl) | (simp [*, errW_none, errW_some] <;> rfl), by repeat (first | (with_reducible first | exact HB.out | apply below_alloc | apply pw_below_drewN | apply below_drew1 | refine below_set ?_ GE277.out | refine below_set ?_ GE286.out | refine below_set ?_ GE303.out) | exact HB.out)⟩
     subst c70
     replace H := ifP (rfl) H
     obtain ⟨t307, A710, H⟩ := Option.bind_eq_some_iff.mp H
     try dsimp only at H
     have A71 := Aside0.mk A710
     clear A710
     by_cases c72 : t307 = true
     rotate_left
     ·replace c72 := Bool.eq_false_iff.mpr c72
      subst c72
      replace H := ifN ((show ¬ (false = true) by decide)) H
      exact absurd H (by simp)
     subst c72
     replace H := ifP (rfl) H
     obtain ⟨t308, A730, H⟩ := Option.bind_eq_some_iff.mp H
     try dsimp only at H
     have A73 := Aside0.mk A730
     clear A730
     obtain rfl := Option.some.inj H
     have hnb74 := NB286_277.out
     have hnc74 := NB277_286.out
     have hnb75 := NB286_303.out
     have hnc75 := NB303_286.out
     have hcz76_0 : wc.cell? ⟨gb286, 0, none⟩ = some (.slice Ao30 y283.length co30) := (blk_cell BK286.out 0).trans rfl
     have hcz76_1 : wc.cell? ⟨gb286, 1, none⟩ = some (.int .i64 t268) := (blk_cell BK286.out 1).trans rfl
     have hcz76_2 : wc.cell? ⟨gb286, 2, none⟩ = some (.bool t269) := (blk_cell BK286.out 2).trans rfl
     have hcz76_3 : wc.cell? ⟨gb286, 3, none⟩ = some (.slice Ao11 t270.length co11) := (blk_cell BK286.out 3).trans rfl
     have hcz76_4 : wc.cell? ⟨gb286, 4, none⟩ = some (.slice Ao12 t273.length co12) := (blk_cell BK286.out 4).trans rfl
     have hfz76_0 := blk_frozen BK286.out 0
     have hfz76_1 := blk_frozen BK286.out 1
     have hfz76_2 := blk_frozen BK286.out 2
     have hfz76_3 := blk_frozen BK286.out 3
     have hfz76_4 := blk_frozen BK286.out 4
     go_wp2_with (first | (go_at_call 16; (with_reducible refine (impl_PsalmFits.calls kj24 _ _ y283 t268 t269 _ _ t270 _ _ t273 t276 true _ ?side1 ?side2 ?side3 ?side4 ?side5 ?side6 ?side7 A67.out).mono ?_); (case side1 => repeat (first | exact (Kd.R_reads' HO_287000.out).2.2 | (with_reducible refine Kd.C_alloc ?_ _) | (with_reducible refine Kd.C_drewN ?_ _) | (with_reducible refine Kd.C_drew ?_))); (case side2 => exact (Kd.R_reads' HO_287000.out).2.1); (case side3 => repeat (first | exact (Kd.R_reads' HO_287003.out).2.2 | (with_reducible refine Kd.C_alloc ?_ _) | (with_reducible refine Kd.C_drewN ?_ _) | (with_reducible refine Kd.C_drew ?_))); (case side4 => exact (Kd.R_reads' HO_287003.out).2.1); (case side5 => repeat (first | exact (Kd.R_reads' HO_287004.out).2.2 | (with_reducible refine Kd.C_alloc ?_ _) | (with_reducible refine Kd.C_drewN ?_ _) | (with_reducible refine Kd.C_drew ?_))); (case side6 => exact (Kd.R_reads' HO_287004.out).2.1); (case side7 => exact GOk.sub (GOk.below HG.out upH) (by decide)); rintro e w77 ⟨rfl, hb⟩; have n0_ := Q0_ (Kd.R_below (upR HO_278000) hb); have n1_ := Q0_ (Kd.R_below (upR HO_278003) hb); have n2_ := Q0_ (Kd.R_below (upR HO_278004) hb); have n3_ := Q0_ (Kd.R_below (upR HO_287000) hb); have n4_ := Q0_ (Kd.R_below (upR HO_287003) hb); have n5_ := Q0_ (Kd.R_below (upR HO_287004) hb); have n6_ := Q0_ (Kd.R_below (upR HO_304000) hb); have n7_ := Q0_ (Kd.R_below (upR HO_304003) hb); have n8_ := Q0_ (Kd.R_below (upR HO_304004) hb); have n9_ := Q0_ (blk_below (upK BK277) hb); have n10_ := Q0_ (blk_below (upK BK286) hb); have n11_ := Q0_ (blk_below (upK BK303) hb); have n12_ := Q0_ (below_step upH hb); clear HO_278000 HO_278003 HO_278004 HO_287000 HO_287003 HO_287004 HO_304000 HO_304003 HO_304004 BK277 BK286 BK303 HB; revert n0_ n1_ n2_ n3_ n4_ n5_ n6_ n7_ n8_ n9_ n10_ n11_ n12_; intro HO_278000 HO_278003 HO_278004 HO_287000 HO_287003 HO_287004 HO_304000 HO_304003 HO_304004 BK277 BK286 BK303 HB; (try clear hb); (try clear hb2); (try clear hk); (try clear hi)) | (go_at_call 21; (with_reducible refine (impl_VerseValid.calls (((t280 ++ (⟨#[120, 124]⟩ : ByteArray)) ++ t281) ++ (⟨#[47]⟩ : ByteArray)) true _ ?side1 A69.out).mono ?_); (case side1 => exact GOk.sub (GOk.below HG.out upH) (by decide)); rintro e w78 ⟨rfl, hb⟩; have n0_ := Q0_ (Kd.R_below (upR HO_278000) hb); have n1_ := Q0_ (Kd.R_below (upR HO_278003) hb); have n2_ := Q0_ (Kd.R_below (upR HO_278004) hb); have n3_ := Q0_ (Kd.R_below (upR HO_287000) hb); have n4_ := Q0_ (Kd.R_below (upR HO_287003) hb); have n5_ := Q0_ (Kd.R_below (upR HO_287004) hb); have n6_ := Q0_ (Kd.R_below (upR HO_304000) hb); have n7_ := Q0_ (Kd.R_below (upR HO_304003) hb); have n8_ := Q0_ (Kd.R_below (upR HO_304004) hb); have n9_ := Q0_ (blk_below (upK BK277) hb); have n10_ := Q0_ (blk_below (upK BK286) hb); have n11_ := Q0_ (blk_below (upK BK303) hb); have n12_ := Q0_ (below_step upH hb); clear HO_278000 HO_278003 HO_278004 HO_287000 HO_287003 HO_287004 HO_304000 HO_304003 HO_304004 BK277 BK286 BK303 HB; revert n0_ n1_ n2_ n3_ n4_ n5_ n6_ n7_ n8_ n9_ n10_ n11_ n12_; intro HO_278000 HO_278003 HO_278004 HO_287000 HO_287003 HO_287004 HO_304000 HO_304003 HO_304004 BK277 BK286 BK303 HB; (try clear hb); (try clear hb2); (try clear hk); (try clear hi); have hnb79 := NB277_303.out; have hnc79 := NB303_277.out; have hcz80_0 : w78.cell? ⟨gb277, 0, none⟩ = some (.slice Ao9 t265.length co9) := (blk_cell BK277.out 0).trans rfl; have hcz80_1 : w78.cell? ⟨gb277, 1, none⟩ = some (.int .i64 t268) := (blk_cell BK277.out 1).trans rfl; have hcz80_2 : w78.cell? ⟨gb277, 2, none⟩ = some (.bool t269) := (blk_cell BK277.out 2).trans rfl; have hcz80_3 : w78.cell? ⟨gb277, 3, none⟩ = some (.slice Ao11 t270.length co11) := (blk_cell BK277.out 3).trans rfl; have hcz80_4 : w78.cell? ⟨gb277, 4, none⟩ = some (.slice Ao12 t273.length co12) := (blk_cell BK277.out 4).trans rfl; have hfz80_0 := blk_frozen BK277.out 0; have hfz80_1 := blk_frozen BK277.out 1; have hfz80_2 := blk_frozen BK277.out 2; have hfz80_3 := blk_frozen BK277.out 3; have hfz80_4 := blk_frozen BK277.out 4) | (go_at_call 16; (with_reducible refine (impl_PsalmFits.calls kj24 _ _ t265 t268 t269 _ _ t270 _ _ t273 (((t280 ++ (⟨#[120, 124]⟩ : ByteArray)) ++ t281) ++ (⟨#[47]⟩ : ByteArray)) true _ ?side1 ?side2 ?side3 ?side4 ?side5 ?side6 ?side7 A71.out).mono ?_); (case side1 => repeat (first | exact (Kd.R_reads' HO_278000.out).2.2 | (with_reducible refine Kd.C_alloc ?_ _) | (with_reducible refine Kd.C_drewN ?_ _) | (with_reducible refine Kd.C_drew ?_))); (case side2 => exact (Kd.R_reads' HO_278000.out).2.1); (case side3 => repeat (first | exact (Kd.R_reads' HO_278003.out).2.2 | (with_reducible refine Kd.C_alloc ?_ _) | (with_reducible refine Kd.C_drewN ?_ _) | (with_reducible refine Kd.C_drew ?_))); (case side4 => exact (Kd.R_reads' HO_278003.out).2.1); (case side5 => repeat (first | exact (Kd.R_reads' HO_278004.out).2.2 | (with_reducible refine Kd.C_alloc ?_ _) | (with_reducible refine Kd.C_drewN ?_ _) | (with_reducible refine Kd.C_drew ?_))); (case side6 => exact (Kd.R_reads' HO_278004.out).2.1); (case side7 => exact GOk.sub (GOk.below HG.out upH) (by decide)); rintro e w81 ⟨rfl, hb⟩; have n0_ := Q0_ (Kd.R_below (upR HO_278000) hb); have n1_ := Q0_ (Kd.R_below (upR HO_278003) hb); have n2_ := Q0_ (Kd.R_below (upR HO_278004) hb); have n3_ := Q0_ (Kd.R_below (upR HO_287000) hb); have n4_ := Q0_ (Kd.R_below (upR HO_287003) hb); have n5_ := Q0_ (Kd.R_below (upR HO_287004) hb); have n6_ := Q0_ (Kd.R_below (upR HO_304000) hb); have n7_ := Q0_ (Kd.R_below (upR HO_304003) hb); have n8_ := Q0_ (Kd.R_below (upR HO_304004) hb); have n9_ := Q0_ (blk_below (upK BK277) hb); have n10_ := Q0_ (blk_below (upK BK286) hb); have n11_ := Q0_ (blk_below (upK BK303) hb); have n12_ := Q0_ (below_step upH hb); clear HO_278000 HO_278003 HO_278004 HO_287000 HO_287003 HO_287004 HO_304000 HO_304003 HO_304004 BK277 BK286 BK303 HB; revert n0_ n1_ n2_ n3_ n4_ n5_ n6_ n7_ n8_ n9_ n10_ n11_ n12_; intro HO_278000 HO_278003 HO_278004 HO_287000 HO_287003 HO_287004 HO_304000 HO_304003 HO_304004 BK277 BK286 BK303 HB; (try clear hb); (try clear hb2); (try clear hk); (try clear hi); have hcz82_0 : w81.cell? ⟨gb303, 0, none⟩ = some (.slice Ao9 t265.length co9) := (blk_cell BK303.out 0).trans rfl; have hcz82_1 : w81.cell? ⟨gb303, 1, none⟩ = some (.int .i64 t268) := (blk_cell BK303.out 1).trans rfl; have hcz82_2 : w81.cell? ⟨gb303, 2, none⟩ = some (.bool t269) := (blk_cell BK303.out 2).trans rfl; have hcz82_3 : w81.cell? ⟨gb303, 3, none⟩ = some (.slice Ao47 y300.length co47) := (blk_cell BK303.out 3).trans rfl; have hcz82_4 : w81.cell? ⟨gb303, 4, none⟩ = some (.slice Ao12 t273.length co12) := (blk_cell BK303.out 4).trans rfl; have hfz82_0 := blk_frozen BK303.out 0; have hfz82_1 := blk_frozen BK303.out 1; have hfz82_2 := blk_frozen BK303.out 2; have hfz82_3 := blk_frozen BK303.out 3; have hfz82_4 := blk_frozen BK303.out 4) | (go_at_call 16; (with_reducible refine (impl_PsalmFits.calls kj24 _ _ t265 t268 t269 _ _ y300 _ _ t273 t276 t308 _ ?side1 ?side2 ?side3 ?side4 ?side5 ?side6 ?side7 A73.out).mono ?_); (case side1 => repeat (first | exact (Kd.R_reads' HO_304000.out).2.2 | (with_reducible refine Kd.C_alloc ?_ _) | (with_reducible refine Kd.C_drewN ?_ _) | (with_reducible refine Kd.C_drew ?_))); (case side2 => exact (Kd.R_reads' HO_304000.out).2.1); (case side3 => repeat (first | exact (Kd.R_reads' HO_304003.out).2.2 | (with_reducible refine Kd.C_alloc ?_ _) | (with_reducible refine Kd.C_drewN ?_ _) | (with_reducible refine Kd.C_drew ?_))); (case side4 => exact (Kd.R_reads' HO_304003.out).2.1); (case side5 => repeat (first | exact (Kd.R_reads' HO_304004.out).2.2 | (with_reducible refine Kd.C_alloc ?_ _) | (with_reducible refine Kd.C_drewN ?_ _) | (with_reducible refine Kd.C_drew ?_))); (case side6 => exact (Kd.R_reads' HO_304004.out).2.1); (case side7 => exact GOk.sub (GOk.below HG.out upH) (by decide)); rintro e w83 ⟨rfl, hb⟩; have n0_ := Q0_ (Kd.R_below (upR HO_278000) hb); have n1_ := Q0_ (Kd.R_below (upR HO_278003) hb); have n2_ := Q0_ (Kd.R_below (upR HO_278004) hb); have n3_ := Q0_ (Kd.R_below (upR HO_287000) hb); have n4_ := Q0_ (Kd.R_below (upR HO_287003) hb); have n5_ := Q0_ (Kd.R_below (upR HO_287004) hb); have n6_ := Q0_ (Kd.R_below (upR HO_304000) hb); have n7_ := Q0_ (Kd.R_below (upR HO_304003) hb); have n8_ := Q0_ (Kd.R_below (upR HO_304004) hb); have n9_ := Q0_ (blk_below (upK BK277) hb); have n10_ := Q0_ (blk_below (upK BK286) hb); have n11_ := Q0_ (blk_below (upK BK303) hb); have n12_ := Q0_ (below_step upH hb); clear HO_278000 HO_278003 HO_278004 HO_287000 HO_287003 HO_287004 HO_304000 HO_304003 HO_304004 BK277 BK286 BK303 HB; revert n0_ n1_ n2_ n3_ n4_ n5_ n6_ n7_ n8_ n9_ n10_ n11_ n12_; intro HO_278000 HO_278003 HO_278004 HO_287000 HO_287003 HO_287004 HO_304000 HO_304003 HO_304004 BK277 BK286 BK303 HB; (try clear hb); (try clear hb2); (try clear hk); (try clear hi)))
     go_ret
     exact ⟨by first | (simp only [IntKind.wrap_i64, Go.RowKit.wrap64]; rfl) | rfl | (simp [errW_none, errW_some] <;> rfl) | (simp [*, errW_none, errW_some] <;> rfl), by repeat (first | (with_reducible first | exact HB.out | apply below_alloc | apply pw_below_drewN | apply below_drew1 | refine below_set ?_ GE277.out | refine below_set ?_ GE286.out | refine below_set ?_ GE303.out) | exact HB.out)⟩
def laws_FnPsalmFits.Pure : Prop := ∀ (l0 : List Int), l0.length ≤ maxLen → l0.length * 1 ≤ 140737488351232 → (∀ x ∈ l0, (Lit.int .u8 x).wf = true) → ∃ k, laws_FnPsalmFits.f k l0 = some true
end Go.Proofs.YtdgmkfbmeaalpaaDoor.E
end
section
namespace Go.Proofs.YtdgmkfbmeaalpaaDoor.Pur
open Go.RowKit Go.Proofs.YtdgmkfbmeaalpaaDoorW.PrintWords
def EvP {α : Type} (g : Nat → Option α) (P : α → Prop) : Prop := ∃ r, Ev g r ∧ P r
section
variable {α β : Type}
theorem EvP.bind {g : Nat → Option α} {f : Nat → α → Option β} {P : α → Prop} {Q : β → Prop} (h : EvP g P) (k : ∀ a, P a → EvP (fun n => f n a) Q) : EvP (fun n => (g n).bind (f n)) Q := by
  obtain ⟨a, ha, hp⟩ := h
  obtain ⟨b, hb, hq⟩ := k a hp
  exact ⟨b, Ev.bind ha hb, hq⟩
theorem EvP.ret {P : α → Prop} {r : α} (h : P r) : EvP (fun _ => some r) P := ⟨r, Ev.now r, h⟩
theorem EvP.con {o : Option α} {P : α → Prop} {r : α} (h : o = some r) (hp : P r) : EvP (fun _ => o) P := by subst h; exact .ret hp
theorem EvP.ite {c : Prop} [Decidable c] {f g : Nat → Option α} {P : α → Prop} (h : c → EvP f P) (k : ¬ c → EvP g P) : EvP (fun n => if c then f n else g n) P := by
  by_cases hc : c
  · obtain ⟨r, hr, hp⟩ := h hc
    exact ⟨r, Ev.congr (fun n => if_pos hc) hr, hp⟩
  · obtain ⟨r, hr, hp⟩ := k hc
    exact ⟨r, Ev.congr (fun n => if_neg hc) hr, hp⟩
theorem EvP.yes {c : Prop} [Decidable c] {f g : Nat → Option α} {P : α → Prop} (hc : c) (h : EvP f P) : EvP (fun n => if c then f n else g n) P := .ite (fun _ => h) (fun k => absurd hc k)
theorem EvP.no {c : Prop} [Decidable c] {f g : Nat → Option α} {P : α → Prop} (hc : ¬ c) (h : EvP g P) : EvP (fun n => if c then f n else g n) P := .ite (fun k => absurd k hc) (fun _ => h)
theorem EvP.step {g f : Nat → Option α} {P : α → Prop} (h : ∀ k, g (k + 1) = f k) (k : EvP f P) : EvP g P := by
  obtain ⟨r, hr, hp⟩ := k
  exact ⟨r, Ev.step h hr, hp⟩
theorem EvP.succ {g : Nat → Option α} {P : α → Prop} (k : EvP (fun n => g (n + 1)) P) : EvP g P := EvP.step (fun _ => rfl) k
theorem EvP.mono {g : Nat → Option α} {P Q : α → Prop} (h : EvP g P) (k : ∀ r, P r → Q r) : EvP g Q := by
  obtain ⟨r, hr, hp⟩ := h
  exact ⟨r, hr, k r hp⟩
theorem EvP.rounds {g : Nat → Option α} {r : α} (h : EvP g (· = r)) : ∃ k, g k = some r := by
  obtain ⟨_, hr, rfl⟩ := h
  exact hr.rounds
end
structure Hd (p : Prop) : Prop where mk :: (out : p)
theorem w64 {i : Int} (h0 : -9223372036854775808 ≤ i) (h1 : i ≤ 9223372036854775807) : wrap64 i = i := by unfold wrap64; omega
theorem tmod_pos {a : Int} (b : Int) (h : 0 ≤ a) : Int.tmod a b = a % b := Int.tmod_eq_emod_of_nonneg h
theorem tdiv_pos {a : Int} (b : Int) (h : 0 ≤ a) : Int.tdiv a b = a / b := Int.tdiv_eq_ediv_of_nonneg h
theorem toNat_nat (n : Nat) : ((n : Int)).toNat = n := rfl
theorem toNat_succ (n : Nat) : ((n : Int) + 1).toNat = n + 1 := by omega
end Go.Proofs.YtdgmkfbmeaalpaaDoor.Pur
end
section
namespace Go.Proofs.YtdgmkfbmeaalpaaDoor.E
open Go.RowKit Go.Proofs.YtdgmkfbmeaalpaaDoorW.PrintWords Go.Proofs.YtdgmkfbmeaalpaaDoorW.PrintLast Go.Proofs.YtdgmkfbmeaalpaaDoorW.PrintMore
attribute [local go_sem] max2_int min2_int max_two min_two max_three min_three max_four min_four
set_option linter.unusedVariables false
set_option linter.unusedSimpArgs false
attribute [local go_sem] str_leq_ str_gtr_ str_geq_
def spec_VerseSyllables.f (k : Nat) (a0 : ByteArray) : Option (Int) := (spec_VerseValid.f k a0).bind fun t314 => (if t314 = true then (some (wrap64 ((a0.size : Int) - 1))) else (some (-1)))
end Go.Proofs.YtdgmkfbmeaalpaaDoor.E
end
section
namespace Go.Proofs.YtdgmkfbmeaalpaaDoor.E
open Go.RowKit Go.Proofs.YtdgmkfbmeaalpaaDoorW.PrintWords Go.Proofs.YtdgmkfbmeaalpaaDoorW.PrintLast Go.Proofs.YtdgmkfbmeaalpaaDoorW.PrintMore
attribute [local go_sem] max2_int min2_int max_two min_two max_three min_three max_four min_four
set_option linter.unusedVariables false
set_option linter.unusedSimpArgs false
attribute [local go_sem] str_leq_ str_gtr_ str_geq_
def impl_VerseSyllables.f (a0 : ByteArray) : Option (Int) := (impl_VerseHalves.f a0).bind fun bt613 => (if bt613.2.2 = true then (some (wrap64 ((bt613.1.size : Int) + (bt613.2.1.size : Int)))) else (some (-1)))
end Go.Proofs.YtdgmkfbmeaalpaaDoor.E
end
section
namespace Go.Proofs.YtdgmkfbmeaalpaaDoor.Pur
open Go.RowKit Go.Proofs.YtdgmkfbmeaalpaaDoorW.PrintWords Go.Proofs.YtdgmkfbmeaalpaaDoorW.PrintMore Go.Proofs.YtdgmkfbmeaalpaaDoor.E
theorem bt_at (t : ByteArray) (i : Nat) (h : i < t.size) : bt t (i : Int) = ((t.data.toList[i]'(by rw [Array.length_toList]; exact h)).toNat : Int) := by
  unfold bt
  rw [toNat_nat, dif_pos h, Array.getElem_toList]
  rfl
theorem list_len (t : ByteArray) : t.data.toList.length = t.size := Array.length_toList
theorem ba_ext {a b : ByteArray} (h : a.data.toList = b.data.toList) : a = b := by
  cases a; cases b
  congr 1
  exact Array.toList_inj.mp h
theorem ba_list (l : List UInt8) : (⟨l.toArray⟩ : ByteArray).data.toList = l := rfl
theorem ba_size (l : List UInt8) : (⟨l.toArray⟩ : ByteArray).size = l.length := by rw [← list_len]
def cutL : List UInt8 → List UInt8 × List UInt8 × Bool
  | [] => ([], [], false)
  | b :: l => if b = 124 then ([], l, true) else (b :: (cutL l).1, (cutL l).2.1, (cutL l).2.2)
theorem cut_is : ∀ l : List UInt8, Lib.cut l [124] = if (cutL l).2.2 = true then cutL l else (l, [], false)
  | [] => rfl
  | b :: l => by
    have ih := cut_is l
    have hge := Lib.index_ge l [124]
    have hp : List.isPrefixOf [(124 : UInt8)] (b :: l) = ((124 : UInt8) == b) := by simp [List.isPrefixOf]
    unfold Lib.cut at ih ⊢
    rw [Lib.index, hp, cutL]
    by_cases h : b = 124
    · subst h
      simp
    · rw [if_neg h, show ((124 : UInt8) == b) = false from beq_eq_false_iff_ne.mpr (fun e => h e.symm)]
      simp only [Bool.false_eq_true, if_false]
      by_cases g : Lib.index l [124] = -1
      · have e : (if (Lib.index l [124] == -1) = true then -1 else Lib.index l [124] + 1) = -1 := by rw [g]; rfl
        rw [e, if_neg (by decide)]
        rw [g, if_neg (by decide)] at ih
        by_cases k : (cutL l).2.2 = true
        · rw [if_pos k] at ih
          rw [← ih] at k
          exact absurd k Bool.false_ne_true
        · rw [if_neg k]
      · have e : (if (Lib.index l [124] == -1) = true then -1 else Lib.index l [124] + 1) = Lib.index l [124] + 1 := if_neg (fun h => g (by simpa using h))
        rw [e, if_pos (by omega)]
        rw [if_pos (by omega)] at ih
        by_cases k : (cutL l).2.2 = true
        · rw [if_pos k] at ih ⊢
          rw [← ih]
          obtain ⟨j, ej⟩ : ∃ j : Nat, Lib.index l [124] = (j : Int) := ⟨(Lib.index l [124]).toNat, by omega⟩
          rw [ej]
          simp only [toNat_nat, toNat_succ, List.take_succ_cons, List.length_singleton]
          rw [show j + 1 + 1 = (j + 1) + 1 from rfl, List.drop_succ_cons]
        · rw [if_neg k] at ih
          have := congrArg (fun x => x.2.2) ih
          exact absurd this (by simp)
theorem cut_miss : ∀ l : List UInt8, (cutL l).2.2 = false → cutL l = (l, [], false)
  | [], _ => rfl
  | b :: l, h => by
    rw [cutL] at h ⊢
    by_cases g : b = 124
    · rw [if_pos g] at h; cases h
    · rw [if_neg g] at h ⊢
      have := cut_miss l h
      rw [this]
theorem cut_eq (l : List UInt8) : Lib.cut l [124] = cutL l := by
  rw [cut_is]
  by_cases h : (cutL l).2.2 = true
  · rw [if_pos h]
  · rw [if_neg h, cut_miss l (Bool.eq_false_iff.mpr h)]
theorem cut_len : ∀ l : List UInt8, (cutL l).1.length + (cutL l).2.1.length + (if (cutL l).2.2 = true then 1 else 0) = l.length
  | [] => rfl
  | b :: l => by
    have ih := cut_len l
    rw [cutL]
    by_cases g : b = 124
    · rw [if_pos g]; simp
    · rw [if_neg g]
      simp only [List.length_cons]
      omega
def halfL (l : List UInt8) : Bool := !l.isEmpty && l.all (fun b => b == 120 || b == 47)
def verse (s : ByteArray) : Option (ByteArray × ByteArray) := if (cutL s.data.toList).2.2 = true ∧ halfL (cutL s.data.toList).1 = true ∧ halfL (cutL s.data.toList).2.1 = true ∧ (cutL s.data.toList).1.length + (cutL s.data.toList).2.1.length ≤ 20 then some (⟨(cutL s.data.toList).1.toArray⟩, ⟨(cutL s.data.toList).2.1.toArray⟩) else none
def halvesOf (s : ByteArray) : ByteArray × ByteArray × Bool := match verse s with
  | some (a, b) => (a, b, true)
  | none => (⟨#[]⟩, ⟨#[]⟩, false)
theorem verse_some {s a b : ByteArray} (h : verse s = some (a, b)) : a.size + b.size ≤ 20 ∧ 1 ≤ a.size ∧ 1 ≤ b.size ∧ s.size = a.size + b.size + 1 ∧ halfL a.data.toList = true ∧ halfL b.data.toList = true ∧ a.data.toList = (cutL s.data.toList).1 ∧ b.data.toList = (cutL s.data.toList).2.1 := by
  unfold verse at h
  split at h
  · rename_i g
    obtain ⟨g1, g2, g3, g4⟩ := g
    simp only [Option.some.injEq, Prod.mk.injEq] at h
    obtain ⟨rfl, rfl⟩ := h
    have hl := cut_len s.data.toList
    rw [if_pos g1, list_len s] at hl
    have n1 : 1 ≤ (cutL s.data.toList).1.length := by
      rw [halfL, Bool.and_eq_true] at g2
      have := g2.1
      rcases e : (cutL s.data.toList).1 with _ | ⟨x, y⟩
      · rw [e] at this; simp at this
      · simp
    have n2 : 1 ≤ (cutL s.data.toList).2.1.length := by
      rw [halfL, Bool.and_eq_true] at g3
      have := g3.1
      rcases e : (cutL s.data.toList).2.1 with _ | ⟨x, y⟩
      · rw [e] at this; simp at this
      · simp
    have e1 := ba_size (cutL s.data.toList).1
    have e2 := ba_size (cutL s.data.toList).2.1
    refine ⟨by omega, by omega, by omega, by omega, g2, g3, rfl, rfl⟩
  · cases h
theorem dropWhile_nil {α : Type} (p : α → Bool) : ∀ l : List α, l.dropWhile p = [] ↔ l.all p = true
  | [] => by simp
  | a :: l => by
    by_cases h : p a = true
    · simp [h, dropWhile_nil p l]
    · simp [h]
theorem trim_nil (l cs : List UInt8) : Lib.trimS l cs = [] ↔ l.all (cs.contains ·) = true := by
  unfold Lib.trimS Lib.trimLeftS Lib.trimRightS
  rw [dropWhile_nil, List.all_reverse]
  constructor
  · intro h
    rw [List.all_eq_true] at h ⊢
    intro x hx
    by_cases hm : x ∈ l.reverse.dropWhile (cs.contains ·)
    · exact h x hm
    · have hs := List.takeWhile_append_dropWhile (p := fun y => cs.contains y) (l := l.reverse)
      have hx' : x ∈ l.reverse := List.mem_reverse.mpr hx
      rw [← hs, List.mem_append] at hx'
      rcases hx' with g | g
      · have := List.all_takeWhile (p := fun y => cs.contains y) (l := l.reverse)
        rw [List.all_eq_true] at this
        exact this x g
      · exact absurd g hm
  · intro h
    rw [List.all_eq_true] at h ⊢
    intro x hx
    have := (List.dropWhile_sublist (fun y => cs.contains y) (l := l.reverse)).subset hx
    exact h x (List.mem_reverse.mp this)
theorem half_is (t : ByteArray) (ht : t.size ≤ 1000000) : impl_halfValid.f t = some (halfL t.data.toList) := by
  unfold impl_halfValid.f halfL
  rw [ByteArray.toList_eq]
  by_cases h0 : t.data.toList = ([] : List UInt8)
  · rw [if_pos h0, h0]
    rfl
  · rw [if_neg h0]
    unfold strings_Trim.f
    rw [if_pos (by omega), if_pos (by decide), if_pos (by decide)]
    simp only [Option.bind_some]
    congr 1
    have e : (t.data.toList.all (fun b => [120, 47].contains b)) = t.data.toList.all (fun b => b == 120 || b == 47) := by
      congr 1
      funext b
      simp only [List.contains, List.elem]
      cases b == 120 <;> cases b == 47 <;> rfl
    have hne : (!t.data.toList.isEmpty) = true := by
      rcases e : t.data.toList with _ | ⟨x, y⟩
      · exact absurd e h0
      · rfl
    rw [hne, Bool.true_and, ← e]
    rw [Bool.eq_iff_iff, beq_iff_eq, ByteArray.toList_eq]
    exact trim_nil t.data.toList [120, 47]
theorem impl_halves (s : ByteArray) (hs : s.size ≤ 100000000) : impl_VerseHalves.f s = some (halvesOf s) := by
  have hl := cut_len s.data.toList
  rw [list_len s] at hl
  have sz1 : (⟨(cutL s.data.toList).1.toArray⟩ : ByteArray).size = (cutL s.data.toList).1.length := ba_size _
  have sz2 : (⟨(cutL s.data.toList).2.1.toArray⟩ : ByteArray).size = (cutL s.data.toList).2.1.length := ba_size _
  unfold impl_VerseHalves.f strings_Cut.f halvesOf verse
  rw [if_pos (by omega), show (⟨#[124]⟩ : ByteArray).data.toList = [124] from rfl, cut_eq]
  simp only [Option.bind_some]
  by_cases g1 : (cutL s.data.toList).2.2 = true
  rotate_left
  · rw [if_neg g1, if_neg (fun h => g1 h.1)]
  rw [if_pos g1, sz1, sz2, w64 (by omega) (by omega)]
  by_cases g4 : (cutL s.data.toList).1.length + (cutL s.data.toList).2.1.length ≤ 20
  rotate_left
  · rw [if_pos (by omega), if_neg (fun h => g4 h.2.2.2)]
  rw [if_neg (by omega), half_is _ (by omega), half_is _ (by omega)]
  simp only [Option.bind_some]
  by_cases g2 : halfL (cutL s.data.toList).1 = true
  rotate_left
  · rw [if_neg g2, if_neg (fun h => g2 h.2.1)]
  rw [if_pos g2]
  by_cases g3 : halfL (cutL s.data.toList).2.1 = true
  · rw [if_pos g3, if_pos ⟨g1, g2, g3, g4⟩]
  · rw [if_neg g3, if_neg (fun h => g3 h.2.2.1)]
def hv (s : ByteArray) : ByteArray × ByteArray := (⟨(cutL s.data.toList).1.toArray⟩, ⟨(cutL s.data.toList).2.1.toArray⟩)
theorem cut_at : ∀ (l : List UInt8) (i : Nat), (∀ j, j < i → l[j]? ≠ some 124) → (cutL l).1 = l.take i ++ (cutL (l.drop i)).1 ∧ (cutL l).2.1 = (cutL (l.drop i)).2.1 ∧ (cutL l).2.2 = (cutL (l.drop i)).2.2
  | _, 0, _ => ⟨rfl, rfl, rfl⟩
  | [], i + 1, _ => ⟨rfl, rfl, rfl⟩
  | b :: l, i + 1, h => by
    have hb : b ≠ 124 := fun e => h 0 (by omega) (by rw [e]; rfl)
    have ih := cut_at l i (fun j hj => by have := h (j + 1) (by omega); rwa [List.getElem?_cons_succ] at this)
    rw [cutL, if_neg hb]
    refine ⟨?_, ih.2.1, ih.2.2⟩
    rw [List.take_succ_cons, List.drop_succ_cons, List.cons_append, ih.1]
theorem spec_halves_loop (s : ByteArray) (hs : s.size ≤ 100000000) : ∀ (d i : Nat), i + d = s.size → (∀ j, j < i → s.data.toList[j]? ≠ some 124) → EvP (fun k => spec_l4Halves.l0 k s (i : Int)) (· = hv s) := by
  intro d
  induction d with
  | zero =>
    intro i hi hn
    refine EvP.succ ?_
    simp only [spec_l4Halves.l0]
    refine EvP.no (by omega) (EvP.ret ?_)
    obtain ⟨a, b, c⟩ := cut_at s.data.toList i hn
    have e : s.data.toList.drop i = [] := List.drop_of_length_le (by rw [list_len]; omega)
    rw [e] at a b
    have e2 : s.data.toList.take i = s.data.toList := List.take_of_length_le (by rw [list_len]; omega)
    unfold hv
    rw [a, b, e2]
    refine Prod.ext (ba_ext ?_) (ba_ext rfl)
    rw [ba_list]
    simp [cutL]
  | succ d ih =>
    intro i hi hn
    have hlt : i < s.data.toList.length := by rw [list_len]; omega
    have e2 : Hd (wrap64 ((i : Int) + 1) = ((i + 1 : Nat) : Int)) := ⟨w64 (by omega) (by omega)⟩
    refine EvP.succ ?_
    simp only [spec_l4Halves.l0]
    refine EvP.yes (by omega) (EvP.yes (by omega) ?_)
    rw [bt_at s i (by omega), e2.out]
    refine EvP.ite (fun g => ?_) (fun g => ?_)
    · refine EvP.yes (by omega) (EvP.yes (by omega) (EvP.yes (by omega) (EvP.ret ?_)))
      have eb : s.data.toList[i] = 124 := by rw [← UInt8.toNat_inj]; show _ = 124; omega
      obtain ⟨a, b, c⟩ := cut_at s.data.toList i hn
      rw [List.drop_eq_getElem_cons hlt, eb, cutL, if_pos rfl] at a b
      unfold hv
      rw [a, b]
      refine Prod.ext (ba_ext ?_) (ba_ext ?_)
      · show (s.extract 0 (i : Int).toNat).data.toList = List.take i s.data.toList ++ []
        rw [Lib.extract_eq, toNat_nat, List.append_nil]
        rfl
      · show (s.extract ((i + 1 : Nat) : Int).toNat s.size).data.toList = List.drop (i + 1) s.data.toList
        rw [Lib.extract_eq, toNat_nat, ba_list, List.take_of_length_le (by rw [List.length_drop, list_len s]; omega)]
    · refine ih (i + 1) (by omega) (fun j hj e => ?_)
      by_cases ej : j = i
      · subst ej
        rw [List.getElem?_eq_getElem hlt] at e
        have := Option.some.inj e
        rw [this] at g
        exact g rfl
      · exact hn j (by omega) e
theorem spec_halves (s : ByteArray) (hs : s.size ≤ 100000000) : EvP (fun k => spec_l4Halves.f k s) (· = hv s) := by
  unfold spec_l4Halves.f
  exact spec_halves_loop s hs s.size 0 (by omega) (fun j hj => by omega)
theorem spec_half_loop (t : ByteArray) (ht : t.size ≤ 100000000) : ∀ (d i : Nat), i + d = t.size → EvP (fun k => spec_l4Half.l0 k t (i : Int)) (· = ((t.data.toList.drop i).all (fun b => b == 120 || b == 47) && decide (t.size > 0))) := by
  intro d
  induction d with
  | zero =>
    intro i hi
    refine EvP.succ ?_
    simp only [spec_l4Half.l0]
    refine EvP.no (by omega) (EvP.ret ?_)
    rw [List.drop_of_length_le (by rw [list_len]; omega)]
    rw [List.all_nil, Bool.true_and]
    exact decide_eq_decide.mpr (by omega)
  | succ d ih =>
    intro i hi
    have hlt : i < t.data.toList.length := by rw [list_len]; omega
    have e2 : Hd (wrap64 ((i : Int) + 1) = ((i + 1 : Nat) : Int)) := ⟨w64 (by omega) (by omega)⟩
    refine EvP.succ ?_
    simp only [spec_l4Half.l0]
    refine EvP.yes (by omega) (EvP.yes (by omega) ?_)
    rw [bt_at t i (by omega), e2.out, List.drop_eq_getElem_cons hlt, List.all_cons]
    refine EvP.ite (fun g => ?_) (fun g => EvP.ite (fun g' => ?_) (fun g' => EvP.ret ?_))
    · rw [show t.data.toList[i] = 120 from by rw [← UInt8.toNat_inj]; show _ = 120; omega]
      exact ih (i + 1) (by omega)
    · rw [show t.data.toList[i] = 47 from by rw [← UInt8.toNat_inj]; show _ = 47; omega]
      exact ih (i + 1) (by omega)
    · rw [show (t.data.toList[i] == 120) = false from beq_eq_false_iff_ne.mpr (fun e => g (by rw [e]; rfl)), show (t.data.toList[i] == 47) = false from beq_eq_false_iff_ne.mpr (fun e => g' (by rw [e]; rfl))]
      rfl
theorem spec_half (t : ByteArray) (ht : t.size ≤ 100000000) : EvP (fun k => spec_l4Half.f k t) (· = halfL t.data.toList) := by
  unfold spec_l4Half.f
  refine (spec_half_loop t ht t.size 0 (by omega)).mono (fun r e => ?_)
  rw [e, List.drop_zero, Bool.and_comm]
  unfold halfL
  congr 1
  rw [← list_len]
  rcases t.data.toList with _ | ⟨x, y⟩
  · rfl
  · simp
theorem hv_of {s a b : ByteArray} (h : verse s = some (a, b)) : hv s = (a, b) := by
  obtain ⟨_, _, _, _, _, _, e1, e2⟩ := verse_some h
  unfold hv
  exact Prod.ext (ba_ext e1.symm) (ba_ext e2.symm)
theorem spec_valid_v (s : ByteArray) (hs : s.size ≤ 100000000) : EvP (fun k => spec_VerseValid.f k s) (· = (verse s).isSome) := by
  have hl := cut_len s.data.toList
  rw [list_len s] at hl
  unfold spec_VerseValid.f
  refine EvP.bind (spec_halves s hs) (fun _ e => ?_)
  subst e
  have sz1 : (hv s).1.size = (cutL s.data.toList).1.length := ba_size _
  have sz2 : (hv s).2.size = (cutL s.data.toList).2.1.length := ba_size _
  refine EvP.bind (spec_half (hv s).1 (by omega)) (fun _ e => ?_)
  subst e
  unfold verse
  refine EvP.ite (fun g1 => ?_) (fun g1 => EvP.ret ?_)
  · refine EvP.bind (spec_half (hv s).2 (by omega)) (fun _ e => ?_)
    subst e
    refine EvP.ite (fun g2 => EvP.ret ?_) (fun g2 => EvP.ret ?_)
    · rw [w64 (by omega) (by omega), sz1, sz2]
      have g3 : (cutL s.data.toList).2.2 = true := by
        by_cases k : (cutL s.data.toList).2.2 = true
        · exact k
        · have := cut_miss _ (Bool.eq_false_iff.mpr k)
          have e2 : (hv s).2.data.toList = (cutL s.data.toList).2.1 := rfl
          rw [e2, this] at g2
          exact absurd (show halfL [] = true from g2) (by decide)
      by_cases g4 : (cutL s.data.toList).1.length + (cutL s.data.toList).2.1.length ≤ 20
      · rw [if_pos ⟨g3, g1, g2, g4⟩]
        exact decide_eq_true (by omega)
      · rw [if_neg (fun h => g4 h.2.2.2)]
        exact decide_eq_false (by omega)
    · rw [if_neg (fun h => g2 h.2.2.1)]; rfl
  · rw [if_neg (fun h => g1 h.2.1)]; rfl
theorem impl_valid_v (s : ByteArray) (hs : s.size ≤ 100000000) : impl_VerseValid.f s = some (verse s).isSome := by
  unfold impl_VerseValid.f
  rw [impl_halves s hs]
  simp only [Option.bind_some]
  congr 1
  unfold halvesOf
  split
  · rename_i a b e; rw [e]; rfl
  · rename_i e; rw [e]; rfl
end Go.Proofs.YtdgmkfbmeaalpaaDoor.Pur
end
section
namespace Go.Proofs.YtdgmkfbmeaalpaaDoor.Pur
open Go.RowKit Go.Proofs.YtdgmkfbmeaalpaaDoorW.PrintWords Go.Proofs.YtdgmkfbmeaalpaaDoor.E
def okT (t : S25) : Bool := decide (0 ≤ t.f0) && decide (t.f0 ≤ 20) && (!t.f1 || decide (t.f0 % 7 = 2))
def okM (l : List S25) : Bool := l.all okT && decide (l.length ≤ 24)
theorem spec_valid (t : S25) : spec_ToneValid.f t.f0 t.f1 = some (okT t) := by
  obtain ⟨s, b⟩ := t
  unfold spec_ToneValid.f spec_l6In.f spec_l1Letter.f okT
  by_cases h0 : s ≥ 0
  · rw [if_pos h0]
    by_cases h1 : s ≤ 20
    · cases b <;> simp [h0, h1, tmod_pos, Bool.beq_eq_decide_eq]
    · simp [h0, h1]
  · simp [h0]
theorem impl_valid (t : S25) : impl_Tone_valid.f t.f0 t.f1 = some (okT t) := by
  obtain ⟨s, b⟩ := t
  unfold impl_Tone_valid.f okT
  by_cases h0 : s ≥ 0
  · rw [if_pos h0]
    by_cases h1 : s ≤ 20
    · cases b <;> simp [h0, h1, tmod_pos, Bool.beq_eq_decide_eq]
    · simp [h0, h1]
  · simp [h0]
theorem rdT_lt {l : List S25} {i : Nat} (h : i < l.length) : rd_T25 l (i : Int) = l[i] := by
  unfold rd_T25
  rw [toNat_nat, List.getD_eq_getElem?_getD, List.getElem?_eq_getElem h]
  rfl
theorem all_drop {l : List S25} {i : Nat} (h : i < l.length) : (l.drop i).all okT = (okT l[i] && (l.drop (i + 1)).all okT) := by
  rw [List.drop_eq_getElem_cons h, List.all_cons]
theorem spec_melody_loop (l : List S25) (hl : l.length < 9223372036854775807) : ∀ d i : Nat, i + d = l.length → EvP (fun k => spec_MelodyValid.l0 k l (i : Int)) (· = ((l.drop i).all okT && decide (l.length ≤ 24))) := by
  intro d
  induction d with
  | zero =>
    intro i hi
    refine EvP.succ ?_
    simp only [spec_MelodyValid.l0]
    refine (EvP.no (by omega) (EvP.ret ?_))
    rw [List.drop_of_length_le (by omega)]
    simp only [List.all_nil, Bool.true_and]
    by_cases h : l.length ≤ 24
    · have : (l.length : Int) ≤ 24 := by omega
      simp [h, this]
    · have : ¬ (l.length : Int) ≤ 24 := by omega
      simp [h, this]
  | succ d ih =>
    intro i hi
    have hlt : i < l.length := by omega
    refine EvP.step (fun k => rfl) (EvP.yes (by omega) (EvP.yes (by omega) ?_))
    rw [rdT_lt hlt, all_drop hlt]
    refine EvP.bind (P := (· = okT l[i])) (EvP.con (spec_valid _) rfl) (fun _ e => ?_)
    subst e
    refine EvP.ite (fun h => ?_) (fun h => EvP.ret ?_)
    · rw [w64 (by omega) (by omega), h, Bool.true_and]
      exact ih (i + 1) (by omega)
    · simp [h]
theorem spec_melody (l : List S25) (hl : l.length < 9223372036854775807) : EvP (fun k => spec_MelodyValid.f k l) (· = okM l) := spec_melody_loop l hl l.length 0 (by omega)
theorem impl_melody_loop (l : List S25) (hl : l.length ≤ 24) : ∀ d i : Nat, i + d = l.length → EvP (fun k => impl_MelodyValid.l0 k l (l.length : Int) (i : Int)) (· = (l.drop i).all okT) := by
  intro d
  induction d with
  | zero =>
    intro i hi
    refine EvP.step (fun k => rfl) (EvP.no (by omega) (EvP.ret ?_))
    rw [List.drop_of_length_le (by omega)]
    rfl
  | succ d ih =>
    intro i hi
    have hlt : i < l.length := by omega
    refine EvP.step (fun k => rfl) (EvP.yes (by omega) (EvP.yes (by omega) ?_))
    try refine EvP.yes (by omega) ?_
    rw [rdT_lt hlt, all_drop hlt]
    refine EvP.bind (P := (· = okT l[i])) (EvP.con (impl_valid _) rfl) (fun _ e => ?_)
    subst e
    refine EvP.ite (fun h => ?_) (fun h => EvP.ret ?_)
    · rw [w64 (by omega) (by omega), h, Bool.true_and]
      exact ih (i + 1) (by omega)
    · simp [h]
theorem impl_melody (l : List S25) : EvP (fun k => impl_MelodyValid.f k l) (· = okM l) := by
  unfold impl_MelodyValid.f
  refine EvP.ite (fun h => EvP.ret ?_) (fun h => ?_)
  · simp [okM]; intro; omega
  · have hl : l.length ≤ 24 := by omega
    refine (impl_melody_loop l hl l.length 0 (by omega)).mono (fun r e => ?_)
    rw [e]
    simp [okM, hl]
end Go.Proofs.YtdgmkfbmeaalpaaDoor.Pur
end
section
namespace Go.Proofs.YtdgmkfbmeaalpaaDoor.Pur
open Go.RowKit Go.Proofs.YtdgmkfbmeaalpaaDoorW.PrintWords
def sumN (f : Nat → Nat) : Nat → Nat
  | 0 => 0
  | n + 1 => sumN f n + f n
end Go.Proofs.YtdgmkfbmeaalpaaDoor.Pur
end
section
namespace Go.Proofs.YtdgmkfbmeaalpaaDoor.E
open Go.RowKit Go.Proofs.YtdgmkfbmeaalpaaDoorW.PrintWords Go.Proofs.YtdgmkfbmeaalpaaDoorW.PrintLast Go.Proofs.YtdgmkfbmeaalpaaDoorW.PrintMore
attribute [local go_sem] max2_int min2_int max_two min_two max_three min_three max_four min_four
set_option linter.unusedVariables false
set_option linter.unusedSimpArgs false
attribute [local go_sem] str_leq_ str_gtr_ str_geq_
def spec_PsalmTenors.f (k : Nat) (l0_0 : List (S25)) (a0_1 : Int) (a0_2 : Bool) (l0_3 : List (S25)) (l0_4 : List (S25)) (a1 : ByteArray) : Option (Int) := (spec_PsalmFits.f k l0_0 a0_1 a0_2 l0_3 l0_4 a1).bind fun t316 => (if t316 = true then ((spec_VerseSyllables.f k a1).bind fun t317 => (some (wrap64 ((wrap64 ((wrap64 (t317 - (l0_0.length : Int))) - (l0_3.length : Int))) - (l0_4.length : Int))))) else (some (-1)))
end Go.Proofs.YtdgmkfbmeaalpaaDoor.E
end
