/- Texts of this claim, joined by a program of this session's (wip/tools/pack.py). -/
import Derived.Test.YtdgmkfbmeaalpaaDoorRowFnPsalmMoveK1
section
namespace Go.Proofs.YtdgmkfbmeaalpaaDoor.E
open Go.RowKit Go.Proofs.YtdgmkfbmeaalpaaDoorW.PrintWords Go.Proofs.YtdgmkfbmeaalpaaDoorW.PrintLast Go.Proofs.YtdgmkfbmeaalpaaDoorW.PrintMore
attribute [local go_sem] max2_int min2_int max_two min_two max_three min_three max_four min_four
set_option linter.unusedVariables false
set_option linter.unusedSimpArgs false
attribute [local go_sem] str_leq_ str_gtr_ str_geq_
def pr (t : S25) : Int × Bool := (t.f0, t.f1)
theorem chain_cells {w : World} {A : Option Addr} {l : List S25} (h : Kd.C k25 w A l.length l) : ∀ i : Nat, i < (l.map pr).length → ∃ ad, A = some ad ∧ w.cell? (ad.add (i * 2)) = some (.int .i64 ((l.map pr).getD i (0, false)).1) ∧ w.cell? ⟨(ad.add (i * 2)).block, (ad.add (i * 2)).off + 1, none⟩ = some (.bool ((l.map pr).getD i (0, false)).2) := by
 intro i hi
 rw [List.length_map] at hi
 obtain ⟨ad, e, z1, z2⟩ := at_T25 h (i : Int) (by omega) (by omega)
 refine ⟨ad, e, ?_, ?_⟩
 ·rw [List.getD_eq_getElem?_getD, List.getElem?_map, List.getElem?_eq_getElem hi]
  unfold rd_T25 at z1
  rw [show ((i : Int)).toNat = i from rfl, List.getD_eq_getElem?_getD, List.getElem?_eq_getElem hi] at z1
  exact z1
 ·rw [List.getD_eq_getElem?_getD, List.getElem?_map, List.getElem?_eq_getElem hi]
  unfold rd_T25 at z2
  rw [show ((i : Int)).toNat = i from rfl, List.getD_eq_getElem?_getD, List.getElem?_eq_getElem hi] at z2
  exact z2
def mmTry (kk : Nat) (a1 a2 : Int) (t : S25) (b : Bool) (good : S25 → Option (List S25 × Bool)) (bad : Option (List S25 × Bool)) : Option (List S25 × Bool) := (impl_ToneAbove.f kk t.f0 t.f1 a1 b).bind fun r => (if r.2.2 = true then ((impl_Tone_height.f r.1 r.2.1).bind fun h1 => (impl_Tone_height.f t.f0 t.f1).bind fun h2 => (if wrap64 (h1 - h2) = a2 then good ⟨r.1, r.2.1⟩ else bad)) else bad)
def mmGo (kk : Nat) (a1 a2 : Int) : List S25 → List S25 → Option (List S25 × Bool)
 | [], acc => some (acc, true)
 | t :: ts, acc => mmTry kk a1 a2 t false (fun x => mmGo kk a1 a2 ts (acc ++ [x])) (mmTry kk a1 a2 t true (fun x => mmGo kk a1 a2 ts (acc ++ [x])) (some ([], false)))
def mmIn (kk : Nat) (a1 a2 : Int) (t : S25) (ts acc : List S25) : Nat → Option (List S25 × Bool)
 | 0 => mmTry kk a1 a2 t false (fun x => mmGo kk a1 a2 ts (acc ++ [x])) (mmTry kk a1 a2 t true (fun x => mmGo kk a1 a2 ts (acc ++ [x])) (some ([], false)))
 | 1 => mmTry kk a1 a2 t true (fun x => mmGo kk a1 a2 ts (acc ++ [x])) (some ([], false))
 | _ + 2 => some ([], false)
def impl_movedMelody.f (k : Nat) (l0 : List (S25)) (a1 : Int) (a2 : Int) : Option ((List (S25)) × Bool) := if l0.length ≤ 1000000 then mmGo k a1 a2 l0 [] else none
theorem mm_ix0 (w : World) : (Instr.index 111 (.agg #[.bool false, .bool true]) (.int .i64 0)).run Tryd.prog w = .ok (.bool false) w := by kernel_rfl
theorem mm_ix1 (w : World) : (Instr.index 111 (.agg #[.bool false, .bool true]) (.int .i64 1)).run Tryd.prog w = .ok (.bool true) w := by kernel_rfl
attribute [local go_sem] mm_ix0 mm_ix1
def impl_movedMelody.T10 : Bool × List (List Nat × List Nat) := (true, [([], []), ([0], [0]), ([1], [1]), ([2, 1, 1], [1, 2]), ([1], [1]), ([4, 1], [1, 4]), ([5, 1], [1, 5]), ([6, 1], [1, 6]), ([7, 3, 1], [1, 7]), ([3, 8, 1], [1, 3, 8]), ([1], [1]), ([9, 10, 1], [1, 9, 10]), ([1, 11], [1, 11])])
def impl_movedMelody.B10 : List Nat := [0, 1, 3, 7, 3, 19, 51, 115, 255, 511, 3, 2047, 4095]
theorem impl_movedMelody.tab10 : rtab .any (opsOf Tryd.f97 10) = impl_movedMelody.T10 := by kernel_rfl
theorem impl_movedMelody.bits10 : waitsOk impl_movedMelody.T10.2 impl_movedMelody.B10 = true := by kernel_rfl
set_option maxHeartbeats 16000000 in
set_option maxRecDepth 100000 in
theorem impl_movedMelody.calls (k : Nat) (A0 : Option Addr) (c0 : Nat) (l0 : List (S25)) (a1 : Int) (a2 : Int) (r1 : List (S25)) (r2 : Bool) (w : World) (hr0 : Kd.C k25 w A0 l0.length l0) (hc0 : l0.length ≤ c0) (hG : GOk [1] w) (h : impl_movedMelody.f k l0 a1 a2 = some (r1, r2)) :
  Calls Tryd.prog 97 #[.slice A0 l0.length c0, .int .i64 a1, .int .i64 a2] w fun e w' => ∃ v0_ : Value, e = .returned (.tuple #[v0_, .bool r2]) ∧ Kd.R k25 25 w' w.heap.size (fun _ => True) v0_ r1 ∧ Below w.heap.size w w' := by
 have hu25 := Tryd.underlying25
 have hu68 := Tryd.underlying131
 unfold impl_movedMelody.f at h
 by_cases hn : l0.length ≤ 1000000
 rotate_left
 ·rw [if_neg hn] at h; cases h
 rw [if_pos hn] at h
 have HH := Aside0.mk h
 have HR0 := Aside0.mk hr0
 have HC0 := Aside0.mk hc0
 have HG := Aside0.mk hG
 have HN := Aside0.mk hn
 have HB := Q0_ (Below.refl w.heap.size w)
 clear h hr0 hc0 hG hn
 go_enter Tryd.func97, Tryd.ntmps97
 go_wp2_with (first | ((with_reducible refine gate_dst (N := 15) rfl ?_); refine Kd.R_lit k25 _ 25 ?hg (N := 15) ?hd (xs := ([] : List S25)) (inner := []) (ok := fun _ => True) (okp := fun _ => True) ?hr ?hp (fun _ hk => hk) trivial (Below.refl _ _) (Nat.le_refl _) (by simp) ?_; (case hd => rfl); (case hg => rfl); (case hr => first | (go_simp; done) | (go_simp; rfl)); (case hp => exact (Reps.none _ _)); intro v8 w5 ho hb hg_ hnew_; clear hg_ hnew_; have HO := Q0_ (Kd.R_lower ho (below_size HB.out)); have n1_ := Q0_ (below_step HB.out hb); clear HB ho hb; have HB := n1_; clear n1_) | (go_at_call 115; (rw [show (l0.length) = (l0.map pr).length from (List.length_map _).symm]; (with_reducible refine (linked_calls A0 c0 (l0.map pr) _ (by rw [List.length_map]; exact HN.out) (chain_cells (Kd.C_below HR0.out HB.out))).mono ?_); rintro e w6 ⟨p, rfl, hch, hb⟩; have CH := Aside0.mk hch; have n0_ := Q0_ (Kd.R_below HO.out hb); have n1_ := Q0_ (below_step HB.out hb); clear HB HO hb hch; have HO := n0_; have HB := n1_; clear n0_ n1_)))
 go_loopg [8, 9] l0.length (fun kq v8 v9 w' => ∃ (acc rest : List S25) (p : Option Addr), v9 = .pointer p ∧ rest.length = kq ∧ acc.length + kq = l0.length ∧ Aside0 (mmGo k a1 a2 rest acc = some (r1, r2)) ∧ Aside0 (Kd.R k25 25 w' w.heap.size (fun _ => True) v8 acc) ∧ Aside0 (Chain w' p (rest.map pr)) ∧ Aside0 (Below w.heap.size w w'))
 case atStart => exact ⟨[], l0, _, rfl, rfl, by simp, HH, HO, CH, HB⟩
 case round =>
  clear HH HO CH HB
  obtain ⟨acc, rest, p, rfl, HL, HW, HH, HO, CH, HB⟩ := hrel
  cases gk with
  | zero =>
   obtain rfl := List.eq_nil_of_length_eq_zero HL
   have E := HH.out
   clear HH
   simp only [mmGo, Option.some.injEq, Prod.mk.injEq] at E
   obtain ⟨rfl, rfl⟩ := E
   obtain rfl : p = none := CH.out
   go_wp2
   go_ret2
   exact ⟨_, rfl, HO.out, HB.out⟩
  | succ k1 =>
   obtain ⟨t, ts, rfl⟩ : ∃ t ts, rest = t :: ts := by
    cases rest with
    | nil => simp at HL
    | cons t ts => exact ⟨t, ts, rfl⟩
   have HTS : Aside0 (ts.length = k1) := ⟨by simpa using HL⟩
   have HAL : Aside0 (acc.length + (k1 + 1) = l0.length) := ⟨HW⟩
   have H2 : Aside0 (mmIn k a1 a2 t ts acc 0 = some (r1, r2)) := HH
   clear HH HL HW
   obtain ⟨g, q, rfl, hbk, hch⟩ := CH.out
   have BK := Aside0.mk hbk
   have CQ := Aside0.mk hch
   clear CH hbk hch
   go_wp2
   go_loopg [8, 10, 25] 2 (fun kq v8 v10 v25 w' => ∃ (j : Nat), v10 = .bool false ∧ v25 = .int .i64 j ∧ j + kq = 2 ∧ Aside0 (mmIn k a1 a2 t ts acc j = some (r1, r2)) ∧ Aside0 (Kd.R k25 25 w' w.heap.size (fun _ => True) v8 acc) ∧ Aside0 (w'.heap[g]? = some (.cells #[.int .i64 t.f0, .bool t.f1, .pointer q] 131 (0, 0))) ∧ Aside0 (Chain w' q (ts.map pr)) ∧ Aside0 (Below w.heap.size w w'))
   case atStart => exact ⟨0, rfl, rfl, rfl, H2, HO, BK, CQ, HB⟩
   case round =>
    clear H2 HO BK CQ HB
    obtain ⟨j, rfl, rfl, HJ, H2, HO, BK, CQ, HB⟩ := hrel
    cases gk with
    | zero =>
     obtain rfl : j = 2 := by omega
     have E := H2.out
     clear H2
     simp only [mmIn, Option.some.injEq, Prod.mk.injEq] at E
     obtain ⟨rfl, rfl⟩ := E
     go_wp2
     go_ret2
     exact ⟨_, rfl, Kd.R_nil _ _ _ _ _, HB.out⟩
    | succ k2 =>
     have E := H2.out
     clear H2
     obtain rfl | rfl : j = 0 ∨ j = 1 := by omega
     ·
      unfold mmIn mmTry at E
      obtain ⟨r, A10, E⟩ := Option.bind_eq_some_iff.mp E
      obtain ⟨x, s, ok⟩ := r
      have A1 := Aside0.mk A10
      clear A10
      simp only at E
      have z0 : wr.cell? ⟨g, 0, none⟩ = some (.int .i64 t.f0) := (blk_cell BK.out 0).trans rfl
      have z1 : wr.cell? ⟨g, 1, none⟩ = some (.bool t.f1) := (blk_cell BK.out 1).trans rfl
      by_cases c3 : ok = true
      rotate_left
      ·replace c3 := Bool.eq_false_iff.mpr c3
       subst c3
       rw [if_neg (show ¬ (false = true) by decide)] at E
       have H3 : Aside0 (mmIn k a1 a2 t ts acc 1 = some (r1, r2)) := ⟨E⟩
       clear E
       go_wp2_with (first | (go_at_call 96; ((with_reducible refine (impl_ToneAbove.calls k t.f0 t.f1 a1 false x s false _ A1.out).mono ?_); rintro e w11 ⟨rfl, hb⟩; have n0_ := Q0_ (Kd.R_below HO.out hb); have n1_ := Q0_ (below_step HB.out hb); have n2_ := Q0_ (blk_below BK.out hb); have n3_ := Q0_ (Chain.below hb CQ.out); clear HO HB BK CQ hb z0 z1; have HO := n0_; have HB := n1_; have BK := n2_; have CQ := n3_; clear n0_ n1_ n2_ n3_)) | ((with_reducible refine gate_dst (N := 13) rfl ?_); refine box_event ?hg (N := 13) ?hd (cs := #[.int .i64 0, .bool false]) (t := 25) ?hr ?_; (case hd => rfl); (case hg => rfl); (case hr => first | (go_simp; done) | (go_simp; rfl)); intro gb hg w13 hbox hb; have BX := Aside0.mk hbox; have BB := Aside0.mk hb; have GB := Aside0.mk hg; clear hbox hb hg; have hcz_0 : w13.cell? ⟨gb, 0, none⟩ = some (.int .i64 0) := (blk_cell BX.out 0).trans rfl; have hcz_1 : w13.cell? ⟨gb, 1, none⟩ = some (.bool false) := (blk_cell BX.out 1).trans rfl; have hfz_0 := blk_frozen BX.out 0; have hfz_1 := blk_frozen BX.out 1))
       have BA : Aside0 (Below w11.heap.size w11 ((w13.setCell ⟨gb, 0, none⟩ (.int .i64 x)).setCell ⟨gb, 1, none⟩ (.bool s))) := ⟨below_set (below_set BB.out (Nat.le_of_eq GB.out.symm)) (Nat.le_of_eq GB.out.symm)⟩
       have n0_ := Q0_ (Kd.R_below HO.out BA.out)
       have n1_ := Q0_ (below_step HB.out BA.out)
       have n2_ := Q0_ (blk_below BK.out BA.out)
       have n3_ := Q0_ (Chain.below BA.out CQ.out)
       have n4_ : Aside0 (((w13.setCell ⟨gb, 0, none⟩ (.int .i64 x)).setCell ⟨gb, 1, none⟩ (.bool s)).heap[gb]? = some (.cells #[.int .i64 x, .bool s] 25 (0, 0))) := ⟨by refine blk_put (cs := #[.int .i64 x, .bool false]) ?_ 1 _ rfl; refine blk_put (cs := #[.int .i64 0, .bool false]) ?_ 0 _ rfl; exact BX.out⟩
       have GE : Aside0 (w.heap.size ≤ gb) := ⟨by rw [GB.out]; exact below_size HB.out⟩
       clear HO HB BK CQ BX BB BA hcz_0 hcz_1 hfz_0 hfz_1
       generalize ((w13.setCell ⟨gb, 0, none⟩ (.int .i64 x)).setCell ⟨gb, 1, none⟩ (.bool s)) = w14 at n0_ n1_ n2_ n3_ n4_ ⊢
       have HO := n0_
       have HB := n1_
       have BK := n2_
       have CQ := n3_
       have BX := n4_
       clear n0_ n1_ n2_ n3_ n4_
       have n0_ := Q0_ (Kd.R_drew HO.out)
       have n1_ := Q0_ (below_drew1 HB.out)
       have n2_ := Q0_ (blk_drew BK.out)
       have n3_ := Q0_ (Chain.drew CQ.out)
       have n4_ := Q0_ (blk_drew BX.out)
       clear HO HB BK CQ BX
       have HO := n0_
       have HB := n1_
       have BK := n2_
       have CQ := n3_
       have BX := n4_
       clear n0_ n1_ n2_ n3_ n4_
       refine start_ (n := 13) (S := fun w' => w'.cell? ⟨gb, 0, none⟩ = some (.int .i64 x) ∧ w'.cell? ⟨gb, 1, none⟩ = some (.bool s) ∧ w'.cell? ⟨g, 0, none⟩ = some (.int .i64 t.f0) ∧ w'.cell? ⟨g, 1, none⟩ = some (.bool t.f1)) (ds := []) #[ff,ff,ff,ff,ff,ff,ff,ff,ff,ff,ff,ff,ff] (by kernel_rfl) rfl rfl ⟨(blk_cell BX.out 0).trans rfl, (blk_cell BX.out 1).trans rfl, (blk_cell BK.out 0).trans rfl, (blk_cell BK.out 1).trans rfl⟩ (fun hHeld => ?_)
       refine with_tabW impl_movedMelody.tab10 impl_movedMelody.bits10 (fun HT_ HW_ => ?_)
       generalize w14.drew = w15 at HO HB BK CQ BX hHeld ⊢
       refine pQ HT_ 0 (some 38) #[tt,ff,ff,ff,ff,ff,ff,ff,ff,ff,ff,ff,ff] rfl rfl ?_
       refine pQ HT_ 1 (some 39) #[tt,tt,ff,ff,ff,ff,ff,ff,ff,ff,ff,ff,ff] rfl rfl ?_
       refine pU HT_ 2 (some 40) #[tt,tt,tt,ff,ff,ff,ff,ff,ff,ff,ff,ff,ff] rfl rfl ?_
       refine pU HT_ 3 (some 41) #[tt,tt,tt,tt,ff,ff,ff,ff,ff,ff,ff,ff,ff] rfl rfl ?_
       refine pU HT_ 4 (some 42) #[tt,tt,tt,tt,tt,ff,ff,ff,ff,ff,ff,ff,ff] rfl rfl ?_
       refine pU HT_ 5 (some 43) #[tt,tt,tt,tt,tt,tt,ff,ff,ff,ff,ff,ff,ff] rfl rfl ?_
       refine pU HT_ 6 (some 44) #[tt,tt,tt,tt,tt,tt,tt,ff,ff,ff,ff,ff,ff] rfl rfl ?_
       refine pU HT_ 7 (some 45) #[tt,tt,tt,tt,tt,tt,tt,tt,ff,ff,ff,ff,ff] rfl rfl ?_
       refine pU HT_ 8 (some 46) #[tt,tt,tt,tt,tt,tt,tt,tt,tt,ff,ff,ff,ff] rfl rfl ?_
       refine pU HT_ 9 (some 47) #[tt,tt,tt,tt,tt,tt,tt,tt,tt,tt,ff,ff,ff] rfl rfl ?_
       refine pU HT_ 10 (some 48) #[tt,tt,tt,tt,tt,tt,tt,tt,tt,tt,tt,ff,ff] rfl rfl ?_
       refine pU HT_ 11 (some 49) #[tt,tt,tt,tt,tt,tt,tt,tt,tt,tt,tt,tt,ff] rfl rfl ?_
       refine pQ HT_ 12 (some 50) #[tt,tt,tt,tt,tt,tt,tt,tt,tt,tt,tt,tt,tt] rfl rfl ?_
       refine done_ (done_of HT_.out (by kernel_rfl)) ?_
       try go_wp2
       go_roundg k2
       case measure => omega
       case rel => exact ⟨1, rfl, by first | rfl | (simp; done), by omega, H3, HO, BK, CQ, HB⟩
      subst c3
      rw [if_pos rfl] at E
      obtain ⟨h1, A20, E⟩ := Option.bind_eq_some_iff.mp E
      obtain ⟨h2, A30, E⟩ := Option.bind_eq_some_iff.mp E
      have A2 := Aside0.mk A20
      have A3 := Aside0.mk A30
      clear A20 A30
      by_cases c4 : wrap64 (h1 - h2) = a2
      rotate_left
      ·rw [if_neg c4] at E
       have c4b : (wrap64 (h1 - h2) == a2) = false := beq_eq_false_iff_ne.mpr c4
       have H3 : Aside0 (mmIn k a1 a2 t ts acc 1 = some (r1, r2)) := ⟨E⟩
       clear E c4
       go_wp2_with (first | (go_at_call 96; ((with_reducible refine (impl_ToneAbove.calls k t.f0 t.f1 a1 false x s true _ A1.out).mono ?_); rintro e w11 ⟨rfl, hb⟩; have n0_ := Q0_ (Kd.R_below HO.out hb); have n1_ := Q0_ (below_step HB.out hb); have n2_ := Q0_ (blk_below BK.out hb); have n3_ := Q0_ (Chain.below hb CQ.out); clear HO HB BK CQ hb z0 z1; have HO := n0_; have HB := n1_; have BK := n2_; have CQ := n3_; clear n0_ n1_ n2_ n3_)) | ((with_reducible refine gate_dst (N := 13) rfl ?_); refine box_event ?hg (N := 13) ?hd (cs := #[.int .i64 0, .bool false]) (t := 25) ?hr ?_; (case hd => rfl); (case hg => rfl); (case hr => first | (go_simp; done) | (go_simp; rfl)); intro gb hg w13 hbox hb; have BX := Aside0.mk hbox; have BB := Aside0.mk hb; have GB := Aside0.mk hg; clear hbox hb hg; have hcz_0 : w13.cell? ⟨gb, 0, none⟩ = some (.int .i64 0) := (blk_cell BX.out 0).trans rfl; have hcz_1 : w13.cell? ⟨gb, 1, none⟩ = some (.bool false) := (blk_cell BX.out 1).trans rfl; have hfz_0 := blk_frozen BX.out 0; have hfz_1 := blk_frozen BX.out 1))
       have BA : Aside0 (Below w11.heap.size w11 ((w13.setCell ⟨gb, 0, none⟩ (.int .i64 x)).setCell ⟨gb, 1, none⟩ (.bool s))) := ⟨below_set (below_set BB.out (Nat.le_of_eq GB.out.symm)) (Nat.le_of_eq GB.out.symm)⟩
       have n0_ := Q0_ (Kd.R_below HO.out BA.out)
       have n1_ := Q0_ (below_step HB.out BA.out)
       have n2_ := Q0_ (blk_below BK.out BA.out)
       have n3_ := Q0_ (Chain.below BA.out CQ.out)
       have n4_ : Aside0 (((w13.setCell ⟨gb, 0, none⟩ (.int .i64 x)).setCell ⟨gb, 1, none⟩ (.bool s)).heap[gb]? = some (.cells #[.int .i64 x, .bool s] 25 (0, 0))) := ⟨by refine blk_put (cs := #[.int .i64 x, .bool false]) ?_ 1 _ rfl; refine blk_put (cs := #[.int .i64 0, .bool false]) ?_ 0 _ rfl; exact BX.out⟩
       have GE : Aside0 (w.heap.size ≤ gb) := ⟨by rw [GB.out]; exact below_size HB.out⟩
       clear HO HB BK CQ BX BB BA hcz_0 hcz_1 hfz_0 hfz_1
       generalize ((w13.setCell ⟨gb, 0, none⟩ (.int .i64 x)).setCell ⟨gb, 1, none⟩ (.bool s)) = w14 at n0_ n1_ n2_ n3_ n4_ ⊢
       have HO := n0_
       have HB := n1_
       have BK := n2_
       have CQ := n3_
       have BX := n4_
       clear n0_ n1_ n2_ n3_ n4_
       have n0_ := Q0_ (Kd.R_drew HO.out)
       have n1_ := Q0_ (below_drew1 HB.out)
       have n2_ := Q0_ (blk_drew BK.out)
       have n3_ := Q0_ (Chain.drew CQ.out)
       have n4_ := Q0_ (blk_drew BX.out)
       clear HO HB BK CQ BX
       have HO := n0_
       have HB := n1_
       have BK := n2_
       have CQ := n3_
       have BX := n4_
       clear n0_ n1_ n2_ n3_ n4_
       refine start_ (n := 13) (S := fun w' => w'.cell? ⟨gb, 0, none⟩ = some (.int .i64 x) ∧ w'.cell? ⟨gb, 1, none⟩ = some (.bool s) ∧ w'.cell? ⟨g, 0, none⟩ = some (.int .i64 t.f0) ∧ w'.cell? ⟨g, 1, none⟩ = some (.bool t.f1)) (ds := []) #[ff,ff,ff,ff,ff,ff,ff,ff,ff,ff,ff,ff,ff] (by kernel_rfl) rfl rfl ⟨(blk_cell BX.out 0).trans rfl, (blk_cell BX.out 1).trans rfl, (blk_cell BK.out 0).trans rfl, (blk_cell BK.out 1).trans rfl⟩ (fun hHeld => ?_)
       refine with_tabW impl_movedMelody.tab10 impl_movedMelody.bits10 (fun HT_ HW_ => ?_)
       generalize w14.drew = w15 at HO HB BK CQ BX hHeld ⊢
       refine pQ HT_ 0 (some 38) #[tt,ff,ff,ff,ff,ff,ff,ff,ff,ff,ff,ff,ff] rfl rfl ?_
       refine pQ HT_ 1 (some 39) #[tt,tt,ff,ff,ff,ff,ff,ff,ff,ff,ff,ff,ff] rfl rfl ?_
       refine pQ HT_ 4 (some 42) #[tt,tt,ff,ff,tt,ff,ff,ff,ff,ff,ff,ff,ff] rfl rfl ?_
       refine pQ HT_ 5 (some 43) #[tt,tt,ff,ff,tt,tt,ff,ff,ff,ff,ff,ff,ff] rfl rfl ?_
       refine pQ HT_ 6 (some 44) #[tt,tt,ff,ff,tt,tt,tt,ff,ff,ff,ff,ff,ff] rfl rfl ?_
       refine pQ HT_ 10 (some 48) #[tt,tt,ff,ff,tt,tt,tt,ff,ff,ff,tt,ff,ff] rfl rfl ?_
       refine tQ HT_ HW_ 2 (some 40) #[tt,tt,tt,ff,tt,tt,tt,ff,ff,ff,tt,ff,ff] rfl rfl hHeld (by rintro w' ⟨s0, s1, s2, s3⟩; go_simp; with_reducible rfl) ?_
       refine tQ HT_ HW_ 7 (some 45) #[tt,tt,tt,ff,tt,tt,tt,tt,ff,ff,tt,ff,ff] rfl rfl hHeld (by rintro w' ⟨s0, s1, s2, s3⟩; go_simp; with_reducible rfl) ?_
       refine one_ (i := 3) (N := some 41) #[tt,tt,tt,tt,tt,tt,tt,tt,ff,ff,tt,ff,ff] rfl rfl (one_of HT_.out (by kernel_rfl)) (by decide) (fun K hK => ?_)
       refine goes_ Tryd.func98 (by kernel_rfl) rfl #[.agg #[.int .i64 x, .bool s]] (by rfl) rfl rfl hM ?_
       with_reducible refine (impl_Tone_height.calls x s h1 _ (GOk.below HG.out HB.out) A2.out).mono ?_
       rintro e w16 ⟨rfl, hb⟩
       refine ⟨_, rfl, ?_⟩
       have n0_ := Q0_ (Kd.R_below HO.out hb)
       have n1_ := Q0_ (below_step HB.out hb)
       have n2_ := Q0_ (blk_below BK.out hb)
       have n3_ := Q0_ (Chain.below hb CQ.out)
       have n4_ := Q0_ (blk_below BX.out hb)
       clear HO HB BK CQ BX hb
       have HO := n0_
       have HB := n1_
       have BK := n2_
       have CQ := n3_
       have BX := n4_
       clear n0_ n1_ n2_ n3_ n4_
       refine hK.out _ _ ⟨(blk_cell BX.out 0).trans rfl, (blk_cell BX.out 1).trans rfl, (blk_cell BK.out 0).trans rfl, (blk_cell BK.out 1).trans rfl⟩ (fun hHeld => ?_)
       clear hK K
       refine norm_ (a' := ?_) ?_ ?_
       rotate_left
       ·show Act.put _ (some 41) _ = _
        simp only [Act.put, sI, s0, sS, i64_w, i32_w]
        rfl
       refine one_ (i := 8) (N := some 46) #[tt,tt,tt,tt,tt,tt,tt,tt,tt,ff,tt,ff,ff] rfl rfl (one_of HT_.out (by kernel_rfl)) (by decide) (fun K hK => ?_)
       refine goes_ Tryd.func98 (by kernel_rfl) rfl #[.agg #[.int .i64 t.f0, .bool t.f1]] (by rfl) rfl rfl hM ?_
       with_reducible refine (impl_Tone_height.calls t.f0 t.f1 h2 _ (GOk.below HG.out HB.out) A3.out).mono ?_
       rintro e w17 ⟨rfl, hb⟩
       refine ⟨_, rfl, ?_⟩
       have n0_ := Q0_ (Kd.R_below HO.out hb)
       have n1_ := Q0_ (below_step HB.out hb)
       have n2_ := Q0_ (blk_below BK.out hb)
       have n3_ := Q0_ (Chain.below hb CQ.out)
       have n4_ := Q0_ (blk_below BX.out hb)
       clear HO HB BK CQ BX hb
       have HO := n0_
       have HB := n1_
       have BK := n2_
       have CQ := n3_
       have BX := n4_
       clear n0_ n1_ n2_ n3_ n4_
       refine hK.out _ _ ⟨(blk_cell BX.out 0).trans rfl, (blk_cell BX.out 1).trans rfl, (blk_cell BK.out 0).trans rfl, (blk_cell BK.out 1).trans rfl⟩ (fun hHeld => ?_)
       clear hK K
       refine norm_ (a' := ?_) ?_ ?_
       rotate_left
       ·show Act.put _ (some 46) _ = _
        simp only [Act.put, sI, s0, sS, i64_w, i32_w]
        rfl
       refine pQ HT_ 9 (some 47) #[tt,tt,tt,tt,tt,tt,tt,tt,tt,tt,tt,ff,ff] rfl rfl ?_
       refine pQ HT_ 11 (some 49) #[tt,tt,tt,tt,tt,tt,tt,tt,tt,tt,tt,tt,ff] rfl rfl ?_
       refine pQ HT_ 12 (some 50) #[tt,tt,tt,tt,tt,tt,tt,tt,tt,tt,tt,tt,tt] rfl rfl ?_
       refine done_ (done_of HT_.out (by kernel_rfl)) ?_
       try go_wp2
       go_roundg k2
       case measure => omega
       case rel => exact ⟨1, rfl, by first | rfl | (simp; done), by omega, H3, HO, BK, CQ, HB⟩
      rw [if_pos c4] at E
      have c4b : (wrap64 (h1 - h2) == a2) = true := beq_iff_eq.mpr c4
      have H3 : Aside0 (mmGo k a1 a2 ts (acc ++ [(⟨x, s⟩ : S25)]) = some (r1, r2)) := ⟨E⟩
      clear E c4
      go_wp2_with (first | (go_at_call 96; ((with_reducible refine (impl_ToneAbove.calls k t.f0 t.f1 a1 false x s true _ A1.out).mono ?_); rintro e w11 ⟨rfl, hb⟩; have n0_ := Q0_ (Kd.R_below HO.out hb); have n1_ := Q0_ (below_step HB.out hb); have n2_ := Q0_ (blk_below BK.out hb); have n3_ := Q0_ (Chain.below hb CQ.out); clear HO HB BK CQ hb z0 z1; have HO := n0_; have HB := n1_; have BK := n2_; have CQ := n3_; clear n0_ n1_ n2_ n3_)) | ((with_reducible refine gate_dst (N := 13) rfl ?_); refine box_event ?hg (N := 13) ?hd (cs := #[.int .i64 0, .bool false]) (t := 25) ?hr ?_; (case hd => rfl); (case hg => rfl); (case hr => first | (go_simp; done) | (go_simp; rfl)); intro gb hg w13 hbox hb; have BX := Aside0.mk hbox; have BB := Aside0.mk hb; have GB := Aside0.mk hg; clear hbox hb hg; have hcz_0 : w13.cell? ⟨gb, 0, none⟩ = some (.int .i64 0) := (blk_cell BX.out 0).trans rfl; have hcz_1 : w13.cell? ⟨gb, 1, none⟩ = some (.bool false) := (blk_cell BX.out 1).trans rfl; have hfz_0 := blk_frozen BX.out 0; have hfz_1 := blk_frozen BX.out 1))
      have HOY : Aside0 (Kd.R k25 25 w11 w.heap.size (fun _ => True) _ acc) := HO
      have n5_ : Aside0 (Kd.R k25 25 ((w13.setCell ⟨gb, 0, none⟩ (.int .i64 x)).setCell ⟨gb, 1, none⟩ (.bool s)) w.heap.size (fun k_ => k_ ≠ gb) _ acc) := ⟨Kd.R_mono (Kd.R_below (Kd.R_elderB HOY.out gb (Nat.le_of_eq GB.out.symm)) (below_set (below_set BB.out (Nat.le_of_eq GB.out.symm)) (Nat.le_of_eq GB.out.symm))) (fun _ hk => hk.2)⟩
      clear HOY
      have BA : Aside0 (Below w11.heap.size w11 ((w13.setCell ⟨gb, 0, none⟩ (.int .i64 x)).setCell ⟨gb, 1, none⟩ (.bool s))) := ⟨below_set (below_set BB.out (Nat.le_of_eq GB.out.symm)) (Nat.le_of_eq GB.out.symm)⟩
      have n0_ := n5_
      have n1_ := Q0_ (below_step HB.out BA.out)
      have n2_ := Q0_ (blk_below BK.out BA.out)
      have n3_ := Q0_ (Chain.below BA.out CQ.out)
      have n4_ : Aside0 (((w13.setCell ⟨gb, 0, none⟩ (.int .i64 x)).setCell ⟨gb, 1, none⟩ (.bool s)).heap[gb]? = some (.cells #[.int .i64 x, .bool s] 25 (0, 0))) := ⟨by refine blk_put (cs := #[.int .i64 x, .bool false]) ?_ 1 _ rfl; refine blk_put (cs := #[.int .i64 0, .bool false]) ?_ 0 _ rfl; exact BX.out⟩
      have GE : Aside0 (w.heap.size ≤ gb) := ⟨by rw [GB.out]; exact below_size HB.out⟩
      clear n5_ HO HB BK CQ BX BB BA hcz_0 hcz_1 hfz_0 hfz_1
      generalize ((w13.setCell ⟨gb, 0, none⟩ (.int .i64 x)).setCell ⟨gb, 1, none⟩ (.bool s)) = w14 at n0_ n1_ n2_ n3_ n4_ ⊢
      have HO := n0_
      have HB := n1_
      have BK := n2_
      have CQ := n3_
      have BX := n4_
      clear n0_ n1_ n2_ n3_ n4_
      have n0_ := Q0_ (Kd.R_drew HO.out)
      have n1_ := Q0_ (below_drew1 HB.out)
      have n2_ := Q0_ (blk_drew BK.out)
      have n3_ := Q0_ (Chain.drew CQ.out)
      have n4_ := Q0_ (blk_drew BX.out)
      clear HO HB BK CQ BX
      have HO := n0_
      have HB := n1_
      have BK := n2_
      have CQ := n3_
      have BX := n4_
      clear n0_ n1_ n2_ n3_ n4_
      refine start_ (n := 13) (S := fun w' => w'.cell? ⟨gb, 0, none⟩ = some (.int .i64 x) ∧ w'.cell? ⟨gb, 1, none⟩ = some (.bool s) ∧ w'.cell? ⟨g, 0, none⟩ = some (.int .i64 t.f0) ∧ w'.cell? ⟨g, 1, none⟩ = some (.bool t.f1)) (ds := []) #[ff,ff,ff,ff,ff,ff,ff,ff,ff,ff,ff,ff,ff] (by kernel_rfl) rfl rfl ⟨(blk_cell BX.out 0).trans rfl, (blk_cell BX.out 1).trans rfl, (blk_cell BK.out 0).trans rfl, (blk_cell BK.out 1).trans rfl⟩ (fun hHeld => ?_)
      refine with_tabW impl_movedMelody.tab10 impl_movedMelody.bits10 (fun HT_ HW_ => ?_)
      generalize w14.drew = w15 at HO HB BK CQ BX hHeld ⊢
      refine pQ HT_ 0 (some 38) #[tt,ff,ff,ff,ff,ff,ff,ff,ff,ff,ff,ff,ff] rfl rfl ?_
      refine pQ HT_ 1 (some 39) #[tt,tt,ff,ff,ff,ff,ff,ff,ff,ff,ff,ff,ff] rfl rfl ?_
      refine pQ HT_ 4 (some 42) #[tt,tt,ff,ff,tt,ff,ff,ff,ff,ff,ff,ff,ff] rfl rfl ?_
      refine pQ HT_ 5 (some 43) #[tt,tt,ff,ff,tt,tt,ff,ff,ff,ff,ff,ff,ff] rfl rfl ?_
      refine pQ HT_ 6 (some 44) #[tt,tt,ff,ff,tt,tt,tt,ff,ff,ff,ff,ff,ff] rfl rfl ?_
      refine pQ HT_ 10 (some 48) #[tt,tt,ff,ff,tt,tt,tt,ff,ff,ff,tt,ff,ff] rfl rfl ?_
      refine tQ HT_ HW_ 2 (some 40) #[tt,tt,tt,ff,tt,tt,tt,ff,ff,ff,tt,ff,ff] rfl rfl hHeld (by rintro w' ⟨s0, s1, s2, s3⟩; go_simp; with_reducible rfl) ?_
      refine tQ HT_ HW_ 7 (some 45) #[tt,tt,tt,ff,tt,tt,tt,tt,ff,ff,tt,ff,ff] rfl rfl hHeld (by rintro w' ⟨s0, s1, s2, s3⟩; go_simp; with_reducible rfl) ?_
      refine one_ (i := 3) (N := some 41) #[tt,tt,tt,tt,tt,tt,tt,tt,ff,ff,tt,ff,ff] rfl rfl (one_of HT_.out (by kernel_rfl)) (by decide) (fun K hK => ?_)
      refine goes_ Tryd.func98 (by kernel_rfl) rfl #[.agg #[.int .i64 x, .bool s]] (by rfl) rfl rfl hM ?_
      with_reducible refine (impl_Tone_height.calls x s h1 _ (GOk.below HG.out HB.out) A2.out).mono ?_
      rintro e w16 ⟨rfl, hb⟩
      refine ⟨_, rfl, ?_⟩
      have n0_ := Q0_ (Kd.R_below HO.out hb)
      have n1_ := Q0_ (below_step HB.out hb)
      have n2_ := Q0_ (blk_below BK.out hb)
      have n3_ := Q0_ (Chain.below hb CQ.out)
      have n4_ := Q0_ (blk_below BX.out hb)
      clear HO HB BK CQ BX hb
      have HO := n0_
      have HB := n1_
      have BK := n2_
      have CQ := n3_
      have BX := n4_
      clear n0_ n1_ n2_ n3_ n4_
      refine hK.out _ _ ⟨(blk_cell BX.out 0).trans rfl, (blk_cell BX.out 1).trans rfl, (blk_cell BK.out 0).trans rfl, (blk_cell BK.out 1).trans rfl⟩ (fun hHeld => ?_)
      clear hK K
      refine norm_ (a' := ?_) ?_ ?_
      rotate_left
      ·show Act.put _ (some 41) _ = _
       simp only [Act.put, sI, s0, sS, i64_w, i32_w]
       rfl
      refine one_ (i := 8) (N := some 46) #[tt,tt,tt,tt,tt,tt,tt,tt,tt,ff,tt,ff,ff] rfl rfl (one_of HT_.out (by kernel_rfl)) (by decide) (fun K hK => ?_)
      refine goes_ Tryd.func98 (by kernel_rfl) rfl #[.agg #[.int .i64 t.f0, .bool t.f1]] (by rfl) rfl rfl hM ?_
      with_reducible refine (impl_Tone_height.calls t.f0 t.f1 h2 _ (GOk.below HG.out HB.out) A3.out).mono ?_
      rintro e w17 ⟨rfl, hb⟩
      refine ⟨_, rfl, ?_⟩
      have n0_ := Q0_ (Kd.R_below HO.out hb)
      have n1_ := Q0_ (below_step HB.out hb)
      have n2_ := Q0_ (blk_below BK.out hb)
      have n3_ := Q0_ (Chain.below hb CQ.out)
      have n4_ := Q0_ (blk_below BX.out hb)
      clear HO HB BK CQ BX hb
      have HO := n0_
      have HB := n1_
      have BK := n2_
      have CQ := n3_
      have BX := n4_
      clear n0_ n1_ n2_ n3_ n4_
      refine hK.out _ _ ⟨(blk_cell BX.out 0).trans rfl, (blk_cell BX.out 1).trans rfl, (blk_cell BK.out 0).trans rfl, (blk_cell BK.out 1).trans rfl⟩ (fun hHeld => ?_)
      clear hK K
      refine norm_ (a' := ?_) ?_ ?_
      rotate_left
      ·show Act.put _ (some 46) _ = _
       simp only [Act.put, sI, s0, sS, i64_w, i32_w]
       rfl
      refine pQ HT_ 9 (some 47) #[tt,tt,tt,tt,tt,tt,tt,tt,tt,tt,tt,ff,ff] rfl rfl ?_
      refine pQ HT_ 11 (some 49) #[tt,tt,tt,tt,tt,tt,tt,tt,tt,tt,tt,tt,ff] rfl rfl ?_
      refine pQ HT_ 12 (some 50) #[tt,tt,tt,tt,tt,tt,tt,tt,tt,tt,tt,tt,tt] rfl rfl ?_
      refine done_ (done_of HT_.out (by kernel_rfl)) ?_
      have HOX := HO
      have hcx_0 : w17.cell? ⟨gb, 0, none⟩ = some (.int .i64 x) := (blk_cell BX.out 0).trans rfl
      have hcx_1 : w17.cell? ⟨gb, 1, none⟩ = some (.bool s) := (blk_cell BX.out 1).trans rfl
      have hfx_0 := blk_frozen BX.out 0
      have hfx_1 := blk_frozen BX.out 1
      go_wp2_with (first | ((with_reducible refine gate_builtin (b := .append) (xs := #[.tmp 51, .tmp 53]) rfl ?_); at_builtin; refine Kd.R_append k25 (w0 := w) w.heap.size rfl (.tmp 51) (.tmp 53) 23 25 (.agg #[(.int .i64 0), (.bool false)]) 16 rfl Tryd.underlying23 info25 rfl (by decide) (by omega) _ acc (⟨x, s⟩ : S25) [.int .i64 x, .bool s] (fun k_ => k_ ≠ gb) (fun _ => False) rfl rfl ?aP (fun _ hk => hk.elim) ?aF ?aO ?aB ?aS ?aL ?_; (case aP => exact k25_mkM _ _ _ (⟨x, s⟩ : S25)); (case aB => exact HB.out); (case aF => exact (fun k_ hk => Kd.freshB (g := gb) (o := .cells #[.int .i64 x, .bool s] 25 (0, 0)) BX.out k_ hk)); (case aO => exact HOX.out); (case aS => exact (below_size HB.out)); (case aL => have h_ := HAL.out; have h2_ := HN.out; omega); intro v99 w26 ho hb hg hat; have n0_ := Q0_ (Kd.R_mono ho (fun _ _ => trivial)); have n1_ := Aside0.mk hb; have n2_ := Q0_ (blk_grown BK.out hg (Kd.R_ne HOX.out BK.out (by decide))); have n3_ := Q0_ (Chain.grown hg (fun g_ cs_ h_ => Kd.R_ne HOX.out h_ (by decide)) CQ.out); clear HO HB BK CQ BX HOX ho hb hg hat hcx_0 hcx_1 hfx_0 hfx_1; have HO := n0_; have HB := n1_; have BK := n2_; have CQ := n3_; clear n0_ n1_ n2_ n3_; have y2 : w26.cell? ⟨g, 2, none⟩ = some (.pointer q) := (blk_cell BK.out 2).trans rfl))
      go_roundg k1
      case measure => omega
      case rel => exact ⟨acc ++ [(⟨x, s⟩ : S25)], ts, q, rfl, HTS.out, by have h_ := HAL.out; simp; omega, H3, HO, CQ, HB⟩
     ·
      unfold mmIn mmTry at E
      obtain ⟨r, A10, E⟩ := Option.bind_eq_some_iff.mp E
      obtain ⟨x, s, ok⟩ := r
      have A1 := Aside0.mk A10
      clear A10
      simp only at E
      have z0 : wr.cell? ⟨g, 0, none⟩ = some (.int .i64 t.f0) := (blk_cell BK.out 0).trans rfl
      have z1 : wr.cell? ⟨g, 1, none⟩ = some (.bool t.f1) := (blk_cell BK.out 1).trans rfl
      by_cases c3 : ok = true
      rotate_left
      ·replace c3 := Bool.eq_false_iff.mpr c3
       subst c3
       rw [if_neg (show ¬ (false = true) by decide)] at E
       have H3 : Aside0 (mmIn k a1 a2 t ts acc 2 = some (r1, r2)) := ⟨E⟩
       clear E
       go_wp2_with (first | (go_at_call 96; ((with_reducible refine (impl_ToneAbove.calls k t.f0 t.f1 a1 true x s false _ A1.out).mono ?_); rintro e w11 ⟨rfl, hb⟩; have n0_ := Q0_ (Kd.R_below HO.out hb); have n1_ := Q0_ (below_step HB.out hb); have n2_ := Q0_ (blk_below BK.out hb); have n3_ := Q0_ (Chain.below hb CQ.out); clear HO HB BK CQ hb z0 z1; have HO := n0_; have HB := n1_; have BK := n2_; have CQ := n3_; clear n0_ n1_ n2_ n3_)) | ((with_reducible refine gate_dst (N := 13) rfl ?_); refine box_event ?hg (N := 13) ?hd (cs := #[.int .i64 0, .bool false]) (t := 25) ?hr ?_; (case hd => rfl); (case hg => rfl); (case hr => first | (go_simp; done) | (go_simp; rfl)); intro gb hg w13 hbox hb; have BX := Aside0.mk hbox; have BB := Aside0.mk hb; have GB := Aside0.mk hg; clear hbox hb hg; have hcz_0 : w13.cell? ⟨gb, 0, none⟩ = some (.int .i64 0) := (blk_cell BX.out 0).trans rfl; have hcz_1 : w13.cell? ⟨gb, 1, none⟩ = some (.bool false) := (blk_cell BX.out 1).trans rfl; have hfz_0 := blk_frozen BX.out 0; have hfz_1 := blk_frozen BX.out 1))
       have BA : Aside0 (Below w11.heap.size w11 ((w13.setCell ⟨gb, 0, none⟩ (.int .i64 x)).setCell ⟨gb, 1, none⟩ (.bool s))) := ⟨below_set (below_set BB.out (Nat.le_of_eq GB.out.symm)) (Nat.le_of_eq GB.out.symm)⟩
       have n0_ := Q0_ (Kd.R_below HO.out BA.out)
       have n1_ := Q0_ (below_step HB.out BA.out)
       have n2_ := Q0_ (blk_below BK.out BA.out)
       have n3_ := Q0_ (Chain.below BA.out CQ.out)
       have n4_ : Aside0 (((w13.setCell ⟨gb, 0, none⟩ (.int .i64 x)).setCell ⟨gb, 1, none⟩ (.bool s)).heap[gb]? = some (.cells #[.int .i64 x, .bool s] 25 (0, 0))) := ⟨by refine blk_put (cs := #[.int .i64 x, .bool false]) ?_ 1 _ rfl; refine blk_put (cs := #[.int .i64 0, .bool false]) ?_ 0 _ rfl; exact BX.out⟩
       have GE : Aside0 (w.heap.size ≤ gb) := ⟨by rw [GB.out]; exact below_size HB.out⟩
       clear HO HB BK CQ BX BB BA hcz_0 hcz_1 hfz_0 hfz_1
       generalize ((w13.setCell ⟨gb, 0, none⟩ (.int .i64 x)).setCell ⟨gb, 1, none⟩ (.bool s)) = w14 at n0_ n1_ n2_ n3_ n4_ ⊢
       have HO := n0_
       have HB := n1_
       have BK := n2_
       have CQ := n3_
       have BX := n4_
       clear n0_ n1_ n2_ n3_ n4_
       have n0_ := Q0_ (Kd.R_drew HO.out)
       have n1_ := Q0_ (below_drew1 HB.out)
       have n2_ := Q0_ (blk_drew BK.out)
       have n3_ := Q0_ (Chain.drew CQ.out)
       have n4_ := Q0_ (blk_drew BX.out)
       clear HO HB BK CQ BX
       have HO := n0_
       have HB := n1_
       have BK := n2_
       have CQ := n3_
       have BX := n4_
       clear n0_ n1_ n2_ n3_ n4_
       refine start_ (n := 13) (S := fun w' => w'.cell? ⟨gb, 0, none⟩ = some (.int .i64 x) ∧ w'.cell? ⟨gb, 1, none⟩ = some (.bool s) ∧ w'.cell? ⟨g, 0, none⟩ = some (.int .i64 t.f0) ∧ w'.cell? ⟨g, 1, none⟩ = some (.bool t.f1)) (ds := []) #[ff,ff,ff,ff,ff,ff,ff,ff,ff,ff,ff,ff,ff] (by kernel_rfl) rfl rfl ⟨(blk_cell BX.out 0).trans rfl, (blk_cell BX.out 1).trans rfl, (blk_cell BK.out 0).trans rfl, (blk_cell BK.out 1).trans rfl⟩ (fun hHeld => ?_)
       refine with_tabW impl_movedMelody.tab10 impl_movedMelody.bits10 (fun HT_ HW_ => ?_)
       generalize w14.drew = w15 at HO HB BK CQ BX hHeld ⊢
       refine pQ HT_ 0 (some 38) #[tt,ff,ff,ff,ff,ff,ff,ff,ff,ff,ff,ff,ff] rfl rfl ?_
       refine pQ HT_ 1 (some 39) #[tt,tt,ff,ff,ff,ff,ff,ff,ff,ff,ff,ff,ff] rfl rfl ?_
       refine pU HT_ 2 (some 40) #[tt,tt,tt,ff,ff,ff,ff,ff,ff,ff,ff,ff,ff] rfl rfl ?_
       refine pU HT_ 3 (some 41) #[tt,tt,tt,tt,ff,ff,ff,ff,ff,ff,ff,ff,ff] rfl rfl ?_
       refine pU HT_ 4 (some 42) #[tt,tt,tt,tt,tt,ff,ff,ff,ff,ff,ff,ff,ff] rfl rfl ?_
       refine pU HT_ 5 (some 43) #[tt,tt,tt,tt,tt,tt,ff,ff,ff,ff,ff,ff,ff] rfl rfl ?_
       refine pU HT_ 6 (some 44) #[tt,tt,tt,tt,tt,tt,tt,ff,ff,ff,ff,ff,ff] rfl rfl ?_
       refine pU HT_ 7 (some 45) #[tt,tt,tt,tt,tt,tt,tt,tt,ff,ff,ff,ff,ff] rfl rfl ?_
       refine pU HT_ 8 (some 46) #[tt,tt,tt,tt,tt,tt,tt,tt,tt,ff,ff,ff,ff] rfl rfl ?_
       refine pU HT_ 9 (some 47) #[tt,tt,tt,tt,tt,tt,tt,tt,tt,tt,ff,ff,ff] rfl rfl ?_
       refine pU HT_ 10 (some 48) #[tt,tt,tt,tt,tt,tt,tt,tt,tt,tt,tt,ff,ff] rfl rfl ?_
       refine pU HT_ 11 (some 49) #[tt,tt,tt,tt,tt,tt,tt,tt,tt,tt,tt,tt,ff] rfl rfl ?_
       refine pQ HT_ 12 (some 50) #[tt,tt,tt,tt,tt,tt,tt,tt,tt,tt,tt,tt,tt] rfl rfl ?_
       refine done_ (done_of HT_.out (by kernel_rfl)) ?_
       try go_wp2
       go_roundg k2
       case measure => omega
       case rel => exact ⟨2, rfl, by first | rfl | (simp; done), by omega, H3, HO, BK, CQ, HB⟩
      subst c3
      rw [if_pos rfl] at E
      obtain ⟨h1, A20, E⟩ := Option.bind_eq_some_iff.mp E
      obtain ⟨h2, A30, E⟩ := Option.bind_eq_some_iff.mp E
      have A2 := Aside0.mk A20
      have A3 := Aside0.mk A30
      clear A20 A30
      by_cases c4 : wrap64 (h1 - h2) = a2
      rotate_left
      ·rw [if_neg c4] at E
       have c4b : (wrap64 (h1 - h2) == a2) = false := beq_eq_false_iff_ne.mpr c4
       have H3 : Aside0 (mmIn k a1 a2 t ts acc 2 = some (r1, r2)) := ⟨E⟩
       clear E c4
       go_wp2_with (first | (go_at_call 96; ((with_reducible refine (impl_ToneAbove.calls k t.f0 t.f1 a1 true x s true _ A1.out).mono ?_); rintro e w11 ⟨rfl, hb⟩; have n0_ := Q0_ (Kd.R_below HO.out hb); have n1_ := Q0_ (below_step HB.out hb); have n2_ := Q0_ (blk_below BK.out hb); have n3_ := Q0_ (Chain.below hb CQ.out); clear HO HB BK CQ hb z0 z1; have HO := n0_; have HB := n1_; have BK := n2_; have CQ := n3_; clear n0_ n1_ n2_ n3_)) | ((with_reducible refine gate_dst (N := 13) rfl ?_); refine box_event ?hg (N := 13) ?hd (cs := #[.int .i64 0, .bool false]) (t := 25) ?hr ?_; (case hd => rfl); (case hg => rfl); (case hr => first | (go_simp; done) | (go_simp; rfl)); intro gb hg w13 hbox hb; have BX := Aside0.mk hbox; have BB := Aside0.mk hb; have GB := Aside0.mk hg; clear hbox hb hg; have hcz_0 : w13.cell? ⟨gb, 0, none⟩ = some (.int .i64 0) := (blk_cell BX.out 0).trans rfl; have hcz_1 : w13.cell? ⟨gb, 1, none⟩ = some (.bool false) := (blk_cell BX.out 1).trans rfl; have hfz_0 := blk_frozen BX.out 0; have hfz_1 := blk_frozen BX.out 1))
       have BA : Aside0 (Below w11.heap.size w11 ((w13.setCell ⟨gb, 0, none⟩ (.int .i64 x)).setCell ⟨gb, 1, none⟩ (.bool s))) := ⟨below_set (below_set BB.out (Nat.le_of_eq GB.out.symm)) (Nat.le_of_eq GB.out.symm)⟩
       have n0_ := Q0_ (Kd.R_below HO.out BA.out)
       have n1_ := Q0_ (below_step HB.out BA.out)
       have n2_ := Q0_ (blk_below BK.out BA.out)
       have n3_ := Q0_ (Chain.below BA.out CQ.out)
       have n4_ : Aside0 (((w13.setCell ⟨gb, 0, none⟩ (.int .i64 x)).setCell ⟨gb, 1, none⟩ (.bool s)).heap[gb]? = some (.cells #[.int .i64 x, .bool s] 25 (0, 0))) := ⟨by refine blk_put (cs := #[.int .i64 x, .bool false]) ?_ 1 _ rfl; refine blk_put (cs := #[.int .i64 0, .bool false]) ?_ 0 _ rfl; exact BX.out⟩
       have GE : Aside0 (w.heap.size ≤ gb) := ⟨by rw [GB.out]; exact below_size HB.out⟩
       clear HO HB BK CQ BX BB BA hcz_0 hcz_1 hfz_0 hfz_1
       generalize ((w13.setCell ⟨gb, 0, none⟩ (.int .i64 x)).setCell ⟨gb, 1, none⟩ (.bool s)) = w14 at n0_ n1_ n2_ n3_ n4_ ⊢
       have HO := n0_
       have HB := n1_
       have BK := n2_
       have CQ := n3_
       have BX := n4_
       clear n0_ n1_ n2_ n3_ n4_
       have n0_ := Q0_ (Kd.R_drew HO.out)
       have n1_ := Q0_ (below_drew1 HB.out)
       have n2_ := Q0_ (blk_drew BK.out)
       have n3_ := Q0_ (Chain.drew CQ.out)
       have n4_ := Q0_ (blk_drew BX.out)
       clear HO HB BK CQ BX
       have HO := n0_
       have HB := n1_
       have BK := n2_
       have CQ := n3_
       have BX := n4_
       clear n0_ n1_ n2_ n3_ n4_
       refine start_ (n := 13) (S := fun w' => w'.cell? ⟨gb, 0, none⟩ = some (.int .i64 x) ∧ w'.cell? ⟨gb, 1, none⟩ = some (.bool s) ∧ w'.cell? ⟨g, 0, none⟩ = some (.int .i64 t.f0) ∧ w'.cell? ⟨g, 1, none⟩ = some (.bool t.f1)) (ds := []) #[ff,ff,ff,ff,ff,ff,ff,ff,ff,ff,ff,ff,ff] (by kernel_rfl) rfl rfl ⟨(blk_cell BX.out 0).trans rfl, (blk_cell BX.out 1).trans rfl, (blk_cell BK.out 0).trans rfl, (blk_cell BK.out 1).trans rfl⟩ (fun hHeld => ?_)
       refine with_tabW impl_movedMelody.tab10 impl_movedMelody.bits10 (fun HT_ HW_ => ?_)
       generalize w14.drew = w15 at HO HB BK CQ BX hHeld ⊢
       refine pQ HT_ 0 (some 38) #[tt,ff,ff,ff,ff,ff,ff,ff,ff,ff,ff,ff,ff] rfl rfl ?_
       refine pQ HT_ 1 (some 39) #[tt,tt,ff,ff,ff,ff,ff,ff,ff,ff,ff,ff,ff] rfl rfl ?_
       refine pQ HT_ 4 (some 42) #[tt,tt,ff,ff,tt,ff,ff,ff,ff,ff,ff,ff,ff] rfl rfl ?_
       refine pQ HT_ 5 (some 43) #[tt,tt,ff,ff,tt,tt,ff,ff,ff,ff,ff,ff,ff] rfl rfl ?_
       refine pQ HT_ 6 (some 44) #[tt,tt,ff,ff,tt,tt,tt,ff,ff,ff,ff,ff,ff] rfl rfl ?_
       refine pQ HT_ 10 (some 48) #[tt,tt,ff,ff,tt,tt,tt,ff,ff,ff,tt,ff,ff] rfl rfl ?_
       refine tQ HT_ HW_ 2 (some 40) #[tt,tt,tt,ff,tt,tt,tt,ff,ff,ff,tt,ff,ff] rfl rfl hHeld (by rintro w' ⟨s0, s1, s2, s3⟩; go_simp; with_reducible rfl) ?_
       refine tQ HT_ HW_ 7 (some 45) #[tt,tt,tt,ff,tt,tt,tt,tt,ff,ff,tt,ff,ff] rfl rfl hHeld (by rintro w' ⟨s0, s1, s2, s3⟩; go_simp; with_reducible rfl) ?_
       refine one_ (i := 3) (N := some 41) #[tt,tt,tt,tt,tt,tt,tt,tt,ff,ff,tt,ff,ff] rfl rfl (one_of HT_.out (by kernel_rfl)) (by decide) (fun K hK => ?_)
       refine goes_ Tryd.func98 (by kernel_rfl) rfl #[.agg #[.int .i64 x, .bool s]] (by rfl) rfl rfl hM ?_
       with_reducible refine (impl_Tone_height.calls x s h1 _ (GOk.below HG.out HB.out) A2.out).mono ?_
       rintro e w16 ⟨rfl, hb⟩
       refine ⟨_, rfl, ?_⟩
       have n0_ := Q0_ (Kd.R_below HO.out hb)
       have n1_ := Q0_ (below_step HB.out hb)
       have n2_ := Q0_ (blk_below BK.out hb)
       have n3_ := Q0_ (Chain.below hb CQ.out)
       have n4_ := Q0_ (blk_below BX.out hb)
       clear HO HB BK CQ BX hb
       have HO := n0_
       have HB := n1_
       have BK := n2_
       have CQ := n3_
       have BX := n4_
       clear n0_ n1_ n2_ n3_ n4_
       refine hK.out _ _ ⟨(blk_cell BX.out 0).trans rfl, (blk_cell BX.out 1).trans rfl, (blk_cell BK.out 0).trans rfl, (blk_cell BK.out 1).trans rfl⟩ (fun hHeld => ?_)
       clear hK K
       refine norm_ (a' := ?_) ?_ ?_
       rotate_left
       ·show Act.put _ (some 41) _ = _
        simp only [Act.put, sI, s0, sS, i64_w, i32_w]
        rfl
       refine one_ (i := 8) (N := some 46) #[tt,tt,tt,tt,tt,tt,tt,tt,tt,ff,tt,ff,ff] rfl rfl (one_of HT_.out (by kernel_rfl)) (by decide) (fun K hK => ?_)
       refine goes_ Tryd.func98 (by kernel_rfl) rfl #[.agg #[.int .i64 t.f0, .bool t.f1]] (by rfl) rfl rfl hM ?_
       with_reducible refine (impl_Tone_height.calls t.f0 t.f1 h2 _ (GOk.below HG.out HB.out) A3.out).mono ?_
       rintro e w17 ⟨rfl, hb⟩
       refine ⟨_, rfl, ?_⟩
       have n0_ := Q0_ (Kd.R_below HO.out hb)
       have n1_ := Q0_ (below_step HB.out hb)
       have n2_ := Q0_ (blk_below BK.out hb)
       have n3_ := Q0_ (Chain.below hb CQ.out)
       have n4_ := Q0_ (blk_below BX.out hb)
       clear HO HB BK CQ BX hb
       have HO := n0_
       have HB := n1_
       have BK := n2_
       have CQ := n3_
       have BX := n4_
       clear n0_ n1_ n2_ n3_ n4_
       refine hK.out _ _ ⟨(blk_cell BX.out 0).trans rfl, (blk_cell BX.out 1).trans rfl, (blk_cell BK.out 0).trans rfl, (blk_cell BK.out 1).trans rfl⟩ (fun hHeld => ?_)
       clear hK K
       refine norm_ (a' := ?_) ?_ ?_
       rotate_left
       ·show Act.put _ (some 46) _ = _
        simp only [Act.put, sI, s0, sS, i64_w, i32_w]
        rfl
       refine pQ HT_ 9 (some 47) #[tt,tt,tt,tt,tt,tt,tt,tt,tt,tt,tt,ff,ff] rfl rfl ?_
       refine pQ HT_ 11 (some 49) #[tt,tt,tt,tt,tt,tt,tt,tt,tt,tt,tt,tt,ff] rfl rfl ?_
       refine pQ HT_ 12 (some 50) #[tt,tt,tt,tt,tt,tt,tt,tt,tt,tt,tt,tt,tt] rfl rfl ?_
       refine done_ (done_of HT_.out (by kernel_rfl)) ?_
       try go_wp2
       go_roundg k2
       case measure => omega
       case rel => exact ⟨2, rfl, by first | rfl | (simp; done), by omega, H3, HO, BK, CQ, HB⟩
      rw [if_pos c4] at E
      have c4b : (wrap64 (h1 - h2) == a2) = true := beq_iff_eq.mpr c4
      have H3 : Aside0 (mmGo k a1 a2 ts (acc ++ [(⟨x, s⟩ : S25)]) = some (r1, r2)) := ⟨E⟩
      clear E c4
      go_wp2_with (first | (go_at_call 96; ((with_reducible refine (impl_ToneAbove.calls k t.f0 t.f1 a1 true x s true _ A1.out).mono ?_); rintro e w11 ⟨rfl, hb⟩; have n0_ := Q0_ (Kd.R_below HO.out hb); have n1_ := Q0_ (below_step HB.out hb); have n2_ := Q0_ (blk_below BK.out hb); have n3_ := Q0_ (Chain.below hb CQ.out); clear HO HB BK CQ hb z0 z1; have HO := n0_; have HB := n1_; have BK := n2_; have CQ := n3_; clear n0_ n1_ n2_ n3_)) | ((with_reducible refine gate_dst (N := 13) rfl ?_); refine box_event ?hg (N := 13) ?hd (cs := #[.int .i64 0, .bool false]) (t := 25) ?hr ?_; (case hd => rfl); (case hg => rfl); (case hr => first | (go_simp; done) | (go_simp; rfl)); intro gb hg w13 hbox hb; have BX := Aside0.mk hbox; have BB := Aside0.mk hb; have GB := Aside0.mk hg; clear hbox hb hg; have hcz_0 : w13.cell? ⟨gb, 0, none⟩ = some (.int .i64 0) := (blk_cell BX.out 0).trans rfl; have hcz_1 : w13.cell? ⟨gb, 1, none⟩ = some (.bool false) := (blk_cell BX.out 1).trans rfl; have hfz_0 := blk_frozen BX.out 0; have hfz_1 := blk_frozen BX.out 1))
      have HOY : Aside0 (Kd.R k25 25 w11 w.heap.size (fun _ => True) _ acc) := HO
      have n5_ : Aside0 (Kd.R k25 25 ((w13.setCell ⟨gb, 0, none⟩ (.int .i64 x)).setCell ⟨gb, 1, none⟩ (.bool s)) w.heap.size (fun k_ => k_ ≠ gb) _ acc) := ⟨Kd.R_mono (Kd.R_below (Kd.R_elderB HOY.out gb (Nat.le_of_eq GB.out.symm)) (below_set (below_set BB.out (Nat.le_of_eq GB.out.symm)) (Nat.le_of_eq GB.out.symm))) (fun _ hk => hk.2)⟩
      clear HOY
      have BA : Aside0 (Below w11.heap.size w11 ((w13.setCell ⟨gb, 0, none⟩ (.int .i64 x)).setCell ⟨gb, 1, none⟩ (.bool s))) := ⟨below_set (below_set BB.out (Nat.le_of_eq GB.out.symm)) (Nat.le_of_eq GB.out.symm)⟩
      have n0_ := n5_
      have n1_ := Q0_ (below_step HB.out BA.out)
      have n2_ := Q0_ (blk_below BK.out BA.out)
      have n3_ := Q0_ (Chain.below BA.out CQ.out)
      have n4_ : Aside0 (((w13.setCell ⟨gb, 0, none⟩ (.int .i64 x)).setCell ⟨gb, 1, none⟩ (.bool s)).heap[gb]? = some (.cells #[.int .i64 x, .bool s] 25 (0, 0))) := ⟨by refine blk_put (cs := #[.int .i64 x, .bool false]) ?_ 1 _ rfl; refine blk_put (cs := #[.int .i64 0, .bool false]) ?_ 0 _ rfl; exact BX.out⟩
      have GE : Aside0 (w.heap.size ≤ gb) := ⟨by rw [GB.out]; exact below_size HB.out⟩
      clear n5_ HO HB BK CQ BX BB BA hcz_0 hcz_1 hfz_0 hfz_1
      generalize ((w13.setCell ⟨gb, 0, none⟩ (.int .i64 x)).setCell ⟨gb, 1, none⟩ (.bool s)) = w14 at n0_ n1_ n2_ n3_ n4_ ⊢
      have HO := n0_
      have HB := n1_
      have BK := n2_
      have CQ := n3_
      have BX := n4_
      clear n0_ n1_ n2_ n3_ n4_
      have n0_ := Q0_ (Kd.R_drew HO.out)
      have n1_ := Q0_ (below_drew1 HB.out)
      have n2_ := Q0_ (blk_drew BK.out)
      have n3_ := Q0_ (Chain.drew CQ.out)
      have n4_ := Q0_ (blk_drew BX.out)
      clear HO HB BK CQ BX
      have HO := n0_
      have HB := n1_
      have BK := n2_
      have CQ := n3_
      have BX := n4_
      clear n0_ n1_ n2_ n3_ n4_
      refine start_ (n := 13) (S := fun w' => w'.cell? ⟨gb, 0, none⟩ = some (.int .i64 x) ∧ w'.cell? ⟨gb, 1, none⟩ = some (.bool s) ∧ w'.cell? ⟨g, 0, none⟩ = some (.int .i64 t.f0) ∧ w'.cell? ⟨g, 1, none⟩ = some (.bool t.f1)) (ds := []) #[ff,ff,ff,ff,ff,ff,ff,ff,ff,ff,ff,ff,ff] (by kernel_rfl) rfl rfl ⟨(blk_cell BX.out 0).trans rfl, (blk_cell BX.out 1).trans rfl, (blk_cell BK.out 0).trans rfl, (blk_cell BK.out 1).trans rfl⟩ (fun hHeld => ?_)
      refine with_tabW impl_movedMelody.tab10 impl_movedMelody.bits10 (fun HT_ HW_ => ?_)
      generalize w14.drew = w15 at HO HB BK CQ BX hHeld ⊢
      refine pQ HT_ 0 (some 38) #[tt,ff,ff,ff,ff,ff,ff,ff,ff,ff,ff,ff,ff] rfl rfl ?_
      refine pQ HT_ 1 (some 39) #[tt,tt,ff,ff,ff,ff,ff,ff,ff,ff,ff,ff,ff] rfl rfl ?_
      refine pQ HT_ 4 (some 42) #[tt,tt,ff,ff,tt,ff,ff,ff,ff,ff,ff,ff,ff] rfl rfl ?_
      refine pQ HT_ 5 (some 43) #[tt,tt,ff,ff,tt,tt,ff,ff,ff,ff,ff,ff,ff] rfl rfl ?_
      refine pQ HT_ 6 (some 44) #[tt,tt,ff,ff,tt,tt,tt,ff,ff,ff,ff,ff,ff] rfl rfl ?_
      refine pQ HT_ 10 (some 48) #[tt,tt,ff,ff,tt,tt,tt,ff,ff,ff,tt,ff,ff] rfl rfl ?_
      refine tQ HT_ HW_ 2 (some 40) #[tt,tt,tt,ff,tt,tt,tt,ff,ff,ff,tt,ff,ff] rfl rfl hHeld (by rintro w' ⟨s0, s1, s2, s3⟩; go_simp; with_reducible rfl) ?_
      refine tQ HT_ HW_ 7 (some 45) #[tt,tt,tt,ff,tt,tt,tt,tt,ff,ff,tt,ff,ff] rfl rfl hHeld (by rintro w' ⟨s0, s1, s2, s3⟩; go_simp; with_reducible rfl) ?_
      refine one_ (i := 3) (N := some 41) #[tt,tt,tt,tt,tt,tt,tt,tt,ff,ff,tt,ff,ff] rfl rfl (one_of HT_.out (by kernel_rfl)) (by decide) (fun K hK => ?_)
      refine goes_ Tryd.func98 (by kernel_rfl) rfl #[.agg #[.int .i64 x, .bool s]] (by rfl) rfl rfl hM ?_
      with_reducible refine (impl_Tone_height.calls x s h1 _ (GOk.below HG.out HB.out) A2.out).mono ?_
      rintro e w16 ⟨rfl, hb⟩
      refine ⟨_, rfl, ?_⟩
      have n0_ := Q0_ (Kd.R_below HO.out hb)
      have n1_ := Q0_ (below_step HB.out hb)
      have n2_ := Q0_ (blk_below BK.out hb)
      have n3_ := Q0_ (Chain.below hb CQ.out)
      have n4_ := Q0_ (blk_below BX.out hb)
      clear HO HB BK CQ BX hb
      have HO := n0_
      have HB := n1_
      have BK := n2_
      have CQ := n3_
      have BX := n4_
      clear n0_ n1_ n2_ n3_ n4_
      refine hK.out _ _ ⟨(blk_cell BX.out 0).trans rfl, (blk_cell BX.out 1).trans rfl, (blk_cell BK.out 0).trans rfl, (blk_cell BK.out 1).trans rfl⟩ (fun hHeld => ?_)
      clear hK K
      refine norm_ (a' := ?_) ?_ ?_
      rotate_left
      ·show Act.put _ (some 41) _ = _
       simp only [Act.put, sI, s0, sS, i64_w, i32_w]
       rfl
      refine one_ (i := 8) (N := some 46) #[tt,tt,tt,tt,tt,tt,tt,tt,tt,ff,tt,ff,ff] rfl rfl (one_of HT_.out (by kernel_rfl)) (by decide) (fun K hK => ?_)
      refine goes_ Tryd.func98 (by kernel_rfl) rfl #[.agg #[.int .i64 t.f0, .bool t.f1]] (by rfl) rfl rfl hM ?_
      with_reducible refine (impl_Tone_height.calls t.f0 t.f1 h2 _ (GOk.below HG.out HB.out) A3.out).mono ?_
      rintro e w17 ⟨rfl, hb⟩
      refine ⟨_, rfl, ?_⟩
      have n0_ := Q0_ (Kd.R_below HO.out hb)
      have n1_ := Q0_ (below_step HB.out hb)
      have n2_ := Q0_ (blk_below BK.out hb)
      have n3_ := Q0_ (Chain.below hb CQ.out)
      have n4_ := Q0_ (blk_below BX.out hb)
      clear HO HB BK CQ BX hb
      have HO := n0_
      have HB := n1_
      have BK := n2_
      have CQ := n3_
      have BX := n4_
      clear n0_ n1_ n2_ n3_ n4_
      refine hK.out _ _ ⟨(blk_cell BX.out 0).trans rfl, (blk_cell BX.out 1).trans rfl, (blk_cell BK.out 0).trans rfl, (blk_cell BK.out 1).trans rfl⟩ (fun hHeld => ?_)
      clear hK K
      refine norm_ (a' := ?_) ?_ ?_
      rotate_left
      ·show Act.put _ (some 46) _ = _
       simp only [Act.put, sI, s0, sS, i64_w, i32_w]
       rfl
      refine pQ HT_ 9 (some 47) #[tt,tt,tt,tt,tt,tt,tt,tt,tt,tt,tt,ff,ff] rfl rfl ?_
      refine pQ HT_ 11 (some 49) #[tt,tt,tt,tt,tt,tt,tt,tt,tt,tt,tt,tt,ff] rfl rfl ?_
      refine pQ HT_ 12 (some 50) #[tt,tt,tt,tt,tt,tt,tt,tt,tt,tt,tt,tt,tt] rfl rfl ?_
      refine done_ (done_of HT_.out (by kernel_rfl)) ?_
      have HOX := HO
      have hcx_0 : w17.cell? ⟨gb, 0, none⟩ = some (.int .i64 x) := (blk_cell BX.out 0).trans rfl
      have hcx_1 : w17.cell? ⟨gb, 1, none⟩ = some (.bool s) := (blk_cell BX.out 1).trans rfl
      have hfx_0 := blk_frozen BX.out 0
      have hfx_1 := blk_frozen BX.out 1
      go_wp2_with (first | ((with_reducible refine gate_builtin (b := .append) (xs := #[.tmp 51, .tmp 53]) rfl ?_); at_builtin; refine Kd.R_append k25 (w0 := w) w.heap.size rfl (.tmp 51) (.tmp 53) 23 25 (.agg #[(.int .i64 0), (.bool false)]) 16 rfl Tryd.underlying23 info25 rfl (by decide) (by omega) _ acc (⟨x, s⟩ : S25) [.int .i64 x, .bool s] (fun k_ => k_ ≠ gb) (fun _ => False) rfl rfl ?aP (fun _ hk => hk.elim) ?aF ?aO ?aB ?aS ?aL ?_; (case aP => exact k25_mkM _ _ _ (⟨x, s⟩ : S25)); (case aB => exact HB.out); (case aF => exact (fun k_ hk => Kd.freshB (g := gb) (o := .cells #[.int .i64 x, .bool s] 25 (0, 0)) BX.out k_ hk)); (case aO => exact HOX.out); (case aS => exact (below_size HB.out)); (case aL => have h_ := HAL.out; have h2_ := HN.out; omega); intro v99 w26 ho hb hg hat; have n0_ := Q0_ (Kd.R_mono ho (fun _ _ => trivial)); have n1_ := Aside0.mk hb; have n2_ := Q0_ (blk_grown BK.out hg (Kd.R_ne HOX.out BK.out (by decide))); have n3_ := Q0_ (Chain.grown hg (fun g_ cs_ h_ => Kd.R_ne HOX.out h_ (by decide)) CQ.out); clear HO HB BK CQ BX HOX ho hb hg hat hcx_0 hcx_1 hfx_0 hfx_1; have HO := n0_; have HB := n1_; have BK := n2_; have CQ := n3_; clear n0_ n1_ n2_ n3_; have y2 : w26.cell? ⟨g, 2, none⟩ = some (.pointer q) := (blk_cell BK.out 2).trans rfl))
      go_roundg k1
      case measure => omega
      case rel => exact ⟨acc ++ [(⟨x, s⟩ : S25)], ts, q, rfl, HTS.out, by have h_ := HAL.out; simp; omega, H3, HO, CQ, HB⟩
end Go.Proofs.YtdgmkfbmeaalpaaDoor.E
end
section
namespace Go.Proofs.YtdgmkfbmeaalpaaDoor.E
open Go.RowKit Go.Proofs.YtdgmkfbmeaalpaaDoorW.PrintWords Go.Proofs.YtdgmkfbmeaalpaaDoorW.PrintLast Go.Proofs.YtdgmkfbmeaalpaaDoorW.PrintMore
attribute [local go_sem] max2_int min2_int max_two min_two max_three min_three max_four min_four
set_option linter.unusedVariables false
set_option linter.unusedSimpArgs false
attribute [local go_sem] str_leq_ str_gtr_ str_geq_
def mvTry (kk : Nat) (l0 : List (S25)) (a1 : Int) (b : Bool) (bad : Option (List S25 × Bool)) : Option (List S25 × Bool) := (impl_ToneAbove.f kk (rd_T25 l0 0).f0 (rd_T25 l0 0).f1 a1 b).bind fun r => (if r.2.2 = true then ((impl_Tone_height.f r.1 r.2.1).bind fun h1 => (impl_Tone_height.f (rd_T25 l0 0).f0 (rd_T25 l0 0).f1).bind fun h2 => (impl_movedMelody.f kk l0 a1 (wrap64 (h1 - h2))).bind fun q => (if q.2 = true then some (q.1, true) else bad)) else bad)
def mvIn (kk : Nat) (l0 : List (S25)) (a1 : Int) : Nat → Option (List S25 × Bool)
 | 0 => mvTry kk l0 a1 false (mvTry kk l0 a1 true (some ([], false)))
 | 1 => mvTry kk l0 a1 true (some ([], false))
 | _ + 2 => some ([], false)
def impl_MelodyMove.f (k : Nat) (l0 : List (S25)) (a1 : Int) : Option ((List (S25)) × Bool) := if l0.length ≤ 1000000 then ((impl_MelodyValid.f k l0).bind fun v => (if v = true then (if l0.length = 0 then some ([], true) else mvIn k l0 a1 0) else some ([], false))) else none
theorem mv_ix0 (w : World) : (Instr.index 111 (.agg #[.bool false, .bool true]) (.int .i64 0)).run Tryd.prog w = .ok (.bool false) w := by kernel_rfl
theorem mv_ix1 (w : World) : (Instr.index 111 (.agg #[.bool false, .bool true]) (.int .i64 1)).run Tryd.prog w = .ok (.bool true) w := by kernel_rfl
attribute [local go_sem] mv_ix0 mv_ix1
def impl_MelodyMove.T10 : Bool × List (List Nat × List Nat) := (true, [([], []), ([], []), ([], []), ([2], [2]), ([], []), ([4], [4]), ([5], [5]), ([6, 3], [6]), ([3, 7], [3, 7]), ([0, 1, 8, 7], [0, 1, 8]), ([9], [9]), ([10], [10]), ([10], [10]), ([11, 9, 0, 1, 2, 3, 4, 5, 6, 7, 8, 9, 10, 11], [11]), ([12, 13, 0, 1, 2, 3, 4, 5, 6, 7, 8, 9, 10, 11, 12, 13], [12])])
def impl_MelodyMove.B10 : List Nat := [0, 0, 0, 4, 0, 16, 48, 124, 252, 511, 1023, 2047, 2047, 4095, 16383]
theorem impl_MelodyMove.tab10 : rtab .any (opsOf Tryd.f81 10) = impl_MelodyMove.T10 := by kernel_rfl
theorem impl_MelodyMove.bits10 : waitsOk impl_MelodyMove.T10.2 impl_MelodyMove.B10 = true := by kernel_rfl
set_option maxHeartbeats 16000000 in
set_option maxRecDepth 100000 in
theorem impl_MelodyMove.calls (k : Nat) (A0 : Option Addr) (c0 : Nat) (l0 : List (S25)) (a1 : Int) (r1 : List (S25)) (r2 : Bool) (w : World) (hr0 : Kd.C k25 w A0 l0.length l0) (hc0 : l0.length ≤ c0) (hG : GOk [1] w) (h : impl_MelodyMove.f k l0 a1 = some (r1, r2)) :
  Calls Tryd.prog 81 #[.slice A0 l0.length c0, .int .i64 a1] w fun e w' => ∃ v0_ : Value, e = .returned (.tuple #[v0_, .bool r2]) ∧ Kd.R k25 25 w' w.heap.size (fun _ => True) v0_ r1 ∧ Below w.heap.size w w' := by
 have hu25 := Tryd.underlying25
 unfold impl_MelodyMove.f at h
 by_cases hn : l0.length ≤ 1000000
 rotate_left
 ·rw [if_neg hn] at h; cases h
 rw [if_pos hn] at h
 obtain ⟨v, A10, H⟩ := Option.bind_eq_some_iff.mp h
 have A1 := Aside0.mk A10
 have HR0 := Aside0.mk hr0
 have HC0 := Aside0.mk hc0
 have HG := Aside0.mk hG
 have HN := Aside0.mk hn
 clear h A10 hr0 hc0 hG hn
 by_cases c1 : v = true
 rotate_left
 ·replace c1 := Bool.eq_false_iff.mpr c1
  subst c1
  rw [if_neg (show ¬ (false = true) by decide)] at H
  simp only [Option.some.injEq, Prod.mk.injEq] at H
  obtain ⟨rfl, rfl⟩ := H
  go_enter Tryd.func81, Tryd.ntmps81
  go_wp2_with (first | (go_at_call 75; ((with_reducible refine (impl_MelodyValid.calls k _ _ l0 false _ HR0.out HC0.out A1.out).mono ?_); rintro e w4 ⟨rfl, hb⟩; have HB := Aside0.mk hb; clear hb)))
  go_ret2
  exact ⟨_, rfl, Kd.R_nil _ _ _ _ _, HB.out⟩
 subst c1
 rw [if_pos rfl] at H
 by_cases c2 : l0.length = 0
 ·rw [if_pos c2] at H
  simp only [Option.some.injEq, Prod.mk.injEq] at H
  obtain ⟨rfl, rfl⟩ := H
  have c3 : ((l0.length : Int) == 0) = true := beq_iff_eq.mpr (by omega)
  have c4 := decide_eq_true (show (l0.length : Int) = 0 by omega)
  clear c2
  go_enter Tryd.func81, Tryd.ntmps81
  go_wp2_with (first | (go_at_call 75; ((with_reducible refine (impl_MelodyValid.calls k _ _ l0 true _ HR0.out HC0.out A1.out).mono ?_); rintro e w4 ⟨rfl, hb⟩; have HB := Aside0.mk hb; clear hb)) | ((with_reducible refine gate_dst (N := 18) rfl ?_); refine Kd.R_lit k25 _ 25 ?hg (N := 18) ?hd (xs := ([] : List S25)) (inner := []) (ok := fun _ => True) (okp := fun _ => True) ?hr ?hp (fun _ hk => hk) trivial (Below.refl _ _) (Nat.le_refl _) (by simp) ?_; (case hd => rfl); (case hg => rfl); (case hr => first | (go_simp; done) | (go_simp; rfl)); (case hp => exact (Reps.none _ _)); intro v8 w5 ho hb hg_ hnew_; clear hg_ hnew_; have HO := Q0_ (Kd.R_lower ho (below_size HB.out)); have n1_ := Q0_ (below_step HB.out hb); clear HB ho hb; have HB := n1_; clear n1_))
  go_ret2
  exact ⟨_, rfl, HO.out, HB.out⟩
 rw [if_neg c2] at H
 have HH := Aside0.mk H
 clear H
 have c3 : ((l0.length : Int) == 0) = false := beq_eq_false_iff_ne.mpr (by omega)
 have c4 := decide_eq_false (show ¬ (l0.length : Int) = 0 by omega)
 have HZ : Aside0 (0 < l0.length) := ⟨by omega⟩
 obtain ⟨ad, e1, z1, z2⟩ := at_T25 HR0.out 0 (by omega) (by omega)
 cases e1
 simp only [Int.toNat_zero, Nat.zero_mul, Addr.add_zero'] at z1 z2
 have Z1 := Aside0.mk z1
 have Z2 := Aside0.mk z2
 clear z1 z2
 go_enter Tryd.func81, Tryd.ntmps81
 go_wp2_with (first | (go_at_call 75; ((with_reducible refine (impl_MelodyValid.calls k _ _ l0 true _ HR0.out HC0.out A1.out).mono ?_); rintro e w4 ⟨rfl, hb⟩; have HB := Aside0.mk hb; clear hb)))
 clear A1 c3 c4 c2
 go_loopg [20] 2 (fun kq v20 w' => ∃ (j : Nat), v20 = .int .i64 j ∧ j + kq = 2 ∧ Aside0 (mvIn k l0 a1 j = some (r1, r2)) ∧ Aside0 (Below w.heap.size w w'))
 case atStart => exact ⟨0, rfl, rfl, HH, HB⟩
 case round =>
  clear HH HB
  obtain ⟨j, rfl, HJ, H2, HB⟩ := hrel
  cases gk with
  | zero =>
   obtain rfl : j = 2 := by omega
   have E := H2.out
   clear H2
   simp only [mvIn, Option.some.injEq, Prod.mk.injEq] at E
   obtain ⟨rfl, rfl⟩ := E
   go_wp2
   go_ret2
   exact ⟨_, rfl, Kd.R_nil _ _ _ _ _, HB.out⟩
  | succ k2 =>
   have E := H2.out
   clear H2
   have c5 := eq_true (show (0 : Int) < (l0.length : Int) by have := HZ.out; omega)
   have c6 := eq_true HZ.out
   obtain rfl | rfl : j = 0 ∨ j = 1 := by omega
   ·
    unfold mvIn mvTry at E
    obtain ⟨r, A10, E⟩ := Option.bind_eq_some_iff.mp E
    obtain ⟨x, s, ok⟩ := r
    have A1 := Aside0.mk A10
    clear A10
    simp only at E
    have z1 := cell_keep Z1.out HB.out
    have z2 := cell_keep Z2.out HB.out
    by_cases c3 : ok = true
    rotate_left
    ·replace c3 := Bool.eq_false_iff.mpr c3
     subst c3
     rw [if_neg (show ¬ (false = true) by decide)] at E
     have H3 : Aside0 (mvIn k l0 a1 1 = some (r1, r2)) := ⟨E⟩
     clear E
     go_wp2_with (first | (go_at_call 96; ((with_reducible refine (impl_ToneAbove.calls k (rd_T25 l0 0).f0 (rd_T25 l0 0).f1 a1 false x s false _ A1.out).mono ?_); rintro e w11 ⟨rfl, hb⟩; have n1_ := Q0_ (below_step HB.out hb); clear HB hb z1 z2; have HB := n1_; clear n1_)) | ((with_reducible refine gate_dst (N := 8) rfl ?_); refine box_event ?hg (N := 8) ?hd (cs := #[.int .i64 0, .bool false]) (t := 25) ?hr ?_; (case hd => rfl); (case hg => rfl); (case hr => first | (go_simp; done) | (go_simp; rfl)); intro gb hg w13 hbox hb; have BX := Aside0.mk hbox; have BB := Aside0.mk hb; have GB := Aside0.mk hg; clear hbox hb hg; have hcz_0 : w13.cell? ⟨gb, 0, none⟩ = some (.int .i64 0) := (blk_cell BX.out 0).trans rfl; have hcz_1 : w13.cell? ⟨gb, 1, none⟩ = some (.bool false) := (blk_cell BX.out 1).trans rfl; have hfz_0 := blk_frozen BX.out 0; have hfz_1 := blk_frozen BX.out 1))
     have BA : Aside0 (Below w11.heap.size w11 ((w13.setCell ⟨gb, 0, none⟩ (.int .i64 x)).setCell ⟨gb, 1, none⟩ (.bool s))) := ⟨below_set (below_set BB.out (Nat.le_of_eq GB.out.symm)) (Nat.le_of_eq GB.out.symm)⟩
     have n1_ := Q0_ (below_step HB.out BA.out)
     clear HB; revert n1_; intro HB
     go_roundg k2
     case measure => omega
     case rel => exact ⟨1, by first | rfl | (simp; done), by omega, H3, HB⟩
    subst c3
    rw [if_pos rfl] at E
    obtain ⟨h1, A20, E⟩ := Option.bind_eq_some_iff.mp E
    obtain ⟨h2, A30, E⟩ := Option.bind_eq_some_iff.mp E
    obtain ⟨qq, A40, E⟩ := Option.bind_eq_some_iff.mp E
    obtain ⟨q1, q2⟩ := qq
    simp only at E
    have A2 := Aside0.mk A20
    have A3 := Aside0.mk A30
    have A4 := Aside0.mk A40
    clear A20 A30 A40
    cases q2
    ·rw [if_neg (show ¬ (false = true) by decide)] at E
     have H3 : Aside0 (mvIn k l0 a1 1 = some (r1, r2)) := ⟨E⟩
     clear E
     go_wp2_with (first | (go_at_call 96; ((with_reducible refine (impl_ToneAbove.calls k (rd_T25 l0 0).f0 (rd_T25 l0 0).f1 a1 false x s true _ A1.out).mono ?_); rintro e w11 ⟨rfl, hb⟩; have n1_ := Q0_ (below_step HB.out hb); clear HB hb z1 z2; have HB := n1_; clear n1_)) | ((with_reducible refine gate_dst (N := 8) rfl ?_); refine box_event ?hg (N := 8) ?hd (cs := #[.int .i64 0, .bool false]) (t := 25) ?hr ?_; (case hd => rfl); (case hg => rfl); (case hr => first | (go_simp; done) | (go_simp; rfl)); intro gb hg w13 hbox hb; have BX := Aside0.mk hbox; have BB := Aside0.mk hb; have GB := Aside0.mk hg; clear hbox hb hg; have hcz_0 : w13.cell? ⟨gb, 0, none⟩ = some (.int .i64 0) := (blk_cell BX.out 0).trans rfl; have hcz_1 : w13.cell? ⟨gb, 1, none⟩ = some (.bool false) := (blk_cell BX.out 1).trans rfl; have hfz_0 := blk_frozen BX.out 0; have hfz_1 := blk_frozen BX.out 1))
     have BA : Aside0 (Below w11.heap.size w11 ((w13.setCell ⟨gb, 0, none⟩ (.int .i64 x)).setCell ⟨gb, 1, none⟩ (.bool s))) := ⟨below_set (below_set BB.out (Nat.le_of_eq GB.out.symm)) (Nat.le_of_eq GB.out.symm)⟩
     have n1_ := Q0_ (below_step HB.out BA.out)
     have n4_ : Aside0 (((w13.setCell ⟨gb, 0, none⟩ (.int .i64 x)).setCell ⟨gb, 1, none⟩ (.bool s)).heap[gb]? = some (.cells #[.int .i64 x, .bool s] 25 (0, 0))) := ⟨by refine blk_put (cs := #[.int .i64 x, .bool false]) ?_ 1 _ rfl; refine blk_put (cs := #[.int .i64 0, .bool false]) ?_ 0 _ rfl; exact BX.out⟩
     clear HB BX BB BA hcz_0 hcz_1 hfz_0 hfz_1
     generalize ((w13.setCell ⟨gb, 0, none⟩ (.int .i64 x)).setCell ⟨gb, 1, none⟩ (.bool s)) = w14 at n1_ n4_ ⊢
     have HB := n1_
     have BX := n4_
     clear n1_ n4_
     have n1_ := Q0_ (below_drew1 HB.out)
     have n4_ := Q0_ (blk_drew BX.out)
     clear HB BX
     have HB := n1_
     have BX := n4_
     clear n1_ n4_
     refine start_ (n := 15) (S := fun w' => w'.cell? ⟨gb, 0, none⟩ = some (.int .i64 x) ∧ w'.cell? ⟨gb, 1, none⟩ = some (.bool s) ∧ w'.cell? ad = some (.int .i64 (rd_T25 l0 0).f0) ∧ w'.cell? ⟨ad.block, ad.off + 1, none⟩ = some (.bool (rd_T25 l0 0).f1)) (ds := []) #[ff,ff,ff,ff,ff,ff,ff,ff,ff,ff,ff,ff,ff,ff,ff] (by kernel_rfl) rfl rfl ⟨(blk_cell BX.out 0).trans rfl, (blk_cell BX.out 1).trans rfl, cell_keep Z1.out HB.out, cell_keep Z2.out HB.out⟩ (fun hHeld => ?_)
     refine with_tabW impl_MelodyMove.tab10 impl_MelodyMove.bits10 (fun HT_ HW_ => ?_)
     generalize w14.drew = w15 at HB BX hHeld ⊢
     refine pQ HT_ 0 (some 35) #[tt,ff,ff,ff,ff,ff,ff,ff,ff,ff,ff,ff,ff,ff,ff] rfl rfl ?_
     refine pQ HT_ 1 (some 36) #[tt,tt,ff,ff,ff,ff,ff,ff,ff,ff,ff,ff,ff,ff,ff] rfl rfl ?_
     refine pQ HT_ 4 (some 39) #[tt,tt,ff,ff,tt,ff,ff,ff,ff,ff,ff,ff,ff,ff,ff] rfl rfl ?_
     refine pQ HT_ 5 (some 40) #[tt,tt,ff,ff,tt,tt,ff,ff,ff,ff,ff,ff,ff,ff,ff] rfl rfl ?_
     refine tQ HT_ HW_ 2 (some 37) #[tt,tt,tt,ff,tt,tt,ff,ff,ff,ff,ff,ff,ff,ff,ff] rfl rfl hHeld (by rintro w' ⟨s0, s1, s2, s3⟩; go_simp; with_reducible rfl) ?_
     refine tQ HT_ HW_ 6 (some 41) #[tt,tt,tt,ff,tt,tt,tt,ff,ff,ff,ff,ff,ff,ff,ff] rfl rfl hHeld (by rintro w' ⟨s0, s1, s2, s3⟩; go_simp; with_reducible rfl) ?_
     refine one_ (i := 3) (N := some 38) #[tt,tt,tt,tt,tt,tt,tt,ff,ff,ff,ff,ff,ff,ff,ff] rfl rfl (one_of HT_.out (by kernel_rfl)) (by decide) (fun K hK => ?_)
     refine goes_ Tryd.func98 (by kernel_rfl) rfl #[.agg #[.int .i64 x, .bool s]] (by rfl) rfl rfl hM ?_
     with_reducible refine (impl_Tone_height.calls x s h1 _ (GOk.below HG.out HB.out) A2.out).mono ?_
     rintro e w16 ⟨rfl, hb⟩
     refine ⟨_, rfl, ?_⟩
     have n1_ := Q0_ (below_step HB.out hb)
     have n4_ := Q0_ (blk_below BX.out hb)
     clear HB BX hb
     have HB := n1_
     have BX := n4_
     clear n1_ n4_
     refine hK.out _ _ ⟨(blk_cell BX.out 0).trans rfl, (blk_cell BX.out 1).trans rfl, cell_keep Z1.out HB.out, cell_keep Z2.out HB.out⟩ (fun hHeld => ?_)
     clear hK K
     refine norm_ (a' := ?_) ?_ ?_
     rotate_left
     ·show Act.put _ (some 38) _ = _
      simp only [Act.put, sI, s0, sS, i64_w, i32_w]
      rfl
     refine one_ (i := 7) (N := some 42) #[tt,tt,tt,tt,tt,tt,tt,tt,ff,ff,ff,ff,ff,ff,ff] rfl rfl (one_of HT_.out (by kernel_rfl)) (by decide) (fun K hK => ?_)
     refine goes_ Tryd.func98 (by kernel_rfl) rfl #[.agg #[.int .i64 ((rd_T25 l0 0).f0), .bool ((rd_T25 l0 0).f1)]] (by rfl) rfl rfl hM ?_
     with_reducible refine (impl_Tone_height.calls (rd_T25 l0 0).f0 (rd_T25 l0 0).f1 h2 _ (GOk.below HG.out HB.out) A3.out).mono ?_
     rintro e w17 ⟨rfl, hb⟩
     refine ⟨_, rfl, ?_⟩
     have n1_ := Q0_ (below_step HB.out hb)
     have n4_ := Q0_ (blk_below BX.out hb)
     clear HB BX hb
     have HB := n1_
     have BX := n4_
     clear n1_ n4_
     refine hK.out _ _ ⟨(blk_cell BX.out 0).trans rfl, (blk_cell BX.out 1).trans rfl, cell_keep Z1.out HB.out, cell_keep Z2.out HB.out⟩ (fun hHeld => ?_)
     clear hK K
     refine norm_ (a' := ?_) ?_ ?_
     rotate_left
     ·show Act.put _ (some 42) _ = _
      simp only [Act.put, sI, s0, sS, i64_w, i32_w]
      rfl
     refine pQ HT_ 8 (some 43) #[tt,tt,tt,tt,tt,tt,tt,tt,tt,ff,ff,ff,ff,ff,ff] rfl rfl ?_
     refine one_ (i := 9) (N := some 44) #[tt,tt,tt,tt,tt,tt,tt,tt,tt,tt,ff,ff,ff,ff,ff] rfl rfl (one_of HT_.out (by kernel_rfl)) (by decide) (fun K hK => ?_)
     refine goes_ Tryd.func97 (by kernel_rfl) rfl #[.slice (some ad) l0.length c0, .int .i64 a1, .int .i64 (wrap64 (h1 - h2))] (by rfl) rfl rfl hM ?_
     with_reducible refine (impl_movedMelody.calls k (some ad) c0 l0 a1 (wrap64 (h1 - h2)) q1 false _ (Kd.C_below HR0.out HB.out) HC0.out (GOk.below HG.out HB.out) A4.out).mono ?_
     rintro e w18 ⟨vq, rfl, hq, hb⟩
     refine ⟨_, rfl, ?_⟩
     have HQ := Q0_ (Kd.R_lower hq (below_size HB.out))
     clear hq
     have n1_ := Q0_ (below_step HB.out hb)
     have n4_ := Q0_ (blk_below BX.out hb)
     clear HB BX hb
     have HB := n1_
     have BX := n4_
     clear n1_ n4_
     refine hK.out _ _ ⟨(blk_cell BX.out 0).trans rfl, (blk_cell BX.out 1).trans rfl, cell_keep Z1.out HB.out, cell_keep Z2.out HB.out⟩ (fun hHeld => ?_)
     clear hK K
     refine norm_ (a' := ?_) ?_ ?_
     rotate_left
     ·show Act.put _ (some 44) _ = _
      simp only [Act.put, sI, s0, sS, i64_w, i32_w]
      rfl
     refine pQ HT_ 10 (some 34) #[tt,tt,tt,tt,tt,tt,tt,tt,tt,tt,tt,ff,ff,ff,ff] rfl rfl ?_
     refine pQ HT_ 11 (some 45) #[tt,tt,tt,tt,tt,tt,tt,tt,tt,tt,tt,tt,ff,ff,ff] rfl rfl ?_
     refine pQ HT_ 12 (some 46) #[tt,tt,tt,tt,tt,tt,tt,tt,tt,tt,tt,tt,tt,ff,ff] rfl rfl ?_
     refine pQ HT_ 13 (some 10) #[tt,tt,tt,tt,tt,tt,tt,tt,tt,tt,tt,tt,tt,tt,ff] rfl rfl ?_
     refine pQ HT_ 14 (some 11) #[tt,tt,tt,tt,tt,tt,tt,tt,tt,tt,tt,tt,tt,tt,tt] rfl rfl ?_
     refine done_ (done_of HT_.out (by kernel_rfl)) ?_
     clear HQ
     try go_wp2
     go_roundg k2
     case measure => omega
     case rel => exact ⟨1, by first | rfl | (simp; done), by omega, H3, HB⟩
    ·rw [if_pos rfl] at E
     simp only [Option.some.injEq, Prod.mk.injEq] at E
     obtain ⟨rfl, rfl⟩ := E
     go_wp2_with (first | (go_at_call 96; ((with_reducible refine (impl_ToneAbove.calls k (rd_T25 l0 0).f0 (rd_T25 l0 0).f1 a1 false x s true _ A1.out).mono ?_); rintro e w11 ⟨rfl, hb⟩; have n1_ := Q0_ (below_step HB.out hb); clear HB hb z1 z2; have HB := n1_; clear n1_)) | ((with_reducible refine gate_dst (N := 8) rfl ?_); refine box_event ?hg (N := 8) ?hd (cs := #[.int .i64 0, .bool false]) (t := 25) ?hr ?_; (case hd => rfl); (case hg => rfl); (case hr => first | (go_simp; done) | (go_simp; rfl)); intro gb hg w13 hbox hb; have BX := Aside0.mk hbox; have BB := Aside0.mk hb; have GB := Aside0.mk hg; clear hbox hb hg; have hcz_0 : w13.cell? ⟨gb, 0, none⟩ = some (.int .i64 0) := (blk_cell BX.out 0).trans rfl; have hcz_1 : w13.cell? ⟨gb, 1, none⟩ = some (.bool false) := (blk_cell BX.out 1).trans rfl; have hfz_0 := blk_frozen BX.out 0; have hfz_1 := blk_frozen BX.out 1))
     have BA : Aside0 (Below w11.heap.size w11 ((w13.setCell ⟨gb, 0, none⟩ (.int .i64 x)).setCell ⟨gb, 1, none⟩ (.bool s))) := ⟨below_set (below_set BB.out (Nat.le_of_eq GB.out.symm)) (Nat.le_of_eq GB.out.symm)⟩
     have n1_ := Q0_ (below_step HB.out BA.out)
     have n4_ : Aside0 (((w13.setCell ⟨gb, 0, none⟩ (.int .i64 x)).setCell ⟨gb, 1, none⟩ (.bool s)).heap[gb]? = some (.cells #[.int .i64 x, .bool s] 25 (0, 0))) := ⟨by refine blk_put (cs := #[.int .i64 x, .bool false]) ?_ 1 _ rfl; refine blk_put (cs := #[.int .i64 0, .bool false]) ?_ 0 _ rfl; exact BX.out⟩
     clear HB BX BB BA hcz_0 hcz_1 hfz_0 hfz_1
     generalize ((w13.setCell ⟨gb, 0, none⟩ (.int .i64 x)).setCell ⟨gb, 1, none⟩ (.bool s)) = w14 at n1_ n4_ ⊢
     have HB := n1_
     have BX := n4_
     clear n1_ n4_
     have n1_ := Q0_ (below_drew1 HB.out)
     have n4_ := Q0_ (blk_drew BX.out)
     clear HB BX
     have HB := n1_
     have BX := n4_
     clear n1_ n4_
     refine start_ (n := 15) (S := fun w' => w'.cell? ⟨gb, 0, none⟩ = some (.int .i64 x) ∧ w'.cell? ⟨gb, 1, none⟩ = some (.bool s) ∧ w'.cell? ad = some (.int .i64 (rd_T25 l0 0).f0) ∧ w'.cell? ⟨ad.block, ad.off + 1, none⟩ = some (.bool (rd_T25 l0 0).f1)) (ds := []) #[ff,ff,ff,ff,ff,ff,ff,ff,ff,ff,ff,ff,ff,ff,ff] (by kernel_rfl) rfl rfl ⟨(blk_cell BX.out 0).trans rfl, (blk_cell BX.out 1).trans rfl, cell_keep Z1.out HB.out, cell_keep Z2.out HB.out⟩ (fun hHeld => ?_)
     refine with_tabW impl_MelodyMove.tab10 impl_MelodyMove.bits10 (fun HT_ HW_ => ?_)
     generalize w14.drew = w15 at HB BX hHeld ⊢
     refine pQ HT_ 0 (some 35) #[tt,ff,ff,ff,ff,ff,ff,ff,ff,ff,ff,ff,ff,ff,ff] rfl rfl ?_
     refine pQ HT_ 1 (some 36) #[tt,tt,ff,ff,ff,ff,ff,ff,ff,ff,ff,ff,ff,ff,ff] rfl rfl ?_
     refine pQ HT_ 4 (some 39) #[tt,tt,ff,ff,tt,ff,ff,ff,ff,ff,ff,ff,ff,ff,ff] rfl rfl ?_
     refine pQ HT_ 5 (some 40) #[tt,tt,ff,ff,tt,tt,ff,ff,ff,ff,ff,ff,ff,ff,ff] rfl rfl ?_
     refine tQ HT_ HW_ 2 (some 37) #[tt,tt,tt,ff,tt,tt,ff,ff,ff,ff,ff,ff,ff,ff,ff] rfl rfl hHeld (by rintro w' ⟨s0, s1, s2, s3⟩; go_simp; with_reducible rfl) ?_
     refine tQ HT_ HW_ 6 (some 41) #[tt,tt,tt,ff,tt,tt,tt,ff,ff,ff,ff,ff,ff,ff,ff] rfl rfl hHeld (by rintro w' ⟨s0, s1, s2, s3⟩; go_simp; with_reducible rfl) ?_
     refine one_ (i := 3) (N := some 38) #[tt,tt,tt,tt,tt,tt,tt,ff,ff,ff,ff,ff,ff,ff,ff] rfl rfl (one_of HT_.out (by kernel_rfl)) (by decide) (fun K hK => ?_)
     refine goes_ Tryd.func98 (by kernel_rfl) rfl #[.agg #[.int .i64 x, .bool s]] (by rfl) rfl rfl hM ?_
     with_reducible refine (impl_Tone_height.calls x s h1 _ (GOk.below HG.out HB.out) A2.out).mono ?_
     rintro e w16 ⟨rfl, hb⟩
     refine ⟨_, rfl, ?_⟩
     have n1_ := Q0_ (below_step HB.out hb)
     have n4_ := Q0_ (blk_below BX.out hb)
     clear HB BX hb
     have HB := n1_
     have BX := n4_
     clear n1_ n4_
     refine hK.out _ _ ⟨(blk_cell BX.out 0).trans rfl, (blk_cell BX.out 1).trans rfl, cell_keep Z1.out HB.out, cell_keep Z2.out HB.out⟩ (fun hHeld => ?_)
     clear hK K
     refine norm_ (a' := ?_) ?_ ?_
     rotate_left
     ·show Act.put _ (some 38) _ = _
      simp only [Act.put, sI, s0, sS, i64_w, i32_w]
      rfl
     refine one_ (i := 7) (N := some 42) #[tt,tt,tt,tt,tt,tt,tt,tt,ff,ff,ff,ff,ff,ff,ff] rfl rfl (one_of HT_.out (by kernel_rfl)) (by decide) (fun K hK => ?_)
     refine goes_ Tryd.func98 (by kernel_rfl) rfl #[.agg #[.int .i64 ((rd_T25 l0 0).f0), .bool ((rd_T25 l0 0).f1)]] (by rfl) rfl rfl hM ?_
     with_reducible refine (impl_Tone_height.calls (rd_T25 l0 0).f0 (rd_T25 l0 0).f1 h2 _ (GOk.below HG.out HB.out) A3.out).mono ?_
     rintro e w17 ⟨rfl, hb⟩
     refine ⟨_, rfl, ?_⟩
     have n1_ := Q0_ (below_step HB.out hb)
     have n4_ := Q0_ (blk_below BX.out hb)
     clear HB BX hb
     have HB := n1_
     have BX := n4_
     clear n1_ n4_
     refine hK.out _ _ ⟨(blk_cell BX.out 0).trans rfl, (blk_cell BX.out 1).trans rfl, cell_keep Z1.out HB.out, cell_keep Z2.out HB.out⟩ (fun hHeld => ?_)
     clear hK K
     refine norm_ (a' := ?_) ?_ ?_
     rotate_left
     ·show Act.put _ (some 42) _ = _
      simp only [Act.put, sI, s0, sS, i64_w, i32_w]
      rfl
     refine pQ HT_ 8 (some 43) #[tt,tt,tt,tt,tt,tt,tt,tt,tt,ff,ff,ff,ff,ff,ff] rfl rfl ?_
     refine one_ (i := 9) (N := some 44) #[tt,tt,tt,tt,tt,tt,tt,tt,tt,tt,ff,ff,ff,ff,ff] rfl rfl (one_of HT_.out (by kernel_rfl)) (by decide) (fun K hK => ?_)
     refine goes_ Tryd.func97 (by kernel_rfl) rfl #[.slice (some ad) l0.length c0, .int .i64 a1, .int .i64 (wrap64 (h1 - h2))] (by rfl) rfl rfl hM ?_
     with_reducible refine (impl_movedMelody.calls k (some ad) c0 l0 a1 (wrap64 (h1 - h2)) q1 true _ (Kd.C_below HR0.out HB.out) HC0.out (GOk.below HG.out HB.out) A4.out).mono ?_
     rintro e w18 ⟨vq, rfl, hq, hb⟩
     refine ⟨_, rfl, ?_⟩
     have HQ := Q0_ (Kd.R_lower hq (below_size HB.out))
     clear hq
     have n1_ := Q0_ (below_step HB.out hb)
     have n4_ := Q0_ (blk_below BX.out hb)
     clear HB BX hb
     have HB := n1_
     have BX := n4_
     clear n1_ n4_
     refine hK.out _ _ ⟨(blk_cell BX.out 0).trans rfl, (blk_cell BX.out 1).trans rfl, cell_keep Z1.out HB.out, cell_keep Z2.out HB.out⟩ (fun hHeld => ?_)
     clear hK K
     refine norm_ (a' := ?_) ?_ ?_
     rotate_left
     ·show Act.put _ (some 44) _ = _
      simp only [Act.put, sI, s0, sS, i64_w, i32_w]
      rfl
     refine pQ HT_ 10 (some 34) #[tt,tt,tt,tt,tt,tt,tt,tt,tt,tt,tt,ff,ff,ff,ff] rfl rfl ?_
     refine pQ HT_ 11 (some 45) #[tt,tt,tt,tt,tt,tt,tt,tt,tt,tt,tt,tt,ff,ff,ff] rfl rfl ?_
     refine pQ HT_ 12 (some 46) #[tt,tt,tt,tt,tt,tt,tt,tt,tt,tt,tt,tt,tt,ff,ff] rfl rfl ?_
     refine pQ HT_ 13 (some 10) #[tt,tt,tt,tt,tt,tt,tt,tt,tt,tt,tt,tt,tt,tt,ff] rfl rfl ?_
     refine pQ HT_ 14 (some 11) #[tt,tt,tt,tt,tt,tt,tt,tt,tt,tt,tt,tt,tt,tt,tt] rfl rfl ?_
     refine done_ (done_of HT_.out (by kernel_rfl)) ?_
     try go_wp2
     go_ret2
     exact ⟨_, rfl, HQ.out, HB.out⟩
   ·
    unfold mvIn mvTry at E
    obtain ⟨r, A10, E⟩ := Option.bind_eq_some_iff.mp E
    obtain ⟨x, s, ok⟩ := r
    have A1 := Aside0.mk A10
    clear A10
    simp only at E
    have z1 := cell_keep Z1.out HB.out
    have z2 := cell_keep Z2.out HB.out
    by_cases c3 : ok = true
    rotate_left
    ·replace c3 := Bool.eq_false_iff.mpr c3
     subst c3
     rw [if_neg (show ¬ (false = true) by decide)] at E
     have H3 : Aside0 (mvIn k l0 a1 2 = some (r1, r2)) := ⟨E⟩
     clear E
     go_wp2_with (first | (go_at_call 96; ((with_reducible refine (impl_ToneAbove.calls k (rd_T25 l0 0).f0 (rd_T25 l0 0).f1 a1 true x s false _ A1.out).mono ?_); rintro e w11 ⟨rfl, hb⟩; have n1_ := Q0_ (below_step HB.out hb); clear HB hb z1 z2; have HB := n1_; clear n1_)) | ((with_reducible refine gate_dst (N := 8) rfl ?_); refine box_event ?hg (N := 8) ?hd (cs := #[.int .i64 0, .bool false]) (t := 25) ?hr ?_; (case hd => rfl); (case hg => rfl); (case hr => first | (go_simp; done) | (go_simp; rfl)); intro gb hg w13 hbox hb; have BX := Aside0.mk hbox; have BB := Aside0.mk hb; have GB := Aside0.mk hg; clear hbox hb hg; have hcz_0 : w13.cell? ⟨gb, 0, none⟩ = some (.int .i64 0) := (blk_cell BX.out 0).trans rfl; have hcz_1 : w13.cell? ⟨gb, 1, none⟩ = some (.bool false) := (blk_cell BX.out 1).trans rfl; have hfz_0 := blk_frozen BX.out 0; have hfz_1 := blk_frozen BX.out 1))
     have BA : Aside0 (Below w11.heap.size w11 ((w13.setCell ⟨gb, 0, none⟩ (.int .i64 x)).setCell ⟨gb, 1, none⟩ (.bool s))) := ⟨below_set (below_set BB.out (Nat.le_of_eq GB.out.symm)) (Nat.le_of_eq GB.out.symm)⟩
     have n1_ := Q0_ (below_step HB.out BA.out)
     clear HB; revert n1_; intro HB
     go_roundg k2
     case measure => omega
     case rel => exact ⟨2, by first | rfl | (simp; done), by omega, H3, HB⟩
    subst c3
    rw [if_pos rfl] at E
    obtain ⟨h1, A20, E⟩ := Option.bind_eq_some_iff.mp E
    obtain ⟨h2, A30, E⟩ := Option.bind_eq_some_iff.mp E
    obtain ⟨qq, A40, E⟩ := Option.bind_eq_some_iff.mp E
    obtain ⟨q1, q2⟩ := qq
    simp only at E
    have A2 := Aside0.mk A20
    have A3 := Aside0.mk A30
    have A4 := Aside0.mk A40
    clear A20 A30 A40
    cases q2
    ·rw [if_neg (show ¬ (false = true) by decide)] at E
     have H3 : Aside0 (mvIn k l0 a1 2 = some (r1, r2)) := ⟨E⟩
     clear E
     go_wp2_with (first | (go_at_call 96; ((with_reducible refine (impl_ToneAbove.calls k (rd_T25 l0 0).f0 (rd_T25 l0 0).f1 a1 true x s true _ A1.out).mono ?_); rintro e w11 ⟨rfl, hb⟩; have n1_ := Q0_ (below_step HB.out hb); clear HB hb z1 z2; have HB := n1_; clear n1_)) | ((with_reducible refine gate_dst (N := 8) rfl ?_); refine box_event ?hg (N := 8) ?hd (cs := #[.int .i64 0, .bool false]) (t := 25) ?hr ?_; (case hd => rfl); (case hg => rfl); (case hr => first | (go_simp; done) | (go_simp; rfl)); intro gb hg w13 hbox hb; have BX := Aside0.mk hbox; have BB := Aside0.mk hb; have GB := Aside0.mk hg; clear hbox hb hg; have hcz_0 : w13.cell? ⟨gb, 0, none⟩ = some (.int .i64 0) := (blk_cell BX.out 0).trans rfl; have hcz_1 : w13.cell? ⟨gb, 1, none⟩ = some (.bool false) := (blk_cell BX.out 1).trans rfl; have hfz_0 := blk_frozen BX.out 0; have hfz_1 := blk_frozen BX.out 1))
     have BA : Aside0 (Below w11.heap.size w11 ((w13.setCell ⟨gb, 0, none⟩ (.int .i64 x)).setCell ⟨gb, 1, none⟩ (.bool s))) := ⟨below_set (below_set BB.out (Nat.le_of_eq GB.out.symm)) (Nat.le_of_eq GB.out.symm)⟩
     have n1_ := Q0_ (below_step HB.out BA.out)
     have n4_ : Aside0 (((w13.setCell ⟨gb, 0, none⟩ (.int .i64 x)).setCell ⟨gb, 1, none⟩ (.bool s)).heap[gb]? = some (.cells #[.int .i64 x, .bool s] 25 (0, 0))) := ⟨by refine blk_put (cs := #[.int .i64 x, .bool false]) ?_ 1 _ rfl; refine blk_put (cs := #[.int .i64 0, .bool false]) ?_ 0 _ rfl; exact BX.out⟩
     clear HB BX BB BA hcz_0 hcz_1 hfz_0 hfz_1
     generalize ((w13.setCell ⟨gb, 0, none⟩ (.int .i64 x)).setCell ⟨gb, 1, none⟩ (.bool s)) = w14 at n1_ n4_ ⊢
     have HB := n1_
     have BX := n4_
     clear n1_ n4_
     have n1_ := Q0_ (below_drew1 HB.out)
     have n4_ := Q0_ (blk_drew BX.out)
     clear HB BX
     have HB := n1_
     have BX := n4_
     clear n1_ n4_
     refine start_ (n := 15) (S := fun w' => w'.cell? ⟨gb, 0, none⟩ = some (.int .i64 x) ∧ w'.cell? ⟨gb, 1, none⟩ = some (.bool s) ∧ w'.cell? ad = some (.int .i64 (rd_T25 l0 0).f0) ∧ w'.cell? ⟨ad.block, ad.off + 1, none⟩ = some (.bool (rd_T25 l0 0).f1)) (ds := []) #[ff,ff,ff,ff,ff,ff,ff,ff,ff,ff,ff,ff,ff,ff,ff] (by kernel_rfl) rfl rfl ⟨(blk_cell BX.out 0).trans rfl, (blk_cell BX.out 1).trans rfl, cell_keep Z1.out HB.out, cell_keep Z2.out HB.out⟩ (fun hHeld => ?_)
     refine with_tabW impl_MelodyMove.tab10 impl_MelodyMove.bits10 (fun HT_ HW_ => ?_)
     generalize w14.drew = w15 at HB BX hHeld ⊢
     refine pQ HT_ 0 (some 35) #[tt,ff,ff,ff,ff,ff,ff,ff,ff,ff,ff,ff,ff,ff,ff] rfl rfl ?_
     refine pQ HT_ 1 (some 36) #[tt,tt,ff,ff,ff,ff,ff,ff,ff,ff,ff,ff,ff,ff,ff] rfl rfl ?_
     refine pQ HT_ 4 (some 39) #[tt,tt,ff,ff,tt,ff,ff,ff,ff,ff,ff,ff,ff,ff,ff] rfl rfl ?_
     refine pQ HT_ 5 (some 40) #[tt,tt,ff,ff,tt,tt,ff,ff,ff,ff,ff,ff,ff,ff,ff] rfl rfl ?_
     refine tQ HT_ HW_ 2 (some 37) #[tt,tt,tt,ff,tt,tt,ff,ff,ff,ff,ff,ff,ff,ff,ff] rfl rfl hHeld (by rintro w' ⟨s0, s1, s2, s3⟩; go_simp; with_reducible rfl) ?_
     refine tQ HT_ HW_ 6 (some 41) #[tt,tt,tt,ff,tt,tt,tt,ff,ff,ff,ff,ff,ff,ff,ff] rfl rfl hHeld (by rintro w' ⟨s0, s1, s2, s3⟩; go_simp; with_reducible rfl) ?_
     refine one_ (i := 3) (N := some 38) #[tt,tt,tt,tt,tt,tt,tt,ff,ff,ff,ff,ff,ff,ff,ff] rfl rfl (one_of HT_.out (by kernel_rfl)) (by decide) (fun K hK => ?_)
     refine goes_ Tryd.func98 (by kernel_rfl) rfl #[.agg #[.int .i64 x, .bool s]] (by rfl) rfl rfl hM ?_
     with_reducible refine (impl_Tone_height.calls x s h1 _ (GOk.below HG.out HB.out) A2.out).mono ?_
     rintro e w16 ⟨rfl, hb⟩
     refine ⟨_, rfl, ?_⟩
     have n1_ := Q0_ (below_step HB.out hb)
     have n4_ := Q0_ (blk_below BX.out hb)
     clear HB BX hb
     have HB := n1_
     have BX := n4_
     clear n1_ n4_
     refine hK.out _ _ ⟨(blk_cell BX.out 0).trans rfl, (blk_cell BX.out 1).trans rfl, cell_keep Z1.out HB.out, cell_keep Z2.out HB.out⟩ (fun hHeld => ?_)
     clear hK K
     refine norm_ (a' := ?_) ?_ ?_
     rotate_left
     ·show Act.put _ (some 38) _ = _
      simp only [Act.put, sI, s0, sS, i64_w, i32_w]
      rfl
     refine one_ (i := 7) (N := some 42) #[tt,tt,tt,tt,tt,tt,tt,tt,ff,ff,ff,ff,ff,ff,ff] rfl rfl (one_of HT_.out (by kernel_rfl)) (by decide) (fun K hK => ?_)
     refine goes_ Tryd.func98 (by kernel_rfl) rfl #[.agg #[.int .i64 ((rd_T25 l0 0).f0), .bool ((rd_T25 l0 0).f1)]] (by rfl) rfl rfl hM ?_
     with_reducible refine (impl_Tone_height.calls (rd_T25 l0 0).f0 (rd_T25 l0 0).f1 h2 _ (GOk.below HG.out HB.out) A3.out).mono ?_
     rintro e w17 ⟨rfl, hb⟩
     refine ⟨_, rfl, ?_⟩
     have n1_ := Q0_ (below_step HB.out hb)
     have n4_ := Q0_ (blk_below BX.out hb)
     clear HB BX hb
     have HB := n1_
     have BX := n4_
     clear n1_ n4_
     refine hK.out _ _ ⟨(blk_cell BX.out 0).trans rfl, (blk_cell BX.out 1).trans rfl, cell_keep Z1.out HB.out, cell_keep Z2.out HB.out⟩ (fun hHeld => ?_)
     clear hK K
     refine norm_ (a' := ?_) ?_ ?_
     rotate_left
     ·show Act.put _ (some 42) _ = _
      simp only [Act.put, sI, s0, sS, i64_w, i32_w]
      rfl
     refine pQ HT_ 8 (some 43) #[tt,tt,tt,tt,tt,tt,tt,tt,tt,ff,ff,ff,ff,ff,ff] rfl rfl ?_
     refine one_ (i := 9) (N := some 44) #[tt,tt,tt,tt,tt,tt,tt,tt,tt,tt,ff,ff,ff,ff,ff] rfl rfl (one_of HT_.out (by kernel_rfl)) (by decide) (fun K hK => ?_)
     refine goes_ Tryd.func97 (by kernel_rfl) rfl #[.slice (some ad) l0.length c0, .int .i64 a1, .int .i64 (wrap64 (h1 - h2))] (by rfl) rfl rfl hM ?_
     with_reducible refine (impl_movedMelody.calls k (some ad) c0 l0 a1 (wrap64 (h1 - h2)) q1 false _ (Kd.C_below HR0.out HB.out) HC0.out (GOk.below HG.out HB.out) A4.out).mono ?_
     rintro e w18 ⟨vq, rfl, hq, hb⟩
     refine ⟨_, rfl, ?_⟩
     have HQ := Q0_ (Kd.R_lower hq (below_size HB.out))
     clear hq
     have n1_ := Q0_ (below_step HB.out hb)
     have n4_ := Q0_ (blk_below BX.out hb)
     clear HB BX hb
     have HB := n1_
     have BX := n4_
     clear n1_ n4_
     refine hK.out _ _ ⟨(blk_cell BX.out 0).trans rfl, (blk_cell BX.out 1).trans rfl, cell_keep Z1.out HB.out, cell_keep Z2.out HB.out⟩ (fun hHeld => ?_)
     clear hK K
     refine norm_ (a' := ?_) ?_ ?_
     rotate_left
     ·show Act.put _ (some 44) _ = _
      simp only [Act.put, sI, s0, sS, i64_w, i32_w]
      rfl
     refine pQ HT_ 10 (some 34) #[tt,tt,tt,tt,tt,tt,tt,tt,tt,tt,tt,ff,ff,ff,ff] rfl rfl ?_
     refine pQ HT_ 11 (some 45) #[tt,tt,tt,tt,tt,tt,tt,tt,tt,tt,tt,tt,ff,ff,ff] rfl rfl ?_
     refine pQ HT_ 12 (some 46) #[tt,tt,tt,tt,tt,tt,tt,tt,tt,tt,tt,tt,tt,ff,ff] rfl rfl ?_
     refine pQ HT_ 13 (some 10) #[tt,tt,tt,tt,tt,tt,tt,tt,tt,tt,tt,tt,tt,tt,ff] rfl rfl ?_
     refine pQ HT_ 14 (some 11) #[tt,tt,tt,tt,tt,tt,tt,tt,tt,tt,tt,tt,tt,tt,tt] rfl rfl ?_
     refine done_ (done_of HT_.out (by kernel_rfl)) ?_
     clear HQ
     try go_wp2
     go_roundg k2
     case measure => omega
     case rel => exact ⟨2, by first | rfl | (simp; done), by omega, H3, HB⟩
    ·rw [if_pos rfl] at E
     simp only [Option.some.injEq, Prod.mk.injEq] at E
     obtain ⟨rfl, rfl⟩ := E
     go_wp2_with (first | (go_at_call 96; ((with_reducible refine (impl_ToneAbove.calls k (rd_T25 l0 0).f0 (rd_T25 l0 0).f1 a1 true x s true _ A1.out).mono ?_); rintro e w11 ⟨rfl, hb⟩; have n1_ := Q0_ (below_step HB.out hb); clear HB hb z1 z2; have HB := n1_; clear n1_)) | ((with_reducible refine gate_dst (N := 8) rfl ?_); refine box_event ?hg (N := 8) ?hd (cs := #[.int .i64 0, .bool false]) (t := 25) ?hr ?_; (case hd => rfl); (case hg => rfl); (case hr => first | (go_simp; done) | (go_simp; rfl)); intro gb hg w13 hbox hb; have BX := Aside0.mk hbox; have BB := Aside0.mk hb; have GB := Aside0.mk hg; clear hbox hb hg; have hcz_0 : w13.cell? ⟨gb, 0, none⟩ = some (.int .i64 0) := (blk_cell BX.out 0).trans rfl; have hcz_1 : w13.cell? ⟨gb, 1, none⟩ = some (.bool false) := (blk_cell BX.out 1).trans rfl; have hfz_0 := blk_frozen BX.out 0; have hfz_1 := blk_frozen BX.out 1))
     have BA : Aside0 (Below w11.heap.size w11 ((w13.setCell ⟨gb, 0, none⟩ (.int .i64 x)).setCell ⟨gb, 1, none⟩ (.bool s))) := ⟨below_set (below_set BB.out (Nat.le_of_eq GB.out.symm)) (Nat.le_of_eq GB.out.symm)⟩
     have n1_ := Q0_ (below_step HB.out BA.out)
     have n4_ : Aside0 (((w13.setCell ⟨gb, 0, none⟩ (.int .i64 x)).setCell ⟨gb, 1, none⟩ (.bool s)).heap[gb]? = some (.cells #[.int .i64 x, .bool s] 25 (0, 0))) := ⟨by refine blk_put (cs := #[.int .i64 x, .bool false]) ?_ 1 _ rfl; refine blk_put (cs := #[.int .i64 0, .bool false]) ?_ 0 _ rfl; exact BX.out⟩
     clear HB BX BB BA hcz_0 hcz_1 hfz_0 hfz_1
     generalize ((w13.setCell ⟨gb, 0, none⟩ (.int .i64 x)).setCell ⟨gb, 1, none⟩ (.bool s)) = w14 at n1_ n4_ ⊢
     have HB := n1_
     have BX := n4_
     clear n1_ n4_
     have n1_ := Q0_ (below_drew1 HB.out)
     have n4_ := Q0_ (blk_drew BX.out)
     clear HB BX
     have HB := n1_
     have BX := n4_
     clear n1_ n4_
     refine start_ (n := 15) (S := fun w' => w'.cell? ⟨gb, 0, none⟩ = some (.int .i64 x) ∧ w'.cell? ⟨gb, 1, none⟩ = some (.bool s) ∧ w'.cell? ad = some (.int .i64 (rd_T25 l0 0).f0) ∧ w'.cell? ⟨ad.block, ad.off + 1, none⟩ = some (.bool (rd_T25 l0 0).f1)) (ds := []) #[ff,ff,ff,ff,ff,ff,ff,ff,ff,ff,ff,ff,ff,ff,ff] (by kernel_rfl) rfl rfl ⟨(blk_cell BX.out 0).trans rfl, (blk_cell BX.out 1).trans rfl, cell_keep Z1.out HB.out, cell_keep Z2.out HB.out⟩ (fun hHeld => ?_)
     refine with_tabW impl_MelodyMove.tab10 impl_MelodyMove.bits10 (fun HT_ HW_ => ?_)
     generalize w14.drew = w15 at HB BX hHeld ⊢
     refine pQ HT_ 0 (some 35) #[tt,ff,ff,ff,ff,ff,ff,ff,ff,ff,ff,ff,ff,ff,ff] rfl rfl ?_
     refine pQ HT_ 1 (some 36) #[tt,tt,ff,ff,ff,ff,ff,ff,ff,ff,ff,ff,ff,ff,ff] rfl rfl ?_
     refine pQ HT_ 4 (some 39) #[tt,tt,ff,ff,tt,ff,ff,ff,ff,ff,ff,ff,ff,ff,ff] rfl rfl ?_
     refine pQ HT_ 5 (some 40) #[tt,tt,ff,ff,tt,tt,ff,ff,ff,ff,ff,ff,ff,ff,ff] rfl rfl ?_
     refine tQ HT_ HW_ 2 (some 37) #[tt,tt,tt,ff,tt,tt,ff,ff,ff,ff,ff,ff,ff,ff,ff] rfl rfl hHeld (by rintro w' ⟨s0, s1, s2, s3⟩; go_simp; with_reducible rfl) ?_
     refine tQ HT_ HW_ 6 (some 41) #[tt,tt,tt,ff,tt,tt,tt,ff,ff,ff,ff,ff,ff,ff,ff] rfl rfl hHeld (by rintro w' ⟨s0, s1, s2, s3⟩; go_simp; with_reducible rfl) ?_
     refine one_ (i := 3) (N := some 38) #[tt,tt,tt,tt,tt,tt,tt,ff,ff,ff,ff,ff,ff,ff,ff] rfl rfl (one_of HT_.out (by kernel_rfl)) (by decide) (fun K hK => ?_)
     refine goes_ Tryd.func98 (by kernel_rfl) rfl #[.agg #[.int .i64 x, .bool s]] (by rfl) rfl rfl hM ?_
     with_reducible refine (impl_Tone_height.calls x s h1 _ (GOk.below HG.out HB.out) A2.out).mono ?_
     rintro e w16 ⟨rfl, hb⟩
     refine ⟨_, rfl, ?_⟩
     have n1_ := Q0_ (below_step HB.out hb)
     have n4_ := Q0_ (blk_below BX.out hb)
     clear HB BX hb
     have HB := n1_
     have BX := n4_
     clear n1_ n4_
     refine hK.out _ _ ⟨(blk_cell BX.out 0).trans rfl, (blk_cell BX.out 1).trans rfl, cell_keep Z1.out HB.out, cell_keep Z2.out HB.out⟩ (fun hHeld => ?_)
     clear hK K
     refine norm_ (a' := ?_) ?_ ?_
     rotate_left
     ·show Act.put _ (some 38) _ = _
      simp only [Act.put, sI, s0, sS, i64_w, i32_w]
      rfl
     refine one_ (i := 7) (N := some 42) #[tt,tt,tt,tt,tt,tt,tt,tt,ff,ff,ff,ff,ff,ff,ff] rfl rfl (one_of HT_.out (by kernel_rfl)) (by decide) (fun K hK => ?_)
     refine goes_ Tryd.func98 (by kernel_rfl) rfl #[.agg #[.int .i64 ((rd_T25 l0 0).f0), .bool ((rd_T25 l0 0).f1)]] (by rfl) rfl rfl hM ?_
     with_reducible refine (impl_Tone_height.calls (rd_T25 l0 0).f0 (rd_T25 l0 0).f1 h2 _ (GOk.below HG.out HB.out) A3.out).mono ?_
     rintro e w17 ⟨rfl, hb⟩
     refine ⟨_, rfl, ?_⟩
     have n1_ := Q0_ (below_step HB.out hb)
     have n4_ := Q0_ (blk_below BX.out hb)
     clear HB BX hb
     have HB := n1_
     have BX := n4_
     clear n1_ n4_
     refine hK.out _ _ ⟨(blk_cell BX.out 0).trans rfl, (blk_cell BX.out 1).trans rfl, cell_keep Z1.out HB.out, cell_keep Z2.out HB.out⟩ (fun hHeld => ?_)
     clear hK K
     refine norm_ (a' := ?_) ?_ ?_
     rotate_left
     ·show Act.put _ (some 42) _ = _
      simp only [Act.put, sI, s0, sS, i64_w, i32_w]
      rfl
     refine pQ HT_ 8 (some 43) #[tt,tt,tt,tt,tt,tt,tt,tt,tt,ff,ff,ff,ff,ff,ff] rfl rfl ?_
     refine one_ (i := 9) (N := some 44) #[tt,tt,tt,tt,tt,tt,tt,tt,tt,tt,ff,ff,ff,ff,ff] rfl rfl (one_of HT_.out (by kernel_rfl)) (by decide) (fun K hK => ?_)
     refine goes_ Tryd.func97 (by kernel_rfl) rfl #[.slice (some ad) l0.length c0, .int .i64 a1, .int .i64 (wrap64 (h1 - h2))] (by rfl) rfl rfl hM ?_
     with_reducible refine (impl_movedMelody.calls k (some ad) c0 l0 a1 (wrap64 (h1 - h2)) q1 true _ (Kd.C_below HR0.out HB.out) HC0.out (GOk.below HG.out HB.out) A4.out).mono ?_
     rintro e w18 ⟨vq, rfl, hq, hb⟩
     refine ⟨_, rfl, ?_⟩
     have HQ := Q0_ (Kd.R_lower hq (below_size HB.out))
     clear hq
     have n1_ := Q0_ (below_step HB.out hb)
     have n4_ := Q0_ (blk_below BX.out hb)
     clear HB BX hb
     have HB := n1_
     have BX := n4_
     clear n1_ n4_
     refine hK.out _ _ ⟨(blk_cell BX.out 0).trans rfl, (blk_cell BX.out 1).trans rfl, cell_keep Z1.out HB.out, cell_keep Z2.out HB.out⟩ (fun hHeld => ?_)
     clear hK K
     refine norm_ (a' := ?_) ?_ ?_
     rotate_left
     ·show Act.put _ (some 44) _ = _
      simp only [Act.put, sI, s0, sS, i64_w, i32_w]
      rfl
     refine pQ HT_ 10 (some 34) #[tt,tt,tt,tt,tt,tt,tt,tt,tt,tt,tt,ff,ff,ff,ff] rfl rfl ?_
     refine pQ HT_ 11 (some 45) #[tt,tt,tt,tt,tt,tt,tt,tt,tt,tt,tt,tt,ff,ff,ff] rfl rfl ?_
     refine pQ HT_ 12 (some 46) #[tt,tt,tt,tt,tt,tt,tt,tt,tt,tt,tt,tt,tt,ff,ff] rfl rfl ?_
     refine pQ HT_ 13 (some 10) #[tt,tt,tt,tt,tt,tt,tt,tt,tt,tt,tt,tt,tt,tt,ff] rfl rfl ?_
     refine pQ HT_ 14 (some 11) #[tt,tt,tt,tt,tt,tt,tt,tt,tt,tt,tt,tt,tt,tt,tt] rfl rfl ?_
     refine done_ (done_of HT_.out (by kernel_rfl)) ?_
     try go_wp2
     go_ret2
     exact ⟨_, rfl, HQ.out, HB.out⟩
end Go.Proofs.YtdgmkfbmeaalpaaDoor.E
end
section
namespace Go.Proofs.YtdgmkfbmeaalpaaDoor.E
open Go.RowKit Go.Proofs.YtdgmkfbmeaalpaaDoorW.PrintWords Go.Proofs.YtdgmkfbmeaalpaaDoorW.PrintLast Go.Proofs.YtdgmkfbmeaalpaaDoorW.PrintMore
attribute [local go_sem] max2_int min2_int max_two min_two max_three min_three max_four min_four
set_option linter.unusedVariables false
set_option linter.unusedSimpArgs false
attribute [local go_sem] str_leq_ str_gtr_ str_geq_
def impl_PsalmMove.f (k : Nat) (l0_0 : List (S25)) (a0_1 : Int) (a0_2 : Bool) (l0_3 : List (S25)) (l0_4 : List (S25)) (a1 : Int) : Option ((List (S25)) × Int × Bool × (List (S25)) × (List (S25)) × Bool) := (impl_PsalmValid.f k l0_0 a0_1 a0_2 l0_3 l0_4).bind fun t998 => (if t998 = true then ((impl_copiedTones.f l0_0).bind fun t999 => ((some (([(⟨a0_1, a0_2⟩ : S25)] : List (S25)) : List (S25))).bind fun y1002 => (if t999.length + y1002.length < 8796093022208 then ((some (t999 ++ y1002 : List (S25))).bind fun y1005 => (if y1005.length + l0_3.length < 8796093022208 then ((some (y1005 ++ l0_3 : List (S25))).bind fun y1008 => (if y1008.length + l0_4.length < 8796093022208 then ((impl_MelodyMove.f k (y1008 ++ l0_4) a1).bind fun bt1014 => (if bt1014.2 = true then (if 0 ≤ (l0_0.length : Int) then (if (l0_0.length : Int) ≤ (bt1014.1.length : Int) then ((impl_copiedTones.f (bt1014.1.take ((l0_0.length : Int) : Int).toNat)).bind fun t1022 => (if (l0_0.length : Int) < (bt1014.1.length : Int) then (if 0 ≤ (wrap64 ((l0_0.length : Int) + 1)) then (if (wrap64 ((l0_0.length : Int) + 1)) ≤ (wrap64 ((wrap64 ((l0_0.length : Int) + 1)) + (l0_3.length : Int))) then (if (wrap64 ((wrap64 ((l0_0.length : Int) + 1)) + (l0_3.length : Int))) ≤ (bt1014.1.length : Int) then ((impl_copiedTones.f ((bt1014.1.take ((wrap64 ((wrap64 ((l0_0.length : Int) + 1)) + (l0_3.length : Int))) : Int).toNat).drop ((wrap64 ((l0_0.length : Int) + 1)) : Int).toNat)).bind fun t1030 => (if 0 ≤ (wrap64 ((wrap64 ((l0_0.length : Int) + 1)) + (l0_3.length : Int))) then ((impl_copiedTones.f (bt1014.1.drop ((wrap64 ((wrap64 ((l0_0.length : Int) + 1)) + (l0_3.length : Int))) : Int).toNat)).bind fun t1037 => (some (t1022, (rd_T25 bt1014.1 (l0_0.length : Int)).f0, (rd_T25 bt1014.1 (l0_0.length : Int)).f1, t1030, t1037, true))) else (none))) else (none)) else (none)) else (none)) else (none))) else (none)) else (none)) else (some (([] : List (S25)), 0, false, ([] : List (S25)), ([] : List (S25)), false)))) else (none))) else (none))) else (none)))) else (some (([] : List (S25)), 0, false, ([] : List (S25)), ([] : List (S25)), false)))
def impl_PsalmMove.T3 : Bool × List (List Nat × List Nat) := (true, [([], []), ([0], [0]), ([1], [1]), ([], []), ([3], [3]), ([4], [4]), ([2, 5, 2], [2, 5]), ([6, 6, 0, 1, 2, 3, 4, 5, 6], [6])])
def impl_PsalmMove.B3 : List Nat := [0, 1, 3, 0, 8, 24, 63, 127]
theorem impl_PsalmMove.tab3 : rtab .any (opsOf Tryd.f52 3) = impl_PsalmMove.T3 := by kernel_rfl
theorem impl_PsalmMove.bits3 : waitsOk impl_PsalmMove.T3.2 impl_PsalmMove.B3 = true := by kernel_rfl
def impl_PsalmMove.T11 : Bool × List (List Nat × List Nat) := (true, [([], []), ([], []), ([0, 1], [0, 1]), ([2], [2]), ([], []), ([], []), ([4, 5], [4, 5]), ([6], [6]), ([], []), ([], []), ([9], [9]), ([], []), ([8, 10, 11], [8, 10, 11]), ([12, 3], [12]), ([], []), ([], []), ([14, 15], [14, 15]), ([16, 13], [16]), ([3, 7, 13, 17], [3, 7, 13, 17]), ([18, 17, 0, 1, 2, 3, 4, 5, 6, 7, 8, 9, 10, 11, 12, 13, 14, 15, 16, 17, 18], [18]), ([19, 0, 1, 2, 3, 4, 5, 6, 7, 8, 9, 10, 11, 12, 13, 14, 15, 16, 17, 18, 19], [])])
def impl_PsalmMove.B11 : List Nat := [0, 0, 3, 7, 0, 0, 48, 112, 0, 0, 512, 0, 3840, 7951, 0, 0, 49152, 130831, 262143, 524287, 1048575]
theorem impl_PsalmMove.tab11 : rtab .any (opsOf Tryd.f52 11) = impl_PsalmMove.T11 := by kernel_rfl
theorem impl_PsalmMove.bits11 : waitsOk impl_PsalmMove.T11.2 impl_PsalmMove.B11 = true := by kernel_rfl
set_option maxHeartbeats 8000000 in
set_option maxRecDepth 100000 in
theorem impl_PsalmMove.calls (k : Nat) (A0_0 : Option Addr) (c0_0 : Nat) (l0_0 : List (S25)) (a0_1 : Int) (a0_2 : Bool) (A0_3 : Option Addr) (c0_3 : Nat) (l0_3 : List (S25)) (A0_4 : Option Addr) (c0_4 : Nat) (l0_4 : List (S25)) (a1 : Int) (r1 : List (S25)) (r2 : Int) (r3 : Bool) (r4 : List (S25)) (r5 : List (S25)) (r6 : Bool) (w : World) (hr0_0 : Kd.C k25 w A0_0 l0_0.length l0_0) (hc0_0 : l0_0.length ≤ c0_0) (hr0_3 : Kd.C k25 w A0_3 l0_3.length l0_3) (hc0_3 : l0_3.length ≤ c0_3) (hr0_4 : Kd.C k25 w A0_4 l0_4.length l0_4) (hc0_4 : l0_4.length ≤ c0_4) (hG : GOk [1] w) (h : impl_PsalmMove.f k l0_0 a0_1 a0_2 l0_3 l0_4 a1 = some (r1, r2, r3, r4, r5, r6)) :
  Calls Tryd.prog 52 #[.agg #[.slice A0_0 l0_0.length c0_0, .int .i64 a0_1, .bool a0_2, .slice A0_3 l0_3.length c0_3, .slice A0_4 l0_4.length c0_4], .int .i64 a1] w fun e w' => ∃ v0_ v3_ v4_ : Value, e = .returned (.tuple #[.agg #[v0_, .int .i64 r2, .bool r3, v3_, v4_], .bool r6]) ∧ Kd.R k25 25 w' w.heap.size (fun k_ => nb k_ (v3_) ∧ nb k_ (v4_)) v0_ r1 ∧ Kd.R k25 25 w' w.heap.size (fun k_ => nb k_ (v0_) ∧ nb k_ (v4_)) v3_ r4 ∧ Kd.R k25 25 w' w.heap.size (fun k_ => nb k_ (v0_) ∧ nb k_ (v3_)) v4_ r5 ∧ Below w.heap.size w w' := by
 have hu27 := Tryd.underlying27
 have hu25 := Tryd.underlying25
 have HR0_0 := Aside0.mk hr0_0
 have HC0_0 := Aside0.mk hc0_0
 clear hr0_0 hc0_0
 have HR0_3 := Aside0.mk hr0_3
 have HC0_3 := Aside0.mk hc0_3
 clear hr0_3 hc0_3
 have HR0_4 := Aside0.mk hr0_4
 have HC0_4 := Aside0.mk hc0_4
 clear hr0_4 hc0_4
 have HB := Q0_ (Below.refl w.heap.size w)
 have HG := Aside0.mk hG
 clear hG
 have H : ((impl_PsalmValid.f k l0_0 a0_1 a0_2 l0_3 l0_4).bind fun t998 => (if t998 = true then ((impl_copiedTones.f l0_0).bind fun t999 => ((some (([(⟨a0_1, a0_2⟩ : S25)] : List (S25)) : List (S25))).bind fun y1002 => (if t999.length + y1002.length < 8796093022208 then ((some (t999 ++ y1002 : List (S25))).bind fun y1005 => (if y1005.length + l0_3.length < 8796093022208 then ((some (y1005 ++ l0_3 : List (S25))).bind fun y1008 => (if y1008.length + l0_4.length < 8796093022208 then ((impl_MelodyMove.f k (y1008 ++ l0_4) a1).bind fun bt1014 => (if bt1014.2 = true then (if 0 ≤ (l0_0.length : Int) then (if (l0_0.length : Int) ≤ (bt1014.1.length : Int) then ((impl_copiedTones.f (bt1014.1.take ((l0_0.length : Int) : Int).toNat)).bind fun t1022 => (if (l0_0.length : Int) < (bt1014.1.length : Int) then (if 0 ≤ (wrap64 ((l0_0.length : Int) + 1)) then (if (wrap64 ((l0_0.length : Int) + 1)) ≤ (wrap64 ((wrap64 ((l0_0.length : Int) + 1)) + (l0_3.length : Int))) then (if (wrap64 ((wrap64 ((l0_0.length : Int) + 1)) + (l0_3.length : Int))) ≤ (bt1014.1.length : Int) then ((impl_copiedTones.f ((bt1014.1.take ((wrap64 ((wrap64 ((l0_0.length : Int) + 1)) + (l0_3.length : Int))) : Int).toNat).drop ((wrap64 ((l0_0.length : Int) + 1)) : Int).toNat)).bind fun t1030 => (if 0 ≤ (wrap64 ((wrap64 ((l0_0.length : Int) + 1)) + (l0_3.length : Int))) then ((impl_copiedTones.f (bt1014.1.drop ((wrap64 ((wrap64 ((l0_0.length : Int) + 1)) + (l0_3.length : Int))) : Int).toNat)).bind fun t1037 => (some (t1022, (rd_T25 bt1014.1 (l0_0.length : Int)).f0, (rd_T25 bt1014.1 (l0_0.length : Int)).f1, t1030, t1037, true))) else (none))) else (none)) else (none)) else (none)) else (none))) else (none)) else (none)) else (some (([] : List (S25)), 0, false, ([] : List (S25)), ([] : List (S25)), false)))) else (none))) else (none))) else (none)))) else (some (([] : List (S25)), 0, false, ([] : List (S25)), ([] : List (S25)), false)))) = some (r1, r2, r3, r4, r5, r6) := h
 clear h
 obtain ⟨t998, A30, H⟩ := Option.bind_eq_some_iff.mp H
 try dsimp only at H
 have A3 := Aside0.mk A30
 clear A30
 by_cases c4 : t998 = true
 rotate_left
 ·replace c4 := Bool.eq_false_iff.mpr c4
  subst c4
  replace H := ifN ((show ¬ (false = true) by decide)) H
  simp only [Option.some.injEq, Prod.mk.injEq] at H
  obtain ⟨rfl, rfl, rfl, rfl, rfl, rfl⟩ := H
  go_enter Tryd.func52, Tryd.ntmps52
  go_wp2_with (first | ((with_reducible refine gate_dst (N := 2) rfl ?_); refine box_event ?hg (N := 2) ?hd (cs := #[.slice A0_0 l0_0.length c0_0, .int .i64 a0_1, .bool a0_2, .slice A0_3 l0_3.length c0_3, .slice A0_4 l0_4.length c0_4]) (t := 27) ?hr ?_; (case hd => rfl); (case hg => rfl); (case hr => first | (go_simp; done) | (go_simp; rfl)); intro gb996 hg w78 hbox hb; have n0_ := Q0_ (below_step (upB HB) hb); have n1_ := Q0_ (hbox); have n2_ := Q0_ ((by rw [hg]; exact (below_size (upB HB)) : w.heap.size ≤ gb996)); have n3_ := Q0_ ((by rw [hg]; exact (below_size (upB HB)) : w.heap.size ≤ gb996)); clear HB; revert n0_ n1_ n2_ n3_; intro HB BK996 GW996 GE996; clear hb hbox hg) | ((with_reducible refine gate_dst (N := 4) rfl ?_); refine box_event ?hg (N := 4) ?hd (cs := #[.slice none 0 0, .int .i64 0, .bool false, .slice none 0 0, .slice none 0 0]) (t := 27) ?hr ?_; (case hd => rfl); (case hg => rfl); (case hr => first | (go_simp; done) | (go_simp; rfl)); intro gb997 hg w79 hbox hb; have n0_ := Q0_ (blk_below (upK BK996) hb); have n1_ := Q0_ (below_step upH hb); have n2_ := Q0_ (hbox); have n3_ := Q0_ ((by rw [hg]; exact (below_size upH) : w.heap.size ≤ gb997)); have n4_ := Q0_ ((by rw [hg]; exact (below_size upH) : w.heap.size ≤ gb997)); have n5_ := Q0_ ((by rw [hg]; exact Nat.ne_of_lt (blk_lt (upK BK996)) : gb996 ≠ gb997)); have n6_ := Q0_ ((by rw [hg]; exact Nat.ne_of_gt (blk_lt (upK BK996)) : gb997 ≠ gb996)); clear BK996 HB; revert n0_ n1_ n2_ n3_ n4_ n5_ n6_; intro BK996 HB BK997 GW997 GE997 NB996_997 NB997_996; clear hb hbox hg; have hnb80 := NB996_997.out; have hnc80 := NB997_996.out; have hcz81_0 : w79.cell? ⟨gb996, 0, none⟩ = some (.slice A0_0 l0_0.length c0_0) := (blk_cell BK996.out 0).trans rfl; have hcz81_1 : w79.cell? ⟨gb996, 1, none⟩ = some (.int .i64 a0_1) := (blk_cell BK996.out 1).trans rfl; have hcz81_2 : w79.cell? ⟨gb996, 2, none⟩ = some (.bool a0_2) := (blk_cell BK996.out 2).trans rfl; have hcz81_3 : w79.cell? ⟨gb996, 3, none⟩ = some (.slice A0_3 l0_3.length c0_3) := (blk_cell BK996.out 3).trans rfl; have hcz81_4 : w79.cell? ⟨gb996, 4, none⟩ = some (.slice A0_4 l0_4.length c0_4) := (blk_cell BK996.out 4).trans rfl; have hfz81_0 := blk_frozen BK996.out 0; have hfz81_1 := blk_frozen BK996.out 1; have hfz81_2 := blk_frozen BK996.out 2; have hfz81_3 := blk_frozen BK996.out 3; have hfz81_4 := blk_frozen BK996.out 4) | ((with_reducible refine gate_callee (f := 20) rfl ?_); refine goesL_ (some 12) rfl rfl Tryd.func20 (by kernel_rfl) rfl #[.agg #[.slice A0_0 l0_0.length c0_0, .int .i64 a0_1, .bool a0_2, .slice A0_3 l0_3.length c0_3, .slice A0_4 l0_4.length c0_4]] rfl hM ?_; (with_reducible refine (impl_PsalmValid.calls k _ _ l0_0 a0_1 a0_2 _ _ l0_3 _ _ l0_4 false _ ?side1 ?side2 ?side3 ?side4 ?side5 ?side6 A3.out).mono ?_); (case side1 => repeat (first | exact (Kd.C_below HR0_0.out HB.out) | refine C_q ?_)); (case side2 => exact HC0_0.out); (case side3 => repeat (first | exact (Kd.C_below HR0_3.out HB.out) | refine C_q ?_)); (case side4 => exact HC0_3.out); (case side5 => repeat (first | exact (Kd.C_below HR0_4.out HB.out) | refine C_q ?_)); (case side6 => exact HC0_4.out); rintro e w82 ⟨rfl, hb⟩; refine ⟨_, rfl, ?_⟩; have n0_ := Q0_ (blk_below (upK BK996) hb); have n1_ := Q0_ (blk_below (upK BK997) hb); have n2_ := Q0_ (below_step upH hb); clear BK996 BK997 HB; revert n0_ n1_ n2_; intro BK996 BK997 HB; (try clear hb); (try clear hb2); (try clear hk); (try clear hi); have hcz83_0 : w82.cell? ⟨gb997, 0, none⟩ = some (.slice none 0 0) := (blk_cell BK997.out 0).trans rfl; have hcz83_1 : w82.cell? ⟨gb997, 1, none⟩ = some (.int .i64 0) := (blk_cell BK997.out 1).trans rfl; have hcz83_2 : w82.cell? ⟨gb997, 2, none⟩ = some (.bool false) := (blk_cell BK997.out 2).trans rfl; have hcz83_3 : w82.cell? ⟨gb997, 3, none⟩ = some (.slice none 0 0) := (blk_cell BK997.out 3).trans rfl; have hcz83_4 : w82.cell? ⟨gb997, 4, none⟩ = some (.slice none 0 0) := (blk_cell BK997.out 4).trans rfl; have hfz83_0 := blk_frozen BK997.out 0; have hfz83_1 := blk_frozen BK997.out 1; have hfz83_2 := blk_frozen BK997.out 2; have hfz83_3 := blk_frozen BK997.out 3; have hfz83_4 := blk_frozen BK997.out 4))
  refine bodyPost_ret (results_ct rfl _ _ gb997 27 #[.slice none 0 0, .int .i64 0, .bool false, .slice none 0 0, .slice none 0 0] (0, 0) _ rfl (by (repeat refine blk_q ?_); refine blk_put (cs := #[.slice none 0 0, .int .i64 0, .bool false, .slice none 0 0, .slice none 0 0]) ?_ 4 _ rfl; (repeat refine blk_q ?_); refine blk_put (cs := #[.slice none 0 0, .int .i64 0, .bool false, .slice none 0 0, .slice none 0 0]) ?_ 3 _ rfl; (repeat refine blk_q ?_); refine blk_put (cs := #[.slice none 0 0, .int .i64 0, .bool false, .slice none 0 0, .slice none 0 0]) ?_ 2 _ rfl; (repeat refine blk_q ?_); refine blk_put (cs := #[.slice none 0 0, .int .i64 0, .bool false, .slice none 0 0, .slice none 0 0]) ?_ 1 _ rfl; (repeat refine blk_q ?_); refine blk_put (cs := #[.slice none 0 0, .int .i64 0, .bool false, .slice none 0 0, .slice none 0 0]) ?_ 0 _ rfl; (repeat refine blk_q ?_); exact BK997.out) Tryd.underlying27 rfl (by kernel_rfl)) rfl ?_
  exact ⟨_, _, _, by first | rfl | (simp [errW_none, errW_some] <;> rfl) | (simp [*, errW_none, errW_some] <;> rfl), by first | exact Kd.R_nil _ _ _ _ _ | exact Kd.N_nil _ _ _ _ _ | exact Kd.V_nil _ _ _ _ _ | exact Kd.Q_nil _ _ _ _ _ | exact Kd.S_nil _ _ _ _ _, by first | exact Kd.R_nil _ _ _ _ _ | exact Kd.N_nil _ _ _ _ _ | exact Kd.V_nil _ _ _ _ _ | exact Kd.Q_nil _ _ _ _ _ | exact Kd.S_nil _ _ _ _ _, by first | exact Kd.R_nil _ _ _ _ _ | exact Kd.N_nil _ _ _ _ _ | exact Kd.V_nil _ _ _ _ _ | exact Kd.Q_nil _ _ _ _ _ | exact Kd.S_nil _ _ _ _ _, by repeat (first | (with_reducible first | exact HB.out | apply below_alloc | apply pw_below_drewN | apply below_drew1 | refine below_set ?_ GE996.out | refine below_set ?_ GE997.out) | exact HB.out)⟩
 subst c4
 replace H := ifP (rfl) H
 obtain ⟨t999, A50, H⟩ := Option.bind_eq_some_iff.mp H
 try dsimp only at H
 have A5 := Aside0.mk A50
 clear A50
 obtain ⟨y1002, hy1002⟩ : ∃ y_ : List (S25), y_ = (([(⟨a0_1, a0_2⟩ : S25)] : List (S25))) := ⟨_, rfl⟩
 replace H : (if t999.length + y1002.length < 8796093022208 then ((some (t999 ++ y1002 : List (S25))).bind fun y1005 => (if y1005.length + l0_3.length < 8796093022208 then ((some (y1005 ++ l0_3 : List (S25))).bind fun y1008 => (if y1008.length + l0_4.length < 8796093022208 then ((impl_MelodyMove.f k (y1008 ++ l0_4) a1).bind fun bt1014 => (if bt1014.2 = true then (if 0 ≤ (l0_0.length : Int) then (if (l0_0.length : Int) ≤ (bt1014.1.length : Int) then ((impl_copiedTones.f (bt1014.1.take ((l0_0.length : Int) : Int).toNat)).bind fun t1022 => (if (l0_0.length : Int) < (bt1014.1.length : Int) then (if 0 ≤ (wrap64 ((l0_0.length : Int) + 1)) then (if (wrap64 ((l0_0.length : Int) + 1)) ≤ (wrap64 ((wrap64 ((l0_0.length : Int) + 1)) + (l0_3.length : Int))) then (if (wrap64 ((wrap64 ((l0_0.length : Int) + 1)) + (l0_3.length : Int))) ≤ (bt1014.1.length : Int) then ((impl_copiedTones.f ((bt1014.1.take ((wrap64 ((wrap64 ((l0_0.length : Int) + 1)) + (l0_3.length : Int))) : Int).toNat).drop ((wrap64 ((l0_0.length : Int) + 1)) : Int).toNat)).bind fun t1030 => (if 0 ≤ (wrap64 ((wrap64 ((l0_0.length : Int) + 1)) + (l0_3.length : Int))) then ((impl_copiedTones.f (bt1014.1.drop ((wrap64 ((wrap64 ((l0_0.length : Int) + 1)) + (l0_3.length : Int))) : Int).toNat)).bind fun t1037 => (some (t1022, (rd_T25 bt1014.1 (l0_0.length : Int)).f0, (rd_T25 bt1014.1 (l0_0.length : Int)).f1, t1030, t1037, true))) else (none))) else (none)) else (none)) else (none)) else (none))) else (none)) else (none)) else (some (([] : List (S25)), 0, false, ([] : List (S25)), ([] : List (S25)), false)))) else (none))) else (none))) else (none)) = some (r1, r2, r3, r4, r5, r6) := by first | (rw [hy1002]; with_reducible exact H) | (have H2_ := (Option.bind_some _ _).symm.trans H; rw [hy1002]; with_reducible exact H2_) | (have H2_ := (Option.bind_some _ _).symm.trans H; with_reducible exact H2_) | with_reducible exact H | (rw [hy1002]; exact H) | exact H
 have Ny1002 := Aside0.mk hy1002
 clear hy1002
 by_cases c6 : t999.length + y1002.length < 8796093022208
 rotate_left
 ·rw [if_neg c6] at H
  exact absurd H (by simp)
 rw [if_pos c6] at H
 have LMc6 := Aside0.mk c6
 clear c6
 obtain ⟨y1005, hy1005⟩ : ∃ y_ : List (S25), y_ = (t999 ++ y1002) := ⟨_, rfl⟩
 replace H : (if y1005.length + l0_3.length < 8796093022208 then ((some (y1005 ++ l0_3 : List (S25))).bind fun y1008 => (if y1008.length + l0_4.length < 8796093022208 then ((impl_MelodyMove.f k (y1008 ++ l0_4) a1).bind fun bt1014 => (if bt1014.2 = true then (if 0 ≤ (l0_0.length : Int) then (if (l0_0.length : Int) ≤ (bt1014.1.length : Int) then ((impl_copiedTones.f (bt1014.1.take ((l0_0.length : Int) : Int).toNat)).bind fun t1022 => (if (l0_0.length : Int) < (bt1014.1.length : Int) then (if 0 ≤ (wrap64 ((l0_0.length : Int) + 1)) then (if (wrap64 ((l0_0.length : Int) + 1)) ≤ (wrap64 ((wrap64 ((l0_0.length : Int) + 1)) + (l0_3.length : Int))) then (if (wrap64 ((wrap64 ((l0_0.length : Int) + 1)) + (l0_3.length : Int))) ≤ (bt1014.1.length : Int) then ((impl_copiedTones.f ((bt1014.1.take ((wrap64 ((wrap64 ((l0_0.length : Int) + 1)) + (l0_3.length : Int))) : Int).toNat).drop ((wrap64 ((l0_0.length : Int) + 1)) : Int).toNat)).bind fun t1030 => (if 0 ≤ (wrap64 ((wrap64 ((l0_0.length : Int) + 1)) + (l0_3.length : Int))) then ((impl_copiedTones.f (bt1014.1.drop ((wrap64 ((wrap64 ((l0_0.length : Int) + 1)) + (l0_3.length : Int))) : Int).toNat)).bind fun t1037 => (some (t1022, (rd_T25 bt1014.1 (l0_0.length : Int)).f0, (rd_T25 bt1014.1 (l0_0.length : Int)).f1, t1030, t1037, true))) else (none))) else (none)) else (none)) else (none)) else (none))) else (none)) else (none)) else (some (([] : List (S25)), 0, false, ([] : List (S25)), ([] : List (S25)), false)))) else (none))) else (none)) = some (r1, r2, r3, r4, r5, r6) := by first | (rw [hy1005]; with_reducible exact H) | (have H2_ := (Option.bind_some _ _).symm.trans H; rw [hy1005]; with_reducible exact H2_) | (have H2_ := (Option.bind_some _ _).symm.trans H; with_reducible exact H2_) | with_reducible exact H | (rw [hy1005]; exact H) | exact H
 have Ny1005 := Aside0.mk hy1005
 clear hy1005
 by_cases c7 : y1005.length + l0_3.length < 8796093022208
 rotate_left
 ·rw [if_neg c7] at H
  exact absurd H (by simp)
 rw [if_pos c7] at H
 have LMc7 := Aside0.mk c7
 clear c7
 obtain ⟨y1008, hy1008⟩ : ∃ y_ : List (S25), y_ = (y1005 ++ l0_3) := ⟨_, rfl⟩
 replace H : (if y1008.length + l0_4.length < 8796093022208 then ((impl_MelodyMove.f k (y1008 ++ l0_4) a1).bind fun bt1014 => (if bt1014.2 = true then (if 0 ≤ (l0_0.length : Int) then (if (l0_0.length : Int) ≤ (bt1014.1.length : Int) then ((impl_copiedTones.f (bt1014.1.take ((l0_0.length : Int) : Int).toNat)).bind fun t1022 => (if (l0_0.length : Int) < (bt1014.1.length : Int) then (if 0 ≤ (wrap64 ((l0_0.length : Int) + 1)) then (if (wrap64 ((l0_0.length : Int) + 1)) ≤ (wrap64 ((wrap64 ((l0_0.length : Int) + 1)) + (l0_3.length : Int))) then (if (wrap64 ((wrap64 ((l0_0.length : Int) + 1)) + (l0_3.length : Int))) ≤ (bt1014.1.length : Int) then ((impl_copiedTones.f ((bt1014.1.take ((wrap64 ((wrap64 ((l0_0.length : Int) + 1)) + (l0_3.length : Int))) : Int).toNat).drop ((wrap64 ((l0_0.length : Int) + 1)) : Int).toNat)).bind fun t1030 => (if 0 ≤ (wrap64 ((wrap64 ((l0_0.length : Int) + 1)) + (l0_3.length : Int))) then ((impl_copiedTones.f (bt1014.1.drop ((wrap64 ((wrap64 ((l0_0.length : Int) + 1)) + (l0_3.length : Int))) : Int).toNat)).bind fun t1037 => (some (t1022, (rd_T25 bt1014.1 (l0_0.length : Int)).f0, (rd_T25 bt1014.1 (l0_0.length : Int)).f1, t1030, t1037, true))) else (none))) else (none)) else (none)) else (none)) else (none))) else (none)) else (none)) else (some (([] : List (S25)), 0, false, ([] : List (S25)), ([] : List (S25)), false)))) else (none)) = some (r1, r2, r3, r4, r5, r6) := by first | (rw [hy1008]; with_reducible exact H) | (have H2_ := (Option.bind_some _ _).symm.trans H; rw [hy1008]; with_reducible exact H2_) | (have H2_ := (Option.bind_some _ _).symm.trans H; with_reducible exact H2_) | with_reducible exact H | (rw [hy1008]; exact H) | exact H
 have Ny1008 := Aside0.mk hy1008
 clear hy1008
 by_cases c8 : y1008.length + l0_4.length < 8796093022208
 rotate_left
 ·rw [if_neg c8] at H
  exact absurd H (by simp)
 rw [if_pos c8] at H
 have LMc8 := Aside0.mk c8
 clear c8
 obtain ⟨y1011, hy1011⟩ : ∃ y_ : List (S25), y_ = (y1008 ++ l0_4) := ⟨_, rfl⟩
 replace H : ((impl_MelodyMove.f k y1011 a1).bind fun bt1014 => (if bt1014.2 = true then (if 0 ≤ (l0_0.length : Int) then (if (l0_0.length : Int) ≤ (bt1014.1.length : Int) then ((impl_copiedTones.f (bt1014.1.take ((l0_0.length : Int) : Int).toNat)).bind fun t1022 => (if (l0_0.length : Int) < (bt1014.1.length : Int) then (if 0 ≤ (wrap64 ((l0_0.length : Int) + 1)) then (if (wrap64 ((l0_0.length : Int) + 1)) ≤ (wrap64 ((wrap64 ((l0_0.length : Int) + 1)) + (l0_3.length : Int))) then (if (wrap64 ((wrap64 ((l0_0.length : Int) + 1)) + (l0_3.length : Int))) ≤ (bt1014.1.length : Int) then ((impl_copiedTones.f ((bt1014.1.take ((wrap64 ((wrap64 ((l0_0.length : Int) + 1)) + (l0_3.length : Int))) : Int).toNat).drop ((wrap64 ((l0_0.length : Int) + 1)) : Int).toNat)).bind fun t1030 => (if 0 ≤ (wrap64 ((wrap64 ((l0_0.length : Int) + 1)) + (l0_3.length : Int))) then ((impl_copiedTones.f (bt1014.1.drop ((wrap64 ((wrap64 ((l0_0.length : Int) + 1)) + (l0_3.length : Int))) : Int).toNat)).bind fun t1037 => (some (t1022, (rd_T25 bt1014.1 (l0_0.length : Int)).f0, (rd_T25 bt1014.1 (l0_0.length : Int)).f1, t1030, t1037, true))) else (none))) else (none)) else (none)) else (none)) else (none))) else (none)) else (none)) else (some (([] : List (S25)), 0, false, ([] : List (S25)), ([] : List (S25)), false)))) = some (r1, r2, r3, r4, r5, r6) := by first | (rw [hy1011]; with_reducible exact H) | (have H2_ := (Option.bind_some _ _).symm.trans H; rw [hy1011]; with_reducible exact H2_) | (have H2_ := (Option.bind_some _ _).symm.trans H; with_reducible exact H2_) | with_reducible exact H | (rw [hy1011]; exact H) | exact H
 have Ny1011 := Aside0.mk hy1011
 clear hy1011
 obtain ⟨⟨t1014, t1015⟩, A90, H⟩ := Option.bind_eq_some_iff.mp H
 try dsimp only at H
 have A9 := Aside0.mk A90
 clear A90
 by_cases c10 : t1015 = true
 rotate_left
 ·replace c10 := Bool.eq_false_iff.mpr c10
  subst c10
  replace H := ifN ((show ¬ (false = true) by decide)) H
  simp only [Option.some.injEq, Prod.mk.injEq] at H
  obtain ⟨rfl, rfl, rfl, rfl, rfl, rfl⟩ := H
  go_enter Tryd.func52, Tryd.ntmps52
  try go_wp2_with (first | ((with_reducible refine gate_dst (N := 2) rfl ?_); refine box_event ?hg (N := 2) ?hd (cs := #[.slice A0_0 l0_0.length c0_0, .int .i64 a0_1, .bool a0_2, .slice A0_3 l0_3.length c0_3, .slice A0_4 l0_4.length c0_4]) (t := 27) ?hr ?_; (case hd => rfl); (case hg => rfl); (case hr => first | (go_simp; done) | (go_simp; rfl)); intro gb996 hg w59 hbox hb; have n0_ := Q0_ (below_step (upB HB) hb); have n1_ := Q0_ (hbox); have n2_ := Q0_ ((by rw [hg]; exact (below_size (upB HB)) : w.heap.size ≤ gb996)); have n3_ := Q0_ ((by rw [hg]; exact (below_size (upB HB)) : w.heap.size ≤ gb996)); clear HB; revert n0_ n1_ n2_ n3_; intro HB BK996 GW996 GE996; clear hb hbox hg) | ((with_reducible refine gate_dst (N := 4) rfl ?_); refine box_event ?hg (N := 4) ?hd (cs := #[.slice none 0 0, .int .i64 0, .bool false, .slice none 0 0, .slice none 0 0]) (t := 27) ?hr ?_; (case hd => rfl); (case hg => rfl); (case hr => first | (go_simp; done) | (go_simp; rfl)); intro gb997 hg w60 hbox hb; have n0_ := Q0_ (blk_below (upK BK996) hb); have n1_ := Q0_ (below_step upH hb); have n2_ := Q0_ (hbox); have n3_ := Q0_ ((by rw [hg]; exact (below_size upH) : w.heap.size ≤ gb997)); have n4_ := Q0_ ((by rw [hg]; exact (below_size upH) : w.heap.size ≤ gb997)); have n5_ := Q0_ ((by rw [hg]; exact Nat.ne_of_lt (blk_lt (upK BK996)) : gb996 ≠ gb997)); have n6_ := Q0_ ((by rw [hg]; exact Nat.ne_of_gt (blk_lt (upK BK996)) : gb997 ≠ gb996)); clear BK996 HB; revert n0_ n1_ n2_ n3_ n4_ n5_ n6_; intro BK996 HB BK997 GW997 GE997 NB996_997 NB997_996; clear hb hbox hg; have hnb61 := NB996_997.out; have hnc61 := NB997_996.out; have hcz62_0 : w60.cell? ⟨gb996, 0, none⟩ = some (.slice A0_0 l0_0.length c0_0) := (blk_cell BK996.out 0).trans rfl; have hcz62_1 : w60.cell? ⟨gb996, 1, none⟩ = some (.int .i64 a0_1) := (blk_cell BK996.out 1).trans rfl; have hcz62_2 : w60.cell? ⟨gb996, 2, none⟩ = some (.bool a0_2) := (blk_cell BK996.out 2).trans rfl; have hcz62_3 : w60.cell? ⟨gb996, 3, none⟩ = some (.slice A0_3 l0_3.length c0_3) := (blk_cell BK996.out 3).trans rfl; have hcz62_4 : w60.cell? ⟨gb996, 4, none⟩ = some (.slice A0_4 l0_4.length c0_4) := (blk_cell BK996.out 4).trans rfl; have hfz62_0 := blk_frozen BK996.out 0; have hfz62_1 := blk_frozen BK996.out 1; have hfz62_2 := blk_frozen BK996.out 2; have hfz62_3 := blk_frozen BK996.out 3; have hfz62_4 := blk_frozen BK996.out 4) | ((with_reducible refine gate_callee (f := 20) rfl ?_); refine goesL_ (some 12) rfl rfl Tryd.func20 (by kernel_rfl) rfl #[.agg #[.slice A0_0 l0_0.length c0_0, .int .i64 a0_1, .bool a0_2, .slice A0_3 l0_3.length c0_3, .slice A0_4 l0_4.length c0_4]] rfl hM ?_; (with_reducible refine (impl_PsalmValid.calls k _ _ l0_0 a0_1 a0_2 _ _ l0_3 _ _ l0_4 true _ ?side1 ?side2 ?side3 ?side4 ?side5 ?side6 A3.out).mono ?_); (case side1 => repeat (first | exact (Kd.C_below HR0_0.out HB.out) | refine C_q ?_)); (case side2 => exact HC0_0.out); (case side3 => repeat (first | exact (Kd.C_below HR0_3.out HB.out) | refine C_q ?_)); (case side4 => exact HC0_3.out); (case side5 => repeat (first | exact (Kd.C_below HR0_4.out HB.out) | refine C_q ?_)); (case side6 => exact HC0_4.out); rintro e w63 ⟨rfl, hb⟩; refine ⟨_, rfl, ?_⟩; have n0_ := Q0_ (blk_below (upK BK996) hb); have n1_ := Q0_ (blk_below (upK BK997) hb); have n2_ := Q0_ (below_step upH hb); clear BK996 BK997 HB; revert n0_ n1_ n2_; intro BK996 BK997 HB; (try clear hb); (try clear hb2); (try clear hk); (try clear hi)))
  have n0_ := Q0_ (blk_drew BK996.out)
  have n1_ := Q0_ (blk_drew BK997.out)
  have n2_ := Q0_ (below_drew1 HB.out)
  clear BK996 BK997 HB; revert n0_ n1_ n2_; intro BK996 BK997 HB
  refine start_ (n := 8) (S := fun w' => w'.cell? ⟨gb996, 0, none⟩ = some (.slice A0_0 l0_0.length c0_0) ∧ w'.cell? ⟨gb996, 1, none⟩ = some (.int .i64 a0_1) ∧ w'.cell? ⟨gb996, 2, none⟩ = some (.bool a0_2) ∧ w'.cell? ⟨gb996, 3, none⟩ = some (.slice A0_3 l0_3.length c0_3) ∧ w'.cell? ⟨gb996, 4, none⟩ = some (.slice A0_4 l0_4.length c0_4)) (ds := []) #[ff,ff,ff,ff,ff,ff,ff,ff] (by kernel_rfl) rfl rfl ⟨(blk_cell BK996.out 0).trans rfl, (blk_cell BK996.out 1).trans rfl, (blk_cell BK996.out 2).trans rfl, (blk_cell BK996.out 3).trans rfl, (blk_cell BK996.out 4).trans rfl⟩ (fun hHeld => ?_); refine with_tabW impl_PsalmMove.tab3 impl_PsalmMove.bits3 (fun HT_ HW_ => ?_)
  generalize w63.drew = w64 at BK996 BK997 HB hHeld ⊢
  refine pQ HT_ 0 (some 15) #[tt,ff,ff,ff,ff,ff,ff,ff] rfl rfl ?_
  refine pQ HT_ 3 (some 18) #[tt,ff,ff,tt,ff,ff,ff,ff] rfl rfl ?_
  refine tQ HT_ HW_ 1 (some 16) #[tt,tt,ff,tt,ff,ff,ff,ff] rfl rfl hHeld (by rintro w' ⟨s0, s1, s2, s3, s4⟩; go_simp; with_reducible rfl) ?_
  refine tQ HT_ HW_ 4 (some 19) #[tt,tt,ff,tt,tt,ff,ff,ff] rfl rfl hHeld (by rintro w' ⟨s0, s1, s2, s3, s4⟩; go_simp; with_reducible rfl) ?_
  refine join_ (σ := Value × Value) 2 #[tt,tt,tt,tt,tt,tt,ff,ff] (fun s_ => [(17, s_.1), (20, s_.2)]) (fun s_ w' => (w'.cell? ⟨gb996, 0, none⟩ = some (.slice A0_0 l0_0.length c0_0) ∧ w'.cell? ⟨gb996, 1, none⟩ = some (.int .i64 a0_1) ∧ w'.cell? ⟨gb996, 2, none⟩ = some (.bool a0_2) ∧ w'.cell? ⟨gb996, 3, none⟩ = some (.slice A0_3 l0_3.length c0_3) ∧ w'.cell? ⟨gb996, 4, none⟩ = some (.slice A0_4 l0_4.length c0_4)) ∧ (Kd.R k25 25 w' w.heap.size (fun k_ => nb k_ (s_.2)) s_.1 t999) ∧ (Kd.R k25 25 w' w.heap.size (fun k_ => nb k_ (s_.1)) s_.2 y1002) ∧ (w'.heap[gb996]? = some (.cells #[.slice A0_0 l0_0.length c0_0, .int .i64 a0_1, .bool a0_2, .slice A0_3 l0_3.length c0_3, .slice A0_4 l0_4.length c0_4] 27 (0, 0))) ∧ (w'.heap[gb997]? = some (.cells #[.slice none 0 0, .int .i64 0, .bool false, .slice none 0 0, .slice none 0 0] 27 (0, 0))) ∧ (Below w.heap.size w w')) ?_ ?_
  rotate_left
  ·intro hCont
   refine two_ (i := 2) (j := 5) (Ni := some 17) (Nj := some 20) #[tt,tt,tt,tt,tt,ff,ff,ff] #[tt,tt,ff,tt,tt,tt,ff,ff] rfl rfl rfl rfl (two_of HT_.out (by kernel_rfl)) (by decide) (by decide) (fun K hK => ?_) (fun K hK => ?_)
   ·skip
    refine goes_ Tryd.func80 (by kernel_rfl) rfl #[.slice A0_0 l0_0.length c0_0] (by rfl) rfl rfl hM ?_
    with_reducible refine (impl_copiedTones.calls _ _ l0_0 t999 _ ?side1 ?side2 A5.out).mono ?_
    (case side1 => repeat (first | exact (Kd.C_below HR0_0.out HB.out) | refine C_q ?_))
    (case side2 => exact HC0_0.out)
    rintro e w65 ⟨v1000, rfl, ho0, hb⟩
    refine ⟨_, rfl, ?_⟩
    have n0_ := Q0_ (Kd.R_lower ho0 (below_size upH))
    have n1_ := Q0_ (blk_below (upK BK996) hb)
    have n2_ := Q0_ (blk_below (upK BK997) hb)
    have n3_ := Q0_ (below_step upH hb)
    clear BK996 BK997 HB; revert n0_ n1_ n2_ n3_; intro HO1001 BK996 BK997 HB
    (try clear hb)
    (try clear hb2)
    (try clear hk)
    (try clear hi)
    (try clear ho0)
    refine hK.out _ _ ⟨(blk_cell BK996.out 0).trans rfl, (blk_cell BK996.out 1).trans rfl, (blk_cell BK996.out 2).trans rfl, (blk_cell BK996.out 3).trans rfl, (blk_cell BK996.out 4).trans rfl⟩ (fun hHeld => ?_)
    clear hK K
    refine norm_ (a' := ?_) ?_ ?_
    rotate_left
    ·show Act.put _ (some 17) _ = _
     simp only [Act.put, sI, s0, sS, i64_w, i32_w]
     rfl
    refine one_ (i := 5) (N := some 20) #[tt,tt,tt,tt,tt,tt,ff,ff] rfl rfl (one_of HT_.out (by kernel_rfl)) (by decide) (fun K hK => ?_)
    refine Kd.R_lit_step k25 _ 25 ?hg (N := 20) ?hd (xs := ([(⟨a0_1, a0_2⟩ : S25)] : List (S25))) (inner := [.int .i64 a0_1, .bool a0_2]) (ok := fun _ => True) (okp := fun _ => True) ?hr ?hp (fun _ hk => hk) trivial (Below.refl _ _) (Nat.le_refl _) (by simp) ?_; (case hd => rfl); (case hg => rfl); (case hr => first | (go_simp; done) | (go_simp; rfl)); (case hp => exact (Reps.c2 (show Kd.M k25 _ _ _ (⟨a0_1, a0_2⟩ : S25) [.int .i64 a0_1, .bool a0_2] from (k25_mkM _ _ _ (⟨a0_1, a0_2⟩ : S25) )) (Reps.none _ _)))
    intro v1003 w66 ho67 hb hg_ hnew_
    clear hg_ hnew_
    (first | rw [← Ny1002.out] at ho67 | (simp only [Int.reduceToNat] at ho67; rw [← Ny1002.out] at ho67))
    have n0_ := Q0_ (Kd.R_elder' (upR HO1001) (Kd.R_base ho67) hb)
    have n1_ := Q0_ (Kd.R_lower (Kd.R_new' ho67 (Kd.R_lt (upR HO1001))) (below_size upH))
    have n2_ := Q0_ (blk_below (upK BK996) hb)
    have n3_ := Q0_ (blk_below (upK BK997) hb)
    have n4_ := Q0_ (below_step upH hb)
    clear HO1001 BK996 BK997 HB; revert n0_ n1_ n2_ n3_ n4_; intro HO1001 HO1004 BK996 BK997 HB
    clear hb ho67
    refine hK.out _ _ ⟨(blk_cell BK996.out 0).trans rfl, (blk_cell BK996.out 1).trans rfl, (blk_cell BK996.out 2).trans rfl, (blk_cell BK996.out 3).trans rfl, (blk_cell BK996.out 4).trans rfl⟩ (fun hHeld => ?_)
    clear hK K
    refine norm_ (a' := ?_) ?_ ?_
    rotate_left
    ·show Act.put _ (some 20) _ = _
     simp only [Act.put, sI, s0, sS, i64_w, i32_w]
     rfl
    exact norm_ (by simp only [putAll, Act.put, sI, s0, sS]) (hCont (v1000, v1003) _ ⟨hHeld, (upR' (Kd.R_mono HO1001.out (fun _ hk => hk.2))), (upR' (Kd.R_mono HO1004.out (fun _ hk => hk.2))), (upK BK996), (upK BK997), upH⟩)
   ·skip
    refine Kd.R_lit_step k25 _ 25 ?hg (N := 20) ?hd (xs := ([(⟨a0_1, a0_2⟩ : S25)] : List (S25))) (inner := [.int .i64 a0_1, .bool a0_2]) (ok := fun _ => True) (okp := fun _ => True) ?hr ?hp (fun _ hk => hk) trivial (Below.refl _ _) (Nat.le_refl _) (by simp) ?_; (case hd => rfl); (case hg => rfl); (case hr => first | (go_simp; done) | (go_simp; rfl)); (case hp => exact (Reps.c2 (show Kd.M k25 _ _ _ (⟨a0_1, a0_2⟩ : S25) [.int .i64 a0_1, .bool a0_2] from (k25_mkM _ _ _ (⟨a0_1, a0_2⟩ : S25) )) (Reps.none _ _)))
    intro v1003 w65 ho66 hb hg_ hnew_
    clear hg_ hnew_
    (first | rw [← Ny1002.out] at ho66 | (simp only [Int.reduceToNat] at ho66; rw [← Ny1002.out] at ho66))
    have n0_ := Q0_ (Kd.R_lower ho66 (below_size upH))
    have n1_ := Q0_ (blk_below (upK BK996) hb)
    have n2_ := Q0_ (blk_below (upK BK997) hb)
    have n3_ := Q0_ (below_step upH hb)
    clear BK996 BK997 HB; revert n0_ n1_ n2_ n3_; intro HO1004 BK996 BK997 HB
    clear hb ho66
    refine hK.out _ _ ⟨(blk_cell BK996.out 0).trans rfl, (blk_cell BK996.out 1).trans rfl, (blk_cell BK996.out 2).trans rfl, (blk_cell BK996.out 3).trans rfl, (blk_cell BK996.out 4).trans rfl⟩ (fun hHeld => ?_)
    clear hK K
    refine norm_ (a' := ?_) ?_ ?_
    rotate_left
    ·show Act.put _ (some 20) _ = _
     simp only [Act.put, sI, s0, sS, i64_w, i32_w]
     rfl
    refine one_ (i := 2) (N := some 17) #[tt,tt,tt,tt,tt,tt,ff,ff] rfl rfl (one_of HT_.out (by kernel_rfl)) (by decide) (fun K hK => ?_)
    refine goes_ Tryd.func80 (by kernel_rfl) rfl #[.slice A0_0 l0_0.length c0_0] (by rfl) rfl rfl hM ?_
    with_reducible refine (impl_copiedTones.calls _ _ l0_0 t999 _ ?side1 ?side2 A5.out).mono ?_
    (case side1 => repeat (first | exact (Kd.C_below HR0_0.out HB.out) | refine C_q ?_))
    (case side2 => exact HC0_0.out)
    rintro e w67 ⟨v1000, rfl, ho0, hb⟩
    refine ⟨_, rfl, ?_⟩
    have n0_ := Q0_ (Kd.R_elder' (upR HO1004) (Kd.R_base ho0) hb)
    have n1_ := Q0_ (Kd.R_lower (Kd.R_new' ho0 (Kd.R_lt (upR HO1004))) (below_size upH))
    have n2_ := Q0_ (blk_below (upK BK996) hb)
    have n3_ := Q0_ (blk_below (upK BK997) hb)
    have n4_ := Q0_ (below_step upH hb)
    clear HO1004 BK996 BK997 HB; revert n0_ n1_ n2_ n3_ n4_; intro HO1004 HO1001 BK996 BK997 HB
    (try clear hb)
    (try clear hb2)
    (try clear hk)
    (try clear hi)
    (try clear ho0)
    refine hK.out _ _ ⟨(blk_cell BK996.out 0).trans rfl, (blk_cell BK996.out 1).trans rfl, (blk_cell BK996.out 2).trans rfl, (blk_cell BK996.out 3).trans rfl, (blk_cell BK996.out 4).trans rfl⟩ (fun hHeld => ?_)
    clear hK K
    refine norm_ (a' := ?_) ?_ ?_
    rotate_left
    ·show Act.put _ (some 17) _ = _
     simp only [Act.put, sI, s0, sS, i64_w, i32_w]
     rfl
    exact norm_ (by simp only [putAll, Act.put, sI, s0, sS]) (hCont (v1000, v1003) _ ⟨hHeld, (upR' (Kd.R_mono HO1001.out (fun _ hk => hk.2))), (upR' (Kd.R_mono HO1004.out (fun _ hk => hk.2))), (upK BK996), (upK BK997), upH⟩)
  rintro ⟨v1000, v1003⟩ w68 ⟨hS_, h0_, h1_, h2_, h3_, h4_⟩
  try dsimp only at h0_ h1_ h2_ h3_ h4_
  have n0_ := Q0_ h0_
  have n1_ := Q0_ h1_
  have n2_ := Q0_ h2_
  have n3_ := Q0_ h3_
  have n4_ := Q0_ h4_
  clear BK996
  clear BK997
  clear HB
  clear h0_ h1_ h2_ h3_ h4_
  have HO1001 := n0_
  have HO1004 := n1_
  have BK996 := n2_
  have BK997 := n3_
  have HB := n4_
  clear n0_ n1_ n2_ n3_ n4_
  have hHeld : w68.cell? ⟨gb996, 0, none⟩ = some (.slice A0_0 l0_0.length c0_0) ∧ w68.cell? ⟨gb996, 1, none⟩ = some (.int .i64 a0_1) ∧ w68.cell? ⟨gb996, 2, none⟩ = some (.bool a0_2) ∧ w68.cell? ⟨gb996, 3, none⟩ = some (.slice A0_3 l0_3.length c0_3) ∧ w68.cell? ⟨gb996, 4, none⟩ = some (.slice A0_4 l0_4.length c0_4) := hS_
  obtain ⟨Ao70, co70, eo70⟩ := Kd.R_slice HO1004.out
  (first | subst eo70 | (injection eo70 with f1_ f2_ f3_; have f4_ := f1_.symm; have f5_ := f3_.symm; clear f1_ f2_ f3_; subst f4_; subst f5_))
  refine norm_ (a' := ?_) ?_ ?_
  rotate_left
  ·simp only [putAll, Act.put, sI, s0, sS]
   rfl
  refine one_ (i := 6) (N := some 21) #[tt,tt,tt,tt,tt,tt,tt,ff] rfl rfl (one_of HT_.out (by kernel_rfl)) (by decide) (fun K hK => ?_)
  refine Kd.R_append_rows_step k25 (w0 := w) w.heap.size (by rfl) (.tmp 17) (.tmp 20) 23 25 (.agg #[(.int .i64 0), (.bool false)]) 16 rfl Tryd.underlying23 info25 rfl (by decide) (by omega) v1000 t999 y1002 _ _ _ (fun k_ => nb k_ (.slice Ao70 y1002.length co70)) (fun _ => False) rfl rfl ?aO ?aR (fun _ _ h => h) (fun _ h => h.elim) ?aF ?aB ?aS ?aL ?_
  (case aR => repeat (first | exact (Kd.R_reads' HO1004.out).2.2 | refine C_q ?_))
  (case aB => exact upH)
  (case aF => exact (fun k_ hk => Kd.fresh' (Kd.R_lt (upR HO1004)) k_ hk))
  (case aO => exact (upR HO1001))
  (case aS => exact (below_size upH))
  (case aL => have := LMc6.out; omega)
  intro v1006 w69 ho hb hg hat
  rw [← Ny1005.out] at ho
  have n0_ := Q0_ (blk_grown (g := gb996) (o := .cells #[.slice A0_0 l0_0.length c0_0, .int .i64 a0_1, .bool a0_2, .slice A0_3 l0_3.length c0_3, .slice A0_4 l0_4.length c0_4] 27 (0, 0)) (upK BK996) hg (Kd.R_ne HO1001.out BK996.out (by decide)))
  have n1_ := Q0_ (blk_grown (g := gb997) (o := .cells #[.slice none 0 0, .int .i64 0, .bool false, .slice none 0 0, .slice none 0 0] 27 (0, 0)) (upK BK997) hg (Kd.R_ne HO1001.out BK997.out (by decide)))
  have n2_ := Q0_ (Kd.R_after (ok := (fun _ => True)) (upR' (Kd.R_mono HO1004.out (fun _ hk => ⟨trivial, hk⟩))) hg hat)
  have n3_ := Q0_ (hb)
  have n4_ := Q0_ (ho)
  clear BK996 BK997 HO1004 HB HO1001; revert n0_ n1_ n2_ n3_ n4_; intro BK996 BK997 HO1004 HB HO1007
  clear ho hb hg hat
  refine hK.out _ _ ⟨(blk_cell BK996.out 0).trans rfl, (blk_cell BK996.out 1).trans rfl, (blk_cell BK996.out 2).trans rfl, (blk_cell BK996.out 3).trans rfl, (blk_cell BK996.out 4).trans rfl⟩ (fun hHeld => ?_)
  clear hK K
  refine norm_ (a' := ?_) ?_ ?_
  rotate_left
  ·show Act.put _ (some 21) _ = _
   simp only [Act.put, sI, s0, sS, i64_w, i32_w]
   rfl
  refine pQ HT_ 7 (some 6) #[tt,tt,tt,tt,tt,tt,tt,tt] rfl rfl ?_
  refine done_ (done_of HT_.out (by kernel_rfl)) ?_
  have hcz71_0 : w69.cell? ⟨gb996, 0, none⟩ = some (.slice A0_0 l0_0.length c0_0) := (blk_cell BK996.out 0).trans rfl
  have hcz71_1 : w69.cell? ⟨gb996, 1, none⟩ = some (.int .i64 a0_1) := (blk_cell BK996.out 1).trans rfl
  have hcz71_2 : w69.cell? ⟨gb996, 2, none⟩ = some (.bool a0_2) := (blk_cell BK996.out 2).trans rfl
  have hcz71_3 : w69.cell? ⟨gb996, 3, none⟩ = some (.slice A0_3 l0_3.length c0_3) := (blk_cell BK996.out 3).trans rfl
  have hcz71_4 : w69.cell? ⟨gb996, 4, none⟩ = some (.slice A0_4 l0_4.length c0_4) := (blk_cell BK996.out 4).trans rfl
  have hfz71_0 := blk_frozen BK996.out 0
  have hfz71_1 := blk_frozen BK996.out 1
  have hfz71_2 := blk_frozen BK996.out 2
  have hfz71_3 := blk_frozen BK996.out 3
  have hfz71_4 := blk_frozen BK996.out 4
  try go_wp2_with (first | ((with_reducible refine gate_builtin (b := .append) (xs := #[.tmp 22, .tmp 24]) rfl ?_); at_builtin; refine Kd.R_append_rows k25 (w0 := w) w.heap.size rfl (.tmp 22) (.tmp 24) 23 25 (.agg #[(.int .i64 0), (.bool false)]) 16 rfl Tryd.underlying23 info25 rfl (by decide) (by omega) v1006 y1005 l0_3 _ _ _ (fun k_ => nb k_ (.slice Ao70 y1002.length co70)) (fun _ => False) rfl rfl ?aO ?aR (fun _ _ h => h) (fun _ h => h.elim) ?aF ?aB ?aS ?aL ?_; (case aR => repeat (first | exact (Kd.C_below HR0_3.out HB.out) | refine C_q ?_)); (case aB => exact upH); (case aF => exact (fun k_ hk => Kd.fresh' (Kd.R_lt (upR HO1004)) k_ hk)); (case aO => exact (upR HO1007)); (case aS => exact (below_size upH)); (case aL => have := LMc7.out; omega); intro v1009 w72 ho hb hg hat; rw [← Ny1008.out] at ho; have n0_ := Q0_ (blk_grown (g := gb996) (o := .cells #[.slice A0_0 l0_0.length c0_0, .int .i64 a0_1, .bool a0_2, .slice A0_3 l0_3.length c0_3, .slice A0_4 l0_4.length c0_4] 27 (0, 0)) (upK BK996) hg (Kd.R_ne HO1007.out BK996.out (by decide))); have n1_ := Q0_ (blk_grown (g := gb997) (o := .cells #[.slice none 0 0, .int .i64 0, .bool false, .slice none 0 0, .slice none 0 0] 27 (0, 0)) (upK BK997) hg (Kd.R_ne HO1007.out BK997.out (by decide))); have n2_ := Q0_ (Kd.R_after (ok := (fun _ => True)) (upR HO1004) hg hat); have n3_ := Q0_ (hb); have n4_ := Q0_ (ho); clear BK996 BK997 HO1004 HB HO1007; revert n0_ n1_ n2_ n3_ n4_; intro BK996 BK997 HO1004 HB HO1010; clear ho hb hg hat; have hcz73_0 : w72.cell? ⟨gb996, 0, none⟩ = some (.slice A0_0 l0_0.length c0_0) := (blk_cell BK996.out 0).trans rfl; have hcz73_1 : w72.cell? ⟨gb996, 1, none⟩ = some (.int .i64 a0_1) := (blk_cell BK996.out 1).trans rfl; have hcz73_2 : w72.cell? ⟨gb996, 2, none⟩ = some (.bool a0_2) := (blk_cell BK996.out 2).trans rfl; have hcz73_3 : w72.cell? ⟨gb996, 3, none⟩ = some (.slice A0_3 l0_3.length c0_3) := (blk_cell BK996.out 3).trans rfl; have hcz73_4 : w72.cell? ⟨gb996, 4, none⟩ = some (.slice A0_4 l0_4.length c0_4) := (blk_cell BK996.out 4).trans rfl; have hfz73_0 := blk_frozen BK996.out 0; have hfz73_1 := blk_frozen BK996.out 1; have hfz73_2 := blk_frozen BK996.out 2; have hfz73_3 := blk_frozen BK996.out 3; have hfz73_4 := blk_frozen BK996.out 4) | ((with_reducible refine gate_builtin (b := .append) (xs := #[.tmp 26, .tmp 28]) rfl ?_); at_builtin; refine Kd.R_append_rows k25 (w0 := w) w.heap.size rfl (.tmp 26) (.tmp 28) 23 25 (.agg #[(.int .i64 0), (.bool false)]) 16 rfl Tryd.underlying23 info25 rfl (by decide) (by omega) v1009 y1008 l0_4 _ _ _ (fun k_ => nb k_ (.slice Ao70 y1002.length co70)) (fun _ => False) rfl rfl ?aO ?aR (fun _ _ h => h) (fun _ h => h.elim) ?aF ?aB ?aS ?aL ?_; (case aR => repeat (first | exact (Kd.C_below HR0_4.out HB.out) | refine C_q ?_)); (case aB => exact upH); (case aF => exact (fun k_ hk => Kd.fresh' (Kd.R_lt (upR HO1004)) k_ hk)); (case aO => exact (upR HO1010)); (case aS => exact (below_size upH)); (case aL => have := LMc8.out; omega); intro v1012 w74 ho hb hg hat; rw [← Ny1011.out] at ho; have n0_ := Q0_ (blk_grown (g := gb996) (o := .cells #[.slice A0_0 l0_0.length c0_0, .int .i64 a0_1, .bool a0_2, .slice A0_3 l0_3.length c0_3, .slice A0_4 l0_4.length c0_4] 27 (0, 0)) (upK BK996) hg (Kd.R_ne HO1010.out BK996.out (by decide))); have n1_ := Q0_ (blk_grown (g := gb997) (o := .cells #[.slice none 0 0, .int .i64 0, .bool false, .slice none 0 0, .slice none 0 0] 27 (0, 0)) (upK BK997) hg (Kd.R_ne HO1010.out BK997.out (by decide))); have n2_ := Q0_ (Kd.R_after (ok := (fun _ => True)) (upR HO1004) hg hat); have n3_ := Q0_ (hb); have n4_ := Q0_ (ho); clear BK996 BK997 HO1004 HB HO1010; revert n0_ n1_ n2_ n3_ n4_; intro BK996 BK997 HO1004 HB HO1013; clear ho hb hg hat; obtain ⟨Ao75, co75, eo75⟩ := Kd.R_slice HO1013.out; subst eo75) | ((with_reducible refine gate_callee (f := 81) rfl ?_); refine goesL_ (some 33) rfl rfl Tryd.func81 (by kernel_rfl) rfl #[.slice Ao75 y1011.length co75, .int .i64 a1] rfl hM ?_; (with_reducible refine (impl_MelodyMove.calls k _ _ y1011 a1 t1014 false _ ?side1 ?side2 ?side3 A9.out).mono ?_); (case side1 => repeat (first | exact (Kd.R_reads' HO1013.out).2.2 | refine C_q ?_)); (case side2 => exact (Kd.R_reads' HO1013.out).2.1); (case side3 => exact GOk.sub (GOk.below HG.out upH) (by decide)); rintro e w76 ⟨v1016, rfl, ho0, hb⟩; refine ⟨_, rfl, ?_⟩; have n0_ := Q0_ (Kd.R_elder' (upR HO1004) (Kd.R_base ho0) hb); have n1_ := Q0_ (Kd.R_elder' (upR HO1013) (Kd.R_base ho0) hb); have n2_ := Q0_ (Kd.R_lower (Kd.R_new' (Kd.R_new' ho0 (Kd.R_lt (upR HO1004))) (Kd.R_lt (upR HO1013))) (below_size upH)); have n3_ := Q0_ (blk_below (upK BK996) hb); have n4_ := Q0_ (blk_below (upK BK997) hb); have n5_ := Q0_ (below_step upH hb); clear HO1004 HO1013 BK996 BK997 HB; revert n0_ n1_ n2_ n3_ n4_ n5_; intro HO1004 HO1013 HO1017 BK996 BK997 HB; (try clear hb); (try clear hb2); (try clear hk); (try clear hi); (try clear ho0); have hcz77_0 : w76.cell? ⟨gb997, 0, none⟩ = some (.slice none 0 0) := (blk_cell BK997.out 0).trans rfl; have hcz77_1 : w76.cell? ⟨gb997, 1, none⟩ = some (.int .i64 0) := (blk_cell BK997.out 1).trans rfl; have hcz77_2 : w76.cell? ⟨gb997, 2, none⟩ = some (.bool false) := (blk_cell BK997.out 2).trans rfl; have hcz77_3 : w76.cell? ⟨gb997, 3, none⟩ = some (.slice none 0 0) := (blk_cell BK997.out 3).trans rfl; have hcz77_4 : w76.cell? ⟨gb997, 4, none⟩ = some (.slice none 0 0) := (blk_cell BK997.out 4).trans rfl; have hfz77_0 := blk_frozen BK997.out 0; have hfz77_1 := blk_frozen BK997.out 1; have hfz77_2 := blk_frozen BK997.out 2; have hfz77_3 := blk_frozen BK997.out 3; have hfz77_4 := blk_frozen BK997.out 4))
  refine bodyPost_ret (results_ct rfl _ _ gb997 27 #[.slice none 0 0, .int .i64 0, .bool false, .slice none 0 0, .slice none 0 0] (0, 0) _ rfl (by (repeat refine blk_q ?_); refine blk_put (cs := #[.slice none 0 0, .int .i64 0, .bool false, .slice none 0 0, .slice none 0 0]) ?_ 4 _ rfl; (repeat refine blk_q ?_); refine blk_put (cs := #[.slice none 0 0, .int .i64 0, .bool false, .slice none 0 0, .slice none 0 0]) ?_ 3 _ rfl; (repeat refine blk_q ?_); refine blk_put (cs := #[.slice none 0 0, .int .i64 0, .bool false, .slice none 0 0, .slice none 0 0]) ?_ 2 _ rfl; (repeat refine blk_q ?_); refine blk_put (cs := #[.slice none 0 0, .int .i64 0, .bool false, .slice none 0 0, .slice none 0 0]) ?_ 1 _ rfl; (repeat refine blk_q ?_); refine blk_put (cs := #[.slice none 0 0, .int .i64 0, .bool false, .slice none 0 0, .slice none 0 0]) ?_ 0 _ rfl; (repeat refine blk_q ?_); exact BK997.out) Tryd.underlying27 rfl (by kernel_rfl)) rfl ?_
  exact ⟨_, _, _, by first | rfl | (simp [errW_none, errW_some] <;> rfl) | (simp [*, errW_none, errW_some] <;> rfl), by first | exact Kd.R_nil _ _ _ _ _ | exact Kd.N_nil _ _ _ _ _ | exact Kd.V_nil _ _ _ _ _ | exact Kd.Q_nil _ _ _ _ _ | exact Kd.S_nil _ _ _ _ _, by first | exact Kd.R_nil _ _ _ _ _ | exact Kd.N_nil _ _ _ _ _ | exact Kd.V_nil _ _ _ _ _ | exact Kd.Q_nil _ _ _ _ _ | exact Kd.S_nil _ _ _ _ _, by first | exact Kd.R_nil _ _ _ _ _ | exact Kd.N_nil _ _ _ _ _ | exact Kd.V_nil _ _ _ _ _ | exact Kd.Q_nil _ _ _ _ _ | exact Kd.S_nil _ _ _ _ _, by repeat (first | (with_reducible first | exact HB.out | apply below_alloc | apply pw_below_drewN | apply below_drew1 | refine below_set ?_ GE996.out | refine below_set ?_ GE997.out) | exact HB.out)⟩
 subst c10
 replace H := ifP (rfl) H
 by_cases c11 : 0 ≤ (l0_0.length : Int)
 rotate_left
 ·rw [if_neg c11] at H
  exact absurd H (by simp)
 rw [if_pos c11] at H
 have c11b0 := eq_true c11
 have c11b1 : decide (0 ≤ (l0_0.length : Int)) = true := decide_eq_true c11
 clear c11
 by_cases c12 : (l0_0.length : Int) ≤ (t1014.length : Int)
 rotate_left
 ·rw [if_neg c12] at H
  exact absurd H (by simp)
 rw [if_pos c12] at H
 have c12b0 := eq_true c12
 have c12b1 : decide ((l0_0.length : Int) ≤ (t1014.length : Int)) = true := decide_eq_true c12
 clear c12
 obtain ⟨y1018, hy1018⟩ : ∃ y_ : List (S25), y_ = (t1014.take ((l0_0.length : Int) : Int).toNat) := ⟨_, rfl⟩
 replace H : ((impl_copiedTones.f y1018).bind fun t1022 => (if (l0_0.length : Int) < (t1014.length : Int) then (if 0 ≤ (wrap64 ((l0_0.length : Int) + 1)) then (if (wrap64 ((l0_0.length : Int) + 1)) ≤ (wrap64 ((wrap64 ((l0_0.length : Int) + 1)) + (l0_3.length : Int))) then (if (wrap64 ((wrap64 ((l0_0.length : Int) + 1)) + (l0_3.length : Int))) ≤ (t1014.length : Int) then ((impl_copiedTones.f ((t1014.take ((wrap64 ((wrap64 ((l0_0.length : Int) + 1)) + (l0_3.length : Int))) : Int).toNat).drop ((wrap64 ((l0_0.length : Int) + 1)) : Int).toNat)).bind fun t1030 => (if 0 ≤ (wrap64 ((wrap64 ((l0_0.length : Int) + 1)) + (l0_3.length : Int))) then ((impl_copiedTones.f (t1014.drop ((wrap64 ((wrap64 ((l0_0.length : Int) + 1)) + (l0_3.length : Int))) : Int).toNat)).bind fun t1037 => (some (t1022, (rd_T25 t1014 (l0_0.length : Int)).f0, (rd_T25 t1014 (l0_0.length : Int)).f1, t1030, t1037, true))) else (none))) else (none)) else (none)) else (none)) else (none))) = some (r1, r2, r3, r4, r5, r6) := by first | (rw [hy1018]; with_reducible exact H) | (have H2_ := (Option.bind_some _ _).symm.trans H; rw [hy1018]; with_reducible exact H2_) | (have H2_ := (Option.bind_some _ _).symm.trans H; with_reducible exact H2_) | with_reducible exact H | (rw [hy1018]; exact H) | exact H
 have Ny1018 := Aside0.mk hy1018
 clear hy1018
 obtain ⟨t1022, A130, H⟩ := Option.bind_eq_some_iff.mp H
 try dsimp only at H
 have A13 := Aside0.mk A130
 clear A130
 by_cases c14 : (l0_0.length : Int) < (t1014.length : Int)
 rotate_left
 ·rw [if_neg c14] at H
  exact absurd H (by simp)
 rw [if_pos c14] at H
 have c14b0 : decide ((l0_0.length : Int) < (t1014.length : Int)) = true := decide_eq_true c14
 have c14b1 : decide (l0_0.length < t1014.length) = true := decide_eq_true (Int.ofNat_lt.mp c14)
 clear c14
 obtain ⟨ji15, hji15⟩ : ∃ j_ : Int, (wrap64 ((l0_0.length : Int) + 1)) = j_ := ⟨_, rfl⟩
 replace H : (if 0 ≤ (ji15) then (if (ji15) ≤ (wrap64 ((ji15) + (l0_3.length : Int))) then (if (wrap64 ((ji15) + (l0_3.length : Int))) ≤ (t1014.length : Int) then ((impl_copiedTones.f ((t1014.take ((wrap64 ((ji15) + (l0_3.length : Int))) : Int).toNat).drop ((ji15) : Int).toNat)).bind fun t1030 => (if 0 ≤ (wrap64 ((ji15) + (l0_3.length : Int))) then ((impl_copiedTones.f (t1014.drop ((wrap64 ((ji15) + (l0_3.length : Int))) : Int).toNat)).bind fun t1037 => (some (t1022, (rd_T25 t1014 (l0_0.length : Int)).f0, (rd_T25 t1014 (l0_0.length : Int)).f1, t1030, t1037, true))) else (none))) else (none)) else (none)) else (none)) = some (r1, r2, r3, r4, r5, r6) := by first | (rw [hji15] at H; exact H) | (simp only [hji15] at H ⊢; exact H)
 (try rw [hji15] at A3)
 (try rw [hji15] at A5)
 (try rw [hji15] at A9)
 (try rw [hji15] at A13)
 have hji15w : (IntKind.i64.wrap ((l0_0.length : Int) + 1)) = ji15 := (i64_w _).trans hji15
 by_cases c16 : 0 ≤ (ji15)
 rotate_left
 ·rw [if_neg c16] at H
  exact absurd H (by simp)
 rw [if_pos c16] at H
 have c16b0 := eq_true c16
 have c16b1 : decide (0 ≤ (ji15)) = true := decide_eq_true c16
 clear c16
 by_cases c17 : (ji15) ≤ (wrap64 ((ji15) + (l0_3.length : Int)))
 rotate_left
 ·rw [if_neg c17] at H
  exact absurd H (by simp)
 rw [if_pos c17] at H
 have c17b0 := eq_true c17
 have c17b1 : decide ((ji15) ≤ (wrap64 ((ji15) + (l0_3.length : Int)))) = true := decide_eq_true c17
 by_cases c18 : (wrap64 ((ji15) + (l0_3.length : Int))) ≤ (t1014.length : Int)
 rotate_left
 ·rw [if_neg c18] at H
  exact absurd H (by simp)
 rw [if_pos c18] at H
 have c18b0 := eq_true c18
 have c18b1 : decide ((wrap64 ((ji15) + (l0_3.length : Int))) ≤ (t1014.length : Int)) = true := decide_eq_true c18
 obtain ⟨y1026, hy1026⟩ : ∃ y_ : List (S25), y_ = ((t1014.take ((wrap64 ((ji15) + (l0_3.length : Int))) : Int).toNat).drop ((ji15) : Int).toNat) := ⟨_, rfl⟩
 replace H : ((impl_copiedTones.f y1026).bind fun t1030 => (if 0 ≤ (wrap64 ((ji15) + (l0_3.length : Int))) then ((impl_copiedTones.f (t1014.drop ((wrap64 ((ji15) + (l0_3.length : Int))) : Int).toNat)).bind fun t1037 => (some (t1022, (rd_T25 t1014 (l0_0.length : Int)).f0, (rd_T25 t1014 (l0_0.length : Int)).f1, t1030, t1037, true))) else (none))) = some (r1, r2, r3, r4, r5, r6) := by first | (rw [hy1026]; with_reducible exact H) | (have H2_ := (Option.bind_some _ _).symm.trans H; rw [hy1026]; with_reducible exact H2_) | (have H2_ := (Option.bind_some _ _).symm.trans H; with_reducible exact H2_) | with_reducible exact H | (rw [hy1026]; exact H) | exact H
 have Ny1026 := Aside0.mk hy1026
 clear hy1026
 obtain ⟨t1030, A190, H⟩ := Option.bind_eq_some_iff.mp H
 try dsimp only at H
 have A19 := Aside0.mk A190
 clear A190
 obtain ⟨ji20, hji20⟩ : ∃ j_ : Int, (wrap64 ((ji15) + (l0_3.length : Int))) = j_ := ⟨_, rfl⟩
 replace H : (if 0 ≤ (ji20) then ((impl_copiedTones.f (t1014.drop ((ji20) : Int).toNat)).bind fun t1037 => (some (t1022, (rd_T25 t1014 (l0_0.length : Int)).f0, (rd_T25 t1014 (l0_0.length : Int)).f1, t1030, t1037, true))) else (none)) = some (r1, r2, r3, r4, r5, r6) := by first | (rw [hji20] at H; exact H) | (simp only [hji20] at H ⊢; exact H)
 (try rw [hji20] at c17b0)
 (try rw [hji20] at c17b1)
 (try rw [hji20] at c17)
 (try rw [hji20] at c18b0)
 (try rw [hji20] at c18b1)
 (try rw [hji20] at c18)
 (try rw [hji20] at A3)
 (try rw [hji20] at A5)
 (try rw [hji20] at A9)
 (try rw [hji20] at A13)
 (try rw [hji20] at Ny1026)
 (try rw [hji20] at A19)
 have hji20w : (IntKind.i64.wrap ((ji15) + (l0_3.length : Int))) = ji20 := (i64_w _).trans hji20
 by_cases c21 : 0 ≤ (ji20)
 rotate_left
 ·rw [if_neg c21] at H
  exact absurd H (by simp)
 rw [if_pos c21] at H
 have c21b0 := eq_true c21
 have c21b1 : decide (0 ≤ (ji20)) = true := decide_eq_true c21
 clear c21
 have c22b0 := eq_true (of_decide_eq_true aS : (ji20) ≤ (t1014.length : Int))
 obtain ⟨y1033, hy1033⟩ : ∃ y_ : List (S25), y_ = (t1014.drop ((ji20) : Int).toNat) := ⟨_, rfl⟩
 replace H : ((impl_copiedTones.f y1033).bind fun t1037 => (some (t1022, (rd_T25 t1014 (l0_0.length : Int)).f0, (rd_T25 t1014 (l0_0.length : Int)).f1, t1030, t1037, true))) = some (r1, r2, r3, r4, r5, r6) := by first | (rw [hy1033]; with_reducible exact H) | (have H2_ := (Option.bind_some _ _).symm.trans H; rw [hy1033]; with_reducible exact H2_) | (have H2_ := (Option.bind_some _ _).symm.trans H; with_reducible exact H2_) | with_reducible exact H | (rw [hy1033]; exact H) | exact H
 have Ny1033 := Aside0.mk hy1033
 clear hy1033
 obtain ⟨t1037, A230, H⟩ := Option.bind_eq_some_iff.mp H
 try dsimp only at H
 have A23 := Aside0.mk A230
 clear A230
 simp only [Option.some.injEq, Prod.mk.injEq] at H
 obtain ⟨rfl, rfl, rfl, rfl, rfl, rfl⟩ := H
 go_enter Tryd.func52, Tryd.ntmps52
 try go_wp2_with (first | ((with_reducible refine gate_dst (N := 2) rfl ?_); refine box_event ?hg (N := 2) ?hd (cs := #[.slice A0_0 l0_0.length c0_0, .int .i64 a0_1, .bool a0_2, .slice A0_3 l0_3.length c0_3, .slice A0_4 l0_4.length c0_4]) (t := 27) ?hr ?_; (case hd => rfl); (case hg => rfl); (case hr => first | (go_simp; done) | (go_simp; rfl)); intro gb996 hg w24 hbox hb; have n0_ := Q0_ (below_step (upB HB) hb); have n1_ := Q0_ (hbox); have n2_ := Q0_ ((by rw [hg]; exact (below_size (upB HB)) : w.heap.size ≤ gb996)); have n3_ := Q0_ ((by rw [hg]; exact (below_size (upB HB)) : w.heap.size ≤ gb996)); clear HB; revert n0_ n1_ n2_ n3_; intro HB BK996 GW996 GE996; clear hb hbox hg) | ((with_reducible refine gate_dst (N := 4) rfl ?_); refine box_event ?hg (N := 4) ?hd (cs := #[.slice none 0 0, .int .i64 0, .bool false, .slice none 0 0, .slice none 0 0]) (t := 27) ?hr ?_; (case hd => rfl); (case hg => rfl); (case hr => first | (go_simp; done) | (go_simp; rfl)); intro gb997 hg w25 hbox hb; have n0_ := Q0_ (blk_below (upK BK996) hb); have n1_ := Q0_ (below_step upH hb); have n2_ := Q0_ (hbox); have n3_ := Q0_ ((by rw [hg]; exact (below_size upH) : w.heap.size ≤ gb997)); have n4_ := Q0_ ((by rw [hg]; exact (below_size upH) : w.heap.size ≤ gb997)); have n5_ := Q0_ ((by rw [hg]; exact Nat.ne_of_lt (blk_lt (upK BK996)) : gb996 ≠ gb997)); have n6_ := Q0_ ((by rw [hg]; exact Nat.ne_of_gt (blk_lt (upK BK996)) : gb997 ≠ gb996)); clear BK996 HB; revert n0_ n1_ n2_ n3_ n4_ n5_ n6_; intro BK996 HB BK997 GW997 GE997 NB996_997 NB997_996; clear hb hbox hg; have hnb26 := NB996_997.out; have hnc26 := NB997_996.out; have hcz27_0 : w25.cell? ⟨gb996, 0, none⟩ = some (.slice A0_0 l0_0.length c0_0) := (blk_cell BK996.out 0).trans rfl; have hcz27_1 : w25.cell? ⟨gb996, 1, none⟩ = some (.int .i64 a0_1) := (blk_cell BK996.out 1).trans rfl; have hcz27_2 : w25.cell? ⟨gb996, 2, none⟩ = some (.bool a0_2) := (blk_cell BK996.out 2).trans rfl; have hcz27_3 : w25.cell? ⟨gb996, 3, none⟩ = some (.slice A0_3 l0_3.length c0_3) := (blk_cell BK996.out 3).trans rfl; have hcz27_4 : w25.cell? ⟨gb996, 4, none⟩ = some (.slice A0_4 l0_4.length c0_4) := (blk_cell BK996.out 4).trans rfl; have hfz27_0 := blk_frozen BK996.out 0; have hfz27_1 := blk_frozen BK996.out 1; have hfz27_2 := blk_frozen BK996.out 2; have hfz27_3 := blk_frozen BK996.out 3; have hfz27_4 := blk_frozen BK996.out 4) | ((with_reducible refine gate_callee (f := 20) rfl ?_); refine goesL_ (some 12) rfl rfl Tryd.func20 (by kernel_rfl) rfl #[.agg #[.slice A0_0 l0_0.length c0_0, .int .i64 a0_1, .bool a0_2, .slice A0_3 l0_3.length c0_3, .slice A0_4 l0_4.length c0_4]] rfl hM ?_; (with_reducible refine (impl_PsalmValid.calls k _ _ l0_0 a0_1 a0_2 _ _ l0_3 _ _ l0_4 true _ ?side1 ?side2 ?side3 ?side4 ?side5 ?side6 A3.out).mono ?_); (case side1 => repeat (first | exact (Kd.C_below HR0_0.out HB.out) | refine C_q ?_)); (case side2 => exact HC0_0.out); (case side3 => repeat (first | exact (Kd.C_below HR0_3.out HB.out) | refine C_q ?_)); (case side4 => exact HC0_3.out); (case side5 => repeat (first | exact (Kd.C_below HR0_4.out HB.out) | refine C_q ?_)); (case side6 => exact HC0_4.out); rintro e w28 ⟨rfl, hb⟩; refine ⟨_, rfl, ?_⟩; have n0_ := Q0_ (blk_below (upK BK996) hb); have n1_ := Q0_ (blk_below (upK BK997) hb); have n2_ := Q0_ (below_step upH hb); clear BK996 BK997 HB; revert n0_ n1_ n2_; intro BK996 BK997 HB; (try clear hb); (try clear hb2); (try clear hk); (try clear hi)))
 have n0_ := Q0_ (blk_drew BK996.out)
 have n1_ := Q0_ (blk_drew BK997.out)
 have n2_ := Q0_ (below_drew1 HB.out)
 clear BK996 BK997 HB; revert n0_ n1_ n2_; intro BK996 BK997 HB
 refine start_ (n := 8) (S := fun w' => w'.cell? ⟨gb996, 0, none⟩ = some (.slice A0_0 l0_0.length c0_0) ∧ w'.cell? ⟨gb996, 1, none⟩ = some (.int .i64 a0_1) ∧ w'.cell? ⟨gb996, 2, none⟩ = some (.bool a0_2) ∧ w'.cell? ⟨gb996, 3, none⟩ = some (.slice A0_3 l0_3.length c0_3) ∧ w'.cell? ⟨gb996, 4, none⟩ = some (.slice A0_4 l0_4.length c0_4)) (ds := []) #[ff,ff,ff,ff,ff,ff,ff,ff] (by kernel_rfl) rfl rfl ⟨(blk_cell BK996.out 0).trans rfl, (blk_cell BK996.out 1).trans rfl, (blk_cell BK996.out 2).trans rfl, (blk_cell BK996.out 3).trans rfl, (blk_cell BK996.out 4).trans rfl⟩ (fun hHeld => ?_); refine with_tabW impl_PsalmMove.tab3 impl_PsalmMove.bits3 (fun HT_ HW_ => ?_)
 generalize w28.drew = w29 at BK996 BK997 HB hHeld ⊢
 refine pQ HT_ 0 (some 15) #[tt,ff,ff,ff,ff,ff,ff,ff] rfl rfl ?_
 refine pQ HT_ 3 (some 18) #[tt,ff,ff,tt,ff,ff,ff,ff] rfl rfl ?_
 refine tQ HT_ HW_ 1 (some 16) #[tt,tt,ff,tt,ff,ff,ff,ff] rfl rfl hHeld (by rintro w' ⟨s0, s1, s2, s3, s4⟩; go_simp; with_reducible rfl) ?_
 refine tQ HT_ HW_ 4 (some 19) #[tt,tt,ff,tt,tt,ff,ff,ff] rfl rfl hHeld (by rintro w' ⟨s0, s1, s2, s3, s4⟩; go_simp; with_reducible rfl) ?_
 refine join_ (σ := Value × Value) 2 #[tt,tt,tt,tt,tt,tt,ff,ff] (fun s_ => [(17, s_.1), (20, s_.2)]) (fun s_ w' => (w'.cell? ⟨gb996, 0, none⟩ = some (.slice A0_0 l0_0.length c0_0) ∧ w'.cell? ⟨gb996, 1, none⟩ = some (.int .i64 a0_1) ∧ w'.cell? ⟨gb996, 2, none⟩ = some (.bool a0_2) ∧ w'.cell? ⟨gb996, 3, none⟩ = some (.slice A0_3 l0_3.length c0_3) ∧ w'.cell? ⟨gb996, 4, none⟩ = some (.slice A0_4 l0_4.length c0_4)) ∧ (Kd.R k25 25 w' w.heap.size (fun k_ => nb k_ (s_.2)) s_.1 t999) ∧ (Kd.R k25 25 w' w.heap.size (fun k_ => nb k_ (s_.1)) s_.2 y1002) ∧ (w'.heap[gb996]? = some (.cells #[.slice A0_0 l0_0.length c0_0, .int .i64 a0_1, .bool a0_2, .slice A0_3 l0_3.length c0_3, .slice A0_4 l0_4.length c0_4] 27 (0, 0))) ∧ (w'.heap[gb997]? = some (.cells #[.slice none 0 0, .int .i64 0, .bool false, .slice none 0 0, .slice none 0 0] 27 (0, 0))) ∧ (Below w.heap.size w w')) ?_ ?_
 rotate_left
 ·intro hCont
  refine two_ (i := 2) (j := 5) (Ni := some 17) (Nj := some 20) #[tt,tt,tt,tt,tt,ff,ff,ff] #[tt,tt,ff,tt,tt,tt,ff,ff] rfl rfl rfl rfl (two_of HT_.out (by kernel_rfl)) (by decide) (by decide) (fun K hK => ?_) (fun K hK => ?_)
  ·skip
   refine goes_ Tryd.func80 (by kernel_rfl) rfl #[.slice A0_0 l0_0.length c0_0] (by rfl) rfl rfl hM ?_
   with_reducible refine (impl_copiedTones.calls _ _ l0_0 t999 _ ?side1 ?side2 A5.out).mono ?_
   (case side1 => repeat (first | exact (Kd.C_below HR0_0.out HB.out) | refine C_q ?_))
   (case side2 => exact HC0_0.out)
   rintro e w30 ⟨v1000, rfl, ho0, hb⟩
   refine ⟨_, rfl, ?_⟩
   have n0_ := Q0_ (Kd.R_lower ho0 (below_size upH))
   have n1_ := Q0_ (blk_below (upK BK996) hb)
   have n2_ := Q0_ (blk_below (upK BK997) hb)
   have n3_ := Q0_ (below_step upH hb)
   clear BK996 BK997 HB; revert n0_ n1_ n2_ n3_; intro HO1001 BK996 BK997 HB
   (try clear hb)
   (try clear hb2)
   (try clear hk)
   (try clear hi)
   (try clear ho0)
   refine hK.out _ _ ⟨(blk_cell BK996.out 0).trans rfl, (blk_cell BK996.out 1).trans rfl, (blk_cell BK996.out 2).trans rfl, (blk_cell BK996.out 3).trans rfl, (blk_cell BK996.out 4).trans rfl⟩ (fun hHeld => ?_)
   clear hK K
   refine norm_ (a' := ?_) ?_ ?_
   rotate_left
   ·show Act.put _ (some 17) _ = _
    simp only [Act.put, sI, s0, sS, i64_w, i32_w]
    rfl
   refine one_ (i := 5) (N := some 20) #[tt,tt,tt,tt,tt,tt,ff,ff] rfl rfl (one_of HT_.out (by kernel_rfl)) (by decide) (fun K hK => ?_)
   refine Kd.R_lit_step k25 _ 25 ?hg (N := 20) ?hd (xs := ([(⟨a0_1, a0_2⟩ : S25)] : List (S25))) (inner := [.int .i64 a0_1, .bool a0_2]) (ok := fun _ => True) (okp := fun _ => True) ?hr ?hp (fun _ hk => hk) trivial (Below.refl _ _) (Nat.le_refl _) (by simp) ?_; (case hd => rfl); (case hg => rfl); (case hr => first | (go_simp; done) | (go_simp; rfl)); (case hp => exact (Reps.c2 (show Kd.M k25 _ _ _ (⟨a0_1, a0_2⟩ : S25) [.int .i64 a0_1, .bool a0_2] from (k25_mkM _ _ _ (⟨a0_1, a0_2⟩ : S25) )) (Reps.none _ _)))
   intro v1003 w31 ho32 hb hg_ hnew_
   clear hg_ hnew_
   (first | rw [← Ny1002.out] at ho32 | (simp only [Int.reduceToNat] at ho32; rw [← Ny1002.out] at ho32))
   have n0_ := Q0_ (Kd.R_elder' (upR HO1001) (Kd.R_base ho32) hb)
   have n1_ := Q0_ (Kd.R_lower (Kd.R_new' ho32 (Kd.R_lt (upR HO1001))) (below_size upH))
   have n2_ := Q0_ (blk_below (upK BK996) hb)
   have n3_ := Q0_ (blk_below (upK BK997) hb)
   have n4_ := Q0_ (below_step upH hb)
   clear HO1001 BK996 BK997 HB; revert n0_ n1_ n2_ n3_ n4_; intro HO1001 HO1004 BK996 BK997 HB
   clear hb ho32
   refine hK.out _ _ ⟨(blk_cell BK996.out 0).trans rfl, (blk_cell BK996.out 1).trans rfl, (blk_cell BK996.out 2).trans rfl, (blk_cell BK996.out 3).trans rfl, (blk_cell BK996.out 4).trans rfl⟩ (fun hHeld => ?_)
   clear hK K
   refine norm_ (a' := ?_) ?_ ?_
   rotate_left
   ·show Act.put _ (some 20) _ = _
    simp only [Act.put, sI, s0, sS, i64_w, i32_w]
    rfl
   exact norm_ (by simp only [putAll, Act.put, sI, s0, sS]) (hCont (v1000, v1003) _ ⟨hHeld, (upR' (Kd.R_mono HO1001.out (fun _ hk => hk.2))), (upR' (Kd.R_mono HO1004.out (fun _ hk => hk.2))), (upK BK996), (upK BK997), upH⟩)
  ·skip
   refine Kd.R_lit_step k25 _ 25 ?hg (N := 20) ?hd (xs := ([(⟨a0_1, a0_2⟩ : S25)] : List (S25))) (inner := [.int .i64 a0_1, .bool a0_2]) (ok := fun _ => True) (okp := fun _ => True) ?hr ?hp (fun _ hk => hk) trivial (Below.refl _ _) (Nat.le_refl _) (by simp) ?_; (case hd => rfl); (case hg => rfl); (case hr => first | (go_simp; done) | (go_simp; rfl)); (case hp => exact (Reps.c2 (show Kd.M k25 _ _ _ (⟨a0_1, a0_2⟩ : S25) [.int .i64 a0_1, .bool a0_2] from (k25_mkM _ _ _ (⟨a0_1, a0_2⟩ : S25) )) (Reps.none _ _)))
   intro v1003 w30 ho31 hb hg_ hnew_
   clear hg_ hnew_
   (first | rw [← Ny1002.out] at ho31 | (simp only [Int.reduceToNat] at ho31; rw [← Ny1002.out] at ho31))
   have n0_ := Q0_ (Kd.R_lower ho31 (below_size upH))
   have n1_ := Q0_ (blk_below (upK BK996) hb)
   have n2_ := Q0_ (blk_below (upK BK997) hb)
   have n3_ := Q0_ (below_step upH hb)
   clear BK996 BK997 HB; revert n0_ n1_ n2_ n3_; intro HO1004 BK996 BK997 HB
   clear hb ho31
   refine hK.out _ _ ⟨(blk_cell BK996.out 0).trans rfl, (blk_cell BK996.out 1).trans rfl, (blk_cell BK996.out 2).trans rfl, (blk_cell BK996.out 3).trans rfl, (blk_cell BK996.out 4).trans rfl⟩ (fun hHeld => ?_)
   clear hK K
   refine norm_ (a' := ?_) ?_ ?_
   rotate_left
   ·show Act.put _ (some 20) _ = _
    simp only [Act.put, sI, s0, sS, i64_w, i32_w]
    rfl
   refine one_ (i := 2) (N := some 17) #[tt,tt,tt,tt,tt,tt,ff,ff] rfl rfl (one_of HT_.out (by kernel_rfl)) (by decide) (fun K hK => ?_)
   refine goes_ Tryd.func80 (by kernel_rfl) rfl #[.slice A0_0 l0_0.length c0_0] (by rfl) rfl rfl hM ?_
   with_reducible refine (impl_copiedTones.calls _ _ l0_0 t999 _ ?side1 ?side2 A5.out).mono ?_
   (case side1 => repeat (first | exact (Kd.C_below HR0_0.out HB.out) | refine C_q ?_))
   (case side2 => exact HC0_0.out)
   rintro e w32 ⟨v1000, rfl, ho0, hb⟩
   refine ⟨_, rfl, ?_⟩
   have n0_ := Q0_ (Kd.R_elder' (upR HO1004) (Kd.R_base ho0) hb)
   have n1_ := Q0_ (Kd.R_lower (Kd.R_new' ho0 (Kd.R_lt (upR HO1004))) (below_size upH))
   have n2_ := Q0_ (blk_below (upK BK996) hb)
   have n3_ := Q0_ (blk_below (upK BK997) hb)
   have n4_ := Q0_ (below_step upH hb)
   clear HO1004 BK996 BK997 HB; revert n0_ n1_ n2_ n3_ n4_; intro HO1004 HO1001 BK996 BK997 HB
   (try clear hb)
   (try clear hb2)
   (try clear hk)
   (try clear hi)
   (try clear ho0)
   refine hK.out _ _ ⟨(blk_cell BK996.out 0).trans rfl, (blk_cell BK996.out 1).trans rfl, (blk_cell BK996.out 2).trans rfl, (blk_cell BK996.out 3).trans rfl, (blk_cell BK996.out 4).trans rfl⟩ (fun hHeld => ?_)
   clear hK K
   refine norm_ (a' := ?_) ?_ ?_
   rotate_left
   ·show Act.put _ (some 17) _ = _
    simp only [Act.put, sI, s0, sS, i64_w, i32_w]
    rfl
   exact norm_ (by simp only [putAll, Act.put, sI, s0, sS]) (hCont (v1000, v1003) _ ⟨hHeld, (upR' (Kd.R_mono HO1001.out (fun _ hk => hk.2))), (upR' (Kd.R_mono HO1004.out (fun _ hk => hk.2))), (upK BK996), (upK BK997), upH⟩)
 rintro ⟨v1000, v1003⟩ w33 ⟨hS_, h0_, h1_, h2_, h3_, h4_⟩
 try dsimp only at h0_ h1_ h2_ h3_ h4_
 have n0_ := Q0_ h0_
 have n1_ := Q0_ h1_
 have n2_ := Q0_ h2_
 have n3_ := Q0_ h3_
 have n4_ := Q0_ h4_
 clear BK996
 clear BK997
 clear HB
 clear h0_ h1_ h2_ h3_ h4_
 have HO1001 := n0_
 have HO1004 := n1_
 have BK996 := n2_
 have BK997 := n3_
 have HB := n4_
 clear n0_ n1_ n2_ n3_ n4_
 have hHeld : w33.cell? ⟨gb996, 0, none⟩ = some (.slice A0_0 l0_0.length c0_0) ∧ w33.cell? ⟨gb996, 1, none⟩ = some (.int .i64 a0_1) ∧ w33.cell? ⟨gb996, 2, none⟩ = some (.bool a0_2) ∧ w33.cell? ⟨gb996, 3, none⟩ = some (.slice A0_3 l0_3.length c0_3) ∧ w33.cell? ⟨gb996, 4, none⟩ = some (.slice A0_4 l0_4.length c0_4) := hS_
 obtain ⟨Ao35, co35, eo35⟩ := Kd.R_slice HO1004.out
 (first | subst eo35 | (injection eo35 with f1_ f2_ f3_; have f4_ := f1_.symm; have f5_ := f3_.symm; clear f1_ f2_ f3_; subst f4_; subst f5_))
 refine norm_ (a' := ?_) ?_ ?_
 rotate_left
 ·simp only [putAll, Act.put, sI, s0, sS]
  rfl
 refine one_ (i := 6) (N := some 21) #[tt,tt,tt,tt,tt,tt,tt,ff] rfl rfl (one_of HT_.out (by kernel_rfl)) (by decide) (fun K hK => ?_)
 refine Kd.R_append_rows_step k25 (w0 := w) w.heap.size (by rfl) (.tmp 17) (.tmp 20) 23 25 (.agg #[(.int .i64 0), (.bool false)]) 16 rfl Tryd.underlying23 info25 rfl (by decide) (by omega) v1000 t999 y1002 _ _ _ (fun k_ => nb k_ (.slice Ao35 y1002.length co35)) (fun _ => False) rfl rfl ?aO ?aR (fun _ _ h => h) (fun _ h => h.elim) ?aF ?aB ?aS ?aL ?_
 (case aR => repeat (first | exact (Kd.R_reads' HO1004.out).2.2 | refine C_q ?_))
 (case aB => exact upH)
 (case aF => exact (fun k_ hk => Kd.fresh' (Kd.R_lt (upR HO1004)) k_ hk))
 (case aO => exact (upR HO1001))
 (case aS => exact (below_size upH))
 (case aL => have := LMc6.out; omega)
 intro v1006 w34 ho hb hg hat
 rw [← Ny1005.out] at ho
 have n0_ := Q0_ (blk_grown (g := gb996) (o := .cells #[.slice A0_0 l0_0.length c0_0, .int .i64 a0_1, .bool a0_2, .slice A0_3 l0_3.length c0_3, .slice A0_4 l0_4.length c0_4] 27 (0, 0)) (upK BK996) hg (Kd.R_ne HO1001.out BK996.out (by decide)))
 have n1_ := Q0_ (blk_grown (g := gb997) (o := .cells #[.slice none 0 0, .int .i64 0, .bool false, .slice none 0 0, .slice none 0 0] 27 (0, 0)) (upK BK997) hg (Kd.R_ne HO1001.out BK997.out (by decide)))
 have n2_ := Q0_ (Kd.R_after (ok := (fun _ => True)) (upR' (Kd.R_mono HO1004.out (fun _ hk => ⟨trivial, hk⟩))) hg hat)
 have n3_ := Q0_ (hb)
 have n4_ := Q0_ (ho)
 clear BK996 BK997 HO1004 HB HO1001; revert n0_ n1_ n2_ n3_ n4_; intro BK996 BK997 HO1004 HB HO1007
 clear ho hb hg hat
 refine hK.out _ _ ⟨(blk_cell BK996.out 0).trans rfl, (blk_cell BK996.out 1).trans rfl, (blk_cell BK996.out 2).trans rfl, (blk_cell BK996.out 3).trans rfl, (blk_cell BK996.out 4).trans rfl⟩ (fun hHeld => ?_)
 clear hK K
 refine norm_ (a' := ?_) ?_ ?_
 rotate_left
 ·show Act.put _ (some 21) _ = _
  simp only [Act.put, sI, s0, sS, i64_w, i32_w]
  rfl
 refine pQ HT_ 7 (some 6) #[tt,tt,tt,tt,tt,tt,tt,tt] rfl rfl ?_
 refine done_ (done_of HT_.out (by kernel_rfl)) ?_
 have hcz36_0 : w34.cell? ⟨gb996, 0, none⟩ = some (.slice A0_0 l0_0.length c0_0) := (blk_cell BK996.out 0).trans rfl
 have hcz36_1 : w34.cell? ⟨gb996, 1, none⟩ = some (.int .i64 a0_1) := (blk_cell BK996.out 1).trans rfl
 have hcz36_2 : w34.cell? ⟨gb996, 2, none⟩ = some (.bool a0_2) := (blk_cell BK996.out 2).trans rfl
 have hcz36_3 : w34.cell? ⟨gb996, 3, none⟩ = some (.slice A0_3 l0_3.length c0_3) := (blk_cell BK996.out 3).trans rfl
 have hcz36_4 : w34.cell? ⟨gb996, 4, none⟩ = some (.slice A0_4 l0_4.length c0_4) := (blk_cell BK996.out 4).trans rfl
 have hfz36_0 := blk_frozen BK996.out 0
 have hfz36_1 := blk_frozen BK996.out 1
 have hfz36_2 := blk_frozen BK996.out 2
 have hfz36_3 := blk_frozen BK996.out 3
 have hfz36_4 := blk_frozen BK996.out 4
 try go_wp2_with (first | ((with_reducible refine gate_builtin (b := .append) (xs := #[.tmp 22, .tmp 24]) rfl ?_); at_builtin; refine Kd.R_append_rows k25 (w0 := w) w.heap.size rfl (.tmp 22) (.tmp 24) 23 25 (.agg #[(.int .i64 0), (.bool false)]) 16 rfl Tryd.underlying23 info25 rfl (by decide) (by omega) v1006 y1005 l0_3 _ _ _ (fun k_ => nb k_ (.slice Ao35 y1002.length co35)) (fun _ => False) rfl rfl ?aO ?aR (fun _ _ h => h) (fun _ h => h.elim) ?aF ?aB ?aS ?aL ?_; (case aR => repeat (first | exact (Kd.C_below HR0_3.out HB.out) | refine C_q ?_)); (case aB => exact upH); (case aF => exact (fun k_ hk => Kd.fresh' (Kd.R_lt (upR HO1004)) k_ hk)); (case aO => exact (upR HO1007)); (case aS => exact (below_size upH)); (case aL => have := LMc7.out; omega); intro v1009 w37 ho hb hg hat; rw [← Ny1008.out] at ho; have n0_ := Q0_ (blk_grown (g := gb996) (o := .cells #[.slice A0_0 l0_0.length c0_0, .int .i64 a0_1, .bool a0_2, .slice A0_3 l0_3.length c0_3, .slice A0_4 l0_4.length c0_4] 27 (0, 0)) (upK BK996) hg (Kd.R_ne HO1007.out BK996.out (by decide))); have n1_ := Q0_ (blk_grown (g := gb997) (o := .cells #[.slice none 0 0, .int .i64 0, .bool false, .slice none 0 0, .slice none 0 0] 27 (0, 0)) (upK BK997) hg (Kd.R_ne HO1007.out BK997.out (by decide))); have n2_ := Q0_ (Kd.R_after (ok := (fun _ => True)) (upR HO1004) hg hat); have n3_ := Q0_ (hb); have n4_ := Q0_ (ho); clear BK996 BK997 HO1004 HB HO1007; revert n0_ n1_ n2_ n3_ n4_; intro BK996 BK997 HO1004 HB HO1010; clear ho hb hg hat; have hcz38_0 : w37.cell? ⟨gb996, 0, none⟩ = some (.slice A0_0 l0_0.length c0_0) := (blk_cell BK996.out 0).trans rfl; have hcz38_1 : w37.cell? ⟨gb996, 1, none⟩ = some (.int .i64 a0_1) := (blk_cell BK996.out 1).trans rfl; have hcz38_2 : w37.cell? ⟨gb996, 2, none⟩ = some (.bool a0_2) := (blk_cell BK996.out 2).trans rfl; have hcz38_3 : w37.cell? ⟨gb996, 3, none⟩ = some (.slice A0_3 l0_3.length c0_3) := (blk_cell BK996.out 3).trans rfl; have hcz38_4 : w37.cell? ⟨gb996, 4, none⟩ = some (.slice A0_4 l0_4.length c0_4) := (blk_cell BK996.out 4).trans rfl; have hfz38_0 := blk_frozen BK996.out 0; have hfz38_1 := blk_frozen BK996.out 1; have hfz38_2 := blk_frozen BK996.out 2; have hfz38_3 := blk_frozen BK996.out 3; have hfz38_4 := blk_frozen BK996.out 4) | ((with_reducible refine gate_builtin (b := .append) (xs := #[.tmp 26, .tmp 28]) rfl ?_); at_builtin; refine Kd.R_append_rows k25 (w0 := w) w.heap.size rfl (.tmp 26) (.tmp 28) 23 25 (.agg #[(.int .i64 0), (.bool false)]) 16 rfl Tryd.underlying23 info25 rfl (by decide) (by omega) v1009 y1008 l0_4 _ _ _ (fun k_ => nb k_ (.slice Ao35 y1002.length co35)) (fun _ => False) rfl rfl ?aO ?aR (fun _ _ h => h) (fun _ h => h.elim) ?aF ?aB ?aS ?aL ?_; (case aR => repeat (first | exact (Kd.C_below HR0_4.out HB.out) | refine C_q ?_)); (case aB => exact upH); (case aF => exact (fun k_ hk => Kd.fresh' (Kd.R_lt (upR HO1004)) k_ hk)); (case aO => exact (upR HO1010)); (case aS => exact (below_size upH)); (case aL => have := LMc8.out; omega); intro v1012 w39 ho hb hg hat; rw [← Ny1011.out] at ho; have n0_ := Q0_ (blk_grown (g := gb996) (o := .cells #[.slice A0_0 l0_0.length c0_0, .int .i64 a0_1, .bool a0_2, .slice A0_3 l0_3.length c0_3, .slice A0_4 l0_4.length c0_4] 27 (0, 0)) (upK BK996) hg (Kd.R_ne HO1010.out BK996.out (by decide))); have n1_ := Q0_ (blk_grown (g := gb997) (o := .cells #[.slice none 0 0, .int .i64 0, .bool false, .slice none 0 0, .slice none 0 0] 27 (0, 0)) (upK BK997) hg (Kd.R_ne HO1010.out BK997.out (by decide))); have n2_ := Q0_ (Kd.R_after (ok := (fun _ => True)) (upR HO1004) hg hat); have n3_ := Q0_ (hb); have n4_ := Q0_ (ho); clear BK996 BK997 HO1004 HB HO1010; revert n0_ n1_ n2_ n3_ n4_; intro BK996 BK997 HO1004 HB HO1013; clear ho hb hg hat; obtain ⟨Ao40, co40, eo40⟩ := Kd.R_slice HO1013.out; subst eo40) | ((with_reducible refine gate_callee (f := 81) rfl ?_); refine goesL_ (some 33) rfl rfl Tryd.func81 (by kernel_rfl) rfl #[.slice Ao40 y1011.length co40, .int .i64 a1] rfl hM ?_; (with_reducible refine (impl_MelodyMove.calls k _ _ y1011 a1 t1014 true _ ?side1 ?side2 ?side3 A9.out).mono ?_); (case side1 => repeat (first | exact (Kd.R_reads' HO1013.out).2.2 | refine C_q ?_)); (case side2 => exact (Kd.R_reads' HO1013.out).2.1); (case side3 => exact GOk.sub (GOk.below HG.out upH) (by decide)); rintro e w41 ⟨v1016, rfl, ho0, hb⟩; refine ⟨_, rfl, ?_⟩; have n0_ := Q0_ (Kd.R_elder' (upR HO1004) (Kd.R_base ho0) hb); have n1_ := Q0_ (Kd.R_elder' (upR HO1013) (Kd.R_base ho0) hb); have n2_ := Q0_ (Kd.R_lower (Kd.R_new' (Kd.R_new' ho0 (Kd.R_lt (upR HO1004))) (Kd.R_lt (upR HO1013))) (below_size upH)); have n3_ := Q0_ (blk_below (upK BK996) hb); have n4_ := Q0_ (blk_below (upK BK997) hb); have n5_ := Q0_ (below_step upH hb); clear HO1004 HO1013 BK996 BK997 HB; revert n0_ n1_ n2_ n3_ n4_ n5_; intro HO1004 HO1013 HO1017 BK996 BK997 HB; (try clear hb); (try clear hb2); (try clear hk); (try clear hi); (try clear ho0); have hcz42_0 : w41.cell? ⟨gb996, 0, none⟩ = some (.slice A0_0 l0_0.length c0_0) := (blk_cell BK996.out 0).trans rfl; have hcz42_1 : w41.cell? ⟨gb996, 1, none⟩ = some (.int .i64 a0_1) := (blk_cell BK996.out 1).trans rfl; have hcz42_2 : w41.cell? ⟨gb996, 2, none⟩ = some (.bool a0_2) := (blk_cell BK996.out 2).trans rfl; have hcz42_3 : w41.cell? ⟨gb996, 3, none⟩ = some (.slice A0_3 l0_3.length c0_3) := (blk_cell BK996.out 3).trans rfl; have hcz42_4 : w41.cell? ⟨gb996, 4, none⟩ = some (.slice A0_4 l0_4.length c0_4) := (blk_cell BK996.out 4).trans rfl; have hfz42_0 := blk_frozen BK996.out 0; have hfz42_1 := blk_frozen BK996.out 1; have hfz42_2 := blk_frozen BK996.out 2; have hfz42_3 := blk_frozen BK996.out 3; have hfz42_4 := blk_frozen BK996.out 4))
 have n0_ := Q0_ (Kd.R_drew HO1004.out)
 have n1_ := Q0_ (Kd.R_drew HO1013.out)
 have n2_ := Q0_ (Kd.R_drew HO1017.out)
 have n3_ := Q0_ (blk_drew BK996.out)
 have n4_ := Q0_ (blk_drew BK997.out)
 have n5_ := Q0_ (below_drew1 HB.out)
 clear HO1004 HO1013 HO1017 BK996 BK997 HB; revert n0_ n1_ n2_ n3_ n4_ n5_; intro HO1004 HO1013 HO1017 BK996 BK997 HB
 obtain ⟨Ao45, co45, eo45⟩ := Kd.R_slice HO1017.out
 (first | subst eo45 | (injection eo45 with f1_ f2_ f3_; have f4_ := f1_.symm; have f5_ := f3_.symm; clear f1_ f2_ f3_; subst f4_; subst f5_))
 have q44 : ((l0_0.length : Int) : Int) ≤ ((t1014.length : Int) : Int) := of_decide_eq_true aS
 obtain ⟨i044, hi044, _, hsz44, _⟩ := info_parts info25
 have hroom44 : t1014.length ≤ co45 := (Kd.R_reads' HO1017.out).2.1
 have hC44 : Kd.C k25 _ Ao45 t1014.length t1014 := (Kd.R_reads' HO1017.out).2.2
 have hcut44 := cut_to (P := Tryd.prog) 23 25 .i64 Tryd.underlying23 hi044 Ao45 t1014.length co45 (l0_0.length : Int) (of_decide_eq_true aS) q44 hroom44
 have hr44 := Kd.C_take (m := ((l0_0.length : Int) : Int).toNat) hC44 (by omega)
 have hy44 : y1018.length = ((l0_0.length : Int) : Int).toNat := (by rw [Ny1018.out, List.length_take]; omega)
 rw [← Ny1018.out] at hr44
 rw [← hy44] at hcut44
 have HR1021 := Aside0.mk hr44
 have HC1021 := Q0_ (show y1018.length ≤ co45 from by omega)
 clear hr44 hC44 hroom44 hi044 hsz44
 have KY44 := Aside0.mk hy44
 clear hy44
 have KL44 := Q0_ (show ((l0_0.length : Int) : Int).toNat ≤ t1014.length from by omega)
 replace q44 := eq_true q44
 have p1025 : 0 ≤ ((l0_0.length : Int) : Int) := of_decide_eq_true aS
 have q1025 : (l0_0.length : Int) < (t1014.length : Int) := of_decide_eq_true aS
 obtain ⟨ad1025, e1025, hx1025_0, hx1025_1⟩ := at_T25 (Kd.R_reads' HO1017.out).2.2 (l0_0.length : Int) p1025 q1025
 cases e1025
 (try simp only [Go.IntWalk.toNatUp] at hx1025_0)
 (try simp only [Go.IntWalk.toNatUp] at hx1025_1)
 replace p1025 := eq_true p1025
 replace q1025 := eq_true q1025
 have q46 : ((ji20) : Int) ≤ ((t1014.length : Int) : Int) := of_decide_eq_true aS
 obtain ⟨i046, hi046, _, hsz46, _⟩ := info_parts info25
 have hroom46 : t1014.length ≤ co45 := (Kd.R_reads' HO1017.out).2.1
 have hC46 : Kd.C k25 _ (some ad1025) t1014.length t1014 := (Kd.R_reads' HO1017.out).2.2
 have ql46 : ((ji15) : Int) ≤ ((ji20) : Int) := of_decide_eq_true aS
 have q046 : (0 : Int) ≤ ((ji15) : Int) := of_decide_eq_true aS
 have hcut46 := cut_mid (P := Tryd.prog) 23 25 .i64 .i64 Tryd.underlying23 hi046 2 hsz46 (some ad1025) t1014.length co45 (ji15) (ji20) q046 ql46 q46 hroom46
 have hr46 := Kd.C_mid (lo := ((ji15) : Int).toNat) (hi := ((ji20) : Int).toNat) (c := co45) hC46 (by omega) (by omega) hroom46
 obtain ⟨A46, hA46⟩ : ∃ Az_, Az_ = (if co45 = ((ji15) : Int).toNat then (some ad1025) else ((some ad1025) : Option Addr).map (·.add (((ji15) : Int).toNat * 2))) := ⟨_, rfl⟩
 obtain ⟨c46, hc46⟩ : ∃ cz_, cz_ = co45 - ((ji15) : Int).toNat := ⟨_, rfl⟩
 have hy46 : y1026.length = ((ji20) : Int).toNat - ((ji15) : Int).toNat := (by rw [Ny1026.out, List.length_drop, List.length_take] <;> omega)
 rw [show ((t1014).take ((ji20) : Int).toNat).drop ((ji15) : Int).toNat = y1026 from Ny1026.out.symm] at hr46
 replace hr46 : Kd.C k25 _ A46 y1026.length y1026 := (by rw [hA46]; exact hr46)
 rw [← hy46, ← hA46, ← hc46] at hcut46
 have HR1029 := Aside0.mk hr46
 have HC1029 := Q0_ (show y1026.length ≤ c46 from by rw [hy46, hc46]; exact Nat.sub_le_sub_right (Nat.le_trans (by omega) hroom46) _)
 clear hr46 hC46 hroom46 hi046 hsz46 hc46
 have KY46 := Aside0.mk hy46
 have KA46 := Aside0.mk hA46
 clear hy46 hA46
 have KL46 := Q0_ (show ((ji20) : Int).toNat ≤ t1014.length from by omega)
 have KM46 := Q0_ (show ((ji15) : Int).toNat ≤ ((ji20) : Int).toNat from by omega)
 replace q46 := eq_true q46
 have q47 : ((ji20) : Int) ≤ ((t1014.length : Int) : Int) := of_decide_eq_true aS
 obtain ⟨i047, hi047, _, hsz47, _⟩ := info_parts info25
 have hroom47 : t1014.length ≤ co45 := (Kd.R_reads' HO1017.out).2.1
 have hC47 : Kd.C k25 _ (some ad1025) t1014.length t1014 := (Kd.R_reads' HO1017.out).2.2
 have q047 : (0 : Int) ≤ ((ji20) : Int) := of_decide_eq_true aS
 have hcut47 := cut_from (P := Tryd.prog) 23 25 .i64 Tryd.underlying23 hi047 2 hsz47 (some ad1025) t1014.length co45 (ji20) q047 q47
 have hr47 := Kd.C_drop (m := ((ji20) : Int).toNat) (c := co45) hC47 (by omega) hroom47
 obtain ⟨A47, hA47⟩ : ∃ Az_, Az_ = (if co45 = ((ji20) : Int).toNat then (some ad1025) else ((some ad1025) : Option Addr).map (·.add (((ji20) : Int).toNat * 2))) := ⟨_, rfl⟩
 obtain ⟨c47, hc47⟩ : ∃ cz_, cz_ = co45 - ((ji20) : Int).toNat := ⟨_, rfl⟩
 have hy47 : y1033.length = t1014.length - ((ji20) : Int).toNat := (by rw [Ny1033.out, List.length_drop] <;> omega)
 rw [show (t1014).drop ((ji20) : Int).toNat = y1033 from Ny1033.out.symm] at hr47
 replace hr47 : Kd.C k25 _ A47 y1033.length y1033 := (by rw [hA47]; exact hr47)
 rw [← hy47, ← hA47, ← hc47] at hcut47
 have HR1036 := Aside0.mk hr47
 have HC1036 := Q0_ (show y1033.length ≤ c47 from by rw [hy47, hc47]; exact Nat.sub_le_sub_right hroom47 _)
 clear hr47 hC47 hroom47 hi047 hsz47 hc47
 have KY47 := Aside0.mk hy47
 have KA47 := Aside0.mk hA47
 clear hy47 hA47
 have KL47 := Q0_ (show ((ji20) : Int).toNat ≤ t1014.length from by omega)
 replace q47 := eq_true q47
 refine start_ (n := 21) (S := fun w' => w'.cell? (ad1025.add (((l0_0.length : Int)).toNat * 2)) = some (.int .i64 ((rd_T25 t1014 (l0_0.length : Int)).f0)) ∧ w'.cell? ⟨(ad1025.add (((l0_0.length : Int)).toNat * 2)).block, (ad1025.add (((l0_0.length : Int)).toNat * 2)).off + 1, none⟩ = some (.bool ((rd_T25 t1014 (l0_0.length : Int)).f1))) (ds := []) #[ff,ff,ff,ff,ff,ff,ff,ff,ff,ff,ff,ff,ff,ff,ff,ff,ff,ff,ff,ff,ff] (by kernel_rfl) rfl rfl ⟨hx1025_0, hx1025_1⟩ (fun hHeld => ?_); refine with_tabW impl_PsalmMove.tab11 impl_PsalmMove.bits11 (fun HT_ HW_ => ?_)
 generalize w41.drew = w43 at HO1004 HO1013 HO1017 BK996 BK997 HB HR1021 HR1029 HR1036 hx1025_0 hx1025_1 hHeld ⊢
 refine pQ HT_ 0 (some 48) #[tt,ff,ff,ff,ff,ff,ff,ff,ff,ff,ff,ff,ff,ff,ff,ff,ff,ff,ff,ff,ff] rfl rfl ?_
 refine pQ HT_ 1 (some 49) #[tt,tt,ff,ff,ff,ff,ff,ff,ff,ff,ff,ff,ff,ff,ff,ff,ff,ff,ff,ff,ff] rfl rfl ?_
 refine pQ HT_ 2 (some 50) #[tt,tt,tt,ff,ff,ff,ff,ff,ff,ff,ff,ff,ff,ff,ff,ff,ff,ff,ff,ff,ff] rfl rfl ?_
 refine pQ HT_ 4 (some 52) #[tt,tt,tt,ff,tt,ff,ff,ff,ff,ff,ff,ff,ff,ff,ff,ff,ff,ff,ff,ff,ff] rfl rfl ?_
 refine pQ HT_ 5 (some 53) #[tt,tt,tt,ff,tt,tt,ff,ff,ff,ff,ff,ff,ff,ff,ff,ff,ff,ff,ff,ff,ff] rfl rfl ?_
 refine pQ HT_ 6 (some 54) #[tt,tt,tt,ff,tt,tt,tt,ff,ff,ff,ff,ff,ff,ff,ff,ff,ff,ff,ff,ff,ff] rfl rfl ?_
 refine pQ HT_ 8 (some 56) #[tt,tt,tt,ff,tt,tt,tt,ff,tt,ff,ff,ff,ff,ff,ff,ff,ff,ff,ff,ff,ff] rfl rfl ?_
 refine pQ HT_ 9 (some 57) #[tt,tt,tt,ff,tt,tt,tt,ff,tt,tt,ff,ff,ff,ff,ff,ff,ff,ff,ff,ff,ff] rfl rfl ?_
 refine pQ HT_ 10 (some 58) #[tt,tt,tt,ff,tt,tt,tt,ff,tt,tt,tt,ff,ff,ff,ff,ff,ff,ff,ff,ff,ff] rfl rfl ?_
 refine pQ HT_ 11 (some 59) #[tt,tt,tt,ff,tt,tt,tt,ff,tt,tt,tt,tt,ff,ff,ff,ff,ff,ff,ff,ff,ff] rfl rfl ?_
 refine pQ HT_ 12 (some 60) #[tt,tt,tt,ff,tt,tt,tt,ff,tt,tt,tt,tt,tt,ff,ff,ff,ff,ff,ff,ff,ff] rfl rfl ?_
 refine pQ HT_ 14 (some 62) #[tt,tt,tt,ff,tt,tt,tt,ff,tt,tt,tt,tt,tt,ff,tt,ff,ff,ff,ff,ff,ff] rfl rfl ?_
 refine pQ HT_ 15 (some 63) #[tt,tt,tt,ff,tt,tt,tt,ff,tt,tt,tt,tt,tt,ff,tt,tt,ff,ff,ff,ff,ff] rfl rfl ?_
 refine pQ HT_ 16 (some 64) #[tt,tt,tt,ff,tt,tt,tt,ff,tt,tt,tt,tt,tt,ff,tt,tt,tt,ff,ff,ff,ff] rfl rfl ?_
 refine tQ HT_ HW_ 7 (some 55) #[tt,tt,tt,ff,tt,tt,tt,tt,tt,tt,tt,tt,tt,ff,tt,tt,tt,ff,ff,ff,ff] rfl rfl hHeld (by rintro w' ⟨s0, s1⟩; (try simp only [Int.toNat_natCast] at s0 s1); go_simp; with_reducible rfl) ?_
 refine one_ (i := 3) (N := some 51) #[tt,tt,tt,tt,tt,tt,tt,tt,tt,tt,tt,tt,tt,ff,tt,tt,tt,ff,ff,ff,ff] rfl rfl (one_of HT_.out (by kernel_rfl)) (by decide) (fun K hK => ?_)
 refine goes_ Tryd.func80 (by kernel_rfl) rfl #[.slice (some ad1025) y1018.length co45] (by rfl) rfl rfl hM ?_
 with_reducible refine (impl_copiedTones.calls _ _ y1018 t1022 _ ?side1 ?side2 A13.out).mono ?_
 (case side1 => repeat (first | exact (upC HR1021) | refine C_q ?_))
 (case side2 => exact HC1021.out)
 rintro e w48 ⟨v1023, rfl, ho0, hb⟩
 have HS0_ := (hb.cell (World.block_lt_of_cell? _ _ (hHeld.1))).trans (hHeld.1)
 have HS1_ := (hb.cell (World.block_lt_of_cell? _ _ (hHeld.2))).trans (hHeld.2)
 refine ⟨_, rfl, ?_⟩
 have n0_ := Q0_ (Kd.R_elder' (upR HO1004) (Kd.R_base ho0) hb)
 have n1_ := Q0_ (Kd.R_elder' (upR HO1013) (Kd.R_base ho0) hb)
 have n2_ := Q0_ (Kd.R_elder' (upR HO1017) (Kd.R_base ho0) hb)
 have n3_ := Q0_ (Kd.R_lower (Kd.R_new' (Kd.R_new' (Kd.R_new' ho0 (Kd.R_lt (upR HO1004))) (Kd.R_lt (upR HO1013))) (Kd.R_lt (upR HO1017))) (below_size upH))
 have n4_ := Q0_ (blk_below (upK BK996) hb)
 have n5_ := Q0_ (blk_below (upK BK997) hb)
 have n6_ := Q0_ (Kd.C_below (upC HR1021) hb)
 have n7_ := Q0_ (Kd.C_below (upC HR1029) hb)
 have n8_ := Q0_ (Kd.C_below (upC HR1036) hb)
 have n9_ := Q0_ (below_step upH hb)
 clear HO1004 HO1013 HO1017 BK996 BK997 HR1021 HR1029 HR1036 HB; revert n0_ n1_ n2_ n3_ n4_ n5_ n6_ n7_ n8_ n9_; intro HO1004 HO1013 HO1017 HO1024 BK996 BK997 HR1021 HR1029 HR1036 HB
 (try clear hb)
 (try clear hb2)
 (try clear hk)
 (try clear hi)
 (try clear ho0)
 refine hK.out _ _ ⟨HS0_, HS1_⟩ (fun hHeld => ?_)
 clear hK K
 refine norm_ (a' := ?_) ?_ ?_
 rotate_left
 ·show Act.put _ (some 51) _ = _
  simp only [Act.put, sI, s0, sS, i64_w, i32_w]
  rfl
 refine one_ (i := 13) (N := some 61) #[tt,tt,tt,tt,tt,tt,tt,tt,tt,tt,tt,tt,tt,tt,tt,tt,tt,ff,ff,ff,ff] rfl rfl (one_of HT_.out (by kernel_rfl)) (by decide) (fun K hK => ?_)
 refine goes_ Tryd.func80 (by kernel_rfl) rfl #[.slice A46 y1026.length c46] (by rfl) rfl rfl hM ?_
 with_reducible refine (impl_copiedTones.calls _ _ y1026 t1030 _ ?side1 ?side2 A19.out).mono ?_
 (case side1 => repeat (first | exact (upC HR1029) | refine C_q ?_))
 (case side2 => exact HC1029.out)
 rintro e w49 ⟨v1031, rfl, ho0, hb⟩
 have HS0_ := (hb.cell (World.block_lt_of_cell? _ _ (hHeld.1))).trans (hHeld.1)
 have HS1_ := (hb.cell (World.block_lt_of_cell? _ _ (hHeld.2))).trans (hHeld.2)
 refine ⟨_, rfl, ?_⟩
 have n0_ := Q0_ (Kd.R_elder' (upR HO1004) (Kd.R_base ho0) hb)
 have n1_ := Q0_ (Kd.R_elder' (upR HO1013) (Kd.R_base ho0) hb)
 have n2_ := Q0_ (Kd.R_elder' (upR HO1017) (Kd.R_base ho0) hb)
 have n3_ := Q0_ (Kd.R_elder' (upR HO1024) (Kd.R_base ho0) hb)
 have n4_ := Q0_ (Kd.R_lower (Kd.R_new' (Kd.R_new' (Kd.R_new' (Kd.R_new' ho0 (Kd.R_lt (upR HO1004))) (Kd.R_lt (upR HO1013))) (Kd.R_lt (upR HO1017))) (Kd.R_lt (upR HO1024))) (below_size upH))
 have n5_ := Q0_ (blk_below (upK BK996) hb)
 have n6_ := Q0_ (blk_below (upK BK997) hb)
 have n7_ := Q0_ (Kd.C_below (upC HR1021) hb)
 have n8_ := Q0_ (Kd.C_below (upC HR1029) hb)
 have n9_ := Q0_ (Kd.C_below (upC HR1036) hb)
 have n10_ := Q0_ (below_step upH hb)
 clear HO1004 HO1013 HO1017 HO1024 BK996 BK997 HR1021 HR1029 HR1036 HB; revert n0_ n1_ n2_ n3_ n4_ n5_ n6_ n7_ n8_ n9_ n10_; intro HO1004 HO1013 HO1017 HO1024 HO1032 BK996 BK997 HR1021 HR1029 HR1036 HB
 (try clear hb)
 (try clear hb2)
 (try clear hk)
 (try clear hi)
 (try clear ho0)
 refine hK.out _ _ ⟨HS0_, HS1_⟩ (fun hHeld => ?_)
 clear hK K
 refine norm_ (a' := ?_) ?_ ?_
 rotate_left
 ·show Act.put _ (some 61) _ = _
  simp only [Act.put, sI, s0, sS, i64_w, i32_w]
  rfl
 refine one_ (i := 17) (N := some 65) #[tt,tt,tt,tt,tt,tt,tt,tt,tt,tt,tt,tt,tt,tt,tt,tt,tt,tt,ff,ff,ff] rfl rfl (one_of HT_.out (by kernel_rfl)) (by decide) (fun K hK => ?_)
 refine goes_ Tryd.func80 (by kernel_rfl) rfl #[.slice A47 y1033.length c47] (by rfl) rfl rfl hM ?_
 with_reducible refine (impl_copiedTones.calls _ _ y1033 t1037 _ ?side1 ?side2 A23.out).mono ?_
 (case side1 => repeat (first | exact (upC HR1036) | refine C_q ?_))
 (case side2 => exact HC1036.out)
 rintro e w50 ⟨v1038, rfl, ho0, hb⟩
 have HS0_ := (hb.cell (World.block_lt_of_cell? _ _ (hHeld.1))).trans (hHeld.1)
 have HS1_ := (hb.cell (World.block_lt_of_cell? _ _ (hHeld.2))).trans (hHeld.2)
 refine ⟨_, rfl, ?_⟩
 have n0_ := Q0_ (Kd.R_elder' (upR HO1004) (Kd.R_base ho0) hb)
 have n1_ := Q0_ (Kd.R_elder' (upR HO1013) (Kd.R_base ho0) hb)
 have n2_ := Q0_ (Kd.R_elder' (upR HO1017) (Kd.R_base ho0) hb)
 have n3_ := Q0_ (Kd.R_elder' (upR HO1024) (Kd.R_base ho0) hb)
 have n4_ := Q0_ (Kd.R_elder' (upR HO1032) (Kd.R_base ho0) hb)
 have n5_ := Q0_ (Kd.R_lower (Kd.R_new' (Kd.R_new' (Kd.R_new' (Kd.R_new' (Kd.R_new' ho0 (Kd.R_lt (upR HO1004))) (Kd.R_lt (upR HO1013))) (Kd.R_lt (upR HO1017))) (Kd.R_lt (upR HO1024))) (Kd.R_lt (upR HO1032))) (below_size upH))
 have n6_ := Q0_ (blk_below (upK BK996) hb)
 have n7_ := Q0_ (blk_below (upK BK997) hb)
 have n8_ := Q0_ (Kd.C_below (upC HR1021) hb)
 have n9_ := Q0_ (Kd.C_below (upC HR1029) hb)
 have n10_ := Q0_ (Kd.C_below (upC HR1036) hb)
 have n11_ := Q0_ (below_step upH hb)
 clear HO1004 HO1013 HO1017 HO1024 HO1032 BK996 BK997 HR1021 HR1029 HR1036 HB; revert n0_ n1_ n2_ n3_ n4_ n5_ n6_ n7_ n8_ n9_ n10_ n11_; intro HO1004 HO1013 HO1017 HO1024 HO1032 HO1039 BK996 BK997 HR1021 HR1029 HR1036 HB
 (try clear hb)
 (try clear hb2)
 (try clear hk)
 (try clear hi)
 (try clear ho0)
 obtain ⟨Ao51, co51, eo51⟩ := Kd.R_slice HO1039.out
 (first | subst eo51 | (injection eo51 with f1_ f2_ f3_; have f4_ := f1_.symm; have f5_ := f3_.symm; clear f1_ f2_ f3_; subst f4_; subst f5_))
 obtain ⟨Ao52, co52, eo52⟩ := Kd.R_slice HO1032.out
 (first | subst eo52 | (injection eo52 with f1_ f2_ f3_; have f4_ := f1_.symm; have f5_ := f3_.symm; clear f1_ f2_ f3_; subst f4_; subst f5_))
 obtain ⟨Ao53, co53, eo53⟩ := Kd.R_slice HO1024.out
 (first | subst eo53 | (injection eo53 with f1_ f2_ f3_; have f4_ := f1_.symm; have f5_ := f3_.symm; clear f1_ f2_ f3_; subst f4_; subst f5_))
 refine hK.out _ _ ⟨HS0_, HS1_⟩ (fun hHeld => ?_)
 clear hK K
 refine norm_ (a' := ?_) ?_ ?_
 rotate_left
 ·show Act.put _ (some 65) _ = _
  simp only [Act.put, sI, s0, sS, i64_w, i32_w]
  rfl
 refine pQ HT_ 18 (some 66) #[tt,tt,tt,tt,tt,tt,tt,tt,tt,tt,tt,tt,tt,tt,tt,tt,tt,tt,tt,ff,ff] rfl rfl ?_
 refine one_ (i := 19) (N := none) #[tt,tt,tt,tt,tt,tt,tt,tt,tt,tt,tt,tt,tt,tt,tt,tt,tt,tt,tt,tt,ff] rfl rfl (one_of HT_.out (by kernel_rfl)) (by decide) (fun K hK => ?_)
 have hs54 : w50.cell? ⟨gb997, 0, none⟩ = some (.slice none 0 0) := (blk_cell BK997.out 0).trans rfl
 have hfs54 := blk_frozen BK997.out 0
 have hns54_0 := NB996_997.out
 have hms54_0 := NB997_996.out
 have hs55 : w50.cell? ⟨gb997, 1, none⟩ = some (.int .i64 0) := (blk_cell BK997.out 1).trans rfl
 have hfs55 := blk_frozen BK997.out 1
 have hns55_0 := NB996_997.out
 have hms55_0 := NB997_996.out
 have hs56 : w50.cell? ⟨gb997, 2, none⟩ = some (.bool false) := (blk_cell BK997.out 2).trans rfl
 have hfs56 := blk_frozen BK997.out 2
 have hns56_0 := NB996_997.out
 have hms56_0 := NB997_996.out
 have hs57 : w50.cell? ⟨gb997, 3, none⟩ = some (.slice none 0 0) := (blk_cell BK997.out 3).trans rfl
 have hfs57 := blk_frozen BK997.out 3
 have hns57_0 := NB996_997.out
 have hms57_0 := NB997_996.out
 have hs58 : w50.cell? ⟨gb997, 4, none⟩ = some (.slice none 0 0) := (blk_cell BK997.out 4).trans rfl
 have hfs58 := blk_frozen BK997.out 4
 have hns58_0 := NB996_997.out
 have hms58_0 := NB997_996.out
 refine skip_ (w1 := ?_) (by rfl) rfl ?_ ?_
 rotate_left
 ·go_simp
  rfl
 refine hK.out _ _ ⟨((cell_far (p := ⟨gb997, _, none⟩) (by first | exact Kd.own_blk (Kd.R_ne HO1017.out BK997.out (by decide)) | (rw [add_block]; exact Kd.own_blk (Kd.R_ne HO1017.out BK997.out (by decide))) | (show (Addr.add _ _).block ≠ _; rw [add_block]; exact Kd.own_blk (Kd.R_ne HO1017.out BK997.out (by decide))) | (dsimp only; exact Kd.own_blk (Kd.R_ne HO1017.out BK997.out (by decide)))) _).trans (((cell_far (p := ⟨gb997, _, none⟩) (by first | exact Kd.own_blk (Kd.R_ne HO1017.out BK997.out (by decide)) | (rw [add_block]; exact Kd.own_blk (Kd.R_ne HO1017.out BK997.out (by decide))) | (show (Addr.add _ _).block ≠ _; rw [add_block]; exact Kd.own_blk (Kd.R_ne HO1017.out BK997.out (by decide))) | (dsimp only; exact Kd.own_blk (Kd.R_ne HO1017.out BK997.out (by decide)))) _).trans (((cell_far (p := ⟨gb997, _, none⟩) (by first | exact Kd.own_blk (Kd.R_ne HO1017.out BK997.out (by decide)) | (rw [add_block]; exact Kd.own_blk (Kd.R_ne HO1017.out BK997.out (by decide))) | (show (Addr.add _ _).block ≠ _; rw [add_block]; exact Kd.own_blk (Kd.R_ne HO1017.out BK997.out (by decide))) | (dsimp only; exact Kd.own_blk (Kd.R_ne HO1017.out BK997.out (by decide)))) _).trans (((cell_far (p := ⟨gb997, _, none⟩) (by first | exact Kd.own_blk (Kd.R_ne HO1017.out BK997.out (by decide)) | (rw [add_block]; exact Kd.own_blk (Kd.R_ne HO1017.out BK997.out (by decide))) | (show (Addr.add _ _).block ≠ _; rw [add_block]; exact Kd.own_blk (Kd.R_ne HO1017.out BK997.out (by decide))) | (dsimp only; exact Kd.own_blk (Kd.R_ne HO1017.out BK997.out (by decide)))) _).trans (((cell_far (p := ⟨gb997, _, none⟩) (by first | exact Kd.own_blk (Kd.R_ne HO1017.out BK997.out (by decide)) | (rw [add_block]; exact Kd.own_blk (Kd.R_ne HO1017.out BK997.out (by decide))) | (show (Addr.add _ _).block ≠ _; rw [add_block]; exact Kd.own_blk (Kd.R_ne HO1017.out BK997.out (by decide))) | (dsimp only; exact Kd.own_blk (Kd.R_ne HO1017.out BK997.out (by decide)))) _).trans (hHeld.1)))))))))), ((cell_far (p := ⟨gb997, _, none⟩) (by first | exact Kd.own_blk (Kd.R_ne HO1017.out BK997.out (by decide)) | (rw [add_block]; exact Kd.own_blk (Kd.R_ne HO1017.out BK997.out (by decide))) | (show (Addr.add _ _).block ≠ _; rw [add_block]; exact Kd.own_blk (Kd.R_ne HO1017.out BK997.out (by decide))) | (dsimp only; exact Kd.own_blk (Kd.R_ne HO1017.out BK997.out (by decide)))) _).trans (((cell_far (p := ⟨gb997, _, none⟩) (by first | exact Kd.own_blk (Kd.R_ne HO1017.out BK997.out (by decide)) | (rw [add_block]; exact Kd.own_blk (Kd.R_ne HO1017.out BK997.out (by decide))) | (show (Addr.add _ _).block ≠ _; rw [add_block]; exact Kd.own_blk (Kd.R_ne HO1017.out BK997.out (by decide))) | (dsimp only; exact Kd.own_blk (Kd.R_ne HO1017.out BK997.out (by decide)))) _).trans (((cell_far (p := ⟨gb997, _, none⟩) (by first | exact Kd.own_blk (Kd.R_ne HO1017.out BK997.out (by decide)) | (rw [add_block]; exact Kd.own_blk (Kd.R_ne HO1017.out BK997.out (by decide))) | (show (Addr.add _ _).block ≠ _; rw [add_block]; exact Kd.own_blk (Kd.R_ne HO1017.out BK997.out (by decide))) | (dsimp only; exact Kd.own_blk (Kd.R_ne HO1017.out BK997.out (by decide)))) _).trans (((cell_far (p := ⟨gb997, _, none⟩) (by first | exact Kd.own_blk (Kd.R_ne HO1017.out BK997.out (by decide)) | (rw [add_block]; exact Kd.own_blk (Kd.R_ne HO1017.out BK997.out (by decide))) | (show (Addr.add _ _).block ≠ _; rw [add_block]; exact Kd.own_blk (Kd.R_ne HO1017.out BK997.out (by decide))) | (dsimp only; exact Kd.own_blk (Kd.R_ne HO1017.out BK997.out (by decide)))) _).trans (((cell_far (p := ⟨gb997, _, none⟩) (by first | exact Kd.own_blk (Kd.R_ne HO1017.out BK997.out (by decide)) | (rw [add_block]; exact Kd.own_blk (Kd.R_ne HO1017.out BK997.out (by decide))) | (show (Addr.add _ _).block ≠ _; rw [add_block]; exact Kd.own_blk (Kd.R_ne HO1017.out BK997.out (by decide))) | (dsimp only; exact Kd.own_blk (Kd.R_ne HO1017.out BK997.out (by decide)))) _).trans (hHeld.2))))))))))⟩ (fun hHeld => ?_)
 clear hK K
 refine pQ HT_ 20 (some 5) #[tt,tt,tt,tt,tt,tt,tt,tt,tt,tt,tt,tt,tt,tt,tt,tt,tt,tt,tt,tt,tt] rfl rfl ?_
 refine done_ (done_of HT_.out (by kernel_rfl)) ?_
 try go_wp2
 refine bodyPost_ret (results_ct rfl _ _ gb997 27 #[.slice Ao53 t1022.length co53, .int .i64 ((rd_T25 t1014 (l0_0.length : Int)).f0), .bool ((rd_T25 t1014 (l0_0.length : Int)).f1), .slice Ao52 t1030.length co52, .slice Ao51 t1037.length co51] (0, 0) _ rfl (by (repeat refine blk_q ?_); refine blk_put (cs := #[.slice Ao53 t1022.length co53, .int .i64 ((rd_T25 t1014 (l0_0.length : Int)).f0), .bool ((rd_T25 t1014 (l0_0.length : Int)).f1), .slice Ao52 t1030.length co52, .slice none 0 0]) ?_ 4 _ rfl; (repeat refine blk_q ?_); refine blk_put (cs := #[.slice Ao53 t1022.length co53, .int .i64 ((rd_T25 t1014 (l0_0.length : Int)).f0), .bool ((rd_T25 t1014 (l0_0.length : Int)).f1), .slice none 0 0, .slice none 0 0]) ?_ 3 _ rfl; (repeat refine blk_q ?_); refine blk_put (cs := #[.slice Ao53 t1022.length co53, .int .i64 ((rd_T25 t1014 (l0_0.length : Int)).f0), .bool false, .slice none 0 0, .slice none 0 0]) ?_ 2 _ rfl; (repeat refine blk_q ?_); refine blk_put (cs := #[.slice Ao53 t1022.length co53, .int .i64 0, .bool false, .slice none 0 0, .slice none 0 0]) ?_ 1 _ rfl; (repeat refine blk_q ?_); refine blk_put (cs := #[.slice none 0 0, .int .i64 0, .bool false, .slice none 0 0, .slice none 0 0]) ?_ 0 _ rfl; (repeat refine blk_q ?_); exact BK997.out) Tryd.underlying27 rfl (by kernel_rfl)) rfl ?_
 exact ⟨_, _, _, by first | rfl | (simp [errW_none, errW_some] <;> rfl) | (simp only [← hji15, ← hji20]; first | rfl | (simp [errW_none, errW_some] <;> rfl)) | (simp [*, errW_none, errW_some] <;> rfl), by (repeat refine R_q ?_); exact Kd.R_mono (Kd.R_far (p := ⟨gb997, 4, none⟩) (Kd.R_far (p := ⟨gb997, 3, none⟩) (Kd.R_far (p := ⟨gb997, 2, none⟩) (Kd.R_far (p := ⟨gb997, 1, none⟩) (Kd.R_far (p := ⟨gb997, 0, none⟩) (Kd.R_types HO1024.out BK997.out (by decide)) (fun _ hk => hk.2) (.slice Ao53 t1022.length co53)) (fun _ hk => hk.2) (.int .i64 ((rd_T25 t1014 (l0_0.length : Int)).f0))) (fun _ hk => hk.2) (.bool ((rd_T25 t1014 (l0_0.length : Int)).f1))) (fun _ hk => hk.2) (.slice Ao52 t1030.length co52)) (fun _ hk => hk.2) (.slice Ao51 t1037.length co51)) (fun _ hk => ⟨hk.1.1.2, hk.1.2⟩), by (repeat refine R_q ?_); exact Kd.R_mono (Kd.R_far (p := ⟨gb997, 4, none⟩) (Kd.R_far (p := ⟨gb997, 3, none⟩) (Kd.R_far (p := ⟨gb997, 2, none⟩) (Kd.R_far (p := ⟨gb997, 1, none⟩) (Kd.R_far (p := ⟨gb997, 0, none⟩) (Kd.R_types HO1032.out BK997.out (by decide)) (fun _ hk => hk.2) (.slice Ao53 t1022.length co53)) (fun _ hk => hk.2) (.int .i64 ((rd_T25 t1014 (l0_0.length : Int)).f0))) (fun _ hk => hk.2) (.bool ((rd_T25 t1014 (l0_0.length : Int)).f1))) (fun _ hk => hk.2) (.slice Ao52 t1030.length co52)) (fun _ hk => hk.2) (.slice Ao51 t1037.length co51)) (fun _ hk => ⟨hk.1.1.2, hk.1.2⟩), by (repeat refine R_q ?_); exact Kd.R_mono (Kd.R_far (p := ⟨gb997, 4, none⟩) (Kd.R_far (p := ⟨gb997, 3, none⟩) (Kd.R_far (p := ⟨gb997, 2, none⟩) (Kd.R_far (p := ⟨gb997, 1, none⟩) (Kd.R_far (p := ⟨gb997, 0, none⟩) (Kd.R_types HO1039.out BK997.out (by decide)) (fun _ hk => hk.2) (.slice Ao53 t1022.length co53)) (fun _ hk => hk.2) (.int .i64 ((rd_T25 t1014 (l0_0.length : Int)).f0))) (fun _ hk => hk.2) (.bool ((rd_T25 t1014 (l0_0.length : Int)).f1))) (fun _ hk => hk.2) (.slice Ao52 t1030.length co52)) (fun _ hk => hk.2) (.slice Ao51 t1037.length co51)) (fun _ hk => ⟨hk.1.1.2, hk.1.2⟩), by repeat (first | (with_reducible first | exact HB.out | apply below_alloc | apply pw_below_drewN | apply below_drew1 | refine below_set ?_ GE996.out | refine below_set ?_ GE997.out) | exact HB.out)⟩
def spec_l6In.f (a0 : Int) (a1 : Int) (a2 : Int) : Option (Bool) := if a0 ≥ a1 then (some (decide (a0 ≤ a2))) else (some false)
set_option maxHeartbeats 8000000 in
set_option maxRecDepth 100000 in
theorem spec_l6In.calls (a0 : Int) (a1 : Int) (a2 : Int) (r : Bool) (w : World) (h : spec_l6In.f a0 a1 a2 = some r) :
  Calls Tryd.prog 99 #[.int .i64 a0, .int .i64 a1, .int .i64 a2] w fun e w' => e = .returned (.bool r) ∧ Drawn0 w w' := by
 have H : (if a0 ≥ a1 then (some (decide (a0 ≤ a2))) else (some false)) = some r := h
 clear h
 by_cases c4 : a0 ≥ a1
 ·rw [if_pos c4] at H
  have c4b0 : decide (a1 ≤ a0) = true := decide_eq_true c4
  clear c4
  obtain rfl := Option.some.inj H
  go_enter Tryd.func99, Tryd.ntmps99
  go_wp2
  go_ret
  exact ⟨by first | rfl | (simp; done) | (simp [*]; done), by repeat (first | exact Drawn0.refl _ | apply Drawn0.step)⟩
 rw [if_neg c4] at H
 have c4b0 : decide (a1 ≤ a0) = false := decide_eq_false c4
 clear c4
 obtain rfl := Option.some.inj H
 go_enter Tryd.func99, Tryd.ntmps99
 go_wp2
 go_ret
 exact ⟨by first | rfl | (simp; done) | (simp [*]; done), by repeat (first | exact Drawn0.refl _ | apply Drawn0.step)⟩
def spec_ToneValid.f (a0_0 : Int) (a0_1 : Bool) : Option (Bool) := (spec_l6In.f a0_0 0 20).bind fun t229 => (if t229 = true then (if a0_1 = true then ((spec_l1Letter.f a0_0).bind fun t230 => (some (t230 == 2))) else (some true)) else (some false))
set_option maxHeartbeats 8000000 in
set_option maxRecDepth 100000 in
theorem spec_ToneValid.calls (a0_0 : Int) (a0_1 : Bool) (r : Bool) (w : World) (h : spec_ToneValid.f a0_0 a0_1 = some r) :
  Calls Tryd.prog 89 #[.agg #[.int .i64 a0_0, .bool a0_1]] w fun e w' => e = .returned (.bool r) ∧ Below w.heap.size w w' := by
 have hu25 := Tryd.underlying25
 have HB := Q0_ (Below.refl w.heap.size w)
 have H : ((spec_l6In.f a0_0 0 20).bind fun t229 => (if t229 = true then (if a0_1 = true then ((spec_l1Letter.f a0_0).bind fun t230 => (some (t230 == 2))) else (some true)) else (some false))) = some r := h
 clear h
 obtain ⟨t229, A20, H⟩ := Option.bind_eq_some_iff.mp H
 try dsimp only at H
 have A2 := Aside0.mk A20
 clear A20
 by_cases c3 : t229 = true
 rotate_left
 ·replace c3 := Bool.eq_false_iff.mpr c3
  subst c3
  replace H := ifN ((show ¬ (false = true) by decide)) H
  obtain rfl := Option.some.inj H
  go_enter Tryd.func89, Tryd.ntmps89
  go_wp2_with (first | ((with_reducible refine gate_dst (N := 1) rfl ?_); refine box_event ?hg (N := 1) ?hd (cs := #[.int .i64 a0_0, .bool a0_1]) (t := 25) ?hr ?_; (case hd => rfl); (case hg => rfl); (case hr => first | (go_simp; done) | (go_simp; rfl)); intro gb228 hg w10 hbox hb; have n0_ := Q0_ (below_step (upB HB) hb); have n1_ := Q0_ (hbox); have n2_ := Q0_ ((by rw [hg]; exact (below_size (upB HB)) : w.heap.size ≤ gb228)); have n3_ := Q0_ ((by rw [hg]; exact (below_size (upB HB)) : w.heap.size ≤ gb228)); clear HB; revert n0_ n1_ n2_ n3_; intro HB BK228 GW228 GE228; clear hb hbox hg; have hcz11_0 : w10.cell? ⟨gb228, 0, none⟩ = some (.int .i64 a0_0) := (blk_cell BK228.out 0).trans rfl; have hcz11_1 : w10.cell? ⟨gb228, 1, none⟩ = some (.bool a0_1) := (blk_cell BK228.out 1).trans rfl; have hfz11_0 := blk_frozen BK228.out 0; have hfz11_1 := blk_frozen BK228.out 1) | ((with_reducible refine gate_callee (f := 99) rfl ?_); refine goesL_ (some 5) rfl rfl Tryd.func99 (by kernel_rfl) rfl #[.int .i64 a0_0, .int .i64 0, .int .i64 20] rfl hM ?_; (with_reducible refine (spec_l6In.calls a0_0 0 20 false _ A2.out).mono ?_); rintro e w' ⟨rfl, ⟨nd, rfl⟩⟩; refine ⟨_, rfl, ?_⟩))
  go_ret
  exact ⟨by first | rfl | (simp [errW_none, errW_some] <;> rfl) | (simp [*, errW_none, errW_some] <;> rfl), by repeat (first | (with_reducible first | exact HB.out | apply below_alloc | apply pw_below_drewN | apply below_drew1 | refine below_set ?_ GE228.out) | exact HB.out)⟩
 subst c3
 replace H := ifP (rfl) H
 by_cases c4 : a0_1 = true
 rotate_left
 ·replace c4 := Bool.eq_false_iff.mpr c4
  subst c4
  replace H := ifN ((show ¬ (false = true) by decide)) H
  obtain rfl := Option.some.inj H
  go_enter Tryd.func89, Tryd.ntmps89
  go_wp2_with (first | ((with_reducible refine gate_dst (N := 1) rfl ?_); refine box_event ?hg (N := 1) ?hd (cs := #[.int .i64 a0_0, .bool false]) (t := 25) ?hr ?_; (case hd => rfl); (case hg => rfl); (case hr => first | (go_simp; done) | (go_simp; rfl)); intro gb228 hg w8 hbox hb; have n0_ := Q0_ (below_step (upB HB) hb); have n1_ := Q0_ (hbox); have n2_ := Q0_ ((by rw [hg]; exact (below_size (upB HB)) : w.heap.size ≤ gb228)); have n3_ := Q0_ ((by rw [hg]; exact (below_size (upB HB)) : w.heap.size ≤ gb228)); clear HB; revert n0_ n1_ n2_ n3_; intro HB BK228 GW228 GE228; clear hb hbox hg; have hcz9_0 : w8.cell? ⟨gb228, 0, none⟩ = some (.int .i64 a0_0) := (blk_cell BK228.out 0).trans rfl; have hcz9_1 : w8.cell? ⟨gb228, 1, none⟩ = some (.bool false) := (blk_cell BK228.out 1).trans rfl; have hfz9_0 := blk_frozen BK228.out 0; have hfz9_1 := blk_frozen BK228.out 1) | ((with_reducible refine gate_callee (f := 99) rfl ?_); refine goesL_ (some 5) rfl rfl Tryd.func99 (by kernel_rfl) rfl #[.int .i64 a0_0, .int .i64 0, .int .i64 20] rfl hM ?_; (with_reducible refine (spec_l6In.calls a0_0 0 20 true _ A2.out).mono ?_); rintro e w' ⟨rfl, ⟨nd, rfl⟩⟩; refine ⟨_, rfl, ?_⟩))
  go_ret
  exact ⟨by first | rfl | (simp [errW_none, errW_some] <;> rfl) | (simp [*, errW_none, errW_some] <;> rfl), by repeat (first | (with_reducible first | exact HB.out | apply below_alloc | apply pw_below_drewN | apply below_drew1 | refine below_set ?_ GE228.out) | exact HB.out)⟩
 subst c4
 replace H := ifP (rfl) H
 obtain ⟨t230, A50, H⟩ := Option.bind_eq_some_iff.mp H
 try dsimp only at H
 have A5 := Aside0.mk A50
 clear A50
 obtain rfl := Option.some.inj H
 go_enter Tryd.func89, Tryd.ntmps89
 go_wp2_with (first | ((with_reducible refine gate_dst (N := 1) rfl ?_); refine box_event ?hg (N := 1) ?hd (cs := #[.int .i64 a0_0, .bool true]) (t := 25) ?hr ?_; (case hd => rfl); (case hg => rfl); (case hr => first | (go_simp; done) | (go_simp; rfl)); intro gb228 hg w6 hbox hb; have n0_ := Q0_ (below_step (upB HB) hb); have n1_ := Q0_ (hbox); have n2_ := Q0_ ((by rw [hg]; exact (below_size (upB HB)) : w.heap.size ≤ gb228)); have n3_ := Q0_ ((by rw [hg]; exact (below_size (upB HB)) : w.heap.size ≤ gb228)); clear HB; revert n0_ n1_ n2_ n3_; intro HB BK228 GW228 GE228; clear hb hbox hg; have hcz7_0 : w6.cell? ⟨gb228, 0, none⟩ = some (.int .i64 a0_0) := (blk_cell BK228.out 0).trans rfl; have hcz7_1 : w6.cell? ⟨gb228, 1, none⟩ = some (.bool true) := (blk_cell BK228.out 1).trans rfl; have hfz7_0 := blk_frozen BK228.out 0; have hfz7_1 := blk_frozen BK228.out 1) | ((with_reducible refine gate_callee (f := 99) rfl ?_); refine goesL_ (some 5) rfl rfl Tryd.func99 (by kernel_rfl) rfl #[.int .i64 a0_0, .int .i64 0, .int .i64 20] rfl hM ?_; (with_reducible refine (spec_l6In.calls a0_0 0 20 true _ A2.out).mono ?_); rintro e w' ⟨rfl, ⟨nd, rfl⟩⟩; refine ⟨_, rfl, ?_⟩) | (go_at_call 94; (with_reducible refine (spec_l1Letter.calls a0_0 t230 _ A5.out).mono ?_); rintro e w' ⟨rfl, ⟨nd, rfl⟩⟩))
 go_ret
 exact ⟨by first | rfl | (simp [errW_none, errW_some] <;> rfl) | (simp [*, errW_none, errW_some] <;> rfl), by repeat (first | (with_reducible first | exact HB.out | apply below_alloc | apply pw_below_drewN | apply below_drew1 | refine below_set ?_ GE228.out) | exact HB.out)⟩
def spec_MelodyValid.l0 : Nat → List (S25) → Int → Option (Bool)
 | 0, _, _ => none
 | k + 1, x0, x3 => if x3 < (x0.length : Int) then (if 0 ≤ x3 then ((spec_ToneValid.f ((rd_T25 x0 x3).f0) ((rd_T25 x0 x3).f1)).bind fun t232 => (if t232 = true then (spec_MelodyValid.l0 k x0 (wrap64 (x3 + 1))) else (some false))) else (none)) else (some (decide ((x0.length : Int) ≤ 24)))
def spec_MelodyValid.f (k : Nat) (l0 : List (S25)) : Option (Bool) := spec_MelodyValid.l0 k l0 0
set_option maxHeartbeats 8000000 in
set_option maxRecDepth 100000 in
theorem spec_MelodyValid.calls (k : Nat) (A0 : Option Addr) (c0 : Nat) (l0 : List (S25)) (r : Bool) (w : World) (hr0 : Kd.C k25 w A0 l0.length l0) (hc0 : l0.length ≤ c0) (h : spec_MelodyValid.f k l0 = some r) :
  Calls Tryd.prog 77 #[.slice A0 l0.length c0] w fun e w' => e = .returned (.bool r) ∧ Below w.heap.size w w' := by
 have hu25 := Tryd.underlying25
 have HR0 := Aside0.mk hr0
 have HC0 := Aside0.mk hc0
 clear hr0 hc0
 have HB := Q0_ (Below.refl w.heap.size w)
 have H : (spec_MelodyValid.l0 k l0 0) = some r := h
 clear h
 have H' := Aside0.mk H
 clear H
 go_enter Tryd.func77, Tryd.ntmps77
 go_wp2
 go_loopg [3] k (fun kq v3 w' => ∃ (x3_1 : Int), v3 = .int .i64 x3_1 ∧ Aside0 (spec_MelodyValid.l0 kq l0 x3_1 = some r) ∧ Aside0 (kq ≤ k) ∧ Aside0 (Below w.heap.size w w'))
 case atStart => exact ⟨(0), eX, H', ⟨Nat.le_refl _⟩, ⟨by repeat (first | (with_reducible first | exact HB.out | apply below_alloc | apply pw_below_drewN | apply below_drew1) | exact HB.out)⟩⟩
 case round =>
  clear H'
  obtain ⟨x3_1, rfl, HA, HK1, HB⟩ := hrel
  cases gk with
  | zero => exact absurd HA.out (by simp [spec_MelodyValid.l0])
  | succ k1 =>
   have H := HA.out
   clear HA
   simp only [spec_MelodyValid.l0] at H
   by_cases c2 : x3_1 < (l0.length : Int)
   rotate_left
   ·rw [if_neg c2] at H
    have c2b0 : decide (x3_1 < (l0.length : Int)) = false := decide_eq_false c2
    clear c2
    obtain rfl := Option.some.inj H
    go_wp2
    go_ret
    exact ⟨by first | rfl | (simp [errW_none, errW_some] <;> rfl) | (simp [*, errW_none, errW_some] <;> rfl), by repeat (first | (with_reducible first | exact HB.out | apply below_alloc | apply pw_below_drewN | apply below_drew1) | exact HB.out)⟩
   rw [if_pos c2] at H
   have c2b0 : decide (x3_1 < (l0.length : Int)) = true := decide_eq_true c2
   clear c2
   by_cases c3 : 0 ≤ x3_1
   rotate_left
   ·rw [if_neg c3] at H
    exact absurd H (by simp)
   rw [if_pos c3] at H
   have c3b0 : decide (0 ≤ x3_1) = true := decide_eq_true c3
   clear c3
   obtain ⟨t232, A40, H⟩ := Option.bind_eq_some_iff.mp H
   try dsimp only at H
   have A4 := Aside0.mk A40
   clear A40
   by_cases c5 : t232 = true
   rotate_left
   ·replace c5 := Bool.eq_false_iff.mpr c5
    subst c5
    replace H := ifN ((show ¬ (false = true) by decide)) H
    obtain rfl := Option.some.inj H
    have p231 : 0 ≤ (x3_1 : Int) := of_decide_eq_true aS
    have q231 : x3_1 < (l0.length : Int) := of_decide_eq_true aS
    obtain ⟨ad231, e231, hx231_0, hx231_1⟩ := at_T25 HR0.out x3_1 p231 q231
    cases e231
    replace hx231_0 := (HB.out.cell (World.block_lt_of_cell? w _ hx231_0)).trans hx231_0
    replace hx231_1 := (HB.out.cell (World.block_lt_of_cell? w _ hx231_1)).trans hx231_1
    replace p231 := eq_true p231
    replace q231 := eq_true q231
    go_wp2_with (first | ((with_reducible refine gate_callee (f := 89) rfl ?_); refine goesL_ (some 14) rfl rfl Tryd.func89 (by kernel_rfl) rfl #[.agg #[.int .i64 ((rd_T25 l0 x3_1).f0), .bool ((rd_T25 l0 x3_1).f1)]] rfl hM ?_; (with_reducible refine (spec_ToneValid.calls ((rd_T25 l0 x3_1).f0) ((rd_T25 l0 x3_1).f1) false _ A4.out).mono ?_); rintro e w7 ⟨rfl, hb⟩; refine ⟨_, rfl, ?_⟩; have n0_ := Q0_ (below_step (upB HB) hb); clear HB; revert n0_; intro HB; (try clear hb); (try clear hb2); (try clear hk); (try clear hi)))
    go_ret
    exact ⟨by first | rfl | (simp [errW_none, errW_some] <;> rfl) | (simp [*, errW_none, errW_some] <;> rfl), by repeat (first | (with_reducible first | exact HB.out | apply below_alloc | apply pw_below_drewN | apply below_drew1) | exact HB.out)⟩
   subst c5
   replace H := ifP (rfl) H
   have H' := Aside0.mk H
   clear H
   have p231 : 0 ≤ (x3_1 : Int) := of_decide_eq_true aS
   have q231 : x3_1 < (l0.length : Int) := of_decide_eq_true aS
   obtain ⟨ad231, e231, hx231_0, hx231_1⟩ := at_T25 HR0.out x3_1 p231 q231
   cases e231
   replace hx231_0 := (HB.out.cell (World.block_lt_of_cell? w _ hx231_0)).trans hx231_0
   replace hx231_1 := (HB.out.cell (World.block_lt_of_cell? w _ hx231_1)).trans hx231_1
   replace p231 := eq_true p231
   replace q231 := eq_true q231
   go_wp2_with (first | ((with_reducible refine gate_callee (f := 89) rfl ?_); refine goesL_ (some 14) rfl rfl Tryd.func89 (by kernel_rfl) rfl #[.agg #[.int .i64 ((rd_T25 l0 x3_1).f0), .bool ((rd_T25 l0 x3_1).f1)]] rfl hM ?_; (with_reducible refine (spec_ToneValid.calls ((rd_T25 l0 x3_1).f0) ((rd_T25 l0 x3_1).f1) true _ A4.out).mono ?_); rintro e w6 ⟨rfl, hb⟩; refine ⟨_, rfl, ?_⟩; have n0_ := Q0_ (below_step (upB HB) hb); clear HB; revert n0_; intro HB; (try clear hb); (try clear hb2); (try clear hk); (try clear hi)))
   go_roundg k1
   case measure => have := HK1.out; omega
   case rel => exact ⟨(wrap64 (x3_1 + 1)), eX, H', ⟨by have := HK1.out; omega⟩, ⟨by repeat (first | (with_reducible first | exact HB.out | apply below_alloc | apply pw_below_drewN | apply below_drew1) | exact HB.out)⟩⟩
def spec_l4Tones.f (k : Nat) (l0 : List (S25)) (a1 : Int) (a2 : Int) : Option (Bool) := (spec_MelodyValid.f k l0).bind fun t233 => (if t233 = true then ((spec_l6In.f (l0.length : Int) a1 a2).bind fun t234 => (some t234)) else (some false))
set_option maxHeartbeats 8000000 in
set_option maxRecDepth 100000 in
theorem spec_l4Tones.calls (k : Nat) (A0 : Option Addr) (c0 : Nat) (l0 : List (S25)) (a1 : Int) (a2 : Int) (r : Bool) (w : World) (hr0 : Kd.C k25 w A0 l0.length l0) (hc0 : l0.length ≤ c0) (h : spec_l4Tones.f k l0 a1 a2 = some r) :
  Calls Tryd.prog 88 #[.slice A0 l0.length c0, .int .i64 a1, .int .i64 a2] w fun e w' => e = .returned (.bool r) ∧ Below w.heap.size w w' := by
 have HR0 := Aside0.mk hr0
 have HC0 := Aside0.mk hc0
 clear hr0 hc0
 have HB := Q0_ (Below.refl w.heap.size w)
 have H : ((spec_MelodyValid.f k l0).bind fun t233 => (if t233 = true then ((spec_l6In.f (l0.length : Int) a1 a2).bind fun t234 => (some t234)) else (some false))) = some r := h
 clear h
 obtain ⟨t233, A40, H⟩ := Option.bind_eq_some_iff.mp H
 try dsimp only at H
 have A4 := Aside0.mk A40
 clear A40
 by_cases c5 : t233 = true
 rotate_left
 ·replace c5 := Bool.eq_false_iff.mpr c5
  subst c5
  replace H := ifN ((show ¬ (false = true) by decide)) H
  obtain rfl := Option.some.inj H
  go_enter Tryd.func88, Tryd.ntmps88
  go_wp2_with (first | ((with_reducible refine gate_callee (f := 77) rfl ?_); refine goesL_ (some 8) rfl rfl Tryd.func77 (by kernel_rfl) rfl #[.slice A0 l0.length c0] rfl hM ?_; (with_reducible refine (spec_MelodyValid.calls k _ _ l0 false _ ?side1 ?side2 A4.out).mono ?_); (case side1 => repeat (first | exact HR0.out | refine C_q ?_)); (case side2 => exact HC0.out); rintro e w8 ⟨rfl, hb⟩; refine ⟨_, rfl, ?_⟩; have n0_ := Q0_ (below_step (upB HB) hb); clear HB; revert n0_; intro HB; (try clear hb); (try clear hb2); (try clear hk); (try clear hi)))
  go_ret
  exact ⟨by first | rfl | (simp [errW_none, errW_some] <;> rfl) | (simp [*, errW_none, errW_some] <;> rfl), by repeat (first | (with_reducible first | exact HB.out | apply below_alloc | apply pw_below_drewN | apply below_drew1) | exact HB.out)⟩
 subst c5
 replace H := ifP (rfl) H
 obtain ⟨t234, A60, H⟩ := Option.bind_eq_some_iff.mp H
 try dsimp only at H
 have A6 := Aside0.mk A60
 clear A60
 obtain rfl := Option.some.inj H
 go_enter Tryd.func88, Tryd.ntmps88
 go_wp2_with (first | ((with_reducible refine gate_callee (f := 77) rfl ?_); refine goesL_ (some 8) rfl rfl Tryd.func77 (by kernel_rfl) rfl #[.slice A0 l0.length c0] rfl hM ?_; (with_reducible refine (spec_MelodyValid.calls k _ _ l0 true _ ?side1 ?side2 A4.out).mono ?_); (case side1 => repeat (first | exact HR0.out | refine C_q ?_)); (case side2 => exact HC0.out); rintro e w7 ⟨rfl, hb⟩; refine ⟨_, rfl, ?_⟩; have n0_ := Q0_ (below_step (upB HB) hb); clear HB; revert n0_; intro HB; (try clear hb); (try clear hb2); (try clear hk); (try clear hi)) | (go_at_call 99; (with_reducible refine (spec_l6In.calls (l0.length : Int) a1 a2 t234 _ A6.out).mono ?_); rintro e w' ⟨rfl, ⟨nd, rfl⟩⟩))
 go_ret
 exact ⟨by first | rfl | (simp [errW_none, errW_some] <;> rfl) | (simp [*, errW_none, errW_some] <;> rfl), by repeat (first | (with_reducible first | exact HB.out | apply below_alloc | apply pw_below_drewN | apply below_drew1) | exact HB.out)⟩
def spec_PsalmValid.f (k : Nat) (l0_0 : List (S25)) (a0_1 : Int) (a0_2 : Bool) (l0_3 : List (S25)) (l0_4 : List (S25)) : Option (Bool) := (spec_l4Tones.f k l0_0 0 3).bind fun t236 => (if t236 = true then ((spec_ToneValid.f a0_1 a0_2).bind fun t237 => (if t237 = true then ((spec_l4Tones.f k l0_3 1 4).bind fun t238 => (if t238 = true then ((spec_l4Tones.f k l0_4 1 4).bind fun t239 => (some t239)) else (some false))) else (some false))) else (some false))
set_option maxHeartbeats 8000000 in
set_option maxRecDepth 100000 in
theorem spec_PsalmValid.calls (k : Nat) (A0_0 : Option Addr) (c0_0 : Nat) (l0_0 : List (S25)) (a0_1 : Int) (a0_2 : Bool) (A0_3 : Option Addr) (c0_3 : Nat) (l0_3 : List (S25)) (A0_4 : Option Addr) (c0_4 : Nat) (l0_4 : List (S25)) (r : Bool) (w : World) (hr0_0 : Kd.C k25 w A0_0 l0_0.length l0_0) (hc0_0 : l0_0.length ≤ c0_0) (hr0_3 : Kd.C k25 w A0_3 l0_3.length l0_3) (hc0_3 : l0_3.length ≤ c0_3) (hr0_4 : Kd.C k25 w A0_4 l0_4.length l0_4) (hc0_4 : l0_4.length ≤ c0_4) (h : spec_PsalmValid.f k l0_0 a0_1 a0_2 l0_3 l0_4 = some r) :
  Calls Tryd.prog 60 #[.agg #[.slice A0_0 l0_0.length c0_0, .int .i64 a0_1, .bool a0_2, .slice A0_3 l0_3.length c0_3, .slice A0_4 l0_4.length c0_4]] w fun e w' => e = .returned (.bool r) ∧ Below w.heap.size w w' := by
 have hu27 := Tryd.underlying27
 have hu25 := Tryd.underlying25
 have HR0_0 := Aside0.mk hr0_0
 have HC0_0 := Aside0.mk hc0_0
 clear hr0_0 hc0_0
 have HR0_3 := Aside0.mk hr0_3
 have HC0_3 := Aside0.mk hc0_3
 clear hr0_3 hc0_3
 have HR0_4 := Aside0.mk hr0_4
 have HC0_4 := Aside0.mk hc0_4
 clear hr0_4 hc0_4
 have HB := Q0_ (Below.refl w.heap.size w)
 have H : ((spec_l4Tones.f k l0_0 0 3).bind fun t236 => (if t236 = true then ((spec_ToneValid.f a0_1 a0_2).bind fun t237 => (if t237 = true then ((spec_l4Tones.f k l0_3 1 4).bind fun t238 => (if t238 = true then ((spec_l4Tones.f k l0_4 1 4).bind fun t239 => (some t239)) else (some false))) else (some false))) else (some false))) = some r := h
 clear h
 obtain ⟨t236, A20, H⟩ := Option.bind_eq_some_iff.mp H
 try dsimp only at H
 have A2 := Aside0.mk A20
 clear A20
 by_cases c3 : t236 = true
 rotate_left
 ·replace c3 := Bool.eq_false_iff.mpr c3
  subst c3
  replace H := ifN ((show ¬ (false = true) by decide)) H
  obtain rfl := Option.some.inj H
  go_enter Tryd.func60, Tryd.ntmps60
  go_wp2_with (first | ((with_reducible refine gate_dst (N := 1) rfl ?_); refine box_event ?hg (N := 1) ?hd (cs := #[.slice A0_0 l0_0.length c0_0, .int .i64 a0_1, .bool a0_2, .slice A0_3 l0_3.length c0_3, .slice A0_4 l0_4.length c0_4]) (t := 27) ?hr ?_; (case hd => rfl); (case hg => rfl); (case hr => first | (go_simp; done) | (go_simp; rfl)); intro gb235 hg w30 hbox hb; have n0_ := Q0_ (below_step (upB HB) hb); have n1_ := Q0_ (hbox); have n2_ := Q0_ ((by rw [hg]; exact (below_size (upB HB)) : w.heap.size ≤ gb235)); have n3_ := Q0_ ((by rw [hg]; exact (below_size (upB HB)) : w.heap.size ≤ gb235)); clear HB; revert n0_ n1_ n2_ n3_; intro HB BK235 GW235 GE235; clear hb hbox hg; have hcz31_0 : w30.cell? ⟨gb235, 0, none⟩ = some (.slice A0_0 l0_0.length c0_0) := (blk_cell BK235.out 0).trans rfl; have hcz31_1 : w30.cell? ⟨gb235, 1, none⟩ = some (.int .i64 a0_1) := (blk_cell BK235.out 1).trans rfl; have hcz31_2 : w30.cell? ⟨gb235, 2, none⟩ = some (.bool a0_2) := (blk_cell BK235.out 2).trans rfl; have hcz31_3 : w30.cell? ⟨gb235, 3, none⟩ = some (.slice A0_3 l0_3.length c0_3) := (blk_cell BK235.out 3).trans rfl; have hcz31_4 : w30.cell? ⟨gb235, 4, none⟩ = some (.slice A0_4 l0_4.length c0_4) := (blk_cell BK235.out 4).trans rfl; have hfz31_0 := blk_frozen BK235.out 0; have hfz31_1 := blk_frozen BK235.out 1; have hfz31_2 := blk_frozen BK235.out 2; have hfz31_3 := blk_frozen BK235.out 3; have hfz31_4 := blk_frozen BK235.out 4) | ((with_reducible refine gate_callee (f := 88) rfl ?_); refine goesL_ (some 5) rfl rfl Tryd.func88 (by kernel_rfl) rfl #[.slice A0_0 l0_0.length c0_0, .int .i64 0, .int .i64 3] rfl hM ?_; (with_reducible refine (spec_l4Tones.calls k _ _ l0_0 0 3 false _ ?side1 ?side2 A2.out).mono ?_); (case side1 => repeat (first | exact (Kd.C_below HR0_0.out HB.out) | refine C_q ?_)); (case side2 => exact HC0_0.out); rintro e w32 ⟨rfl, hb⟩; refine ⟨_, rfl, ?_⟩; have n0_ := Q0_ (blk_below (upK BK235) hb); have n1_ := Q0_ (below_step upH hb); clear BK235 HB; revert n0_ n1_; intro BK235 HB; (try clear hb); (try clear hb2); (try clear hk); (try clear hi)))
  go_ret
  exact ⟨by first | rfl | (simp [errW_none, errW_some] <;> rfl) | (simp [*, errW_none, errW_some] <;> rfl), by repeat (first | (with_reducible first | exact HB.out | apply below_alloc | apply pw_below_drewN | apply below_drew1 | refine below_set ?_ GE235.out) | exact HB.out)⟩
 subst c3
 replace H := ifP (rfl) H
 obtain ⟨t237, A40, H⟩ := Option.bind_eq_some_iff.mp H
 try dsimp only at H
 have A4 := Aside0.mk A40
 clear A40
 by_cases c5 : t237 = true
 rotate_left
 ·replace c5 := Bool.eq_false_iff.mpr c5
  subst c5
  replace H := ifN ((show ¬ (false = true) by decide)) H
  obtain rfl := Option.some.inj H
  go_enter Tryd.func60, Tryd.ntmps60
  go_wp2_with (first | ((with_reducible refine gate_dst (N := 1) rfl ?_); refine box_event ?hg (N := 1) ?hd (cs := #[.slice A0_0 l0_0.length c0_0, .int .i64 a0_1, .bool a0_2, .slice A0_3 l0_3.length c0_3, .slice A0_4 l0_4.length c0_4]) (t := 27) ?hr ?_; (case hd => rfl); (case hg => rfl); (case hr => first | (go_simp; done) | (go_simp; rfl)); intro gb235 hg w25 hbox hb; have n0_ := Q0_ (below_step (upB HB) hb); have n1_ := Q0_ (hbox); have n2_ := Q0_ ((by rw [hg]; exact (below_size (upB HB)) : w.heap.size ≤ gb235)); have n3_ := Q0_ ((by rw [hg]; exact (below_size (upB HB)) : w.heap.size ≤ gb235)); clear HB; revert n0_ n1_ n2_ n3_; intro HB BK235 GW235 GE235; clear hb hbox hg; have hcz26_0 : w25.cell? ⟨gb235, 0, none⟩ = some (.slice A0_0 l0_0.length c0_0) := (blk_cell BK235.out 0).trans rfl; have hcz26_1 : w25.cell? ⟨gb235, 1, none⟩ = some (.int .i64 a0_1) := (blk_cell BK235.out 1).trans rfl; have hcz26_2 : w25.cell? ⟨gb235, 2, none⟩ = some (.bool a0_2) := (blk_cell BK235.out 2).trans rfl; have hcz26_3 : w25.cell? ⟨gb235, 3, none⟩ = some (.slice A0_3 l0_3.length c0_3) := (blk_cell BK235.out 3).trans rfl; have hcz26_4 : w25.cell? ⟨gb235, 4, none⟩ = some (.slice A0_4 l0_4.length c0_4) := (blk_cell BK235.out 4).trans rfl; have hfz26_0 := blk_frozen BK235.out 0; have hfz26_1 := blk_frozen BK235.out 1; have hfz26_2 := blk_frozen BK235.out 2; have hfz26_3 := blk_frozen BK235.out 3; have hfz26_4 := blk_frozen BK235.out 4) | ((with_reducible refine gate_callee (f := 88) rfl ?_); refine goesL_ (some 5) rfl rfl Tryd.func88 (by kernel_rfl) rfl #[.slice A0_0 l0_0.length c0_0, .int .i64 0, .int .i64 3] rfl hM ?_; (with_reducible refine (spec_l4Tones.calls k _ _ l0_0 0 3 true _ ?side1 ?side2 A2.out).mono ?_); (case side1 => repeat (first | exact (Kd.C_below HR0_0.out HB.out) | refine C_q ?_)); (case side2 => exact HC0_0.out); rintro e w27 ⟨rfl, hb⟩; refine ⟨_, rfl, ?_⟩; have n0_ := Q0_ (blk_below (upK BK235) hb); have n1_ := Q0_ (below_step upH hb); clear BK235 HB; revert n0_ n1_; intro BK235 HB; (try clear hb); (try clear hb2); (try clear hk); (try clear hi); have hcz28_0 : w27.cell? ⟨gb235, 0, none⟩ = some (.slice A0_0 l0_0.length c0_0) := (blk_cell BK235.out 0).trans rfl; have hcz28_1 : w27.cell? ⟨gb235, 1, none⟩ = some (.int .i64 a0_1) := (blk_cell BK235.out 1).trans rfl; have hcz28_2 : w27.cell? ⟨gb235, 2, none⟩ = some (.bool a0_2) := (blk_cell BK235.out 2).trans rfl; have hcz28_3 : w27.cell? ⟨gb235, 3, none⟩ = some (.slice A0_3 l0_3.length c0_3) := (blk_cell BK235.out 3).trans rfl; have hcz28_4 : w27.cell? ⟨gb235, 4, none⟩ = some (.slice A0_4 l0_4.length c0_4) := (blk_cell BK235.out 4).trans rfl; have hfz28_0 := blk_frozen BK235.out 0; have hfz28_1 := blk_frozen BK235.out 1; have hfz28_2 := blk_frozen BK235.out 2; have hfz28_3 := blk_frozen BK235.out 3; have hfz28_4 := blk_frozen BK235.out 4) | (go_at_call 89; (with_reducible refine (spec_ToneValid.calls a0_1 a0_2 false _ A4.out).mono ?_); rintro e w29 ⟨rfl, hb⟩; have n0_ := Q0_ (blk_below (upK BK235) hb); have n1_ := Q0_ (below_step upH hb); clear BK235 HB; revert n0_ n1_; intro BK235 HB; (try clear hb); (try clear hb2); (try clear hk); (try clear hi)))
  go_ret
  exact ⟨by first | rfl | (simp [errW_none, errW_some] <;> rfl) | (simp [*, errW_none, errW_some] <;> rfl), by repeat (first | (with_reducible first | exact HB.out | apply below_alloc | apply pw_below_drewN | apply below_drew1 | refine below_set ?_ GE235.out) | exact HB.out)⟩
 subst c5
 replace H := ifP (rfl) H
 obtain ⟨t238, A60, H⟩ := Option.bind_eq_some_iff.mp H
 try dsimp only at H
 have A6 := Aside0.mk A60
 clear A60
 by_cases c7 : t238 = true
 rotate_left
 ·replace c7 := Bool.eq_false_iff.mpr c7
  subst c7
  replace H := ifN ((show ¬ (false = true) by decide)) H
  obtain rfl := Option.some.inj H
  go_enter Tryd.func60, Tryd.ntmps60
  go_wp2_with (first | ((with_reducible refine gate_dst (N := 1) rfl ?_); refine box_event ?hg (N := 1) ?hd (cs := #[.slice A0_0 l0_0.length c0_0, .int .i64 a0_1, .bool a0_2, .slice A0_3 l0_3.length c0_3, .slice A0_4 l0_4.length c0_4]) (t := 27) ?hr ?_; (case hd => rfl); (case hg => rfl); (case hr => first | (go_simp; done) | (go_simp; rfl)); intro gb235 hg w18 hbox hb; have n0_ := Q0_ (below_step (upB HB) hb); have n1_ := Q0_ (hbox); have n2_ := Q0_ ((by rw [hg]; exact (below_size (upB HB)) : w.heap.size ≤ gb235)); have n3_ := Q0_ ((by rw [hg]; exact (below_size (upB HB)) : w.heap.size ≤ gb235)); clear HB; revert n0_ n1_ n2_ n3_; intro HB BK235 GW235 GE235; clear hb hbox hg; have hcz19_0 : w18.cell? ⟨gb235, 0, none⟩ = some (.slice A0_0 l0_0.length c0_0) := (blk_cell BK235.out 0).trans rfl; have hcz19_1 : w18.cell? ⟨gb235, 1, none⟩ = some (.int .i64 a0_1) := (blk_cell BK235.out 1).trans rfl; have hcz19_2 : w18.cell? ⟨gb235, 2, none⟩ = some (.bool a0_2) := (blk_cell BK235.out 2).trans rfl; have hcz19_3 : w18.cell? ⟨gb235, 3, none⟩ = some (.slice A0_3 l0_3.length c0_3) := (blk_cell BK235.out 3).trans rfl; have hcz19_4 : w18.cell? ⟨gb235, 4, none⟩ = some (.slice A0_4 l0_4.length c0_4) := (blk_cell BK235.out 4).trans rfl; have hfz19_0 := blk_frozen BK235.out 0; have hfz19_1 := blk_frozen BK235.out 1; have hfz19_2 := blk_frozen BK235.out 2; have hfz19_3 := blk_frozen BK235.out 3; have hfz19_4 := blk_frozen BK235.out 4) | ((with_reducible refine gate_callee (f := 88) rfl ?_); refine goesL_ (some 5) rfl rfl Tryd.func88 (by kernel_rfl) rfl #[.slice A0_0 l0_0.length c0_0, .int .i64 0, .int .i64 3] rfl hM ?_; (with_reducible refine (spec_l4Tones.calls k _ _ l0_0 0 3 true _ ?side1 ?side2 A2.out).mono ?_); (case side1 => repeat (first | exact (Kd.C_below HR0_0.out HB.out) | refine C_q ?_)); (case side2 => exact HC0_0.out); rintro e w20 ⟨rfl, hb⟩; refine ⟨_, rfl, ?_⟩; have n0_ := Q0_ (blk_below (upK BK235) hb); have n1_ := Q0_ (below_step upH hb); clear BK235 HB; revert n0_ n1_; intro BK235 HB; (try clear hb); (try clear hb2); (try clear hk); (try clear hi); have hcz21_0 : w20.cell? ⟨gb235, 0, none⟩ = some (.slice A0_0 l0_0.length c0_0) := (blk_cell BK235.out 0).trans rfl; have hcz21_1 : w20.cell? ⟨gb235, 1, none⟩ = some (.int .i64 a0_1) := (blk_cell BK235.out 1).trans rfl; have hcz21_2 : w20.cell? ⟨gb235, 2, none⟩ = some (.bool a0_2) := (blk_cell BK235.out 2).trans rfl; have hcz21_3 : w20.cell? ⟨gb235, 3, none⟩ = some (.slice A0_3 l0_3.length c0_3) := (blk_cell BK235.out 3).trans rfl; have hcz21_4 : w20.cell? ⟨gb235, 4, none⟩ = some (.slice A0_4 l0_4.length c0_4) := (blk_cell BK235.out 4).trans rfl; have hfz21_0 := blk_frozen BK235.out 0; have hfz21_1 := blk_frozen BK235.out 1; have hfz21_2 := blk_frozen BK235.out 2; have hfz21_3 := blk_frozen BK235.out 3; have hfz21_4 := blk_frozen BK235.out 4) | (go_at_call 89; (with_reducible refine (spec_ToneValid.calls a0_1 a0_2 true _ A4.out).mono ?_); rintro e w22 ⟨rfl, hb⟩; have n0_ := Q0_ (blk_below (upK BK235) hb); have n1_ := Q0_ (below_step upH hb); clear BK235 HB; revert n0_ n1_; intro BK235 HB; (try clear hb); (try clear hb2); (try clear hk); (try clear hi); have hcz23_0 : w22.cell? ⟨gb235, 0, none⟩ = some (.slice A0_0 l0_0.length c0_0) := (blk_cell BK235.out 0).trans rfl; have hcz23_1 : w22.cell? ⟨gb235, 1, none⟩ = some (.int .i64 a0_1) := (blk_cell BK235.out 1).trans rfl; have hcz23_2 : w22.cell? ⟨gb235, 2, none⟩ = some (.bool a0_2) := (blk_cell BK235.out 2).trans rfl; have hcz23_3 : w22.cell? ⟨gb235, 3, none⟩ = some (.slice A0_3 l0_3.length c0_3) := (blk_cell BK235.out 3).trans rfl; have hcz23_4 : w22.cell? ⟨gb235, 4, none⟩ = some (.slice A0_4 l0_4.length c0_4) := (blk_cell BK235.out 4).trans rfl; have hfz23_0 := blk_frozen BK235.out 0; have hfz23_1 := blk_frozen BK235.out 1; have hfz23_2 := blk_frozen BK235.out 2; have hfz23_3 := blk_frozen BK235.out 3; have hfz23_4 := blk_frozen BK235.out 4) | (go_at_call 88; (with_reducible refine (spec_l4Tones.calls k _ _ l0_3 1 4 false _ ?side1 ?side2 A6.out).mono ?_); (case side1 => repeat (first | exact (Kd.C_below HR0_3.out HB.out) | refine C_q ?_)); (case side2 => exact HC0_3.out); rintro e w24 ⟨rfl, hb⟩; have n0_ := Q0_ (blk_below (upK BK235) hb); have n1_ := Q0_ (below_step upH hb); clear BK235 HB; revert n0_ n1_; intro BK235 HB; (try clear hb); (try clear hb2); (try clear hk); (try clear hi)))
  go_ret
  exact ⟨by first | rfl | (simp [errW_none, errW_some] <;> rfl) | (simp [*, errW_none, errW_some] <;> rfl), by repeat (first | (with_reducible first | exact HB.out | apply below_alloc | apply pw_below_drewN | apply below_drew1 | refine below_set ?_ GE235.out) | exact HB.out)⟩
 subst c7
 replace H := ifP (rfl) H
 obtain ⟨t239, A80, H⟩ := Option.bind_eq_some_iff.mp H
 try dsimp only at H
 have A8 := Aside0.mk A80
 clear A80
 obtain rfl := Option.some.inj H
 go_enter Tryd.func60, Tryd.ntmps60
 go_wp2_with (first | ((with_reducible refine gate_dst (N := 1) rfl ?_); refine box_event ?hg (N := 1) ?hd (cs := #[.slice A0_0 l0_0.length c0_0, .int .i64 a0_1, .bool a0_2, .slice A0_3 l0_3.length c0_3, .slice A0_4 l0_4.length c0_4]) (t := 27) ?hr ?_; (case hd => rfl); (case hg => rfl); (case hr => first | (go_simp; done) | (go_simp; rfl)); intro gb235 hg w9 hbox hb; have n0_ := Q0_ (below_step (upB HB) hb); have n1_ := Q0_ (hbox); have n2_ := Q0_ ((by rw [hg]; exact (below_size (upB HB)) : w.heap.size ≤ gb235)); have n3_ := Q0_ ((by rw [hg]; exact (below_size (upB HB)) : w.heap.size ≤ gb235)); clear HB; revert n0_ n1_ n2_ n3_; intro HB BK235 GW235 GE235; clear hb hbox hg; have hcz10_0 : w9.cell? ⟨gb235, 0, none⟩ = some (.slice A0_0 l0_0.length c0_0) := (blk_cell BK235.out 0).trans rfl; have hcz10_1 : w9.cell? ⟨gb235, 1, none⟩ = some (.int .i64 a0_1) := (blk_cell BK235.out 1).trans rfl; have hcz10_2 : w9.cell? ⟨gb235, 2, none⟩ = some (.bool a0_2) := (blk_cell BK235.out 2).trans rfl; have hcz10_3 : w9.cell? ⟨gb235, 3, none⟩ = some (.slice A0_3 l0_3.length c0_3) := (blk_cell BK235.out 3).trans rfl; have hcz10_4 : w9.cell? ⟨gb235, 4, none⟩ = some (.slice A0_4 l0_4.length c0_4) := (blk_cell BK235.out 4).trans rfl; have hfz10_0 := blk_frozen BK235.out 0; have hfz10_1 := blk_frozen BK235.out 1; have hfz10_2 := blk_frozen BK235.out 2; have hfz10_3 := blk_frozen BK235.out 3; have hfz10_4 := blk_frozen BK235.out 4) | ((with_reducible refine gate_callee (f := 88) rfl ?_); refine goesL_ (some 5) rfl rfl Tryd.func88 (by kernel_rfl) rfl #[.slice A0_0 l0_0.length c0_0, .int .i64 0, .int .i64 3] rfl hM ?_; (with_reducible refine (spec_l4Tones.calls k _ _ l0_0 0 3 true _ ?side1 ?side2 A2.out).mono ?_); (case side1 => repeat (first | exact (Kd.C_below HR0_0.out HB.out) | refine C_q ?_)); (case side2 => exact HC0_0.out); rintro e w11 ⟨rfl, hb⟩; refine ⟨_, rfl, ?_⟩; have n0_ := Q0_ (blk_below (upK BK235) hb); have n1_ := Q0_ (below_step upH hb); clear BK235 HB; revert n0_ n1_; intro BK235 HB; (try clear hb); (try clear hb2); (try clear hk); (try clear hi); have hcz12_0 : w11.cell? ⟨gb235, 0, none⟩ = some (.slice A0_0 l0_0.length c0_0) := (blk_cell BK235.out 0).trans rfl; have hcz12_1 : w11.cell? ⟨gb235, 1, none⟩ = some (.int .i64 a0_1) := (blk_cell BK235.out 1).trans rfl; have hcz12_2 : w11.cell? ⟨gb235, 2, none⟩ = some (.bool a0_2) := (blk_cell BK235.out 2).trans rfl; have hcz12_3 : w11.cell? ⟨gb235, 3, none⟩ = some (.slice A0_3 l0_3.length c0_3) := (blk_cell BK235.out 3).trans rfl; have hcz12_4 : w11.cell? ⟨gb235, 4, none⟩ = some (.slice A0_4 l0_4.length c0_4) := (blk_cell BK235.out 4).trans rfl; have hfz12_0 := blk_frozen BK235.out 0; have hfz12_1 := blk_frozen BK235.out 1; have hfz12_2 := blk_frozen BK235.out 2; have hfz12_3 := blk_frozen BK235.out 3; have hfz12_4 := blk_frozen BK235.out 4) | (go_at_call 89; (with_reducible refine (spec_ToneValid.calls a0_1 a0_2 true _ A4.out).mono ?_); rintro e w13 ⟨rfl, hb⟩; have n0_ := Q0_ (blk_below (upK BK235) hb); have n1_ := Q0_ (below_step upH hb); clear BK235 HB; revert n0_ n1_; intro BK235 HB; (try clear hb); (try clear hb2); (try clear hk); (try clear hi); have hcz14_0 : w13.cell? ⟨gb235, 0, none⟩ = some (.slice A0_0 l0_0.length c0_0) := (blk_cell BK235.out 0).trans rfl; have hcz14_1 : w13.cell? ⟨gb235, 1, none⟩ = some (.int .i64 a0_1) := (blk_cell BK235.out 1).trans rfl; have hcz14_2 : w13.cell? ⟨gb235, 2, none⟩ = some (.bool a0_2) := (blk_cell BK235.out 2).trans rfl; have hcz14_3 : w13.cell? ⟨gb235, 3, none⟩ = some (.slice A0_3 l0_3.length c0_3) := (blk_cell BK235.out 3).trans rfl; have hcz14_4 : w13.cell? ⟨gb235, 4, none⟩ = some (.slice A0_4 l0_4.length c0_4) := (blk_cell BK235.out 4).trans rfl; have hfz14_0 := blk_frozen BK235.out 0; have hfz14_1 := blk_frozen BK235.out 1; have hfz14_2 := blk_frozen BK235.out 2; have hfz14_3 := blk_frozen BK235.out 3; have hfz14_4 := blk_frozen BK235.out 4) | (go_at_call 88; (with_reducible refine (spec_l4Tones.calls k _ _ l0_3 1 4 true _ ?side1 ?side2 A6.out).mono ?_); (case side1 => repeat (first | exact (Kd.C_below HR0_3.out HB.out) | refine C_q ?_)); (case side2 => exact HC0_3.out); rintro e w15 ⟨rfl, hb⟩; have n0_ := Q0_ (blk_below (upK BK235) hb); have n1_ := Q0_ (below_step upH hb); clear BK235 HB; revert n0_ n1_; intro BK235 HB; (try clear hb); (try clear hb2); (try clear hk); (try clear hi); have hcz16_0 : w15.cell? ⟨gb235, 0, none⟩ = some (.slice A0_0 l0_0.length c0_0) := (blk_cell BK235.out 0).trans rfl; have hcz16_1 : w15.cell? ⟨gb235, 1, none⟩ = some (.int .i64 a0_1) := (blk_cell BK235.out 1).trans rfl; have hcz16_2 : w15.cell? ⟨gb235, 2, none⟩ = some (.bool a0_2) := (blk_cell BK235.out 2).trans rfl; have hcz16_3 : w15.cell? ⟨gb235, 3, none⟩ = some (.slice A0_3 l0_3.length c0_3) := (blk_cell BK235.out 3).trans rfl; have hcz16_4 : w15.cell? ⟨gb235, 4, none⟩ = some (.slice A0_4 l0_4.length c0_4) := (blk_cell BK235.out 4).trans rfl; have hfz16_0 := blk_frozen BK235.out 0; have hfz16_1 := blk_frozen BK235.out 1; have hfz16_2 := blk_frozen BK235.out 2; have hfz16_3 := blk_frozen BK235.out 3; have hfz16_4 := blk_frozen BK235.out 4) | (go_at_call 88; (with_reducible refine (spec_l4Tones.calls k _ _ l0_4 1 4 t239 _ ?side1 ?side2 A8.out).mono ?_); (case side1 => repeat (first | exact (Kd.C_below HR0_4.out HB.out) | refine C_q ?_)); (case side2 => exact HC0_4.out); rintro e w17 ⟨rfl, hb⟩; have n0_ := Q0_ (blk_below (upK BK235) hb); have n1_ := Q0_ (below_step upH hb); clear BK235 HB; revert n0_ n1_; intro BK235 HB; (try clear hb); (try clear hb2); (try clear hk); (try clear hi)))
 go_ret
 exact ⟨by first | rfl | (simp [errW_none, errW_some] <;> rfl) | (simp [*, errW_none, errW_some] <;> rfl), by repeat (first | (with_reducible first | exact HB.out | apply below_alloc | apply pw_below_drewN | apply below_drew1 | refine below_set ?_ GE235.out) | exact HB.out)⟩
def spec_l1Height.f (a0_0 : Int) (a0_1 : Bool) : Option (Int) := (some (([0, 2, 4, 5, 7, 9, 10] : List Int) : List Int)).bind fun y1041 => ((spec_l1Letter.f a0_0).bind fun t1044 => (if 0 ≤ t1044 then (if t1044 < (y1041.length : Int) then (if a0_1 = true then (some (wrap64 ((wrap64 ((wrap64 (12 * (wrap64 (Int.tdiv a0_0 7)))) + (rd y1041 t1044))) - 1))) else (some (wrap64 ((wrap64 (12 * (wrap64 (Int.tdiv a0_0 7)))) + (rd y1041 t1044))))) else (none)) else (none)))
def spec_l1Height.T1 : Bool × List (List Nat × List Nat) := (true, [([], []), ([0], [0]), ([1], [1]), ([2], [2]), ([], []), ([], []), ([5], [5]), ([6], [6]), ([4, 7], [4, 7]), ([8], [8]), ([3, 9], [3, 9]), ([10, 7, 0, 1, 2, 3, 4, 5, 6, 7, 8, 9, 10], [10])])
def spec_l1Height.B1 : List Nat := [0, 1, 3, 7, 0, 0, 32, 96, 240, 496, 1023, 2047]
theorem spec_l1Height.tab1 : rtab .any (opsOf Tryd.f101 1) = spec_l1Height.T1 := by kernel_rfl
theorem spec_l1Height.bits1 : waitsOk spec_l1Height.T1.2 spec_l1Height.B1 = true := by kernel_rfl
set_option maxHeartbeats 8000000 in
set_option maxRecDepth 100000 in
theorem spec_l1Height.calls (a0_0 : Int) (a0_1 : Bool) (r : Int) (w : World) (h : spec_l1Height.f a0_0 a0_1 = some r) :
  Calls Tryd.prog 101 #[.agg #[.int .i64 a0_0, .bool a0_1]] w fun e w' => e = .returned (.int .i64 r) ∧ Below w.heap.size w w' := by
 have hu25 := Tryd.underlying25
 have HB := Q0_ (Below.refl w.heap.size w)
 have H : ((some (([0, 2, 4, 5, 7, 9, 10] : List Int) : List Int)).bind fun y1041 => ((spec_l1Letter.f a0_0).bind fun t1044 => (if 0 ≤ t1044 then (if t1044 < (y1041.length : Int) then (if a0_1 = true then (some (wrap64 ((wrap64 ((wrap64 (12 * (wrap64 (Int.tdiv a0_0 7)))) + (rd y1041 t1044))) - 1))) else (some (wrap64 ((wrap64 (12 * (wrap64 (Int.tdiv a0_0 7)))) + (rd y1041 t1044))))) else (none)) else (none)))) = some r := h
 clear h
 obtain ⟨y1041, hy1041⟩ : ∃ y_ : List Int, y_ = (([0, 2, 4, 5, 7, 9, 10] : List Int)) := ⟨_, rfl⟩
 replace H : ((spec_l1Letter.f a0_0).bind fun t1044 => (if 0 ≤ t1044 then (if t1044 < (y1041.length : Int) then (if a0_1 = true then (some (wrap64 ((wrap64 ((wrap64 (12 * (wrap64 (Int.tdiv a0_0 7)))) + (rd y1041 t1044))) - 1))) else (some (wrap64 ((wrap64 (12 * (wrap64 (Int.tdiv a0_0 7)))) + (rd y1041 t1044))))) else (none)) else (none))) = some r := by first | (rw [hy1041]; with_reducible exact H) | (have H2_ := (Option.bind_some _ _).symm.trans H; rw [hy1041]; with_reducible exact H2_) | (have H2_ := (Option.bind_some _ _).symm.trans H; with_reducible exact H2_) | with_reducible exact H | (rw [hy1041]; exact H) | exact H
 have Ny1041 := Aside0.mk hy1041
 clear hy1041
 obtain ⟨t1044, A20, H⟩ := Option.bind_eq_some_iff.mp H
 try dsimp only at H
 have A2 := Aside0.mk A20
 clear A20
 by_cases c3 : 0 ≤ t1044
 rotate_left
 ·rw [if_neg c3] at H
  exact absurd H (by simp)
 rw [if_pos c3] at H
 have c3b0 : decide (0 ≤ t1044) = true := decide_eq_true c3
 clear c3
 by_cases c4 : t1044 < (y1041.length : Int)
 rotate_left
 ·rw [if_neg c4] at H
  exact absurd H (by simp)
 rw [if_pos c4] at H
 have c4b0 : decide (t1044 < (y1041.length : Int)) = true := decide_eq_true c4
 clear c4
 by_cases c5 : a0_1 = true
 ·subst c5
  replace H := ifP (rfl) H
  obtain rfl := Option.some.inj H
  go_enter Tryd.func101, Tryd.ntmps101
  try go_wp2_with (first | ((with_reducible refine gate_dst (N := 1) rfl ?_); refine box_event ?hg (N := 1) ?hd (cs := #[.int .i64 a0_0, .bool true]) (t := 25) ?hr ?_; (case hd => rfl); (case hg => rfl); (case hr => first | (go_simp; done) | (go_simp; rfl)); intro gb1040 hg w6 hbox hb; have n0_ := Q0_ (below_step (upB HB) hb); have n1_ := Q0_ (hbox); have n2_ := Q0_ ((by rw [hg]; exact (below_size (upB HB)) : w.heap.size ≤ gb1040)); have n3_ := Q0_ ((by rw [hg]; exact (below_size (upB HB)) : w.heap.size ≤ gb1040)); clear HB; revert n0_ n1_ n2_ n3_; intro HB BK1040 GW1040 GE1040; clear hb hbox hg))
  have pi1045 : (0 ≤ (t1044 : Int)) = True := eq_true (of_decide_eq_true aS)
  have qi1045 : (t1044 < (y1041.length : Int)) = True := eq_true (of_decide_eq_true aS)
  have n0_ := Q0_ (blk_drew BK1040.out)
  have n1_ := Q0_ (below_drew1 HB.out)
  clear BK1040 HB; revert n0_ n1_; intro BK1040 HB
  refine start_ (n := 12) (S := fun w' => w'.cell? ⟨gb1040, 0, none⟩ = some (.int .i64 a0_0) ∧ w'.cell? ⟨gb1040, 1, none⟩ = some (.bool true)) (ds := []) #[ff,ff,ff,ff,ff,ff,ff,ff,ff,ff,ff,ff] (by kernel_rfl) rfl rfl ⟨(blk_cell BK1040.out 0).trans rfl, (blk_cell BK1040.out 1).trans rfl⟩ (fun hHeld => ?_); refine with_tabW spec_l1Height.tab1 spec_l1Height.bits1 (fun HT_ HW_ => ?_)
  generalize w6.drew = w7 at BK1040 HB hHeld ⊢
  refine pQ HT_ 0 (some 4) #[tt,ff,ff,ff,ff,ff,ff,ff,ff,ff,ff,ff] rfl rfl ?_
  refine pQ HT_ 5 (some 9) #[tt,ff,ff,ff,ff,tt,ff,ff,ff,ff,ff,ff] rfl rfl ?_
  refine tQ HT_ HW_ 1 (some 5) #[tt,tt,ff,ff,ff,tt,ff,ff,ff,ff,ff,ff] rfl rfl hHeld (by rintro w' ⟨s0, s1⟩; go_simp; with_reducible rfl) ?_
  refine pQ HT_ 2 (some 6) #[tt,tt,tt,ff,ff,tt,ff,ff,ff,ff,ff,ff] rfl rfl ?_
  refine pQ HT_ 3 (some 7) #[tt,tt,tt,tt,ff,tt,ff,ff,ff,ff,ff,ff] rfl rfl ?_
  refine tQ HT_ HW_ 6 (some 10) #[tt,tt,tt,tt,ff,tt,tt,ff,ff,ff,ff,ff] rfl rfl hHeld (by rintro w' ⟨s0, s1⟩; go_simp; with_reducible rfl) ?_
  refine join_ (σ := Value × Addr) 4 #[tt,tt,tt,tt,tt,tt,tt,tt,ff,ff,ff,ff] (fun s_ => [(8, s_.1), (11, .int .i64 t1044)]) (fun s_ w' => (w'.cell? ⟨gb1040, 0, none⟩ = some (.int .i64 a0_0) ∧ w'.cell? ⟨gb1040, 1, none⟩ = some (.bool true)) ∧ (Kd.R (Kd.int .i64) 3 w' w.heap.size (fun _ => True) s_.1 y1041) ∧ (∃ c_, (s_.1 : Value) = .slice (some s_.2) y1041.length c_) ∧ (w'.heap[gb1040]? = some (.cells #[.int .i64 a0_0, .bool true] 25 (0, 0))) ∧ (Below w.heap.size w w')) ?_ ?_
  rotate_left
  ·intro hCont
   refine two_ (i := 4) (j := 7) (Ni := some 8) (Nj := some 11) #[tt,tt,tt,tt,tt,tt,tt,ff,ff,ff,ff,ff] #[tt,tt,tt,tt,ff,tt,tt,tt,ff,ff,ff,ff] rfl rfl rfl rfl (two_of HT_.out (by kernel_rfl)) (by decide) (by decide) (fun K hK => ?_) (fun K hK => ?_)
   ·skip
    refine Kd.R_lit_step (Kd.int .i64) _ 3 ?hg (N := 8) ?hd (xs := ([0, 2, 4, 5, 7, 9, 10] : List Int)) (inner := [.int .i64 0, .int .i64 2, .int .i64 4, .int .i64 5, .int .i64 7, .int .i64 9, .int .i64 10]) (ok := fun _ => True) (okp := fun _ => True) ?hr ?hp (fun _ hk => hk) trivial (Below.refl _ _) (Nat.le_refl _) (by simp) ?_; (case hd => rfl); (case hg => rfl); (case hr => first | (go_simp; done) | (go_simp; rfl)); (case hp => exact (Reps.one (show Kd.M (Kd.int .i64) _ _ _ 0 [.int .i64 0] from rfl) (Reps.one (show Kd.M (Kd.int .i64) _ _ _ 2 [.int .i64 2] from rfl) (Reps.one (show Kd.M (Kd.int .i64) _ _ _ 4 [.int .i64 4] from rfl) (Reps.one (show Kd.M (Kd.int .i64) _ _ _ 5 [.int .i64 5] from rfl) (Reps.one (show Kd.M (Kd.int .i64) _ _ _ 7 [.int .i64 7] from rfl) (Reps.one (show Kd.M (Kd.int .i64) _ _ _ 9 [.int .i64 9] from rfl) (Reps.one (show Kd.M (Kd.int .i64) _ _ _ 10 [.int .i64 10] from rfl) (Reps.none _ _)))))))))
    intro v1042 w8 ho9 hb hg_ hnew_
    clear hg_ hnew_
    (first | rw [← Ny1041.out] at ho9 | (simp only [Int.reduceToNat] at ho9; rw [← Ny1041.out] at ho9))
    have n0_ := Q0_ (Kd.R_lower ho9 (below_size upH))
    have n1_ := Q0_ (blk_below (upK BK1040) hb)
    have n2_ := Q0_ (below_step upH hb)
    clear BK1040 HB; revert n0_ n1_ n2_; intro HO1043 BK1040 HB
    clear hb ho9
    obtain ⟨Ao10, co10, eo10⟩ := Kd.R_slice HO1043.out
    subst eo10
    obtain ⟨ado10, fo10, _⟩ := Kd.at_int (Kd.R_reads' HO1043.out).2.2 0 (by decide) (by rw [Ny1041.out]; simp)
    cases fo10
    refine hK.out _ _ ⟨(blk_cell BK1040.out 0).trans rfl, (blk_cell BK1040.out 1).trans rfl⟩ (fun hHeld => ?_)
    clear hK K
    refine norm_ (a' := ?_) ?_ ?_
    rotate_left
    ·show Act.put _ (some 8) _ = _
     simp only [Act.put, sI, s0, sS, i64_w, i32_w]
     rfl
    refine one_ (i := 7) (N := some 11) #[tt,tt,tt,tt,tt,tt,tt,tt,ff,ff,ff,ff] rfl rfl (one_of HT_.out (by kernel_rfl)) (by decide) (fun K hK => ?_)
    refine goes_ Tryd.func94 (by kernel_rfl) rfl #[.int .i64 a0_0] (by rfl) rfl rfl hM ?_
    with_reducible refine (spec_l1Letter.calls a0_0 t1044 _ A2.out).mono ?_
    rintro e w' ⟨rfl, ⟨nd, rfl⟩⟩
    refine ⟨_, rfl, ?_⟩
    refine hK.out _ _ ⟨(blk_cell BK1040.out 0).trans rfl, (blk_cell BK1040.out 1).trans rfl⟩ (fun hHeld => ?_)
    clear hK K
    refine norm_ (a' := ?_) ?_ ?_
    rotate_left
    ·show Act.put _ (some 11) _ = _
     simp only [Act.put, sI, s0, sS, i64_w, i32_w]
     rfl
    exact norm_ (by simp only [putAll, Act.put, sI, s0, sS]) (hCont (.slice (some ado10) y1041.length co10, ado10) _ ⟨hHeld, (upR HO1043), ⟨_, rfl⟩, (upK BK1040), upH⟩)
   ·skip
    refine goes_ Tryd.func94 (by kernel_rfl) rfl #[.int .i64 a0_0] (by rfl) rfl rfl hM ?_
    with_reducible refine (spec_l1Letter.calls a0_0 t1044 _ A2.out).mono ?_
    rintro e w' ⟨rfl, ⟨nd, rfl⟩⟩
    refine ⟨_, rfl, ?_⟩
    refine hK.out _ _ ⟨(blk_cell BK1040.out 0).trans rfl, (blk_cell BK1040.out 1).trans rfl⟩ (fun hHeld => ?_)
    clear hK K
    refine norm_ (a' := ?_) ?_ ?_
    rotate_left
    ·show Act.put _ (some 11) _ = _
     simp only [Act.put, sI, s0, sS, i64_w, i32_w]
     rfl
    refine one_ (i := 4) (N := some 8) #[tt,tt,tt,tt,tt,tt,tt,tt,ff,ff,ff,ff] rfl rfl (one_of HT_.out (by kernel_rfl)) (by decide) (fun K hK => ?_)
    refine Kd.R_lit_step (Kd.int .i64) _ 3 ?hg (N := 8) ?hd (xs := ([0, 2, 4, 5, 7, 9, 10] : List Int)) (inner := [.int .i64 0, .int .i64 2, .int .i64 4, .int .i64 5, .int .i64 7, .int .i64 9, .int .i64 10]) (ok := fun _ => True) (okp := fun _ => True) ?hr ?hp (fun _ hk => hk) trivial (Below.refl _ _) (Nat.le_refl _) (by simp) ?_; (case hd => rfl); (case hg => rfl); (case hr => first | (go_simp; done) | (go_simp; rfl)); (case hp => exact (Reps.one (show Kd.M (Kd.int .i64) _ _ _ 0 [.int .i64 0] from rfl) (Reps.one (show Kd.M (Kd.int .i64) _ _ _ 2 [.int .i64 2] from rfl) (Reps.one (show Kd.M (Kd.int .i64) _ _ _ 4 [.int .i64 4] from rfl) (Reps.one (show Kd.M (Kd.int .i64) _ _ _ 5 [.int .i64 5] from rfl) (Reps.one (show Kd.M (Kd.int .i64) _ _ _ 7 [.int .i64 7] from rfl) (Reps.one (show Kd.M (Kd.int .i64) _ _ _ 9 [.int .i64 9] from rfl) (Reps.one (show Kd.M (Kd.int .i64) _ _ _ 10 [.int .i64 10] from rfl) (Reps.none _ _)))))))))
    intro v1042 w8 ho9 hb hg_ hnew_
    clear hg_ hnew_
    (first | rw [← Ny1041.out] at ho9 | (simp only [Int.reduceToNat] at ho9; rw [← Ny1041.out] at ho9))
    have n0_ := Q0_ (Kd.R_lower ho9 (below_size upH))
    have n1_ := Q0_ (blk_below (upK BK1040) hb)
    have n2_ := Q0_ (below_step upH hb)
    clear BK1040 HB; revert n0_ n1_ n2_; intro HO1043 BK1040 HB
    clear hb ho9
    obtain ⟨Ao10, co10, eo10⟩ := Kd.R_slice HO1043.out
    subst eo10
    obtain ⟨ado10, fo10, _⟩ := Kd.at_int (Kd.R_reads' HO1043.out).2.2 0 (by decide) (by rw [Ny1041.out]; simp)
    cases fo10
    refine hK.out _ _ ⟨(blk_cell BK1040.out 0).trans rfl, (blk_cell BK1040.out 1).trans rfl⟩ (fun hHeld => ?_)
    clear hK K
    refine norm_ (a' := ?_) ?_ ?_
    rotate_left
    ·show Act.put _ (some 8) _ = _
     simp only [Act.put, sI, s0, sS, i64_w, i32_w]
     rfl
    exact norm_ (by simp only [putAll, Act.put, sI, s0, sS]) (hCont (.slice (some ado10) y1041.length co10, ado10) _ ⟨hHeld, (upR HO1043), ⟨_, rfl⟩, (upK BK1040), upH⟩)
  rintro ⟨v1042, adz_v1042⟩ w11 ⟨hS_, h0_, h1_, h2_, h3_⟩
  try dsimp only at h0_ h1_ h2_ h3_
  have n0_ := Q0_ h0_
  have n1_ := Q0_ h1_
  have n2_ := Q0_ h2_
  have n3_ := Q0_ h3_
  clear BK1040
  clear HB
  clear h0_ h1_ h2_ h3_
  have HO1043 := n0_
  have HA_HO1043 := n1_
  have BK1040 := n2_
  have HB := n3_
  clear n0_ n1_ n2_ n3_
  have hHeld : w11.cell? ⟨gb1040, 0, none⟩ = some (.int .i64 a0_0) ∧ w11.cell? ⟨gb1040, 1, none⟩ = some (.bool true) := hS_
  obtain ⟨co12, eo12⟩ := HA_HO1043.out
  clear HA_HO1043
  subst eo12
  refine norm_ (a' := ?_) ?_ ?_
  rotate_left
  ·simp only [putAll, Act.put, sI, s0, sS]
   rfl
  refine pQ HT_ 8 (some 12) #[tt,tt,tt,tt,tt,tt,tt,tt,tt,ff,ff,ff] rfl rfl ?_
  refine one_ (i := 9) (N := some 13) #[tt,tt,tt,tt,tt,tt,tt,tt,tt,tt,ff,ff] rfl rfl (one_of HT_.out (by kernel_rfl)) (by decide) (fun K hK => ?_)
  (have p1045 : 0 ≤ (t1044 : Int) := of_decide_eq_true aS; have q1045 : t1044 < (y1041.length : Int) := of_decide_eq_true aS; obtain ⟨ad1045, e1045, hx1045_0⟩ := Kd.at_int (Kd.R_reads' HO1043.out).2.2 t1044 p1045 q1045; obtain rfl : adz_v1042 = ad1045 := (by injection e1045))
  refine value_ (w1 := ?_) (v := ?_) (by rfl) rfl ?_ ?_
  rotate_left 2
  ·go_simp
   constructor
   ·rfl
   ·rfl
  clear hx1045_0
  refine hK.out _ _ ⟨(blk_cell BK1040.out 0).trans rfl, (blk_cell BK1040.out 1).trans rfl⟩ (fun hHeld => ?_)
  clear hK K
  refine norm_ (a' := ?_) ?_ ?_
  rotate_left
  ·show Act.put _ (some 13) _ = _
   simp only [Act.put, sI, s0, sS, i64_w, i32_w]
   rfl
  refine pQ HT_ 10 (some 14) #[tt,tt,tt,tt,tt,tt,tt,tt,tt,tt,tt,ff] rfl rfl ?_
  refine pQ HT_ 11 (some 3) #[tt,tt,tt,tt,tt,tt,tt,tt,tt,tt,tt,tt] rfl rfl ?_
  refine done_ (done_of HT_.out (by kernel_rfl)) ?_
  have hcz13_0 : w11.cell? ⟨gb1040, 0, none⟩ = some (.int .i64 a0_0) := (blk_cell BK1040.out 0).trans rfl
  have hcz13_1 : w11.cell? ⟨gb1040, 1, none⟩ = some (.bool true) := (blk_cell BK1040.out 1).trans rfl
  have hfz13_0 := blk_frozen BK1040.out 0
  have hfz13_1 := blk_frozen BK1040.out 1
  try go_wp2
  go_ret
  exact ⟨by first | (simp only [IntKind.wrap_i64, Go.RowKit.wrap64]; rfl) | rfl | (simp [errW_none, errW_some] <;> rfl) | (simp [*, errW_none, errW_some] <;> rfl), by repeat (first | (with_reducible first | exact HB.out | apply below_alloc | apply pw_below_drewN | apply below_drew1 | refine below_set ?_ GE1040.out) | exact HB.out)⟩
 replace c5 := Bool.eq_false_iff.mpr c5
 subst c5
 replace H := ifN ((show ¬ (false = true) by decide)) H
 obtain rfl := Option.some.inj H
 go_enter Tryd.func101, Tryd.ntmps101
 try go_wp2_with (first | ((with_reducible refine gate_dst (N := 1) rfl ?_); refine box_event ?hg (N := 1) ?hd (cs := #[.int .i64 a0_0, .bool false]) (t := 25) ?hr ?_; (case hd => rfl); (case hg => rfl); (case hr => first | (go_simp; done) | (go_simp; rfl)); intro gb1040 hg w14 hbox hb; have n0_ := Q0_ (below_step (upB HB) hb); have n1_ := Q0_ (hbox); have n2_ := Q0_ ((by rw [hg]; exact (below_size (upB HB)) : w.heap.size ≤ gb1040)); have n3_ := Q0_ ((by rw [hg]; exact (below_size (upB HB)) : w.heap.size ≤ gb1040)); clear HB; revert n0_ n1_ n2_ n3_; intro HB BK1040 GW1040 GE1040; clear hb hbox hg))
 have pi1045 : (0 ≤ (t1044 : Int)) = True := eq_true (of_decide_eq_true aS)
 have qi1045 : (t1044 < (y1041.length : Int)) = True := eq_true (of_decide_eq_true aS)
 have n0_ := Q0_ (blk_drew BK1040.out)
 have n1_ := Q0_ (below_drew1 HB.out)
 clear BK1040 HB; revert n0_ n1_; intro BK1040 HB
 refine start_ (n := 12) (S := fun w' => w'.cell? ⟨gb1040, 0, none⟩ = some (.int .i64 a0_0) ∧ w'.cell? ⟨gb1040, 1, none⟩ = some (.bool false)) (ds := []) #[ff,ff,ff,ff,ff,ff,ff,ff,ff,ff,ff,ff] (by kernel_rfl) rfl rfl ⟨(blk_cell BK1040.out 0).trans rfl, (blk_cell BK1040.out 1).trans rfl⟩ (fun hHeld => ?_); refine with_tabW spec_l1Height.tab1 spec_l1Height.bits1 (fun HT_ HW_ => ?_)
 generalize w14.drew = w15 at BK1040 HB hHeld ⊢
 refine pQ HT_ 0 (some 4) #[tt,ff,ff,ff,ff,ff,ff,ff,ff,ff,ff,ff] rfl rfl ?_
 refine pQ HT_ 5 (some 9) #[tt,ff,ff,ff,ff,tt,ff,ff,ff,ff,ff,ff] rfl rfl ?_
 refine tQ HT_ HW_ 1 (some 5) #[tt,tt,ff,ff,ff,tt,ff,ff,ff,ff,ff,ff] rfl rfl hHeld (by rintro w' ⟨s0, s1⟩; go_simp; with_reducible rfl) ?_
 refine pQ HT_ 2 (some 6) #[tt,tt,tt,ff,ff,tt,ff,ff,ff,ff,ff,ff] rfl rfl ?_
 refine pQ HT_ 3 (some 7) #[tt,tt,tt,tt,ff,tt,ff,ff,ff,ff,ff,ff] rfl rfl ?_
 refine tQ HT_ HW_ 6 (some 10) #[tt,tt,tt,tt,ff,tt,tt,ff,ff,ff,ff,ff] rfl rfl hHeld (by rintro w' ⟨s0, s1⟩; go_simp; with_reducible rfl) ?_
 refine join_ (σ := Value × Addr) 4 #[tt,tt,tt,tt,tt,tt,tt,tt,ff,ff,ff,ff] (fun s_ => [(8, s_.1), (11, .int .i64 t1044)]) (fun s_ w' => (w'.cell? ⟨gb1040, 0, none⟩ = some (.int .i64 a0_0) ∧ w'.cell? ⟨gb1040, 1, none⟩ = some (.bool false)) ∧ (Kd.R (Kd.int .i64) 3 w' w.heap.size (fun _ => True) s_.1 y1041) ∧ (∃ c_, (s_.1 : Value) = .slice (some s_.2) y1041.length c_) ∧ (w'.heap[gb1040]? = some (.cells #[.int .i64 a0_0, .bool false] 25 (0, 0))) ∧ (Below w.heap.size w w')) ?_ ?_
 rotate_left
 ·intro hCont
  refine two_ (i := 4) (j := 7) (Ni := some 8) (Nj := some 11) #[tt,tt,tt,tt,tt,tt,tt,ff,ff,ff,ff,ff] #[tt,tt,tt,tt,ff,tt,tt,tt,ff,ff,ff,ff] rfl rfl rfl rfl (two_of HT_.out (by kernel_rfl)) (by decide) (by decide) (fun K hK => ?_) (fun K hK => ?_)
  ·skip
   refine Kd.R_lit_step (Kd.int .i64) _ 3 ?hg (N := 8) ?hd (xs := ([0, 2, 4, 5, 7, 9, 10] : List Int)) (inner := [.int .i64 0, .int .i64 2, .int .i64 4, .int .i64 5, .int .i64 7, .int .i64 9, .int .i64 10]) (ok := fun _ => True) (okp := fun _ => True) ?hr ?hp (fun _ hk => hk) trivial (Below.refl _ _) (Nat.le_refl _) (by simp) ?_; (case hd => rfl); (case hg => rfl); (case hr => first | (go_simp; done) | (go_simp; rfl)); (case hp => exact (Reps.one (show Kd.M (Kd.int .i64) _ _ _ 0 [.int .i64 0] from rfl) (Reps.one (show Kd.M (Kd.int .i64) _ _ _ 2 [.int .i64 2] from rfl) (Reps.one (show Kd.M (Kd.int .i64) _ _ _ 4 [.int .i64 4] from rfl) (Reps.one (show Kd.M (Kd.int .i64) _ _ _ 5 [.int .i64 5] from rfl) (Reps.one (show Kd.M (Kd.int .i64) _ _ _ 7 [.int .i64 7] from rfl) (Reps.one (show Kd.M (Kd.int .i64) _ _ _ 9 [.int .i64 9] from rfl) (Reps.one (show Kd.M (Kd.int .i64) _ _ _ 10 [.int .i64 10] from rfl) (Reps.none _ _)))))))))
   intro v1042 w16 ho17 hb hg_ hnew_
   clear hg_ hnew_
   (first | rw [← Ny1041.out] at ho17 | (simp only [Int.reduceToNat] at ho17; rw [← Ny1041.out] at ho17))
   have n0_ := Q0_ (Kd.R_lower ho17 (below_size upH))
   have n1_ := Q0_ (blk_below (upK BK1040) hb)
   have n2_ := Q0_ (below_step upH hb)
   clear BK1040 HB; revert n0_ n1_ n2_; intro HO1043 BK1040 HB
   clear hb ho17
   obtain ⟨Ao18, co18, eo18⟩ := Kd.R_slice HO1043.out
   subst eo18
   obtain ⟨ado18, fo18, _⟩ := Kd.at_int (Kd.R_reads' HO1043.out).2.2 0 (by decide) (by rw [Ny1041.out]; simp)
   cases fo18
   refine hK.out _ _ ⟨(blk_cell BK1040.out 0).trans rfl, (blk_cell BK1040.out 1).trans rfl⟩ (fun hHeld => ?_)
   clear hK K
   refine norm_ (a' := ?_) ?_ ?_
   rotate_left
   ·show Act.put _ (some 8) _ = _
    simp only [Act.put, sI, s0, sS, i64_w, i32_w]
    rfl
   refine one_ (i := 7) (N := some 11) #[tt,tt,tt,tt,tt,tt,tt,tt,ff,ff,ff,ff] rfl rfl (one_of HT_.out (by kernel_rfl)) (by decide) (fun K hK => ?_)
   refine goes_ Tryd.func94 (by kernel_rfl) rfl #[.int .i64 a0_0] (by rfl) rfl rfl hM ?_
   with_reducible refine (spec_l1Letter.calls a0_0 t1044 _ A2.out).mono ?_
   rintro e w' ⟨rfl, ⟨nd, rfl⟩⟩
   refine ⟨_, rfl, ?_⟩
   refine hK.out _ _ ⟨(blk_cell BK1040.out 0).trans rfl, (blk_cell BK1040.out 1).trans rfl⟩ (fun hHeld => ?_)
   clear hK K
   refine norm_ (a' := ?_) ?_ ?_
   rotate_left
   ·show Act.put _ (some 11) _ = _
    simp only [Act.put, sI, s0, sS, i64_w, i32_w]
    rfl
   exact norm_ (by simp only [putAll, Act.put, sI, s0, sS]) (hCont (.slice (some ado18) y1041.length co18, ado18) _ ⟨hHeld, (upR HO1043), ⟨_, rfl⟩, (upK BK1040), upH⟩)
  ·skip
   refine goes_ Tryd.func94 (by kernel_rfl) rfl #[.int .i64 a0_0] (by rfl) rfl rfl hM ?_
   with_reducible refine (spec_l1Letter.calls a0_0 t1044 _ A2.out).mono ?_
   rintro e w' ⟨rfl, ⟨nd, rfl⟩⟩
   refine ⟨_, rfl, ?_⟩
   refine hK.out _ _ ⟨(blk_cell BK1040.out 0).trans rfl, (blk_cell BK1040.out 1).trans rfl⟩ (fun hHeld => ?_)
   clear hK K
   refine norm_ (a' := ?_) ?_ ?_
   rotate_left
   ·show Act.put _ (some 11) _ = _
    simp only [Act.put, sI, s0, sS, i64_w, i32_w]
    rfl
   refine one_ (i := 4) (N := some 8) #[tt,tt,tt,tt,tt,tt,tt,tt,ff,ff,ff,ff] rfl rfl (one_of HT_.out (by kernel_rfl)) (by decide) (fun K hK => ?_)
   refine Kd.R_lit_step (Kd.int .i64) _ 3 ?hg (N := 8) ?hd (xs := ([0, 2, 4, 5, 7, 9, 10] : List Int)) (inner := [.int .i64 0, .int .i64 2, .int .i64 4, .int .i64 5, .int .i64 7, .int .i64 9, .int .i64 10]) (ok := fun _ => True) (okp := fun _ => True) ?hr ?hp (fun _ hk => hk) trivial (Below.refl _ _) (Nat.le_refl _) (by simp) ?_; (case hd => rfl); (case hg => rfl); (case hr => first | (go_simp; done) | (go_simp; rfl)); (case hp => exact (Reps.one (show Kd.M (Kd.int .i64) _ _ _ 0 [.int .i64 0] from rfl) (Reps.one (show Kd.M (Kd.int .i64) _ _ _ 2 [.int .i64 2] from rfl) (Reps.one (show Kd.M (Kd.int .i64) _ _ _ 4 [.int .i64 4] from rfl) (Reps.one (show Kd.M (Kd.int .i64) _ _ _ 5 [.int .i64 5] from rfl) (Reps.one (show Kd.M (Kd.int .i64) _ _ _ 7 [.int .i64 7] from rfl) (Reps.one (show Kd.M (Kd.int .i64) _ _ _ 9 [.int .i64 9] from rfl) (Reps.one (show Kd.M (Kd.int .i64) _ _ _ 10 [.int .i64 10] from rfl) (Reps.none _ _)))))))))
   intro v1042 w16 ho17 hb hg_ hnew_
   clear hg_ hnew_
   (first | rw [← Ny1041.out] at ho17 | (simp only [Int.reduceToNat] at ho17; rw [← Ny1041.out] at ho17))
   have n0_ := Q0_ (Kd.R_lower ho17 (below_size upH))
   have n1_ := Q0_ (blk_below (upK BK1040) hb)
   have n2_ := Q0_ (below_step upH hb)
   clear BK1040 HB; revert n0_ n1_ n2_; intro HO1043 BK1040 HB
   clear hb ho17
   obtain ⟨Ao18, co18, eo18⟩ := Kd.R_slice HO1043.out
   subst eo18
   obtain ⟨ado18, fo18, _⟩ := Kd.at_int (Kd.R_reads' HO1043.out).2.2 0 (by decide) (by rw [Ny1041.out]; simp)
   cases fo18
   refine hK.out _ _ ⟨(blk_cell BK1040.out 0).trans rfl, (blk_cell BK1040.out 1).trans rfl⟩ (fun hHeld => ?_)
   clear hK K
   refine norm_ (a' := ?_) ?_ ?_
   rotate_left
   ·show Act.put _ (some 8) _ = _
    simp only [Act.put, sI, s0, sS, i64_w, i32_w]
    rfl
   exact norm_ (by simp only [putAll, Act.put, sI, s0, sS]) (hCont (.slice (some ado18) y1041.length co18, ado18) _ ⟨hHeld, (upR HO1043), ⟨_, rfl⟩, (upK BK1040), upH⟩)
 rintro ⟨v1042, adz_v1042⟩ w19 ⟨hS_, h0_, h1_, h2_, h3_⟩
 try dsimp only at h0_ h1_ h2_ h3_
 have n0_ := Q0_ h0_
 have n1_ := Q0_ h1_
 have n2_ := Q0_ h2_
 have n3_ := Q0_ h3_
 clear BK1040
 clear HB
 clear h0_ h1_ h2_ h3_
 have HO1043 := n0_
 have HA_HO1043 := n1_
 have BK1040 := n2_
 have HB := n3_
 clear n0_ n1_ n2_ n3_
 have hHeld : w19.cell? ⟨gb1040, 0, none⟩ = some (.int .i64 a0_0) ∧ w19.cell? ⟨gb1040, 1, none⟩ = some (.bool false) := hS_
 obtain ⟨co20, eo20⟩ := HA_HO1043.out
 clear HA_HO1043
 subst eo20
 refine norm_ (a' := ?_) ?_ ?_
 rotate_left
 ·simp only [putAll, Act.put, sI, s0, sS]
  rfl
 refine pQ HT_ 8 (some 12) #[tt,tt,tt,tt,tt,tt,tt,tt,tt,ff,ff,ff] rfl rfl ?_
 refine one_ (i := 9) (N := some 13) #[tt,tt,tt,tt,tt,tt,tt,tt,tt,tt,ff,ff] rfl rfl (one_of HT_.out (by kernel_rfl)) (by decide) (fun K hK => ?_)
 (have p1045 : 0 ≤ (t1044 : Int) := of_decide_eq_true aS; have q1045 : t1044 < (y1041.length : Int) := of_decide_eq_true aS; obtain ⟨ad1045, e1045, hx1045_0⟩ := Kd.at_int (Kd.R_reads' HO1043.out).2.2 t1044 p1045 q1045; obtain rfl : adz_v1042 = ad1045 := (by injection e1045))
 refine value_ (w1 := ?_) (v := ?_) (by rfl) rfl ?_ ?_
 rotate_left 2
 ·go_simp
  constructor
  ·rfl
  ·rfl
 clear hx1045_0
 refine hK.out _ _ ⟨(blk_cell BK1040.out 0).trans rfl, (blk_cell BK1040.out 1).trans rfl⟩ (fun hHeld => ?_)
 clear hK K
 refine norm_ (a' := ?_) ?_ ?_
 rotate_left
 ·show Act.put _ (some 13) _ = _
  simp only [Act.put, sI, s0, sS, i64_w, i32_w]
  rfl
 refine pQ HT_ 10 (some 14) #[tt,tt,tt,tt,tt,tt,tt,tt,tt,tt,tt,ff] rfl rfl ?_
 refine pQ HT_ 11 (some 3) #[tt,tt,tt,tt,tt,tt,tt,tt,tt,tt,tt,tt] rfl rfl ?_
 refine done_ (done_of HT_.out (by kernel_rfl)) ?_
 have hcz21_0 : w19.cell? ⟨gb1040, 0, none⟩ = some (.int .i64 a0_0) := (blk_cell BK1040.out 0).trans rfl
 have hcz21_1 : w19.cell? ⟨gb1040, 1, none⟩ = some (.bool false) := (blk_cell BK1040.out 1).trans rfl
 have hfz21_0 := blk_frozen BK1040.out 0
 have hfz21_1 := blk_frozen BK1040.out 1
 try go_wp2
 go_ret
 exact ⟨by first | (simp only [IntKind.wrap_i64, Go.RowKit.wrap64]; rfl) | rfl | (simp [errW_none, errW_some] <;> rfl) | (simp [*, errW_none, errW_some] <;> rfl), by repeat (first | (with_reducible first | exact HB.out | apply below_alloc | apply pw_below_drewN | apply below_drew1 | refine below_set ?_ GE1040.out) | exact HB.out)⟩
end Go.Proofs.YtdgmkfbmeaalpaaDoor.E
end
