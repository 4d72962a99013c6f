/- Proved: for all arguments the given program's laws.FnNeumeContour returns true, and its arguments and the package-level variables that it is given read afterwards as they read before (the given constant Rows.FnNeumeContourCardSaid).
Conditions: none ahead of the given statement; the statement itself begins in a world whose listed package-level variables hold what the program's text lays there, and its card ties them to that text. -/
import Derived.Test.YtldepdaglapdeaaDoorRowFnNeumeContourK1
section
namespace Go.Proofs.YtldepdaglapdeaaDoor.Pur
open Go.RowKit Go.Proofs.YtldepdaglapdeaaDoorW.PrintWords Go.Proofs.YtldepdaglapdeaaDoorW.PrintMore Go.Proofs.YtldepdaglapdeaaDoor.E
theorem of_ok {B : List Int} (hB : okB B) (p : Int) (hp : 0 ≤ p ∧ p ≤ 1000000) (l : List ByteArray) (hl : 1 ≤ l.length ∧ l.length ≤ 1000) : EvP (fun k => spec_l6Rd_of.f k B p l) (fun r => (∃ i : Nat, i < l.length ∧ r.1 = l.getD i ByteArray.empty) ∧ r.2 = p + 1) := by
  unfold spec_l6Rd_of.f
  refine EvP.bind (pick_ok hB p (l.length : Int) (by omega) (by omega)) (fun r hr => ?_)
  exact EvP.yes hr.1 (EvP.yes hr.2.1 (EvP.ret ⟨⟨r.1.toNat, by omega, rfl⟩, hr.2.2⟩))
theorem of_size {B : List Int} (hB : okB B) (p : Int) (hp : 0 ≤ p ∧ p ≤ 1000000) (l : List ByteArray) (hl : 1 ≤ l.length ∧ l.length ≤ 1000) (n : Nat) (h : ∀ t ∈ l, t.size ≤ n) : EvP (fun k => spec_l6Rd_of.f k B p l) (fun r => r.1.size ≤ n ∧ r.1 ∈ l ∧ r.2 = p + 1) := by
  refine (of_ok hB p hp l hl).mono (fun r hr => ?_)
  obtain ⟨⟨i, hi, e⟩, e2⟩ := hr
  have hm : r.1 ∈ l := by
    rw [e, List.getD_eq_getElem?_getD, List.getElem?_eq_getElem hi]
    exact List.getElem_mem hi
  exact ⟨h _ hm, hm, e2⟩
end Go.Proofs.YtldepdaglapdeaaDoor.Pur
end
section
namespace Go.Proofs.YtldepdaglapdeaaDoor.E
open Go.RowKit Go.Proofs.YtldepdaglapdeaaDoorW.PrintWords Go.Proofs.YtldepdaglapdeaaDoorW.PrintLast Go.Proofs.YtldepdaglapdeaaDoorW.PrintMore
attribute [local go_sem] max2_int min2_int max_two min_two max_three min_three max_four min_four
set_option linter.unusedVariables false
set_option linter.unusedSimpArgs false
attribute [local go_sem] str_leq_ str_gtr_ str_geq_
def spec_l91At.j0 : Nat → Int → Bool → List Int → Int → Option (Int × Int)
 | 0, _, _, _, _ => none
 | k + 1, x1, x11, x1000, x1001 => if x11 = true then ((some (([(-1), x1] : List Int) : List Int)).bind fun y366 => ((spec_l6Rd_pick.f k x1000 x1001 2).bind fun bt369 => (if 0 ≤ bt369.1 then (if bt369.1 < (y366.length : Int) then (some (rd y366 bt369.1, bt369.2)) else (none)) else (none)))) else ((spec_l6Rd_pick.f k x1000 x1001 x1).bind fun bt372 => (some (bt372.1, bt372.2)))
def spec_l91At.f (k : Nat) (s0_0 : List Int) (s0_1 : Int) (a1 : Int) : Option (Int × Int) := if a1 = 0 then (spec_l91At.j0 k a1 true s0_0 s0_1) else ((spec_l6Rd_pick.f k s0_0 s0_1 20).bind fun bt364 => (spec_l91At.j0 k a1 (bt364.1 == 0) s0_0 bt364.2))
end Go.Proofs.YtldepdaglapdeaaDoor.E
end
section
namespace Go.Proofs.YtldepdaglapdeaaDoor.E
open Go.RowKit Go.Proofs.YtldepdaglapdeaaDoorW.PrintWords Go.Proofs.YtldepdaglapdeaaDoorW.PrintLast Go.Proofs.YtldepdaglapdeaaDoorW.PrintMore
attribute [local go_sem] max2_int min2_int max_two min_two max_three min_three max_four min_four
set_option linter.unusedVariables false
set_option linter.unusedSimpArgs false
attribute [local go_sem] str_leq_ str_gtr_ str_geq_
def spec_l6In.f (a0 : Int) (a1 : Int) (a2 : Int) : Option (Bool) := if a0 ≥ a1 then (some (decide (a0 ≤ a2))) else (some false)
end Go.Proofs.YtldepdaglapdeaaDoor.E
end
section
namespace Go.Proofs.YtldepdaglapdeaaDoor.E
open Go.RowKit Go.Proofs.YtldepdaglapdeaaDoorW.PrintWords Go.Proofs.YtldepdaglapdeaaDoorW.PrintLast Go.Proofs.YtldepdaglapdeaaDoorW.PrintMore
attribute [local go_sem] max2_int min2_int max_two min_two max_three min_three max_four min_four
set_option linter.unusedVariables false
set_option linter.unusedSimpArgs false
attribute [local go_sem] str_leq_ str_gtr_ str_geq_
def spec_ToneValid.f (a0_0 : Int) (a0_1 : Bool) : Option (Bool) := (spec_l6In.f a0_0 0 20).bind fun t102 => (if t102 = true then (if a0_1 = true then ((spec_l1Letter.f a0_0).bind fun t103 => (some (t103 == 2))) else (some true)) else (some false))
end Go.Proofs.YtldepdaglapdeaaDoor.E
end
section
namespace Go.Proofs.YtldepdaglapdeaaDoor.E
open Go.RowKit Go.Proofs.YtldepdaglapdeaaDoorW.PrintWords Go.Proofs.YtldepdaglapdeaaDoorW.PrintLast Go.Proofs.YtldepdaglapdeaaDoorW.PrintMore
attribute [local go_sem] max2_int min2_int max_two min_two max_three min_three max_four min_four
set_option linter.unusedVariables false
set_option linter.unusedSimpArgs false
attribute [local go_sem] str_leq_ str_gtr_ str_geq_
def spec_MelodyValid.l0 : Nat → List (S56) → Int → Option (Bool)
 | 0, _, _ => none
 | k + 1, x0, x3 => if x3 < (x0.length : Int) then (if 0 ≤ x3 then ((spec_ToneValid.f ((rd_T56 x0 x3).f0) ((rd_T56 x0 x3).f1)).bind fun t105 => (if t105 = true then (spec_MelodyValid.l0 k x0 (wrap64 (x3 + 1))) else (some false))) else (none)) else (some (decide ((x0.length : Int) ≤ 24)))
def spec_MelodyValid.f (k : Nat) (l0 : List (S56)) : Option (Bool) := spec_MelodyValid.l0 k l0 0
end Go.Proofs.YtldepdaglapdeaaDoor.E
end
section
namespace Go.Proofs.YtldepdaglapdeaaDoor.Pur
open Go.RowKit Go.Proofs.YtldepdaglapdeaaDoorW.PrintWords Go.Proofs.YtldepdaglapdeaaDoor.E
def okT (t : S56) : Bool := decide (0 ≤ t.f0) && decide (t.f0 ≤ 20) && (!t.f1 || decide (t.f0 % 7 = 2))
def okM (l : List S56) : Bool := l.all okT && decide (l.length ≤ 24)
theorem impl_valid (t : S56) : impl_Tone_valid.f t.f0 t.f1 = some (okT t) := by
  obtain ⟨s, b⟩ := t
  unfold impl_Tone_valid.f okT
  by_cases h0 : s ≥ 0
  · rw [if_pos h0]
    by_cases h1 : s ≤ 20
    · cases b <;> simp [h0, h1, tmod_pos, Bool.beq_eq_decide_eq]
    · simp [h0, h1]
  · simp [h0]
theorem rdT_lt {l : List S56} {i : Nat} (h : i < l.length) : rd_T56 l (i : Int) = l[i] := by
  unfold rd_T56
  rw [toNat_nat, List.getD_eq_getElem?_getD, List.getElem?_eq_getElem h]
  rfl
theorem all_drop {l : List S56} {i : Nat} (h : i < l.length) : (l.drop i).all okT = (okT l[i] && (l.drop (i + 1)).all okT) := by
  rw [List.drop_eq_getElem_cons h, List.all_cons]
theorem impl_melody_loop (l : List S56) (hl : l.length ≤ 24) : ∀ d i : Nat, i + d = l.length → EvP (fun k => impl_MelodyValid.l0 k l (l.length : Int) (i : Int)) (· = (l.drop i).all okT) := by
  intro d
  induction d with
  | zero =>
    intro i hi
    refine EvP.step (fun k => rfl) (EvP.no (by omega) (EvP.ret ?_))
    rw [List.drop_of_length_le (by omega)]
    rfl
  | succ d ih =>
    intro i hi
    have hlt : i < l.length := by omega
    refine EvP.step (fun k => rfl) (EvP.yes (by omega) (EvP.yes (by omega) ?_))
    try refine EvP.yes (by omega) ?_
    rw [rdT_lt hlt, all_drop hlt]
    refine EvP.bind (P := (· = okT l[i])) (EvP.con (impl_valid _) rfl) (fun _ e => ?_)
    subst e
    refine EvP.ite (fun h => ?_) (fun h => EvP.ret ?_)
    · rw [w64 (by omega) (by omega), h, Bool.true_and]
      exact ih (i + 1) (by omega)
    · simp [h]
theorem impl_melody (l : List S56) : EvP (fun k => impl_MelodyValid.f k l) (· = okM l) := by
  unfold impl_MelodyValid.f
  refine EvP.ite (fun h => EvP.ret ?_) (fun h => ?_)
  · simp [okM]; intro; omega
  · have hl : l.length ≤ 24 := by omega
    refine (impl_melody_loop l hl l.length 0 (by omega)).mono (fun r e => ?_)
    rw [e]
    simp [okM, hl]
end Go.Proofs.YtldepdaglapdeaaDoor.Pur
end
section
namespace Go.Proofs.YtldepdaglapdeaaDoor.E
open Go.RowKit Go.Proofs.YtldepdaglapdeaaDoorW.PrintWords Go.Proofs.YtldepdaglapdeaaDoorW.PrintLast Go.Proofs.YtldepdaglapdeaaDoorW.PrintMore
attribute [local go_sem] max2_int min2_int max_two min_two max_three min_three max_four min_four
set_option linter.unusedVariables false
set_option linter.unusedSimpArgs false
attribute [local go_sem] str_leq_ str_gtr_ str_geq_
def spec_l3Way.f (a0 : Int) (a1 : Int) : Option (ByteArray) := if a1 > a0 then (some (⟨#[117]⟩ : ByteArray)) else (if a1 < a0 then (some (⟨#[100]⟩ : ByteArray)) else (some (⟨#[115]⟩ : ByteArray)))
end Go.Proofs.YtldepdaglapdeaaDoor.E
end
section
namespace Go.Proofs.YtldepdaglapdeaaDoor.E
open Go.RowKit Go.Proofs.YtldepdaglapdeaaDoorW.PrintWords Go.Proofs.YtldepdaglapdeaaDoorW.PrintLast Go.Proofs.YtldepdaglapdeaaDoorW.PrintMore
attribute [local go_sem] max2_int min2_int max_two min_two max_three min_three max_four min_four
set_option linter.unusedVariables false
set_option linter.unusedSimpArgs false
attribute [local go_sem] str_leq_ str_gtr_ str_geq_
def spec_l3Contour.l0 : Nat → List (S56) → ByteArray → Int → Option (ByteArray)
 | 0, _, _, _ => none
 | k + 1, x0, x3, x4 => if x4 < (x0.length : Int) then (if 0 ≤ (wrap64 (x4 - 1)) then (if (wrap64 (x4 - 1)) < (x0.length : Int) then (if 0 ≤ x4 then ((spec_l3Way.f ((rd_T56 x0 (wrap64 (x4 - 1))).f0) ((rd_T56 x0 x4).f0)).bind fun t114 => (if x3.size + t114.size ≤ 9223372036854775807 then (spec_l3Contour.l0 k x0 (x3 ++ t114) (wrap64 (x4 + 1))) else (none))) else (none)) else (none)) else (none)) else (some x3)
def spec_l3Contour.f (k : Nat) (l0 : List (S56)) : Option (ByteArray) := spec_l3Contour.l0 k l0 (⟨#[]⟩ : ByteArray) 1
end Go.Proofs.YtldepdaglapdeaaDoor.E
end
section
namespace Go.Proofs.YtldepdaglapdeaaDoor.Pur
open Go Go.RowKit Go.Proofs.YtldepdaglapdeaaDoorW.PrintWords Go.Proofs.YtldepdaglapdeaaDoorW.PrintMore Go.Proofs.YtldepdaglapdeaaDoor.E
abbrev TnG := S56
theorem ba_ext {a b : ByteArray} (h : a.data.toList = b.data.toList) : a = b := by
  cases a; cases b
  congr 1
  exact Array.toList_inj.mp h
theorem app_data (a b : ByteArray) : (a ++ b).data.toList = a.data.toList ++ b.data.toList := by rw [ByteArray.data_append, Array.toList_append]
theorem list_len (t : ByteArray) : t.data.toList.length = t.size := Array.length_toList
theorem list_eq (t : ByteArray) : t.toList = t.data.toList := Go.ByteArray.toList_eq t
theorem list_iff {a b : ByteArray} : a.toList = b.toList ↔ a = b := by
  rw [list_eq, list_eq]
  exact ⟨ba_ext, fun e => by rw [e]⟩
theorem bt_at (t : ByteArray) (i : Nat) (h : i < t.size) : bt t (i : Int) = ((t.data.toList[i]'(by rw [Array.length_toList]; exact h)).toNat : Int) := by
  unfold bt
  rw [toNat_nat, dif_pos h, Array.getElem_toList]
  rfl
theorem dropWhile_nil {α : Type} (p : α → Bool) : ∀ l : List α, l.dropWhile p = [] ↔ l.all p = true
  | [] => by simp
  | a :: l => by
    by_cases h : p a = true
    · rw [List.dropWhile_cons_of_pos h, dropWhile_nil p l, List.all_cons, h, Bool.true_and]
    · rw [List.dropWhile_cons_of_neg h, List.all_cons, Bool.eq_false_iff.mpr h, Bool.false_and]; simp
theorem dropWhile_head {α : Type} (p : α → Bool) : ∀ l : List α, l.dropWhile p = [] ∨ ∃ a l', l.dropWhile p = a :: l' ∧ p a = false
  | [] => .inl rfl
  | a :: l => by
    by_cases h : p a = true
    · rw [List.dropWhile_cons_of_pos h]; exact dropWhile_head p l
    · rw [List.dropWhile_cons_of_neg h]; exact .inr ⟨a, l, rfl, Bool.eq_false_iff.mpr h⟩
theorem trim_nil (l cs : List UInt8) : Lib.trimS l cs = [] ↔ l.all (cs.contains ·) = true := by
  unfold Lib.trimS Lib.trimLeftS Lib.trimRightS
  rw [dropWhile_nil, List.all_reverse]
  refine ⟨fun h => ?_, fun h => ?_⟩
  · rcases dropWhile_head (cs.contains ·) l.reverse with e | ⟨a, l', e, ha⟩
    · rw [dropWhile_nil, List.all_reverse] at e; exact e
    · rw [e, List.all_cons, ha, Bool.false_and] at h; exact absurd h (by decide)
  · have : l.reverse.dropWhile (cs.contains ·) = [] := (dropWhile_nil _ _).mpr (by rw [List.all_reverse]; exact h)
    rw [this]; rfl
theorem trim_some (t c : ByteArray) (ht : t.size ≤ 9223372036854775806) (hc : c.size < 4294967281) (ha : c.data.toList.all (fun b => decide (b.toNat < 128)) = true) : strings_Trim.f t c = some ⟨(Lib.trimS t.data.toList c.data.toList).toArray⟩ := by
  unfold strings_Trim.f
  rw [if_pos (by omega), if_pos hc, if_pos ha]
def udsB (b : UInt8) : Bool := ([117, 100, 115] : List UInt8).contains b
theorem udsB_iff (b : UInt8) : udsB b = true ↔ b = 117 ∨ b = 100 ∨ b = 115 := by
  unfold udsB
  simp
def okC (c : ByteArray) : Bool := c.data.toList.all udsB && decide (c.size ≤ 23)
theorem impl_cvalid (c : ByteArray) : impl_ContourValid.f c = some (okC c) := by
  unfold impl_ContourValid.f okC
  by_cases h : c.size ≤ 23
  · rw [if_pos (by omega), trim_some c _ (by omega) (by decide) (by decide)]
    simp only [Option.bind_some]
    rw [list_eq, decide_eq_true h, Bool.and_true]
    congr 1
    have ht := trim_nil c.data.toList [117, 100, 115]
    show (Lib.trimS c.data.toList [117, 100, 115] == []) = c.data.toList.all udsB
    rw [Bool.eq_iff_iff, beq_iff_eq, ht]
    rfl
  · rw [if_neg (by omega), decide_eq_false h, Bool.and_false]
theorem spec_cvalid_loop (c : ByteArray) (hc : c.size ≤ 9223372036854775806) : ∀ d i : Nat, i + d = c.size → EvP (fun k => spec_ContourValid.l0 k c (i : Int)) (· = ((c.data.toList.drop i).all udsB && decide (c.size ≤ 23))) := by
  have hL := list_len c
  intro d
  induction d with
  | zero =>
    intro i hi
    refine EvP.succ ?_
    simp only [spec_ContourValid.l0]
    refine EvP.no (by omega) (EvP.ret ?_)
    rw [List.drop_of_length_le (by omega), List.all_nil, Bool.true_and, decide_eq_decide]
    omega
  | succ d ih =>
    intro i hi
    have hlt : i < c.size := by omega
    have hlt' : i < c.data.toList.length := by omega
    have e1 : Hd (wrap64 ((i : Int) + 1) = ((i + 1 : Nat) : Int)) := ⟨w64 (by omega) (by omega)⟩
    refine EvP.succ ?_
    simp only [spec_ContourValid.l0]
    refine EvP.yes (by omega) (EvP.yes (by omega) ?_)
    rw [bt_at c i hlt, List.drop_eq_getElem_cons hlt', List.all_cons, e1.out]
    obtain ⟨b, hb⟩ : ∃ b, c.data.toList[i] = b := ⟨_, rfl⟩
    rw [hb]
    have key : ∀ u : UInt8, (b.toNat : Int) = (u.toNat : Int) ↔ b = u := by
      intro u
      constructor
      · intro h
        apply UInt8.toNat_inj.mp
        omega
      · intro h
        rw [h]
    refine EvP.ite (fun h => ?_) (fun h1 => EvP.ite (fun h => ?_) (fun h2 => EvP.ite (fun h => ?_) (fun h3 => EvP.ret ?_)))
    · rw [(udsB_iff b).mpr (.inl ((key 117).mp h)), Bool.true_and]
      exact ih (i + 1) (by omega)
    · rw [(udsB_iff b).mpr (.inr (.inl ((key 100).mp h))), Bool.true_and]
      exact ih (i + 1) (by omega)
    · rw [(udsB_iff b).mpr (.inr (.inr ((key 115).mp h))), Bool.true_and]
      exact ih (i + 1) (by omega)
    · have : udsB b = false := by
        rw [Bool.eq_false_iff]
        intro h
        rcases (udsB_iff b).mp h with h | h | h
        · exact h1 ((key 117).mpr h)
        · exact h2 ((key 100).mpr h)
        · exact h3 ((key 115).mpr h)
      rw [this, Bool.false_and, Bool.false_and]
theorem spec_cvalid (c : ByteArray) (hc : c.size ≤ 9223372036854775806) : EvP (fun k => spec_ContourValid.f k c) (· = okC c) := spec_cvalid_loop c hc c.size 0 (by omega)
def nnm (c : ByteArray) : ByteArray := if c.data.toList = [] then ⟨#[112, 117, 110, 99, 116, 117, 109]⟩ else if c.data.toList = [117] then ⟨#[112, 101, 115]⟩ else if c.data.toList = [100] then ⟨#[99, 108, 105, 118, 105, 115]⟩ else if c.data.toList = [117, 100] then ⟨#[116, 111, 114, 99, 117, 108, 117, 115]⟩ else if c.data.toList = [100, 117] then ⟨#[112, 111, 114, 114, 101, 99, 116, 117, 115]⟩ else if c.data.toList = [117, 117] then ⟨#[115, 99, 97, 110, 100, 105, 99, 117, 115]⟩ else if c.data.toList = [100, 100] then ⟨#[99, 108, 105, 109, 97, 99, 117, 115]⟩ else (⟨#[103, 114, 111, 117, 112, 45]⟩ : ByteArray) ++ c
def nameB (c : ByteArray) : ByteArray := if okC c = true ∧ c.size ≤ 3 then nnm c else ⟨#[]⟩
theorem ite_eqv {α : Type} {p q : Prop} [Decidable p] [Decidable q] {a b : Option α} {x y : α} (h : p ↔ q) (h1 : a = some x) (h2 : b = some y) : (if p then a else b) = some (if q then x else y) := by
  by_cases hq : q
  · rw [if_pos hq, if_pos (h.mpr hq), h1]
  · rw [if_neg hq, if_neg (fun hp => hq (h.mp hp)), h2]
theorem nn_is (c : ByteArray) (h : c.size ≤ 3) : nnLoop c 7 0 = some (nnm c) := by
  have e : ∀ l : List UInt8, ((⟨l.toArray⟩ : ByteArray).toList = c.toList) ↔ c.data.toList = l := by
    intro l
    rw [list_eq, list_eq]
    exact eq_comm
  unfold nnm
  simp only [nnLoop, Nat.zero_add, Nat.reduceAdd, conN, namN, List.getD_cons_zero, List.getD_cons_succ]
  refine ite_eqv (e []) rfl (ite_eqv (e [117]) rfl (ite_eqv (e [100]) rfl (ite_eqv (e [117, 100]) rfl (ite_eqv (e [100, 117]) rfl (ite_eqv (e [117, 117]) rfl (ite_eqv (e [100, 100]) rfl ?_))))))
  rw [if_pos (by omega)]
theorem impl_nn (c : ByteArray) : impl_NeumeName.f c = some (nameB c) := by
  unfold impl_NeumeName.f nameB
  rw [impl_cvalid]
  simp only [Option.bind_some]
  by_cases h : okC c = true
  · rw [if_pos h]
    by_cases h2 : c.size ≤ 3
    · rw [if_neg (by omega), if_pos ⟨h, h2⟩, nn_is c h2]
    · rw [if_pos (by omega), if_neg (fun q => h2 q.2)]
  · rw [if_neg h, if_neg (fun q => h q.1)]
theorem spec_nn (c : ByteArray) (hc : c.size ≤ 9223372036854775806) : EvP (fun k => spec_NeumeName.f k c) (· = nameB c) := by
  simp only [spec_NeumeName.f]
  refine EvP.bind (spec_cvalid c hc) (fun _ e => ?_)
  subst e
  unfold nameB
  refine EvP.ite (fun h => ?_) (fun h => ?_)
  · refine EvP.succ ?_
    simp only [spec_NeumeName.j0]
    refine EvP.ite (fun h2 => EvP.ret ?_) (fun h2 => ?_)
    · have := of_decide_eq_true h2
      rw [if_neg (fun q => by have := q.2; omega)]
    · have h3 : ¬ (c.size : Int) ≥ 4 := fun e => h2 (decide_eq_true e)
      have hn : (if okC c = true ∧ c.size ≤ 3 then nnm c else (⟨#[]⟩ : ByteArray)) = nnm c := if_pos ⟨h, by omega⟩
      rw [hn, list_eq]
      unfold nnm
      refine EvP.ite (fun e => EvP.ret (by rw [if_pos e])) (fun e => ?_)
      rw [if_neg e]
      refine EvP.ite (fun e => EvP.ret (by rw [if_pos e])) (fun e => ?_)
      rw [if_neg e]
      refine EvP.ite (fun e => EvP.ret (by rw [if_pos e])) (fun e => ?_)
      rw [if_neg e]
      refine EvP.ite (fun e => EvP.ret (by rw [if_pos e])) (fun e => ?_)
      rw [if_neg e]
      refine EvP.ite (fun e => EvP.ret (by rw [if_pos e])) (fun e => ?_)
      rw [if_neg e]
      refine EvP.ite (fun e => EvP.ret (by rw [if_pos e])) (fun e => ?_)
      rw [if_neg e]
      refine EvP.ite (fun e => EvP.ret (by rw [if_pos e])) (fun e => ?_)
      rw [if_neg e]
      exact EvP.yes (by omega) (EvP.ret rfl)
  · rw [if_neg (fun q => h q.1)]
    refine EvP.succ ?_
    simp only [spec_NeumeName.j0]
    exact ⟨_, Ev.congr (fun _ => if_pos trivial) (Ev.now _), rfl⟩
def conL (l : List TnG) : List UInt8 := Ways.waysB (l.map (·.f0))
def con (l : List TnG) : ByteArray := ⟨(conL l).toArray⟩
theorem conL_len (l : List TnG) : (conL l).length = l.length - 1 := by
  unfold conL Ways.waysB
  simp
theorem wayB_uds (a b : Int) : udsB (Ways.wayB a b) = true := by
  unfold Ways.wayB
  split
  · rfl
  · split <;> rfl
theorem conL_uds (l : List TnG) : (conL l).all udsB = true := by
  unfold conL Ways.waysB
  rw [List.all_eq_true]
  intro x hx
  obtain ⟨i, _, rfl⟩ := List.mem_map.mp hx
  exact wayB_uds _ _
theorem con_size (l : List TnG) : (con l).size = l.length - 1 := by
  have := list_len (con l)
  rw [← this]
  exact conL_len l
theorem con_ok {l : List TnG} (h : l.length ≤ 24) : okC (con l) = true := by
  unfold okC
  rw [con_size, decide_eq_true (by omega), Bool.and_true]
  exact conL_uds l
theorem impl_con (l : List TnG) (h : l.length ≤ 1000000) : impl_melody_contour.f l = some (con l) := by
  unfold impl_melody_contour.f
  rw [if_pos h]
  rfl
end Go.Proofs.YtldepdaglapdeaaDoor.Pur
end
section
namespace Go.Proofs.YtldepdaglapdeaaDoor.E
open Go.RowKit Go.Proofs.YtldepdaglapdeaaDoorW.PrintWords Go.Proofs.YtldepdaglapdeaaDoorW.PrintLast Go.Proofs.YtldepdaglapdeaaDoorW.PrintMore
attribute [local go_sem] max2_int min2_int max_two min_two max_three min_three max_four min_four
set_option linter.unusedVariables false
set_option linter.unusedSimpArgs false
attribute [local go_sem] str_leq_ str_gtr_ str_geq_
def impl_GroupsValid.f (k : Nat) (l0 : List (S56)) (l1 : List (S42)) : Option (Bool) := (impl_groupsOf.f k l0 l1).bind fun bt230 => (some bt230.2)
end Go.Proofs.YtldepdaglapdeaaDoor.E
end
section
namespace Go.Proofs.YtldepdaglapdeaaDoor.E
open Go.RowKit Go.Proofs.YtldepdaglapdeaaDoorW.PrintWords Go.Proofs.YtldepdaglapdeaaDoorW.PrintLast Go.Proofs.YtldepdaglapdeaaDoorW.PrintMore
attribute [local go_sem] max2_int min2_int max_two min_two max_three min_three max_four min_four
set_option linter.unusedVariables false
set_option linter.unusedSimpArgs false
attribute [local go_sem] str_leq_ str_gtr_ str_geq_
mutual
def spec_GroupsValid.j0 : Nat → List (S56) → List (S42) → Bool → Option (Bool)
 | 0, _, _, _ => none
 | k + 1, x0, x1, x14 => if x14 = true then (some false) else (spec_GroupsValid.l0 k x0 x1 0 0)
def spec_GroupsValid.l0 : Nat → List (S56) → List (S42) → Int → Int → Option (Bool)
 | 0, _, _, _, _ => none
 | k + 1, x0, x1, x5, x6 => if x6 < (x1.length : Int) then (if 0 ≤ x6 then ((spec_l6In.f ((rd_T42 x1 x6).f0) 1 4).bind fun t108 => (if t108 = true then (spec_GroupsValid.l0 k x0 x1 (wrap64 (x5 + ((rd_T42 x1 x6).f0))) (wrap64 (x6 + 1))) else (some false))) else (none)) else (some (x5 == (x0.length : Int)))
end
def spec_GroupsValid.f (k : Nat) (l0 : List (S56)) (l1 : List (S42)) : Option (Bool) := (spec_MelodyValid.f k l0).bind fun t106 => (if t106 = true then (spec_GroupsValid.j0 k l0 l1 (decide ((l1.length : Int) > 24))) else (spec_GroupsValid.j0 k l0 l1 true))
end Go.Proofs.YtldepdaglapdeaaDoor.E
end
section
namespace Go.Proofs.YtldepdaglapdeaaDoor.E
open Go.RowKit Go.Proofs.YtldepdaglapdeaaDoorW.PrintWords Go.Proofs.YtldepdaglapdeaaDoorW.PrintLast Go.Proofs.YtldepdaglapdeaaDoorW.PrintMore
attribute [local go_sem] max2_int min2_int max_two min_two max_three min_three max_four min_four
set_option linter.unusedVariables false
set_option linter.unusedSimpArgs false
attribute [local go_sem] str_leq_ str_gtr_ str_geq_
def spec_l3Begin.l0 : Nat → List (S42) → Int → Int → Int → Option (Int)
 | 0, _, _, _, _ => none
 | k + 1, x0, x1, x5, x6 => if x6 < x1 then (if 0 ≤ x6 then (if x6 < (x0.length : Int) then (spec_l3Begin.l0 k x0 x1 (wrap64 (x5 + ((rd_T42 x0 x6).f0))) (wrap64 (x6 + 1))) else (none)) else (none)) else (some x5)
def spec_l3Begin.f (k : Nat) (l0 : List (S42)) (a1 : Int) : Option (Int) := spec_l3Begin.l0 k l0 a1 0 0
end Go.Proofs.YtldepdaglapdeaaDoor.E
end
section
namespace Go.Proofs.YtldepdaglapdeaaDoor.Pur
open Go.RowKit Go.Proofs.YtldepdaglapdeaaDoorW.PrintWords Go.Proofs.YtldepdaglapdeaaDoorW.PrintMore Go.Proofs.YtldepdaglapdeaaDoor.E
abbrev MlG := S42
abbrev GpG := S73
theorem rdG_lt {l : List MlG} {i : Nat} (h : i < l.length) : rd_T42 l (i : Int) = l[i] := by
  unfold rd_T42
  rw [toNat_nat, List.getD_eq_getElem?_getD, List.getElem?_eq_getElem h]
  rfl
theorem rdP_lt {l : List GpG} {i : Nat} (h : i < l.length) : rd_T73 l (i : Int) = l[i] := by
  unfold rd_T73
  rw [toNat_nat, List.getD_eq_getElem?_getD, List.getElem?_eq_getElem h]
  rfl
theorem okM_parts {l : List TnG} (h : okM l = true) : l.all okT = true ∧ l.length ≤ 24 := by
  unfold okM at h
  simpa using h
def sumG : List MlG → Int
  | [] => 0
  | g :: gs => g.f0 + sumG gs
def okS (g : MlG) : Bool := decide (1 ≤ g.f0) && decide (g.f0 ≤ 4)
theorem okS_iff (g : MlG) : okS g = true ↔ 1 ≤ g.f0 ∧ g.f0 ≤ 4 := by
  unfold okS
  rw [Bool.and_eq_true, decide_eq_true_eq, decide_eq_true_eq]
theorem sum_low : ∀ gs : List MlG, gs.all okS = true → (gs.length : Int) ≤ sumG gs ∧ sumG gs ≤ 4 * (gs.length : Int)
  | [], _ => by simp [sumG]
  | g :: gs, h => by
    rw [List.all_cons, Bool.and_eq_true] at h
    have h1 := (okS_iff g).mp h.1
    have h2 := sum_low gs h.2
    simp only [sumG, List.length_cons]
    omega
def cutG : List TnG → List MlG → Option (List GpG)
  | m, [] => if m.length = 0 then some [] else none
  | m, g :: gs => if 1 ≤ g.f0 ∧ g.f0 ≤ 4 ∧ g.f0 ≤ (m.length : Int) then (cutG (m.drop g.f0.toNat) gs).map (⟨m.take g.f0.toNat, g.f1⟩ :: ·) else none
theorem cut_some : ∀ (gs : List MlG) (m : List TnG), (cutG m gs).isSome = (gs.all okS && decide (sumG gs = (m.length : Int)))
  | [], m => by
    unfold cutG
    rw [List.all_nil, Bool.true_and]
    split
    · rename_i h; rw [h]; rfl
    · rename_i h
      have : ¬ sumG [] = (m.length : Int) := by simp only [sumG]; omega
      rw [decide_eq_false this]; rfl
  | g :: gs, m => by
    unfold cutG
    rw [List.all_cons]
    split
    · rename_i h
      obtain ⟨h1, h2, h3⟩ := h
      rw [Option.isSome_map, cut_some gs, (okS_iff g).mpr ⟨h1, h2⟩, Bool.true_and]
      congr 1
      rw [decide_eq_decide, List.length_drop]
      simp only [sumG]
      omega
    · rename_i h
      symm
      rw [Option.isSome_none, Bool.and_eq_false_iff, Bool.and_eq_false_iff]
      by_cases hg : okS g = true
      · by_cases ha : gs.all okS = true
        · right
          have h1 := (okS_iff g).mp hg
          have h2 := sum_low gs ha
          apply decide_eq_false
          simp only [sumG]
          omega
        · exact .inl (.inr (Bool.eq_false_iff.mpr ha))
      · exact .inl (.inl (Bool.eq_false_iff.mpr hg))
def grp (m : List TnG) (gs : List MlG) : Option (List GpG) := if okM m = true then cutG m gs else none
theorem grp_some (m : List TnG) (gs : List MlG) : (grp m gs).isSome = (okM m && (gs.all okS && decide (sumG gs = (m.length : Int)))) := by
  unfold grp
  by_cases h : okM m = true
  · rw [if_pos h, h, Bool.true_and, cut_some]
  · rw [if_neg h, Bool.eq_false_iff.mpr h, Bool.false_and]; rfl
theorem grp_of {m : List TnG} {gs : List MlG} {l : List GpG} (h : grp m gs = some l) : okM m = true ∧ m.length ≤ 24 ∧ gs.all okS = true ∧ sumG gs = (m.length : Int) ∧ gs.length ≤ m.length ∧ cutG m gs = some l := by
  have h1 := grp_some m gs
  rw [h] at h1
  have h1 := h1.symm
  rw [Option.isSome_some, Bool.and_eq_true, Bool.and_eq_true, decide_eq_true_eq] at h1
  obtain ⟨a, b, c⟩ := h1
  have h2 := sum_low gs b
  refine ⟨a, (okM_parts a).2, b, c, by omega, ?_⟩
  unfold grp at h
  rw [if_pos a] at h
  exact h
theorem cut_len : ∀ (gs : List MlG) (m : List TnG) (l : List GpG), cutG m gs = some l → l.length = gs.length
  | [], m, l, h => by
    unfold cutG at h
    split at h
    · obtain rfl := Option.some.inj h; rfl
    · exact absurd h (by simp)
  | g :: gs, m, l, h => by
    unfold cutG at h
    split at h
    · obtain ⟨l', h', rfl⟩ := Option.map_eq_some_iff.mp h
      rw [List.length_cons, List.length_cons, cut_len gs _ _ h']
    · exact absurd h (by simp)
theorem cut_at : ∀ (gs : List MlG) (m : List TnG) (l : List GpG), cutG m gs = some l → ∀ (i : Nat) (g : MlG), gs[i]? = some g →
    ∃ b : Nat, (b : Int) = sumG (gs.take i) ∧ b + g.f0.toNat ≤ m.length ∧ 1 ≤ g.f0 ∧ g.f0 ≤ 4 ∧ l[i]? = some ⟨(m.take (b + g.f0.toNat)).drop b, g.f1⟩
  | [], m, l, h, i, g, hi => by simp at hi
  | g' :: gs, m, l, h, i, g, hi => by
    unfold cutG at h
    split at h
    · rename_i hc
      obtain ⟨l', h', rfl⟩ := Option.map_eq_some_iff.mp h
      cases i with
      | zero =>
        obtain rfl : g' = g := by simpa using hi
        refine ⟨0, rfl, by omega, hc.1, hc.2.1, ?_⟩
        rw [Nat.zero_add, List.drop_zero]
        rfl
      | succ i =>
        obtain ⟨b, hb, hl, h1, h4, he⟩ := cut_at gs _ _ h' i g (by simpa using hi)
        rw [List.length_drop] at hl
        refine ⟨g'.f0.toNat + b, ?_, by omega, h1, h4, ?_⟩
        · rw [List.take_succ_cons]
          simp only [sumG]
          omega
        · have hx : ∀ (m : List TnG) (s b f : Nat), ((m.drop s).take (b + f)).drop b = (m.take (s + b + f)).drop (s + b) := by
            intro m s b f
            rw [List.drop_take, List.drop_take, List.drop_drop]
            congr 1
            omega
          rw [List.getElem?_cons_succ, he, hx]
    · exact absurd h (by simp)
theorem impl_groups_loop (gs : List MlG) (hg : gs.length ≤ 1048576) : ∀ (d i : Nat) (acc : List GpG) (m : List TnG), i + d = gs.length → acc.length + m.length ≤ 24 →
    EvP (fun k => impl_groupsOf.l0 k acc m gs (gs.length : Int) (i : Int)) (fun r => (∀ l, cutG m (gs.drop i) = some l → r = (acc ++ l, true)) ∧ (cutG m (gs.drop i) = none → r.2 = false)) := by
  intro d
  induction d with
  | zero =>
    intro i acc m hi hm
    refine EvP.succ ?_
    simp only [impl_groupsOf.l0]
    refine EvP.no (by omega) (EvP.ret ?_)
    rw [List.drop_of_length_le (by omega)]
    simp only [cutG]
    by_cases h : m.length = 0
    · rw [if_pos h, h]
      refine ⟨fun l e => ?_, fun e => absurd e (by simp)⟩
      obtain rfl := Option.some.inj e
      rw [List.append_nil]
      rfl
    · rw [if_neg h]
      refine ⟨fun l e => absurd e (by simp), fun _ => ?_⟩
      have : ¬ (m.length : Int) = 0 := by omega
      exact beq_eq_false_iff_ne.mpr this
  | succ d ih =>
    intro i acc m hi hm
    have hlt : i < gs.length := by omega
    have e1 : Hd (wrap64 ((i : Int) + 1) = ((i + 1 : Nat) : Int)) := ⟨w64 (by omega) (by omega)⟩
    refine EvP.succ ?_
    simp only [impl_groupsOf.l0]
    refine EvP.yes (by omega) (EvP.yes (by omega) (EvP.yes (by omega) ?_))
    rw [rdG_lt hlt, List.drop_eq_getElem_cons hlt, e1.out]
    obtain ⟨g, hgg⟩ : ∃ g, gs[i] = g := ⟨_, rfl⟩
    rw [hgg]
    simp only [cutG]
    have bad : ∀ r : List GpG × Bool, r.2 = false → ¬ (1 ≤ g.f0 ∧ g.f0 ≤ 4 ∧ g.f0 ≤ (m.length : Int)) → (∀ l, (if 1 ≤ g.f0 ∧ g.f0 ≤ 4 ∧ g.f0 ≤ (m.length : Int) then (cutG (m.drop g.f0.toNat) (gs.drop (i + 1))).map (⟨m.take g.f0.toNat, g.f1⟩ :: ·) else none) = some l → r = (acc ++ l, true)) ∧ ((if 1 ≤ g.f0 ∧ g.f0 ≤ 4 ∧ g.f0 ≤ (m.length : Int) then (cutG (m.drop g.f0.toNat) (gs.drop (i + 1))).map (⟨m.take g.f0.toNat, g.f1⟩ :: ·) else none) = none → r.2 = false) := by
      intro r hr hn
      rw [if_neg hn]
      exact ⟨fun l e => absurd e (by simp), fun _ => hr⟩
    refine EvP.ite (fun h => EvP.ret (bad _ rfl (by omega))) (fun h1 => ?_)
    refine EvP.ite (fun h => EvP.ret (bad _ rfl (by omega))) (fun h2 => ?_)
    refine EvP.ite (fun h => EvP.ret (bad _ rfl (by omega))) (fun h3 => ?_)
    refine EvP.yes (by omega) (EvP.yes (by omega) (EvP.yes (by omega) ?_))
    refine (ih (i + 1) _ _ (by omega) (by rw [List.length_append, List.length_drop]; simp only [List.length_cons, List.length_nil]; omega)).mono (fun r hr => ?_)
    rw [if_pos ⟨by omega, by omega, by omega⟩]
    refine ⟨fun l e => ?_, fun e => ?_⟩
    · obtain ⟨l', e', rfl⟩ := Option.map_eq_some_iff.mp e
      rw [hr.1 l' e', List.append_assoc]
      rfl
    · exact hr.2 (Option.map_eq_none_iff.mp e)
theorem impl_groups (m : List TnG) (gs : List MlG) (hg : gs.length ≤ 1048576) : EvP (fun k => impl_groupsOf.f k m gs) (fun r => (∀ l, grp m gs = some l → r = (l, true)) ∧ (grp m gs = none → r.2 = false)) := by
  simp only [impl_groupsOf.f]
  refine EvP.bind (impl_melody m) (fun _ e => ?_)
  subst e
  unfold grp
  refine EvP.ite (fun h => ?_) (fun h => EvP.ret ?_)
  · rw [if_pos h]
    have := (okM_parts h).2
    exact impl_groups_loop gs hg gs.length 0 [] m (by omega) (by simpa using this)
  · rw [if_neg h]
    exact ⟨fun l e => absurd e (by simp), fun _ => rfl⟩
end Go.Proofs.YtldepdaglapdeaaDoor.Pur
end
section
namespace Go.Proofs.YtldepdaglapdeaaDoor.E
open Go.RowKit Go.Proofs.YtldepdaglapdeaaDoorW.PrintWords Go.Proofs.YtldepdaglapdeaaDoorW.PrintLast Go.Proofs.YtldepdaglapdeaaDoorW.PrintMore
attribute [local go_sem] max2_int min2_int max_two min_two max_three min_three max_four min_four
set_option linter.unusedVariables false
set_option linter.unusedSimpArgs false
attribute [local go_sem] str_leq_ str_gtr_ str_geq_
def spec_l3Name.f (k : Nat) (l0 : List (S56)) (a1 : Bool) : Option (ByteArray) := (spec_l3Contour.f k l0).bind fun t115 => ((spec_NeumeName.f k t115).bind fun t116 => (if a1 = true then (if 0 < (t116.size : Int) then ((some (([((bt t116 0) - 32) % 256] : List Int) : List Int)).bind fun y117 => (if 1 ≤ (t116.size : Int) then (if (strOfNums y117).size + (t116.extract 1 t116.size).size ≤ 9223372036854775807 then (some ((strOfNums y117) ++ (t116.extract 1 t116.size))) else (none)) else (none))) else (none)) else (some t116)))
def spec_l3Name.T3 : Bool × List (List Nat × List Nat) := (true, [([], []), ([0], [0]), ([1], [1]), ([2], [2]), ([3], [3]), ([], []), ([5], [5]), ([4, 6], [4, 6]), ([7, 0, 1, 2, 3, 4, 5, 6, 7], [7])])
def spec_l3Name.B3 : List Nat := [0, 1, 3, 7, 15, 0, 32, 127, 255]
end Go.Proofs.YtldepdaglapdeaaDoor.E
end
section
namespace Go.Proofs.YtldepdaglapdeaaDoor.E
open Go.RowKit Go.Proofs.YtldepdaglapdeaaDoorW.PrintWords Go.Proofs.YtldepdaglapdeaaDoorW.PrintLast Go.Proofs.YtldepdaglapdeaaDoorW.PrintMore
attribute [local go_sem] max2_int min2_int max_two min_two max_three min_three max_four min_four
set_option linter.unusedVariables false
set_option linter.unusedSimpArgs false
attribute [local go_sem] str_leq_ str_gtr_ str_geq_
mutual
def spec_GroupsNames.l0 : Nat → List (S56) → List (S42) → ByteArray → Int → Option (ByteArray)
 | 0, _, _, _, _ => none
 | k + 1, x0, x1, x5, x6 => if x6 < (x1.length : Int) then ((spec_GroupsValid.f k x0 x1).bind fun t115 => (spec_GroupsNames.j1 k x0 x1 x5 x6 t115)) else (spec_GroupsNames.j1 k x0 x1 x5 x6 false)
def spec_GroupsNames.j1 : Nat → List (S56) → List (S42) → ByteArray → Int → Bool → Option (ByteArray)
 | 0, _, _, _, _, _ => none
 | k + 1, x0, x1, x5, x6, x16 => if x16 = true then (if x6 > 0 then (if x5.size + 1 ≤ 9223372036854775807 then ((spec_l3Begin.f k x1 x6).bind fun t116 => (if 0 ≤ x6 then (if x6 < (x1.length : Int) then (if 0 ≤ t116 then (if t116 ≤ (wrap64 (t116 + ((rd_T42 x1 x6).f0))) then (if (wrap64 (t116 + ((rd_T42 x1 x6).f0))) ≤ (x0.length : Int) then ((spec_l3Name.f k ((x0.take ((wrap64 (t116 + ((rd_T42 x1 x6).f0))) : Int).toNat).drop (t116 : Int).toNat) ((rd_T42 x1 x6).f1)).bind fun t123 => (if (x5 ++ (⟨#[32]⟩ : ByteArray)).size + t123.size ≤ 9223372036854775807 then (spec_GroupsNames.l0 k x0 x1 ((x5 ++ (⟨#[32]⟩ : ByteArray)) ++ t123) (wrap64 (x6 + 1))) else (none))) else (none)) else (none)) else (none)) else (none)) else (none))) else (none)) else ((spec_l3Begin.f k x1 x6).bind fun t124 => (if 0 ≤ x6 then (if x6 < (x1.length : Int) then (if 0 ≤ t124 then (if t124 ≤ (wrap64 (t124 + ((rd_T42 x1 x6).f0))) then (if (wrap64 (t124 + ((rd_T42 x1 x6).f0))) ≤ (x0.length : Int) then ((spec_l3Name.f k ((x0.take ((wrap64 (t124 + ((rd_T42 x1 x6).f0))) : Int).toNat).drop (t124 : Int).toNat) ((rd_T42 x1 x6).f1)).bind fun t131 => (if x5.size + t131.size ≤ 9223372036854775807 then (spec_GroupsNames.l0 k x0 x1 (x5 ++ t131) (wrap64 (x6 + 1))) else (none))) else (none)) else (none)) else (none)) else (none)) else (none)))) else (some x5)
end
def spec_GroupsNames.f (k : Nat) (l0 : List (S56)) (l1 : List (S42)) : Option (ByteArray) := spec_GroupsNames.l0 k l0 l1 (⟨#[]⟩ : ByteArray) 0
def spec_GroupsNames.T8 : Bool × List (List Nat × List Nat) := (true, [([], []), ([], []), ([], []), ([], []), ([], []), ([], []), ([4, 5], [4, 5]), ([6], [6]), ([7], [7]), ([3, 8], [3, 8]), ([1, 2, 9], [1, 2, 9]), ([], []), ([], []), ([11, 12], [11, 12]), ([13], [13]), ([14], [14]), ([10, 15], [10, 15]), ([0, 16], [0, 16]), ([17, 16, 0, 1, 2, 3, 4, 5, 6, 7, 8, 9, 10, 11, 12, 13, 14, 15, 16, 17], [0, 17])])
def spec_GroupsNames.B8 : List Nat := [0, 0, 0, 0, 0, 0, 48, 112, 240, 504, 1022, 0, 0, 6144, 14336, 30720, 65534, 131071, 262143]
end Go.Proofs.YtldepdaglapdeaaDoor.E
end
section
namespace Go.Proofs.YtldepdaglapdeaaDoor.E
open Go.RowKit Go.Proofs.YtldepdaglapdeaaDoorW.PrintWords Go.Proofs.YtldepdaglapdeaaDoorW.PrintLast Go.Proofs.YtldepdaglapdeaaDoorW.PrintMore
attribute [local go_sem] max2_int min2_int max_two min_two max_three min_three max_four min_four
set_option linter.unusedVariables false
set_option linter.unusedSimpArgs false
attribute [local go_sem] str_leq_ str_gtr_ str_geq_
def spec_GroupsRead.f (k : Nat) (l0 : List (S56)) (l1 : List (S42)) (a2 : ByteArray) : Option (Bool) := (spec_GroupsValid.f k l0 l1).bind fun t228 => (if t228 = true then ((spec_GroupsNames.f k l0 l1).bind fun t229 => (some (t229.toList == a2.toList))) else (some false))
end Go.Proofs.YtldepdaglapdeaaDoor.E
end
section
namespace Go.Proofs.YtldepdaglapdeaaDoor.E
open Go.RowKit Go.Proofs.YtldepdaglapdeaaDoorW.PrintWords Go.Proofs.YtldepdaglapdeaaDoorW.PrintLast Go.Proofs.YtldepdaglapdeaaDoorW.PrintMore
attribute [local go_sem] max2_int min2_int max_two min_two max_three min_three max_four min_four
set_option linter.unusedVariables false
set_option linter.unusedSimpArgs false
attribute [local go_sem] str_leq_ str_gtr_ str_geq_
def impl_GroupsRead.f (k : Nat) (l0 : List (S56)) (l1 : List (S42)) (a2 : ByteArray) : Option (Bool) := (impl_GroupsValid.f k l0 l1).bind fun t234 => (if t234 = true then ((impl_GroupsNames.f k l0 l1).bind fun t235 => (some (a2.toList == t235.toList))) else (some false))
end Go.Proofs.YtldepdaglapdeaaDoor.E
end
section
namespace Go.Proofs.YtldepdaglapdeaaDoor.E
open Go.RowKit Go.Proofs.YtldepdaglapdeaaDoorW.PrintWords Go.Proofs.YtldepdaglapdeaaDoorW.PrintLast Go.Proofs.YtldepdaglapdeaaDoorW.PrintMore
attribute [local go_sem] max2_int min2_int max_two min_two max_three min_three max_four min_four
set_option linter.unusedVariables false
set_option linter.unusedSimpArgs false
attribute [local go_sem] str_leq_ str_gtr_ str_geq_
def impl_copiedTones.f (l0 : List (S56)) : Option (List (S56)) := if l0.length ≤ 8796093022208 then some l0 else none
def flatT (l : List (S56)) : List Value := l.flatMap fun t => [.int .i64 t.f0, .bool t.f1]
end Go.Proofs.YtldepdaglapdeaaDoor.E
end
section
namespace Go.Proofs.YtldepdaglapdeaaDoor.E
open Go.RowKit Go.Proofs.YtldepdaglapdeaaDoorW.PrintWords Go.Proofs.YtldepdaglapdeaaDoorW.PrintLast Go.Proofs.YtldepdaglapdeaaDoorW.PrintMore
attribute [local go_sem] max2_int min2_int max_two min_two max_three min_three max_four min_four
set_option linter.unusedVariables false
set_option linter.unusedSimpArgs false
attribute [local go_sem] str_leq_ str_gtr_ str_geq_
def impl_GroupsCut.f (k : Nat) (l0 : List (S56)) (l1 : List (S42)) (a2 : Int) : Option ((List (S56)) × Bool) := (impl_groupsOf.f k l0 l1).bind fun bt332 => (if bt332.2 = true then (if a2 < 0 then (some (([] : List (S56)), false)) else (if a2 ≥ (bt332.1.length : Int) then (some (([] : List (S56)), false)) else (if 0 ≤ a2 then (if a2 < (bt332.1.length : Int) then ((impl_copiedTones.f ((rd_T73 bt332.1 a2).f0)).bind fun t337 => (some (t337, true))) else (none)) else (none)))) else (some (([] : List (S56)), false)))
end Go.Proofs.YtldepdaglapdeaaDoor.E
end
section
namespace Go.Proofs.YtldepdaglapdeaaDoor.E
open Go.RowKit Go.Proofs.YtldepdaglapdeaaDoorW.PrintWords Go.Proofs.YtldepdaglapdeaaDoorW.PrintLast Go.Proofs.YtldepdaglapdeaaDoorW.PrintMore
attribute [local go_sem] max2_int min2_int max_two min_two max_three min_three max_four min_four
set_option linter.unusedVariables false
set_option linter.unusedSimpArgs false
attribute [local go_sem] str_leq_ str_gtr_ str_geq_
def spec_GroupsCut.f (k : Nat) (l0 : List (S56)) (l1 : List (S42)) (a2 : Int) : Option ((List (S56)) × Bool) := (spec_GroupsValid.f k l0 l1).bind fun t386 => (if t386 = true then ((spec_l6In.f a2 0 (wrap64 ((l1.length : Int) - 1))).bind fun t387 => (if t387 = true then ((spec_l3Begin.f k l1 a2).bind fun t388 => ((some (([] : List (S56)) : List (S56))).bind fun y389 => (if 0 ≤ a2 then (if a2 < (l1.length : Int) then (if 0 ≤ t388 then (if t388 ≤ (wrap64 (t388 + ((rd_T42 l1 a2).f0))) then (if (wrap64 (t388 + ((rd_T42 l1 a2).f0))) ≤ (l0.length : Int) then ((some ((l0.take ((wrap64 (t388 + ((rd_T42 l1 a2).f0))) : Int).toNat).drop (t388 : Int).toNat : List (S56))).bind fun y393 => (if y389.length + y393.length < 8796093022208 then (some ((y389 ++ y393), true)) else (none))) else (none)) else (none)) else (none)) else (none)) else (none)))) else (some ((([] : List (S56))), false)))) else (some ((([] : List (S56))), false)))
end Go.Proofs.YtldepdaglapdeaaDoor.E
end
section
namespace Go.Proofs.YtldepdaglapdeaaDoor.Pur
open Go Go.RowKit Go.Proofs.YtldepdaglapdeaaDoorW.PrintWords Go.Proofs.YtldepdaglapdeaaDoorW.PrintMore Go.Proofs.YtldepdaglapdeaaDoor.E
def isHead (u : UInt8) : Prop := u = 112 ∨ u = 99 ∨ u = 116 ∨ u = 115 ∨ u = 103
theorem nnm_head (c : ByteArray) : ∃ u l, (nnm c).data.toList = u :: l ∧ isHead u := by
  unfold nnm isHead
  repeat' split
  all_goals exact ⟨_, _, rfl, by decide⟩
theorem nnm_size (c : ByteArray) (h : c.size ≤ 3) : (nnm c).size ≤ 9 := by
  unfold nnm
  repeat' split
  all_goals first | decide | skip
  rw [ByteArray.size_append]
  have : (⟨#[103, 114, 111, 117, 112, 45]⟩ : ByteArray).size = 6 := rfl
  omega
def liqB (n : ByteArray) : ByteArray := match n.data.toList with
  | [] => ⟨#[]⟩
  | u :: l => ⟨((u - 32) :: l).toArray⟩
def gname (g : GpG) : ByteArray := if g.f1 = true then liqB (nnm (con g.f0)) else nnm (con g.f0)
theorem liq_data {n : ByteArray} {u : UInt8} {l : List UInt8} (h : n.data.toList = u :: l) : (liqB n).data.toList = (u - 32) :: l := by
  unfold liqB
  rw [h]
theorem ext0 {n : ByteArray} {u : UInt8} {l : List UInt8} (h : n.data.toList = u :: l) : (n.extract 0 1).data.toList = [u] := by
  rw [ByteArray.data_extract, Array.toList_extract, List.extract_eq_take_drop, h]
  rfl
theorem ext1 {n : ByteArray} {u : UInt8} {l : List UInt8} (h : n.data.toList = u :: l) : (n.extract 1 n.size).data.toList = l := by
  have hs := list_len n
  rw [h, List.length_cons] at hs
  rw [ByteArray.data_extract, Array.toList_extract, List.extract_eq_take_drop, h, ← hs]
  simp
theorem head_up {u : UInt8} (h : isHead u) : Go.Lib.toUpperA [u] = [u - 32] ∧ u.toNat < 128 ∧ 32 ≤ u.toNat ∧ UInt8.ofNat (((u.toNat : Int) - 32) % 256).toNat = u - 32 ∧ u - 32 ≠ u ∧ u - 32 ≠ 32 := by
  unfold isHead at h
  rcases h with rfl | rfl | rfl | rfl | rfl <;> decide
theorem impl_gname (l : List TnG) (b : Bool) (hl : l.length ≤ 4) : impl_group_name.f l b = some (gname ⟨l, b⟩) := by
  have hc : (con l).size ≤ 3 := by rw [con_size]; omega
  have hn : nameB (con l) = nnm (con l) := if_pos ⟨con_ok (by omega), hc⟩
  have hz := nnm_size _ hc
  obtain ⟨u, t, hd, hu⟩ := nnm_head (con l)
  have hs := list_len (nnm (con l))
  rw [hd, List.length_cons] at hs
  obtain ⟨h1, h2, h3, _, _, _⟩ := head_up hu
  unfold impl_group_name.f
  rw [impl_con l (by omega), Option.bind_some, impl_nn, Option.bind_some, hn]
  unfold gname
  cases b with
  | false => rfl
  | true =>
    have e0 := ext0 hd
    have e1 := ext1 hd
    have z0 : ((nnm (con l)).extract 0 1).size = 1 := by rw [← list_len, e0]; rfl
    have z1 : ((nnm (con l)).extract 1 (nnm (con l)).size).size ≤ 9 := by rw [← list_len, e1]; omega
    have hup : strings_ToUpper.f ((nnm (con l)).extract 0 1) = some ⟨(Go.Lib.toUpperA [u]).toArray⟩ := by
      unfold strings_ToUpper.f
      rw [if_pos (by omega), e0, if_pos (by simp [h2])]
    have zz : (⟨(Go.Lib.toUpperA [u]).toArray⟩ : ByteArray).size = 1 := by rw [h1]; rfl
    rw [if_pos rfl, if_pos (by decide), if_pos (by omega), hup, Option.bind_some, if_pos (by omega)]
    refine congrArg some (ba_ext ?_)
    rw [app_data, e1, if_pos rfl, liq_data hd, h1]
    rfl
theorem gname_size (g : GpG) (h : g.f0.length ≤ 4) : (gname g).size ≤ 9 := by
  have hc : (con g.f0).size ≤ 3 := by rw [con_size]; omega
  have hz := nnm_size _ hc
  obtain ⟨u, t, hd, _⟩ := nnm_head (con g.f0)
  unfold gname
  split
  · rw [← list_len, liq_data hd]
    rw [← list_len, hd] at hz
    exact hz
  · exact hz
theorem gname_f (l : List TnG) : gname ⟨l, false⟩ = nnm (con l) := rfl
def tailN : List ByteArray → List UInt8
  | [] => []
  | t :: ts => 32 :: (t.data.toList ++ tailN ts)
def joinN : List ByteArray → List UInt8
  | [] => []
  | t :: ts => t.data.toList ++ tailN ts
theorem tailN_len : ∀ l : List ByteArray, (∀ t ∈ l, t.size ≤ 9) → (tailN l).length ≤ 10 * l.length
  | [], _ => Nat.le_refl _
  | t :: ts, h => by
    have h1 := tailN_len ts (fun x hx => h x (List.mem_cons_of_mem _ hx))
    have h2 := h t (List.mem_cons_self ..)
    simp only [tailN, List.length_cons, List.length_append, list_len]
    omega
theorem joinN_len (l : List ByteArray) (h : ∀ t ∈ l, t.size ≤ 9) : (joinN l).length ≤ 10 * l.length := by
  cases l with
  | nil => exact Nat.le_refl _
  | cons t ts =>
    have h1 := tailN_len ts (fun x hx => h x (List.mem_cons_of_mem _ hx))
    have h2 := h t (List.mem_cons_self ..)
    simp only [joinN, List.length_cons, List.length_append, list_len]
    omega
theorem join_tail : ∀ (t : ByteArray) (l : List ByteArray), ([32] : List UInt8).intercalate ((t :: l).map (·.data.toList)) = t.data.toList ++ tailN l
  | t, [] => by simp [List.intercalate, tailN]
  | t, u :: r => by
    have h := join_tail u r
    simp only [List.map_cons, List.intercalate, List.intersperse, List.flatten_cons, tailN] at h ⊢
    rw [h]
    simp
theorem join_is (l : List ByteArray) : ([32] : List UInt8).intercalate (l.map (·.data.toList)) = joinN l := by
  cases l with
  | nil => rfl
  | cons t r => exact join_tail t r
def gnm (m : List TnG) (gs : List MlG) : List UInt8 := match grp m gs with
  | none => []
  | some l => joinN (l.map gname)
theorem gnm_some {m : List TnG} {gs : List MlG} {l : List GpG} (h : grp m gs = some l) : gnm m gs = joinN (l.map gname) := by unfold gnm; rw [h]
theorem gnm_none {m : List TnG} {gs : List MlG} (h : grp m gs = none) : gnm m gs = [] := by unfold gnm; rw [h]
theorem grp_small {m : List TnG} {gs : List MlG} {l : List GpG} (h : grp m gs = some l) : l.length = gs.length ∧ l.length ≤ 24 ∧ ∀ g ∈ l, g.f0.length ≤ 4 := by
  obtain ⟨_, h1, _, _, h2, hc⟩ := grp_of h
  have hl := cut_len gs m l hc
  refine ⟨hl, by omega, fun g hg => ?_⟩
  obtain ⟨i, hi, rfl⟩ := List.mem_iff_getElem.mp hg
  obtain ⟨b, _, _, _, h4, he⟩ := cut_at gs m l hc i gs[i] (List.getElem?_eq_getElem (by omega))
  rw [List.getElem?_eq_getElem hi] at he
  rw [Option.some.inj he]
  simp only [List.length_drop, List.length_take]
  omega
theorem impl_gnames_loop (l : List GpG) (hl : l.length ≤ 24) (h4 : ∀ g ∈ l, g.f0.length ≤ 4) : ∀ (d i : Nat), i + d = l.length → EvP (fun k => impl_GroupsNames.l0 k ((l.map gname).take i) l (l.length : Int) (i : Int)) (· = ⟨(joinN (l.map gname)).toArray⟩) := by
  intro d
  induction d with
  | zero =>
    intro i hi
    refine EvP.succ ?_
    simp only [impl_GroupsNames.l0]
    refine EvP.no (by omega) ?_
    rw [List.take_of_length_le (by rw [List.length_map]; omega)]
    have hj := join_is (l.map gname)
    have hz : (⟨#[32]⟩ : ByteArray).data.toList = [32] := rfl
    have hm := joinN_len (l.map gname) (fun t ht => by
      obtain ⟨g, hg, rfl⟩ := List.mem_map.mp ht
      exact gname_size g (h4 g hg))
    rw [List.length_map] at hm
    refine EvP.bind (P := (· = ⟨(joinN (l.map gname)).toArray⟩)) (EvP.con ?_ rfl) (fun _ e => EvP.ret e)
    unfold strings_Join.f Go.Lib.join
    rw [hz, hj, if_pos (by rw [List.length_map]; omega), if_pos (by omega)]
  | succ d ih =>
    intro i hi
    have hlt : i < l.length := by omega
    have e1 : Hd (wrap64 ((i : Int) + 1) = ((i + 1 : Nat) : Int)) := ⟨w64 (by omega) (by omega)⟩
    refine EvP.succ ?_
    simp only [impl_GroupsNames.l0]
    refine EvP.yes (by omega) (EvP.yes (by omega) (EvP.yes (by omega) ?_))
    rw [rdP_lt hlt, e1.out]
    refine EvP.bind (P := (· = gname l[i])) (EvP.con (impl_gname _ _ (h4 _ (List.getElem_mem hlt))) rfl) (fun _ e => ?_)
    subst e
    refine EvP.yes (by rw [List.length_take, List.length_map]; omega) ?_
    have := List.take_succ_eq_append_getElem (l := l.map gname) (i := i) (by rw [List.length_map]; exact hlt)
    rw [List.getElem_map] at this
    rw [← this]
    exact ih (i + 1) (by omega)
theorem impl_gnames (m : List TnG) (gs : List MlG) (hg : gs.length ≤ 1048576) : EvP (fun k => impl_GroupsNames.f k m gs) (· = ⟨(gnm m gs).toArray⟩) := by
  simp only [impl_GroupsNames.f]
  refine EvP.bind (impl_groups m gs hg) (fun r e => ?_)
  cases h : grp m gs with
  | none =>
    rw [e.2 h, gnm_none h]
    exact EvP.no (by decide) (EvP.ret rfl)
  | some l =>
    rw [e.1 l h, gnm_some h]
    obtain ⟨_, h2, h3⟩ := grp_small h
    exact EvP.yes rfl (impl_gnames_loop l h2 h3 l.length 0 (by omega))
end Go.Proofs.YtldepdaglapdeaaDoor.Pur
end
section
namespace Go.Proofs.YtldepdaglapdeaaDoor.E
open Go.RowKit Go.Proofs.YtldepdaglapdeaaDoorW.PrintWords Go.Proofs.YtldepdaglapdeaaDoorW.PrintLast Go.Proofs.YtldepdaglapdeaaDoorW.PrintMore
attribute [local go_sem] max2_int min2_int max_two min_two max_three min_three max_four min_four
set_option linter.unusedVariables false
set_option linter.unusedSimpArgs false
attribute [local go_sem] str_leq_ str_gtr_ str_geq_
def laws_toTone.f (a0_0 : Int) (a0_1 : Bool) : Option (Int × Bool) := some (a0_0, a0_1)
end Go.Proofs.YtldepdaglapdeaaDoor.E
end
section
namespace Go.Proofs.YtldepdaglapdeaaDoor.E
open Go.RowKit Go.Proofs.YtldepdaglapdeaaDoorW.PrintWords Go.Proofs.YtldepdaglapdeaaDoorW.PrintLast Go.Proofs.YtldepdaglapdeaaDoorW.PrintMore
attribute [local go_sem] max2_int min2_int max_two min_two max_three min_three max_four min_four
set_option linter.unusedVariables false
set_option linter.unusedSimpArgs false
attribute [local go_sem] str_leq_ str_gtr_ str_geq_
def laws_toToneS.l0 : Nat → List (S64) → List (S56) → Int → Option ((List (S56)))
 | 0, _, _, _ => none
 | k + 1, x0, x3, x4 => if x4 < (x0.length : Int) then (if 0 ≤ x4 then ((laws_toTone.f ((rd_T64 x0 x4).f0) ((rd_T64 x0 x4).f1)).bind fun bt139 => (if x4 < (x3.length : Int) then (laws_toToneS.l0 k x0 (x3.set (x4 : Int).toNat (⟨bt139.1, bt139.2⟩ : S56)) (wrap64 (x4 + 1))) else (none))) else (none)) else (some x3)
def laws_toToneS.f (k : Nat) (l0 : List (S64)) : Option ((List (S56))) := if 0 ≤ (l0.length : Int) then (if ((l0.length : Int) : Int).toNat ≤ 17592186044416 then (laws_toToneS.l0 k l0 (List.replicate ((l0.length : Int) : Int).toNat z56) 0) else (none)) else (none)
end Go.Proofs.YtldepdaglapdeaaDoor.E
end
section
namespace Go.Proofs.YtldepdaglapdeaaDoor.E
open Go.RowKit Go.Proofs.YtldepdaglapdeaaDoorW.PrintWords Go.Proofs.YtldepdaglapdeaaDoorW.PrintLast Go.Proofs.YtldepdaglapdeaaDoorW.PrintMore
attribute [local go_sem] max2_int min2_int max_two min_two max_three min_three max_four min_four
set_option linter.unusedVariables false
set_option linter.unusedSimpArgs false
attribute [local go_sem] str_leq_ str_gtr_ str_geq_
def laws_szToneS.f (l0 : List (S64)) (a1 : Int) : Option (Int) := if (wrap64 (a1 - (l0.length : Int))) < 0 then (some (-1)) else (some (wrap64 (a1 - (l0.length : Int))))
end Go.Proofs.YtldepdaglapdeaaDoor.E
end
section
namespace Go.Proofs.YtldepdaglapdeaaDoor.E
open Go.RowKit Go.Proofs.YtldepdaglapdeaaDoorW.PrintWords Go.Proofs.YtldepdaglapdeaaDoorW.PrintLast Go.Proofs.YtldepdaglapdeaaDoorW.PrintMore
attribute [local go_sem] max2_int min2_int max_two min_two max_three min_three max_four min_four
set_option linter.unusedVariables false
set_option linter.unusedSimpArgs false
attribute [local go_sem] str_leq_ str_gtr_ str_geq_
def laws_eqTone.f (a0_0 : Int) (a0_1 : Bool) (a1_0 : Int) (a1_1 : Bool) : Option (Bool) := if a0_0 = a1_0 then (if (a0_1 != a1_1) = true then (some false) else (some true)) else (some false)
end Go.Proofs.YtldepdaglapdeaaDoor.E
end
section
namespace Go.Proofs.YtldepdaglapdeaaDoor.E
open Go.RowKit Go.Proofs.YtldepdaglapdeaaDoorW.PrintWords Go.Proofs.YtldepdaglapdeaaDoorW.PrintLast Go.Proofs.YtldepdaglapdeaaDoorW.PrintMore
attribute [local go_sem] max2_int min2_int max_two min_two max_three min_three max_four min_four
set_option linter.unusedVariables false
set_option linter.unusedSimpArgs false
attribute [local go_sem] str_leq_ str_gtr_ str_geq_
def laws_eqToneS.l0 : Nat → List (S56) → List (S56) → Int → Option (Bool)
 | 0, _, _, _ => none
 | k + 1, x0, x1, x5 => if x5 < (x0.length : Int) then (if 0 ≤ x5 then (if x5 < (x1.length : Int) then ((laws_eqTone.f ((rd_T56 x0 x5).f0) ((rd_T56 x0 x5).f1) ((rd_T56 x1 x5).f0) ((rd_T56 x1 x5).f1)).bind fun t198 => (if t198 = true then (laws_eqToneS.l0 k x0 x1 (wrap64 (x5 + 1))) else (some false))) else (none)) else (none)) else (some true)
def laws_eqToneS.f (k : Nat) (l0 : List (S56)) (l1 : List (S56)) : Option (Bool) := if (l0.length : Int) = (l1.length : Int) then (laws_eqToneS.l0 k l0 l1 0) else (some false)
def laws_eqToneS.T6 : Bool × List (List Nat × List Nat) := (true, [([], []), ([], []), ([0, 1], [0, 1]), ([2], [2]), ([], []), ([], []), ([4, 5], [4, 5]), ([6], [6]), ([3, 7], [3, 7]), ([8], [8])])
def laws_eqToneS.B6 : List Nat := [0, 0, 3, 7, 0, 0, 48, 112, 255, 511]
end Go.Proofs.YtldepdaglapdeaaDoor.E
end
section
namespace Go.Proofs.YtldepdaglapdeaaDoor.Pur
open Go.RowKit Go.Proofs.YtldepdaglapdeaaDoorW.PrintWords Go.Proofs.YtldepdaglapdeaaDoor.E
abbrev Tn' := S56
def cv (t : S64) : S56 := ⟨t.f0, t.f1⟩
end Go.Proofs.YtldepdaglapdeaaDoor.Pur
end
section
namespace Go.Proofs.YtldepdaglapdeaaDoor.E
open Go.RowKit Go.Proofs.YtldepdaglapdeaaDoorW.PrintWords Go.Proofs.YtldepdaglapdeaaDoorW.PrintLast Go.Proofs.YtldepdaglapdeaaDoorW.PrintMore
attribute [local go_sem] max2_int min2_int max_two min_two max_three min_three max_four min_four
set_option linter.unusedVariables false
set_option linter.unusedSimpArgs false
attribute [local go_sem] str_leq_ str_gtr_ str_geq_
def laws_toMelisma.f (a0_0 : Int) (a0_1 : Bool) : Option (Int × Bool) := some (a0_0, a0_1)
end Go.Proofs.YtldepdaglapdeaaDoor.E
end
section
namespace Go.Proofs.YtldepdaglapdeaaDoor.E
open Go.RowKit Go.Proofs.YtldepdaglapdeaaDoorW.PrintWords Go.Proofs.YtldepdaglapdeaaDoorW.PrintLast Go.Proofs.YtldepdaglapdeaaDoorW.PrintMore
attribute [local go_sem] max2_int min2_int max_two min_two max_three min_three max_four min_four
set_option linter.unusedVariables false
set_option linter.unusedSimpArgs false
attribute [local go_sem] str_leq_ str_gtr_ str_geq_
def laws_toMelismaS.l0 : Nat → List (S66) → List (S42) → Int → Option ((List (S42)))
 | 0, _, _, _ => none
 | k + 1, x0, x3, x4 => if x4 < (x0.length : Int) then (if 0 ≤ x4 then ((laws_toMelisma.f ((rd_T66 x0 x4).f0) ((rd_T66 x0 x4).f1)).bind fun bt149 => (if x4 < (x3.length : Int) then (laws_toMelismaS.l0 k x0 (x3.set (x4 : Int).toNat (⟨bt149.1, bt149.2⟩ : S42)) (wrap64 (x4 + 1))) else (none))) else (none)) else (some x3)
def laws_toMelismaS.f (k : Nat) (l0 : List (S66)) : Option ((List (S42))) := if 0 ≤ (l0.length : Int) then (if ((l0.length : Int) : Int).toNat ≤ 17592186044416 then (laws_toMelismaS.l0 k l0 (List.replicate ((l0.length : Int) : Int).toNat z42) 0) else (none)) else (none)
end Go.Proofs.YtldepdaglapdeaaDoor.E
end
section
namespace Go.Proofs.YtldepdaglapdeaaDoor.E
open Go.RowKit Go.Proofs.YtldepdaglapdeaaDoorW.PrintWords Go.Proofs.YtldepdaglapdeaaDoorW.PrintLast Go.Proofs.YtldepdaglapdeaaDoorW.PrintMore
attribute [local go_sem] max2_int min2_int max_two min_two max_three min_three max_four min_four
set_option linter.unusedVariables false
set_option linter.unusedSimpArgs false
attribute [local go_sem] str_leq_ str_gtr_ str_geq_
def laws_szMelismaS.f (l0 : List (S66)) (a1 : Int) : Option (Int) := if (wrap64 (a1 - (l0.length : Int))) < 0 then (some (-1)) else (some (wrap64 (a1 - (l0.length : Int))))
end Go.Proofs.YtldepdaglapdeaaDoor.E
end
section
namespace Go.Proofs.YtldepdaglapdeaaDoor.E
open Go.RowKit Go.Proofs.YtldepdaglapdeaaDoorW.PrintWords Go.Proofs.YtldepdaglapdeaaDoorW.PrintLast Go.Proofs.YtldepdaglapdeaaDoorW.PrintMore
attribute [local go_sem] max2_int min2_int max_two min_two max_three min_three max_four min_four
set_option linter.unusedVariables false
set_option linter.unusedSimpArgs false
attribute [local go_sem] str_leq_ str_gtr_ str_geq_
def laws_eqMelisma.f (a0_0 : Int) (a0_1 : Bool) (a1_0 : Int) (a1_1 : Bool) : Option (Bool) := if a0_0 = a1_0 then (if (a0_1 != a1_1) = true then (some false) else (some true)) else (some false)
end Go.Proofs.YtldepdaglapdeaaDoor.E
end
section
namespace Go.Proofs.YtldepdaglapdeaaDoor.E
open Go.RowKit Go.Proofs.YtldepdaglapdeaaDoorW.PrintWords Go.Proofs.YtldepdaglapdeaaDoorW.PrintLast Go.Proofs.YtldepdaglapdeaaDoorW.PrintMore
attribute [local go_sem] max2_int min2_int max_two min_two max_three min_three max_four min_four
set_option linter.unusedVariables false
set_option linter.unusedSimpArgs false
attribute [local go_sem] str_leq_ str_gtr_ str_geq_
def laws_eqMelismaS.l0 : Nat → List (S42) → List (S42) → Int → Option (Bool)
 | 0, _, _, _ => none
 | k + 1, x0, x1, x5 => if x5 < (x0.length : Int) then (if 0 ≤ x5 then (if x5 < (x1.length : Int) then ((laws_eqMelisma.f ((rd_T42 x0 x5).f0) ((rd_T42 x0 x5).f1) ((rd_T42 x1 x5).f0) ((rd_T42 x1 x5).f1)).bind fun t203 => (if t203 = true then (laws_eqMelismaS.l0 k x0 x1 (wrap64 (x5 + 1))) else (some false))) else (none)) else (none)) else (some true)
def laws_eqMelismaS.f (k : Nat) (l0 : List (S42)) (l1 : List (S42)) : Option (Bool) := if (l0.length : Int) = (l1.length : Int) then (laws_eqMelismaS.l0 k l0 l1 0) else (some false)
def laws_eqMelismaS.T6 : Bool × List (List Nat × List Nat) := (true, [([], []), ([], []), ([0, 1], [0, 1]), ([2], [2]), ([], []), ([], []), ([4, 5], [4, 5]), ([6], [6]), ([3, 7], [3, 7]), ([8], [8])])
def laws_eqMelismaS.B6 : List Nat := [0, 0, 3, 7, 0, 0, 48, 112, 255, 511]
end Go.Proofs.YtldepdaglapdeaaDoor.E
end
section
namespace Go.Proofs.YtldepdaglapdeaaDoor.Pur
open Go.RowKit Go.Proofs.YtldepdaglapdeaaDoorW.PrintWords Go.Proofs.YtldepdaglapdeaaDoor.E
abbrev Ml' := S42
def cvG (t : S66) : S42 := ⟨t.f0, t.f1⟩
end Go.Proofs.YtldepdaglapdeaaDoor.Pur
end
section
namespace Go.Proofs.YtldepdaglapdeaaDoor.E
open Go.RowKit Go.Proofs.YtldepdaglapdeaaDoorW.PrintWords Go.Proofs.YtldepdaglapdeaaDoorW.PrintLast Go.Proofs.YtldepdaglapdeaaDoorW.PrintMore
attribute [local go_sem] max2_int min2_int max_two min_two max_three min_three max_four min_four
set_option linter.unusedVariables false
set_option linter.unusedSimpArgs false
attribute [local go_sem] str_leq_ str_gtr_ str_geq_
def laws_FnExactGroupsNames.f (k : Nat) (l0 : List (S64)) (l1 : List (S66)) : Option (Bool) := (laws_szToneS.f l0 1048576).bind fun t204 => (if t204 < 0 then (some true) else ((laws_szMelismaS.f l1 t204).bind fun t205 => (if t205 < 0 then (some true) else ((laws_toToneS.f k l0).bind fun t206 => ((laws_toMelismaS.f k l1).bind fun t209 => ((spec_GroupsNames.f k t206 t209).bind fun t212 => ((laws_toToneS.f k l0).bind fun t213 => ((laws_toMelismaS.f k l1).bind fun t216 => ((impl_GroupsNames.f k t213 t216).bind fun t219 => (if t219.toList = t212.toList then ((laws_toToneS.f k l0).bind fun t220 => ((laws_eqToneS.f k t213 t220).bind fun t223 => (if t223 = true then ((laws_toMelismaS.f k l1).bind fun t224 => ((laws_eqMelismaS.f k t216 t224).bind fun t227 => (if t227 = true then (some true) else (none)))) else (none)))) else (none)))))))))))
end Go.Proofs.YtldepdaglapdeaaDoor.E
end
section
namespace Go.Proofs.YtldepdaglapdeaaDoor.E
open Go.RowKit Go.Proofs.YtldepdaglapdeaaDoorW.PrintWords Go.Proofs.YtldepdaglapdeaaDoorW.PrintLast Go.Proofs.YtldepdaglapdeaaDoorW.PrintMore
attribute [local go_sem] max2_int min2_int max_two min_two max_three min_three max_four min_four
set_option linter.unusedVariables false
set_option linter.unusedSimpArgs false
attribute [local go_sem] str_leq_ str_gtr_ str_geq_
def laws_FnExactGroupsRead.f (k : Nat) (l0 : List (S64)) (l1 : List (S66)) (a2 : ByteArray) : Option (Bool) := if (a2.size : Int) > 1048576 then (some true) else ((laws_szToneS.f l0 1048576).bind fun t236 => (if t236 < 0 then (some true) else ((laws_szMelismaS.f l1 t236).bind fun t237 => (if t237 < 0 then (some true) else ((laws_toToneS.f k l0).bind fun t238 => ((laws_toMelismaS.f k l1).bind fun t241 => ((spec_GroupsRead.f k t238 t241 a2).bind fun t244 => ((laws_toToneS.f k l0).bind fun t245 => ((laws_toMelismaS.f k l1).bind fun t248 => ((impl_GroupsRead.f k t245 t248 a2).bind fun t251 => (if (t251 != t244) = true then (none) else ((laws_toToneS.f k l0).bind fun t252 => ((laws_eqToneS.f k t245 t252).bind fun t255 => (if t255 = true then ((laws_toMelismaS.f k l1).bind fun t256 => ((laws_eqMelismaS.f k t248 t256).bind fun t259 => (if t259 = true then (some true) else (none)))) else (none)))))))))))))))
end Go.Proofs.YtldepdaglapdeaaDoor.E
end
section
namespace Go.Proofs.YtldepdaglapdeaaDoor.Pur
open Go.RowKit Go.Proofs.YtldepdaglapdeaaDoorW.PrintWords Go.Proofs.YtldepdaglapdeaaDoorW.PrintMore Go.Proofs.YtldepdaglapdeaaDoor.E
def gread (m : List TnG) (gs : List MlG) (t : ByteArray) : Bool := (grp m gs).isSome && decide (t = ⟨(gnm m gs).toArray⟩)
end Go.Proofs.YtldepdaglapdeaaDoor.Pur
end
section
namespace Go.Proofs.YtldepdaglapdeaaDoor.E
open Go.RowKit Go.Proofs.YtldepdaglapdeaaDoorW.PrintWords Go.Proofs.YtldepdaglapdeaaDoorW.PrintLast Go.Proofs.YtldepdaglapdeaaDoorW.PrintMore
attribute [local go_sem] max2_int min2_int max_two min_two max_three min_three max_four min_four
set_option linter.unusedVariables false
set_option linter.unusedSimpArgs false
attribute [local go_sem] str_leq_ str_gtr_ str_geq_
def spec_l91Groups.l0 : Nat → List (S56) → List (S42) → Int → List Int → Int → Option ((List (S56)) × (List (S42)) × Int)
 | 0, _, _, _, _, _ => none
 | k + 1, x4, x5, x6, x1000, x1001 => if x6 > 0 then ((spec_l6Rd_pick.f k x1000 x1001 (mn x6 4)).bind fun bt300 => ((spec_l6Rd_pick.f k x1000 bt300.2 4).bind fun bt302 => (if x5.length < 8796093022208 then (spec_l91Groups.l0 k x4 (x5 ++ [(⟨wrap64 (1 + bt300.1), (bt302.1 == 0)⟩ : S42)]) (wrap64 (x6 - (wrap64 (1 + bt300.1)))) x1000 bt302.2) else (none)))) else (if (x5.length : Int) > 0 then ((spec_l6Rd_pick.f k x1000 x1001 30).bind fun bt307 => (if bt307.1 = 0 then ((some (([0, 5, (-1)] : List Int) : List Int)).bind fun y309 => ((spec_l6Rd_pick.f k x1000 bt307.2 3).bind fun bt312 => (if 0 ≤ bt312.1 then (if bt312.1 < (y309.length : Int) then (if 0 < (x5.length : Int) then (some (x4, (x5.set (0 : Int).toNat (⟨rd y309 bt312.1, (rd_T42 x5 0).f1⟩ : S42)), bt312.2)) else (none)) else (none)) else (none)))) else (if bt307.1 = 1 then (if 1 ≤ (x5.length : Int) then (some (x4, (x5.drop (1 : Int).toNat), bt307.2)) else (none)) else (some (x4, x5, bt307.2))))) else (some (x4, x5, x1001)))
def spec_l91Groups.f (k : Nat) (s0_0 : List Int) (s0_1 : Int) : Option ((List (S56)) × (List (S42)) × Int) := (spec_l91Melody.f k s0_0 s0_1 10).bind fun bt293 => (spec_l91Groups.l0 k bt293.1 (([] : List (S42))) (bt293.1.length : Int) s0_0 bt293.2)
end Go.Proofs.YtldepdaglapdeaaDoor.E
end
section
namespace Go.Proofs.YtldepdaglapdeaaDoor.E
open Go.RowKit Go.Proofs.YtldepdaglapdeaaDoorW.PrintWords Go.Proofs.YtldepdaglapdeaaDoorW.PrintLast Go.Proofs.YtldepdaglapdeaaDoorW.PrintMore
attribute [local go_sem] max2_int min2_int max_two min_two max_three min_three max_four min_four
set_option linter.unusedVariables false
set_option linter.unusedSimpArgs false
attribute [local go_sem] str_leq_ str_gtr_ str_geq_
def spec_DrawGroupsNames.f (k : Nat) (l0 : List Int) : Option ((List (S56)) × (List (S42))) := (spec_l6Open.f l0).bind fun bt322 => ((spec_l91Groups.f k bt322.1 bt322.2).bind fun bt325 => (some (bt325.1, bt325.2.1)))
end Go.Proofs.YtldepdaglapdeaaDoor.E
end
section
namespace Go.Proofs.YtldepdaglapdeaaDoor.E
open Go.RowKit Go.Proofs.YtldepdaglapdeaaDoorW.PrintWords Go.Proofs.YtldepdaglapdeaaDoorW.PrintLast Go.Proofs.YtldepdaglapdeaaDoorW.PrintMore
attribute [local go_sem] max2_int min2_int max_two min_two max_three min_three max_four min_four
set_option linter.unusedVariables false
set_option linter.unusedSimpArgs false
attribute [local go_sem] str_leq_ str_gtr_ str_geq_
def spec_DrawGroupsCut.f (k : Nat) (l0 : List Int) : Option ((List (S56)) × (List (S42)) × Int) := (spec_l6Open.f l0).bind fun bt374 => ((spec_l91Groups.f k bt374.1 bt374.2).bind fun bt377 => ((spec_l91At.f k bt374.1 bt377.2.2 (bt377.2.1.length : Int)).bind fun bt384 => (some (bt377.1, bt377.2.1, bt384.1))))
end Go.Proofs.YtldepdaglapdeaaDoor.E
end
section
namespace Go.Proofs.YtldepdaglapdeaaDoor.E
open Go.RowKit Go.Proofs.YtldepdaglapdeaaDoorW.PrintWords Go.Proofs.YtldepdaglapdeaaDoorW.PrintLast Go.Proofs.YtldepdaglapdeaaDoorW.PrintMore
attribute [local go_sem] max2_int min2_int max_two min_two max_three min_three max_four min_four
set_option linter.unusedVariables false
set_option linter.unusedSimpArgs false
attribute [local go_sem] str_leq_ str_gtr_ str_geq_
def spec_DrawGroupsRead.f (k : Nat) (l0 : List Int) : Option ((List (S56)) × (List (S42)) × ByteArray) := (spec_l6Open.f l0).bind fun bt530 => ((spec_l91Groups.f k bt530.1 bt530.2).bind fun bt533 => ((spec_GroupsNames.f k bt533.1 bt533.2.1).bind fun t540 => ((spec_l6Rd_pick.f k bt530.1 bt533.2.2 4).bind fun bt541 => (if bt541.1 = 0 then ((spec_l6Rd_of.f k bt530.1 bt541.2 (([(⟨#[32]⟩ : ByteArray), (⟨#[112, 117, 110, 99, 116, 117, 109]⟩ : ByteArray), (⟨#[32, 112, 101, 115]⟩ : ByteArray)] : List ByteArray))).bind fun bt546 => (if t540.size + bt546.1.size ≤ 9223372036854775807 then (some (bt533.1, bt533.2.1, t540 ++ bt546.1)) else (none))) else (some (bt533.1, bt533.2.1, t540))))))
end Go.Proofs.YtldepdaglapdeaaDoor.E
end
section
namespace Go.Proofs.YtldepdaglapdeaaDoor.E
open Go.RowKit Go.Proofs.YtldepdaglapdeaaDoorW.PrintWords Go.Proofs.YtldepdaglapdeaaDoorW.PrintLast Go.Proofs.YtldepdaglapdeaaDoorW.PrintMore
attribute [local go_sem] max2_int min2_int max_two min_two max_three min_three max_four min_four
set_option linter.unusedVariables false
set_option linter.unusedSimpArgs false
attribute [local go_sem] str_leq_ str_gtr_ str_geq_
theorem eqA56 (d : Nat) (w : World) (x0 y0 : Int) (x1 y1 : Bool) :
  (Op.equalIn (d + 2) 56 (.agg #[.int .i64 x0, .bool x1]) (.agg #[.int .i64 y0, .bool y1])).run Tryd.prog w = .ok (x0 == y0 && (x1 == y1)) w := by
 refine eqA_of Tryd.underlying56 (by kernel_rfl) ?_
 refine eqf_cons (by rfl) (by go_simp; rfl) (by go_simp; rfl) (by go_simp) ?_
 exact eqf_last (by rfl) (by go_simp; rfl) (by go_simp; rfl) (by go_simp)
end Go.Proofs.YtldepdaglapdeaaDoor.E
end
section
namespace Go.Proofs.YtldepdaglapdeaaDoor.E
open Go.RowKit Go.Proofs.YtldepdaglapdeaaDoorW.PrintWords Go.Proofs.YtldepdaglapdeaaDoorW.PrintLast Go.Proofs.YtldepdaglapdeaaDoorW.PrintMore
attribute [local go_sem] max2_int min2_int max_two min_two max_three min_three max_four min_four
set_option linter.unusedVariables false
set_option linter.unusedSimpArgs false
attribute [local go_sem high] eqA56
attribute [local go_sem] str_leq_ str_gtr_ str_geq_
def laws_sameTones.l0 : Nat → List (S56) → List (S56) → Int → Option (Bool)
 | 0, _, _, _ => none
 | k + 1, x0, x1, x5 => if x5 < (x0.length : Int) then (if 0 ≤ x5 then (if x5 < (x1.length : Int) then (if (!(((rd_T56 x0 x5).f0) == ((rd_T56 x1 x5).f0)) || (!(((rd_T56 x0 x5).f1) == ((rd_T56 x1 x5).f1)))) = true then (some false) else (laws_sameTones.l0 k x0 x1 (wrap64 (x5 + 1)))) else (none)) else (none)) else (some true)
def laws_sameTones.f (k : Nat) (l0 : List (S56)) (l1 : List (S56)) : Option (Bool) := if (l0.length : Int) = (l1.length : Int) then (laws_sameTones.l0 k l0 l1 0) else (some false)
end Go.Proofs.YtldepdaglapdeaaDoor.E
end
section
namespace Go.Proofs.YtldepdaglapdeaaDoor.E
open Go.RowKit Go.Proofs.YtldepdaglapdeaaDoorW.PrintWords Go.Proofs.YtldepdaglapdeaaDoorW.PrintLast Go.Proofs.YtldepdaglapdeaaDoorW.PrintMore
attribute [local go_sem] max2_int min2_int max_two min_two max_three min_three max_four min_four
set_option linter.unusedVariables false
set_option linter.unusedSimpArgs false
attribute [local go_sem] str_leq_ str_gtr_ str_geq_
def laws_names.l0 : Nat → ByteArray → Int → Int → Option (Int)
 | 0, _, _, _ => none
 | k + 1, x0, x3, x4 => if x4 < (x0.size : Int) then (if 0 ≤ x4 then (if (bt x0 x4) = 32 then (laws_names.l0 k x0 (wrap64 (x3 + 1)) (wrap64 (x4 + 1))) else (laws_names.l0 k x0 x3 (wrap64 (x4 + 1)))) else (none)) else (some x3)
def laws_names.f (k : Nat) (a0 : ByteArray) : Option (Int) := if a0.toList = ([] : List UInt8) then (some 0) else (laws_names.l0 k a0 1 0)
end Go.Proofs.YtldepdaglapdeaaDoor.E
end
section
namespace Go.Proofs.YtldepdaglapdeaaDoor.E
open Go.RowKit Go.Proofs.YtldepdaglapdeaaDoorW.PrintWords Go.Proofs.YtldepdaglapdeaaDoorW.PrintLast Go.Proofs.YtldepdaglapdeaaDoorW.PrintMore
attribute [local go_sem] max2_int min2_int max_two min_two max_three min_three max_four min_four
set_option linter.unusedVariables false
set_option linter.unusedSimpArgs false
attribute [local go_sem] str_leq_ str_gtr_ str_geq_
mutual
def laws_FnGroups.j0 : Nat → List (S56) → List (S42) → ByteArray → ByteArray → Bool → Option (Bool)
 | 0, _, _, _, _, _ => none
 | k + 1, x3, x4, x5, x6, x31 => if x31 = true then (some (x5.toList == x6.toList)) else (laws_FnGroups.l0 k x3 x4 x5 (([] : List (S56))) 0)
def laws_FnGroups.l0 : Nat → List (S56) → List (S42) → ByteArray → List (S56) → Int → Option (Bool)
 | 0, _, _, _, _, _ => none
 | k + 1, x3, x4, x5, x7, x8 => if x8 < (x4.length : Int) then ((impl_GroupsCut.f k x3 x4 x8).bind fun bt353 => (if bt353.2 = true then (if 0 ≤ x8 then (if (bt353.1.length : Int) = ((rd_T42 x4 x8).f0) then (if x7.length + bt353.1.length < 8796093022208 then (laws_FnGroups.l0 k x3 x4 x5 (x7 ++ bt353.1) (wrap64 (x8 + 1))) else (none)) else (none)) else (none)) else (none))) else ((laws_sameTones.f k x7 x3).bind fun t361 => (if t361 = true then ((laws_names.f k x5).bind fun t362 => (if t362 = (x4.length : Int) then ((impl_GroupsRead.f k x3 x4 x5).bind fun t363 => (some t363)) else (none))) else (none)))
end
def laws_FnGroups.f (k : Nat) (l0 : List Int) : Option (Bool) := if (l0.length : Int) > 1048576 then (some true) else ((spec_DrawGroupsNames.f k l0).bind fun bt342 => ((impl_GroupsNames.f k bt342.1 bt342.2).bind fun t348 => ((spec_GroupsNames.f k bt342.1 bt342.2).bind fun t349 => (if t348.toList = t349.toList then (laws_FnGroups.j0 k bt342.1 bt342.2 t348 t349 (t348.toList == ([] : List UInt8))) else (laws_FnGroups.j0 k bt342.1 bt342.2 t348 t349 true)))))
def laws_FnGroups.Pure : Prop := ∀ (l0 : List Int), l0.length ≤ maxLen → l0.length * 1 ≤ 140737488351232 → (∀ x ∈ l0, (Lit.int .u8 x).wf = true) → ∃ k, laws_FnGroups.f k l0 = some true
end Go.Proofs.YtldepdaglapdeaaDoor.E
end
section
namespace Go.Proofs.YtldepdaglapdeaaDoor.E
open Go.RowKit Go.Proofs.YtldepdaglapdeaaDoorW.PrintWords Go.Proofs.YtldepdaglapdeaaDoorW.PrintLast Go.Proofs.YtldepdaglapdeaaDoorW.PrintMore
attribute [local go_sem] max2_int min2_int max_two min_two max_three min_three max_four min_four
set_option linter.unusedVariables false
set_option linter.unusedSimpArgs false
attribute [local go_sem] str_leq_ str_gtr_ str_geq_
def impl_ContourOf.f (k : Nat) (l0 : List (S56)) : Option (ByteArray) := (impl_MelodyValid.f k l0).bind fun t406 => (if t406 = true then ((impl_melody_contour.f l0).bind fun t407 => (some t407)) else (some (⟨#[]⟩ : ByteArray)))
end Go.Proofs.YtldepdaglapdeaaDoor.E
end
section
namespace Go.Proofs.YtldepdaglapdeaaDoor.E
open Go.RowKit Go.Proofs.YtldepdaglapdeaaDoorW.PrintWords Go.Proofs.YtldepdaglapdeaaDoorW.PrintLast Go.Proofs.YtldepdaglapdeaaDoorW.PrintMore
attribute [local go_sem] max2_int min2_int max_two min_two max_three min_three max_four min_four
set_option linter.unusedVariables false
set_option linter.unusedSimpArgs false
attribute [local go_sem] str_leq_ str_gtr_ str_geq_
def laws_FnGroupsCut.j0 : Nat → List (S42) → Int → List (S56) → Bool → List (S56) → Bool → Bool → Option (Bool)
 | 0, _, _, _, _, _, _, _ => none
 | k + 1, x4, x5, x6, x7, x8, x9, x48 => if x48 = true then (if (x7 == x9) = true then ((laws_sameTones.f k x6 x8).bind fun t424 => (some t424)) else (none)) else ((impl_ContourOf.f k x6).bind fun t425 => ((impl_NeumeName.f t425).bind fun t426 => (if 0 ≤ x5 then (if x5 < (x4.length : Int) then ((impl_GroupsNames.f k x6 (([(⟨(rd_T42 x4 x5).f0, (rd_T42 x4 x5).f1⟩ : S42)] : List (S42)))).bind fun t431 => ((impl_GroupsNames.f k x6 (([(⟨(rd_T42 x4 x5).f0, false⟩ : S42)] : List (S42)))).bind fun t436 => (if t426.toList = ([] : List UInt8) then (none) else (if t436.toList = t426.toList then (if ((t431.toList == t426.toList) == (!((rd_T42 x4 x5).f1))) = true then (if 1 ≤ (t431.size : Int) then (if 1 ≤ (t426.size : Int) then (some ((t431.extract 1 t431.size).toList == (t426.extract 1 t426.size).toList)) else (none)) else (none)) else (none)) else (none))))) else (none)) else (none))))
def laws_FnGroupsCut.f (k : Nat) (l0 : List Int) : Option (Bool) := if (l0.length : Int) > 1048576 then (some true) else ((spec_DrawGroupsCut.f k l0).bind fun bt408 => ((impl_GroupsCut.f k bt408.1 bt408.2.1 bt408.2.2).bind fun bt415 => ((spec_GroupsCut.f k bt408.1 bt408.2.1 bt408.2.2).bind fun bt419 => (if (bt415.2 != bt419.2) = true then (laws_FnGroupsCut.j0 k bt408.2.1 bt408.2.2 bt415.1 bt415.2 bt419.1 bt419.2 true) else ((laws_sameTones.f k bt415.1 bt419.1).bind fun t423 => (if t423 = true then (laws_FnGroupsCut.j0 k bt408.2.1 bt408.2.2 bt415.1 bt415.2 bt419.1 bt419.2 (!bt415.2)) else (laws_FnGroupsCut.j0 k bt408.2.1 bt408.2.2 bt415.1 bt415.2 bt419.1 bt419.2 true)))))))
def laws_FnGroupsCut.Pure : Prop := ∀ (l0 : List Int), l0.length ≤ maxLen → l0.length * 1 ≤ 140737488351232 → (∀ x ∈ l0, (Lit.int .u8 x).wf = true) → ∃ k, laws_FnGroupsCut.f k l0 = some true
end Go.Proofs.YtldepdaglapdeaaDoor.E
end
section
namespace Go.Proofs.YtldepdaglapdeaaDoor.E
open Go.RowKit Go.Proofs.YtldepdaglapdeaaDoorW.PrintWords Go.Proofs.YtldepdaglapdeaaDoorW.PrintLast Go.Proofs.YtldepdaglapdeaaDoorW.PrintMore
attribute [local go_sem] max2_int min2_int max_two min_two max_three min_three max_four min_four
set_option linter.unusedVariables false
set_option linter.unusedSimpArgs false
attribute [local go_sem] str_leq_ str_gtr_ str_geq_
mutual
def laws_FnGroupsRead.j0 : Nat → List Int → List Int → Bool → Option (Bool)
 | 0, _, _, _ => none
 | k + 1, x0, x1, x19 => if x19 = true then (some true) else ((spec_DrawGroupsRead.f k x0).bind fun bt548 => ((impl_GroupsRead.f k bt548.1 bt548.2.1 bt548.2.2).bind fun t555 => ((spec_GroupsRead.f k bt548.1 bt548.2.1 bt548.2.2).bind fun t556 => (if (t555 != t556) = true then (laws_FnGroupsRead.j1 k x1 bt548.1 bt548.2.1 bt548.2.2 t555 t556 true) else (laws_FnGroupsRead.j1 k x1 bt548.1 bt548.2.1 bt548.2.2 t555 t556 (!t555))))))
def laws_FnGroupsRead.j1 : Nat → List Int → List (S56) → List (S42) → ByteArray → Bool → Bool → Bool → Option (Bool)
 | 0, _, _, _, _, _, _, _ => none
 | k + 1, x1, x5, x6, x7, x8, x9, x40 => if x40 = true then (some (x8 == x9)) else (if (x6.length : Int) = 0 then (if x7.toList = ([] : List UInt8) then (some ((x5.length : Int) == 0)) else (none)) else ((some (([] : List (S42)) : List (S42))).bind fun y557 => (if y557.length + x6.length < 8796093022208 then ((some (y557 ++ x6 : List (S42))).bind fun y560 => (if 0 ≤ ((x1.length : Int) % (x6.length : Int)) then (if ((x1.length : Int) % (x6.length : Int)) < (y560.length : Int) then (if x7.size + 4 ≤ 9223372036854775807 then ((impl_GroupsRead.f k x5 x6 (x7 ++ (⟨#[32, 112, 101, 115]⟩ : ByteArray))).bind fun t565 => (if t565 = true then (none) else ((impl_GroupsRead.f k x5 (y560.set (((x1.length : Int) % (x6.length : Int)) : Int).toNat (⟨(rd_T42 y560 ((x1.length : Int) % (x6.length : Int))).f0, !((rd_T42 y560 ((x1.length : Int) % (x6.length : Int))).f1)⟩ : S42)) x7).bind fun t566 => (some (!t566))))) else (none)) else (none)) else (none))) else (none))))
end
def laws_FnGroupsRead.f (k : Nat) (l0 : List Int) (l1 : List Int) : Option (Bool) := if (l0.length : Int) > 1048576 then (laws_FnGroupsRead.j0 k l0 l1 true) else (laws_FnGroupsRead.j0 k l0 l1 (decide ((l1.length : Int) > 1048576)))
def laws_FnGroupsRead.Pure : Prop := ∀ (l0 : List Int) (l1 : List Int), l0.length ≤ maxLen → l0.length * 1 ≤ 140737488351232 → (∀ x ∈ l0, (Lit.int .u8 x).wf = true) → l1.length ≤ maxLen → l1.length * 1 ≤ 140737488351232 → (∀ x ∈ l1, (Lit.int .u8 x).wf = true) → ∃ k, laws_FnGroupsRead.f k l0 l1 = some true
end Go.Proofs.YtldepdaglapdeaaDoor.E
end
section
namespace Go.Proofs.YtldepdaglapdeaaDoor.Pur
open Go Go.RowKit Go.Proofs.YtldepdaglapdeaaDoorW.PrintWords Go.Proofs.YtldepdaglapdeaaDoorW.PrintMore Go.Proofs.YtldepdaglapdeaaDoor.E
def gcut (m : List TnG) (gs : List MlG) (a : Int) : List TnG × Bool := match grp m gs with
  | none => ([], false)
  | some l => if 0 ≤ a ∧ a < (l.length : Int) then ((rd_T73 l a).f0, true) else ([], false)
end Go.Proofs.YtldepdaglapdeaaDoor.Pur
end
section
namespace Go.Proofs.YtldepdaglapdeaaDoor.Pur
open Go Go.RowKit Go.Proofs.YtldepdaglapdeaaDoorW.PrintWords Go.Proofs.YtldepdaglapdeaaDoorW.PrintMore Go.Proofs.YtldepdaglapdeaaDoor.E
theorem grp_one (c : List TnG) (s : Int) (b : Bool) (hc : okM c = true) (hs : s = (c.length : Int)) (h1 : 1 ≤ c.length) (h4 : c.length ≤ 4) : grp c [⟨s, b⟩] = some [⟨c, b⟩] := by
  subst hs
  unfold grp
  rw [if_pos hc]
  simp only [cutG]
  rw [if_pos ⟨by omega, by omega, by omega⟩, toNat_nat, List.drop_length, List.take_length]
  rfl
theorem gnm_one {c : List TnG} {s : Int} {b : Bool} (h : grp c [⟨s, b⟩] = some [⟨c, b⟩]) : (⟨(gnm c [⟨s, b⟩]).toArray⟩ : ByteArray) = gname ⟨c, b⟩ := by
  rw [gnm_some h]
  apply ba_ext
  simp [joinN, tailN]
end Go.Proofs.YtldepdaglapdeaaDoor.Pur
end
section
namespace Go.Proofs.YtldepdaglapdeaaDoor.Pur
open Go Go.RowKit Go.Proofs.YtldepdaglapdeaaDoorW.PrintWords Go.Proofs.YtldepdaglapdeaaDoorW.PrintMore Go.Proofs.YtldepdaglapdeaaDoor.E
def conts : Nat → List (List UInt8)
  | 0 => [[]]
  | n + 1 => (conts n).flatMap fun c => [c ++ [117], c ++ [100], c ++ [115]]
def baC (l : List UInt8) : ByteArray := ⟨l.toArray⟩
def contB (n : Nat) : List ByteArray := (conts n).map baC
def allB : List ByteArray := contB 0 ++ contB 1 ++ contB 2 ++ contB 3
def beqB (a b : ByteArray) : Bool := a.data.toList == b.data.toList
theorem beqB_iff (a b : ByteArray) : beqB a b = true ↔ a = b := by
  unfold beqB
  rw [beq_iff_eq]
  exact ⟨ba_ext, fun e => by rw [e]⟩
theorem contours_mono : ∀ (n : Int) (k : Nat), LeO (spec_l3Contours.f k n) (spec_l3Contours.f (k + 1) n) := fun n k => spec_l3Contours.mono n k
def isL (o : Option (List ByteArray)) (l : List (List UInt8)) : Bool := match o with
  | some r => r.map (·.data.toList) == l
  | none => false
theorem of_isL {o : Option (List ByteArray)} {l : List (List UInt8)} (h : isL o l = true) : o = some (l.map baC) := by
  unfold isL at h
  split at h
  · rename_i r
    rw [beq_iff_eq] at h
    subst h
    rw [List.map_map]
    congr 1
    induction r with
    | nil => rfl
    | cons x xs ih => rw [List.map_cons, ← ih]; rfl
  · cases h
theorem contours_0 : EvP (fun k => spec_l3Contours.f k 0) (· = contB 0) := EvP.of (Ev.of (contours_mono 0) (k := 60) (of_isL (l := conts 0) (by decide +kernel))) rfl
theorem contours_1 : EvP (fun k => spec_l3Contours.f k 1) (· = contB 1) := EvP.of (Ev.of (contours_mono 1) (k := 60) (of_isL (l := conts 1) (by decide +kernel))) rfl
theorem contours_2 : EvP (fun k => spec_l3Contours.f k 2) (· = contB 2) := EvP.of (Ev.of (contours_mono 2) (k := 60) (of_isL (l := conts 2) (by decide +kernel))) rfl
theorem contours_3 : EvP (fun k => spec_l3Contours.f k 3) (· = contB 3) := EvP.of (Ev.of (contours_mono 3) (k := 60) (of_isL (l := conts 3) (by decide +kernel))) rfl
theorem all_okC : allB.all (fun c => okC c && decide (c.size ≤ 3)) = true := by decide +kernel
theorem in_all {n : Nat} (h : n < 4) {c : ByteArray} (hc : c ∈ contB n) : c ∈ allB := by
  unfold allB
  simp only [List.mem_append]
  match n, h with
  | 0, _ => exact .inl (.inl (.inl hc))
  | 1, _ => exact .inl (.inl (.inr hc))
  | 2, _ => exact .inl (.inr hc)
  | 3, _ => exact .inr hc
theorem all_ok {c : ByteArray} (h : c ∈ allB) : okC c = true ∧ c.size ≤ 3 := by
  have := List.all_eq_true.mp all_okC _ h
  rw [Bool.and_eq_true, decide_eq_true_eq] at this
  exact this
theorem all_in {x : ByteArray} (h : okC x = true) (hs : x.size ≤ 3) : x ∈ allB := by
  unfold okC at h
  rw [Bool.and_eq_true] at h
  have hx : x = baC x.data.toList := ba_ext rfl
  rw [hx]
  have hl := list_len x
  obtain ⟨l, hll⟩ : ∃ l, x.data.toList = l := ⟨_, rfl⟩
  rw [hll] at h hl ⊢
  have h1 := h.1
  have key : l ∈ conts 0 ++ conts 1 ++ conts 2 ++ conts 3 := by
    match l, hl with
    | [], _ => decide
    | [a], _ =>
      simp only [List.all_cons, List.all_nil, Bool.and_true] at h1
      rcases (udsB_iff a).mp h1 with rfl | rfl | rfl <;> decide
    | [a, b], _ =>
      simp only [List.all_cons, List.all_nil, Bool.and_true, Bool.and_eq_true] at h1
      rcases (udsB_iff a).mp h1.1 with rfl | rfl | rfl <;> rcases (udsB_iff b).mp h1.2 with rfl | rfl | rfl <;> decide
    | [a, b, c], _ =>
      simp only [List.all_cons, List.all_nil, Bool.and_true, Bool.and_eq_true] at h1
      rcases (udsB_iff a).mp h1.1 with rfl | rfl | rfl <;> rcases (udsB_iff b).mp h1.2.1 with rfl | rfl | rfl <;> rcases (udsB_iff c).mp h1.2.2 with rfl | rfl | rfl <;> decide
    | _ :: _ :: _ :: _ :: _, hl => simp at hl; omega
  have := List.mem_map_of_mem (f := baC) key
  simp only [List.map_append] at this
  exact this
def pick (s : ByteArray) (L : List ByteArray) (X : ByteArray × Bool) : ByteArray × Bool := match L.find? (fun c => beqB (nnm c) s) with
  | some c => (c, true)
  | none => X
def ncR (s : ByteArray) : ByteArray × Bool := pick s (contB 0) (pick s (contB 1) (pick s (contB 2) (pick s (contB 3) (⟨#[]⟩, false))))
theorem spec_nc_loop (s : ByteArray) (n n' : Int) (hn : wrap64 (n + 1) = n') (L : List ByteArray) (hL : ∀ c ∈ L, okC c = true ∧ c.size ≤ 3) (hl : L.length ≤ 1000) (X : ByteArray × Bool) (next : EvP (fun k => spec_NeumeContour.l0 k s n') (· = X)) :
    ∀ d i : Nat, i + d = L.length → EvP (fun k => spec_NeumeContour.l1 k s n L (i : Int)) (· = pick s (L.drop i) X) := by
  intro d
  induction d with
  | zero =>
    intro i hi
    refine EvP.succ ?_
    simp only [spec_NeumeContour.l1]
    refine EvP.no (by omega) ?_
    rw [List.drop_of_length_le (by omega), hn]
    exact next
  | succ d ih =>
    intro i hi
    have hlt : i < L.length := by omega
    have e1 : Hd (wrap64 ((i : Int) + 1) = ((i + 1 : Nat) : Int)) := ⟨w64 (by omega) (by omega)⟩
    have hr : rdOf ByteArray.empty L (i : Int) = L[i] := by
      unfold rdOf
      rw [toNat_nat, List.getD_eq_getElem?_getD, List.getElem?_eq_getElem hlt]
      rfl
    refine EvP.succ ?_
    simp only [spec_NeumeContour.l1]
    refine EvP.yes (by omega) (EvP.yes (by omega) ?_)
    rw [hr, e1.out, List.drop_eq_getElem_cons hlt]
    obtain ⟨c, hc⟩ : ∃ c, L[i] = c := ⟨_, rfl⟩
    have hk := hL c (hc ▸ List.getElem_mem hlt)
    rw [hc]
    refine EvP.bind (spec_nn c (by omega)) (fun _ e => ?_)
    subst e
    have hn : nameB c = nnm c := if_pos hk
    rw [hn]
    unfold pick
    rw [List.find?_cons]
    refine EvP.ite (fun h => EvP.ret ?_) (fun h => ?_)
    · rw [(beqB_iff _ _).mpr (list_iff.mp h)]
    · have : beqB (nnm c) s = false := Bool.eq_false_iff.mpr (fun e => h (list_iff.mpr ((beqB_iff _ _).mp e)))
      rw [this]
      exact ih (i + 1) (by omega)
theorem cont_ok (n : Nat) (h : n < 4) : ∀ c ∈ contB n, okC c = true ∧ c.size ≤ 3 := fun _ hc => all_ok (in_all h hc)
theorem spec_nc (s : ByteArray) : EvP (fun k => spec_NeumeContour.f k s) (· = ncR s) := by
  have z4 : EvP (fun k => spec_NeumeContour.l0 k s 4) (· = ((⟨#[]⟩ : ByteArray), false)) := by
    refine EvP.succ ?_
    simp only [spec_NeumeContour.l0]
    exact EvP.no (by omega) (EvP.ret rfl)
  have z3 : EvP (fun k => spec_NeumeContour.l0 k s 3) (· = pick s (contB 3) (⟨#[]⟩, false)) := by
    refine EvP.succ ?_
    simp only [spec_NeumeContour.l0]
    refine EvP.yes (by omega) (EvP.bind contours_3 (fun _ e => ?_))
    subst e
    exact spec_nc_loop s 3 4 (by decide +kernel) _ (cont_ok 3 (by decide)) (by decide) _ z4 (contB 3).length 0 (by omega)
  have z2 : EvP (fun k => spec_NeumeContour.l0 k s 2) (· = pick s (contB 2) (pick s (contB 3) (⟨#[]⟩, false))) := by
    refine EvP.succ ?_
    simp only [spec_NeumeContour.l0]
    refine EvP.yes (by omega) (EvP.bind contours_2 (fun _ e => ?_))
    subst e
    exact spec_nc_loop s 2 3 (by decide +kernel) _ (cont_ok 2 (by decide)) (by decide) _ z3 (contB 2).length 0 (by omega)
  have z1 : EvP (fun k => spec_NeumeContour.l0 k s 1) (· = pick s (contB 1) (pick s (contB 2) (pick s (contB 3) (⟨#[]⟩, false)))) := by
    refine EvP.succ ?_
    simp only [spec_NeumeContour.l0]
    refine EvP.yes (by omega) (EvP.bind contours_1 (fun _ e => ?_))
    subst e
    exact spec_nc_loop s 1 2 (by decide +kernel) _ (cont_ok 1 (by decide)) (by decide) _ z2 (contB 1).length 0 (by omega)
  simp only [spec_NeumeContour.f]
  refine EvP.succ ?_
  simp only [spec_NeumeContour.l0]
  refine EvP.yes (by omega) (EvP.bind contours_0 (fun _ e => ?_))
  subst e
  exact spec_nc_loop s 0 1 (by decide +kernel) _ (cont_ok 0 (by decide)) (by decide) _ z1 (contB 0).length 0 (by omega)
theorem nc_none {s : ByteArray} (h : ∀ c ∈ allB, nnm c ≠ s) : ncR s = (⟨#[]⟩, false) := by
  have p : ∀ n, n < 4 → ∀ X, pick s (contB n) X = X := by
    intro n hn X
    unfold pick
    rw [List.find?_eq_none.mpr (fun c hc e => h c (in_all hn hc) ((beqB_iff _ _).mp e))]
  unfold ncR
  rw [p 0 (by decide), p 1 (by decide), p 2 (by decide), p 3 (by decide)]
def isR (o : ByteArray × Bool) (c : ByteArray) : Bool := beqB o.1 c && o.2
def isO (o : Option (ByteArray × Bool)) (c : ByteArray) : Bool := match o with
  | some r => isR r c
  | none => false
theorem of_isR {o : ByteArray × Bool} {c : ByteArray} (h : isR o c = true) : o = (c, true) := by
  obtain ⟨a, b⟩ := o
  unfold isR at h
  rw [Bool.and_eq_true, beqB_iff] at h
  exact Prod.ext h.1 h.2
theorem of_isO {o : Option (ByteArray × Bool)} {c : ByteArray} (h : isO o c = true) : o = some (c, true) := by
  unfold isO at h
  split at h
  · rw [of_isR h]
  · cases h
theorem nc_yes : allB.all (fun c => isR (ncR (nnm c)) c && isO (impl_NeumeContour.f (nnm c)) c) = true := by decide +kernel
theorem table_all : (List.range 7).all (fun i => beqB (nnm (conN.getD i ByteArray.empty)) (namN.getD i ByteArray.empty) && allB.any (fun c => beqB c (conN.getD i ByteArray.empty))) = true := by decide +kernel
theorem impl_none {s : ByteArray} (h : ∀ c ∈ allB, nnm c ≠ s) : impl_NeumeContour.f s = some (⟨#[]⟩, false) := by
  unfold impl_NeumeContour.f
  by_cases h0 : s.toList = []
  · rw [if_pos h0]
  · rw [if_neg h0]
    have row : ∀ (d i : Nat), i < 7 → ncLoop s (d + 1) i = ncLoop s d (i + 1) := by
      intro d i hi
      show (if (namN.getD i ByteArray.empty).toList = s.toList then some (conN.getD i ByteArray.empty, true) else ncLoop s d (i + 1)) = _
      have hr := List.all_eq_true.mp table_all i (List.mem_range.mpr hi)
      rw [Bool.and_eq_true, beqB_iff, List.any_eq_true] at hr
      obtain ⟨hn, c, hc, e⟩ := hr
      rw [beqB_iff] at e
      subst e
      exact if_neg (fun e => h _ hc (hn.trans (list_iff.mp e)))
    rw [row 6 0 (by omega), row 5 1 (by omega), row 4 2 (by omega), row 3 3 (by omega), row 2 4 (by omega), row 1 5 (by omega), row 0 6 (by omega)]
    unfold ncLoop
    have hp : ∃ x, strings_CutPrefix.f s (⟨#[103, 114, 111, 117, 112, 45]⟩ : ByteArray) = some x := by
      have h6 : (⟨#[103, 114, 111, 117, 112, 45]⟩ : ByteArray).size = 6 := rfl
      unfold strings_CutPrefix.f stringslite_CutPrefix.f stringslite_HasPrefix.f
      by_cases h1 : (s.size : Int) ≥ ((⟨#[103, 114, 111, 117, 112, 45]⟩ : ByteArray).size : Int)
      · rw [if_pos h1, if_pos (by omega), if_pos (by omega), Option.bind_some]
        split
        · exact ⟨_, rfl⟩
        · exact ⟨_, rfl⟩
      · rw [if_neg h1]
        exact ⟨_, rfl⟩
    obtain ⟨x, hx⟩ := hp
    rw [hx, Option.bind_some]
    by_cases hx2 : x.2 = true
    · rw [if_pos hx2, impl_nn, Option.bind_some]
      rw [if_neg]
      intro e
      unfold nameB at e
      split at e
      · rename_i hk
        exact h _ (all_in hk.1 hk.2) (list_iff.mp e)
      · exact h0 (e.symm.trans (by rw [list_eq]))
    · rw [if_neg hx2]
theorem contour_loop {B : List Int} (hB : okB B) (n : Int) (hn : 0 ≤ n ∧ n ≤ 10) : ∀ (d : Nat) (i p : Int) (acc : ByteArray), 0 ≤ i → i + d = n → (acc.size : Int) ≤ i → 0 ≤ p → p ≤ 100000 - 10 * d →
    EvP (fun k => spec_l91Contour.l0 k acc n i B p) (fun r => r.1.size ≤ 20) := by
  intro d
  induction d with
  | zero =>
    intro i p acc h0 hi ha hp0 hp1
    refine EvP.succ ?_
    simp only [spec_l91Contour.l0]
    refine EvP.no (by omega) ?_
    refine EvP.bind (pick_ok hB p 20 (by omega) (by omega)) (fun r hr => ?_)
    refine EvP.ite (fun _ => ?_) (fun _ => EvP.ret (by dsimp only; omega))
    refine EvP.bind (of_size hB r.2 (by omega) _ (by decide) 1 (by decide)) (fun q hq => ?_)
    have := hq.1
    exact EvP.yes (by omega) (EvP.ret (by dsimp only; rw [ByteArray.size_append]; omega))
  | succ d ih =>
    intro i p acc h0 hi ha hp0 hp1
    refine EvP.succ ?_
    simp only [spec_l91Contour.l0]
    refine EvP.yes (by omega) ?_
    refine EvP.bind (of_size hB p (by omega) _ (by decide) 1 (by decide)) (fun q hq => ?_)
    have h1 := hq.1
    have h2 := hq.2.2
    refine EvP.yes (by omega) ?_
    have e1 : wrap64 (i + 1) = i + 1 := w64 (by omega) (by omega)
    rw [e1]
    exact ih (i + 1) q.2 _ (by omega) (by omega) (by rw [ByteArray.size_append]; omega) (by omega) (by omega)
theorem draw_nc (l : List Int) (h : ∀ x ∈ l, (Lit.int .u8 x).wf = true) : EvP (fun k => spec_DrawNeumeContour.f k l) (fun _ => True) := by
  simp only [spec_DrawNeumeContour.f]
  refine EvP.bind (open_code l h) (fun r hr => ?_)
  refine EvP.bind (pick_ok hr.1 r.2 4 (by omega) (by omega)) (fun a ha => ?_)
  refine EvP.ite (fun _ => ?_) (fun _ => ?_)
  · exact EvP.bind (of_size hr.1 a.2 (by omega) _ (by decide) 20 (by decide)) (fun b hb => EvP.ret trivial)
  · have hc : EvP (fun k => spec_l91Contour.f k r.1 a.2 3) (fun q => q.1.size ≤ 20) := by
      simp only [spec_l91Contour.f]
      rw [show wrap64 (3 + 1) = 4 by decide +kernel]
      refine EvP.bind (pick_ok hr.1 a.2 4 (by omega) (by omega)) (fun b hb => ?_)
      obtain ⟨d, hd⟩ := Int.eq_ofNat_of_zero_le hb.1
      exact contour_loop hr.1 b.1 (by omega) d 0 b.2 ⟨#[]⟩ (by omega) (by omega) (by decide) (by omega) (by omega)
    refine EvP.bind hc (fun q hq => ?_)
    exact EvP.bind (spec_nn q.1 (by omega)) (fun _ _ => EvP.ret trivial)
def toneOf (x : Int) : TnG := ⟨3 + x, false⟩
def leastOk (o : Option (List Int × Bool)) (c : ByteArray) : Bool := match o with
  | some (st, b) => b && (st.length == c.size + 1 && (st.all (fun x => decide (0 ≤ x) && decide (x ≤ 10)) && (okM (st.map toneOf) && beqB (con (st.map toneOf)) c)))
  | none => false
theorem least_all : allB.all (fun c => leastOk (impl_ContourLeast.f 60 c) c) = true := by decide +kernel
theorem least_of {c : ByteArray} (h : c ∈ allB) : ∃ st, EvP (fun k => impl_ContourLeast.f k c) (· = (st, true)) ∧ st.length = c.size + 1 ∧ (∀ x ∈ st, 0 ≤ x ∧ x ≤ 10) ∧ okM (st.map toneOf) = true ∧ con (st.map toneOf) = c := by
  have hl := List.all_eq_true.mp least_all _ h
  cases ho : impl_ContourLeast.f 60 c with
  | none => rw [ho] at hl; cases hl
  | some o =>
    obtain ⟨st, b⟩ := o
    rw [ho] at hl
    simp only [leastOk, Bool.and_eq_true, beq_iff_eq, beqB_iff, List.all_eq_true, decide_eq_true_eq] at hl
    obtain ⟨rfl, h1, h2, h3, h4⟩ := hl
    exact ⟨st, EvP.of (Ev.of (fun k => impl_ContourLeast.mono c k) ho) rfl, h1, h2, h3, h4⟩
theorem nc_walk {c : ByteArray} (hc : c ∈ allB) (st : List Int) (h1 : st.length = c.size + 1) (h2 : ∀ x ∈ st, 0 ≤ x ∧ x ≤ 10) (h3 : okM (st.map toneOf) = true) (h4 : con (st.map toneOf) = c) :
    ∀ d i : Nat, i + d = st.length → EvP (fun k => laws_FnNeumeContour.l0 k (nnm c) c st true ((st.take i).map toneOf) (i : Int)) (· = true) := by
  obtain ⟨k1, k2⟩ := all_ok hc
  intro d
  induction d with
  | zero =>
    intro i hi
    refine EvP.succ ?_
    simp only [laws_FnNeumeContour.l0]
    refine EvP.no (by omega) (EvP.yes (by first | rfl | trivial) ?_)
    have hn : nameB c = nnm c := if_pos ⟨k1, k2⟩
    refine EvP.bind (P := (· = nnm c)) (EvP.con ((impl_nn c).trans (congrArg some hn)) rfl) (fun _ e => ?_)
    subst e
    refine EvP.yes rfl (EvP.yes (by omega) ?_)
    rw [List.take_of_length_le (by omega)]
    refine EvP.bind (impl_gnames (st.map toneOf) [⟨((st.map toneOf).length : Int), false⟩] (by simp)) (fun _ e => ?_)
    subst e
    rw [gnm_one (grp_one (st.map toneOf) _ false h3 rfl (by rw [List.length_map]; omega) (by rw [List.length_map]; omega)), gname_f, h4]
    exact EvP.ret (by simp)
  | succ d ih =>
    intro i hi
    have hlt : i < st.length := by omega
    have hx := h2 _ (List.getElem_mem hlt)
    have hr : rd st (i : Int) = st[i] := by
      unfold rd
      rw [toNat_nat, List.getD_eq_getElem?_getD, List.getElem?_eq_getElem hlt]
      rfl
    have e1 : Hd (wrap64 ((i : Int) + 1) = ((i + 1 : Nat) : Int)) := ⟨w64 (by omega) (by omega)⟩
    refine EvP.succ ?_
    simp only [laws_FnNeumeContour.l0]
    refine EvP.yes (by omega) (EvP.yes (by omega) (EvP.yes (by rw [List.length_map, List.length_take]; omega) ?_))
    rw [hr, e1.out, w64 (by omega) (by omega)]
    have := List.take_succ_eq_append_getElem hlt
    have e2 : (st.take (i + 1)).map toneOf = (st.take i).map toneOf ++ [⟨3 + st[i], false⟩] := by
      rw [this, List.map_append]
      rfl
    rw [← e2]
    exact ih (i + 1) (by omega)
theorem law_nc (l : List Int) (_ : (l.length : Int) ≤ 9223372036854775807) (hb : ∀ x ∈ l, (Lit.int .u8 x).wf = true) : ∃ k, laws_FnNeumeContour.f k l = some true := by
  refine EvP.rounds ?_
  simp only [laws_FnNeumeContour.f]
  refine EvP.ite (fun _ => EvP.ret rfl) (fun _ => ?_)
  refine EvP.bind (draw_nc l hb) (fun s _ => ?_)
  by_cases h : ∃ c ∈ allB, nnm c = s
  · obtain ⟨c, hc, rfl⟩ := h
    have hy := List.all_eq_true.mp nc_yes _ hc
    rw [Bool.and_eq_true] at hy
    refine EvP.bind (P := (· = (c, true))) (EvP.con (of_isO hy.2) rfl) (fun _ e => ?_)
    subst e
    refine EvP.bind ((spec_nc (nnm c)).mono (fun r e => e.trans (of_isR hy.1))) (fun _ e => ?_)
    subst e
    refine EvP.no (by simp) (EvP.yes rfl (EvP.succ ?_))
    simp only [laws_FnNeumeContour.j0]
    refine EvP.no (by simp) ?_
    obtain ⟨st, h0, h1, h2, h3, h4⟩ := least_of hc
    refine EvP.bind h0 (fun _ e => ?_)
    subst e
    exact nc_walk hc st h1 h2 h3 h4 st.length 0 (by omega)
  · have h : ∀ c ∈ allB, nnm c ≠ s := fun c hc e => h ⟨c, hc, e⟩
    refine EvP.bind (P := (· = ((⟨#[]⟩ : ByteArray), false))) (EvP.con (impl_none h) rfl) (fun _ e => ?_)
    subst e
    refine EvP.bind ((spec_nc s).mono (fun r e => e.trans (nc_none h))) (fun _ e => ?_)
    subst e
    refine EvP.no (by simp) (EvP.yes rfl (EvP.succ ?_))
    simp only [laws_FnNeumeContour.j0]
    exact EvP.yes (by simp) (EvP.yes (by simp) (EvP.ret (by simp)))
end Go.Proofs.YtldepdaglapdeaaDoor.Pur
end
section
namespace Go.Proofs.YtldepdaglapdeaaDoor.Head
set_option maxRecDepth 100000
theorem and_t {a b : Bool} (h : a = true) (k : b = true) : (a && b) = true := by rw [h, k]; rfl
theorem mayEnter_of {P : Program} {l : List String} {W rest : List (List Char)} (h : behindMainWord (wordsSigns P.initOrder.toList) = W) (hc : ∃ c r, W = c :: r ∧ (c == "gc".toList || c == "spec".toList) = false ∧ (c == "carried".toList) = false) (hs : stripLifts liftWords W = (l, "cut".toList :: rest))
    (hl : (l.contains "finals" || !P.laysLater) = true) (hb : (l.contains "reflectrows" || !P.bearsReflect) = true) (hr : (l.contains "reflectrows" || !l.contains "leanrows") = true) (hd : P.doorFits l = true) : P.mayEnter = true := by
  obtain ⟨c, r, rfl, h1, h2⟩ := hc
  unfold Program.mayEnter
  rw [h]
  dsimp only
  rw [hs, hl, hb, hr, hd, h1, h2]
  simp
theorem headLifts_of {P : Program} {l : List String} {W rest : List (List Char)} (h : behindMainWord (wordsSigns P.initOrder.toList) = W) (hs : stripLifts liftWords W = (l, "cut".toList :: rest)) : P.headLifts = l := by
  unfold Program.headLifts
  rw [h]
  dsimp only
  rw [hs]
  simp
theorem liftsFinal_of {P : Program} {l : List String} {W rest : List (List Char)} (h : behindMainWord (wordsSigns P.initOrder.toList) = W) (hc : ∃ c r, W = c :: r ∧ (c == "gc".toList || c == "spec".toList) = false ∧ (c == "carried".toList) = false) (hs : stripLifts liftWords W = (l, "cut".toList :: rest)) : P.liftsFinal = l.contains "finals" := by
  unfold Program.liftsFinal
  rw [headLifts_of h hs, h]
  obtain ⟨c, r, rfl, h1, h2⟩ := hc
  have h3 : ((c :: r).head? == some "carried".toList) = false := by
    rw [beq_eq_false_iff_ne] at h2 ⊢
    exact fun e => h2 (Option.some.inj e)
  dsimp only
  rw [h3, Bool.false_and, Bool.false_or]
theorem make_of {P : Program} {rest : List (List Char)} (h : behindMainWord (wordsSigns P.initOrder.toList) = "cut".toList :: rest) : P.make = some .cut := by
  unfold Program.make
  rw [h]
  dsimp only
  rw [if_neg (by decide), if_pos (by simp)]
theorem mainIs_of {P : Program} {s : List Char} {rest : List (List Char)} (h : wordsSigns P.initOrder.toList = "harness".toList :: s :: rest) (hs : isSumSigns s = true) : P.mainIs = some (true, s) := by
  unfold Program.mainIs
  rw [h]
  dsimp only
  rw [hs]
  simp
def io : List Nat := [104, 97, 114, 110, 101, 115, 115, 32, 57, 99, 50, 99, 97, 51, 98, 50, 56, 49, 102, 102, 56, 98, 49, 57, 101, 56, 57, 55, 53, 51, 99, 51, 53, 97, 56, 57, 48, 52, 57, 102, 98, 48, 54, 100, 51, 100, 50, 98, 49, 50, 97, 100, 102, 57, 52, 55, 99, 51, 100, 99, 50, 55, 56, 54, 50, 48, 54, 55, 57, 52, 52, 56, 32, 99, 117, 116, 32, 97, 116, 32, 108, 111, 111, 112, 46, 101, 120, 97, 109, 112, 108, 101, 47, 110, 101, 117, 109, 101, 115, 47, 108, 97, 119, 115, 46, 70, 110, 69, 120, 97, 99, 116, 71, 114, 111, 117, 112, 115, 78, 97, 109, 101, 115, 32, 108, 111, 111, 112, 46, 101, 120, 97, 109, 112, 108, 101, 47, 110, 101, 117, 109, 101, 115, 47, 108, 97, 119, 115, 46, 70, 110, 69, 120, 97, 99, 116, 71, 114, 111, 117, 112, 115, 82, 101, 97, 100, 32, 108, 111, 111, 112, 46, 101, 120, 97, 109, 112, 108, 101, 47, 110, 101, 117, 109, 101, 115, 47, 108, 97, 119, 115, 46, 70, 110, 71, 114, 111, 117, 112, 115, 32, 108, 111, 111, 112, 46, 101, 120, 97, 109, 112, 108, 101, 47, 110, 101, 117, 109, 101, 115, 47, 108, 97, 119, 115, 46, 70, 110, 71, 114, 111, 117, 112, 115, 67, 117, 116, 32, 108, 111, 111, 112, 46, 101, 120, 97, 109, 112, 108, 101, 47, 110, 101, 117, 109, 101, 115, 47, 108, 97, 119, 115, 46, 70, 110, 78, 101, 117, 109, 101, 67, 111, 110, 116, 111, 117, 114, 32, 108, 111, 111, 112, 46, 101, 120, 97, 109, 112, 108, 101, 47, 110, 101, 117, 109, 101, 115, 47, 108, 97, 119, 115, 46, 70, 110, 71, 114, 111, 117, 112, 115, 82, 101, 97, 100]
def ws : List (List Nat) := [[104, 97, 114, 110, 101, 115, 115], [57, 99, 50, 99, 97, 51, 98, 50, 56, 49, 102, 102, 56, 98, 49, 57, 101, 56, 57, 55, 53, 51, 99, 51, 53, 97, 56, 57, 48, 52, 57, 102, 98, 48, 54, 100, 51, 100, 50, 98, 49, 50, 97, 100, 102, 57, 52, 55, 99, 51, 100, 99, 50, 55, 56, 54, 50, 48, 54, 55, 57, 52, 52, 56], [99, 117, 116], [97, 116], [108, 111, 111, 112, 46, 101, 120, 97, 109, 112, 108, 101, 47, 110, 101, 117, 109, 101, 115, 47, 108, 97, 119, 115, 46, 70, 110, 69, 120, 97, 99, 116, 71, 114, 111, 117, 112, 115, 78, 97, 109, 101, 115], [108, 111, 111, 112, 46, 101, 120, 97, 109, 112, 108, 101, 47, 110, 101, 117, 109, 101, 115, 47, 108, 97, 119, 115, 46, 70, 110, 69, 120, 97, 99, 116, 71, 114, 111, 117, 112, 115, 82, 101, 97, 100], [108, 111, 111, 112, 46, 101, 120, 97, 109, 112, 108, 101, 47, 110, 101, 117, 109, 101, 115, 47, 108, 97, 119, 115, 46, 70, 110, 71, 114, 111, 117, 112, 115], [108, 111, 111, 112, 46, 101, 120, 97, 109, 112, 108, 101, 47, 110, 101, 117, 109, 101, 115, 47, 108, 97, 119, 115, 46, 70, 110, 71, 114, 111, 117, 112, 115, 67, 117, 116], [108, 111, 111, 112, 46, 101, 120, 97, 109, 112, 108, 101, 47, 110, 101, 117, 109, 101, 115, 47, 108, 97, 119, 115, 46, 70, 110, 78, 101, 117, 109, 101, 67, 111, 110, 116, 111, 117, 114], [108, 111, 111, 112, 46, 101, 120, 97, 109, 112, 108, 101, 47, 110, 101, 117, 109, 101, 115, 47, 108, 97, 119, 115, 46, 70, 110, 71, 114, 111, 117, 112, 115, 82, 101, 97, 100]]
def ch (w : List Nat) : List Char := w.map Char.ofNat
theorem io_is : Tryd.prog.initOrder = String.ofList (ch io) := by kernel_rfl
theorem io_ws : wordsSigns (ch io) = ws.map ch := by kernel_rfl
theorem io_all : wordsSigns Tryd.prog.initOrder.toList = ws.map ch := by rw [io_is, String.toList_ofList, io_ws]
theorem be : behindMainWord (ws.map ch) = (ws.drop 2).map ch := by kernel_rfl
theorem io_be : behindMainWord (wordsSigns Tryd.prog.initOrder.toList) = (ws.drop 2).map ch := by rw [io_all, be]
theorem first : ∃ c r, (ws.drop 2).map ch = c :: r ∧ (c == "gc".toList || c == "spec".toList) = false ∧ (c == "carried".toList) = false := ⟨ch (ws.getD 2 []), (ws.drop 3).map ch, by kernel_rfl, by kernel_rfl, by kernel_rfl⟩
theorem st : stripLifts liftWords ((ws.drop 2).map ch) = ([], "cut".toList :: ((ws.drop 3).map ch)) := by kernel_rfl
theorem ll : ([].contains "finals" || !Tryd.prog.laysLater) = true := by kernel_rfl
theorem br : ([].contains "reflectrows" || !Tryd.prog.bearsReflect) = true := by kernel_rfl
theorem rr : ([].contains "reflectrows" || ![].contains "leanrows") = true := by kernel_rfl
theorem df : Tryd.prog.doorFits [] = true := by kernel_rfl
theorem mayE : Tryd.prog.mayEnter = true := mayEnter_of io_be first st ll br rr df
theorem finE : Tryd.prog.liftsFinal = [].contains "finals" := liftsFinal_of io_be first st
theorem mainE : Tryd.prog.mainIs = some (true, ch [57, 99, 50, 99, 97, 51, 98, 50, 56, 49, 102, 102, 56, 98, 49, 57, 101, 56, 57, 55, 53, 51, 99, 51, 53, 97, 56, 57, 48, 52, 57, 102, 98, 48, 54, 100, 51, 100, 50, 98, 49, 50, 97, 100, 102, 57, 52, 55, 99, 51, 100, 99, 50, 55, 56, 54, 50, 48, 54, 55, 57, 52, 52, 56]) := mainIs_of (rest := (ws.drop 2).map ch) (io_all.trans (by kernel_rfl)) (by kernel_rfl)
theorem makeE : Tryd.prog.make = some .cut := make_of (io_be.trans (by kernel_rfl : (ws.drop 2).map ch = "cut".toList :: ((ws.drop 3).map ch)))
end Go.Proofs.YtldepdaglapdeaaDoor.Head
end
section
namespace Go.Proofs.YtldepdaglapdeaaDoor.Pur
open Go.RowKit Go.ChangeShapes Go.Deep Go.Proofs.YtldepdaglapdeaaDoorW.PrintWords Go.Proofs.YtldepdaglapdeaaDoor.E
theorem open_rowP {P : Program} {H : Type} {enc : TypeId × Value → H} {W : World} {α : Type} [Inhabited α] {d : Kd α} {p : α → Prop} {t e : TypeId} {fuel : Nat} {cs : List Value} {x : DataW H × List MemPlace} (ht : P.underlying t = some (.slice e)) (hc : P.cellsOf e = d.sz)
    (o : ∀ (fuel : Nat) (cs : List Value) (x : DataW H × List MemPlace), DataW.trod enc P W 0 (fun _ => true) true fuel e cs = some x → ∃ y, d.K W y cs ∧ p y)
    (h : DataW.trod enc P W 0 (fun _ => true) true fuel t cs = some x) : ∃ (A : Option Addr) (c : Nat) (l : List α), cs = [.slice A l.length c] ∧ l.length ≤ c ∧ (l.length : Int) ≤ 9223372036854775807 ∧ d.C W A l.length l ∧ ∀ y ∈ l, p y := by
  rcases open_slice ht h with ⟨rfl, _⟩ | ⟨a, len, cap, m, n, D, Pl, rfl, _, hl, hm, hmm, _, hx⟩
  · exact ⟨none, 0, [], rfl, Nat.le_refl _, by simp, ⟨rfl, by simp, fun h => absurd h (by simp)⟩, fun y hy => by cases hy⟩
  · have hlm : len ≤ m := by rw [hmm]; simp; omega
    unfold maxLen at hm
    obtain ⟨Y, hY⟩ := choose_lt (α := α) (n := len) (p := fun i y => ∃ cs', W.cells? 0 (a.add (i * P.cellsOf e)) (P.cellsOf e) = some cs' ∧ d.K W y cs' ∧ p y) (fun i hi => by
      obtain ⟨cs', h1, h2⟩ := hx i (by omega)
      obtain ⟨y, hy, hp⟩ := o _ _ _ h2
      exact ⟨y, cs', h1, hy, hp⟩)
    have hlen : ((List.range len).map Y).length = len := by simp
    refine ⟨some a, cap, (List.range len).map Y, by rw [hlen], by rw [hlen]; exact hl, by rw [hlen]; omega, ⟨rfl, by rw [hlen]; omega, fun _ => ⟨a, rfl, fun j q hj => ?_⟩⟩, fun y hy => ?_⟩
    · obtain ⟨hj1, hj2⟩ := List.getElem?_eq_some_iff.1 hj
      rw [hlen] at hj1
      simp only [List.getElem_map, List.getElem_range] at hj2
      subst hj2
      obtain ⟨cs', h1, h2, _⟩ := hY j hj1
      obtain ⟨_, g1, g2⟩ := World.cells?_some h1
      refine ⟨cs', by rw [g1, hc], h2, fun i u hu => ?_⟩
      have := g2 i (by rw [← g1]; exact (List.getElem?_eq_some_iff.1 hu).1)
      rw [Go.Deep.add_add, hc, hu] at this
      exact this
    · obtain ⟨j, hj, rfl⟩ := List.mem_map.mp hy
      obtain ⟨_, _, _, hp⟩ := hY j (List.mem_range.mp hj)
      exact hp
theorem open_intsR {P : Program} {H : Type} {enc : TypeId × Value → H} {W : World} {k : IntKind} {t e : TypeId} {fuel : Nat} {cs : List Value} {x : DataW H × List MemPlace} (ht : P.underlying t = some (.slice e)) (he : P.underlying e = some (.int k)) (hc : P.cellsOf e = 1) (h : DataW.trod enc P W 0 (fun _ => true) true fuel t cs = some x) :
    ∃ (A : Option Addr) (c : Nat) (l : List Int), cs = [.slice A l.length c] ∧ l.length ≤ c ∧ (l.length : Int) ≤ 9223372036854775807 ∧ (Kd.int k).C W A l.length l ∧ ∀ y ∈ l, (Lit.int k y).wf = true :=
  open_rowP ht hc (fun fuel cs x h => by
    obtain ⟨s, rfl, _, hs⟩ := DataW.trod_int he h
    exact ⟨s, rfl, hs⟩) h
end Go.Proofs.YtldepdaglapdeaaDoor.Pur
end
section
namespace Go.Proofs.YtldepdaglapdeaaDoor.Pur
open Go
variable {H : Type} {enc : TypeId × Value → H}
theorem handed_shaped_and {a : Assume} {C : Checked} {os : Os} {f : FuncId} {fn : Func} {s : ChangeSpec} {conds : List PathCond} {apart fresh handsOn again : Bool} {X : World → Array Value → Prop}
    (hX : ∀ (w w' : World) (args : Array Value), w.heap = w'.heap → X w args → X w' args)
    (own : ownKnob C.prog.godebug = none) (started : os.Started) (noInit : C.prog.inits.idxOf? f = none) (hfn : C.prog.funcs[f]? = some fn)
    (witness : ∃ (w : World) (tape : Tape) (i : Input), w.os = os ∧ (w.forCall tape i).Shaped C.prog ∧ i.vars = [] ∧ Input.okWide C.prog (w.forCall tape i) .any w.heap.size f i ∧
      ((s.pre enc C.prog fn conds apart (w.forCall tape i).memory i.args ∧ X (w.forCall tape i).memory i.args) ∧ sizedMet enc C.prog fn (OpenSpec.ofChange s) apart (w.forCall tape i).memory i.args) ∧ a.holds C.prog (lone (Frame.enter C.prog f i.args .normal) [] (w.forCall tape i)))
    (contract : ∀ (W : World) (base : Nat) (args : Array Value) (ds gs : List (DataW H)) (before : List MemPlace),
      (∀ (j : Nat) t v, fn.params[j]? = some t → args[j]? = some v → Value.okWide C.prog W .any base t v) →
      DataW.Whole enc C.prog fn.params.toList s.vars apart W args.toList ds gs before →
      conds.all (PathCond.test C.prog ⟨fn.params.toList, ds, s.plain.varTypes C.prog, gs⟩) = true →
      (DataW.weightsEach C.prog (fn.params.toList ++ s.plain.varTypes C.prog) (ds ++ gs)).all (· ≤ reachBytes) = true → X W args → W.ShapedOpen C.prog →
      a.holds C.prog (lone (Frame.enter C.prog f args .normal) [] W) →
      Calls C.prog f args W fun e W' => ∃ v, e = .returned v ∧ s.post enc C.prog fn apart fresh handsOn again W args v W') :
    ReturnsInHanded a C os f .any (fun w args => (s.pre enc C.prog fn conds apart w args ∧ X w args) ∧ sizedMet enc C.prog fn (OpenSpec.ofChange s) apart w args) (s.post enc C.prog fn apart fresh handsOn again) := by
  refine returnsInHanded_of_calls own started noInit witness ?_
  intro w tape i _ hsh _ hok hpre hholds
  obtain ⟨_, _, _, fn', hfn', _, _, _, _, hval⟩ := hok
  have e : fn' = fn := Option.some.inj (hfn'.symm.trans hfn)
  subst e
  obtain ⟨⟨⟨ds, gs, before, hw, hc⟩, hx⟩, hz⟩ := hpre
  have hw' := DataW.Whole.of_heap (w' := w.forCall tape i) (by rfl) hw
  refine (contract (w.forCall tape i) w.heap.size i.args ds gs before hval hw' hc (hz.weights hw) (hX _ _ _ (by rfl) hx) hsh hholds).mono fun e W' ⟨v, he, hp⟩ => ?_
  subst he
  exact ChangeSpec.post_blind hp
end Go.Proofs.YtldepdaglapdeaaDoor.Pur
end
section
namespace Go.Proofs.YtldepdaglapdeaaDoor.Pur
open Go.Proofs.YtldepdaglapdeaaDoor.E Go Go.RowKit Go.ChangeShapes
theorem laid_mem {P : Program} {W : World} {n : String} {d : DataW Unit} : ∀ {l : List (String × DataW Unit)} {ps : List MemPlace}, DataW.LaidVars P W l ps → (n, d) ∈ l →
    ∃ g t cs fuel p, P.globalNamed n = some g ∧ (P.globals[g]?).map (·.type) = some t ∧ W.var? P n = some cs ∧ DataW.trod (fun _ => ()) P W 0 (fun _ => true) false fuel t cs.toList = some (d, p)
  | [], _, _, h => by cases h
  | (n', d') :: r, ps, ⟨g, t, cs, fuel, p, q, h1, h2, h3, h4, h5, _⟩, h => by
    rcases List.mem_cons.mp h with e | e
    · cases e
      exact ⟨g, t, cs, fuel, p, h1, h2, h3, h4⟩
    · exact laid_mem h5 e
theorem vars_cons {H : Type} {enc : TypeId × Value → H} {P : Program} {w : World} {sp : Nat → Bool} {n : String} {ns : List String} {gs : List (DataW H)} {ps : List MemPlace} (h : DataW.TrodVars enc P w sp (n :: ns) gs ps) : ∃ g gs' q, gs = g :: gs' ∧ DataW.TrodVars enc P w sp ns gs' q := by
  cases gs with
  | nil => exact h.elim
  | cons g r =>
    obtain ⟨_, _, _, _, _, q, _, _, _, _, hs, _⟩ := h
    exact ⟨g, r, q, rfl, hs⟩
theorem vars_nil {H : Type} {enc : TypeId × Value → H} {P : Program} {w : World} {sp : Nat → Bool} {gs : List (DataW H)} {ps : List MemPlace} (h : DataW.TrodVars enc P w sp [] gs ps) : gs = [] := by
  cases gs with
  | nil => rfl
  | cons _ _ => exact h.elim
theorem laid_vars {P : Program} {l : List (String × DataW Unit)} {W : World} (h : laidMetH P l W) (hp : (l.all fun x => x.2.handleName?.isNone) = true) : ∃ ps, DataW.LaidVars P W l ps := by
  rw [MakeChecks.laidMetH_plain _ _ _ hp] at h
  obtain ⟨ps, h, _⟩ := h
  exact ⟨ps, h⟩
theorem ba_of_list {s : ByteArray} {l : List UInt8} (h : s.data.toList = l) : s = ⟨l.toArray⟩ := by
  obtain ⟨⟨d⟩⟩ := s
  subst h
  rfl
theorem cells_r : Tryd.prog.cellsOf 86 = 2 := by kernel_rfl
theorem cells_r7 : Tryd.prog.cellsOf 87 = 14 := by kernel_rfl
theorem row_read {P : Program} {H : Type} {enc : TypeId × Value → H} {W : World} {base fuel : Nat} {spare : Nat → Bool} {held : Bool} {t : TypeId} {f0 f1 : Field} {cs : List Value} {x : DataW H × List MemPlace} {a b : List UInt8} (ht : P.underlying t = some (.struct #[f0, f1])) (h0 : P.underlying f0.type = some .string) (h1 : P.underlying f1.type = some .string)
    (c0 : P.cellsOf f0.type = 1) (c1 : P.cellsOf f1.type = 1) (ct : P.cellsOf t = 2) (o0 : f0.offset = 0) (o1 : f1.offset = 1) (h : DataW.trod enc P W base spare held fuel t cs = some x) (hx : x.1 = .agg [.lit (.string a), .lit (.string b)]) : cs = [.string ⟨a.toArray⟩, .string ⟨b.toArray⟩] := by
  obtain ⟨y0, y1, n, rfl, hl, e0, e1⟩ := trod_struct2 ht h
  rw [ct] at hl
  rw [c0, o0] at e0
  rw [c1, o1] at e1
  obtain ⟨s0, q0, rfl, _⟩ := DataW.trod_string h0 e0
  obtain ⟨s1, q1, rfl, _⟩ := DataW.trod_string h1 e1
  match cs, hl with
  | [u, v], _ =>
    simp at q0 q1 hx
    rw [q0, q1, ba_of_list hx.1, ba_of_list hx.2]
theorem heap_of_var {P : Program} {W : World} {n : String} {g : Nat} {cs : Array Value} (hg : P.globalNamed n = some g) (h : W.var? P n = some cs) : ∃ t fr, W.heap[g]? = some (.cells cs t fr) := by
  unfold World.var? at h
  rw [hg, Option.bind_some] at h
  split at h
  · rename_i c t fr he
    obtain rfl := Option.some.inj h
    exact ⟨t, fr, he⟩
  · cases h
theorem take2 {α : Type} {l : List α} {i : Nat} {a b : α} (h : (l.drop (i * 2)).take 2 = [a, b]) : l[i * 2]? = some a ∧ l[i * 2 + 1]? = some b := by
  have h0 := congrArg (·[0]?) h
  have h1 := congrArg (·[1]?) h
  simp only [List.getElem?_take, List.getElem?_drop] at h0 h1
  exact ⟨by simpa using h0, by simpa using h1⟩
theorem seven {α : Type} {l : List α} (h : l.length = 7) : ∃ c0 c1 c2 c3 c4 c5 c6, l = [c0, c1, c2, c3, c4, c5, c6] := by
  match l, h with
  | [a, b, c, d, e, f, g], _ => exact ⟨a, b, c, d, e, f, g, rfl⟩
theorem rows_cells {W : World} {l : List (String × DataW Unit)} {ps : List MemPlace} (h : DataW.LaidVars Tryd.prog W l ps) (hm : ("loop.example/neumes/impl.neumeRows", Rows.laid_loop_example_neumes_impl_neumeRows) ∈ l) :
    W.var? Tryd.prog "loop.example/neumes/impl.neumeRows" = some rowsN.toArray := by
  obtain ⟨g, t, cs, fuel, p, hg, ht, hvar, hd⟩ := laid_mem h hm
  obtain rfl := Option.some.inj ((show Tryd.prog.globalNamed "loop.example/neumes/impl.neumeRows" = some 0 by kernel_rfl).symm.trans hg)
  obtain rfl := Option.some.inj ((show (Tryd.prog.globals[0]?).map (·.type) = some 87 by kernel_rfl).symm.trans ht)
  rw [hvar]
  congr 1
  obtain ⟨l⟩ := cs
  obtain ⟨xs, m, _, hx, hl, hn, hi⟩ := DataW.trod_array Tryd.underlying87 hd
  rw [cells_r7] at hl
  have hx1 := (Prod.mk.inj hx).1
  obtain ⟨x0, x1, x2, x3, x4, x5, x6, rfl⟩ := seven hn
  simp only [Rows.laid_loop_example_neumes_impl_neumeRows, List.map_cons, List.map_nil, DataW.agg.injEq, List.cons.injEq, and_true] at hx1
  obtain ⟨y0, y1, y2, y3, y4, y5, y6⟩ := hx1
  have rd : ∀ (i : Nat) (x : DataW Unit × List MemPlace) (a b : List UInt8), i < 7 → [x0, x1, x2, x3, x4, x5, x6][i]? = some x → x.1 = .agg [.lit (.string a), .lit (.string b)] → l[i * 2]? = some (.string ⟨a.toArray⟩) ∧ l[i * 2 + 1]? = some (.string ⟨b.toArray⟩) := by
    intro i x a b h7 hix hxx
    have := hi i h7
    rw [hix, cells_r] at this
    exact take2 (row_read Tryd.underlying86 (by kernel_rfl) (by kernel_rfl) (by kernel_rfl) (by kernel_rfl) (by kernel_rfl) rfl rfl this hxx)
  have z0 := rd 0 x0 _ _ (by decide) rfl y0.symm
  have z1 := rd 1 x1 _ _ (by decide) rfl y1.symm
  have z2 := rd 2 x2 _ _ (by decide) rfl y2.symm
  have z3 := rd 3 x3 _ _ (by decide) rfl y3.symm
  have z4 := rd 4 x4 _ _ (by decide) rfl y4.symm
  have z5 := rd 5 x5 _ _ (by decide) rfl y5.symm
  have z6 := rd 6 x6 _ _ (by decide) rfl y6.symm
  have : l = rowsN := by
    apply List.ext_getElem?
    intro i
    match i with
    | 0 => exact z0.1
    | 1 => exact z0.2
    | 2 => exact z1.1
    | 3 => exact z1.2
    | 4 => exact z2.1
    | 5 => exact z2.2
    | 6 => exact z3.1
    | 7 => exact z3.2
    | 8 => exact z4.1
    | 9 => exact z4.2
    | 10 => exact z5.1
    | 11 => exact z5.2
    | 12 => exact z6.1
    | 13 => exact z6.2
    | i + 14 =>
      have hl' : l.length = 14 := hl
      rw [List.getElem?_eq_none (by omega), List.getElem?_eq_none (by have : rowsN.length = 14 := rfl; omega)]
  rw [this]
theorem gok_rows {W : World} {l : List (String × DataW Unit)} (h : laidMetH Tryd.prog l W) (hp : (l.all fun x => x.2.handleName?.isNone) = true) (hm : ("loop.example/neumes/impl.neumeRows", Rows.laid_loop_example_neumes_impl_neumeRows) ∈ l) : GOk [0] W := by
  obtain ⟨ps, hv⟩ := laid_vars h hp
  intro n hn
  obtain rfl := List.mem_singleton.mp hn
  exact heap_of_var (by kernel_rfl) (rows_cells hv hm)
end Go.Proofs.YtldepdaglapdeaaDoor.Pur
end
section
namespace Go.Proofs.YtldepdaglapdeaaDoor.fnNeumeContour
open Go.ChangeShapes Go.WideShapes Go.ChangeAt Go.RowKit
open Go.ChangeMaps (open_string shut_string)
set_option linter.unusedVariables false
theorem own : ownKnob Tryd.prog.godebug = none := by kernel_rfl
theorem laidOut : laidOutB Tryd.prog = true := by kernel_rfl
set_option maxRecDepth 100000 in
theorem lifted (os : Os) (started : os.Started) (H : Type) (enc : TypeId × Value → H) :
    ReturnsInHanded {} Tryd.checked os 7 .any (fun w args => (Rows.fnNeumeContourSpec.pre enc Tryd.prog Tryd.f7 Rows.fnNeumeContourRow.domain false w args ∧ laidMetH Tryd.prog Rows.fnNeumeContourRow.laid w) ∧ sizedMet enc Tryd.prog Tryd.f7 (OpenSpec.ofChange Rows.fnNeumeContourSpec) false w args) (Rows.fnNeumeContourSpec.post enc Tryd.prog Tryd.f7 false true false false) := by
  refine Pur.handed_shaped_and (C := Tryd.checked) (X := fun w _ => laidMetH Tryd.prog Rows.fnNeumeContourRow.laid w) (fun _ _ _ hh h => h.of_heap hh) own started (by kernel_rfl) Tryd.func7
    (ChangeSpec.witness_shaped (enc := enc) (C := Tryd.checked) (os := os) (X := fun w _ => laidMetH Tryd.prog Rows.fnNeumeContourRow.laid w) false (World.laidAll Tryd.prog os Rows.fnNeumeContourRow.laid) #[.slice none 0 0] 8 (World.laidAll_os _ _ _) (World.shaped_of_ZipB (by kernel_rfl) (by kernel_rfl)) (by kernel_rfl) (by kernel_rfl) (by kernel_rfl) (by rw [MakeChecks.laidMetH_plain _ _ _ (by kernel_rfl)]; exact laidMet_laidAll _ (by kernel_rfl) (by kernel_rfl))) ?_
  intro W base args ds gs before hval0 hW hcnd hsz0 hL hSh _
  have hsz : (DataW.weightsEach Tryd.prog (Tryd.f7.params.toList ++ Rows.fnNeumeContourSpec.plain.varTypes Tryd.prog) (ds ++ gs)).all (· ≤ reachBytes) = true := hsz0
  have hval : ∀ (j : Nat) t v, Tryd.f7.params[j]? = some t → args[j]? = some v → Value.okWide Tryd.prog W .any base t v := hval0
  have hW' := hW
  obtain ⟨p, q, hA0, hV, rfl, hfz, hnd⟩ := hW
  have hA : DataW.TrodAll enc Tryd.prog W 0 (fun _ => true) true Tryd.f7.params.toList args.toList ds p := hA0
  rw [Tryd.params7] at hA hval hsz
  obtain ⟨v0, vs0, d0, ds0, p0, q0, hargs, rfl, rfl, h0, r0⟩ := trodAll_cons hA
  obtain ⟨rfl, rfl, rfl⟩ := trodAll_nil r0
  obtain rfl : args = #[v0] := by cases args; simp_all
  obtain ⟨g0, gs0, vq0, rfl, hV0⟩ := Pur.vars_cons hV
  obtain rfl := Pur.vars_nil hV0
  have k0 := h0
  have lt0 : ∀ x ∈ p0, x.block < W.heap.size := by obtain ⟨m, hm⟩ := k0; exact DataW.trod_lt m _ _ _ hm
  obtain ⟨a0, len0, cap0, rfl⟩ := okWide_slice Tryd.underlying36 (hval 0 36 v0 rfl rfl)
  obtain ⟨fuel0, hf0⟩ := h0
  obtain ⟨A0, c0, l0, hcs0, hle0, hm0, hC0, hx0⟩ := Pur.open_intsR Tryd.underlying36 Tryd.underlying5 (by kernel_rfl) hf0
  simp [Value.cells] at hcs0
  obtain ⟨rfl, rfl, rfl⟩ := hcs0
  clear hA0 hval0 hsz0 hsz
  obtain ⟨k, hk⟩ := Pur.law_nc l0 hm0 hx0
  refine (E.laws_FnNeumeContour.calls k _ _ l0 true W hC0 hle0 (Pur.gok_rows hL (by kernel_rfl) (by first | exact .head _ | exact .tail _ (.head _) | exact .tail _ (.tail _ (.head _)) | exact .tail _ (.tail _ (.tail _ (.head _))) | exact .tail _ (.tail _ (.tail _ (.tail _ (.head _)))) | exact .tail _ (.tail _ (.tail _ (.tail _ (.tail _ (.head _))))))) hk).mono fun e W' ⟨he, bel⟩ => ?_
  subst he
  exact ⟨_, rfl, _, _, _, [], _, _, hW', trodAll_mk1 (shut_bool Tryd.underlying4 _), (trodAll_cons_mk (Below.trod laidOut (by kernel_rfl) (of_decide_eq_true (by kernel_rfl)) k0 bel lt0) trodAll_mk0), (Below.trodVars laidOut bel (by kernel_rfl) hV), bel.frame _, fun h => by cases h⟩
set_option maxRecDepth 100000 in
theorem closed : joinedFacts Tryd.prog 7 Tryd.f7 Rows.fnNeumeContourSpec Rows.fnNeumeContourRow = true := by
  have hf : (Rows.fnNeumeContourRow.lifted == Tryd.prog.liftsFinal) = true := by rw [Head.finE]; kernel_rfl
  have hm : (Tryd.prog.make == some Rows.fnNeumeContourRow.make) = true := by rw [Head.makeE]; kernel_rfl
  unfold joinedFacts
  repeat' (with_reducible refine Head.and_t ?_ ?_)
  all_goals first | with_reducible exact Head.mayE | with_reducible exact hf | with_reducible exact hm | (as_aux_lemma => kernel_rfl)
theorem over : Rows.fnNeumeContourRow.holds Tryd.pinned (OpenSpec.ofChange Rows.fnNeumeContourSpec) :=
  OpenClaim.holds_of_wide 7 Tryd.f7 rfl rfl rfl rfl rfl rfl rfl ⟨rfl, rfl, rfl, rfl, rfl⟩ rfl rfl rfl rfl rfl (by kernel_rfl) Tryd.func7 closed
    (of_decide_eq_true (by kernel_rfl)) (by unfold Func.isWrapper; first | (rw [if_pos (by decide +kernel)]; kernel_rfl) | (rw [if_neg (by decide +kernel)]; exact ⟨rfl, rfl⟩))
    (fun os started H enc _ => lifted os started H enc)
theorem card_ : Rows.FnNeumeContourCardSaid :=
  Claim7.holds_tied_plain_at .later [] [.data, .data, .pinned, .pinned] true (true, "9c2ca3b281ff8b19e89753c35a89049fb06d3d2b12adf947c3dc278620679448") false
    over (fun _ h => by cases h) (by as_aux_lemma => kernel_rfl) (fun _ h => by cases h) fnNeumeContour_row_tie rfl ⟨rfl, rfl⟩ (Head.mainE.trans (by as_aux_lemma => kernel_rfl)) rfl
    (fun f fn hf hfn => by
      obtain rfl : f = 7 := Option.some.inj ((show Tryd.prog.funcNamed "loop.example/neumes/laws.FnNeumeContour" = some 7 by kernel_rfl).symm.trans hf) |>.symm
      obtain rfl : fn = Tryd.f7 := (Option.some.inj (Tryd.func7.symm.trans hfn)).symm
      exact ⟨by kernel_rfl, fun j t ht => by
        rw [Tryd.params7] at ht
        have hm : t ∈ [36] := by simpa using Array.mem_of_getElem? ht
        have hall : ([36].all fun u => !Tryd.prog.wantsStandIn u) = true := by kernel_rfl
        exact (show Tryd.prog.wantsStandIn t = false by simpa using List.all_eq_true.1 hall t hm)⟩)
    (by kernel_rfl)
theorem proved : Rows.FnNeumeContourCardSaid := card_
#print axioms proved
end Go.Proofs.YtldepdaglapdeaaDoor.fnNeumeContour
namespace Go.Proofs.YtldepdaglapdeaaDoor
theorem fnNeumeContour_holds : Rows.FnNeumeContourCardSaid := fnNeumeContour.proved
end Go.Proofs.YtldepdaglapdeaaDoor
end
