/- Proved: for all arguments the given program's laws.FnExactPsalmBest returns true, and its arguments read afterwards as they read before (the given constant Rows.FnExactPsalmBestCardSaid).
Conditions: none ahead of the given statement; the statement itself begins in a world whose listed package-level variables hold what the program's text lays there, and its card ties them to that text. -/
import Derived.Test.YtdgmkfbmeaalpaaDoorRowFnExactPsalmBestK2
section
namespace Go.Proofs.YtdgmkfbmeaalpaaDoor.E
open Go.RowKit Go.Proofs.YtdgmkfbmeaalpaaDoorW.PrintWords Go.Proofs.YtdgmkfbmeaalpaaDoorW.PrintLast Go.Proofs.YtdgmkfbmeaalpaaDoorW.PrintMore
attribute [local go_sem] max2_int min2_int max_two min_two max_three min_three max_four min_four
set_option linter.unusedVariables false
set_option linter.unusedSimpArgs false
attribute [local go_sem] str_leq_ str_gtr_ str_geq_
mutual
def spec_l91Verse.l0 : Nat → ByteArray → Int → List Int → Int → Option (ByteArray × Int)
 | 0, _, _, _, _ => none
 | k + 1, x3, x4, x1000, x1001 => if x4 < 2 then ((spec_l6Rd_pick.f k x1000 x1001 8).bind fun bt107 => (spec_l91Verse.l1 k x3 x4 (wrap64 (1 + bt107.1)) 0 x1000 bt107.2)) else ((spec_l6Rd_pick.f k x1000 x1001 24).bind fun bt114 => (if bt114.1 = 0 then ((spec_l6Rd_of.f k x1000 bt114.2 (([(⟨#[124, 120]⟩ : ByteArray), (⟨#[121]⟩ : ByteArray), (⟨#[]⟩ : ByteArray)] : List ByteArray))).bind fun bt119 => (if x3.size + bt119.1.size ≤ 9223372036854775807 then (some (x3 ++ bt119.1, bt119.2)) else (none))) else (if bt114.1 = 1 then ((spec_l6Rd_of.f k x1000 bt114.2 (([(⟨#[]⟩ : ByteArray), (⟨#[124]⟩ : ByteArray), (⟨#[120, 124]⟩ : ByteArray), (⟨#[124, 120]⟩ : ByteArray), (⟨#[120, 120]⟩ : ByteArray), (⟨#[120, 124, 47]⟩ : ByteArray)] : List ByteArray))).bind fun bt124 => (some (bt124.1, bt124.2))) else (if bt114.1 = 2 then (if x3.size + 12 ≤ 9223372036854775807 then (some (x3 ++ (⟨#[120, 120, 120, 120, 120, 120, 120, 120, 120, 120, 120, 120]⟩ : ByteArray), bt114.2)) else (none)) else (some (x3, bt114.2))))))
def spec_l91Verse.l1 : Nat → ByteArray → Int → Int → Int → List Int → Int → Option (ByteArray × Int)
 | 0, _, _, _, _, _, _ => none
 | k + 1, x3, x4, x5, x6, x1000, x1001 => if x6 < x5 then ((spec_l6Rd_of.f k x1000 x1001 (([(⟨#[120]⟩ : ByteArray), (⟨#[47]⟩ : ByteArray), (⟨#[120]⟩ : ByteArray)] : List ByteArray))).bind fun bt112 => (if x3.size + bt112.1.size ≤ 9223372036854775807 then (spec_l91Verse.l1 k (x3 ++ bt112.1) x4 x5 (wrap64 (x6 + 1)) x1000 bt112.2) else (none))) else (if x4 = 0 then (if x3.size + 1 ≤ 9223372036854775807 then (spec_l91Verse.l0 k (x3 ++ (⟨#[124]⟩ : ByteArray)) (wrap64 (x4 + 1)) x1000 x1001) else (none)) else (spec_l91Verse.l0 k x3 (wrap64 (x4 + 1)) x1000 x1001))
end
def spec_l91Verse.f (k : Nat) (s0_0 : List Int) (s0_1 : Int) : Option (ByteArray × Int) := spec_l91Verse.l0 k (⟨#[]⟩ : ByteArray) 0 s0_0 s0_1
end Go.Proofs.YtdgmkfbmeaalpaaDoor.E
end
section
namespace Go.Proofs.YtdgmkfbmeaalpaaDoor.E
open Go.RowKit Go.Proofs.YtdgmkfbmeaalpaaDoorW.PrintWords Go.Proofs.YtdgmkfbmeaalpaaDoorW.PrintLast Go.Proofs.YtdgmkfbmeaalpaaDoorW.PrintMore
attribute [local go_sem] max2_int min2_int max_two min_two max_three min_three max_four min_four
set_option linter.unusedVariables false
set_option linter.unusedSimpArgs false
attribute [local go_sem] str_leq_ str_gtr_ str_geq_
def spec_l91Some.l0 : Nat → Int → List (S25) → Int → List Int → Int → Option ((List (S25)) × Int)
 | 0, _, _, _, _, _ => none
 | k + 1, x1, x5, x6, x1000, x1001 => if x6 < x1 then ((spec_l6Rd_pick.f k x1000 x1001 6).bind fun bt129 => ((spec_l1Letter.f (wrap64 (5 + bt129.1))).bind fun t131 => (if t131 = 2 then ((spec_l6Rd_pick.f k x1000 bt129.2 2).bind fun bt132 => (if x5.length < 8796093022208 then (spec_l91Some.l0 k x1 (x5 ++ [(⟨wrap64 (5 + bt129.1), (bt132.1 == 0)⟩ : S25)]) (wrap64 (x6 + 1)) x1000 bt132.2) else (none))) else (if x5.length < 8796093022208 then (spec_l91Some.l0 k x1 (x5 ++ [(⟨wrap64 (5 + bt129.1), false⟩ : S25)]) (wrap64 (x6 + 1)) x1000 bt129.2) else (none))))) else (some (x5, x1001))
def spec_l91Some.f (k : Nat) (s0_0 : List Int) (s0_1 : Int) (a1 : Int) : Option ((List (S25)) × Int) := spec_l91Some.l0 k a1 (([] : List (S25))) 0 s0_0 s0_1
end Go.Proofs.YtdgmkfbmeaalpaaDoor.E
end
section
namespace Go.Proofs.YtdgmkfbmeaalpaaDoor.E
open Go.RowKit Go.Proofs.YtdgmkfbmeaalpaaDoorW.PrintWords Go.Proofs.YtdgmkfbmeaalpaaDoorW.PrintLast Go.Proofs.YtdgmkfbmeaalpaaDoorW.PrintMore
attribute [local go_sem] max2_int min2_int max_two min_two max_three min_three max_four min_four
set_option linter.unusedVariables false
set_option linter.unusedSimpArgs false
attribute [local go_sem] str_leq_ str_gtr_ str_geq_
def spec_l91Psalm.f (k : Nat) (s0_0 : List Int) (s0_1 : Int) : Option ((List (S25)) × Int × Bool × (List (S25)) × (List (S25)) × Int) := (spec_l6Rd_pick.f k s0_0 s0_1 4).bind fun bt141 => ((spec_l91Some.f k s0_0 bt141.2 bt141.1).bind fun bt143 => ((spec_l6Rd_pick.f k s0_0 bt143.2 4).bind fun bt148 => ((spec_l6Rd_pick.f k s0_0 bt148.2 3).bind fun bt150 => ((spec_l91Some.f k s0_0 bt150.2 (wrap64 (1 + bt150.1))).bind fun bt152 => ((spec_l6Rd_pick.f k s0_0 bt152.2 4).bind fun bt156 => ((spec_l91Some.f k s0_0 bt156.2 (wrap64 (1 + bt156.1))).bind fun bt158 => ((spec_l6Rd_pick.f k s0_0 bt158.2 40).bind fun bt162 => (if bt162.1 = 0 then (some (bt143.1, 21, false, bt152.1, bt158.1, bt162.2)) else (if bt162.1 = 1 then (some (bt143.1, wrap64 (7 + bt148.1), false, (([] : List (S25))), bt158.1, bt162.2)) else (if bt162.1 = 2 then ((spec_l91Some.f k s0_0 bt162.2 5).bind fun bt167 => (some (bt143.1, wrap64 (7 + bt148.1), false, bt152.1, bt167.1, bt167.2))) else (some (bt143.1, wrap64 (7 + bt148.1), false, bt152.1, bt158.1, bt162.2))))))))))))
end Go.Proofs.YtdgmkfbmeaalpaaDoor.E
end
section
namespace Go.Proofs.YtdgmkfbmeaalpaaDoor.E
open Go.RowKit Go.Proofs.YtdgmkfbmeaalpaaDoorW.PrintWords Go.Proofs.YtdgmkfbmeaalpaaDoorW.PrintLast Go.Proofs.YtdgmkfbmeaalpaaDoorW.PrintMore
attribute [local go_sem] max2_int min2_int max_two min_two max_three min_three max_four min_four
set_option linter.unusedVariables false
set_option linter.unusedSimpArgs false
attribute [local go_sem] str_leq_ str_gtr_ str_geq_
def spec_l91Sing.f (k : Nat) (s0_0 : List Int) (s0_1 : Int) : Option ((List (S25)) × Int × Bool × (List (S25)) × (List (S25)) × ByteArray × Int) := (spec_l91Psalm.f k s0_0 s0_1).bind fun bt172 => ((spec_l91Verse.f k s0_0 bt172.2.2.2.2.2).bind fun bt185 => (some (bt172.1, bt172.2.1, bt172.2.2.1, bt172.2.2.2.1, bt172.2.2.2.2.1, bt185.1, bt185.2)))
end Go.Proofs.YtdgmkfbmeaalpaaDoor.E
end
section
namespace Go.Proofs.YtdgmkfbmeaalpaaDoor.E
open Go.RowKit Go.Proofs.YtdgmkfbmeaalpaaDoorW.PrintWords Go.Proofs.YtdgmkfbmeaalpaaDoorW.PrintLast Go.Proofs.YtdgmkfbmeaalpaaDoorW.PrintMore
attribute [local go_sem] max2_int min2_int max_two min_two max_three min_three max_four min_four
set_option linter.unusedVariables false
set_option linter.unusedSimpArgs false
attribute [local go_sem] str_leq_ str_gtr_ str_geq_
def spec_DrawPsalmAccents.f (k : Nat) (l0 : List Int) : Option ((List (S25)) × Int × Bool × (List (S25)) × (List (S25)) × ByteArray) := (spec_l6Open.f l0).bind fun bt400 => ((spec_l91Sing.f k bt400.1 bt400.2).bind fun bt403 => (some (bt403.1, bt403.2.1, bt403.2.2.1, bt403.2.2.2.1, bt403.2.2.2.2.1, bt403.2.2.2.2.2.1)))
end Go.Proofs.YtdgmkfbmeaalpaaDoor.E
end
section
namespace Go.Proofs.YtdgmkfbmeaalpaaDoor.E
open Go.RowKit Go.Proofs.YtdgmkfbmeaalpaaDoorW.PrintWords Go.Proofs.YtdgmkfbmeaalpaaDoorW.PrintLast Go.Proofs.YtdgmkfbmeaalpaaDoorW.PrintMore
attribute [local go_sem] max2_int min2_int max_two min_two max_three min_three max_four min_four
set_option linter.unusedVariables false
set_option linter.unusedSimpArgs false
attribute [local go_sem] str_leq_ str_gtr_ str_geq_
def spec_l91Psalms.l0 : Nat → List (S27) → Int → Int → List Int → Int → Option ((List (S27)) × Int)
 | 0, _, _, _, _, _ => none
 | k + 1, x3, x4, x5, x1000, x1001 => if x5 < x4 then ((spec_l91Psalm.f k x1000 x1001).bind fun bt747 => (if x3.length < 1599289640401 then (spec_l91Psalms.l0 k (x3 ++ [(⟨bt747.1, (⟨bt747.2.1, bt747.2.2.1⟩ : S25), bt747.2.2.2.1, bt747.2.2.2.2.1⟩ : S27)]) x4 (wrap64 (x5 + 1)) x1000 bt747.2.2.2.2.2) else (none))) else (some (x3, x1001))
def spec_l91Psalms.f (k : Nat) (s0_0 : List Int) (s0_1 : Int) : Option ((List (S27)) × Int) := (spec_l6Rd_pick.f k s0_0 s0_1 4).bind fun bt745 => (spec_l91Psalms.l0 k (([] : List (S27))) bt745.1 0 s0_0 bt745.2)
end Go.Proofs.YtdgmkfbmeaalpaaDoor.E
end
section
namespace Go.Proofs.YtdgmkfbmeaalpaaDoor.E
open Go.RowKit Go.Proofs.YtdgmkfbmeaalpaaDoorW.PrintWords Go.Proofs.YtdgmkfbmeaalpaaDoorW.PrintLast Go.Proofs.YtdgmkfbmeaalpaaDoorW.PrintMore
attribute [local go_sem] max2_int min2_int max_two min_two max_three min_three max_four min_four
set_option linter.unusedVariables false
set_option linter.unusedSimpArgs false
attribute [local go_sem] str_leq_ str_gtr_ str_geq_
def spec_DrawPsalmBest.f (k : Nat) (l0 : List Int) : Option ((List (S27)) × ByteArray) := (spec_l6Open.f l0).bind fun bt762 => ((spec_l91Psalms.f k bt762.1 bt762.2).bind fun bt765 => ((spec_l91Verse.f k bt762.1 bt765.2).bind fun bt769 => (some (bt765.1, bt769.1))))
end Go.Proofs.YtdgmkfbmeaalpaaDoor.E
end
section
namespace Go.Proofs.YtdgmkfbmeaalpaaDoor.E
open Go.RowKit Go.Proofs.YtdgmkfbmeaalpaaDoorW.PrintWords Go.Proofs.YtdgmkfbmeaalpaaDoorW.PrintLast Go.Proofs.YtdgmkfbmeaalpaaDoorW.PrintMore
attribute [local go_sem] max2_int min2_int max_two min_two max_three min_three max_four min_four
set_option linter.unusedVariables false
set_option linter.unusedSimpArgs false
attribute [local go_sem] str_leq_ str_gtr_ str_geq_
mutual
def laws_FnPsalmBest.j0 : Nat → List (S27) → ByteArray → Int → Bool → Int → Bool → Bool → Option (Bool)
 | 0, _, _, _, _, _, _, _ => none
 | k + 1, x3, x4, x5, x6, x7, x8, x43 => if x43 = true then (if (x6 == x8) = true then (some (x5 == x7)) else (none)) else (if 0 ≤ x5 then (if x5 < (x3.length : Int) then ((impl_PsalmAccents.f k ((rd_T27 x3 x5).f0) ((rd_T27 x3 x5).f1.f0) ((rd_T27 x3 x5).f1.f1) ((rd_T27 x3 x5).f2) ((rd_T27 x3 x5).f3) x4).bind fun t794 => (laws_FnPsalmBest.l0 k x3 x4 x5 t794 0)) else (none)) else (none))
def laws_FnPsalmBest.l0 : Nat → List (S27) → ByteArray → Int → Int → Int → Option (Bool)
 | 0, _, _, _, _, _ => none
 | k + 1, x3, x4, x5, x9, x10 => if x10 < (x3.length : Int) then (if 0 ≤ x10 then ((impl_PsalmAccents.f k ((rd_T27 x3 x10).f0) ((rd_T27 x3 x10).f1.f0) ((rd_T27 x3 x10).f1.f1) ((rd_T27 x3 x10).f2) ((rd_T27 x3 x10).f3) x4).bind fun t796 => (if t796 > x9 then (none) else (if t796 = x9 then (if x10 < x5 then (none) else (laws_FnPsalmBest.l0 k x3 x4 x5 x9 (wrap64 (x10 + 1)))) else (laws_FnPsalmBest.l0 k x3 x4 x5 x9 (wrap64 (x10 + 1)))))) else (none)) else (if x9 ≥ 0 then (if 0 ≤ x5 then (if x5 < (x3.length : Int) then ((impl_PsalmFits.f k ((rd_T27 x3 x5).f0) ((rd_T27 x3 x5).f1.f0) ((rd_T27 x3 x5).f1.f1) ((rd_T27 x3 x5).f2) ((rd_T27 x3 x5).f3) x4).bind fun t798 => (some t798)) else (none)) else (none)) else (none))
end
def laws_FnPsalmBest.f (k : Nat) (l0 : List Int) : Option (Bool) := if (l0.length : Int) > 1048576 then (some true) else ((spec_DrawPsalmBest.f k l0).bind fun bt785 => ((impl_PsalmBest.f k bt785.1 bt785.2).bind fun bt789 => ((spec_PsalmBest.f k bt785.1 bt785.2).bind fun bt791 => (if (bt789.2 != bt791.2) = true then (laws_FnPsalmBest.j0 k bt785.1 bt785.2 bt789.1 bt789.2 bt791.1 bt791.2 true) else (if bt789.1 = bt791.1 then (laws_FnPsalmBest.j0 k bt785.1 bt785.2 bt789.1 bt789.2 bt791.1 bt791.2 (!bt789.2)) else (laws_FnPsalmBest.j0 k bt785.1 bt785.2 bt789.1 bt789.2 bt791.1 bt791.2 true))))))
def laws_FnPsalmBest.Pure : Prop := ∀ (l0 : List Int), l0.length ≤ maxLen → l0.length * 1 ≤ 140737488351232 → (∀ x ∈ l0, (Lit.int .u8 x).wf = true) → ∃ k, laws_FnPsalmBest.f k l0 = some true
end Go.Proofs.YtdgmkfbmeaalpaaDoor.E
end
section
namespace Go.Proofs.YtdgmkfbmeaalpaaDoor.Pur
open Go.RowKit Go.Proofs.YtdgmkfbmeaalpaaDoorW.PrintWords Go.Proofs.YtdgmkfbmeaalpaaDoorW.PrintMore Go.Proofs.YtdgmkfbmeaalpaaDoor.E
abbrev PL := List S27
def okP (y : S27) : Bool := okPs y.f0 y.f1.f0 y.f1.f1 y.f2 y.f3
def shortP (y : S27) : Prop := y.f0.length ≤ 1048576 ∧ y.f2.length ≤ 1048576 ∧ y.f3.length ≤ 1048576
theorem rdP_lt {l : PL} {i : Nat} (h : i < l.length) : rd_T27 l (i : Int) = l[i] := by
  unfold rd_T27
  rw [toNat_nat, List.getD_eq_getElem?_getD, List.getElem?_eq_getElem h]
  rfl
theorem impl_all_loop (l : PL) (hl : l.length ≤ 1048576) : ∀ d i : Nat, i + d = l.length → EvP (fun k => impl_allPsalmsValid.l0 k l (l.length : Int) (i : Int)) (· = (l.drop i).all okP) := by
  intro d
  induction d with
  | zero =>
    intro i hi
    refine EvP.succ ?_
    simp only [impl_allPsalmsValid.l0]
    refine EvP.no (by omega) (EvP.ret ?_)
    rw [List.drop_of_length_le (by omega)]
    rfl
  | succ d ih =>
    intro i hi
    have hlt : i < l.length := by omega
    refine EvP.succ ?_
    simp only [impl_allPsalmsValid.l0]
    refine EvP.yes (by omega) (EvP.yes (by omega) (EvP.yes (by omega) ?_))
    rw [rdP_lt hlt, List.drop_eq_getElem_cons hlt, List.all_cons]
    refine EvP.bind (impl_psalm _ _ _ _ _) (fun _ e => ?_)
    subst e
    refine EvP.ite (fun h => ?_) (fun h => EvP.ret ?_)
    · rw [w64 (by omega) (by omega), show (i : Int) + 1 = ((i + 1 : Nat) : Int) by omega, show okP l[i] = true from h, Bool.true_and]
      exact ih (i + 1) (by omega)
    · rw [show okP l[i] = false from Bool.eq_false_iff.mpr h, Bool.false_and]
theorem impl_all (l : PL) (hl : l.length ≤ 1048576) : EvP (fun k => impl_allPsalmsValid.f k l) (· = l.all okP) := impl_all_loop l hl l.length 0 (by omega)
theorem spec_all_loop (l : PL) (hl : l.length ≤ 1048576) (hs : ∀ y ∈ l, shortP y) : ∀ d i : Nat, i + d = l.length → EvP (fun k => spec_l4All.l0 k l (i : Int)) (· = (l.drop i).all okP) := by
  intro d
  induction d with
  | zero =>
    intro i hi
    refine EvP.succ ?_
    simp only [spec_l4All.l0]
    refine EvP.no (by omega) (EvP.ret ?_)
    rw [List.drop_of_length_le (by omega)]
    rfl
  | succ d ih =>
    intro i hi
    have hlt : i < l.length := by omega
    obtain ⟨h1, h2, h3⟩ := hs _ (List.getElem_mem hlt)
    refine EvP.succ ?_
    simp only [spec_l4All.l0]
    refine EvP.yes (by omega) (EvP.yes (by omega) ?_)
    rw [rdP_lt hlt, List.drop_eq_getElem_cons hlt, List.all_cons]
    refine EvP.bind (spec_psalm _ _ _ _ _ (by omega) (by omega) (by omega)) (fun _ e => ?_)
    subst e
    refine EvP.ite (fun h => ?_) (fun h => EvP.ret ?_)
    · rw [w64 (by omega) (by omega), show (i : Int) + 1 = ((i + 1 : Nat) : Int) by omega, show okP l[i] = true from h, Bool.true_and]
      exact ih (i + 1) (by omega)
    · rw [show okP l[i] = false from Bool.eq_false_iff.mpr h, Bool.false_and]
theorem spec_all (l : PL) (hl : l.length ≤ 1048576) (hs : ∀ y ∈ l, shortP y) : EvP (fun k => spec_l4All.f k l) (· = l.all okP) := spec_all_loop l hl hs l.length 0 (by omega)
def accAt (l : PL) (s : ByteArray) (i : Nat) : Int := accR (rd_T27 l (i : Int)).f2 (rd_T27 l (i : Int)).f3 (fitP (rd_T27 l (i : Int)).f0 (rd_T27 l (i : Int)).f1.f0 (rd_T27 l (i : Int)).f1.f1 (rd_T27 l (i : Int)).f2 (rd_T27 l (i : Int)).f3 s)
theorem accAt_ge (l : PL) (s : ByteArray) (i : Nat) : -1 ≤ accAt l s i := by
  unfold accAt accR
  split <;> omega
theorem impl_acc_at (l : PL) (s : ByteArray) (hs : s.size ≤ 100000000) (i : Nat) : EvP (fun k => impl_PsalmAccents.f k ((rd_T27 l (i : Int)).f0) ((rd_T27 l (i : Int)).f1.f0) ((rd_T27 l (i : Int)).f1.f1) ((rd_T27 l (i : Int)).f2) ((rd_T27 l (i : Int)).f3) s) (· = accAt l s i) := impl_accents _ _ _ _ _ s hs
theorem spec_acc_at (l : PL) (s : ByteArray) (hs : s.size ≤ 100000000) (hl : ∀ y ∈ l, shortP y) (i : Nat) (hi : i < l.length) : EvP (fun k => spec_PsalmAccents.f k ((rd_T27 l (i : Int)).f0) ((rd_T27 l (i : Int)).f1.f0) ((rd_T27 l (i : Int)).f1.f1) ((rd_T27 l (i : Int)).f2) ((rd_T27 l (i : Int)).f3) s) (· = accAt l s i) := by
  have h := hl _ (List.getElem_mem hi)
  rw [← rdP_lt hi] at h
  obtain ⟨h1, h2, h3⟩ := h
  exact spec_accents _ _ _ _ _ s hs (by omega) (by omega) (by omega)
def bestF (A : Nat → Int) : Nat → Int × Int
  | 0 => (0, -1)
  | n + 1 => if A n > (bestF A n).2 then ((n : Int), A n) else bestF A n
theorem bestF_is {A : Nat → Int} (hA : ∀ i, -1 ≤ A i) : ∀ n : Nat, (∀ i, i < n → A i ≤ (bestF A n).2) ∧ (((bestF A n).2 = -1 ∧ (bestF A n).1 = 0) ∨ ∃ m : Nat, (bestF A n).1 = (m : Int) ∧ m < n ∧ (bestF A n).2 = A m ∧ 0 ≤ A m ∧ ∀ i, i < m → A i < A m)
  | 0 => ⟨fun i hi => by omega, .inl ⟨rfl, rfl⟩⟩
  | n + 1 => by
    obtain ⟨h1, h2⟩ := bestF_is hA n
    have hn : -1 ≤ (bestF A n).2 := by
      rcases h2 with ⟨e, _⟩ | ⟨m, _, _, e, e2, _⟩ <;> omega
    rw [bestF]
    by_cases g : A n > (bestF A n).2
    · rw [if_pos g]
      refine ⟨fun i hi => ?_, .inr ⟨n, rfl, Nat.lt_succ_self n, rfl, by omega, fun i hi => ?_⟩⟩
      · by_cases e : i = n
        · subst e; exact Int.le_refl _
        · have := h1 i (by omega)
          show A i ≤ A n
          omega
      · have := h1 i hi
        omega
    · rw [if_neg g]
      refine ⟨fun i hi => ?_, ?_⟩
      · by_cases e : i = n
        · subst e; omega
        · exact h1 i (by omega)
      · rcases h2 with h | ⟨m, a, b, c, d, e⟩
        · exact .inl h
        · exact .inr ⟨m, a, by omega, c, d, e⟩
def bestR (l : PL) (s : ByteArray) : Int × Bool := if (verse s).isSome = true ∧ l.all okP = true then ((bestF (accAt l s) l.length).1, decide ((bestF (accAt l s) l.length).2 ≥ 0)) else (0, false)
theorem impl_best_loop (l : PL) (s : ByteArray) (hl : l.length ≤ 1048576) (hs : s.size ≤ 100000000) : ∀ d i : Nat, i + d = l.length → EvP (fun k => impl_PsalmBest.l0 k s (bestF (accAt l s) i).1 (bestF (accAt l s) i).2 l (l.length : Int) (i : Int)) (· = ((bestF (accAt l s) l.length).1, decide ((bestF (accAt l s) l.length).2 ≥ 0))) := by
  intro d
  induction d with
  | zero =>
    intro i hi
    obtain rfl : i = l.length := by omega
    refine EvP.succ ?_
    simp only [impl_PsalmBest.l0]
    exact EvP.no (by omega) (EvP.ret rfl)
  | succ d ih =>
    intro i hi
    refine EvP.succ ?_
    simp only [impl_PsalmBest.l0]
    refine EvP.yes (by omega) (EvP.yes (by omega) (EvP.yes (by omega) ?_))
    refine EvP.bind (impl_acc_at l s hs i) (fun _ e => ?_)
    subst e
    have h := ih (i + 1) (by omega)
    rw [bestF] at h
    have e1 : Hd (wrap64 ((i : Int) + 1) = ((i + 1 : Nat) : Int)) := ⟨w64 (by omega) (by omega)⟩
    rw [e1.out]
    by_cases g : accAt l s i > (bestF (accAt l s) i).2
    · rw [if_pos g] at h
      exact EvP.yes g h
    · rw [if_neg g] at h
      exact EvP.no g h
theorem impl_best (l : PL) (s : ByteArray) (hl : l.length ≤ 1048576) (hs : s.size ≤ 100000000) : EvP (fun k => impl_PsalmBest.f k l s) (· = bestR l s) := by
  simp only [impl_PsalmBest.f, bestR]
  refine EvP.bind (EvP.con (impl_valid_v s hs) (P := (· = (verse s).isSome)) rfl) (fun _ e => ?_)
  subst e
  refine EvP.ite (fun h => ?_) (fun h => ?_)
  · refine EvP.bind (impl_all l hl) (fun _ e => ?_)
    subst e
    refine EvP.succ ?_
    simp only [impl_PsalmBest.j0]
    by_cases g : l.all okP = true
    · rw [if_pos ⟨h, g⟩]
      refine EvP.no (by rw [g]; decide) ?_
      exact impl_best_loop l s hl hs l.length 0 (by omega)
    · rw [if_neg (fun e => g e.2)]
      exact EvP.yes (by rw [Bool.eq_false_iff.mpr g]; rfl) (EvP.ret rfl)
  · refine EvP.succ ?_
    simp only [impl_PsalmBest.j0]
    rw [if_neg (fun e => h e.1)]
    exact EvP.yes (by trivial) (EvP.ret rfl)
def negOf (p : Int × Int) : Int := if p.2 < 0 then -1 else p.1
theorem spec_best_loop (l : PL) (s : ByteArray) (hl : l.length ≤ 1048576) (hs : s.size ≤ 100000000) (hy : ∀ y ∈ l, shortP y) : ∀ d i : Nat, i + d = l.length → EvP (fun k => spec_PsalmBest.l0 k l s (negOf (bestF (accAt l s) i)) (bestF (accAt l s) i).2 (i : Int)) (· = ((bestF (accAt l s) l.length).1, decide ((bestF (accAt l s) l.length).2 ≥ 0))) := by
  intro d
  induction d with
  | zero =>
    intro i hi
    obtain rfl : i = l.length := by omega
    refine EvP.succ ?_
    simp only [spec_PsalmBest.l0]
    refine EvP.no (by omega) ?_
    obtain ⟨_, h⟩ := bestF_is (accAt_ge l s) l.length
    rcases h with ⟨e1, e2⟩ | ⟨m, e1, e2, e3, e4, _⟩
    · refine EvP.yes (by unfold negOf; rw [if_pos (by omega)]; omega) (EvP.ret ?_)
      rw [e1, e2]
      rfl
    · have hn : negOf (bestF (accAt l s) l.length) = (m : Int) := by unfold negOf; rw [if_neg (by omega), e1]
      rw [hn]
      refine EvP.no (by omega) (EvP.ret ?_)
      rw [e1, decide_eq_true (by omega)]
  | succ d ih =>
    intro i hi
    refine EvP.succ ?_
    simp only [spec_PsalmBest.l0]
    refine EvP.yes (by omega) (EvP.yes (by omega) ?_)
    refine EvP.bind (spec_acc_at l s hs hy i (by omega)) (fun _ e => ?_)
    subst e
    have h := ih (i + 1) (by omega)
    obtain ⟨_, hb⟩ := bestF_is (accAt_ge l s) i
    have hb2 : -1 ≤ (bestF (accAt l s) i).2 := by
      rcases hb with ⟨e1, _⟩ | ⟨m, _, _, e3, e4, _⟩ <;> omega
    rw [bestF] at h
    have e1 : Hd (wrap64 ((i : Int) + 1) = ((i + 1 : Nat) : Int)) := ⟨w64 (by omega) (by omega)⟩
    rw [e1.out]
    by_cases g : accAt l s i > (bestF (accAt l s) i).2
    · rw [if_pos g] at h
      unfold negOf at h
      rw [if_neg (by simp only []; omega)] at h
      exact EvP.yes g h
    · rw [if_neg g] at h
      exact EvP.no g h
theorem spec_best (l : PL) (s : ByteArray) (hl : l.length ≤ 1048576) (hs : s.size ≤ 100000000) (hy : ∀ y ∈ l, shortP y) : EvP (fun k => spec_PsalmBest.f k l s) (· = bestR l s) := by
  simp only [spec_PsalmBest.f, bestR]
  refine EvP.bind (spec_all l hl hy) (fun _ e => ?_)
  subst e
  refine EvP.ite (fun h => ?_) (fun h => ?_)
  · refine EvP.bind (spec_valid_v s hs) (fun _ e => ?_)
    subst e
    refine EvP.succ ?_
    simp only [spec_PsalmBest.j0]
    by_cases g : (verse s).isSome = true
    · rw [if_pos ⟨g, h⟩]
      refine EvP.no (by rw [g]; decide) ?_
      exact spec_best_loop l s hl hs hy l.length 0 (by omega)
    · rw [if_neg (fun e => g e.1)]
      exact EvP.yes (by rw [Bool.eq_false_iff.mpr g]; rfl) (EvP.ret rfl)
  · refine EvP.succ ?_
    simp only [spec_PsalmBest.j0]
    rw [if_neg (fun e => h e.2)]
    exact EvP.yes (by trivial) (EvP.ret rfl)
end Go.Proofs.YtdgmkfbmeaalpaaDoor.Pur
end
section
namespace Go.Proofs.YtdgmkfbmeaalpaaDoor.E
open Go.RowKit Go.Proofs.YtdgmkfbmeaalpaaDoorW.PrintWords Go.Proofs.YtdgmkfbmeaalpaaDoorW.PrintLast Go.Proofs.YtdgmkfbmeaalpaaDoorW.PrintMore
attribute [local go_sem] max2_int min2_int max_two min_two max_three min_three max_four min_four
set_option linter.unusedVariables false
set_option linter.unusedSimpArgs false
attribute [local go_sem] str_leq_ str_gtr_ str_geq_
theorem eqA25 (d : Nat) (w : World) (x0 y0 : Int) (x1 y1 : Bool) :
  (Op.equalIn (d + 2) 25 (.agg #[.int .i64 x0, .bool x1]) (.agg #[.int .i64 y0, .bool y1])).run Tryd.prog w = .ok (x0 == y0 && (x1 == y1)) w := by
 refine eqA_of Tryd.underlying25 (by kernel_rfl) ?_
 refine eqf_cons (by rfl) (by go_simp; rfl) (by go_simp; rfl) (by go_simp) ?_
 exact eqf_last (by rfl) (by go_simp; rfl) (by go_simp; rfl) (by go_simp)
end Go.Proofs.YtdgmkfbmeaalpaaDoor.E
end
section
namespace Go.Proofs.YtdgmkfbmeaalpaaDoor.E
open Go.RowKit Go.Proofs.YtdgmkfbmeaalpaaDoorW.PrintWords Go.Proofs.YtdgmkfbmeaalpaaDoorW.PrintLast Go.Proofs.YtdgmkfbmeaalpaaDoorW.PrintMore
attribute [local go_sem] max2_int min2_int max_two min_two max_three min_three max_four min_four
set_option linter.unusedVariables false
set_option linter.unusedSimpArgs false
attribute [local go_sem high] eqA25
attribute [local go_sem] str_leq_ str_gtr_ str_geq_
def laws_sameTones.l0 : Nat → List (S25) → List (S25) → Int → Option (Bool)
 | 0, _, _, _ => none
 | k + 1, x0, x1, x5 => if x5 < (x0.length : Int) then (if 0 ≤ x5 then (if x5 < (x1.length : Int) then (if (!(((rd_T25 x0 x5).f0) == ((rd_T25 x1 x5).f0)) || (!(((rd_T25 x0 x5).f1) == ((rd_T25 x1 x5).f1)))) = true then (some false) else (laws_sameTones.l0 k x0 x1 (wrap64 (x5 + 1)))) else (none)) else (none)) else (some true)
def laws_sameTones.f (k : Nat) (l0 : List (S25)) (l1 : List (S25)) : Option (Bool) := if (l0.length : Int) = (l1.length : Int) then (laws_sameTones.l0 k l0 l1 0) else (some false)
end Go.Proofs.YtdgmkfbmeaalpaaDoor.E
end
section
namespace Go.Proofs.YtdgmkfbmeaalpaaDoor.E
open Go.RowKit Go.Proofs.YtdgmkfbmeaalpaaDoorW.PrintWords Go.Proofs.YtdgmkfbmeaalpaaDoorW.PrintLast Go.Proofs.YtdgmkfbmeaalpaaDoorW.PrintMore
attribute [local go_sem] max2_int min2_int max_two min_two max_three min_three max_four min_four
set_option linter.unusedVariables false
set_option linter.unusedSimpArgs false
attribute [local go_sem high] eqA25
attribute [local go_sem] str_leq_ str_gtr_ str_geq_
def impl_equalTones.l0 : Nat → List (S25) → List (S25) → Int → Int → Option (Bool)
 | 0, _, _, _, _ => none
 | k + 1, x1, x12, x13, x14 => if x14 < x13 then (if 0 ≤ x14 then (if x14 < (x12.length : Int) then (if x14 < (x1.length : Int) then (if (!(((rd_T25 x12 x14).f0) == ((rd_T25 x1 x14).f0)) || (!(((rd_T25 x12 x14).f1) == ((rd_T25 x1 x14).f1)))) = true then (some false) else (impl_equalTones.l0 k x1 x12 x13 (wrap64 (x14 + 1)))) else (none)) else (none)) else (none)) else (some true)
def impl_equalTones.f (k : Nat) (l0 : List (S25)) (l1 : List (S25)) : Option (Bool) := if (l0.length : Int) = (l1.length : Int) then (impl_equalTones.l0 k l1 l0 (l0.length : Int) 0) else (some false)
end Go.Proofs.YtdgmkfbmeaalpaaDoor.E
end
section
namespace Go.Proofs.YtdgmkfbmeaalpaaDoor.E
open Go.RowKit Go.Proofs.YtdgmkfbmeaalpaaDoorW.PrintWords Go.Proofs.YtdgmkfbmeaalpaaDoorW.PrintLast Go.Proofs.YtdgmkfbmeaalpaaDoorW.PrintMore
attribute [local go_sem] max2_int min2_int max_two min_two max_three min_three max_four min_four
set_option linter.unusedVariables false
set_option linter.unusedSimpArgs false
attribute [local go_sem high] eqA25
attribute [local go_sem] str_leq_ str_gtr_ str_geq_
def spec_l4Equal.l0 : Nat → List (S25) → List (S25) → Int → Option (Bool)
 | 0, _, _, _ => none
 | k + 1, x0, x1, x5 => if x5 < (x0.length : Int) then (if 0 ≤ x5 then (if x5 < (x1.length : Int) then (if (!(((rd_T25 x0 x5).f0) == ((rd_T25 x1 x5).f0)) || (!(((rd_T25 x0 x5).f1) == ((rd_T25 x1 x5).f1)))) = true then (some false) else (spec_l4Equal.l0 k x0 x1 (wrap64 (x5 + 1)))) else (none)) else (none)) else (some true)
def spec_l4Equal.f (k : Nat) (l0 : List (S25)) (l1 : List (S25)) : Option (Bool) := if (l0.length : Int) = (l1.length : Int) then (spec_l4Equal.l0 k l0 l1 0) else (some false)
end Go.Proofs.YtdgmkfbmeaalpaaDoor.E
end
section
namespace Go.Proofs.YtdgmkfbmeaalpaaDoor.Pur
open Go.RowKit Go.Proofs.YtdgmkfbmeaalpaaDoorW.PrintWords Go.Proofs.YtdgmkfbmeaalpaaDoor.E
instance decT : DecidableEq S25 := fun a b => if h : a.f0 = b.f0 ∧ a.f1 = b.f1 then .isTrue (by
    cases a
    cases b
    obtain ⟨h1, h2⟩ := h
    simp only [] at h1 h2
    rw [h1, h2]) else .isFalse (fun e => h (by rw [e]; exact ⟨rfl, rfl⟩))
end Go.Proofs.YtdgmkfbmeaalpaaDoor.Pur
end
section
namespace Go.Proofs.YtdgmkfbmeaalpaaDoor.E
open Go.RowKit Go.Proofs.YtdgmkfbmeaalpaaDoorW.PrintWords Go.Proofs.YtdgmkfbmeaalpaaDoorW.PrintLast Go.Proofs.YtdgmkfbmeaalpaaDoorW.PrintMore
attribute [local go_sem] max2_int min2_int max_two min_two max_three min_three max_four min_four
set_option linter.unusedVariables false
set_option linter.unusedSimpArgs false
attribute [local go_sem] str_leq_ str_gtr_ str_geq_
mutual
def impl_PsalmRead.j0 : Nat → List (S27) → ByteArray → List (S25) → Bool → Option (Int)
 | 0, _, _, _, _ => none
 | k + 1, x0, x1, x2, x24 => if x24 = true then (some (-1)) else (impl_PsalmRead.l0 k x1 x2 0 x0 (x0.length : Int) 0)
def impl_PsalmRead.l0 : Nat → ByteArray → List (S25) → Int → List (S27) → Int → Int → Option (Int)
 | 0, _, _, _, _, _, _ => none
 | k + 1, x1, x2, x7, x25, x26, x27 => if x27 < x26 then (if 0 ≤ x27 then (if x27 < (x25.length : Int) then ((impl_PsalmSing.f k ((rd_T27 x25 x27).f0) ((rd_T27 x25 x27).f1.f0) ((rd_T27 x25 x27).f1.f1) ((rd_T27 x25 x27).f2) ((rd_T27 x25 x27).f3) x1).bind fun bt863 => (if bt863.2 = true then ((impl_equalTones.f k bt863.1 x2).bind fun t867 => (if t867 = true then (impl_PsalmRead.l0 k x1 x2 (wrap64 (x7 + 1)) x25 x26 (wrap64 (x27 + 1))) else (impl_PsalmRead.l0 k x1 x2 x7 x25 x26 (wrap64 (x27 + 1))))) else (impl_PsalmRead.l0 k x1 x2 x7 x25 x26 (wrap64 (x27 + 1))))) else (none)) else (none)) else (some x7)
end
def impl_PsalmRead.f (k : Nat) (l0 : List (S27)) (a1 : ByteArray) (l2 : List (S25)) : Option (Int) := (impl_VerseValid.f a1).bind fun t858 => (if t858 = true then ((impl_MelodyValid.f k l2).bind fun t859 => (if t859 = true then ((impl_allPsalmsValid.f k l0).bind fun t860 => (impl_PsalmRead.j0 k l0 a1 l2 (!t860))) else (impl_PsalmRead.j0 k l0 a1 l2 true))) else (impl_PsalmRead.j0 k l0 a1 l2 true))
end Go.Proofs.YtdgmkfbmeaalpaaDoor.E
end
section
namespace Go.Proofs.YtdgmkfbmeaalpaaDoor.E
open Go.RowKit Go.Proofs.YtdgmkfbmeaalpaaDoorW.PrintWords Go.Proofs.YtdgmkfbmeaalpaaDoorW.PrintLast Go.Proofs.YtdgmkfbmeaalpaaDoorW.PrintMore
attribute [local go_sem] max2_int min2_int max_two min_two max_three min_three max_four min_four
set_option linter.unusedVariables false
set_option linter.unusedSimpArgs false
attribute [local go_sem] str_leq_ str_gtr_ str_geq_
mutual
def spec_PsalmRead.j0 : Nat → List (S27) → ByteArray → List (S25) → Bool → Option (Int)
 | 0, _, _, _, _ => none
 | k + 1, x0, x1, x2, x23 => if x23 = true then (some (-1)) else (spec_PsalmRead.l0 k x0 x1 x2 0 0)
def spec_PsalmRead.l0 : Nat → List (S27) → ByteArray → List (S25) → Int → Int → Option (Int)
 | 0, _, _, _, _, _ => none
 | k + 1, x0, x1, x2, x7, x8 => if x8 < (x0.length : Int) then (if 0 ≤ x8 then ((spec_PsalmSing.f k ((rd_T27 x0 x8).f0) ((rd_T27 x0 x8).f1.f0) ((rd_T27 x0 x8).f1.f1) ((rd_T27 x0 x8).f2) ((rd_T27 x0 x8).f3) x1).bind fun bt874 => (if bt874.2 = true then ((spec_l4Equal.f k bt874.1 x2).bind fun t878 => (if t878 = true then (spec_PsalmRead.l0 k x0 x1 x2 (wrap64 (x7 + 1)) (wrap64 (x8 + 1))) else (spec_PsalmRead.l0 k x0 x1 x2 x7 (wrap64 (x8 + 1))))) else (spec_PsalmRead.l0 k x0 x1 x2 x7 (wrap64 (x8 + 1))))) else (none)) else (some x7)
end
def spec_PsalmRead.f (k : Nat) (l0 : List (S27)) (a1 : ByteArray) (l2 : List (S25)) : Option (Int) := (spec_l4All.f k l0).bind fun t870 => (if t870 = true then ((spec_VerseValid.f k a1).bind fun t871 => (if t871 = true then ((spec_MelodyValid.f k l2).bind fun t872 => (spec_PsalmRead.j0 k l0 a1 l2 (!t872))) else (spec_PsalmRead.j0 k l0 a1 l2 true))) else (spec_PsalmRead.j0 k l0 a1 l2 true))
end Go.Proofs.YtdgmkfbmeaalpaaDoor.E
end
section
namespace Go.Proofs.YtdgmkfbmeaalpaaDoor.Pur
open Go.RowKit Go.Proofs.YtdgmkfbmeaalpaaDoorW.PrintWords Go.Proofs.YtdgmkfbmeaalpaaDoorW.PrintMore Go.Proofs.YtdgmkfbmeaalpaaDoor.E
def singAt (l : PL) (s : ByteArray) (i : Nat) : TL × Bool := singR (rd_T27 l (i : Int)).f0 (rd_T27 l (i : Int)).f1.f0 (rd_T27 l (i : Int)).f1.f1 (rd_T27 l (i : Int)).f2 (rd_T27 l (i : Int)).f3 (fitP (rd_T27 l (i : Int)).f0 (rd_T27 l (i : Int)).f1.f0 (rd_T27 l (i : Int)).f1.f1 (rd_T27 l (i : Int)).f2 (rd_T27 l (i : Int)).f3 s)
def hitN (l : PL) (s : ByteArray) (m : TL) (i : Nat) : Nat := if (singAt l s i).2 = true ∧ (singAt l s i).1 = m then 1 else 0
def readR (l : PL) (s : ByteArray) (m : TL) : Int := if (verse s).isSome = true ∧ okM m = true ∧ l.all okP = true then (sumN (hitN l s m) l.length : Int) else -1
end Go.Proofs.YtdgmkfbmeaalpaaDoor.Pur
end
section
namespace Go.Proofs.YtdgmkfbmeaalpaaDoor.E
open Go.RowKit Go.Proofs.YtdgmkfbmeaalpaaDoorW.PrintWords Go.Proofs.YtdgmkfbmeaalpaaDoorW.PrintLast Go.Proofs.YtdgmkfbmeaalpaaDoorW.PrintMore
attribute [local go_sem] max2_int min2_int max_two min_two max_three min_three max_four min_four
set_option linter.unusedVariables false
set_option linter.unusedSimpArgs false
attribute [local go_sem] str_leq_ str_gtr_ str_geq_
def laws_FnExactPsalmRead.f (k : Nat) (l0 : List (S41)) (a1 : ByteArray) (l2 : List (S39)) : Option (Bool) := if (a1.size : Int) > 1048576 then (some true) else ((laws_szPsalmS.f k l0 1048576).bind fun t929 => (if t929 < 0 then (some true) else ((laws_szToneS.f l2 t929).bind fun t930 => (if t930 < 0 then (some true) else ((laws_toPsalmS.f k l0).bind fun t931 => ((laws_toToneS.f k l2).bind fun t934 => ((spec_PsalmRead.f k t931 a1 t934).bind fun t937 => ((laws_toPsalmS.f k l0).bind fun t938 => ((laws_toToneS.f k l2).bind fun t941 => ((impl_PsalmRead.f k t938 a1 t941).bind fun t944 => (if t944 = t937 then ((laws_toPsalmS.f k l0).bind fun t945 => ((laws_eqPsalmS.f k t938 t945).bind fun t948 => (if t948 = true then ((laws_toToneS.f k l2).bind fun t949 => ((laws_eqToneS.f k t941 t949).bind fun t952 => (if t952 = true then (some true) else (none)))) else (none)))) else (none))))))))))))
end Go.Proofs.YtdgmkfbmeaalpaaDoor.E
end
section
namespace Go.Proofs.YtdgmkfbmeaalpaaDoor.Pur
open Go.RowKit Go.Proofs.YtdgmkfbmeaalpaaDoorW.PrintWords Go.Proofs.YtdgmkfbmeaalpaaDoor.E
abbrev LP := List S41
def cvP (y : S41) : S27 := ⟨y.f0.map cv, cv y.f1, y.f2.map cv, y.f3.map cv⟩
def shortL (y : S41) : Prop := y.f0.length ≤ 1048576 ∧ y.f2.length ≤ 1048576 ∧ y.f3.length ≤ 1048576
theorem rdL_lt {l : LP} {i : Nat} (h : i < l.length) : rd_T41 l (i : Int) = l[i] := by
  unfold rd_T41
  rw [toNat_nat, List.getD_eq_getElem?_getD, List.getElem?_eq_getElem h]
  rfl
theorem sz_psalms_loop (l : LP) (hl : l.length ≤ 1048576) (hx : ∀ y ∈ l, (y.f0.length : Int) ≤ 9223372036854775807 ∧ (y.f2.length : Int) ≤ 9223372036854775807 ∧ (y.f3.length : Int) ≤ 9223372036854775807) : ∀ (d i : Nat) (n : Int), i + d = l.length → 0 ≤ n → n ≤ 1048576 → EvP (fun k => laws_szPsalmS.l0 k l n (i : Int)) (fun r => r < 0 ∨ (0 ≤ r ∧ r ≤ 1048576 ∧ ∀ y ∈ l.drop i, shortL y)) := by
  intro d
  induction d with
  | zero =>
    intro i n hi h0 hn
    refine EvP.succ ?_
    simp only [laws_szPsalmS.l0]
    refine EvP.no (by omega) (EvP.ret (.inr ⟨h0, hn, fun y hy => ?_⟩))
    rw [List.drop_of_length_le (by omega)] at hy
    cases hy
  | succ d ih =>
    intro i n hi h0 hn
    have hlt : i < l.length := by omega
    obtain ⟨x1, x2, x3⟩ := hx _ (List.getElem_mem hlt)
    refine EvP.succ ?_
    simp only [laws_szPsalmS.l0]
    refine EvP.yes (by omega) (EvP.yes (by omega) ?_)
    rw [rdL_lt hlt]
    rcases sz_psalm l[i].f0 l[i].f1.f0 l[i].f1.f1 l[i].f2 l[i].f3 n x1 x2 x3 h0 hn with h | ⟨hle, h⟩
    · exact EvP.now h (EvP.yes (by decide) (EvP.ret (.inl (by decide))))
    · refine EvP.now h (EvP.no (by omega) ?_)
      have e1 : Hd (wrap64 ((i : Int) + 1) = ((i + 1 : Nat) : Int)) := ⟨w64 (by omega) (by omega)⟩
      rw [e1.out]
      refine (ih (i + 1) _ (by omega) (by omega) (by omega)).mono (fun r hr => ?_)
      rcases hr with hr | ⟨r1, r2, r3⟩
      · exact .inl hr
      · refine .inr ⟨r1, r2, fun y hy => ?_⟩
        rw [List.drop_eq_getElem_cons hlt] at hy
        rcases List.mem_cons.mp hy with rfl | hy
        · exact ⟨by omega, by omega, by omega⟩
        · exact r3 y hy
theorem sz_psalms (l : LP) (hl : (l.length : Int) ≤ 9223372036854775807) (hx : ∀ y ∈ l, (y.f0.length : Int) ≤ 9223372036854775807 ∧ (y.f2.length : Int) ≤ 9223372036854775807 ∧ (y.f3.length : Int) ≤ 9223372036854775807) : EvP (fun k => laws_szPsalmS.f k l 1048576) (fun r => r < 0 ∨ (0 ≤ r ∧ r ≤ 1048576 ∧ l.length ≤ 1048576 ∧ ∀ y ∈ l, shortL y)) := by
  simp only [laws_szPsalmS.f]
  rw [w64 (by omega) (by omega)]
  refine EvP.ite (fun _ => EvP.ret (.inl (by decide))) (fun h => ?_)
  refine (sz_psalms_loop l (by omega) hx l.length 0 _ (by omega) (by omega) (by omega)).mono (fun r hr => ?_)
  rcases hr with hr | ⟨r1, r2, r3⟩
  · exact .inl hr
  · exact .inr ⟨r1, r2, by omega, r3⟩
theorem to_psalms_loop (l : LP) (hl : l.length ≤ 1048576) (hx : ∀ y ∈ l, shortL y) : ∀ (d i : Nat) (xs : PL), i + d = l.length → xs.length = l.length → xs.take i = (l.take i).map cvP → EvP (fun k => laws_toPsalmS.l0 k l xs (i : Int)) (· = l.map cvP) := by
  intro d
  induction d with
  | zero =>
    intro i xs hi hxs ht
    refine EvP.succ ?_
    simp only [laws_toPsalmS.l0]
    refine EvP.no (by omega) (EvP.ret ?_)
    rw [List.take_of_length_le (by omega), List.take_of_length_le (by omega)] at ht
    exact ht
  | succ d ih =>
    intro i xs hi hxs ht
    have hlt : i < l.length := by omega
    obtain ⟨x1, x2, x3⟩ := hx _ (List.getElem_mem hlt)
    refine EvP.succ ?_
    simp only [laws_toPsalmS.l0]
    refine EvP.yes (by omega) (EvP.yes (by omega) ?_)
    rw [rdL_lt hlt]
    refine EvP.bind (to_psalm _ _ _ _ _ x1 x2 x3) (fun _ e => ?_)
    subst e
    refine EvP.yes (by omega) ?_
    rw [w64 (by omega) (by omega), toNat_nat]
    refine ih (i + 1) _ (by omega) (by simpa using hxs) ?_
    rw [List.take_succ_eq_append_getElem (by simp; omega), List.take_succ_eq_append_getElem hlt, List.map_append, List.take_set_of_le (Nat.le_refl _), ht]
    simp [cvP, cv]
theorem to_psalms (l : LP) (hl : l.length ≤ 1048576) (hx : ∀ y ∈ l, shortL y) : EvP (fun k => laws_toPsalmS.f k l) (· = l.map cvP) := by
  simp only [laws_toPsalmS.f]
  refine EvP.yes (by omega) (EvP.yes (by omega) ?_)
  exact to_psalms_loop l hl hx l.length 0 _ (by omega) (by simp) rfl
theorem eq_psalms_loop (l : PL) (hl : l.length ≤ 1048576) (hx : ∀ y ∈ l, shortP y) : ∀ d i : Nat, i + d = l.length → EvP (fun k => laws_eqPsalmS.l0 k l l (i : Int)) (· = true) := by
  intro d
  induction d with
  | zero =>
    intro i hi
    refine EvP.succ ?_
    simp only [laws_eqPsalmS.l0]
    exact EvP.no (by omega) (EvP.ret rfl)
  | succ d ih =>
    intro i hi
    have hlt : i < l.length := by omega
    obtain ⟨x1, x2, x3⟩ := hx _ (List.getElem_mem hlt)
    refine EvP.succ ?_
    simp only [laws_eqPsalmS.l0]
    refine EvP.yes (by omega) (EvP.yes (by omega) (EvP.yes (by omega) ?_))
    rw [rdP_lt hlt]
    refine EvP.bind (eq_psalm _ _ _ _ _ x1 x2 x3) (fun _ e => ?_)
    subst e
    refine EvP.yes rfl ?_
    rw [w64 (by omega) (by omega)]
    exact ih (i + 1) (by omega)
theorem eq_psalms (l : PL) (hl : l.length ≤ 1048576) (hx : ∀ y ∈ l, shortP y) : EvP (fun k => laws_eqPsalmS.f k l l) (· = true) := by
  simp only [laws_eqPsalmS.f]
  exact EvP.yes (by trivial) (eq_psalms_loop l hl hx l.length 0 (by omega))
theorem short_cv {l : LP} (hx : ∀ y ∈ l, shortL y) : ∀ y ∈ l.map cvP, shortP y := by
  intro y hy
  obtain ⟨z, hz, rfl⟩ := List.mem_map.mp hy
  obtain ⟨h1, h2, h3⟩ := hx z hz
  exact ⟨by simp only [cvP, List.length_map]; exact h1, by simp only [cvP, List.length_map]; exact h2, by simp only [cvP, List.length_map]; exact h3⟩
theorem exact_best (l : LP) (s : ByteArray) (hl : (l.length : Int) ≤ 9223372036854775807 ∧ ∀ y ∈ l, (y.f0.length : Int) ≤ 9223372036854775807 ∧ (y.f2.length : Int) ≤ 9223372036854775807 ∧ (y.f3.length : Int) ≤ 9223372036854775807) (_ : s.size ≤ 140737488351232) : ∃ k, laws_FnExactPsalmBest.f k l s = some true := by
  refine EvP.rounds ?_
  simp only [laws_FnExactPsalmBest.f]
  refine EvP.ite (fun _ => EvP.ret rfl) (fun hs => ?_)
  refine EvP.bind (sz_psalms l hl.1 hl.2) (fun r hr => ?_)
  refine EvP.ite (fun _ => EvP.ret rfl) (fun h0 => ?_)
  obtain ⟨r1, r2, r3, r4⟩ := hr.resolve_left h0
  have ht := to_psalms l r3 r4
  have hc := short_cv r4
  have hcl : (l.map cvP).length ≤ 1048576 := by rw [List.length_map]; exact r3
  refine EvP.bind ht (fun _ e => ?_)
  subst e
  refine EvP.bind (spec_best _ s hcl (by omega) hc) (fun _ e => ?_)
  subst e
  refine EvP.bind ht (fun _ e => ?_)
  subst e
  refine EvP.bind (impl_best _ s hcl (by omega)) (fun _ e => ?_)
  subst e
  refine EvP.yes rfl (EvP.succ ?_)
  simp only [laws_FnExactPsalmBest.j0]
  refine EvP.no (by simp) ?_
  refine EvP.bind ht (fun _ e => ?_)
  subst e
  refine EvP.bind (eq_psalms _ hcl hc) (fun _ e => ?_)
  subst e
  exact EvP.yes rfl (EvP.ret rfl)
end Go.Proofs.YtdgmkfbmeaalpaaDoor.Pur
end
section
namespace Go.Proofs.YtdgmkfbmeaalpaaDoor.Head
set_option maxRecDepth 100000
theorem and_t {a b : Bool} (h : a = true) (k : b = true) : (a && b) = true := by rw [h, k]; rfl
theorem mayEnter_of {P : Program} {l : List String} {W rest : List (List Char)} (h : behindMainWord (wordsSigns P.initOrder.toList) = W) (hc : ∃ c r, W = c :: r ∧ (c == "gc".toList || c == "spec".toList) = false ∧ (c == "carried".toList) = false) (hs : stripLifts liftWords W = (l, "cut".toList :: rest))
    (hl : (l.contains "finals" || !P.laysLater) = true) (hb : (l.contains "reflectrows" || !P.bearsReflect) = true) (hr : (l.contains "reflectrows" || !l.contains "leanrows") = true) (hd : P.doorFits l = true) : P.mayEnter = true := by
  obtain ⟨c, r, rfl, h1, h2⟩ := hc
  unfold Program.mayEnter
  rw [h]
  dsimp only
  rw [hs, hl, hb, hr, hd, h1, h2]
  simp
theorem headLifts_of {P : Program} {l : List String} {W rest : List (List Char)} (h : behindMainWord (wordsSigns P.initOrder.toList) = W) (hs : stripLifts liftWords W = (l, "cut".toList :: rest)) : P.headLifts = l := by
  unfold Program.headLifts
  rw [h]
  dsimp only
  rw [hs]
  simp
theorem liftsFinal_of {P : Program} {l : List String} {W rest : List (List Char)} (h : behindMainWord (wordsSigns P.initOrder.toList) = W) (hc : ∃ c r, W = c :: r ∧ (c == "gc".toList || c == "spec".toList) = false ∧ (c == "carried".toList) = false) (hs : stripLifts liftWords W = (l, "cut".toList :: rest)) : P.liftsFinal = l.contains "finals" := by
  unfold Program.liftsFinal
  rw [headLifts_of h hs, h]
  obtain ⟨c, r, rfl, h1, h2⟩ := hc
  have h3 : ((c :: r).head? == some "carried".toList) = false := by
    rw [beq_eq_false_iff_ne] at h2 ⊢
    exact fun e => h2 (Option.some.inj e)
  dsimp only
  rw [h3, Bool.false_and, Bool.false_or]
theorem make_of {P : Program} {rest : List (List Char)} (h : behindMainWord (wordsSigns P.initOrder.toList) = "cut".toList :: rest) : P.make = some .cut := by
  unfold Program.make
  rw [h]
  dsimp only
  rw [if_neg (by decide), if_pos (by simp)]
theorem mainIs_of {P : Program} {s : List Char} {rest : List (List Char)} (h : wordsSigns P.initOrder.toList = "harness".toList :: s :: rest) (hs : isSumSigns s = true) : P.mainIs = some (true, s) := by
  unfold Program.mainIs
  rw [h]
  dsimp only
  rw [hs]
  simp
def io : List Nat := [104, 97, 114, 110, 101, 115, 115, 32, 57, 53, 99, 56, 51, 49, 56, 101, 49, 51, 57, 50, 101, 98, 50, 97, 53, 100, 98, 55, 98, 56, 98, 55, 97, 57, 57, 100, 50, 56, 50, 99, 53, 54, 50, 53, 56, 101, 55, 102, 101, 54, 49, 101, 48, 100, 97, 56, 101, 52, 50, 57, 101, 54, 100, 53, 100, 51, 48, 52, 101, 52, 101, 101, 32, 99, 117, 116, 32, 97, 116, 32, 108, 111, 111, 112, 46, 101, 120, 97, 109, 112, 108, 101, 47, 110, 101, 117, 109, 101, 115, 47, 108, 97, 119, 115, 46, 70, 110, 80, 115, 97, 108, 109, 70, 105, 116, 115, 32, 108, 111, 111, 112, 46, 101, 120, 97, 109, 112, 108, 101, 47, 110, 101, 117, 109, 101, 115, 47, 108, 97, 119, 115, 46, 70, 110, 69, 120, 97, 99, 116, 80, 115, 97, 108, 109, 84, 101, 110, 111, 114, 115, 32, 108, 111, 111, 112, 46, 101, 120, 97, 109, 112, 108, 101, 47, 110, 101, 117, 109, 101, 115, 47, 108, 97, 119, 115, 46, 70, 110, 80, 115, 97, 108, 109, 65, 99, 99, 101, 110, 116, 115, 32, 108, 111, 111, 112, 46, 101, 120, 97, 109, 112, 108, 101, 47, 110, 101, 117, 109, 101, 115, 47, 108, 97, 119, 115, 46, 70, 110, 69, 120, 97, 99, 116, 80, 115, 97, 108, 109, 65, 99, 99, 101, 110, 116, 115, 32, 108, 111, 111, 112, 46, 101, 120, 97, 109, 112, 108, 101, 47, 110, 101, 117, 109, 101, 115, 47, 108, 97, 119, 115, 46, 70, 110, 80, 115, 97, 108, 109, 77, 111, 114, 101, 32, 108, 111, 111, 112, 46, 101, 120, 97, 109, 112, 108, 101, 47, 110, 101, 117, 109, 101, 115, 47, 108, 97, 119, 115, 46, 70, 110, 80, 115, 97, 108, 109, 32, 108, 111, 111, 112, 46, 101, 120, 97, 109, 112, 108, 101, 47, 110, 101, 117, 109, 101, 115, 47, 108, 97, 119, 115, 46, 70, 110, 69, 120, 97, 99, 116, 80, 115, 97, 108, 109, 83, 105, 110, 103, 32, 108, 111, 111, 112, 46, 101, 120, 97, 109, 112, 108, 101, 47, 110, 101, 117, 109, 101, 115, 47, 108, 97, 119, 115, 46, 70, 110, 80, 115, 97, 108, 109, 66, 101, 115, 116, 32, 108, 111, 111, 112, 46, 101, 120, 97, 109, 112, 108, 101, 47, 110, 101, 117, 109, 101, 115, 47, 108, 97, 119, 115, 46, 70, 110, 80, 115, 97, 108, 109, 82, 101, 97, 100, 32, 108, 111, 111, 112, 46, 101, 120, 97, 109, 112, 108, 101, 47, 110, 101, 117, 109, 101, 115, 47, 108, 97, 119, 115, 46, 70, 110, 69, 120, 97, 99, 116, 80, 115, 97, 108, 109, 82, 101, 97, 100, 32, 108, 111, 111, 112, 46, 101, 120, 97, 109, 112, 108, 101, 47, 110, 101, 117, 109, 101, 115, 47, 108, 97, 119, 115, 46, 70, 110, 69, 120, 97, 99, 116, 80, 115, 97, 108, 109, 66, 101, 115, 116, 32, 108, 111, 111, 112, 46, 101, 120, 97, 109, 112, 108, 101, 47, 110, 101, 117, 109, 101, 115, 47, 108, 97, 119, 115, 46, 70, 110, 80, 115, 97, 108, 109, 77, 111, 118, 101]
def ws : List (List Nat) := [[104, 97, 114, 110, 101, 115, 115], [57, 53, 99, 56, 51, 49, 56, 101, 49, 51, 57, 50, 101, 98, 50, 97, 53, 100, 98, 55, 98, 56, 98, 55, 97, 57, 57, 100, 50, 56, 50, 99, 53, 54, 50, 53, 56, 101, 55, 102, 101, 54, 49, 101, 48, 100, 97, 56, 101, 52, 50, 57, 101, 54, 100, 53, 100, 51, 48, 52, 101, 52, 101, 101], [99, 117, 116], [97, 116], [108, 111, 111, 112, 46, 101, 120, 97, 109, 112, 108, 101, 47, 110, 101, 117, 109, 101, 115, 47, 108, 97, 119, 115, 46, 70, 110, 80, 115, 97, 108, 109, 70, 105, 116, 115], [108, 111, 111, 112, 46, 101, 120, 97, 109, 112, 108, 101, 47, 110, 101, 117, 109, 101, 115, 47, 108, 97, 119, 115, 46, 70, 110, 69, 120, 97, 99, 116, 80, 115, 97, 108, 109, 84, 101, 110, 111, 114, 115], [108, 111, 111, 112, 46, 101, 120, 97, 109, 112, 108, 101, 47, 110, 101, 117, 109, 101, 115, 47, 108, 97, 119, 115, 46, 70, 110, 80, 115, 97, 108, 109, 65, 99, 99, 101, 110, 116, 115], [108, 111, 111, 112, 46, 101, 120, 97, 109, 112, 108, 101, 47, 110, 101, 117, 109, 101, 115, 47, 108, 97, 119, 115, 46, 70, 110, 69, 120, 97, 99, 116, 80, 115, 97, 108, 109, 65, 99, 99, 101, 110, 116, 115], [108, 111, 111, 112, 46, 101, 120, 97, 109, 112, 108, 101, 47, 110, 101, 117, 109, 101, 115, 47, 108, 97, 119, 115, 46, 70, 110, 80, 115, 97, 108, 109, 77, 111, 114, 101], [108, 111, 111, 112, 46, 101, 120, 97, 109, 112, 108, 101, 47, 110, 101, 117, 109, 101, 115, 47, 108, 97, 119, 115, 46, 70, 110, 80, 115, 97, 108, 109], [108, 111, 111, 112, 46, 101, 120, 97, 109, 112, 108, 101, 47, 110, 101, 117, 109, 101, 115, 47, 108, 97, 119, 115, 46, 70, 110, 69, 120, 97, 99, 116, 80, 115, 97, 108, 109, 83, 105, 110, 103], [108, 111, 111, 112, 46, 101, 120, 97, 109, 112, 108, 101, 47, 110, 101, 117, 109, 101, 115, 47, 108, 97, 119, 115, 46, 70, 110, 80, 115, 97, 108, 109, 66, 101, 115, 116], [108, 111, 111, 112, 46, 101, 120, 97, 109, 112, 108, 101, 47, 110, 101, 117, 109, 101, 115, 47, 108, 97, 119, 115, 46, 70, 110, 80, 115, 97, 108, 109, 82, 101, 97, 100], [108, 111, 111, 112, 46, 101, 120, 97, 109, 112, 108, 101, 47, 110, 101, 117, 109, 101, 115, 47, 108, 97, 119, 115, 46, 70, 110, 69, 120, 97, 99, 116, 80, 115, 97, 108, 109, 82, 101, 97, 100], [108, 111, 111, 112, 46, 101, 120, 97, 109, 112, 108, 101, 47, 110, 101, 117, 109, 101, 115, 47, 108, 97, 119, 115, 46, 70, 110, 69, 120, 97, 99, 116, 80, 115, 97, 108, 109, 66, 101, 115, 116], [108, 111, 111, 112, 46, 101, 120, 97, 109, 112, 108, 101, 47, 110, 101, 117, 109, 101, 115, 47, 108, 97, 119, 115, 46, 70, 110, 80, 115, 97, 108, 109, 77, 111, 118, 101]]
def ch (w : List Nat) : List Char := w.map Char.ofNat
theorem io_is : Tryd.prog.initOrder = String.ofList (ch io) := by kernel_rfl
theorem io_ws : wordsSigns (ch io) = ws.map ch := by kernel_rfl
theorem io_all : wordsSigns Tryd.prog.initOrder.toList = ws.map ch := by rw [io_is, String.toList_ofList, io_ws]
theorem be : behindMainWord (ws.map ch) = (ws.drop 2).map ch := by kernel_rfl
theorem io_be : behindMainWord (wordsSigns Tryd.prog.initOrder.toList) = (ws.drop 2).map ch := by rw [io_all, be]
theorem first : ∃ c r, (ws.drop 2).map ch = c :: r ∧ (c == "gc".toList || c == "spec".toList) = false ∧ (c == "carried".toList) = false := ⟨ch (ws.getD 2 []), (ws.drop 3).map ch, by kernel_rfl, by kernel_rfl, by kernel_rfl⟩
theorem st : stripLifts liftWords ((ws.drop 2).map ch) = ([], "cut".toList :: ((ws.drop 3).map ch)) := by kernel_rfl
theorem ll : ([].contains "finals" || !Tryd.prog.laysLater) = true := by kernel_rfl
theorem br : ([].contains "reflectrows" || !Tryd.prog.bearsReflect) = true := by kernel_rfl
theorem rr : ([].contains "reflectrows" || ![].contains "leanrows") = true := by kernel_rfl
theorem df : Tryd.prog.doorFits [] = true := by kernel_rfl
theorem mayE : Tryd.prog.mayEnter = true := mayEnter_of io_be first st ll br rr df
theorem finE : Tryd.prog.liftsFinal = [].contains "finals" := liftsFinal_of io_be first st
theorem mainE : Tryd.prog.mainIs = some (true, ch [57, 53, 99, 56, 51, 49, 56, 101, 49, 51, 57, 50, 101, 98, 50, 97, 53, 100, 98, 55, 98, 56, 98, 55, 97, 57, 57, 100, 50, 56, 50, 99, 53, 54, 50, 53, 56, 101, 55, 102, 101, 54, 49, 101, 48, 100, 97, 56, 101, 52, 50, 57, 101, 54, 100, 53, 100, 51, 48, 52, 101, 52, 101, 101]) := mainIs_of (rest := (ws.drop 2).map ch) (io_all.trans (by kernel_rfl)) (by kernel_rfl)
theorem makeE : Tryd.prog.make = some .cut := make_of (io_be.trans (by kernel_rfl : (ws.drop 2).map ch = "cut".toList :: ((ws.drop 3).map ch)))
end Go.Proofs.YtdgmkfbmeaalpaaDoor.Head
end
section
namespace Go.Proofs.YtdgmkfbmeaalpaaDoor.Pur
open Go.RowKit Go.ChangeShapes Go.Deep Go.Proofs.YtdgmkfbmeaalpaaDoorW.PrintWords Go.Proofs.YtdgmkfbmeaalpaaDoor.E
section
variable {P : Program}
theorem open_ib {H : Type} {enc : TypeId × Value → H} {W : World} {t : TypeId} {f0 f1 : Field} {fuel : Nat} {cs : List Value} {x : DataW H × List MemPlace} (ht : P.underlying t = some (.struct #[f0, f1])) (hi : P.underlying f0.type = some (.int .i64)) (hb : P.underlying f1.type = some .bool)
    (c0 : P.cellsOf f0.type = 1) (c1 : P.cellsOf f1.type = 1) (ct : P.cellsOf t = 2) (o0 : f0.offset = 0) (o1 : f1.offset = 1) (h : DataW.trod enc P W 0 (fun _ => true) true fuel t cs = some x) : ∃ (a : Int) (b : Bool), cs = [.int .i64 a, .bool b] := by
  obtain ⟨y0, y1, n, _, hl, h0, h1⟩ := trod_struct2 ht h
  rw [ct] at hl
  rw [c0, o0] at h0
  rw [c1, o1] at h1
  obtain ⟨a, e0, _, _⟩ := DataW.trod_int hi h0
  obtain ⟨b, e1, _⟩ := DataW.trod_bool hb h1
  match cs, hl with
  | [u, v], _ =>
    simp at e0 e1
    exact ⟨a, b, by rw [e0, e1]⟩
theorem open_row {H : Type} {enc : TypeId × Value → H} {W : World} {α : Type} [Inhabited α] {d : Kd α} {t e : TypeId} {fuel : Nat} {cs : List Value} {x : DataW H × List MemPlace} (ht : P.underlying t = some (.slice e)) (hc : P.cellsOf e = d.sz)
    (o : ∀ (fuel : Nat) (cs : List Value) (x : DataW H × List MemPlace), DataW.trod enc P W 0 (fun _ => true) true fuel e cs = some x → ∃ y, d.K W y cs)
    (h : DataW.trod enc P W 0 (fun _ => true) true fuel t cs = some x) : ∃ (A : Option Addr) (c : Nat) (l : List α), cs = [.slice A l.length c] ∧ l.length ≤ c ∧ (l.length : Int) ≤ 9223372036854775807 ∧ d.C W A l.length l := by
  rcases open_slice ht h with ⟨rfl, _⟩ | ⟨a, len, cap, m, n, D, Pl, rfl, _, hl, hm, hmm, _, hx⟩
  · exact ⟨none, 0, [], rfl, Nat.le_refl _, by simp, rfl, by simp, fun h => absurd h (by simp)⟩
  · have hlm : len ≤ m := by rw [hmm]; simp; omega
    unfold maxLen at hm
    obtain ⟨Y, hY⟩ := choose_lt (α := α) (n := len) (p := fun i y => ∃ cs', W.cells? 0 (a.add (i * P.cellsOf e)) (P.cellsOf e) = some cs' ∧ d.K W y cs') (fun i hi => by
      obtain ⟨cs', h1, h2⟩ := hx i (by omega)
      obtain ⟨y, hy⟩ := o _ _ _ h2
      exact ⟨y, cs', h1, hy⟩)
    have hlen : ((List.range len).map Y).length = len := by simp
    refine ⟨some a, cap, (List.range len).map Y, by rw [hlen], by rw [hlen]; exact hl, by rw [hlen]; omega, rfl, by rw [hlen]; omega, fun _ => ⟨a, rfl, fun j p hj => ?_⟩⟩
    obtain ⟨hj1, hj2⟩ := List.getElem?_eq_some_iff.1 hj
    rw [hlen] at hj1
    simp only [List.getElem_map, List.getElem_range] at hj2
    subst hj2
    obtain ⟨cs', h1, h2⟩ := hY j hj1
    obtain ⟨_, g1, g2⟩ := World.cells?_some h1
    refine ⟨cs', by rw [g1, hc], h2, fun i u hu => ?_⟩
    have := g2 i (by rw [← g1]; exact (List.getElem?_eq_some_iff.1 hu).1)
    rw [Go.Deep.add_add, hc, hu] at this
    exact this
end
instance : Inhabited S39 := ⟨z39⟩
theorem open_tones {H : Type} {enc : TypeId × Value → H} {W : World} {fuel : Nat} {cs : List Value} {x : DataW H × List MemPlace} (h : DataW.trod enc Tryd.prog W 0 (fun _ => true) true fuel 38 cs = some x) :
    ∃ (A : Option Addr) (c : Nat) (l : List S39), cs = [.slice A l.length c] ∧ l.length ≤ c ∧ (l.length : Int) ≤ 9223372036854775807 ∧ Kd.C k39 W A l.length l :=
  open_row Tryd.underlying38 (by kernel_rfl) (fun fuel cs x h => by
    obtain ⟨a, b, rfl⟩ := open_ib Tryd.underlying39 (by kernel_rfl) (by kernel_rfl) (by kernel_rfl) (by kernel_rfl) (by kernel_rfl) rfl rfl h
    exact ⟨⟨a, b⟩, k39_mk W ⟨a, b⟩⟩) h
end Go.Proofs.YtdgmkfbmeaalpaaDoor.Pur
end
section
namespace Go.Proofs.YtdgmkfbmeaalpaaDoor.Pur
open Go.RowKit Go.ChangeShapes Go.Deep Go.Proofs.YtdgmkfbmeaalpaaDoorW.PrintWords Go.Proofs.YtdgmkfbmeaalpaaDoor.E
theorem open_rowP {P : Program} {H : Type} {enc : TypeId × Value → H} {W : World} {α : Type} [Inhabited α] {d : Kd α} {p : α → Prop} {t e : TypeId} {fuel : Nat} {cs : List Value} {x : DataW H × List MemPlace} (ht : P.underlying t = some (.slice e)) (hc : P.cellsOf e = d.sz)
    (o : ∀ (fuel : Nat) (cs : List Value) (x : DataW H × List MemPlace), DataW.trod enc P W 0 (fun _ => true) true fuel e cs = some x → ∃ y, d.K W y cs ∧ p y)
    (h : DataW.trod enc P W 0 (fun _ => true) true fuel t cs = some x) : ∃ (A : Option Addr) (c : Nat) (l : List α), cs = [.slice A l.length c] ∧ l.length ≤ c ∧ (l.length : Int) ≤ 9223372036854775807 ∧ d.C W A l.length l ∧ ∀ y ∈ l, p y := by
  rcases open_slice ht h with ⟨rfl, _⟩ | ⟨a, len, cap, m, n, D, Pl, rfl, _, hl, hm, hmm, _, hx⟩
  · exact ⟨none, 0, [], rfl, Nat.le_refl _, by simp, ⟨rfl, by simp, fun h => absurd h (by simp)⟩, fun y hy => by cases hy⟩
  · have hlm : len ≤ m := by rw [hmm]; simp; omega
    unfold maxLen at hm
    obtain ⟨Y, hY⟩ := choose_lt (α := α) (n := len) (p := fun i y => ∃ cs', W.cells? 0 (a.add (i * P.cellsOf e)) (P.cellsOf e) = some cs' ∧ d.K W y cs' ∧ p y) (fun i hi => by
      obtain ⟨cs', h1, h2⟩ := hx i (by omega)
      obtain ⟨y, hy, hp⟩ := o _ _ _ h2
      exact ⟨y, cs', h1, hy, hp⟩)
    have hlen : ((List.range len).map Y).length = len := by simp
    refine ⟨some a, cap, (List.range len).map Y, by rw [hlen], by rw [hlen]; exact hl, by rw [hlen]; omega, ⟨rfl, by rw [hlen]; omega, fun _ => ⟨a, rfl, fun j q hj => ?_⟩⟩, fun y hy => ?_⟩
    · obtain ⟨hj1, hj2⟩ := List.getElem?_eq_some_iff.1 hj
      rw [hlen] at hj1
      simp only [List.getElem_map, List.getElem_range] at hj2
      subst hj2
      obtain ⟨cs', h1, h2, _⟩ := hY j hj1
      obtain ⟨_, g1, g2⟩ := World.cells?_some h1
      refine ⟨cs', by rw [g1, hc], h2, fun i u hu => ?_⟩
      have := g2 i (by rw [← g1]; exact (List.getElem?_eq_some_iff.1 hu).1)
      rw [Go.Deep.add_add, hc, hu] at this
      exact this
    · obtain ⟨j, hj, rfl⟩ := List.mem_map.mp hy
      obtain ⟨_, _, _, hp⟩ := hY j (List.mem_range.mp hj)
      exact hp
end Go.Proofs.YtdgmkfbmeaalpaaDoor.Pur
end
section
namespace Go.Proofs.YtdgmkfbmeaalpaaDoor.Pur
open Go.RowKit Go.ChangeShapes Go.WideShapes Go.Deep Go.Proofs.YtdgmkfbmeaalpaaDoorW.PrintWords Go.Proofs.YtdgmkfbmeaalpaaDoor.E
set_option maxRecDepth 100000 in
theorem open_psalm_cells {H : Type} {enc : TypeId × Value → H} {W : World} {fuel : Nat} {cs : List Value} {x : DataW H × List MemPlace} (h : DataW.trod enc Tryd.prog W 0 (fun _ => true) true fuel 41 cs = some x) :
    ∃ (As : Option Addr) (c0 : Nat) (ls : List S39) (a : Int) (b : Bool) (Am : Option Addr) (cm : Nat) (lm : List S39) (Ae : Option Addr) (ce : Nat) (le : List S39),
      cs = [.slice As ls.length c0, .int .i64 a, .bool b, .slice Am lm.length cm, .slice Ae le.length ce] ∧ ls.length ≤ c0 ∧ (ls.length : Int) ≤ 9223372036854775807 ∧ Kd.C k39 W As ls.length ls ∧ lm.length ≤ cm ∧ (lm.length : Int) ≤ 9223372036854775807 ∧ Kd.C k39 W Am lm.length lm ∧ le.length ≤ ce ∧ (le.length : Int) ≤ 9223372036854775807 ∧ Kd.C k39 W Ae le.length le := by
  obtain ⟨xs, n, _, rfl, hl, hlen, hf⟩ := DataW.trod_struct Tryd.underlying41 h
  have ct : Tryd.prog.cellsOf 41 = 5 := by kernel_rfl
  have c1 : Tryd.prog.cellsOf 38 = 1 := by kernel_rfl
  have c2 : Tryd.prog.cellsOf 39 = 2 := by kernel_rfl
  rw [ct] at hl
  match xs, hlen with
  | [y0, y1, y2, y3], _ =>
    have h0 : DataW.trod enc Tryd.prog W 0 (fun _ => true) true n 38 ((cs.drop 0).take (Tryd.prog.cellsOf 38)) = some y0 := hf 0 _ rfl
    have h1 : DataW.trod enc Tryd.prog W 0 (fun _ => true) true n 39 ((cs.drop 1).take (Tryd.prog.cellsOf 39)) = some y1 := hf 1 _ rfl
    have h2 : DataW.trod enc Tryd.prog W 0 (fun _ => true) true n 38 ((cs.drop 3).take (Tryd.prog.cellsOf 38)) = some y2 := hf 2 _ rfl
    have h3 : DataW.trod enc Tryd.prog W 0 (fun _ => true) true n 38 ((cs.drop 4).take (Tryd.prog.cellsOf 38)) = some y3 := hf 3 _ rfl
    rw [c1] at h0 h2 h3
    rw [c2] at h1
    match cs, hl with
    | [v0, v1, v2, v3, v4], _ =>
      obtain ⟨As, c0, ls, e0, a1, a2, a3⟩ := open_tones h0
      obtain ⟨a, b, e1⟩ := open_ib Tryd.underlying39 (by kernel_rfl) (by kernel_rfl) (by kernel_rfl) (by kernel_rfl) (by kernel_rfl) rfl rfl h1
      obtain ⟨Am, cm, lm, e2, b1, b2, b3⟩ := open_tones h2
      obtain ⟨Ae, ce, le, e3, d1, d2, d3⟩ := open_tones h3
      simp at e0 e1 e2 e3
      obtain ⟨e1, e1'⟩ := e1
      exact ⟨As, c0, ls, a, b, Am, cm, lm, Ae, ce, le, by rw [e0, e1, e1', e2, e3], a1, a2, a3, b1, b2, b3, d1, d2, d3⟩
instance : Inhabited S41 := ⟨z41⟩
theorem open_psalms {H : Type} {enc : TypeId × Value → H} {W : World} {fuel : Nat} {cs : List Value} {x : DataW H × List MemPlace} (h : DataW.trod enc Tryd.prog W 0 (fun _ => true) true fuel 62 cs = some x) :
    ∃ (A : Option Addr) (c : Nat) (l : List S41), cs = [.slice A l.length c] ∧ l.length ≤ c ∧ ((l.length : Int) ≤ 9223372036854775807 ∧ ∀ y ∈ l, (y.f0.length : Int) ≤ 9223372036854775807 ∧ (y.f2.length : Int) ≤ 9223372036854775807 ∧ (y.f3.length : Int) ≤ 9223372036854775807) ∧ Kd.C k41 W A l.length l := by
  obtain ⟨A, c, l, h1, h2, h3, h4, h5⟩ := open_rowP (p := fun y : S41 => (y.f0.length : Int) ≤ 9223372036854775807 ∧ (y.f2.length : Int) ≤ 9223372036854775807 ∧ (y.f3.length : Int) ≤ 9223372036854775807) (d := k41) Tryd.underlying62 (by kernel_rfl) (fun fuel cs x h => by
    obtain ⟨As, c0, ls, a, b, Am, cm, lm, Ae, ce, le, rfl, a1, a2, a3, b1, b2, b3, d1, d2, d3⟩ := open_psalm_cells h
    exact ⟨⟨ls, ⟨a, b⟩, lm, le⟩, k41_mk W ⟨ls, ⟨a, b⟩, lm, le⟩ a1 a3 b1 b3 d1 d3, a2, b2, d2⟩) h
  exact ⟨A, c, l, h1, h2, ⟨h3, h5⟩, h4⟩
end Go.Proofs.YtdgmkfbmeaalpaaDoor.Pur
end
section
namespace Go.Proofs.YtdgmkfbmeaalpaaDoor.Pur
open Go
variable {H : Type} {enc : TypeId × Value → H}
theorem handed_shaped_and {a : Assume} {C : Checked} {os : Os} {f : FuncId} {fn : Func} {s : ChangeSpec} {conds : List PathCond} {apart fresh handsOn again : Bool} {X : World → Array Value → Prop}
    (hX : ∀ (w w' : World) (args : Array Value), w.heap = w'.heap → X w args → X w' args)
    (own : ownKnob C.prog.godebug = none) (started : os.Started) (noInit : C.prog.inits.idxOf? f = none) (hfn : C.prog.funcs[f]? = some fn)
    (witness : ∃ (w : World) (tape : Tape) (i : Input), w.os = os ∧ (w.forCall tape i).Shaped C.prog ∧ i.vars = [] ∧ Input.okWide C.prog (w.forCall tape i) .any w.heap.size f i ∧
      ((s.pre enc C.prog fn conds apart (w.forCall tape i).memory i.args ∧ X (w.forCall tape i).memory i.args) ∧ sizedMet enc C.prog fn (OpenSpec.ofChange s) apart (w.forCall tape i).memory i.args) ∧ a.holds C.prog (lone (Frame.enter C.prog f i.args .normal) [] (w.forCall tape i)))
    (contract : ∀ (W : World) (base : Nat) (args : Array Value) (ds gs : List (DataW H)) (before : List MemPlace),
      (∀ (j : Nat) t v, fn.params[j]? = some t → args[j]? = some v → Value.okWide C.prog W .any base t v) →
      DataW.Whole enc C.prog fn.params.toList s.vars apart W args.toList ds gs before →
      conds.all (PathCond.test C.prog ⟨fn.params.toList, ds, s.plain.varTypes C.prog, gs⟩) = true →
      (DataW.weightsEach C.prog (fn.params.toList ++ s.plain.varTypes C.prog) (ds ++ gs)).all (· ≤ reachBytes) = true → X W args → W.ShapedOpen C.prog →
      a.holds C.prog (lone (Frame.enter C.prog f args .normal) [] W) →
      Calls C.prog f args W fun e W' => ∃ v, e = .returned v ∧ s.post enc C.prog fn apart fresh handsOn again W args v W') :
    ReturnsInHanded a C os f .any (fun w args => (s.pre enc C.prog fn conds apart w args ∧ X w args) ∧ sizedMet enc C.prog fn (OpenSpec.ofChange s) apart w args) (s.post enc C.prog fn apart fresh handsOn again) := by
  refine returnsInHanded_of_calls own started noInit witness ?_
  intro w tape i _ hsh _ hok hpre hholds
  obtain ⟨_, _, _, fn', hfn', _, _, _, _, hval⟩ := hok
  have e : fn' = fn := Option.some.inj (hfn'.symm.trans hfn)
  subst e
  obtain ⟨⟨⟨ds, gs, before, hw, hc⟩, hx⟩, hz⟩ := hpre
  have hw' := DataW.Whole.of_heap (w' := w.forCall tape i) (by rfl) hw
  refine (contract (w.forCall tape i) w.heap.size i.args ds gs before hval hw' hc (hz.weights hw) (hX _ _ _ (by rfl) hx) hsh hholds).mono fun e W' ⟨v, he, hp⟩ => ?_
  subst he
  exact ChangeSpec.post_blind hp
end Go.Proofs.YtdgmkfbmeaalpaaDoor.Pur
end
section
namespace Go.Proofs.YtdgmkfbmeaalpaaDoor.Pur
open Go.Proofs.YtdgmkfbmeaalpaaDoor.E
theorem gok0 {W : World} (h : W.ShapedOpen Tryd.prog) : GOk [0] W := by
  intro n hn
  obtain rfl := List.mem_singleton.mp hn
  exact Tryd.laysCut.s1_3 W h
end Go.Proofs.YtdgmkfbmeaalpaaDoor.Pur
end
section
namespace Go.Proofs.YtdgmkfbmeaalpaaDoor.fnExactPsalmBest
open Go.ChangeShapes Go.WideShapes Go.ChangeAt Go.RowKit
open Go.ChangeMaps (open_string shut_string)
set_option linter.unusedVariables false
theorem own : ownKnob Tryd.prog.godebug = none := by kernel_rfl
theorem laidOut : laidOutB Tryd.prog = true := by kernel_rfl
set_option maxRecDepth 100000 in
theorem lifted (os : Os) (started : os.Started) (H : Type) (enc : TypeId × Value → H) :
    ReturnsInHanded {} Tryd.checked os 13 .any (fun w args => (Rows.fnExactPsalmBestSpec.pre enc Tryd.prog Tryd.f13 Rows.fnExactPsalmBestRow.domain false w args ∧ laidMetH Tryd.prog Rows.fnExactPsalmBestRow.laid w) ∧ sizedMet enc Tryd.prog Tryd.f13 (OpenSpec.ofChange Rows.fnExactPsalmBestSpec) false w args) (Rows.fnExactPsalmBestSpec.post enc Tryd.prog Tryd.f13 false true false false) := by
  refine Pur.handed_shaped_and (C := Tryd.checked) (X := fun w _ => laidMetH Tryd.prog Rows.fnExactPsalmBestRow.laid w) (fun _ _ _ hh h => h.of_heap hh) own started (by kernel_rfl) Tryd.func13
    (ChangeSpec.witness_shaped (enc := enc) (C := Tryd.checked) (os := os) (X := fun w _ => laidMetH Tryd.prog Rows.fnExactPsalmBestRow.laid w) false (World.laidAll Tryd.prog os Rows.fnExactPsalmBestRow.laid) #[.slice none 0 0, .string ByteArray.empty] 8 (World.laidAll_os _ _ _) (World.shaped_of_ZipB (by kernel_rfl) (by kernel_rfl)) (by kernel_rfl) (by kernel_rfl) (by kernel_rfl) (by rw [MakeChecks.laidMetH_plain _ _ _ (by kernel_rfl)]; exact laidMet_laidAll _ (by kernel_rfl) (by kernel_rfl))) ?_
  intro W base args ds gs before hval0 hW hcnd hsz0 hL hSh _
  have hsz : (DataW.weightsEach Tryd.prog (Tryd.f13.params.toList ++ Rows.fnExactPsalmBestSpec.plain.varTypes Tryd.prog) (ds ++ gs)).all (· ≤ reachBytes) = true := hsz0
  have hval : ∀ (j : Nat) t v, Tryd.f13.params[j]? = some t → args[j]? = some v → Value.okWide Tryd.prog W .any base t v := hval0
  have hW' := hW
  obtain ⟨p, q, hA0, hV, rfl, hfz, hnd⟩ := hW
  have hA : DataW.TrodAll enc Tryd.prog W 0 (fun _ => true) true Tryd.f13.params.toList args.toList ds p := hA0
  rw [Tryd.params13] at hA hval hsz
  obtain ⟨v0, vs0, d0, ds0, p0, q0, hargs, rfl, rfl, h0, r0⟩ := trodAll_cons hA
  obtain ⟨v1, vs1, d1, ds1, p1, q1, rfl, rfl, rfl, h1, r1⟩ := trodAll_cons r0
  obtain ⟨rfl, rfl, rfl⟩ := trodAll_nil r1
  obtain rfl : args = #[v0, v1] := by cases args; simp_all
  obtain ⟨rfl, rfl⟩ := trodVars_none hV
  have k0 := h0
  have lt0 : ∀ x ∈ p0, x.block < W.heap.size := by obtain ⟨m, hm⟩ := k0; exact DataW.trod_lt m _ _ _ hm
  obtain ⟨a0, len0, cap0, rfl⟩ := okWide_slice Tryd.underlying62 (hval 0 62 v0 rfl rfl)
  obtain ⟨fuel0, hf0⟩ := h0
  obtain ⟨A0, c0, l0, hcs0, hle0, hm0, hC0⟩ := Pur.open_psalms hf0
  simp [Value.cells] at hcs0
  obtain ⟨rfl, rfl, rfl⟩ := hcs0
  have k1 := h1
  have lt1 : ∀ x ∈ p1, x.block < W.heap.size := by obtain ⟨m, hm⟩ := k1; exact DataW.trod_lt m _ _ _ hm
  obtain ⟨a1, rfl, rfl, rfl, y1⟩ := open_string Tryd.underlying9 (hval 1 9 v1 rfl rfl) h1
  have w1 : a1.size ≤ 140737488351232 := by
    have z := sized_string hsz (j := 1) (t := 9) rfl rfl
    rw [Array.length_toList] at z
    exact z
  clear hA0 hval0 hsz0 hsz
  obtain ⟨k, hk⟩ := Pur.exact_best l0 a1 hm0 w1
  refine (E.laws_FnExactPsalmBest.calls k _ _ l0 a1 true W hC0 hle0 (Pur.gok0 hSh) hk).mono fun e W' ⟨he, bel⟩ => ?_
  subst he
  exact ⟨_, rfl, _, _, _, [], _, [], hW', trodAll_mk1 (shut_bool Tryd.underlying4 _), (trodAll_cons_mk (Below.trod laidOut (by kernel_rfl) (of_decide_eq_true (by kernel_rfl)) k0 bel lt0) (trodAll_cons_mk (shut_string Tryd.underlying9 y1) trodAll_mk0)), rfl, bel.frame _, fun h => by cases h⟩
set_option maxRecDepth 100000 in
theorem closed : joinedFacts Tryd.prog 13 Tryd.f13 Rows.fnExactPsalmBestSpec Rows.fnExactPsalmBestRow = true := by
  have hf : (Rows.fnExactPsalmBestRow.lifted == Tryd.prog.liftsFinal) = true := by rw [Head.finE]; kernel_rfl
  have hm : (Tryd.prog.make == some Rows.fnExactPsalmBestRow.make) = true := by rw [Head.makeE]; kernel_rfl
  unfold joinedFacts
  repeat' (with_reducible refine Head.and_t ?_ ?_)
  all_goals first | with_reducible exact Head.mayE | with_reducible exact hf | with_reducible exact hm | (as_aux_lemma => kernel_rfl)
theorem over : Rows.fnExactPsalmBestRow.holds Tryd.pinned (OpenSpec.ofChange Rows.fnExactPsalmBestSpec) :=
  OpenClaim.holds_of_wide 13 Tryd.f13 rfl rfl rfl rfl rfl rfl rfl ⟨rfl, rfl, rfl, rfl, rfl⟩ rfl rfl rfl rfl rfl (by kernel_rfl) Tryd.func13 closed
    (of_decide_eq_true (by kernel_rfl)) (by unfold Func.isWrapper; first | (rw [if_pos (by decide +kernel)]; kernel_rfl) | (rw [if_neg (by decide +kernel)]; exact ⟨rfl, rfl⟩))
    (fun os started H enc _ => lifted os started H enc)
theorem card_ : Rows.FnExactPsalmBestCardSaid :=
  Claim7.holds_tied_plain_at .later [] [.data, .pinned] true (true, "95c8318e1392eb2a5db7b8b7a99d282c56258e7fe61e0da8e429e6d5d304e4ee") false
    over (fun _ h => by cases h) (by as_aux_lemma => kernel_rfl) (fun _ h => by cases h) fnExactPsalmBest_row_tie rfl ⟨rfl, rfl⟩ (Head.mainE.trans (by as_aux_lemma => kernel_rfl)) rfl
    (fun f fn hf hfn => by
      obtain rfl : f = 13 := Option.some.inj ((show Tryd.prog.funcNamed "loop.example/neumes/laws.FnExactPsalmBest" = some 13 by kernel_rfl).symm.trans hf) |>.symm
      obtain rfl : fn = Tryd.f13 := (Option.some.inj (Tryd.func13.symm.trans hfn)).symm
      exact ⟨by kernel_rfl, fun j t ht => by
        rw [Tryd.params13] at ht
        have hm : t ∈ [62, 9] := by simpa using Array.mem_of_getElem? ht
        have hall : ([62, 9].all fun u => !Tryd.prog.wantsStandIn u) = true := by kernel_rfl
        exact (show Tryd.prog.wantsStandIn t = false by simpa using List.all_eq_true.1 hall t hm)⟩)
    (by kernel_rfl)
theorem proved : Rows.FnExactPsalmBestCardSaid := card_
#print axioms proved
end Go.Proofs.YtdgmkfbmeaalpaaDoor.fnExactPsalmBest
namespace Go.Proofs.YtdgmkfbmeaalpaaDoor
theorem fnExactPsalmBest_holds : Rows.FnExactPsalmBestCardSaid := fnExactPsalmBest.proved
end Go.Proofs.YtdgmkfbmeaalpaaDoor
end
