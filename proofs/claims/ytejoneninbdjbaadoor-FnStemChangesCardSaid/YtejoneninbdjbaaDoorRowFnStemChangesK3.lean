/- Proved: for all arguments the given program's laws.FnStemChanges returns true, and its arguments read afterwards as they read before (the given constant Rows.FnStemChangesCardSaid).
Conditions: none ahead of the given statement; the statement itself begins in a world whose listed package-level variables hold what the program's text lays there, and its card ties them to that text. -/
import Derived.Test.YtejoneninbdjbaaDoorRowFnStemChangesK2
section
namespace Go.Proofs.YtejoneninbdjbaaDoor.E
open Go.RowKit Go.Proofs.YtejoneninbdjbaaDoorW.PrintWords Go.Proofs.YtejoneninbdjbaaDoorW.PrintLast Go.Proofs.YtejoneninbdjbaaDoorW.PrintMore
attribute [local go_sem] max2_int min2_int max_two min_two max_three min_three max_four min_four
set_option linter.unusedVariables false
set_option linter.unusedSimpArgs false
attribute [local go_sem] str_leq_ str_gtr_ str_geq_
def spec_StemMove.f (k : Nat) (l0 : List ByteArray) (l1 : List Int) (a2 : Int) (a3 : Int) : Option (List Int × Bool) := (spec_StemValid.f k l0 l1).bind fun t393 => (if t393 = true then ((spec_l6In.f a2 1 (wrap64 ((l1.length : Int) - 1))).bind fun t394 => (if t394 = true then ((spec_l6In.f a3 0 (wrap64 (a2 - 1))).bind fun t395 => (if t395 = true then ((some (([] : List Int) : List Int)).bind fun y396 => (if y396.length + l1.length < 17592186044416 then ((some (y396 ++ l1 : List Int)).bind fun y399 => (if 0 ≤ a2 then (if a2 < (y399.length : Int) then (some ((y399.set (a2 : Int).toNat a3), true)) else (none)) else (none))) else (none))) else (some ((([] : List Int)), false)))) else (some ((([] : List Int)), false)))) else (some ((([] : List Int)), false)))
end Go.Proofs.YtejoneninbdjbaaDoor.E
end
section
namespace Go.Proofs.YtejoneninbdjbaaDoor.E
open Go.RowKit Go.Proofs.YtejoneninbdjbaaDoorW.PrintWords Go.Proofs.YtejoneninbdjbaaDoorW.PrintLast Go.Proofs.YtejoneninbdjbaaDoorW.PrintMore
attribute [local go_sem] max2_int min2_int max_two min_two max_three min_three max_four min_four
set_option linter.unusedVariables false
set_option linter.unusedSimpArgs false
attribute [local go_sem] str_leq_ str_gtr_ str_geq_
def impl_copiedNumbers.f (l0 : List Int) : Option (List Int) := if l0.length ≤ 35184372088832 then some l0 else none
end Go.Proofs.YtejoneninbdjbaaDoor.E
end
section
namespace Go.Proofs.YtejoneninbdjbaaDoor.E
open Go.RowKit Go.Proofs.YtejoneninbdjbaaDoorW.PrintWords Go.Proofs.YtejoneninbdjbaaDoorW.PrintLast Go.Proofs.YtejoneninbdjbaaDoorW.PrintMore
attribute [local go_sem] max2_int min2_int max_two min_two max_three min_three max_four min_four
set_option linter.unusedVariables false
set_option linter.unusedSimpArgs false
attribute [local go_sem] str_leq_ str_gtr_ str_geq_
def impl_StemMove.f (k : Nat) (l0 : List ByteArray) (l1 : List Int) (a2 : Int) (a3 : Int) : Option (List Int × Bool) := (impl_StemValid.f k l0 l1).bind fun t412 => (if t412 = true then (if a2 < 1 then (some (([] : List Int), false)) else (if a2 ≥ (l1.length : Int) then (some (([] : List Int), false)) else (if a3 < 0 then (some (([] : List Int), false)) else (if a3 ≥ a2 then (some (([] : List Int), false)) else ((impl_copiedNumbers.f l1).bind fun t413 => (if 0 ≤ a2 then (if a2 < (t413.length : Int) then (some ((t413.set (a2 : Int).toNat a3), true)) else (none)) else (none))))))) else (some (([] : List Int), false)))
end Go.Proofs.YtejoneninbdjbaaDoor.E
end
section
namespace Go.Proofs.YtejoneninbdjbaaDoor.E
open Go.RowKit Go.Proofs.YtejoneninbdjbaaDoorW.PrintWords Go.Proofs.YtejoneninbdjbaaDoorW.PrintLast Go.Proofs.YtejoneninbdjbaaDoorW.PrintMore
attribute [local go_sem] max2_int min2_int max_two min_two max_three min_three max_four min_four
set_option linter.unusedVariables false
set_option linter.unusedSimpArgs false
attribute [local go_sem] str_leq_ str_gtr_ str_geq_
mutual
def laws_FnExactStemMove.j0 : Nat → List ByteArray → List Int → Int → Int → List Int → Bool → List ByteArray → List Int → List Int → Bool → Bool → Option (Bool)
 | 0, _, _, _, _, _, _, _, _, _, _, _ => none
 | k + 1, x0, x1, x2, x3, x10, x11, x12, x13, x14, x15, x59 => if x59 = true then (some false) else ((laws_toStringS.f k x0).bind fun t446 => ((laws_eqStringS.f k x12 t446).bind fun t449 => (if t449 = true then ((laws_toIntS.f k x1).bind fun t450 => ((laws_eqIntS.f k x13 t450).bind fun t453 => (if t453 = true then ((laws_markStringS.f k x12 1).bind fun bt454 => ((laws_markIntS.f k x13 bt454.1).bind fun bt456 => (if bt456.1 < 0 then (laws_FnExactStemMove.j1 k x0 x1 x2 x3 x10 x11 x14 true) else ((laws_eqIntS.f k x14 x10).bind fun t458 => (if t458 = true then (laws_FnExactStemMove.j1 k x0 x1 x2 x3 x10 x11 x14 (x15 != x11)) else (laws_FnExactStemMove.j1 k x0 x1 x2 x3 x10 x11 x14 true)))))) else (some false)))) else (some false))))
def laws_FnExactStemMove.j1 : Nat → List ByteArray → List Int → Int → Int → List Int → Bool → List Int → Bool → Option (Bool)
 | 0, _, _, _, _, _, _, _, _ => none
 | k + 1, x0, x1, x2, x3, x10, x11, x14, x88 => if x88 = true then (some false) else ((laws_markIntS.f k x14 1).bind fun bt459 => ((laws_heldIntS.f k bt459.2 1).bind fun t461 => (if t461 < 0 then (some false) else (if t461 = bt459.1 then ((laws_toStringS.f k x0).bind fun t462 => ((laws_toIntS.f k x1).bind fun t465 => ((impl_StemMove.f k t462 t465 x2 x3).bind fun bt468 => ((laws_eqIntS.f k bt468.1 x10).bind fun t472 => (if t472 = true then (laws_FnExactStemMove.j2 k bt459.2 bt459.1 (bt468.2 != x11)) else (laws_FnExactStemMove.j2 k bt459.2 bt459.1 true)))))) else (some false)))))
def laws_FnExactStemMove.j2 : Nat → List Int → Int → Bool → Option (Bool)
 | 0, _, _, _ => none
 | k + 1, x14, x17, x118 => if x118 = true then (some false) else ((laws_heldIntS.f k x14 1).bind fun t473 => (if t473 < 0 then (some false) else (if t473 = x17 then (some true) else (some false))))
end
def laws_FnExactStemMove.f (k : Nat) (l0 : List ByteArray) (l1 : List Int) (a2 : Int) (a3 : Int) : Option (Bool) := if (l1.length : Int) > 1048576 then (some true) else ((laws_szStringS.f k l0 1048576).bind fun t424 => (if t424 < 0 then (some true) else ((laws_toStringS.f k l0).bind fun t425 => ((laws_toIntS.f k l1).bind fun t428 => ((spec_StemMove.f k t425 t428 a2 a3).bind fun bt431 => ((laws_toStringS.f k l0).bind fun t435 => ((laws_toIntS.f k l1).bind fun t438 => ((impl_StemMove.f k t435 t438 a2 a3).bind fun bt441 => ((laws_eqIntS.f k bt441.1 bt431.1).bind fun t445 => (if t445 = true then (laws_FnExactStemMove.j0 k l0 l1 a2 a3 bt431.1 bt431.2 t435 t438 bt441.1 bt441.2 (bt441.2 != bt431.2)) else (laws_FnExactStemMove.j0 k l0 l1 a2 a3 bt431.1 bt431.2 t435 t438 bt441.1 bt441.2 true)))))))))))
end Go.Proofs.YtejoneninbdjbaaDoor.E
end
section
namespace Go.Proofs.YtejoneninbdjbaaDoor.Pur
open Go.RowKit Go.Proofs.YtejoneninbdjbaaDoorW.PrintWords Go.Proofs.YtejoneninbdjbaaDoorW.PrintMore Go.Proofs.YtejoneninbdjbaaDoor.E
def MvOk (l : List ByteArray) (st : List Int) (i tt : Int) : Prop := VS l st ∧ 1 ≤ i ∧ i < st.length ∧ 0 ≤ tt ∧ tt < i
def Mv (l : List ByteArray) (st : List Int) (i tt : Int) (r : List Int × Bool) : Prop := (MvOk l st i tt → r = (st.set i.toNat tt, true)) ∧ (¬ MvOk l st i tt → r = ([], false))
end Go.Proofs.YtejoneninbdjbaaDoor.Pur
end
section
namespace Go.Proofs.YtejoneninbdjbaaDoor.E
open Go.RowKit Go.Proofs.YtejoneninbdjbaaDoorW.PrintWords Go.Proofs.YtejoneninbdjbaaDoorW.PrintLast Go.Proofs.YtejoneninbdjbaaDoorW.PrintMore
attribute [local go_sem] max2_int min2_int max_two min_two max_three min_three max_four min_four
set_option linter.unusedVariables false
set_option linter.unusedSimpArgs false
attribute [local go_sem] str_leq_ str_gtr_ str_geq_
def spec_DrawStemBest.f (k : Nat) (l0 : List Int) : Option (List ByteArray) := (spec_l6Open.f l0).bind fun bt588 => ((spec_l92Books.f k bt588.1 bt588.2 false).bind fun bt591 => (some bt591.1))
end Go.Proofs.YtejoneninbdjbaaDoor.E
end
section
namespace Go.Proofs.YtejoneninbdjbaaDoor.E
open Go.RowKit Go.Proofs.YtejoneninbdjbaaDoorW.PrintWords Go.Proofs.YtejoneninbdjbaaDoorW.PrintLast Go.Proofs.YtejoneninbdjbaaDoorW.PrintMore
attribute [local go_sem] max2_int min2_int max_two min_two max_three min_three max_four min_four
set_option linter.unusedVariables false
set_option linter.unusedSimpArgs false
attribute [local go_sem] str_leq_ str_gtr_ str_geq_
def laws_sameInts.l0 : Nat → List Int → List Int → Int → Option (Bool)
 | 0, _, _, _ => none
 | k + 1, x0, x1, x5 => if x5 < (x0.length : Int) then (if 0 ≤ x5 then (if x5 < (x1.length : Int) then (if (rd x0 x5) = (rd x1 x5) then (laws_sameInts.l0 k x0 x1 (wrap64 (x5 + 1))) else (some false)) else (none)) else (none)) else (some true)
def laws_sameInts.f (k : Nat) (l0 : List Int) (l1 : List Int) : Option (Bool) := if (l0.length : Int) = (l1.length : Int) then (laws_sameInts.l0 k l0 l1 0) else (some false)
end Go.Proofs.YtejoneninbdjbaaDoor.E
end
section
namespace Go.Proofs.YtejoneninbdjbaaDoor.E
open Go.RowKit Go.Proofs.YtejoneninbdjbaaDoorW.PrintWords Go.Proofs.YtejoneninbdjbaaDoorW.PrintLast Go.Proofs.YtejoneninbdjbaaDoorW.PrintMore
attribute [local go_sem] max2_int min2_int max_two min_two max_three min_three max_four min_four
set_option linter.unusedVariables false
set_option linter.unusedSimpArgs false
attribute [local go_sem] str_leq_ str_gtr_ str_geq_
mutual
def laws_FnStemBest.j0 : Nat → List ByteArray → List Int → Bool → List Int → Bool → Bool → Option (Bool)
 | 0, _, _, _, _, _, _ => none
 | k + 1, x3, x4, x5, x6, x7, x41 => if x41 = true then (if (x5 == x7) = true then ((laws_sameInts.f k x4 x6).bind fun t609 => (some t609)) else (some false)) else ((impl_StemChanges.f k x3 x4).bind fun t610 => (laws_FnStemBest.l0 k x3 x4 t610 1))
def laws_FnStemBest.l0 : Nat → List ByteArray → List Int → Int → Int → Option (Bool)
 | 0, _, _, _, _ => none
 | k + 1, x3, x4, x8, x9 => if x9 < (x3.length : Int) then (laws_FnStemBest.l1 k x3 x4 x8 x9 0) else (some (decide (x8 ≥ 0)))
def laws_FnStemBest.l1 : Nat → List ByteArray → List Int → Int → Int → Int → Option (Bool)
 | 0, _, _, _, _, _ => none
 | k + 1, x3, x4, x8, x9, x10 => if x10 < x9 then ((impl_StemMove.f k x3 x4 x9 x10).bind fun bt611 => ((impl_StemChanges.f k x3 bt611.1).bind fun t615 => (if bt611.2 = true then (if t615 < x8 then (some false) else (if t615 = x8 then (if 0 ≤ x9 then (if x9 < (x4.length : Int) then (if x10 < (rd x4 x9) then (some false) else (laws_FnStemBest.l1 k x3 x4 x8 x9 (wrap64 (x10 + 1)))) else (none)) else (none)) else (laws_FnStemBest.l1 k x3 x4 x8 x9 (wrap64 (x10 + 1))))) else (some false)))) else (laws_FnStemBest.l0 k x3 x4 x8 (wrap64 (x9 + 1)))
end
def laws_FnStemBest.f (k : Nat) (l0 : List Int) : Option (Bool) := if (l0.length : Int) > 1048576 then (some true) else ((spec_DrawStemBest.f k l0).bind fun t597 => ((impl_StemBest.f k t597).bind fun bt600 => ((spec_StemBest.f k t597).bind fun bt604 => (if (bt600.2 != bt604.2) = true then (laws_FnStemBest.j0 k t597 bt600.1 bt600.2 bt604.1 bt604.2 true) else ((laws_sameInts.f k bt600.1 bt604.1).bind fun t608 => (if t608 = true then (laws_FnStemBest.j0 k t597 bt600.1 bt600.2 bt604.1 bt604.2 (!bt600.2)) else (laws_FnStemBest.j0 k t597 bt600.1 bt600.2 bt604.1 bt604.2 true)))))))
def laws_FnStemBest.Pure : Prop := ∀ (l0 : List Int), l0.length ≤ maxLen → l0.length * 1 ≤ 140737488351232 → (∀ x ∈ l0, (Lit.int .u8 x).wf = true) → ∃ k, laws_FnStemBest.f k l0 = some true
end Go.Proofs.YtejoneninbdjbaaDoor.E
end
section
namespace Go.Proofs.YtejoneninbdjbaaDoor.Pur
open Go.RowKit Go.Proofs.YtejoneninbdjbaaDoorW.PrintWords Go.Proofs.YtejoneninbdjbaaDoorW.PrintMore Go.Proofs.YtejoneninbdjbaaDoor.E
def F (l : List ByteArray) (i k : Nat) : Int := farT (rdOf ByteArray.empty l (i : Int)) (rdOf ByteArray.empty l (k : Int))
theorem near_best (l : List ByteArray) (i : Nat) : ∀ (d k b : Nat), b < k → (∀ x, x < k → F l i b ≤ F l i x ∧ (F l i x = F l i b → b ≤ x)) → ∀ x, x < k + d → F l i (near l i d k b) ≤ F l i x ∧ (F l i x = F l i (near l i d k b) → near l i d k b ≤ x) := by
  intro d
  induction d with
  | zero => intro k b _ h x hx; exact h x hx
  | succ d ih =>
    intro k b hb h x hx
    rw [near]
    show F l i (near l i d (k + 1) (if F l i k < F l i b then k else b)) ≤ F l i x ∧ (F l i x = F l i (near l i d (k + 1) (if F l i k < F l i b then k else b)) → near l i d (k + 1) (if F l i k < F l i b then k else b) ≤ x)
    refine ih (k + 1) _ (by split <;> omega) (fun y hy => ?_) x (by omega)
    by_cases c : F l i k < F l i b
    · rw [if_pos c]
      by_cases e : y = k
      · subst e; exact ⟨Int.le_refl _, fun _ => Nat.le_refl _⟩
      · have := h y (by omega)
        exact ⟨by omega, fun h' => by omega⟩
    · rw [if_neg c]
      by_cases e : y = k
      · subst e; exact ⟨by omega, fun _ => by omega⟩
      · exact h y (by omega)
theorem bests_rd (l : List ByteArray) : ∀ (d i j : Nat), j < d → (bests l d i)[j]? = some ((near l (i + j) (i + j - 1) 1 0 : Nat) : Int) := by
  intro d
  induction d with
  | zero => intro i j h; omega
  | succ d ih =>
    intro i j h
    rw [bests]
    cases j with
    | zero => rfl
    | succ j =>
      rw [List.getElem?_cons_succ, ih (i + 1) j (by omega)]
      rw [show i + 1 + j = i + (j + 1) by omega]
def bst (l : List ByteArray) : List Int := (-1) :: bests l (l.length - 1) 1
theorem bst_rd (l : List ByteArray) (i : Nat) (h1 : 1 ≤ i) (h2 : i < l.length) : rd (bst l) (i : Int) = ((near l i (i - 1) 1 0 : Nat) : Int) := by
  unfold rd bst
  obtain ⟨j, rfl⟩ : ∃ j, i = j + 1 := ⟨i - 1, by omega⟩
  rw [toNat_nat, List.getD_eq_getElem?_getD, List.getElem?_cons_succ, bests_rd l _ _ _ (by omega), Option.getD_some, show 1 + j = j + 1 by omega]
theorem bst_len (l : List ByteArray) (h : 1 ≤ l.length) : (bst l).length = l.length := by
  unfold bst
  rw [List.length_cons, bests_len]
  omega
theorem ok_books {l : List ByteArray} (h : okBooks l = true) : (booksOf l).2 = true ∧ (booksOf l).1 = 0 := by
  unfold okBooks at h
  rw [Bool.and_eq_true] at h
  exact ⟨h.1, by simpa using h.2⟩
theorem bst_vs {l : List ByteArray} (h : okBooks l = true) (h1 : 1 ≤ l.length) : VS l (bst l) := by
  obtain ⟨a, b⟩ := ok_books h
  refine ⟨a, by omega, bst_len l h1, rfl, fun j hj hj' => ?_⟩
  rw [bst_len l h1] at hj'
  rw [bst_rd l j hj hj']
  have := near_lt l j (j - 1) 1 0 (by omega) (by omega)
  omega
section
variable (l : List ByteArray) (hs : ∀ t ∈ l, t.size ≤ 9223372036854775806) (ok : okBooks l = true) (h1 : 1 ≤ l.length) (h6 : l.length ≤ 6)
include hs ok h1 h6
end
end Go.Proofs.YtejoneninbdjbaaDoor.Pur
end
section
namespace Go.Proofs.YtejoneninbdjbaaDoor.E
open Go.RowKit Go.Proofs.YtejoneninbdjbaaDoorW.PrintWords Go.Proofs.YtejoneninbdjbaaDoorW.PrintLast Go.Proofs.YtejoneninbdjbaaDoorW.PrintMore
attribute [local go_sem] max2_int min2_int max_two min_two max_three min_three max_four min_four
set_option linter.unusedVariables false
set_option linter.unusedSimpArgs false
attribute [local go_sem] str_leq_ str_gtr_ str_geq_
def spec_DrawStemFewest.f (k : Nat) (l0 : List Int) : Option (List ByteArray × List Int) := (spec_l6Open.f l0).bind fun bt679 => ((spec_l92Stem.f k bt679.1 bt679.2 true).bind fun bt682 => (some (bt682.1, bt682.2.1)))
end Go.Proofs.YtejoneninbdjbaaDoor.E
end
section
namespace Go.Proofs.YtejoneninbdjbaaDoor.E
open Go.RowKit Go.Proofs.YtejoneninbdjbaaDoorW.PrintWords Go.Proofs.YtejoneninbdjbaaDoorW.PrintLast Go.Proofs.YtejoneninbdjbaaDoorW.PrintMore
attribute [local go_sem] max2_int min2_int max_two min_two max_three min_three max_four min_four
set_option linter.unusedVariables false
set_option linter.unusedSimpArgs false
attribute [local go_sem] str_leq_ str_gtr_ str_geq_
mutual
def laws_FnStemFewest.j0 : Nat → List ByteArray → List Int → Int → Int → Bool → Option (Bool)
 | 0, _, _, _, _, _ => none
 | k + 1, x3, x4, x5, x6, x32 => if x32 = true then (some (x5 == x6)) else (if (x3.length : Int) < 6 then (laws_FnStemFewest.l0 k x3 x4 x5 (x3.length : Int) (⟨#[]⟩ : ByteArray) 0) else (if (x3.length : Int) = 1 then (some true) else (if 0 ≤ (wrap64 ((x3.length : Int) - 1)) then (if (wrap64 ((x3.length : Int) - 1)) ≤ (x3.length : Int) then (if (wrap64 ((x3.length : Int) - 1)) ≤ (x4.length : Int) then ((impl_StemFewest.f k (x3.take ((wrap64 ((x3.length : Int) - 1)) : Int).toNat) (x4.take ((wrap64 ((x3.length : Int) - 1)) : Int).toNat)).bind fun t734 => (some (decide (t734 ≤ x5)))) else (none)) else (none)) else (none))))
def laws_FnStemFewest.l0 : Nat → List ByteArray → List Int → Int → Int → ByteArray → Int → Option (Bool)
 | 0, _, _, _, _, _, _ => none
 | k + 1, x3, x4, x5, x7, x8, x9 => if 0 < (x3.length : Int) then (if x9 < ((rdOf ByteArray.empty x3 0).size : Int) then (if x8.size + 1 ≤ 9223372036854775807 then (laws_FnStemFewest.l0 k x3 x4 x5 x7 (x8 ++ (⟨#[63]⟩ : ByteArray)) (wrap64 (x9 + 1))) else (none)) else ((some (([] : List ByteArray) : List ByteArray)).bind fun y698 => (if y698.length + x3.length < 8796093022208 then ((some (y698 ++ x3 : List ByteArray)).bind fun y701 => (if y701.length < 8796093022208 then ((some (([] : List Int) : List Int)).bind fun y707 => (if y707.length + x4.length < 17592186044416 then ((some (y707 ++ x4 : List Int)).bind fun y710 => (if y710.length < 17592186044416 then ((impl_StemFewest.f k (y701 ++ [x8]) (y710 ++ [wrap64 (x7 - 1)])).bind fun t716 => (if t716 = x5 then (if x7 = 1 then (some true) else (if 0 ≤ (wrap64 (x7 - 1)) then (if (wrap64 (x7 - 1)) ≤ (x3.length : Int) then (if (wrap64 (x7 - 1)) ≤ (x4.length : Int) then ((impl_StemFewest.f k (x3.take ((wrap64 (x7 - 1)) : Int).toNat) (x4.take ((wrap64 (x7 - 1)) : Int).toNat)).bind fun t725 => (some (decide (t725 ≤ x5)))) else (none)) else (none)) else (none))) else (some false))) else (none))) else (none))) else (none))) else (none)))) else (none)
end
def laws_FnStemFewest.f (k : Nat) (l0 : List Int) : Option (Bool) := if (l0.length : Int) > 1048576 then (some true) else ((spec_DrawStemFewest.f k l0).bind fun bt689 => ((impl_StemFewest.f k bt689.1 bt689.2).bind fun t695 => ((spec_StemFewest.f k bt689.1 bt689.2).bind fun t696 => (if t695 = t696 then (laws_FnStemFewest.j0 k bt689.1 bt689.2 t695 t696 (decide (t695 < 0))) else (laws_FnStemFewest.j0 k bt689.1 bt689.2 t695 t696 true)))))
def laws_FnStemFewest.T19 : Bool × List (List Nat × List Nat) := (true, [([], []), ([0], [0]), ([1], [1]), ([2], [2]), ([2], [2]), ([4, 2], [2, 4]), ([3, 5, 2], [2, 3, 5]), ([2], [2]), ([2], [2]), ([8, 2], [2, 8]), ([7, 9, 2], [2, 7, 9]), ([6, 10, 2, 2], [2, 6, 10]), ([2], [2]), ([11, 12, 2], [2, 11, 12]), ([2, 13], [2, 13]), ([14, 11, 0, 1, 2, 3, 4, 5, 6, 7, 8, 9, 10, 11, 12, 13, 14], [14])])
def laws_FnStemFewest.B19 : List Nat := [0, 1, 3, 7, 7, 23, 63, 7, 7, 263, 903, 2047, 7, 8191, 16383, 32767]
def laws_FnStemFewest.Pure : Prop := ∀ (l0 : List Int), l0.length ≤ maxLen → l0.length * 1 ≤ 140737488351232 → (∀ x ∈ l0, (Lit.int .u8 x).wf = true) → ∃ k, laws_FnStemFewest.f k l0 = some true
end Go.Proofs.YtejoneninbdjbaaDoor.E
end
section
namespace Go.Proofs.YtejoneninbdjbaaDoor.E
open Go.RowKit Go.Proofs.YtejoneninbdjbaaDoorW.PrintWords Go.Proofs.YtejoneninbdjbaaDoorW.PrintLast Go.Proofs.YtejoneninbdjbaaDoorW.PrintMore
attribute [local go_sem] max2_int min2_int max_two min_two max_three min_three max_four min_four
set_option linter.unusedVariables false
set_option linter.unusedSimpArgs false
attribute [local go_sem] str_leq_ str_gtr_ str_geq_
def spec_DrawStemMove.f (k : Nat) (l0 : List Int) : Option (List ByteArray × List Int × Int × Int) := (spec_l6Open.f l0).bind fun bt810 => ((spec_l92Stem.f k bt810.1 bt810.2 true).bind fun bt813 => ((spec_l91At.f k bt810.1 bt813.2.2 (bt813.1.length : Int)).bind fun bt820 => ((spec_l91At.f k bt810.1 bt820.2 (mx 1 bt820.1)).bind fun bt822 => (some (bt813.1, bt813.2.1, bt820.1, bt822.1)))))
end Go.Proofs.YtejoneninbdjbaaDoor.E
end
section
namespace Go.Proofs.YtejoneninbdjbaaDoor.E
open Go.RowKit Go.Proofs.YtejoneninbdjbaaDoorW.PrintWords Go.Proofs.YtejoneninbdjbaaDoorW.PrintLast Go.Proofs.YtejoneninbdjbaaDoorW.PrintMore
attribute [local go_sem] max2_int min2_int max_two min_two max_three min_three max_four min_four
set_option linter.unusedVariables false
set_option linter.unusedSimpArgs false
attribute [local go_sem] str_leq_ str_gtr_ str_geq_
def laws_FnStemMove.j0 : Nat → List ByteArray → List Int → Int → Int → List Int → Bool → List Int → Bool → Bool → Option (Bool)
 | 0, _, _, _, _, _, _, _, _, _ => none
 | k + 1, x3, x4, x5, x6, x7, x8, x9, x10, x53 => if x53 = true then (if (x8 == x10) = true then ((laws_sameInts.f k x7 x9).bind fun t841 => (some t841)) else (some false)) else (if 0 ≤ x5 then (if x5 < (x4.length : Int) then ((impl_StemMove.f k x3 x7 x5 (rd x4 x5)).bind fun bt843 => ((impl_StemFewest.f k x3 x7).bind fun t847 => ((impl_StemFewest.f k x3 x4).bind fun t848 => (if 0 < (x3.length : Int) then (if bt843.2 = true then ((laws_sameInts.f k bt843.1 x4).bind fun t850 => (if t850 = true then ((impl_StemValid.f k x3 x7).bind fun t851 => (if t851 = true then ((impl_StemDepth.f k x3 x7 x5).bind fun t852 => ((impl_StemDepth.f k x3 x7 x6).bind fun t853 => (if t852 = (wrap64 (t853 + 1)) then (if (wrap64 (t847 - t848)) ≤ ((rdOf ByteArray.empty x3 0).size : Int) then (some (decide ((wrap64 (t847 - t848)) ≥ (wrap64 (-((rdOf ByteArray.empty x3 0).size : Int)))))) else (some false)) else (some false)))) else (some false))) else (some false))) else (some false)) else (none))))) else (none)) else (none))
def laws_FnStemMove.f (k : Nat) (l0 : List Int) : Option (Bool) := if (l0.length : Int) > 1048576 then (some true) else ((spec_DrawStemMove.f k l0).bind fun bt824 => ((impl_StemMove.f k bt824.1 bt824.2.1 bt824.2.2.1 bt824.2.2.2).bind fun bt832 => ((spec_StemMove.f k bt824.1 bt824.2.1 bt824.2.2.1 bt824.2.2.2).bind fun bt836 => (if (bt832.2 != bt836.2) = true then (laws_FnStemMove.j0 k bt824.1 bt824.2.1 bt824.2.2.1 bt824.2.2.2 bt832.1 bt832.2 bt836.1 bt836.2 true) else ((laws_sameInts.f k bt832.1 bt836.1).bind fun t840 => (if t840 = true then (laws_FnStemMove.j0 k bt824.1 bt824.2.1 bt824.2.2.1 bt824.2.2.2 bt832.1 bt832.2 bt836.1 bt836.2 (!bt832.2)) else (laws_FnStemMove.j0 k bt824.1 bt824.2.1 bt824.2.2.1 bt824.2.2.2 bt832.1 bt832.2 bt836.1 bt836.2 true)))))))
def laws_FnStemMove.Pure : Prop := ∀ (l0 : List Int), l0.length ≤ maxLen → l0.length * 1 ≤ 140737488351232 → (∀ x ∈ l0, (Lit.int .u8 x).wf = true) → ∃ k, laws_FnStemMove.f k l0 = some true
end Go.Proofs.YtejoneninbdjbaaDoor.E
end
section
namespace Go.Proofs.YtejoneninbdjbaaDoor.E
open Go.RowKit Go.Proofs.YtejoneninbdjbaaDoorW.PrintWords Go.Proofs.YtejoneninbdjbaaDoorW.PrintLast Go.Proofs.YtejoneninbdjbaaDoorW.PrintMore
attribute [local go_sem] max2_int min2_int max_two min_two max_three min_three max_four min_four
set_option linter.unusedVariables false
set_option linter.unusedSimpArgs false
attribute [local go_sem] str_leq_ str_gtr_ str_geq_
def laws_lost.f (a0 : ByteArray) : Option (Bool) := if (a0.size : Int) > 0 then (if 0 < (a0.size : Int) then (some ((bt a0 0) == 63)) else (none)) else (some false)
end Go.Proofs.YtejoneninbdjbaaDoor.E
end
section
namespace Go.Proofs.YtejoneninbdjbaaDoor.E
open Go.RowKit Go.Proofs.YtejoneninbdjbaaDoorW.PrintWords Go.Proofs.YtejoneninbdjbaaDoorW.PrintLast Go.Proofs.YtejoneninbdjbaaDoorW.PrintMore
attribute [local go_sem] max2_int min2_int max_two min_two max_three min_three max_four min_four
set_option linter.unusedVariables false
set_option linter.unusedSimpArgs false
attribute [local go_sem] str_leq_ str_gtr_ str_geq_
mutual
def laws_FnStemLost.j0 : Nat → List ByteArray → List Int → Int → Int → Bool → Option (Bool)
 | 0, _, _, _, _, _ => none
 | k + 1, x3, x4, x5, x6, x31 => if x31 = true then (some (x5 == x6)) else (if 0 < (x3.length : Int) then ((laws_lost.f (rdOf ByteArray.empty x3 0)).bind fun t863 => (if t863 = true then (laws_FnStemLost.j1 k x3 x4 x5 true) else (laws_FnStemLost.j1 k x3 x4 x5 ((x3.length : Int) == 1)))) else (none))
def laws_FnStemLost.j1 : Nat → List ByteArray → List Int → Int → Bool → Option (Bool)
 | 0, _, _, _, _ => none
 | k + 1, x3, x4, x5, x43 => if x43 = true then (some (decide (x5 ≥ 0))) else (laws_FnStemLost.l0 k x3 x4 x5 (⟨#[]⟩ : ByteArray) 0)
def laws_FnStemLost.l0 : Nat → List ByteArray → List Int → Int → ByteArray → Int → Option (Bool)
 | 0, _, _, _, _, _ => none
 | k + 1, x3, x4, x5, x7, x8 => if 0 < (x3.length : Int) then (if x8 < ((rdOf ByteArray.empty x3 0).size : Int) then (if x7.size + 1 ≤ 9223372036854775807 then (laws_FnStemLost.l0 k x3 x4 x5 (x7 ++ (⟨#[63]⟩ : ByteArray)) (wrap64 (x8 + 1))) else (none)) else ((some (([x7] : List ByteArray) : List ByteArray)).bind fun y865 => (if 1 ≤ (x3.length : Int) then ((some (x3.drop 1 : List ByteArray)).bind fun y868 => (if y865.length + y868.length < 8796093022208 then ((impl_StemFewest.f k (y865 ++ y868) x4).bind fun t875 => (if t875 > x5 then (some false) else (if (x3.length : Int) = 2 then (if 1 < (x3.length : Int) then ((laws_lost.f (rdOf ByteArray.empty x3 1)).bind fun t877 => (if t877 = true then (some true) else (if t875 = 0 then ((impl_BooksFar.f k x3 0 1).bind fun t878 => (some (x5 == t878))) else (some false)))) else (none)) else (some true)))) else (none))) else (none)))) else (none)
end
def laws_FnStemLost.f (k : Nat) (l0 : List Int) : Option (Bool) := if (l0.length : Int) > 1048576 then (some true) else ((spec_DrawStemFewest.f k l0).bind fun bt854 => ((impl_StemFewest.f k bt854.1 bt854.2).bind fun t860 => ((spec_StemFewest.f k bt854.1 bt854.2).bind fun t861 => (if t860 = t861 then (laws_FnStemLost.j0 k bt854.1 bt854.2 t860 t861 (decide (t860 < 0))) else (laws_FnStemLost.j0 k bt854.1 bt854.2 t860 t861 true)))))
def laws_FnStemLost.Pure : Prop := ∀ (l0 : List Int), l0.length ≤ maxLen → l0.length * 1 ≤ 140737488351232 → (∀ x ∈ l0, (Lit.int .u8 x).wf = true) → ∃ k, laws_FnStemLost.f k l0 = some true
end Go.Proofs.YtejoneninbdjbaaDoor.E
end
section
namespace Go.Proofs.YtejoneninbdjbaaDoor.Pur
open Go.RowKit Go.Proofs.YtejoneninbdjbaaDoorW.PrintWords Go.Proofs.YtejoneninbdjbaaDoorW.PrintMore Go.Proofs.YtejoneninbdjbaaDoor.E
theorem goB_count (N : Nat) : ∀ (l : List ByteArray) (c : Int), (goB N l c).2 = true → c ≤ (goB N l c).1 ∧ ((goB N l c).1 = c → ∀ t ∈ l, ¬ lostB t = true)
  | [], c, _ => ⟨Int.le_refl _, fun _ t ht => by simp at ht⟩
  | t :: ts, c, h => by
    rw [goB] at h ⊢
    by_cases k : t.size = N ∧ (readB t = true ∨ lostB t = true)
    · rw [if_pos k] at h ⊢
      have ih := goB_count N ts _ h
      by_cases g : lostB t = true
      · rw [if_pos g] at ih ⊢
        exact ⟨by omega, fun e => by omega⟩
      · rw [if_neg g] at ih ⊢
        refine ⟨ih.1, fun e x hx => ?_⟩
        rcases List.mem_cons.mp hx with rfl | hx
        · exact g
        · exact ih.2 e x hx
    · rw [if_neg k] at h
      exact absurd h (by decide)
theorem books_if {l : List ByteArray} (h : (booksOf l).2 = true) : booksOf l = goB (l.getD 0 ByteArray.empty).size l 0 ∧ (1 ≤ l.length ∧ l.length ≤ 6 ∧ 1 ≤ (l.getD 0 ByteArray.empty).size ∧ (l.getD 0 ByteArray.empty).size ≤ 8) := by
  unfold booksOf at h ⊢
  by_cases g : 1 ≤ l.length ∧ l.length ≤ 6 ∧ 1 ≤ (l.getD 0 ByteArray.empty).size ∧ (l.getD 0 ByteArray.empty).size ≤ 8
  · rw [if_pos g]; exact ⟨rfl, g⟩
  · rw [if_neg g] at h
    exact absurd h (by decide)
def gone : Nat → ByteArray
  | 0 => ⟨#[]⟩
  | p + 1 => gone p ++ ⟨#[63]⟩
section
variable {l : List ByteArray} {st : List Int} (V : VS l st) (hs' : ∀ t ∈ l, t.size ≤ 9223372036854775806) (hst : st.length ≤ 1048576)
include V hs' hst
end
end Go.Proofs.YtejoneninbdjbaaDoor.Pur
end
section
namespace Go.Proofs.YtejoneninbdjbaaDoor.E
open Go.RowKit Go.Proofs.YtejoneninbdjbaaDoorW.PrintWords Go.Proofs.YtejoneninbdjbaaDoorW.PrintLast Go.Proofs.YtejoneninbdjbaaDoorW.PrintMore
attribute [local go_sem] max2_int min2_int max_two min_two max_three min_three max_four min_four
set_option linter.unusedVariables false
set_option linter.unusedSimpArgs false
attribute [local go_sem] str_leq_ str_gtr_ str_geq_
def spec_DrawBooksFar.f (k : Nat) (l0 : List Int) : Option (List ByteArray × Int × Int) := (spec_l6Open.f l0).bind fun bt288 => ((spec_l92Books.f k bt288.1 bt288.2 false).bind fun bt291 => ((spec_l91At.f k bt288.1 bt291.2 (bt291.1.length : Int)).bind fun bt295 => ((spec_l91At.f k bt288.1 bt295.2 (bt291.1.length : Int)).bind fun bt297 => (some (bt291.1, bt295.1, bt297.1)))))
end Go.Proofs.YtejoneninbdjbaaDoor.E
end
section
namespace Go.Proofs.YtejoneninbdjbaaDoor.E
open Go.RowKit Go.Proofs.YtejoneninbdjbaaDoorW.PrintWords Go.Proofs.YtejoneninbdjbaaDoorW.PrintLast Go.Proofs.YtejoneninbdjbaaDoorW.PrintMore
attribute [local go_sem] max2_int min2_int max_two min_two max_three min_three max_four min_four
set_option linter.unusedVariables false
set_option linter.unusedSimpArgs false
attribute [local go_sem] str_leq_ str_gtr_ str_geq_
mutual
def laws_FnBooksFar.j0 : Nat → List Int → List Int → Bool → Option (Bool)
 | 0, _, _, _ => none
 | k + 1, x0, x1, x18 => if x18 = true then (some true) else ((spec_DrawBooksFar.f k x0).bind fun bt299 => ((impl_BooksFar.f k bt299.1 bt299.2.1 bt299.2.2).bind fun t304 => ((spec_BooksFar.f k bt299.1 bt299.2.1 bt299.2.2).bind fun t305 => (if t304 = t305 then (laws_FnBooksFar.j1 k x1 bt299.1 bt299.2.1 bt299.2.2 t304 t305 (decide (t304 < 0))) else (laws_FnBooksFar.j1 k x1 bt299.1 bt299.2.1 bt299.2.2 t304 t305 true)))))
def laws_FnBooksFar.j1 : Nat → List Int → List ByteArray → Int → Int → Int → Int → Bool → Option (Bool)
 | 0, _, _, _, _, _, _, _ => none
 | k + 1, x1, x5, x6, x7, x8, x9, x39 => if x39 = true then (some (x8 == x9)) else (if (x5.length : Int) = 0 then (none) else ((impl_BooksFar.f k x5 x7 x6).bind fun t306 => (if t306 = x8 then (if 0 ≤ x6 then (if x6 < (x5.length : Int) then (if 0 ≤ x7 then (if x7 < (x5.length : Int) then (if ((x8 == 0) == ((rdOf ByteArray.empty x5 x6).toList == (rdOf ByteArray.empty x5 x7).toList)) = true then ((impl_BooksFar.f k x5 x6 ((x1.length : Int) % (x5.length : Int))).bind fun t309 => ((impl_BooksFar.f k x5 ((x1.length : Int) % (x5.length : Int)) x7).bind fun t310 => (some (decide (x8 ≤ (wrap64 (t309 + t310))))))) else (some false)) else (none)) else (none)) else (none)) else (none)) else (some false))))
end
def laws_FnBooksFar.f (k : Nat) (l0 : List Int) (l1 : List Int) : Option (Bool) := if (l0.length : Int) > 1048576 then (laws_FnBooksFar.j0 k l0 l1 true) else (laws_FnBooksFar.j0 k l0 l1 (decide ((l1.length : Int) > 1048576)))
def laws_FnBooksFar.T9 : Bool × List (List Nat × List Nat) := (true, [([], []), ([], []), ([], []), ([0, 1, 2], [0, 1, 2]), ([], []), ([3, 4], [3, 4]), ([5, 3], [5]), ([6], [6]), ([7, 6], [6, 7]), ([6], [6]), ([6], [6]), ([9, 10, 6], [6, 9, 10]), ([11, 6], [6, 11]), ([6], [6]), ([6], [6]), ([13, 14, 6], [6, 13, 14]), ([15, 6], [6, 15]), ([12, 16, 6], [6, 12, 16]), ([8, 17, 6], [6, 8, 17]), ([6, 18], [6, 18]), ([19, 6], [19]), ([20], [20]), ([20], [20]), ([20], [20]), ([20], [20]), ([22, 23, 24, 20, 20], [20, 22, 23, 24]), ([20], [20]), ([20], [20]), ([20], [20]), ([26, 27, 28, 25, 20], [20, 26, 27, 28]), ([25, 29, 20], [20, 25, 29]), ([21, 30, 20], [20, 21, 30]), ([20, 31], [20, 31]), ([32, 29, 0, 1, 2, 3, 4, 5, 6, 7, 8, 9, 10, 11, 12, 13, 14, 15, 16, 17, 18, 19, 20, 21, 22, 23, 24, 25, 26, 27, 28, 29, 30, 31, 32], [32])])
def laws_FnBooksFar.B9 : List Nat := [0, 0, 0, 7, 0, 31, 63, 127, 255, 127, 127, 1663, 3711, 127, 127, 24703, 57471, 130687, 262143, 524287, 1048575, 2097151, 2097151, 2097151, 2097151, 31457279, 2097151, 2097151, 2097151, 534773759, 1071644671, 2147483647, 4294967295, 8589934591]
def laws_FnBooksFar.Pure : Prop := ∀ (l0 : List Int) (l1 : List Int), l0.length ≤ maxLen → l0.length * 1 ≤ 140737488351232 → (∀ x ∈ l0, (Lit.int .u8 x).wf = true) → l1.length ≤ maxLen → l1.length * 1 ≤ 140737488351232 → (∀ x ∈ l1, (Lit.int .u8 x).wf = true) → ∃ k, laws_FnBooksFar.f k l0 l1 = some true
end Go.Proofs.YtejoneninbdjbaaDoor.E
end
section
namespace Go.Proofs.YtejoneninbdjbaaDoor.Pur
open Go.RowKit Go.Proofs.YtejoneninbdjbaaDoorW.PrintWords Go.Proofs.YtejoneninbdjbaaDoorW.PrintMore Go.Proofs.YtejoneninbdjbaaDoor.E
theorem not_lost {l : List ByteArray} (h : okBooks l = true) : ∀ t ∈ l, ¬ lostB t = true := by
  obtain ⟨a, b⟩ := ok_books h
  obtain ⟨e, _⟩ := books_if a
  rw [e] at a b
  exact (goB_count _ l 0 a).2 b
theorem fill_take {A : Nat → Int} {u : Nat → Nat} {t : ByteArray} (h : ∀ p, p < t.size → A p = ((u p : Nat) : Int) ∧ u p < 4 ∧ bt t (p : Int) = 97 + ((u p : Nat) : Int)) : ∀ p, p ≤ t.size → (fillT A p).data.toList = t.data.toList.take p
  | 0, _ => by rw [List.take_zero]; rfl
  | p + 1, hp => by
    obtain ⟨h1, h2, h3⟩ := h p (by omega)
    have hlt : p < t.data.toList.length := by rw [list_len]; omega
    rw [fillT, h1, let_byte h2, app_list, fill_take h p (by omega), List.take_succ_eq_append_getElem hlt]
    rw [bt_at t p (by omega)] at h3
    congr 2
    rw [← UInt8.toNat_inj, UInt8.toNat_ofNat_of_lt' (show _ < 256 by omega)]
    omega
theorem ba_ext {a b : ByteArray} (h : a.data.toList = b.data.toList) : a = b := by
  cases a; cases b
  congr 1
  exact Array.toList_inj.mp h
section
variable {l : List ByteArray} {st : List Int} (V : VS l st) (ok : okBooks l = true)
include V ok
theorem filled_same : filled l st = l := by
  have K := stemK V
  have hn := not_lost ok
  refine List.ext_getElem? (fun j => ?_)
  by_cases hj : j < l.length
  · unfold filled
    rw [fillM_get _ _ _ j hj, List.getElem?_eq_getElem hj]
    congr 1
    have hsz := K.sz j hj
    have hl := hn _ (rd_mem (l := l) (i := (j : Int)) (by omega) (by omega))
    rw [rd_at hj] at hsz hl
    refine ba_ext ?_
    rw [fill_take (u := fun p => yL l st p j) (t := l[j]) (fun p hp => ?_) _ (by omega), List.take_of_length_le (by rw [list_len]; omega)]
    have h1 := K_let K p j hj
    have h2 := (K_clean K p (by omega)).1 j hj
    refine ⟨h1.1, h1.2, ?_⟩
    rw [K.ban p j _ hj (by omega), rd_at hj] at h2
    have hr := read_bt ((K.kind j hj).resolve_right (by rw [rd_at hj]; exact hl)) (p := p) (by rw [rd_at hj]; omega)
    rw [rd_at hj] at hr
    rw [if_neg (show ¬ bt l[j] (p : Int) = 63 by omega)] at h2
    by_cases g : bt l[j] (p : Int) = 97 + ((yL l st p j : Nat) : Int)
    · exact g
    · rw [if_neg g] at h2
      omega
  · unfold filled
    rw [List.getElem?_eq_none (by rw [fillM_len]; omega), List.getElem?_eq_none (by omega)]
theorem fsum_chg : fSum l st = chg l st (l.length - 1) 1 := by
  have := K_chg (stemK V)
  rw [filled_same V ok] at this
  exact this.symm
end
theorem same_texts_loop (l : List ByteArray) (hl : l.length ≤ 1048576) : ∀ d i : Nat, i + d = l.length → EvP (fun k => laws_sameTexts.l0 k l l (i : Int)) (· = true) := by
  intro d
  induction d with
  | zero =>
    intro i hi
    refine EvP.succ ?_
    simp only [laws_sameTexts.l0]
    exact EvP.no (by omega) (EvP.ret rfl)
  | succ d ih =>
    intro i hi
    have e2 : Hd (wrap64 ((i : Int) + 1) = ((i + 1 : Nat) : Int)) := ⟨w64 (by omega) (by omega)⟩
    refine EvP.succ ?_
    simp only [laws_sameTexts.l0]
    refine EvP.yes (by omega) (EvP.yes (by omega) (EvP.yes (by omega) (EvP.yes trivial ?_)))
    rw [e2.out]
    exact ih (i + 1) (by omega)
theorem same_texts (l : List ByteArray) (hl : l.length ≤ 1048576) : EvP (fun k => laws_sameTexts.f k l l) (· = true) := by
  unfold laws_sameTexts.f
  exact EvP.yes rfl (same_texts_loop l hl l.length 0 (by omega))
theorem chg_best {l : List ByteArray} {st : List Int} (hp : ∀ j : Nat, 1 ≤ j → j < l.length → 0 ≤ rd st (j : Int) ∧ rd st (j : Int) < j) : ∀ (d i : Nat), 1 ≤ i → i + d = l.length → chg l (bst l) d i ≤ chg l st d i := by
  intro d
  induction d with
  | zero => intro i _ _; exact Int.le_refl _
  | succ d ih =>
    intro i h1 hi
    have hq := hp i h1 (by omega)
    obtain ⟨s, es⟩ : ∃ s : Nat, rd st (i : Int) = (s : Int) := ⟨(rd st (i : Int)).toNat, by omega⟩
    have := ih (i + 1) (by omega) (by omega)
    have nb := near_best l i (i - 1) 1 0 (by omega) (fun x hx => by obtain rfl : x = 0 := (by omega); exact ⟨Int.le_refl _, fun _ => Nat.le_refl _⟩) s (by omega)
    rw [chg, chg, bst_rd l i h1 (by omega), es]
    have := nb.1
    unfold F at this
    omega
theorem law_changes (l0 : List Int) (_ : (l0.length : Int) ≤ 9223372036854775807) (hw : ∀ x ∈ l0, (Lit.int .u8 x).wf = true) : ∃ k, laws_FnStemChanges.f k l0 = some true := by
  refine EvP.rounds (?_ : EvP (fun k => laws_FnStemChanges.f k l0) (· = true))
  unfold laws_FnStemChanges.f
  refine EvP.ite (fun _ => EvP.ret rfl) (fun h0 => ?_)
  refine EvP.bind (P := fun r => r.1.length ≤ 5 ∧ (∀ t ∈ r.1, t.size ≤ 5) ∧ r.2.length ≤ 5) ?_ (fun r hr => ?_)
  · unfold spec_DrawStemChanges.f
    refine EvP.bind (open_code l0 hw) (fun r hr => ?_)
    refine EvP.bind (drawn_stem hr.1 false r.2 (by omega)) (fun b hb => ?_)
    obtain ⟨b1, b2, b3, b4, b5⟩ := hb
    exact EvP.ret ⟨b1, b2, b3⟩
  obtain ⟨l, st⟩ := r
  obtain ⟨r1, r2, r3⟩ := hr
  dsimp only at r1 r2 r3 ⊢
  have hs' : ∀ t ∈ l, t.size ≤ 9223372036854775806 := fun t ht => Nat.le_trans (r2 t ht) (by omega)
  have hst : st.length ≤ 1048576 := by omega
  refine EvP.bind (impl_chg l st hs' hst) (fun a ha => ?_)
  refine EvP.bind (spec_chg l st hs' hst) (fun b hb => ?_)
  obtain rfl := ha.same hb
  refine EvP.yes rfl ?_
  refine EvP.succ ?_
  simp only [laws_FnStemChanges.j0]
  by_cases C : VS l st ∧ okBooks l = true
  · have ea := ha.1 C
    obtain ⟨V, ok⟩ := C
    obtain ⟨l1, l6, n, n1, n8, hn⟩ := okBooks_ok ok
    have bd := chg_bd l st n (by omega) (fun t ht => (hn t ht).1) (l.length - 1) 1 (by omega) (by omega)
    have eb : bestOf l = (bst l, true) := by unfold bestOf bst; rw [if_pos ok]
    refine EvP.no (by rw [decide_eq_true_iff]; omega) ?_
    refine EvP.bind (impl_best l hs') (fun _ e => ?_)
    subst e
    rw [eb]
    refine EvP.bind (impl_fill l st hs' hst) (fun f hf => ?_)
    rw [hf.1 V, filled_same V ok]
    refine EvP.yes rfl (EvP.yes rfl ?_)
    refine EvP.bind (impl_fewest l st hs' hst) (fun c hc => ?_)
    refine EvP.yes (by rw [hc.1 V, ea, fsum_chg V ok]) ?_
    refine EvP.bind (impl_chg l (bst l) hs' (by rw [bst_len l l1]; omega)) (fun y hy => ?_)
    have ey := hy.1 ⟨bst_vs ok l1, ok⟩
    have cb := chg_best (fun j a b => (stemK V).par j a b) (l.length - 1) 1 (by omega) (by omega)
    refine EvP.yes (by omega) ?_
    exact EvP.bind (same_texts l (by omega)) (fun _ e => EvP.ret e)
  · have ea := ha.2 C
    refine EvP.yes (by rw [decide_eq_true_iff]; omega) (EvP.ret ?_)
    exact beq_self_eq_true _
end Go.Proofs.YtejoneninbdjbaaDoor.Pur
end
section
namespace Go.Proofs.YtejoneninbdjbaaDoor.Head
set_option maxRecDepth 100000
theorem and_t {a b : Bool} (h : a = true) (k : b = true) : (a && b) = true := by rw [h, k]; rfl
theorem mayEnter_of {P : Program} {l : List String} {W rest : List (List Char)} (h : behindMainWord (wordsSigns P.initOrder.toList) = W) (hc : ∃ c r, W = c :: r ∧ (c == "gc".toList || c == "spec".toList) = false ∧ (c == "carried".toList) = false) (hs : stripLifts liftWords W = (l, "cut".toList :: rest))
    (hl : (l.contains "finals" || !P.laysLater) = true) (hb : (l.contains "reflectrows" || !P.bearsReflect) = true) (hr : (l.contains "reflectrows" || !l.contains "leanrows") = true) (hd : P.doorFits l = true) : P.mayEnter = true := by
  obtain ⟨c, r, rfl, h1, h2⟩ := hc
  unfold Program.mayEnter
  rw [h]
  dsimp only
  rw [hs, hl, hb, hr, hd, h1, h2]
  simp
theorem headLifts_of {P : Program} {l : List String} {W rest : List (List Char)} (h : behindMainWord (wordsSigns P.initOrder.toList) = W) (hs : stripLifts liftWords W = (l, "cut".toList :: rest)) : P.headLifts = l := by
  unfold Program.headLifts
  rw [h]
  dsimp only
  rw [hs]
  simp
theorem liftsFinal_of {P : Program} {l : List String} {W rest : List (List Char)} (h : behindMainWord (wordsSigns P.initOrder.toList) = W) (hc : ∃ c r, W = c :: r ∧ (c == "gc".toList || c == "spec".toList) = false ∧ (c == "carried".toList) = false) (hs : stripLifts liftWords W = (l, "cut".toList :: rest)) : P.liftsFinal = l.contains "finals" := by
  unfold Program.liftsFinal
  rw [headLifts_of h hs, h]
  obtain ⟨c, r, rfl, h1, h2⟩ := hc
  have h3 : ((c :: r).head? == some "carried".toList) = false := by
    rw [beq_eq_false_iff_ne] at h2 ⊢
    exact fun e => h2 (Option.some.inj e)
  dsimp only
  rw [h3, Bool.false_and, Bool.false_or]
theorem make_of {P : Program} {rest : List (List Char)} (h : behindMainWord (wordsSigns P.initOrder.toList) = "cut".toList :: rest) : P.make = some .cut := by
  unfold Program.make
  rw [h]
  dsimp only
  rw [if_neg (by decide), if_pos (by simp)]
theorem mainIs_of {P : Program} {s : List Char} {rest : List (List Char)} (h : wordsSigns P.initOrder.toList = "harness".toList :: s :: rest) (hs : isSumSigns s = true) : P.mainIs = some (true, s) := by
  unfold Program.mainIs
  rw [h]
  dsimp only
  rw [hs]
  simp
def io : List Nat := [104, 97, 114, 110, 101, 115, 115, 32, 97, 49, 55, 53, 100, 55, 49, 55, 50, 99, 49, 55, 51, 50, 52, 49, 97, 52, 51, 56, 99, 53, 50, 99, 97, 100, 56, 102, 50, 99, 98, 98, 56, 52, 101, 54, 98, 50, 52, 101, 51, 97, 99, 54, 56, 49, 102, 49, 99, 55, 51, 51, 99, 98, 98, 57, 52, 51, 98, 49, 102, 48, 55, 99, 32, 99, 117, 116, 32, 97, 116, 32, 108, 111, 111, 112, 46, 101, 120, 97, 109, 112, 108, 101, 47, 110, 101, 117, 109, 101, 115, 47, 108, 97, 119, 115, 46, 70, 110, 69, 120, 97, 99, 116, 66, 111, 111, 107, 115, 86, 97, 108, 105, 100, 32, 108, 111, 111, 112, 46, 101, 120, 97, 109, 112, 108, 101, 47, 110, 101, 117, 109, 101, 115, 47, 108, 97, 119, 115, 46, 70, 110, 69, 120, 97, 99, 116, 66, 111, 111, 107, 115, 70, 97, 114, 32, 108, 111, 111, 112, 46, 101, 120, 97, 109, 112, 108, 101, 47, 110, 101, 117, 109, 101, 115, 47, 108, 97, 119, 115, 46, 70, 110, 69, 120, 97, 99, 116, 83, 116, 101, 109, 86, 97, 108, 105, 100, 32, 108, 111, 111, 112, 46, 101, 120, 97, 109, 112, 108, 101, 47, 110, 101, 117, 109, 101, 115, 47, 108, 97, 119, 115, 46, 70, 110, 69, 120, 97, 99, 116, 66, 111, 111, 107, 115, 67, 111, 109, 109, 111, 110, 32, 108, 111, 111, 112, 46, 101, 120, 97, 109, 112, 108, 101, 47, 110, 101, 117, 109, 101, 115, 47, 108, 97, 119, 115, 46, 70, 110, 66, 111, 111, 107, 115, 70, 97, 114, 32, 108, 111, 111, 112, 46, 101, 120, 97, 109, 112, 108, 101, 47, 110, 101, 117, 109, 101, 115, 47, 108, 97, 119, 115, 46, 70, 110, 69, 120, 97, 99, 116, 83, 116, 101, 109, 68, 101, 112, 116, 104, 32, 108, 111, 111, 112, 46, 101, 120, 97, 109, 112, 108, 101, 47, 110, 101, 117, 109, 101, 115, 47, 108, 97, 119, 115, 46, 70, 110, 66, 111, 111, 107, 115, 67, 111, 109, 109, 111, 110, 32, 108, 111, 111, 112, 46, 101, 120, 97, 109, 112, 108, 101, 47, 110, 101, 117, 109, 101, 115, 47, 108, 97, 119, 115, 46, 70, 110, 69, 120, 97, 99, 116, 83, 116, 101, 109, 67, 104, 97, 110, 103, 101, 115, 32, 108, 111, 111, 112, 46, 101, 120, 97, 109, 112, 108, 101, 47, 110, 101, 117, 109, 101, 115, 47, 108, 97, 119, 115, 46, 70, 110, 69, 120, 97, 99, 116, 83, 116, 101, 109, 77, 111, 118, 101, 32, 108, 111, 111, 112, 46, 101, 120, 97, 109, 112, 108, 101, 47, 110, 101, 117, 109, 101, 115, 47, 108, 97, 119, 115, 46, 70, 110, 69, 120, 97, 99, 116, 83, 116, 101, 109, 66, 101, 115, 116, 32, 108, 111, 111, 112, 46, 101, 120, 97, 109, 112, 108, 101, 47, 110, 101, 117, 109, 101, 115, 47, 108, 97, 119, 115, 46, 70, 110, 83, 116, 101, 109, 68, 101, 112, 116, 104, 32, 108, 111, 111, 112, 46, 101, 120, 97, 109, 112, 108, 101, 47, 110, 101, 117, 109, 101, 115, 47, 108, 97, 119, 115, 46, 70, 110, 83, 116, 101, 109, 66, 101, 115, 116, 32, 108, 111, 111, 112, 46, 101, 120, 97, 109, 112, 108, 101, 47, 110, 101, 117, 109, 101, 115, 47, 108, 97, 119, 115, 46, 70, 110, 69, 120, 97, 99, 116, 83, 116, 101, 109, 70, 101, 119, 101, 115, 116, 32, 108, 111, 111, 112, 46, 101, 120, 97, 109, 112, 108, 101, 47, 110, 101, 117, 109, 101, 115, 47, 108, 97, 119, 115, 46, 70, 110, 83, 116, 101, 109, 70, 101, 119, 101, 115, 116, 32, 108, 111, 111, 112, 46, 101, 120, 97, 109, 112, 108, 101, 47, 110, 101, 117, 109, 101, 115, 47, 108, 97, 119, 115, 46, 70, 110, 69, 120, 97, 99, 116, 83, 116, 101, 109, 70, 105, 108, 108, 32, 108, 111, 111, 112, 46, 101, 120, 97, 109, 112, 108, 101, 47, 110, 101, 117, 109, 101, 115, 47, 108, 97, 119, 115, 46, 70, 110, 83, 116, 101, 109, 77, 111, 118, 101, 32, 108, 111, 111, 112, 46, 101, 120, 97, 109, 112, 108, 101, 47, 110, 101, 117, 109, 101, 115, 47, 108, 97, 119, 115, 46, 70, 110, 83, 116, 101, 109, 76, 111, 115, 116, 32, 108, 111, 111, 112, 46, 101, 120, 97, 109, 112, 108, 101, 47, 110, 101, 117, 109, 101, 115, 47, 108, 97, 119, 115, 46, 70, 110, 83, 116, 101, 109, 67, 104, 97, 110, 103, 101, 115]
def ws : List (List Nat) := [[104, 97, 114, 110, 101, 115, 115], [97, 49, 55, 53, 100, 55, 49, 55, 50, 99, 49, 55, 51, 50, 52, 49, 97, 52, 51, 56, 99, 53, 50, 99, 97, 100, 56, 102, 50, 99, 98, 98, 56, 52, 101, 54, 98, 50, 52, 101, 51, 97, 99, 54, 56, 49, 102, 49, 99, 55, 51, 51, 99, 98, 98, 57, 52, 51, 98, 49, 102, 48, 55, 99], [99, 117, 116], [97, 116], [108, 111, 111, 112, 46, 101, 120, 97, 109, 112, 108, 101, 47, 110, 101, 117, 109, 101, 115, 47, 108, 97, 119, 115, 46, 70, 110, 69, 120, 97, 99, 116, 66, 111, 111, 107, 115, 86, 97, 108, 105, 100], [108, 111, 111, 112, 46, 101, 120, 97, 109, 112, 108, 101, 47, 110, 101, 117, 109, 101, 115, 47, 108, 97, 119, 115, 46, 70, 110, 69, 120, 97, 99, 116, 66, 111, 111, 107, 115, 70, 97, 114], [108, 111, 111, 112, 46, 101, 120, 97, 109, 112, 108, 101, 47, 110, 101, 117, 109, 101, 115, 47, 108, 97, 119, 115, 46, 70, 110, 69, 120, 97, 99, 116, 83, 116, 101, 109, 86, 97, 108, 105, 100], [108, 111, 111, 112, 46, 101, 120, 97, 109, 112, 108, 101, 47, 110, 101, 117, 109, 101, 115, 47, 108, 97, 119, 115, 46, 70, 110, 69, 120, 97, 99, 116, 66, 111, 111, 107, 115, 67, 111, 109, 109, 111, 110], [108, 111, 111, 112, 46, 101, 120, 97, 109, 112, 108, 101, 47, 110, 101, 117, 109, 101, 115, 47, 108, 97, 119, 115, 46, 70, 110, 66, 111, 111, 107, 115, 70, 97, 114], [108, 111, 111, 112, 46, 101, 120, 97, 109, 112, 108, 101, 47, 110, 101, 117, 109, 101, 115, 47, 108, 97, 119, 115, 46, 70, 110, 69, 120, 97, 99, 116, 83, 116, 101, 109, 68, 101, 112, 116, 104], [108, 111, 111, 112, 46, 101, 120, 97, 109, 112, 108, 101, 47, 110, 101, 117, 109, 101, 115, 47, 108, 97, 119, 115, 46, 70, 110, 66, 111, 111, 107, 115, 67, 111, 109, 109, 111, 110], [108, 111, 111, 112, 46, 101, 120, 97, 109, 112, 108, 101, 47, 110, 101, 117, 109, 101, 115, 47, 108, 97, 119, 115, 46, 70, 110, 69, 120, 97, 99, 116, 83, 116, 101, 109, 67, 104, 97, 110, 103, 101, 115], [108, 111, 111, 112, 46, 101, 120, 97, 109, 112, 108, 101, 47, 110, 101, 117, 109, 101, 115, 47, 108, 97, 119, 115, 46, 70, 110, 69, 120, 97, 99, 116, 83, 116, 101, 109, 77, 111, 118, 101], [108, 111, 111, 112, 46, 101, 120, 97, 109, 112, 108, 101, 47, 110, 101, 117, 109, 101, 115, 47, 108, 97, 119, 115, 46, 70, 110, 69, 120, 97, 99, 116, 83, 116, 101, 109, 66, 101, 115, 116], [108, 111, 111, 112, 46, 101, 120, 97, 109, 112, 108, 101, 47, 110, 101, 117, 109, 101, 115, 47, 108, 97, 119, 115, 46, 70, 110, 83, 116, 101, 109, 68, 101, 112, 116, 104], [108, 111, 111, 112, 46, 101, 120, 97, 109, 112, 108, 101, 47, 110, 101, 117, 109, 101, 115, 47, 108, 97, 119, 115, 46, 70, 110, 83, 116, 101, 109, 66, 101, 115, 116], [108, 111, 111, 112, 46, 101, 120, 97, 109, 112, 108, 101, 47, 110, 101, 117, 109, 101, 115, 47, 108, 97, 119, 115, 46, 70, 110, 69, 120, 97, 99, 116, 83, 116, 101, 109, 70, 101, 119, 101, 115, 116], [108, 111, 111, 112, 46, 101, 120, 97, 109, 112, 108, 101, 47, 110, 101, 117, 109, 101, 115, 47, 108, 97, 119, 115, 46, 70, 110, 83, 116, 101, 109, 70, 101, 119, 101, 115, 116], [108, 111, 111, 112, 46, 101, 120, 97, 109, 112, 108, 101, 47, 110, 101, 117, 109, 101, 115, 47, 108, 97, 119, 115, 46, 70, 110, 69, 120, 97, 99, 116, 83, 116, 101, 109, 70, 105, 108, 108], [108, 111, 111, 112, 46, 101, 120, 97, 109, 112, 108, 101, 47, 110, 101, 117, 109, 101, 115, 47, 108, 97, 119, 115, 46, 70, 110, 83, 116, 101, 109, 77, 111, 118, 101], [108, 111, 111, 112, 46, 101, 120, 97, 109, 112, 108, 101, 47, 110, 101, 117, 109, 101, 115, 47, 108, 97, 119, 115, 46, 70, 110, 83, 116, 101, 109, 76, 111, 115, 116], [108, 111, 111, 112, 46, 101, 120, 97, 109, 112, 108, 101, 47, 110, 101, 117, 109, 101, 115, 47, 108, 97, 119, 115, 46, 70, 110, 83, 116, 101, 109, 67, 104, 97, 110, 103, 101, 115]]
def ch (w : List Nat) : List Char := w.map Char.ofNat
theorem io_is : Tryd.prog.initOrder = String.ofList (ch io) := by kernel_rfl
theorem io_ws : wordsSigns (ch io) = ws.map ch := by kernel_rfl
theorem io_all : wordsSigns Tryd.prog.initOrder.toList = ws.map ch := by rw [io_is, String.toList_ofList, io_ws]
theorem be : behindMainWord (ws.map ch) = (ws.drop 2).map ch := by kernel_rfl
theorem io_be : behindMainWord (wordsSigns Tryd.prog.initOrder.toList) = (ws.drop 2).map ch := by rw [io_all, be]
theorem first : ∃ c r, (ws.drop 2).map ch = c :: r ∧ (c == "gc".toList || c == "spec".toList) = false ∧ (c == "carried".toList) = false := ⟨ch (ws.getD 2 []), (ws.drop 3).map ch, by kernel_rfl, by kernel_rfl, by kernel_rfl⟩
theorem st : stripLifts liftWords ((ws.drop 2).map ch) = ([], "cut".toList :: ((ws.drop 3).map ch)) := by kernel_rfl
theorem ll : ([].contains "finals" || !Tryd.prog.laysLater) = true := by kernel_rfl
theorem br : ([].contains "reflectrows" || !Tryd.prog.bearsReflect) = true := by kernel_rfl
theorem rr : ([].contains "reflectrows" || ![].contains "leanrows") = true := by kernel_rfl
theorem df : Tryd.prog.doorFits [] = true := by kernel_rfl
theorem mayE : Tryd.prog.mayEnter = true := mayEnter_of io_be first st ll br rr df
theorem finE : Tryd.prog.liftsFinal = [].contains "finals" := liftsFinal_of io_be first st
theorem mainE : Tryd.prog.mainIs = some (true, ch [97, 49, 55, 53, 100, 55, 49, 55, 50, 99, 49, 55, 51, 50, 52, 49, 97, 52, 51, 56, 99, 53, 50, 99, 97, 100, 56, 102, 50, 99, 98, 98, 56, 52, 101, 54, 98, 50, 52, 101, 51, 97, 99, 54, 56, 49, 102, 49, 99, 55, 51, 51, 99, 98, 98, 57, 52, 51, 98, 49, 102, 48, 55, 99]) := mainIs_of (rest := (ws.drop 2).map ch) (io_all.trans (by kernel_rfl)) (by kernel_rfl)
theorem makeE : Tryd.prog.make = some .cut := make_of (io_be.trans (by kernel_rfl : (ws.drop 2).map ch = "cut".toList :: ((ws.drop 3).map ch)))
end Go.Proofs.YtejoneninbdjbaaDoor.Head
end
section
namespace Go.Proofs.YtejoneninbdjbaaDoor.Pur
open Go.RowKit Go.ChangeShapes Go.Deep Go.Proofs.YtejoneninbdjbaaDoorW.PrintWords Go.Proofs.YtejoneninbdjbaaDoor.E
theorem open_rowP {P : Program} {H : Type} {enc : TypeId × Value → H} {W : World} {α : Type} [Inhabited α] {d : Kd α} {p : α → Prop} {t e : TypeId} {fuel : Nat} {cs : List Value} {x : DataW H × List MemPlace} (ht : P.underlying t = some (.slice e)) (hc : P.cellsOf e = d.sz)
    (o : ∀ (fuel : Nat) (cs : List Value) (x : DataW H × List MemPlace), DataW.trod enc P W 0 (fun _ => true) true fuel e cs = some x → ∃ y, d.K W y cs ∧ p y)
    (h : DataW.trod enc P W 0 (fun _ => true) true fuel t cs = some x) : ∃ (A : Option Addr) (c : Nat) (l : List α), cs = [.slice A l.length c] ∧ l.length ≤ c ∧ (l.length : Int) ≤ 9223372036854775807 ∧ d.C W A l.length l ∧ ∀ y ∈ l, p y := by
  rcases open_slice ht h with ⟨rfl, _⟩ | ⟨a, len, cap, m, n, D, Pl, rfl, _, hl, hm, hmm, _, hx⟩
  · exact ⟨none, 0, [], rfl, Nat.le_refl _, by simp, ⟨rfl, by simp, fun h => absurd h (by simp)⟩, fun y hy => by cases hy⟩
  · have hlm : len ≤ m := by rw [hmm]; simp; omega
    unfold maxLen at hm
    obtain ⟨Y, hY⟩ := choose_lt (α := α) (n := len) (p := fun i y => ∃ cs', W.cells? 0 (a.add (i * P.cellsOf e)) (P.cellsOf e) = some cs' ∧ d.K W y cs' ∧ p y) (fun i hi => by
      obtain ⟨cs', h1, h2⟩ := hx i (by omega)
      obtain ⟨y, hy, hp⟩ := o _ _ _ h2
      exact ⟨y, cs', h1, hy, hp⟩)
    have hlen : ((List.range len).map Y).length = len := by simp
    refine ⟨some a, cap, (List.range len).map Y, by rw [hlen], by rw [hlen]; exact hl, by rw [hlen]; omega, ⟨rfl, by rw [hlen]; omega, fun _ => ⟨a, rfl, fun j q hj => ?_⟩⟩, fun y hy => ?_⟩
    · obtain ⟨hj1, hj2⟩ := List.getElem?_eq_some_iff.1 hj
      rw [hlen] at hj1
      simp only [List.getElem_map, List.getElem_range] at hj2
      subst hj2
      obtain ⟨cs', h1, h2, _⟩ := hY j hj1
      obtain ⟨_, g1, g2⟩ := World.cells?_some h1
      refine ⟨cs', by rw [g1, hc], h2, fun i u hu => ?_⟩
      have := g2 i (by rw [← g1]; exact (List.getElem?_eq_some_iff.1 hu).1)
      rw [Go.Deep.add_add, hc, hu] at this
      exact this
    · obtain ⟨j, hj, rfl⟩ := List.mem_map.mp hy
      obtain ⟨_, _, _, hp⟩ := hY j (List.mem_range.mp hj)
      exact hp
theorem open_intsR {P : Program} {H : Type} {enc : TypeId × Value → H} {W : World} {k : IntKind} {t e : TypeId} {fuel : Nat} {cs : List Value} {x : DataW H × List MemPlace} (ht : P.underlying t = some (.slice e)) (he : P.underlying e = some (.int k)) (hc : P.cellsOf e = 1) (h : DataW.trod enc P W 0 (fun _ => true) true fuel t cs = some x) :
    ∃ (A : Option Addr) (c : Nat) (l : List Int), cs = [.slice A l.length c] ∧ l.length ≤ c ∧ (l.length : Int) ≤ 9223372036854775807 ∧ (Kd.int k).C W A l.length l ∧ ∀ y ∈ l, (Lit.int k y).wf = true :=
  open_rowP ht hc (fun fuel cs x h => by
    obtain ⟨s, rfl, _, hs⟩ := DataW.trod_int he h
    exact ⟨s, rfl, hs⟩) h
end Go.Proofs.YtejoneninbdjbaaDoor.Pur
end
section
namespace Go.Proofs.YtejoneninbdjbaaDoor.fnStemChanges
open Go.ChangeShapes Go.WideShapes Go.ChangeAt Go.RowKit
open Go.ChangeMaps (open_string shut_string)
set_option linter.unusedVariables false
theorem own : ownKnob Tryd.prog.godebug = none := by kernel_rfl
theorem laidOut : laidOutB Tryd.prog = true := by kernel_rfl
set_option maxRecDepth 100000 in
theorem lifted (os : Os) (started : os.Started) (H : Type) (enc : TypeId × Value → H) :
    ReturnsInHanded {} Tryd.checked os 20 .any (fun w args => (Rows.fnStemChangesSpec.pre enc Tryd.prog Tryd.f20 Rows.fnStemChangesRow.domain false w args ∧ laidMetH Tryd.prog Rows.fnStemChangesRow.laid w) ∧ sizedMet enc Tryd.prog Tryd.f20 (OpenSpec.ofChange Rows.fnStemChangesSpec) false w args) (Rows.fnStemChangesSpec.post enc Tryd.prog Tryd.f20 false true false false) := by
  refine returnsInHanded_of_change_and (C := Tryd.checked) (X := fun w _ => laidMetH Tryd.prog Rows.fnStemChangesRow.laid w) (fun _ _ _ hh h => h.of_heap hh) own started (by kernel_rfl) Tryd.func20
    (ChangeSpec.witness_shaped (enc := enc) (C := Tryd.checked) (os := os) (X := fun w _ => laidMetH Tryd.prog Rows.fnStemChangesRow.laid w) false (World.laidAll Tryd.prog os Rows.fnStemChangesRow.laid) #[.slice none 0 0] 8 (World.laidAll_os _ _ _) (World.shaped_of_ZipB (by kernel_rfl) (by kernel_rfl)) (by kernel_rfl) (by kernel_rfl) (by kernel_rfl) (by rw [MakeChecks.laidMetH_plain _ _ _ (by kernel_rfl)]; exact laidMet_laidAll _ (by kernel_rfl) (by kernel_rfl))) ?_
  intro W base args ds gs before hval0 hW hcnd hsz0 hL _
  have hsz : (DataW.weightsEach Tryd.prog (Tryd.f20.params.toList ++ Rows.fnStemChangesSpec.plain.varTypes Tryd.prog) (ds ++ gs)).all (· ≤ reachBytes) = true := hsz0
  have hval : ∀ (j : Nat) t v, Tryd.f20.params[j]? = some t → args[j]? = some v → Value.okWide Tryd.prog W .any base t v := hval0
  have hW' := hW
  obtain ⟨p, q, hA0, hV, rfl, hfz, hnd⟩ := hW
  have hA : DataW.TrodAll enc Tryd.prog W 0 (fun _ => true) true Tryd.f20.params.toList args.toList ds p := hA0
  rw [Tryd.params20] at hA hval hsz
  obtain ⟨v0, vs0, d0, ds0, p0, q0, hargs, rfl, rfl, h0, r0⟩ := trodAll_cons hA
  obtain ⟨rfl, rfl, rfl⟩ := trodAll_nil r0
  obtain rfl : args = #[v0] := by cases args; simp_all
  obtain ⟨rfl, rfl⟩ := trodVars_none hV
  have k0 := h0
  have lt0 : ∀ x ∈ p0, x.block < W.heap.size := by obtain ⟨m, hm⟩ := k0; exact DataW.trod_lt m _ _ _ hm
  obtain ⟨a0, len0, cap0, rfl⟩ := okWide_slice Tryd.underlying35 (hval 0 35 v0 rfl rfl)
  obtain ⟨fuel0, hf0⟩ := h0
  obtain ⟨A0, c0, l0, hcs0, hle0, hm0, hC0, hx0⟩ := Pur.open_intsR Tryd.underlying35 Tryd.underlying5 (by kernel_rfl) hf0
  simp [Value.cells] at hcs0
  obtain ⟨rfl, rfl, rfl⟩ := hcs0
  clear hA0 hval0 hsz0 hsz
  obtain ⟨k, hk⟩ := Pur.law_changes l0 hm0 hx0
  refine (E.laws_FnStemChanges.calls k _ _ l0 true W hC0 hle0 hk).mono fun e W' ⟨he, bel⟩ => ?_
  subst he
  exact ⟨_, rfl, _, _, _, [], _, [], hW', trodAll_mk1 (shut_bool Tryd.underlying4 _), (trodAll_cons_mk (Below.trod laidOut (by kernel_rfl) (of_decide_eq_true (by kernel_rfl)) k0 bel lt0) trodAll_mk0), rfl, bel.frame _, fun h => by cases h⟩
set_option maxRecDepth 100000 in
theorem closed : joinedFacts Tryd.prog 20 Tryd.f20 Rows.fnStemChangesSpec Rows.fnStemChangesRow = true := by
  have hf : (Rows.fnStemChangesRow.lifted == Tryd.prog.liftsFinal) = true := by rw [Head.finE]; kernel_rfl
  have hm : (Tryd.prog.make == some Rows.fnStemChangesRow.make) = true := by rw [Head.makeE]; kernel_rfl
  unfold joinedFacts
  repeat' (with_reducible refine Head.and_t ?_ ?_)
  all_goals first | with_reducible exact Head.mayE | with_reducible exact hf | with_reducible exact hm | (as_aux_lemma => kernel_rfl)
theorem over : Rows.fnStemChangesRow.holds Tryd.pinned (OpenSpec.ofChange Rows.fnStemChangesSpec) :=
  OpenClaim.holds_of_wide 20 Tryd.f20 rfl rfl rfl rfl rfl rfl rfl ⟨rfl, rfl, rfl, rfl, rfl⟩ rfl rfl rfl rfl rfl (by kernel_rfl) Tryd.func20 closed
    (of_decide_eq_true (by kernel_rfl)) (by unfold Func.isWrapper; first | (rw [if_pos (by decide +kernel)]; kernel_rfl) | (rw [if_neg (by decide +kernel)]; exact ⟨rfl, rfl⟩))
    (fun os started H enc _ => lifted os started H enc)
theorem card_ : Rows.FnStemChangesCardSaid :=
  Claim7.holds_tied_plain_at .later [] [.data, .pinned] true (true, "a175d7172c173241a438c52cad8f2cbb84e6b24e3ac681f1c733cbb943b1f07c") false
    over (fun _ h => by cases h) (by as_aux_lemma => kernel_rfl) (fun _ h => by cases h) fnStemChanges_row_tie rfl ⟨rfl, rfl⟩ (Head.mainE.trans (by as_aux_lemma => kernel_rfl)) rfl
    (fun f fn hf hfn => by
      obtain rfl : f = 20 := Option.some.inj ((show Tryd.prog.funcNamed "loop.example/neumes/laws.FnStemChanges" = some 20 by kernel_rfl).symm.trans hf) |>.symm
      obtain rfl : fn = Tryd.f20 := (Option.some.inj (Tryd.func20.symm.trans hfn)).symm
      exact ⟨by kernel_rfl, fun j t ht => by
        rw [Tryd.params20] at ht
        have hm : t ∈ [35] := by simpa using Array.mem_of_getElem? ht
        have hall : ([35].all fun u => !Tryd.prog.wantsStandIn u) = true := by kernel_rfl
        exact (show Tryd.prog.wantsStandIn t = false by simpa using List.all_eq_true.1 hall t hm)⟩)
    (by kernel_rfl)
theorem proved : Rows.FnStemChangesCardSaid := card_
#print axioms proved
end Go.Proofs.YtejoneninbdjbaaDoor.fnStemChanges
namespace Go.Proofs.YtejoneninbdjbaaDoor
theorem fnStemChanges_holds : Rows.FnStemChangesCardSaid := fnStemChanges.proved
end Go.Proofs.YtejoneninbdjbaaDoor
end
