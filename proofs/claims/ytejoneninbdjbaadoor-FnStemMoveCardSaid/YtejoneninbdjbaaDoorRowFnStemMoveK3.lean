/- Proved: for all arguments the given program's laws.FnStemMove returns true, and its arguments read afterwards as they read before (the given constant Rows.FnStemMoveCardSaid).
Conditions: none ahead of the given statement; the statement itself begins in a world whose listed package-level variables hold what the program's text lays there, and its card ties them to that text. -/
import Derived.Test.YtejoneninbdjbaaDoorRowFnStemMoveK2
section
namespace Go.Proofs.YtejoneninbdjbaaDoor.E
open Go.RowKit Go.Proofs.YtejoneninbdjbaaDoorW.PrintWords Go.Proofs.YtejoneninbdjbaaDoorW.PrintLast Go.Proofs.YtejoneninbdjbaaDoorW.PrintMore
attribute [local go_sem] max2_int min2_int max_two min_two max_three min_three max_four min_four
set_option linter.unusedVariables false
set_option linter.unusedSimpArgs false
attribute [local go_sem] str_leq_ str_gtr_ str_geq_
def laws_markIntS.l0 : Nat → List Int → Int → Int → Option (Int × List Int)
 | 0, _, _, _ => none
 | k + 1, x0, x1, x5 => if x5 < (x0.length : Int) then (if 0 ≤ x5 then (laws_markIntS.l0 k (x0.set (x5 : Int).toNat x1) (wrap64 (x1 + 1)) (wrap64 (x5 + 1))) else (none)) else (some (x1, x0))
def laws_markIntS.f (k : Nat) (l0 : List Int) (a1 : Int) : Option (Int × List Int) := laws_markIntS.l0 k l0 a1 0
end Go.Proofs.YtejoneninbdjbaaDoor.E
end
section
namespace Go.Proofs.YtejoneninbdjbaaDoor.E
open Go.RowKit Go.Proofs.YtejoneninbdjbaaDoorW.PrintWords Go.Proofs.YtejoneninbdjbaaDoorW.PrintLast Go.Proofs.YtejoneninbdjbaaDoorW.PrintMore
attribute [local go_sem] max2_int min2_int max_two min_two max_three min_three max_four min_four
set_option linter.unusedVariables false
set_option linter.unusedSimpArgs false
attribute [local go_sem] str_leq_ str_gtr_ str_geq_
def laws_heldIntS.l0 : Nat → List Int → Int → Int → Option (Int)
 | 0, _, _, _ => none
 | k + 1, x0, x1, x5 => if x5 < (x0.length : Int) then (if 0 ≤ x5 then (if (rd x0 x5) = x1 then (laws_heldIntS.l0 k x0 (wrap64 (x1 + 1)) (wrap64 (x5 + 1))) else (some (-1))) else (none)) else (some x1)
def laws_heldIntS.f (k : Nat) (l0 : List Int) (a1 : Int) : Option (Int) := laws_heldIntS.l0 k l0 a1 0
end Go.Proofs.YtejoneninbdjbaaDoor.E
end
section
namespace Go.Proofs.YtejoneninbdjbaaDoor.Pur
open Go.RowKit Go.Proofs.YtejoneninbdjbaaDoorW.PrintWords Go.Proofs.YtejoneninbdjbaaDoorW.PrintMore Go.Proofs.YtejoneninbdjbaaDoor.E
theorem rdI_at {l : List Int} {i : Nat} (h : i < l.length) : rd l (i : Int) = l[i] := by
  unfold rd
  rw [toNat_nat, List.getD_eq_getElem?_getD, List.getElem?_eq_getElem h]
  rfl
end Go.Proofs.YtejoneninbdjbaaDoor.Pur
end
section
namespace Go.Proofs.YtejoneninbdjbaaDoor.Pur
open Go.RowKit Go.Proofs.YtejoneninbdjbaaDoorW.PrintWords Go.Proofs.YtejoneninbdjbaaDoorW.PrintMore Go.Proofs.YtejoneninbdjbaaDoor.E
def VS (l : List ByteArray) (st : List Int) : Prop := (booksOf l).2 = true ∧ (booksOf l).1 ≠ l.length ∧ st.length = l.length ∧ rd st 0 = -1 ∧ ∀ j : Nat, 1 ≤ j → j < st.length → 0 ≤ rd st (j : Int) ∧ rd st (j : Int) < j
theorem spec_stem_loop (st : List Int) (hl : st.length ≤ 1048576) : ∀ (d i : Nat), 1 ≤ i → i + d = st.length → EvP (fun k => spec_StemValid.l0 k st (i : Int)) (fun r => r = true ↔ ∀ j : Nat, i ≤ j → j < st.length → 0 ≤ rd st (j : Int) ∧ rd st (j : Int) < j) := by
  intro d
  induction d with
  | zero =>
    intro i h1 hi
    refine EvP.succ ?_
    simp only [spec_StemValid.l0]
    exact EvP.no (by omega) (EvP.ret ⟨fun _ j h h' => by omega, fun _ => rfl⟩)
  | succ d ih =>
    intro i h1 hi
    have e1 : Hd (wrap64 ((i : Int) - 1) = (i : Int) - 1) := ⟨w64 (by omega) (by omega)⟩
    have e2 : Hd (wrap64 ((i : Int) + 1) = ((i + 1 : Nat) : Int)) := ⟨w64 (by omega) (by omega)⟩
    refine EvP.succ ?_
    simp only [spec_StemValid.l0]
    refine EvP.yes (by omega) (EvP.yes (by omega) ?_)
    rw [e1.out, e2.out]
    refine EvP.bind (P := (· = decide (0 ≤ rd st (i : Int) ∧ rd st (i : Int) < i))) ?_ (fun _ e => ?_)
    · unfold spec_l6In.f
      by_cases h : rd st (i : Int) ≥ 0
      · rw [if_pos h]; exact EvP.ret (decide_eq_decide.mpr (by omega))
      · rw [if_neg h]; exact EvP.ret (decide_eq_false (by omega)).symm
    subst e
    refine EvP.ite (fun h => ?_) (fun h => EvP.ret ⟨fun h' => Bool.noConfusion h', fun h' => absurd (decide_eq_true (h' i (Nat.le_refl _) (by omega))) h⟩)
    have h := of_decide_eq_true h
    refine (ih (i + 1) (by omega) (by omega)).mono (fun r hr => hr.trans ⟨fun g j hj hj' => ?_, fun g j hj hj' => g j (by omega) hj'⟩)
    by_cases e : j = i
    · subst e; exact h
    · exact g j (by omega) hj'
theorem impl_stem_loop (st : List Int) (hl : st.length ≤ 1048576) : ∀ (d i : Nat), i + d = (st.drop 1).length → EvP (fun k => impl_StemValid.l0 k (st.drop 1) ((st.drop 1).length : Int) (i : Int)) (fun r => r = true ↔ ∀ j : Nat, i + 1 ≤ j → j < st.length → 0 ≤ rd st (j : Int) ∧ rd st (j : Int) < j) := by
  have ld : (st.drop 1).length = st.length - 1 := List.length_drop
  intro d
  induction d with
  | zero =>
    intro i hi
    refine EvP.succ ?_
    simp only [impl_StemValid.l0]
    exact EvP.no (by omega) (EvP.ret ⟨fun _ j h h' => by omega, fun _ => rfl⟩)
  | succ d ih =>
    intro i hi
    have e2 : Hd (wrap64 ((i : Int) + 1) = ((i + 1 : Nat) : Int)) := ⟨w64 (by omega) (by omega)⟩
    have er : rd (st.drop 1) (i : Int) = rd st ((i + 1 : Nat) : Int) := by
      unfold rd
      rw [toNat_nat, toNat_nat, List.getD_eq_getElem?_getD, List.getD_eq_getElem?_getD, List.getElem?_drop, Nat.add_comm]
    refine EvP.succ ?_
    simp only [impl_StemValid.l0]
    refine EvP.yes (by omega) (EvP.yes (by omega) (EvP.yes (by omega) ?_))
    rw [er, e2.out]
    refine EvP.ite (fun h => EvP.ret ⟨fun h' => Bool.noConfusion h', fun h' => by have := h' (i + 1) (Nat.le_refl _) (by omega); omega⟩) (fun h => ?_)
    refine EvP.ite (fun h' => EvP.ret ⟨fun h' => Bool.noConfusion h', fun h' => by have := h' (i + 1) (Nat.le_refl _) (by omega); omega⟩) (fun h' => ?_)
    refine (ih (i + 1) (by omega)).mono (fun r hr => hr.trans ⟨fun g j hj hj' => ?_, fun g j hj hj' => g j (by omega) hj'⟩)
    by_cases e : j = i + 1
    · subst e; omega
    · exact g j (by omega) hj'
theorem bne_iff {a b : Int} : (a != b) = true ↔ a ≠ b := by simp
theorem spec_stem (l : List ByteArray) (st : List Int) (hs : ∀ t ∈ l, t.size ≤ 9223372036854775806) (hl : st.length ≤ 1048576) : EvP (fun k => spec_StemValid.f k l st) (fun r => r = true ↔ VS l st) := by
  unfold spec_StemValid.f
  have bad : ¬ VS l st → EvP (fun k => spec_StemValid.j0 k st true) (fun r => r = true ↔ VS l st) := by
    intro h
    refine EvP.succ ?_
    simp only [spec_StemValid.j0]
    exact EvP.yes trivial (EvP.ret ⟨fun h' => Bool.noConfusion h', fun h' => absurd h' h⟩)
  refine EvP.bind (spec_books l hs) (fun _ e => ?_)
  subst e
  refine EvP.ite (fun h1 => EvP.ite (fun h2 => bad (fun h => h.2.1 h2)) (fun h2 => EvP.ite (fun h3 => ?_) (fun h3 => bad (fun h => h3 (by rw [h.2.2.1]))))) (fun h1 => bad (fun h => h1 h.1))
  have hb := books_ok h1
  refine EvP.yes (by omega) ?_
  by_cases h4 : rd st 0 = -1
  · rw [show (rd st 0 != -1) = false by rw [h4]; rfl]
    refine EvP.succ ?_
    simp only [spec_StemValid.j0]
    refine EvP.no (by decide) ?_
    refine (spec_stem_loop st hl (st.length - 1) 1 (by omega) (by omega)).mono (fun r hr => hr.trans ⟨fun g => ⟨h1, h2, by omega, h4, g⟩, fun g => g.2.2.2.2⟩)
  · rw [show (rd st 0 != -1) = true from bne_iff.mpr h4]
    exact bad (fun h => h4 h.2.2.2.1)
theorem impl_stem (l : List ByteArray) (st : List Int) (hs : ∀ t ∈ l, t.size ≤ 9223372036854775806) (hl : st.length ≤ 1048576) : EvP (fun k => impl_StemValid.f k l st) (fun r => r = true ↔ VS l st) := by
  unfold impl_StemValid.f
  have bad : ¬ VS l st → EvP (fun k => impl_StemValid.j0 k st true) (fun r => r = true ↔ VS l st) := by
    intro h
    refine EvP.succ ?_
    simp only [impl_StemValid.j0]
    exact EvP.yes trivial (EvP.ret ⟨fun h' => Bool.noConfusion h', fun h' => absurd h' h⟩)
  refine EvP.bind (impl_books l hs) (fun _ e => ?_)
  subst e
  refine EvP.ite (fun h1 => EvP.ite (fun h2 => bad (fun h => h.2.1 h2)) (fun h2 => EvP.ite (fun h3 => ?_) (fun h3 => bad (fun h => h3 (by rw [h.2.2.1]))))) (fun h1 => bad (fun h => h1 h.1))
  have hb := books_ok h1
  refine EvP.yes (by omega) ?_
  by_cases h4 : rd st 0 = -1
  · rw [show (rd st 0 != -1) = false by rw [h4]; rfl]
    refine EvP.succ ?_
    simp only [impl_StemValid.j0]
    refine EvP.no (by decide) (EvP.yes (by omega) ?_)
    refine (impl_stem_loop st hl (st.drop 1).length 0 (by omega)).mono (fun r hr => hr.trans ⟨fun g => ⟨h1, h2, by omega, h4, g⟩, fun g => g.2.2.2.2⟩)
  · rw [show (rd st 0 != -1) = true from bne_iff.mpr h4]
    exact bad (fun h => h4 h.2.2.2.1)
end Go.Proofs.YtejoneninbdjbaaDoor.Pur
end
section
namespace Go.Proofs.YtejoneninbdjbaaDoor.E
open Go.RowKit Go.Proofs.YtejoneninbdjbaaDoorW.PrintWords Go.Proofs.YtejoneninbdjbaaDoorW.PrintLast Go.Proofs.YtejoneninbdjbaaDoorW.PrintMore
attribute [local go_sem] max2_int min2_int max_two min_two max_three min_three max_four min_four
set_option linter.unusedVariables false
set_option linter.unusedSimpArgs false
attribute [local go_sem] str_leq_ str_gtr_ str_geq_
mutual
def spec_StemChanges.j0 : Nat → List ByteArray → List Int → Bool → Option (Int)
 | 0, _, _, _ => none
 | k + 1, x0, x1, x15 => if x15 = true then (some (-1)) else (spec_StemChanges.l0 k x0 x1 0 1)
def spec_StemChanges.l0 : Nat → List ByteArray → List Int → Int → Int → Option (Int)
 | 0, _, _, _, _ => none
 | k + 1, x0, x1, x5, x6 => if x6 < (x1.length : Int) then (if 0 ≤ x6 then (if x6 < (x0.length : Int) then (if 0 ≤ (rd x1 x6) then (if (rd x1 x6) < (x0.length : Int) then ((spec_l7Far.f k (rdOf ByteArray.empty x0 x6) (rdOf ByteArray.empty x0 (rd x1 x6))).bind fun t362 => (spec_StemChanges.l0 k x0 x1 (wrap64 (x5 + t362)) (wrap64 (x6 + 1)))) else (none)) else (none)) else (none)) else (none)) else (some x5)
end
def spec_StemChanges.f (k : Nat) (l0 : List ByteArray) (l1 : List Int) : Option (Int) := (spec_StemValid.f k l0 l1).bind fun t357 => (if t357 = true then ((spec_BooksValid.f k l0).bind fun t358 => (spec_StemChanges.j0 k l0 l1 (!t358))) else (spec_StemChanges.j0 k l0 l1 true))
end Go.Proofs.YtejoneninbdjbaaDoor.E
end
section
namespace Go.Proofs.YtejoneninbdjbaaDoor.E
open Go.RowKit Go.Proofs.YtejoneninbdjbaaDoorW.PrintWords Go.Proofs.YtejoneninbdjbaaDoorW.PrintLast Go.Proofs.YtejoneninbdjbaaDoorW.PrintMore
attribute [local go_sem] max2_int min2_int max_two min_two max_three min_three max_four min_four
set_option linter.unusedVariables false
set_option linter.unusedSimpArgs false
attribute [local go_sem] str_leq_ str_gtr_ str_geq_
def impl_StemChanges.f (k : Nat) (l0 : List ByteArray) (l1 : List Int) : Option (Int) := (impl_StemValid.f k l0 l1).bind fun t367 => (if t367 = true then ((impl_BooksValid.f k l0).bind fun t368 => (if t368 = true then ((impl_changesOf.f k l0 l1).bind fun t369 => (some t369)) else (some (-1)))) else (some (-1)))
end Go.Proofs.YtejoneninbdjbaaDoor.E
end
section
namespace Go.Proofs.YtejoneninbdjbaaDoor.E
open Go.RowKit Go.Proofs.YtejoneninbdjbaaDoorW.PrintWords Go.Proofs.YtejoneninbdjbaaDoorW.PrintLast Go.Proofs.YtejoneninbdjbaaDoorW.PrintMore
attribute [local go_sem] max2_int min2_int max_two min_two max_three min_three max_four min_four
set_option linter.unusedVariables false
set_option linter.unusedSimpArgs false
attribute [local go_sem] str_leq_ str_gtr_ str_geq_
def laws_FnExactStemChanges.f (k : Nat) (l0 : List ByteArray) (l1 : List Int) : Option (Bool) := if (l1.length : Int) > 1048576 then (some true) else ((laws_szStringS.f k l0 1048576).bind fun t370 => (if t370 < 0 then (some true) else ((laws_toStringS.f k l0).bind fun t371 => ((laws_toIntS.f k l1).bind fun t374 => ((spec_StemChanges.f k t371 t374).bind fun t377 => ((laws_toStringS.f k l0).bind fun t378 => ((laws_toIntS.f k l1).bind fun t381 => ((impl_StemChanges.f k t378 t381).bind fun t384 => (if t384 = t377 then ((laws_toStringS.f k l0).bind fun t385 => ((laws_eqStringS.f k t378 t385).bind fun t388 => (if t388 = true then ((laws_toIntS.f k l1).bind fun t389 => ((laws_eqIntS.f k t381 t389).bind fun t392 => (if t392 = true then (some true) else (some false)))) else (some false)))) else (some false))))))))))
end Go.Proofs.YtejoneninbdjbaaDoor.E
end
section
namespace Go.Proofs.YtejoneninbdjbaaDoor.Pur
open Go.RowKit Go.Proofs.YtejoneninbdjbaaDoorW.PrintWords Go.Proofs.YtejoneninbdjbaaDoorW.PrintMore Go.Proofs.YtejoneninbdjbaaDoor.E
def chg (l : List ByteArray) (st : List Int) : Nat → Nat → Int
  | 0, _ => 0
  | d + 1, i => farT (rdOf ByteArray.empty l (i : Int)) (rdOf ByteArray.empty l (rd st (i : Int))) + chg l st d (i + 1)
def Tells (c : Prop) (X v : Int) : Prop := (c → v = X) ∧ (¬ c → v = -1)
section
variable (l : List ByteArray) (st : List Int) (n : Nat) (hn : n ≤ 1048576) (hsz : ∀ t ∈ l, t.size = n) (hl : l.length ≤ 6) (hst : st.length = l.length) (hp : ∀ j : Nat, 1 ≤ j → j < st.length → 0 ≤ rd st (j : Int) ∧ rd st (j : Int) < j)
include hn hsz hl hst hp
theorem impl_changes_loop : ∀ (d i : Nat) (s : Int), 1 ≤ i → i + d = l.length → 0 ≤ s → s ≤ 1048576 * (i : Int) → EvP (fun k => impl_changesOf.l0 k l st s (i : Int)) (· = s + chg l st d i) := by
  intro d
  induction d with
  | zero =>
    intro i s h1 hi h0 hs
    refine EvP.succ ?_
    simp only [impl_changesOf.l0]
    exact EvP.no (by omega) (EvP.ret (by simp [chg]))
  | succ d ih =>
    intro i s h1 hi h0 hs
    have hq := hp i h1 (by omega)
    have m1 := hsz _ (rd_mem (l := l) (i := (i : Int)) (by omega) (by omega))
    have m2 := hsz _ (rd_mem (l := l) (i := rd st (i : Int)) hq.1 (by omega))
    have bd := farT_bd (rdOf ByteArray.empty l (i : Int)) (rdOf ByteArray.empty l (rd st (i : Int)))
    have e2 : Hd (wrap64 ((i : Int) + 1) = ((i + 1 : Nat) : Int)) := ⟨w64 (by omega) (by omega)⟩
    refine EvP.succ ?_
    simp only [impl_changesOf.l0]
    refine EvP.yes (by omega) (EvP.yes (by omega) (EvP.yes (by omega) (EvP.yes hq.1 (EvP.yes (by omega) ?_))))
    refine EvP.bind (impl_far _ _ (by omega) (by omega)) (fun _ e => ?_)
    subst e
    rw [e2.out, w64 (by omega) (by omega), chg]
    refine (ih (i + 1) _ (by omega) (by omega) (by omega) (by omega)).mono (fun r e => by rw [e]; omega)
theorem impl_changes (h1 : 1 ≤ l.length) : EvP (fun k => impl_changesOf.f k l st) (· = chg l st (l.length - 1) 1) := by
  unfold impl_changesOf.f
  refine (impl_changes_loop l st n hn hsz hl hst hp (l.length - 1) 1 0 (by omega) (by omega) (by omega) (by omega)).mono (fun r e => by rw [e]; omega)
end
end Go.Proofs.YtejoneninbdjbaaDoor.Pur
end
section
namespace Go.Proofs.YtejoneninbdjbaaDoor.E
open Go.RowKit Go.Proofs.YtejoneninbdjbaaDoorW.PrintWords Go.Proofs.YtejoneninbdjbaaDoorW.PrintLast Go.Proofs.YtejoneninbdjbaaDoorW.PrintMore
attribute [local go_sem] max2_int min2_int max_two min_two max_three min_three max_four min_four
set_option linter.unusedVariables false
set_option linter.unusedSimpArgs false
attribute [local go_sem] str_leq_ str_gtr_ str_geq_
def spec_l7Best.l0 : Nat → List Int → Int → Int → Option (Int)
 | 0, _, _, _ => none
 | k + 1, x0, x5, x6 => if x6 < 4 then (if 0 ≤ x6 then (if x6 < (x0.length : Int) then (spec_l7Best.l0 k x0 (mn x5 (wrap64 ((rd x0 x6) + 1))) (wrap64 (x6 + 1))) else (none)) else (none)) else (some x5)
def spec_l7Best.f (k : Nat) (l0 : List Int) (a1 : Int) : Option (Int) := if 0 ≤ a1 then (if a1 < (l0.length : Int) then (spec_l7Best.l0 k l0 (rd l0 a1) 0) else (none)) else (none)
end Go.Proofs.YtejoneninbdjbaaDoor.E
end
section
namespace Go.Proofs.YtejoneninbdjbaaDoor.E
open Go.RowKit Go.Proofs.YtejoneninbdjbaaDoorW.PrintWords Go.Proofs.YtejoneninbdjbaaDoorW.PrintLast Go.Proofs.YtejoneninbdjbaaDoorW.PrintMore
attribute [local go_sem] max2_int min2_int max_two min_two max_three min_three max_four min_four
set_option linter.unusedVariables false
set_option linter.unusedSimpArgs false
attribute [local go_sem] str_leq_ str_gtr_ str_geq_
mutual
def spec_l7Below.l0 : Nat → List ByteArray → List Int → Int → List (List Int) → Int → Option ((List (List Int)))
 | 0, _, _, _, _, _ => none
 | k + 1, x0, x1, x2, x7, x8 => if x8 ≥ 0 then (if 4 ≤ 35184372088832 then (if 0 ≤ x8 then (if x8 < (x7.length : Int) then (spec_l7Below.l1 k x0 x1 x2 (x7.set (x8 : Int).toNat (List.replicate 4 0)) x8 0) else (none)) else (none)) else (none)) else (some x7)
def spec_l7Below.l1 : Nat → List ByteArray → List Int → Int → List (List Int) → Int → Int → Option ((List (List Int)))
 | 0, _, _, _, _, _, _ => none
 | k + 1, x0, x1, x2, x7, x8, x9 => if x9 < 4 then (if 0 ≤ x8 then (if x8 < (x0.length : Int) then (if 0 ≤ x2 then (if x2 < ((rdOf ByteArray.empty x0 x8).size : Int) then (if (bt (rdOf ByteArray.empty x0 x8) x2) = 63 then (spec_l7Below.j2 k x0 x1 x2 x7 x8 x9 false) else (spec_l7Below.j2 k x0 x1 x2 x7 x8 x9 ((wrap64 (bt (rdOf ByteArray.empty x0 x8) x2)) != (wrap64 (97 + x9))))) else (none)) else (none)) else (none)) else (none)) else (spec_l7Below.l0 k x0 x1 x2 x7 (wrap64 (x8 - 1)))
def spec_l7Below.j2 : Nat → List ByteArray → List Int → Int → List (List Int) → Int → Int → Bool → Option ((List (List Int)))
 | 0, _, _, _, _, _, _, _ => none
 | k + 1, x0, x1, x2, x7, x8, x9, x47 => if x47 = true then (if 0 ≤ x8 then (if x8 < (x7.length : Int) then (if 0 ≤ x9 then (if x9 < ((rd_L4 x7 x8).length : Int) then (spec_l7Below.j3 k x0 x1 x2 (x7.set (x8 : Int).toNat ((rd_L4 x7 x8).set (x9 : Int).toNat 1000)) x8 x9) else (none)) else (none)) else (none)) else (none)) else (spec_l7Below.j3 k x0 x1 x2 x7 x8 x9)
def spec_l7Below.j3 : Nat → List ByteArray → List Int → Int → List (List Int) → Int → Int → Option ((List (List Int)))
 | 0, _, _, _, _, _, _ => none
 | k + 1, x0, x1, x2, x7, x8, x9 => spec_l7Below.l2 k x0 x1 x2 x7 x8 x9 (wrap64 (x8 + 1))
def spec_l7Below.l2 : Nat → List ByteArray → List Int → Int → List (List Int) → Int → Int → Int → Option ((List (List Int)))
 | 0, _, _, _, _, _, _, _ => none
 | k + 1, x0, x1, x2, x7, x8, x9, x10 => if x10 < (x0.length : Int) then (if 0 ≤ x10 then (if x10 < (x1.length : Int) then (if (rd x1 x10) = x8 then (if 0 ≤ x8 then (if x8 < (x7.length : Int) then (if 0 ≤ x9 then (if x9 < ((rd_L4 x7 x8).length : Int) then (if x10 < (x7.length : Int) then ((spec_l7Best.f k (rd_L4 x7 x10) x9).bind fun t637 => (spec_l7Below.l2 k x0 x1 x2 (x7.set (x8 : Int).toNat ((rd_L4 x7 x8).set (x9 : Int).toNat (wrap64 ((rd (rd_L4 x7 x8) x9) + t637)))) x8 x9 (wrap64 (x10 + 1)))) else (none)) else (none)) else (none)) else (none)) else (none)) else (spec_l7Below.l2 k x0 x1 x2 x7 x8 x9 (wrap64 (x10 + 1)))) else (none)) else (none)) else (spec_l7Below.l1 k x0 x1 x2 x7 x8 (wrap64 (x9 + 1)))
end
def spec_l7Below.f (k : Nat) (l0 : List ByteArray) (l1 : List Int) (a2 : Int) : Option ((List (List Int))) := if 0 ≤ (l0.length : Int) then (if ((l0.length : Int) : Int).toNat ≤ 11728124029610 then (spec_l7Below.l0 k l0 l1 a2 (List.replicate ((l0.length : Int) : Int).toNat []) (wrap64 ((l0.length : Int) - 1))) else (none)) else (none)
def spec_l7Below.T15 : Bool × List (List Nat × List Nat) := (true, [([], []), ([], []), ([0, 1], [0, 1]), ([2], [2]), ([], []), ([], []), ([], []), ([5, 6], [5, 6]), ([7], [7]), ([], []), ([8, 9], [8, 9]), ([10], [10]), ([], []), ([], []), ([12, 13], [12, 13]), ([14], [14]), ([], []), ([15, 16], [15, 16]), ([11, 17], [11, 17]), ([3, 4, 0, 1, 2, 3, 4, 5, 6, 7, 8, 9, 10, 11, 12, 13, 14, 15, 16, 17, 18], [3, 4]), ([19, 18, 17, 0, 1, 2, 3, 4, 5, 6, 7, 8, 9, 10, 11, 12, 13, 14, 15, 16, 17, 18], [18, 19])])
def spec_l7Below.B15 : List Nat := [0, 0, 3, 7, 0, 0, 0, 96, 224, 0, 992, 2016, 0, 0, 12288, 28672, 0, 126976, 262112, 524287, 1048575]
end Go.Proofs.YtejoneninbdjbaaDoor.E
end
section
namespace Go.Proofs.YtejoneninbdjbaaDoor.E
open Go.RowKit Go.Proofs.YtejoneninbdjbaaDoorW.PrintWords Go.Proofs.YtejoneninbdjbaaDoorW.PrintLast Go.Proofs.YtejoneninbdjbaaDoorW.PrintMore
attribute [local go_sem] max2_int min2_int max_two min_two max_three min_three max_four min_four
set_option linter.unusedVariables false
set_option linter.unusedSimpArgs false
attribute [local go_sem] str_leq_ str_gtr_ str_geq_
mutual
def spec_l7Letter.l0 : Nat → List Int → Int → Int → Int → Option (Int)
 | 0, _, _, _, _ => none
 | k + 1, x0, x1, x5, x6 => if x6 < 4 then (if 0 ≤ x6 then (if x6 < (x0.length : Int) then (if 0 ≤ x5 then (if x5 < (x0.length : Int) then (if x1 ≥ 0 then (spec_l7Letter.j1 k x0 x1 x5 x6 (rd x0 x6) (rd x0 x5) (x6 != x1)) else (spec_l7Letter.j1 k x0 x1 x5 x6 (rd x0 x6) (rd x0 x5) false)) else (none)) else (none)) else (none)) else (none)) else (some x5)
def spec_l7Letter.j1 : Nat → List Int → Int → Int → Int → Int → Int → Bool → Option (Int)
 | 0, _, _, _, _, _, _, _ => none
 | k + 1, x0, x1, x5, x6, x7, x8, x27 => if x27 = true then (spec_l7Letter.j2 k x0 x1 x5 x6 (wrap64 (x7 + 1)) x8) else (spec_l7Letter.j2 k x0 x1 x5 x6 x7 x8)
def spec_l7Letter.j2 : Nat → List Int → Int → Int → Int → Int → Int → Option (Int)
 | 0, _, _, _, _, _, _ => none
 | k + 1, x0, x1, x5, x6, x7, x8 => if x1 ≥ 0 then (spec_l7Letter.j3 k x0 x1 x5 x6 x7 x8 (x5 != x1)) else (spec_l7Letter.j3 k x0 x1 x5 x6 x7 x8 false)
def spec_l7Letter.j3 : Nat → List Int → Int → Int → Int → Int → Int → Bool → Option (Int)
 | 0, _, _, _, _, _, _, _ => none
 | k + 1, x0, x1, x5, x6, x7, x8, x36 => if x36 = true then (if x7 < (wrap64 (x8 + 1)) then (spec_l7Letter.l0 k x0 x1 x6 (wrap64 (x6 + 1))) else (spec_l7Letter.l0 k x0 x1 x5 (wrap64 (x6 + 1)))) else (if x7 < x8 then (spec_l7Letter.l0 k x0 x1 x6 (wrap64 (x6 + 1))) else (spec_l7Letter.l0 k x0 x1 x5 (wrap64 (x6 + 1))))
end
def spec_l7Letter.f (k : Nat) (l0 : List Int) (a1 : Int) : Option (Int) := spec_l7Letter.l0 k l0 a1 0 0
end Go.Proofs.YtejoneninbdjbaaDoor.E
end
section
namespace Go.Proofs.YtejoneninbdjbaaDoor.Pur
open Go.RowKit Go.Proofs.YtejoneninbdjbaaDoorW.PrintWords Go.Proofs.YtejoneninbdjbaaDoorW.PrintMore Go.Proofs.YtejoneninbdjbaaDoor.E
def RowIs (row : List Int) (c : Nat → Int) : Prop := row.length = 4 ∧ ∀ x : Nat, x < 4 → rd row (x : Int) = c x ∧ 0 ≤ c x ∧ c x ≤ 1000000000
section
variable {row : List Int} {c : Nat → Int} (h : RowIs row c) (q : Int)
include h
end
theorem rdI_set_eq (l : List Int) (i : Nat) (x : Int) (h : i < l.length) : rd (l.set i x) (i : Int) = x := by
  unfold rd
  rw [toNat_nat, List.getD_eq_getElem?_getD, List.getElem?_set_self h, Option.getD_some]
theorem rdI_set_ne (l : List Int) (i j : Nat) (x : Int) (h : i ≠ j) : rd (l.set i x) (j : Int) = rd l (j : Int) := by
  unfold rd
  rw [toNat_nat, List.getD_eq_getElem?_getD, List.getD_eq_getElem?_getD, List.getElem?_set_ne h]
structure StemK (l : List ByteArray) (st : List Int) (n P : Nat) : Prop where
  len : l.length = n
  stl : st.length = n
  n1 : 1 ≤ n
  n6 : n ≤ 6
  p1 : 1 ≤ P
  p8 : P ≤ 8
  par : StemN st n
  sz : ∀ j : Nat, j < n → (rdOf ByteArray.empty l (j : Int)).size = P
  kind : ∀ j : Nat, j < n → readB (rdOf ByteArray.empty l (j : Int)) = true ∨ lostB (rdOf ByteArray.empty l (j : Int)) = true
theorem stemK {l : List ByteArray} {st : List Int} (V : VS l st) : StemK l st l.length (rdOf ByteArray.empty l 0).size := by
  obtain ⟨h1, h6, P, p1, p8, hm⟩ := books_ok V.1
  have m : ∀ j : Nat, j < l.length → rdOf ByteArray.empty l (j : Int) ∈ l := fun j hj => rd_mem (by omega) (by omega)
  have e0 := (hm _ (m 0 (by omega))).1
  have e0' : (rdOf ByteArray.empty l 0).size = P := e0
  refine ⟨rfl, V.2.2.1, h1, h6, by omega, by omega, fun j a b => V.2.2.2.2 j a (by have := V.2.2.1; omega), fun j hj => ?_, fun j hj => (hm _ (m j hj)).2⟩
  rw [(hm _ (m j hj)).1, e0']
theorem ban_or (l : List ByteArray) (p j x : Nat) : banP l p j x = 0 ∨ banP l p j x = 1000 := by
  unfold banP banQ
  split
  · exact .inl rfl
  · split
    · exact .inl rfl
    · exact .inr rfl
theorem ban_bd (l : List ByteArray) (p j x : Nat) : 0 ≤ banP l p j x ∧ banP l p j x ≤ 1000 := by rcases ban_or l p j x with h | h <;> omega
theorem lostQ_is {t : ByteArray} (h1 : 1 ≤ t.size) (h8 : t.size ≤ 8) : impl_isLost.f t = some (lostB t) ∧ lostQ t = lostB t := by
  have e := impl_lost t (by omega) (by omega)
  refine ⟨e, ?_⟩
  unfold lostQ
  rw [e]
  cases lostB t <;> rfl
theorem lost_bt {t : ByteArray} (h : lostB t = true) {p : Nat} (hp : p < t.size) : bt t (p : Int) = 63 := by
  rw [bt_at t p hp]
  have := List.all_eq_true.mp h _ (List.getElem_mem (show p < t.data.toList.length by rw [list_len]; exact hp))
  rw [eq_of_beq this]
  rfl
theorem read_bt {t : ByteArray} (h : readB t = true) {p : Nat} (hp : p < t.size) : 97 ≤ bt t (p : Int) ∧ bt t (p : Int) ≤ 100 := by
  rw [bt_at t p hp]
  have := List.all_eq_true.mp h _ (List.getElem_mem (show p < t.data.toList.length by rw [list_len]; exact hp))
  rw [Bool.and_eq_true] at this
  have a := of_decide_eq_true this.1
  have b := of_decide_eq_true this.2
  omega
section
variable {l : List ByteArray} {st : List Int} {n P : Nat} (K : StemK l st n P)
include K
theorem StemK.ban (p j x : Nat) (hj : j < n) (hp : p < P) : banP l p j x = if bt (rdOf ByteArray.empty l (j : Int)) (p : Int) = 63 then 0 else if bt (rdOf ByteArray.empty l (j : Int)) (p : Int) = 97 + (x : Int) then 0 else 1000 := by
  have hs := K.sz j hj
  have := K.p1
  have := K.p8
  have hq := (lostQ_is (t := rdOf ByteArray.empty l (j : Int)) (by omega) (by omega)).2
  unfold banP banQ
  rw [hq]
  by_cases hl : lostB (rdOf ByteArray.empty l (j : Int)) = true
  · rw [if_pos hl, if_pos (lost_bt hl (by omega))]
  · have hr := read_bt ((K.kind j hj).resolve_right hl) (p := p) (by omega)
    rw [if_neg hl, if_neg (show ¬ bt (rdOf ByteArray.empty l (j : Int)) (p : Int) = 63 by omega)]
def cv (l : List ByteArray) (st : List Int) (p x q : Nat) : Int := adj (tabP l st p q) (x : Int) (bi (tabP l st p q) (x : Int))
def TabAt (p i c : Nat) (T : List (List Int)) (v : Int) : Prop := T.length = n ∧ (∀ j : Nat, i < j → j < n → RowIs (rd_L4 T (j : Int)) (tabP l st p j)) ∧ (rd_L4 T (i : Int)).length = 4 ∧ (∀ x : Nat, x < c → rd (rd_L4 T (i : Int)) (x : Int) = tabP l st p i x) ∧ (∀ x : Nat, c < x → x < 4 → rd (rd_L4 T (i : Int)) (x : Int) = 0) ∧ rd (rd_L4 T (i : Int)) (c : Int) = v
end
end Go.Proofs.YtejoneninbdjbaaDoor.Pur
end
section
namespace Go.Proofs.YtejoneninbdjbaaDoor.E
open Go.RowKit Go.Proofs.YtejoneninbdjbaaDoorW.PrintWords Go.Proofs.YtejoneninbdjbaaDoorW.PrintLast Go.Proofs.YtejoneninbdjbaaDoorW.PrintMore
attribute [local go_sem] max2_int min2_int max_two min_two max_three min_three max_four min_four
set_option linter.unusedVariables false
set_option linter.unusedSimpArgs false
attribute [local go_sem] str_leq_ str_gtr_ str_geq_
mutual
def spec_StemFewest.l0 : Nat → List ByteArray → List Int → Int → Int → Option (Int)
 | 0, _, _, _, _ => none
 | k + 1, x0, x1, x5, x6 => if 0 < (x0.length : Int) then (if x6 < ((rdOf ByteArray.empty x0 0).size : Int) then ((spec_l7Below.f k x0 x1 x6).bind fun t644 => (if 0 < (t644.length : Int) then (if 0 < ((rd_L4 t644 0).length : Int) then (spec_StemFewest.l1 k x0 x1 x5 x6 t644 (rd (rd_L4 t644 0) 0) 0) else (none)) else (none))) else (some x5)) else (none)
def spec_StemFewest.l1 : Nat → List ByteArray → List Int → Int → Int → List (List Int) → Int → Int → Option (Int)
 | 0, _, _, _, _, _, _, _ => none
 | k + 1, x0, x1, x5, x6, x7, x8, x9 => if x9 < 4 then (if 0 < (x7.length : Int) then (if 0 ≤ x9 then (if x9 < ((rd_L4 x7 0).length : Int) then (spec_StemFewest.l1 k x0 x1 x5 x6 x7 (mn x8 (rd (rd_L4 x7 0) x9)) (wrap64 (x9 + 1))) else (none)) else (none)) else (none)) else (spec_StemFewest.l0 k x0 x1 (wrap64 (x5 + x8)) (wrap64 (x6 + 1)))
end
def spec_StemFewest.f (k : Nat) (l0 : List ByteArray) (l1 : List Int) : Option (Int) := (spec_StemValid.f k l0 l1).bind fun t642 => (if t642 = true then (spec_StemFewest.l0 k l0 l1 0 0) else (some (-1)))
end Go.Proofs.YtejoneninbdjbaaDoor.E
end
section
namespace Go.Proofs.YtejoneninbdjbaaDoor.E
open Go.RowKit Go.Proofs.YtejoneninbdjbaaDoorW.PrintWords Go.Proofs.YtejoneninbdjbaaDoorW.PrintLast Go.Proofs.YtejoneninbdjbaaDoorW.PrintMore
attribute [local go_sem] max2_int min2_int max_two min_two max_three min_three max_four min_four
set_option linter.unusedVariables false
set_option linter.unusedSimpArgs false
attribute [local go_sem] str_leq_ str_gtr_ str_geq_
mutual
def spec_StemFill.l0 : Nat → List ByteArray → List Int → List ByteArray → Int → Option (List ByteArray × Bool)
 | 0, _, _, _, _ => none
 | k + 1, x0, x1, x6, x7 => if x7 < (x0.length : Int) then (if x6.length < 8796093022208 then (spec_StemFill.l0 k x0 x1 (x6 ++ [(⟨#[]⟩ : ByteArray)]) (wrap64 (x7 + 1))) else (none)) else (spec_StemFill.l1 k x0 x1 x6 0)
def spec_StemFill.l1 : Nat → List ByteArray → List Int → List ByteArray → Int → Option (List ByteArray × Bool)
 | 0, _, _, _, _ => none
 | k + 1, x0, x1, x6, x8 => if 0 < (x0.length : Int) then (if x8 < ((rdOf ByteArray.empty x0 0).size : Int) then ((spec_l7Below.f k x0 x1 x8).bind fun t745 => (spec_StemFill.l2 k x0 x1 x6 x8 t745 0)) else (some (x6, true))) else (none)
def spec_StemFill.l2 : Nat → List ByteArray → List Int → List ByteArray → Int → List (List Int) → Int → Option (List ByteArray × Bool)
 | 0, _, _, _, _, _, _ => none
 | k + 1, x0, x1, x6, x8, x9, x10 => if x10 < (x0.length : Int) then (if x10 > 0 then (if 0 ≤ x10 then (if x10 < (x1.length : Int) then (if 0 ≤ (rd x1 x10) then (if (rd x1 x10) < (x6.length : Int) then (if 0 ≤ x8 then (if x8 < ((rdOf ByteArray.empty x6 (rd x1 x10)).size : Int) then (if x10 < (x9.length : Int) then ((spec_l7Letter.f k (rd_L4 x9 x10) (((bt (rdOf ByteArray.empty x6 (rd x1 x10)) x8) - 97) % 256)).bind fun t751 => (if x10 < (x6.length : Int) then (if 0 ≤ t751 then (if t751 ≤ (wrap64 (t751 + 1)) then (if (wrap64 (t751 + 1)) ≤ 4 then (if (rdOf ByteArray.empty x6 x10).size + ((⟨#[97, 98, 99, 100]⟩ : ByteArray).extract (t751 : Int).toNat ((wrap64 (t751 + 1)) : Int).toNat).size ≤ 9223372036854775807 then (spec_StemFill.l2 k x0 x1 (x6.set (x10 : Int).toNat ((rdOf ByteArray.empty x6 x10) ++ ((⟨#[97, 98, 99, 100]⟩ : ByteArray).extract (t751 : Int).toNat ((wrap64 (t751 + 1)) : Int).toNat))) x8 x9 (wrap64 (x10 + 1))) else (none)) else (none)) else (none)) else (none)) else (none))) else (none)) else (none)) else (none)) else (none)) else (none)) else (none)) else (none)) else (if 0 ≤ x10 then (if x10 < (x9.length : Int) then ((spec_l7Letter.f k (rd_L4 x9 x10) (-1)).bind fun t755 => (if x10 < (x6.length : Int) then (if 0 ≤ t755 then (if t755 ≤ (wrap64 (t755 + 1)) then (if (wrap64 (t755 + 1)) ≤ 4 then (if (rdOf ByteArray.empty x6 x10).size + ((⟨#[97, 98, 99, 100]⟩ : ByteArray).extract (t755 : Int).toNat ((wrap64 (t755 + 1)) : Int).toNat).size ≤ 9223372036854775807 then (spec_StemFill.l2 k x0 x1 (x6.set (x10 : Int).toNat ((rdOf ByteArray.empty x6 x10) ++ ((⟨#[97, 98, 99, 100]⟩ : ByteArray).extract (t755 : Int).toNat ((wrap64 (t755 + 1)) : Int).toNat))) x8 x9 (wrap64 (x10 + 1))) else (none)) else (none)) else (none)) else (none)) else (none))) else (none)) else (none))) else (spec_StemFill.l1 k x0 x1 x6 (wrap64 (x8 + 1)))
end
def spec_StemFill.f (k : Nat) (l0 : List ByteArray) (l1 : List Int) : Option (List ByteArray × Bool) := (some (([] : List ByteArray) : List ByteArray)).bind fun y737 => ((spec_StemValid.f k l0 l1).bind fun t740 => (if t740 = true then (spec_StemFill.l0 k l0 l1 y737 0) else (some (y737, false))))
def spec_StemFill.T19 : Bool × List (List Nat × List Nat) := (true, [([], []), ([], []), ([], []), ([], []), ([2, 3], [2, 3]), ([4], [4]), ([], []), ([], []), ([7], [7]), ([6, 8], [6, 8]), ([5, 9], [5, 9]), ([0, 1, 0, 1, 2, 3, 4, 5, 6, 7, 8, 9, 10], [0, 1]), ([11, 10, 0, 1, 2, 3, 4, 5, 6, 7, 8, 9, 10], [10, 11])])
def spec_StemFill.B19 : List Nat := [0, 0, 0, 0, 12, 28, 0, 0, 128, 448, 1020, 2047, 4095]
end Go.Proofs.YtejoneninbdjbaaDoor.E
end
section
namespace Go.Proofs.YtejoneninbdjbaaDoor.Pur
open Go.RowKit Go.Proofs.YtejoneninbdjbaaDoorW.PrintWords Go.Proofs.YtejoneninbdjbaaDoorW.PrintMore Go.Proofs.YtejoneninbdjbaaDoor.E
def fFew (l : List ByteArray) (st : List Int) (p : Nat) : Int := tabP l st p 0 (yOf (tabP l st p) st 0)
def fSum (l : List ByteArray) (st : List Int) : Int := sumTo (fFew l st) (rdOf ByteArray.empty l 0).size
def yL (l : List ByteArray) (st : List Int) (p j : Nat) : Nat := yOf (tabP l st p) st j
def filled (l : List ByteArray) (st : List Int) : List ByteArray := fillM (letP l st) l.length (fun _ => (rdOf ByteArray.empty l 0).size)
section
variable {l : List ByteArray} {st : List Int} (K : StemK l st l.length (rdOf ByteArray.empty l 0).size)
include K
theorem K_let (p j : Nat) (hj : j < l.length) : letP l st p j = ((yL l st p j : Nat) : Int) ∧ yL l st p j < 4 :=
  y_nat (n := l.length) (b := banP l p) K.n6 (ban_bd l p) K.par j hj
theorem K_few (p : Nat) : Few l.length (sOf st) (banP l p) (fFew l st p) := (y_few (n := l.length) (b := banP l p) K.n6 K.n1 (ban_bd l p) K.par).2
theorem K_clean (p : Nat) (hp : p < (rdOf ByteArray.empty l 0).size) : (∀ j, j < l.length → banP l p j (yL l st p j) = 0) ∧ sumTo (fun k => if 0 < k then dif (yL l st p k) (yL l st p (sOf st k)) else 0) l.length = fFew l st p := by
  refine y_clean (n := l.length) (b := banP l p) K.n6 K.n1 (ban_bd l p) K.par (ban_or l p) (fun j => if bt (rdOf ByteArray.empty l (j : Int)) (p : Int) = 63 then 0 else (bt (rdOf ByteArray.empty l (j : Int)) (p : Int) - 97).toNat) (fun j hj => ?_) (fun j hj => ?_)
  · try dsimp only
    have hs := K.sz j hj
    split
    · omega
    · rename_i g
      have := read_bt ((K.kind j hj).resolve_right (fun hl => g (lost_bt hl (by omega)))) (p := p) (by omega)
      omega
  · try dsimp only
    have hs := K.sz j hj
    rw [K.ban p j _ hj hp]
    by_cases g : bt (rdOf ByteArray.empty l (j : Int)) (p : Int) = 63
    · rw [if_pos g]
    · have := read_bt ((K.kind j hj).resolve_right (fun hl => g (lost_bt hl (by omega)))) (p := p) (by omega)
      rw [if_neg g, if_neg g, if_pos (by omega)]
theorem K_fillOk : fillOk l st = true := by
  have h1 := K.n1
  have h6 := K.n6
  have h8 := K.p8
  have hst := K.stl
  unfold fillOk stOkF
  rw [Bool.and_eq_true, Bool.and_eq_true, Bool.and_eq_true, Bool.and_eq_true]
  refine ⟨⟨⟨decide_eq_true hst, decide_eq_true (by omega)⟩, ?_⟩, decide_eq_true (by omega), ?_⟩
  · rw [List.all_eq_true]
    intro j hj
    have hj := List.mem_range.mp hj
    rw [Bool.or_eq_true, Bool.and_eq_true]
    by_cases e : j = 0
    · exact .inl (decide_eq_true e)
    · have := K.par j (by omega) (by omega)
      exact .inr ⟨decide_eq_true this.1, decide_eq_true this.2⟩
  · rw [List.all_eq_true]
    intro t ht
    obtain ⟨j, hj, rfl⟩ := List.getElem_of_mem ht
    have hs := K.sz j hj
    have h1 := K.p1
    rw [rd_at hj] at hs
    rw [Bool.and_eq_true, Bool.and_eq_true]
    refine ⟨⟨decide_eq_true hs, ?_⟩, decide_eq_true (by omega)⟩
    rw [(lostQ_is (t := l[j]) (by omega) (by omega)).1]
    rfl
end
def FillIs (l : List ByteArray) (st : List Int) (r : List ByteArray × Bool) : Prop := (VS l st → r = (filled l st, true)) ∧ (¬ VS l st → r = ([], false))
theorem impl_fill (l : List ByteArray) (st : List Int) (hs : ∀ t ∈ l, t.size ≤ 9223372036854775806) (hl : st.length ≤ 1048576) : EvP (fun k => impl_StemFill.f k l st) (FillIs l st) := by
  unfold impl_StemFill.f
  refine EvP.bind (impl_stem l st hs hl) (fun a ha => ?_)
  refine EvP.ite (fun h1 => ?_) (fun h1 => EvP.ret ⟨fun h => absurd (ha.mpr h) h1, fun _ => rfl⟩)
  have V := ha.mp h1
  exact EvP.yes (K_fillOk (stemK V)) (EvP.ret ⟨fun _ => rfl, fun h => absurd V h⟩)
theorem sumTo_swap (f : Nat → Nat → Int) (n : Nat) : ∀ P : Nat, sumTo (fun k => sumTo (f k) P) n = sumTo (fun p => sumTo (fun k => f k p) n) P
  | 0 => sumTo_zero n (fun _ _ => rfl)
  | P + 1 => by
    rw [sumTo, ← sumTo_swap f n P, ← sumTo_add]
    rfl
theorem diffs_snoc (u v : UInt8) : ∀ a b : List UInt8, a.length = b.length → diffs (a ++ [u]) (b ++ [v]) = diffs a b + (if u = v then 0 else 1)
  | [], [], _ => by show (if u = v then 0 else 1) + 0 = 0 + (if u = v then 0 else 1); omega
  | x :: a, y :: b, h => by
    rw [List.cons_append, List.cons_append, diffs, diffs, diffs_snoc u v a b (by simpa using h)]
    omega
  | [], _ :: _, h => by simp at h
  | _ :: _, [], h => by simp at h
theorem let_byte {y : Nat} (h : y < 4) : strOfNums [(97 + (y : Int)) % 256] = ⟨#[UInt8.ofNat (97 + y)]⟩ := by
  obtain rfl | rfl | rfl | rfl : y = 0 ∨ y = 1 ∨ y = 2 ∨ y = 3 := by omega
  all_goals rfl
theorem app_list (a : ByteArray) (u : UInt8) : (a ++ (⟨#[u]⟩ : ByteArray)).data.toList = a.data.toList ++ [u] := by
  rw [ByteArray.data_append]
  simp
theorem far_fill (A B : Nat → Int) (u v : Nat → Nat) (hA : ∀ p, A p = ((u p : Nat) : Int) ∧ u p < 4) (hB : ∀ p, B p = ((v p : Nat) : Int) ∧ v p < 4) : ∀ P : Nat, farT (fillT A P) (fillT B P) = sumTo (fun p => dif (u p) (v p)) P
  | 0 => rfl
  | P + 1 => by
    have ih := far_fill A B u v hA hB P
    unfold farT at ih ⊢
    rw [fillT, fillT, (hA P).1, (hB P).1, let_byte (hA P).2, let_byte (hB P).2, app_list, app_list, diffs_snoc _ _ _ _ (by rw [list_len, list_len, fillT_len, fillT_len]), sumTo, ← ih]
    have e : (UInt8.ofNat (97 + u P) = UInt8.ofNat (97 + v P)) ↔ u P = v P := by
      have a := (hA P).2
      have b := (hB P).2
      constructor
      · intro h
        have := congrArg UInt8.toNat h
        rw [UInt8.toNat_ofNat_of_lt' (show _ < 256 by omega), UInt8.toNat_ofNat_of_lt' (show _ < 256 by omega)] at this
        omega
      · intro h; rw [h]
    unfold dif
    by_cases g : u P = v P
    · rw [if_pos (e.mpr g), if_pos g]; omega
    · rw [if_neg (fun h => g (e.mp h)), if_neg g]; omega
theorem chg_sum (l : List ByteArray) (st : List Int) : ∀ (d i : Nat), chg l st d i = sumTo (fun k => if i ≤ k then farT (rdOf ByteArray.empty l (k : Int)) (rdOf ByteArray.empty l (rd st (k : Int))) else 0) (i + d)
  | 0, i => by
    rw [chg, sumTo_zero]
    intro k hk
    exact if_neg (by omega)
  | d + 1, i => by
    rw [chg, chg_sum l st d (i + 1), show i + (d + 1) = i + 1 + d by omega]
    have h : ∀ d : Nat, sumTo (fun k => if i ≤ k then farT (rdOf ByteArray.empty l (k : Int)) (rdOf ByteArray.empty l (rd st (k : Int))) else 0) (i + 1 + d) = farT (rdOf ByteArray.empty l (i : Int)) (rdOf ByteArray.empty l (rd st (i : Int))) + sumTo (fun k => if i + 1 ≤ k then farT (rdOf ByteArray.empty l (k : Int)) (rdOf ByteArray.empty l (rd st (k : Int))) else 0) (i + 1 + d) := by
      intro d
      induction d with
      | zero =>
        rw [Nat.add_zero, sumTo, sumTo, if_pos (Nat.le_refl _), if_neg (by omega), sumTo_zero i (fun k hk => if_neg (by omega)), sumTo_zero i (fun k hk => if_neg (by omega))]
        omega
      | succ d ih =>
        rw [← Nat.add_assoc, sumTo, sumTo, ih, if_pos (by omega), if_pos (by omega)]
        omega
    rw [h d]
section
variable {l : List ByteArray} {st : List Int} (K : StemK l st l.length (rdOf ByteArray.empty l 0).size)
include K
omit K in
theorem K_rd (j : Nat) (hj : j < l.length) : rdOf ByteArray.empty (filled l st) (j : Int) = fillT (fun p => letP l st p j) (rdOf ByteArray.empty l 0).size := fillM_rd _ _ _ j hj
theorem K_far (i k : Nat) (hi : i < l.length) (hk : k < l.length) : farT (rdOf ByteArray.empty (filled l st) (i : Int)) (rdOf ByteArray.empty (filled l st) (k : Int)) = sumTo (fun p => dif (yL l st p i) (yL l st p k)) (rdOf ByteArray.empty l 0).size := by
  rw [K_rd i hi, K_rd k hk]
  exact far_fill _ _ _ _ (fun p => K_let K p i hi) (fun p => K_let K p k hk) _
theorem K_chg : chg (filled l st) st (l.length - 1) 1 = fSum l st := by
  have h1 := K.n1
  rw [chg_sum, show 1 + (l.length - 1) = l.length by omega]
  have e : sumTo (fun k => if 1 ≤ k then farT (rdOf ByteArray.empty (filled l st) (k : Int)) (rdOf ByteArray.empty (filled l st) (rd st (k : Int))) else 0) l.length = sumTo (fun k => sumTo (fun p => if 0 < k then dif (yL l st p k) (yL l st p (sOf st k)) else 0) (rdOf ByteArray.empty l 0).size) l.length := by
    refine sumTo_congr _ (fun k hk => ?_)
    by_cases h0 : 0 < k
    · have hp := K.par k h0 hk
      rw [if_pos (by omega)]
      have es : rd st (k : Int) = ((sOf st k : Nat) : Int) := by unfold sOf; omega
      rw [es, K_far K k (sOf st k) hk (by unfold sOf; omega)]
      exact sumTo_congr _ (fun p _ => by rw [if_pos h0])
    · rw [if_neg (by omega), sumTo_zero]
      intro p _
      exact if_neg h0
  rw [e, sumTo_swap]
  exact sumTo_congr _ (fun p hp => (K_clean K p hp).2)
theorem K_bd : 0 ≤ fSum l st ∧ fSum l st ≤ 1000 := by
  have := K.p8
  have := K.n6
  have hb : ∀ p, p < (rdOf ByteArray.empty l 0).size → 0 ≤ fFew l st p ∧ fFew l st p ≤ 6 := by
    intro p hp
    rw [← (K_clean K p hp).2]
    refine ⟨sumTo_nonneg _ (fun k _ => ?_), ?_⟩
    · have := dif_bd (yL l st p k) (yL l st p (sOf st k))
      split <;> omega
    · have := sumTo_bound (z := 1) (f := fun k => if 0 < k then dif (yL l st p k) (yL l st p (sOf st k)) else 0) l.length (fun k _ => by
        have := dif_bd (yL l st p k) (yL l st p (sOf st k))
        split <;> omega)
      omega
  have a := sumTo_nonneg (f := fFew l st) (rdOf ByteArray.empty l 0).size (fun p hp => (hb p hp).1)
  have b := sumTo_bound (f := fFew l st) (z := 6) (rdOf ByteArray.empty l 0).size (fun p hp => (hb p hp).2)
  unfold fSum
  omega
end
theorem impl_fewest (l : List ByteArray) (st : List Int) (hs : ∀ t ∈ l, t.size ≤ 9223372036854775806) (hl : st.length ≤ 1048576) : EvP (fun k => impl_StemFewest.f k l st) (Tells (VS l st) (fSum l st)) := by
  unfold impl_StemFewest.f
  refine EvP.bind (impl_fill l st hs hl) (fun a ha => ?_)
  by_cases V : VS l st
  · rw [ha.1 V]
    have K := stemK V
    have p8 := K.p8
    refine EvP.yes rfl ?_
    have hlen : (filled l st).length = l.length := fillM_len _ _ _
    refine EvP.bind (impl_changes (filled l st) st (rdOf ByteArray.empty l 0).size (by omega) (fun t ht => ?_) (by rw [hlen]; exact K.n6) (by rw [hlen]; exact K.stl) (fun j a b => K.par j a (by have := K.stl; omega)) (by rw [hlen]; exact K.n1)) (fun c hc => EvP.ret ⟨fun _ => ?_, fun h => absurd V h⟩)
    · obtain ⟨j, hj, rfl⟩ := List.getElem_of_mem ht
      have e := K_rd (l := l) (st := st) j (by omega)
      rw [rd_at hj] at e
      rw [e]
      exact fillT_len _ _
    · rw [hc, hlen]
      exact K_chg K
  · rw [ha.2 V]
    exact EvP.no (by decide) (EvP.ret ⟨fun h => absurd h V, fun _ => rfl⟩)
section
variable {l : List ByteArray} {st : List Int} (K : StemK l st l.length (rdOf ByteArray.empty l 0).size)
include K
end
section
variable {l : List ByteArray} {st : List Int} (K : StemK l st l.length (rdOf ByteArray.empty l 0).size)
include K
end
end Go.Proofs.YtejoneninbdjbaaDoor.Pur
end
section
namespace Go.Proofs.YtejoneninbdjbaaDoor.E
open Go.RowKit Go.Proofs.YtejoneninbdjbaaDoorW.PrintWords Go.Proofs.YtejoneninbdjbaaDoorW.PrintLast Go.Proofs.YtejoneninbdjbaaDoorW.PrintMore
attribute [local go_sem] max2_int min2_int max_two min_two max_three min_three max_four min_four
set_option linter.unusedVariables false
set_option linter.unusedSimpArgs false
attribute [local go_sem] str_leq_ str_gtr_ str_geq_
mutual
def spec_StemDepth.j0 : Nat → List Int → Int → Bool → Option (Int)
 | 0, _, _, _ => none
 | k + 1, x1, x2, x19 => if x19 = true then (some (-1)) else (spec_StemDepth.l0 k x1 x2 0)
def spec_StemDepth.l0 : Nat → List Int → Int → Int → Option (Int)
 | 0, _, _, _ => none
 | k + 1, x1, x2, x7 => if x2 > 0 then (if 0 ≤ x2 then (if x2 < (x1.length : Int) then (spec_StemDepth.l0 k x1 (rd x1 x2) (wrap64 (x7 + 1))) else (none)) else (none)) else (some x7)
end
def spec_StemDepth.f (k : Nat) (l0 : List ByteArray) (l1 : List Int) (a2 : Int) : Option (Int) := (spec_StemValid.f k l0 l1).bind fun t311 => (if t311 = true then ((spec_l6In.f a2 0 (wrap64 ((l1.length : Int) - 1))).bind fun t312 => (spec_StemDepth.j0 k l1 a2 (!t312))) else (spec_StemDepth.j0 k l1 a2 true))
end Go.Proofs.YtejoneninbdjbaaDoor.E
end
section
namespace Go.Proofs.YtejoneninbdjbaaDoor.E
open Go.RowKit Go.Proofs.YtejoneninbdjbaaDoorW.PrintWords Go.Proofs.YtejoneninbdjbaaDoorW.PrintLast Go.Proofs.YtejoneninbdjbaaDoorW.PrintMore
attribute [local go_sem] max2_int min2_int max_two min_two max_three min_three max_four min_four
set_option linter.unusedVariables false
set_option linter.unusedSimpArgs false
attribute [local go_sem] str_leq_ str_gtr_ str_geq_
def laws_FnExactStemDepth.f (k : Nat) (l0 : List ByteArray) (l1 : List Int) (a2 : Int) : Option (Bool) := if (l1.length : Int) > 1048576 then (some true) else ((laws_szStringS.f k l0 1048576).bind fun t314 => (if t314 < 0 then (some true) else ((laws_toStringS.f k l0).bind fun t315 => ((laws_toIntS.f k l1).bind fun t318 => ((spec_StemDepth.f k t315 t318 a2).bind fun t321 => ((laws_toStringS.f k l0).bind fun t322 => ((laws_toIntS.f k l1).bind fun t325 => ((impl_StemDepth.f k t322 t325 a2).bind fun t328 => (if t328 = t321 then ((laws_toStringS.f k l0).bind fun t329 => ((laws_eqStringS.f k t322 t329).bind fun t332 => (if t332 = true then ((laws_toIntS.f k l1).bind fun t333 => ((laws_eqIntS.f k t325 t333).bind fun t336 => (if t336 = true then (some true) else (some false)))) else (some false)))) else (some false))))))))))
end Go.Proofs.YtejoneninbdjbaaDoor.E
end
section
namespace Go.Proofs.YtejoneninbdjbaaDoor.Pur
open Go.RowKit Go.Proofs.YtejoneninbdjbaaDoorW.PrintWords Go.Proofs.YtejoneninbdjbaaDoorW.PrintMore Go.Proofs.YtejoneninbdjbaaDoor.E
theorem vs_stok {l : List ByteArray} {st : List Int} (V : VS l st) : stOkB l st = true := by
  obtain ⟨l1, l6, _⟩ := books_ok V.1
  unfold stOkB
  rw [Bool.and_eq_true, Bool.and_eq_true]
  refine ⟨⟨decide_eq_true V.2.2.1, decide_eq_true (by omega)⟩, List.all_eq_true.mpr (fun j hj => ?_)⟩
  have hj := List.mem_range.mp hj
  by_cases e : j = 0
  · rw [decide_eq_true e]; rfl
  · have := V.2.2.2.2 j (by omega) hj
    rw [decide_eq_true this.1, decide_eq_true this.2, Bool.and_self, Bool.or_true]
def DepOk (l : List ByteArray) (st : List Int) (i : Int) : Prop := VS l st ∧ 0 ≤ i ∧ i < st.length
theorem impl_depth (l : List ByteArray) (st : List Int) (i : Int) (hs : ∀ t ∈ l, t.size ≤ 9223372036854775806) (hl : st.length ≤ 1048576) : EvP (fun k => impl_StemDepth.f k l st i) (Tells (DepOk l st i) ((depth st i.toNat : Nat) : Int)) := by
  unfold impl_StemDepth.f
  refine EvP.bind (impl_stem l st hs hl) (fun a ha => ?_)
  refine EvP.ite (fun h1 => ?_) (fun h1 => EvP.ret ⟨fun h => absurd (ha.mpr h.1) h1, fun _ => rfl⟩)
  have V := ha.mp h1
  refine EvP.ite (fun h2 => EvP.ret ⟨fun h => absurd h.2 (by omega), fun _ => rfl⟩) (fun h2 => ?_)
  refine EvP.ite (fun h3 => EvP.ret ⟨fun h => absurd h.2 (by omega), fun _ => rfl⟩) (fun h3 => ?_)
  exact EvP.yes (vs_stok V) (EvP.ret ⟨fun _ => rfl, fun h => absurd ⟨V, by omega, by omega⟩ h⟩)
end Go.Proofs.YtejoneninbdjbaaDoor.Pur
end
section
namespace Go.Proofs.YtejoneninbdjbaaDoor.E
open Go.RowKit Go.Proofs.YtejoneninbdjbaaDoorW.PrintWords Go.Proofs.YtejoneninbdjbaaDoorW.PrintLast Go.Proofs.YtejoneninbdjbaaDoorW.PrintMore
attribute [local go_sem] max2_int min2_int max_two min_two max_three min_three max_four min_four
set_option linter.unusedVariables false
set_option linter.unusedSimpArgs false
attribute [local go_sem] str_leq_ str_gtr_ str_geq_
def laws_markText.l0 : Nat → Int → ByteArray → Option (ByteArray)
 | 0, _, _ => none
 | k + 1, x0, x3 => if x0 > 0 then ((some (([(wrap64 (48 + (Int.tmod x0 10))) % 256] : List Int) : List Int)).bind fun y417 => (if (strOfNums y417).size + x3.size ≤ 9223372036854775807 then (laws_markText.l0 k (wrap64 (Int.tdiv x0 10)) ((strOfNums y417) ++ x3)) else (none))) else (if 1 + x3.size ≤ 9223372036854775807 then (some ((⟨#[109]⟩ : ByteArray) ++ x3)) else (none))
def laws_markText.f (k : Nat) (a0 : Int) : Option (ByteArray) := if a0 ≤ 0 then (some (⟨#[109, 48]⟩ : ByteArray)) else (laws_markText.l0 k a0 (⟨#[]⟩ : ByteArray))
end Go.Proofs.YtejoneninbdjbaaDoor.E
end
section
namespace Go.Proofs.YtejoneninbdjbaaDoor.E
open Go.RowKit Go.Proofs.YtejoneninbdjbaaDoorW.PrintWords Go.Proofs.YtejoneninbdjbaaDoorW.PrintLast Go.Proofs.YtejoneninbdjbaaDoorW.PrintMore
attribute [local go_sem] max2_int min2_int max_two min_two max_three min_three max_four min_four
set_option linter.unusedVariables false
set_option linter.unusedSimpArgs false
attribute [local go_sem] str_leq_ str_gtr_ str_geq_
def laws_markStringS.l0 : Nat → List ByteArray → Int → Int → Option (Int × List ByteArray)
 | 0, _, _, _ => none
 | k + 1, x0, x1, x5 => if x5 < (x0.length : Int) then ((laws_markText.f k x1).bind fun t420 => (if 0 ≤ x5 then (laws_markStringS.l0 k (x0.set (x5 : Int).toNat t420) (wrap64 (x1 + 1)) (wrap64 (x5 + 1))) else (none))) else (some (x1, x0))
def laws_markStringS.f (k : Nat) (l0 : List ByteArray) (a1 : Int) : Option (Int × List ByteArray) := laws_markStringS.l0 k l0 a1 0
end Go.Proofs.YtejoneninbdjbaaDoor.E
end
section
namespace Go.Proofs.YtejoneninbdjbaaDoor.E
open Go.RowKit Go.Proofs.YtejoneninbdjbaaDoorW.PrintWords Go.Proofs.YtejoneninbdjbaaDoorW.PrintLast Go.Proofs.YtejoneninbdjbaaDoorW.PrintMore
attribute [local go_sem] max2_int min2_int max_two min_two max_three min_three max_four min_four
set_option linter.unusedVariables false
set_option linter.unusedSimpArgs false
attribute [local go_sem] str_leq_ str_gtr_ str_geq_
mutual
def spec_StemBest.l0 : Nat → List ByteArray → List Int → Int → Option (List Int × Bool)
 | 0, _, _, _ => none
 | k + 1, x0, x4, x5 => if x5 < (x0.length : Int) then (spec_StemBest.l1 k x0 x4 x5 0 0) else (some (x4, true))
def spec_StemBest.l1 : Nat → List ByteArray → List Int → Int → Int → Int → Option (List Int × Bool)
 | 0, _, _, _, _, _ => none
 | k + 1, x0, x4, x5, x6, x7 => if x7 < x5 then (if 0 ≤ x5 then (if x5 < (x0.length : Int) then (if 0 ≤ x7 then (if x7 < (x0.length : Int) then ((spec_l7Far.f k (rdOf ByteArray.empty x0 x5) (rdOf ByteArray.empty x0 x7)).bind fun t486 => (if 0 ≤ x6 then (if x6 < (x0.length : Int) then ((spec_l7Far.f k (rdOf ByteArray.empty x0 x5) (rdOf ByteArray.empty x0 x6)).bind fun t489 => (if t486 < t489 then (spec_StemBest.l1 k x0 x4 x5 x7 (wrap64 (x7 + 1))) else (spec_StemBest.l1 k x0 x4 x5 x6 (wrap64 (x7 + 1))))) else (none)) else (none))) else (none)) else (none)) else (none)) else (none)) else (if x4.length < 17592186044416 then (spec_StemBest.l0 k x0 (x4 ++ [x6]) (wrap64 (x5 + 1))) else (none))
end
def spec_StemBest.f (k : Nat) (l0 : List ByteArray) : Option (List Int × Bool) := (spec_BooksValid.f k l0).bind fun t474 => (if t474 = true then (spec_StemBest.l0 k l0 (([(-1)] : List Int)) 1) else (some ((([] : List Int)), false)))
end Go.Proofs.YtejoneninbdjbaaDoor.E
end
section
namespace Go.Proofs.YtejoneninbdjbaaDoor.E
open Go.RowKit Go.Proofs.YtejoneninbdjbaaDoorW.PrintWords Go.Proofs.YtejoneninbdjbaaDoorW.PrintLast Go.Proofs.YtejoneninbdjbaaDoorW.PrintMore
attribute [local go_sem] max2_int min2_int max_two min_two max_three min_three max_four min_four
set_option linter.unusedVariables false
set_option linter.unusedSimpArgs false
attribute [local go_sem] str_leq_ str_gtr_ str_geq_
mutual
def impl_StemBest.l0 : Nat → List ByteArray → List Int → Int → Option (List Int × Bool)
 | 0, _, _, _ => none
 | k + 1, x0, x4, x5 => if x5 < (x0.length : Int) then (impl_StemBest.l1 k x0 x4 x5 0 1) else (some (x4, true))
def impl_StemBest.l1 : Nat → List ByteArray → List Int → Int → Int → Int → Option (List Int × Bool)
 | 0, _, _, _, _, _ => none
 | k + 1, x0, x4, x5, x6, x7 => if x7 < x5 then (if 0 ≤ x5 then (if x5 < (x0.length : Int) then (if 0 ≤ x7 then (if x7 < (x0.length : Int) then ((impl_farBetween.f k (rdOf ByteArray.empty x0 x5) (rdOf ByteArray.empty x0 x7)).bind fun t499 => (if 0 ≤ x6 then (if x6 < (x0.length : Int) then ((impl_farBetween.f k (rdOf ByteArray.empty x0 x5) (rdOf ByteArray.empty x0 x6)).bind fun t502 => (if t499 < t502 then (impl_StemBest.l1 k x0 x4 x5 x7 (wrap64 (x7 + 1))) else (impl_StemBest.l1 k x0 x4 x5 x6 (wrap64 (x7 + 1))))) else (none)) else (none))) else (none)) else (none)) else (none)) else (none)) else (if x4.length < 17592186044416 then (impl_StemBest.l0 k x0 (x4 ++ [x6]) (wrap64 (x5 + 1))) else (none))
end
def impl_StemBest.f (k : Nat) (l0 : List ByteArray) : Option (List Int × Bool) := (impl_BooksValid.f k l0).bind fun t490 => (if t490 = true then (impl_StemBest.l0 k l0 (([(-1)] : List Int)) 1) else (some (([] : List Int), false)))
end Go.Proofs.YtejoneninbdjbaaDoor.E
end
section
namespace Go.Proofs.YtejoneninbdjbaaDoor.E
open Go.RowKit Go.Proofs.YtejoneninbdjbaaDoorW.PrintWords Go.Proofs.YtejoneninbdjbaaDoorW.PrintLast Go.Proofs.YtejoneninbdjbaaDoorW.PrintMore
attribute [local go_sem] max2_int min2_int max_two min_two max_three min_three max_four min_four
set_option linter.unusedVariables false
set_option linter.unusedSimpArgs false
attribute [local go_sem] str_leq_ str_gtr_ str_geq_
mutual
def laws_FnExactStemBest.j0 : Nat → List ByteArray → List Int → Bool → List ByteArray → List Int → Bool → Bool → Option (Bool)
 | 0, _, _, _, _, _, _, _ => none
 | k + 1, x0, x4, x5, x6, x7, x8, x40 => if x40 = true then (some false) else ((laws_toStringS.f k x0).bind fun t519 => ((laws_eqStringS.f k x6 t519).bind fun t522 => (if t522 = true then ((laws_markStringS.f k x6 1).bind fun bt523 => (if bt523.1 < 0 then (laws_FnExactStemBest.j1 k x0 x4 x5 x7 true) else ((laws_eqIntS.f k x7 x4).bind fun t525 => (if t525 = true then (laws_FnExactStemBest.j1 k x0 x4 x5 x7 (x8 != x5)) else (laws_FnExactStemBest.j1 k x0 x4 x5 x7 true))))) else (some false))))
def laws_FnExactStemBest.j1 : Nat → List ByteArray → List Int → Bool → List Int → Bool → Option (Bool)
 | 0, _, _, _, _, _ => none
 | k + 1, x0, x4, x5, x7, x61 => if x61 = true then (some false) else ((laws_markIntS.f k x7 1).bind fun bt526 => ((laws_heldIntS.f k bt526.2 1).bind fun t528 => (if t528 < 0 then (some false) else (if t528 = bt526.1 then ((laws_toStringS.f k x0).bind fun t529 => ((impl_StemBest.f k t529).bind fun bt532 => ((laws_eqIntS.f k bt532.1 x4).bind fun t536 => (if t536 = true then (laws_FnExactStemBest.j2 k bt526.2 bt526.1 (bt532.2 != x5)) else (laws_FnExactStemBest.j2 k bt526.2 bt526.1 true))))) else (some false)))))
def laws_FnExactStemBest.j2 : Nat → List Int → Int → Bool → Option (Bool)
 | 0, _, _, _ => none
 | k + 1, x7, x10, x87 => if x87 = true then (some false) else ((laws_heldIntS.f k x7 1).bind fun t537 => (if t537 < 0 then (some false) else (if t537 = x10 then (some true) else (some false))))
end
def laws_FnExactStemBest.f (k : Nat) (l0 : List ByteArray) : Option (Bool) := (laws_szStringS.f k l0 1048576).bind fun t503 => (if t503 < 0 then (some true) else ((laws_toStringS.f k l0).bind fun t504 => ((spec_StemBest.f k t504).bind fun bt507 => ((laws_toStringS.f k l0).bind fun t511 => ((impl_StemBest.f k t511).bind fun bt514 => ((laws_eqIntS.f k bt514.1 bt507.1).bind fun t518 => (if t518 = true then (laws_FnExactStemBest.j0 k l0 bt507.1 bt507.2 t511 bt514.1 bt514.2 (bt514.2 != bt507.2)) else (laws_FnExactStemBest.j0 k l0 bt507.1 bt507.2 t511 bt514.1 bt514.2 true))))))))
end Go.Proofs.YtejoneninbdjbaaDoor.E
end
section
namespace Go.Proofs.YtejoneninbdjbaaDoor.Pur
open Go.RowKit Go.Proofs.YtejoneninbdjbaaDoorW.PrintWords Go.Proofs.YtejoneninbdjbaaDoorW.PrintMore Go.Proofs.YtejoneninbdjbaaDoor.E
def near (l : List ByteArray) (i : Nat) : Nat → Nat → Nat → Nat
  | 0, _, b => b
  | d + 1, k, b => near l i d (k + 1) (if farT (rdOf ByteArray.empty l (i : Int)) (rdOf ByteArray.empty l (k : Int)) < farT (rdOf ByteArray.empty l (i : Int)) (rdOf ByteArray.empty l (b : Int)) then k else b)
def bests (l : List ByteArray) : Nat → Nat → List Int
  | 0, _ => []
  | d + 1, i => ((near l i (i - 1) 1 0 : Nat) : Int) :: bests l d (i + 1)
section
variable (l : List ByteArray) (n : Nat) (hn : n ≤ 1048576) (hsz : ∀ t ∈ l, t.size = n) (hl : l.length ≤ 6)
include hn hsz hl
end
def bestOf (l : List ByteArray) : List Int × Bool := if okBooks l = true then ((-1) :: bests l (l.length - 1) 1, true) else ([], false)
end Go.Proofs.YtejoneninbdjbaaDoor.Pur
end
section
namespace Go.Proofs.YtejoneninbdjbaaDoor.E
open Go.RowKit Go.Proofs.YtejoneninbdjbaaDoorW.PrintWords Go.Proofs.YtejoneninbdjbaaDoorW.PrintLast Go.Proofs.YtejoneninbdjbaaDoorW.PrintMore
attribute [local go_sem] max2_int min2_int max_two min_two max_three min_three max_four min_four
set_option linter.unusedVariables false
set_option linter.unusedSimpArgs false
attribute [local go_sem] str_leq_ str_gtr_ str_geq_
mutual
def laws_FnExactStemMove.j0 : Nat → List ByteArray → List Int → Int → Int → List Int → Bool → List ByteArray → List Int → List Int → Bool → Bool → Option (Bool)
 | 0, _, _, _, _, _, _, _, _, _, _, _ => none
 | k + 1, x0, x1, x2, x3, x10, x11, x12, x13, x14, x15, x59 => if x59 = true then (some false) else ((laws_toStringS.f k x0).bind fun t446 => ((laws_eqStringS.f k x12 t446).bind fun t449 => (if t449 = true then ((laws_toIntS.f k x1).bind fun t450 => ((laws_eqIntS.f k x13 t450).bind fun t453 => (if t453 = true then ((laws_markStringS.f k x12 1).bind fun bt454 => ((laws_markIntS.f k x13 bt454.1).bind fun bt456 => (if bt456.1 < 0 then (laws_FnExactStemMove.j1 k x0 x1 x2 x3 x10 x11 x14 true) else ((laws_eqIntS.f k x14 x10).bind fun t458 => (if t458 = true then (laws_FnExactStemMove.j1 k x0 x1 x2 x3 x10 x11 x14 (x15 != x11)) else (laws_FnExactStemMove.j1 k x0 x1 x2 x3 x10 x11 x14 true)))))) else (some false)))) else (some false))))
def laws_FnExactStemMove.j1 : Nat → List ByteArray → List Int → Int → Int → List Int → Bool → List Int → Bool → Option (Bool)
 | 0, _, _, _, _, _, _, _, _ => none
 | k + 1, x0, x1, x2, x3, x10, x11, x14, x88 => if x88 = true then (some false) else ((laws_markIntS.f k x14 1).bind fun bt459 => ((laws_heldIntS.f k bt459.2 1).bind fun t461 => (if t461 < 0 then (some false) else (if t461 = bt459.1 then ((laws_toStringS.f k x0).bind fun t462 => ((laws_toIntS.f k x1).bind fun t465 => ((impl_StemMove.f k t462 t465 x2 x3).bind fun bt468 => ((laws_eqIntS.f k bt468.1 x10).bind fun t472 => (if t472 = true then (laws_FnExactStemMove.j2 k bt459.2 bt459.1 (bt468.2 != x11)) else (laws_FnExactStemMove.j2 k bt459.2 bt459.1 true)))))) else (some false)))))
def laws_FnExactStemMove.j2 : Nat → List Int → Int → Bool → Option (Bool)
 | 0, _, _, _ => none
 | k + 1, x14, x17, x118 => if x118 = true then (some false) else ((laws_heldIntS.f k x14 1).bind fun t473 => (if t473 < 0 then (some false) else (if t473 = x17 then (some true) else (some false))))
end
def laws_FnExactStemMove.f (k : Nat) (l0 : List ByteArray) (l1 : List Int) (a2 : Int) (a3 : Int) : Option (Bool) := if (l1.length : Int) > 1048576 then (some true) else ((laws_szStringS.f k l0 1048576).bind fun t424 => (if t424 < 0 then (some true) else ((laws_toStringS.f k l0).bind fun t425 => ((laws_toIntS.f k l1).bind fun t428 => ((spec_StemMove.f k t425 t428 a2 a3).bind fun bt431 => ((laws_toStringS.f k l0).bind fun t435 => ((laws_toIntS.f k l1).bind fun t438 => ((impl_StemMove.f k t435 t438 a2 a3).bind fun bt441 => ((laws_eqIntS.f k bt441.1 bt431.1).bind fun t445 => (if t445 = true then (laws_FnExactStemMove.j0 k l0 l1 a2 a3 bt431.1 bt431.2 t435 t438 bt441.1 bt441.2 (bt441.2 != bt431.2)) else (laws_FnExactStemMove.j0 k l0 l1 a2 a3 bt431.1 bt431.2 t435 t438 bt441.1 bt441.2 true)))))))))))
end Go.Proofs.YtejoneninbdjbaaDoor.E
end
section
namespace Go.Proofs.YtejoneninbdjbaaDoor.Pur
open Go.RowKit Go.Proofs.YtejoneninbdjbaaDoorW.PrintWords Go.Proofs.YtejoneninbdjbaaDoorW.PrintMore Go.Proofs.YtejoneninbdjbaaDoor.E
def MvOk (l : List ByteArray) (st : List Int) (i tt : Int) : Prop := VS l st ∧ 1 ≤ i ∧ i < st.length ∧ 0 ≤ tt ∧ tt < i
def Mv (l : List ByteArray) (st : List Int) (i tt : Int) (r : List Int × Bool) : Prop := (MvOk l st i tt → r = (st.set i.toNat tt, true)) ∧ (¬ MvOk l st i tt → r = ([], false))
theorem Mv.same {l : List ByteArray} {st : List Int} {i tt : Int} {a b : List Int × Bool} (h : Mv l st i tt a) (k : Mv l st i tt b) : a = b := by
  by_cases hc : MvOk l st i tt
  · rw [h.1 hc, k.1 hc]
  · rw [h.2 hc, k.2 hc]
theorem Mv.len {l : List ByteArray} {st : List Int} {i tt : Int} {a : List Int × Bool} (h : Mv l st i tt a) : a.1.length ≤ st.length := by
  by_cases hc : MvOk l st i tt
  · rw [h.1 hc]; simp
  · rw [h.2 hc]; simp
theorem in_at (a b c : Int) : EvP (fun _ : Nat => spec_l6In.f a b c) (· = decide (b ≤ a ∧ a ≤ c)) := by
  unfold spec_l6In.f
  by_cases h : a ≥ b
  · rw [if_pos h]; exact EvP.ret (decide_eq_decide.mpr (by omega))
  · rw [if_neg h]; exact EvP.ret (decide_eq_false (by omega)).symm
theorem spec_move (l : List ByteArray) (st : List Int) (i tt : Int) (hs : ∀ t ∈ l, t.size ≤ 9223372036854775806) (hl : st.length ≤ 1048576) : EvP (fun k => spec_StemMove.f k l st i tt) (Mv l st i tt) := by
  unfold spec_StemMove.f
  refine EvP.bind (spec_stem l st hs hl) (fun a ha => ?_)
  refine EvP.ite (fun h1 => ?_) (fun h1 => EvP.ret ⟨fun h => absurd (ha.mpr h.1) h1, fun _ => rfl⟩)
  have V := ha.mp h1
  have e1 : Hd (wrap64 ((st.length : Int) - 1) = (st.length : Int) - 1) := ⟨w64 (by omega) (by omega)⟩
  rw [e1.out]
  refine EvP.bind (in_at _ _ _) (fun b hb => ?_)
  refine EvP.ite (fun h2 => ?_) (fun h2 => EvP.ret ⟨fun h => absurd (hb.trans (decide_eq_true (by have := h.2; omega))) h2, fun _ => rfl⟩)
  have h2 := of_decide_eq_true (hb.symm.trans h2)
  have e2 : Hd (wrap64 (i - 1) = i - 1) := ⟨w64 (by omega) (by omega)⟩
  rw [e2.out]
  refine EvP.bind (in_at _ _ _) (fun c hc => ?_)
  refine EvP.ite (fun h3 => ?_) (fun h3 => EvP.ret ⟨fun h => absurd (hc.trans (decide_eq_true (by have := h.2; omega))) h3, fun _ => rfl⟩)
  have h3 := of_decide_eq_true (hc.symm.trans h3)
  refine EvP.bind (P := (· = [])) (EvP.con rfl rfl) (fun y hy => ?_)
  subst hy
  refine EvP.yes (by simp only [List.length_nil]; omega) ?_
  refine EvP.bind (P := (· = st)) (EvP.con (by rw [List.nil_append]) rfl) (fun y hy => ?_)
  subst hy
  exact EvP.yes (by omega) (EvP.yes (by omega) (EvP.ret ⟨fun _ => rfl, fun h => absurd ⟨V, by omega, by omega, by omega, by omega⟩ h⟩))
theorem impl_move (l : List ByteArray) (st : List Int) (i tt : Int) (hs : ∀ t ∈ l, t.size ≤ 9223372036854775806) (hl : st.length ≤ 1048576) : EvP (fun k => impl_StemMove.f k l st i tt) (Mv l st i tt) := by
  unfold impl_StemMove.f
  refine EvP.bind (impl_stem l st hs hl) (fun a ha => ?_)
  refine EvP.ite (fun h1 => ?_) (fun h1 => EvP.ret ⟨fun h => absurd (ha.mpr h.1) h1, fun _ => rfl⟩)
  have V := ha.mp h1
  refine EvP.ite (fun h2 => EvP.ret ⟨fun h => absurd h.2 (by omega), fun _ => rfl⟩) (fun h2 => ?_)
  refine EvP.ite (fun h3 => EvP.ret ⟨fun h => absurd h.2 (by omega), fun _ => rfl⟩) (fun h3 => ?_)
  refine EvP.ite (fun h4 => EvP.ret ⟨fun h => absurd h.2 (by omega), fun _ => rfl⟩) (fun h4 => ?_)
  refine EvP.ite (fun h5 => EvP.ret ⟨fun h => absurd h.2 (by omega), fun _ => rfl⟩) (fun h5 => ?_)
  refine EvP.bind (P := (· = st)) ?_ (fun y hy => ?_)
  · unfold impl_copiedNumbers.f
    exact EvP.yes (by omega) (EvP.ret rfl)
  subst hy
  exact EvP.yes (by omega) (EvP.yes (by omega) (EvP.ret ⟨fun _ => rfl, fun h => absurd ⟨V, by omega, by omega, by omega, by omega⟩ h⟩))
end Go.Proofs.YtejoneninbdjbaaDoor.Pur
end
section
namespace Go.Proofs.YtejoneninbdjbaaDoor.E
open Go.RowKit Go.Proofs.YtejoneninbdjbaaDoorW.PrintWords Go.Proofs.YtejoneninbdjbaaDoorW.PrintLast Go.Proofs.YtejoneninbdjbaaDoorW.PrintMore
attribute [local go_sem] max2_int min2_int max_two min_two max_three min_three max_four min_four
set_option linter.unusedVariables false
set_option linter.unusedSimpArgs false
attribute [local go_sem] str_leq_ str_gtr_ str_geq_
def spec_DrawStemBest.f (k : Nat) (l0 : List Int) : Option (List ByteArray) := (spec_l6Open.f l0).bind fun bt588 => ((spec_l92Books.f k bt588.1 bt588.2 false).bind fun bt591 => (some bt591.1))
end Go.Proofs.YtejoneninbdjbaaDoor.E
end
section
namespace Go.Proofs.YtejoneninbdjbaaDoor.E
open Go.RowKit Go.Proofs.YtejoneninbdjbaaDoorW.PrintWords Go.Proofs.YtejoneninbdjbaaDoorW.PrintLast Go.Proofs.YtejoneninbdjbaaDoorW.PrintMore
attribute [local go_sem] max2_int min2_int max_two min_two max_three min_three max_four min_four
set_option linter.unusedVariables false
set_option linter.unusedSimpArgs false
attribute [local go_sem] str_leq_ str_gtr_ str_geq_
mutual
def laws_FnStemBest.j0 : Nat → List ByteArray → List Int → Bool → List Int → Bool → Bool → Option (Bool)
 | 0, _, _, _, _, _, _ => none
 | k + 1, x3, x4, x5, x6, x7, x41 => if x41 = true then (if (x5 == x7) = true then ((laws_sameInts.f k x4 x6).bind fun t609 => (some t609)) else (some false)) else ((impl_StemChanges.f k x3 x4).bind fun t610 => (laws_FnStemBest.l0 k x3 x4 t610 1))
def laws_FnStemBest.l0 : Nat → List ByteArray → List Int → Int → Int → Option (Bool)
 | 0, _, _, _, _ => none
 | k + 1, x3, x4, x8, x9 => if x9 < (x3.length : Int) then (laws_FnStemBest.l1 k x3 x4 x8 x9 0) else (some (decide (x8 ≥ 0)))
def laws_FnStemBest.l1 : Nat → List ByteArray → List Int → Int → Int → Int → Option (Bool)
 | 0, _, _, _, _, _ => none
 | k + 1, x3, x4, x8, x9, x10 => if x10 < x9 then ((impl_StemMove.f k x3 x4 x9 x10).bind fun bt611 => ((impl_StemChanges.f k x3 bt611.1).bind fun t615 => (if bt611.2 = true then (if t615 < x8 then (some false) else (if t615 = x8 then (if 0 ≤ x9 then (if x9 < (x4.length : Int) then (if x10 < (rd x4 x9) then (some false) else (laws_FnStemBest.l1 k x3 x4 x8 x9 (wrap64 (x10 + 1)))) else (none)) else (none)) else (laws_FnStemBest.l1 k x3 x4 x8 x9 (wrap64 (x10 + 1))))) else (some false)))) else (laws_FnStemBest.l0 k x3 x4 x8 (wrap64 (x9 + 1)))
end
def laws_FnStemBest.f (k : Nat) (l0 : List Int) : Option (Bool) := if (l0.length : Int) > 1048576 then (some true) else ((spec_DrawStemBest.f k l0).bind fun t597 => ((impl_StemBest.f k t597).bind fun bt600 => ((spec_StemBest.f k t597).bind fun bt604 => (if (bt600.2 != bt604.2) = true then (laws_FnStemBest.j0 k t597 bt600.1 bt600.2 bt604.1 bt604.2 true) else ((laws_sameInts.f k bt600.1 bt604.1).bind fun t608 => (if t608 = true then (laws_FnStemBest.j0 k t597 bt600.1 bt600.2 bt604.1 bt604.2 (!bt600.2)) else (laws_FnStemBest.j0 k t597 bt600.1 bt600.2 bt604.1 bt604.2 true)))))))
def laws_FnStemBest.Pure : Prop := ∀ (l0 : List Int), l0.length ≤ maxLen → l0.length * 1 ≤ 140737488351232 → (∀ x ∈ l0, (Lit.int .u8 x).wf = true) → ∃ k, laws_FnStemBest.f k l0 = some true
end Go.Proofs.YtejoneninbdjbaaDoor.E
end
section
namespace Go.Proofs.YtejoneninbdjbaaDoor.Pur
open Go.RowKit Go.Proofs.YtejoneninbdjbaaDoorW.PrintWords Go.Proofs.YtejoneninbdjbaaDoorW.PrintMore Go.Proofs.YtejoneninbdjbaaDoor.E
theorem same_ints_loop (l : List Int) (hl : l.length ≤ 1048576) : ∀ d i : Nat, i + d = l.length → EvP (fun k => laws_sameInts.l0 k l l (i : Int)) (· = true) := by
  intro d
  induction d with
  | zero =>
    intro i hi
    refine EvP.succ ?_
    simp only [laws_sameInts.l0]
    exact EvP.no (by omega) (EvP.ret rfl)
  | succ d ih =>
    intro i hi
    have e2 : Hd (wrap64 ((i : Int) + 1) = ((i + 1 : Nat) : Int)) := ⟨w64 (by omega) (by omega)⟩
    refine EvP.succ ?_
    simp only [laws_sameInts.l0]
    refine EvP.yes (by omega) (EvP.yes (by omega) (EvP.yes (by omega) (EvP.yes trivial ?_)))
    rw [e2.out]
    exact ih (i + 1) (by omega)
theorem same_ints (l : List Int) (hl : l.length ≤ 1048576) : EvP (fun k => laws_sameInts.f k l l) (· = true) := by
  unfold laws_sameInts.f
  exact EvP.yes rfl (same_ints_loop l hl l.length 0 (by omega))
def F (l : List ByteArray) (i k : Nat) : Int := farT (rdOf ByteArray.empty l (i : Int)) (rdOf ByteArray.empty l (k : Int))
def bst (l : List ByteArray) : List Int := (-1) :: bests l (l.length - 1) 1
theorem rd_set_eq (l : List Int) (i : Nat) (x : Int) (h : i < l.length) : rd (l.set i x) (i : Int) = x := by
  unfold rd
  rw [toNat_nat, List.getD_eq_getElem?_getD, List.getElem?_set_self h, Option.getD_some]
theorem rd_set_ne (l : List Int) (i j : Nat) (x : Int) (h : i ≠ j) : rd (l.set i x) (j : Int) = rd l (j : Int) := by
  unfold rd
  rw [toNat_nat, List.getD_eq_getElem?_getD, List.getD_eq_getElem?_getD, List.getElem?_set_ne h]
theorem vs_set {l : List ByteArray} {st : List Int} (V : VS l st) (i k : Nat) (h1 : 1 ≤ i) (hi : i < st.length) (hk : k < i) : VS l (st.set i (k : Int)) := by
  obtain ⟨v1, v2, v3, v4, v5⟩ := V
  refine ⟨v1, v2, by rw [List.length_set]; exact v3, ?_, fun j hj hj' => ?_⟩
  · have := rd_set_ne st i 0 (k : Int) (by omega)
    rw [show ((0 : Nat) : Int) = 0 from rfl] at this
    rw [this]; exact v4
  · rw [List.length_set] at hj'
    by_cases e : j = i
    · subst e; rw [rd_set_eq _ _ _ hi]; omega
    · rw [rd_set_ne _ _ _ _ (Ne.symm e)]; exact v5 j hj hj'
section
variable (l : List ByteArray) (hs : ∀ t ∈ l, t.size ≤ 9223372036854775806) (ok : okBooks l = true) (h1 : 1 ≤ l.length) (h6 : l.length ≤ 6)
include hs ok h1 h6
end
end Go.Proofs.YtejoneninbdjbaaDoor.Pur
end
section
namespace Go.Proofs.YtejoneninbdjbaaDoor.E
open Go.RowKit Go.Proofs.YtejoneninbdjbaaDoorW.PrintWords Go.Proofs.YtejoneninbdjbaaDoorW.PrintLast Go.Proofs.YtejoneninbdjbaaDoorW.PrintMore
attribute [local go_sem] max2_int min2_int max_two min_two max_three min_three max_four min_four
set_option linter.unusedVariables false
set_option linter.unusedSimpArgs false
attribute [local go_sem] str_leq_ str_gtr_ str_geq_
def spec_DrawStemFewest.f (k : Nat) (l0 : List Int) : Option (List ByteArray × List Int) := (spec_l6Open.f l0).bind fun bt679 => ((spec_l92Stem.f k bt679.1 bt679.2 true).bind fun bt682 => (some (bt682.1, bt682.2.1)))
end Go.Proofs.YtejoneninbdjbaaDoor.E
end
section
namespace Go.Proofs.YtejoneninbdjbaaDoor.E
open Go.RowKit Go.Proofs.YtejoneninbdjbaaDoorW.PrintWords Go.Proofs.YtejoneninbdjbaaDoorW.PrintLast Go.Proofs.YtejoneninbdjbaaDoorW.PrintMore
attribute [local go_sem] max2_int min2_int max_two min_two max_three min_three max_four min_four
set_option linter.unusedVariables false
set_option linter.unusedSimpArgs false
attribute [local go_sem] str_leq_ str_gtr_ str_geq_
mutual
def laws_FnStemFewest.j0 : Nat → List ByteArray → List Int → Int → Int → Bool → Option (Bool)
 | 0, _, _, _, _, _ => none
 | k + 1, x3, x4, x5, x6, x32 => if x32 = true then (some (x5 == x6)) else (if (x3.length : Int) < 6 then (laws_FnStemFewest.l0 k x3 x4 x5 (x3.length : Int) (⟨#[]⟩ : ByteArray) 0) else (if (x3.length : Int) = 1 then (some true) else (if 0 ≤ (wrap64 ((x3.length : Int) - 1)) then (if (wrap64 ((x3.length : Int) - 1)) ≤ (x3.length : Int) then (if (wrap64 ((x3.length : Int) - 1)) ≤ (x4.length : Int) then ((impl_StemFewest.f k (x3.take ((wrap64 ((x3.length : Int) - 1)) : Int).toNat) (x4.take ((wrap64 ((x3.length : Int) - 1)) : Int).toNat)).bind fun t734 => (some (decide (t734 ≤ x5)))) else (none)) else (none)) else (none))))
def laws_FnStemFewest.l0 : Nat → List ByteArray → List Int → Int → Int → ByteArray → Int → Option (Bool)
 | 0, _, _, _, _, _, _ => none
 | k + 1, x3, x4, x5, x7, x8, x9 => if 0 < (x3.length : Int) then (if x9 < ((rdOf ByteArray.empty x3 0).size : Int) then (if x8.size + 1 ≤ 9223372036854775807 then (laws_FnStemFewest.l0 k x3 x4 x5 x7 (x8 ++ (⟨#[63]⟩ : ByteArray)) (wrap64 (x9 + 1))) else (none)) else ((some (([] : List ByteArray) : List ByteArray)).bind fun y698 => (if y698.length + x3.length < 8796093022208 then ((some (y698 ++ x3 : List ByteArray)).bind fun y701 => (if y701.length < 8796093022208 then ((some (([] : List Int) : List Int)).bind fun y707 => (if y707.length + x4.length < 17592186044416 then ((some (y707 ++ x4 : List Int)).bind fun y710 => (if y710.length < 17592186044416 then ((impl_StemFewest.f k (y701 ++ [x8]) (y710 ++ [wrap64 (x7 - 1)])).bind fun t716 => (if t716 = x5 then (if x7 = 1 then (some true) else (if 0 ≤ (wrap64 (x7 - 1)) then (if (wrap64 (x7 - 1)) ≤ (x3.length : Int) then (if (wrap64 (x7 - 1)) ≤ (x4.length : Int) then ((impl_StemFewest.f k (x3.take ((wrap64 (x7 - 1)) : Int).toNat) (x4.take ((wrap64 (x7 - 1)) : Int).toNat)).bind fun t725 => (some (decide (t725 ≤ x5)))) else (none)) else (none)) else (none))) else (some false))) else (none))) else (none))) else (none))) else (none)))) else (none)
end
def laws_FnStemFewest.f (k : Nat) (l0 : List Int) : Option (Bool) := if (l0.length : Int) > 1048576 then (some true) else ((spec_DrawStemFewest.f k l0).bind fun bt689 => ((impl_StemFewest.f k bt689.1 bt689.2).bind fun t695 => ((spec_StemFewest.f k bt689.1 bt689.2).bind fun t696 => (if t695 = t696 then (laws_FnStemFewest.j0 k bt689.1 bt689.2 t695 t696 (decide (t695 < 0))) else (laws_FnStemFewest.j0 k bt689.1 bt689.2 t695 t696 true)))))
def laws_FnStemFewest.T19 : Bool × List (List Nat × List Nat) := (true, [([], []), ([0], [0]), ([1], [1]), ([2], [2]), ([2], [2]), ([4, 2], [2, 4]), ([3, 5, 2], [2, 3, 5]), ([2], [2]), ([2], [2]), ([8, 2], [2, 8]), ([7, 9, 2], [2, 7, 9]), ([6, 10, 2, 2], [2, 6, 10]), ([2], [2]), ([11, 12, 2], [2, 11, 12]), ([2, 13], [2, 13]), ([14, 11, 0, 1, 2, 3, 4, 5, 6, 7, 8, 9, 10, 11, 12, 13, 14], [14])])
def laws_FnStemFewest.B19 : List Nat := [0, 1, 3, 7, 7, 23, 63, 7, 7, 263, 903, 2047, 7, 8191, 16383, 32767]
def laws_FnStemFewest.Pure : Prop := ∀ (l0 : List Int), l0.length ≤ maxLen → l0.length * 1 ≤ 140737488351232 → (∀ x ∈ l0, (Lit.int .u8 x).wf = true) → ∃ k, laws_FnStemFewest.f k l0 = some true
end Go.Proofs.YtejoneninbdjbaaDoor.E
end
section
namespace Go.Proofs.YtejoneninbdjbaaDoor.E
open Go.RowKit Go.Proofs.YtejoneninbdjbaaDoorW.PrintWords Go.Proofs.YtejoneninbdjbaaDoorW.PrintLast Go.Proofs.YtejoneninbdjbaaDoorW.PrintMore
attribute [local go_sem] max2_int min2_int max_two min_two max_three min_three max_four min_four
set_option linter.unusedVariables false
set_option linter.unusedSimpArgs false
attribute [local go_sem] str_leq_ str_gtr_ str_geq_
def laws_lost.f (a0 : ByteArray) : Option (Bool) := if (a0.size : Int) > 0 then (if 0 < (a0.size : Int) then (some ((bt a0 0) == 63)) else (none)) else (some false)
end Go.Proofs.YtejoneninbdjbaaDoor.E
end
section
namespace Go.Proofs.YtejoneninbdjbaaDoor.E
open Go.RowKit Go.Proofs.YtejoneninbdjbaaDoorW.PrintWords Go.Proofs.YtejoneninbdjbaaDoorW.PrintLast Go.Proofs.YtejoneninbdjbaaDoorW.PrintMore
attribute [local go_sem] max2_int min2_int max_two min_two max_three min_three max_four min_four
set_option linter.unusedVariables false
set_option linter.unusedSimpArgs false
attribute [local go_sem] str_leq_ str_gtr_ str_geq_
mutual
def laws_FnStemLost.j0 : Nat → List ByteArray → List Int → Int → Int → Bool → Option (Bool)
 | 0, _, _, _, _, _ => none
 | k + 1, x3, x4, x5, x6, x31 => if x31 = true then (some (x5 == x6)) else (if 0 < (x3.length : Int) then ((laws_lost.f (rdOf ByteArray.empty x3 0)).bind fun t863 => (if t863 = true then (laws_FnStemLost.j1 k x3 x4 x5 true) else (laws_FnStemLost.j1 k x3 x4 x5 ((x3.length : Int) == 1)))) else (none))
def laws_FnStemLost.j1 : Nat → List ByteArray → List Int → Int → Bool → Option (Bool)
 | 0, _, _, _, _ => none
 | k + 1, x3, x4, x5, x43 => if x43 = true then (some (decide (x5 ≥ 0))) else (laws_FnStemLost.l0 k x3 x4 x5 (⟨#[]⟩ : ByteArray) 0)
def laws_FnStemLost.l0 : Nat → List ByteArray → List Int → Int → ByteArray → Int → Option (Bool)
 | 0, _, _, _, _, _ => none
 | k + 1, x3, x4, x5, x7, x8 => if 0 < (x3.length : Int) then (if x8 < ((rdOf ByteArray.empty x3 0).size : Int) then (if x7.size + 1 ≤ 9223372036854775807 then (laws_FnStemLost.l0 k x3 x4 x5 (x7 ++ (⟨#[63]⟩ : ByteArray)) (wrap64 (x8 + 1))) else (none)) else ((some (([x7] : List ByteArray) : List ByteArray)).bind fun y865 => (if 1 ≤ (x3.length : Int) then ((some (x3.drop 1 : List ByteArray)).bind fun y868 => (if y865.length + y868.length < 8796093022208 then ((impl_StemFewest.f k (y865 ++ y868) x4).bind fun t875 => (if t875 > x5 then (some false) else (if (x3.length : Int) = 2 then (if 1 < (x3.length : Int) then ((laws_lost.f (rdOf ByteArray.empty x3 1)).bind fun t877 => (if t877 = true then (some true) else (if t875 = 0 then ((impl_BooksFar.f k x3 0 1).bind fun t878 => (some (x5 == t878))) else (some false)))) else (none)) else (some true)))) else (none))) else (none)))) else (none)
end
def laws_FnStemLost.f (k : Nat) (l0 : List Int) : Option (Bool) := if (l0.length : Int) > 1048576 then (some true) else ((spec_DrawStemFewest.f k l0).bind fun bt854 => ((impl_StemFewest.f k bt854.1 bt854.2).bind fun t860 => ((spec_StemFewest.f k bt854.1 bt854.2).bind fun t861 => (if t860 = t861 then (laws_FnStemLost.j0 k bt854.1 bt854.2 t860 t861 (decide (t860 < 0))) else (laws_FnStemLost.j0 k bt854.1 bt854.2 t860 t861 true)))))
def laws_FnStemLost.Pure : Prop := ∀ (l0 : List Int), l0.length ≤ maxLen → l0.length * 1 ≤ 140737488351232 → (∀ x ∈ l0, (Lit.int .u8 x).wf = true) → ∃ k, laws_FnStemLost.f k l0 = some true
end Go.Proofs.YtejoneninbdjbaaDoor.E
end
section
namespace Go.Proofs.YtejoneninbdjbaaDoor.E
open Go.RowKit Go.Proofs.YtejoneninbdjbaaDoorW.PrintWords Go.Proofs.YtejoneninbdjbaaDoorW.PrintLast Go.Proofs.YtejoneninbdjbaaDoorW.PrintMore
attribute [local go_sem] max2_int min2_int max_two min_two max_three min_three max_four min_four
set_option linter.unusedVariables false
set_option linter.unusedSimpArgs false
attribute [local go_sem] str_leq_ str_gtr_ str_geq_
def spec_DrawStemChanges.f (k : Nat) (l0 : List Int) : Option (List ByteArray × List Int) := (spec_l6Open.f l0).bind fun bt879 => ((spec_l92Stem.f k bt879.1 bt879.2 false).bind fun bt882 => (some (bt882.1, bt882.2.1)))
end Go.Proofs.YtejoneninbdjbaaDoor.E
end
section
namespace Go.Proofs.YtejoneninbdjbaaDoor.E
open Go.RowKit Go.Proofs.YtejoneninbdjbaaDoorW.PrintWords Go.Proofs.YtejoneninbdjbaaDoorW.PrintLast Go.Proofs.YtejoneninbdjbaaDoorW.PrintMore
attribute [local go_sem] max2_int min2_int max_two min_two max_three min_three max_four min_four
set_option linter.unusedVariables false
set_option linter.unusedSimpArgs false
attribute [local go_sem] str_leq_ str_gtr_ str_geq_
def laws_sameTexts.l0 : Nat → List ByteArray → List ByteArray → Int → Option (Bool)
 | 0, _, _, _ => none
 | k + 1, x0, x1, x5 => if x5 < (x0.length : Int) then (if 0 ≤ x5 then (if x5 < (x1.length : Int) then (if (rdOf ByteArray.empty x0 x5).toList = (rdOf ByteArray.empty x1 x5).toList then (laws_sameTexts.l0 k x0 x1 (wrap64 (x5 + 1))) else (some false)) else (none)) else (none)) else (some true)
def laws_sameTexts.f (k : Nat) (l0 : List ByteArray) (l1 : List ByteArray) : Option (Bool) := if (l0.length : Int) = (l1.length : Int) then (laws_sameTexts.l0 k l0 l1 0) else (some false)
end Go.Proofs.YtejoneninbdjbaaDoor.E
end
section
namespace Go.Proofs.YtejoneninbdjbaaDoor.E
open Go.RowKit Go.Proofs.YtejoneninbdjbaaDoorW.PrintWords Go.Proofs.YtejoneninbdjbaaDoorW.PrintLast Go.Proofs.YtejoneninbdjbaaDoorW.PrintMore
attribute [local go_sem] max2_int min2_int max_two min_two max_three min_three max_four min_four
set_option linter.unusedVariables false
set_option linter.unusedSimpArgs false
attribute [local go_sem] str_leq_ str_gtr_ str_geq_
def laws_FnStemChanges.j0 : Nat → List ByteArray → List Int → Int → Int → Bool → Option (Bool)
 | 0, _, _, _, _, _ => none
 | k + 1, x3, x4, x5, x6, x31 => if x31 = true then (some (x5 == x6)) else ((impl_StemBest.f k x3).bind fun bt899 => ((impl_StemFill.f k x3 x4).bind fun bt903 => (if bt899.2 = true then (if bt903.2 = true then ((impl_StemFewest.f k x3 x4).bind fun t907 => (if t907 = x5 then ((impl_StemChanges.f k x3 bt899.1).bind fun t908 => (if t908 ≤ x5 then ((laws_sameTexts.f k bt903.1 x3).bind fun t909 => (some t909)) else (some false))) else (some false))) else (some false)) else (some false))))
def laws_FnStemChanges.f (k : Nat) (l0 : List Int) : Option (Bool) := if (l0.length : Int) > 1048576 then (some true) else ((spec_DrawStemChanges.f k l0).bind fun bt891 => ((impl_StemChanges.f k bt891.1 bt891.2).bind fun t897 => ((spec_StemChanges.f k bt891.1 bt891.2).bind fun t898 => (if t897 = t898 then (laws_FnStemChanges.j0 k bt891.1 bt891.2 t897 t898 (decide (t897 < 0))) else (laws_FnStemChanges.j0 k bt891.1 bt891.2 t897 t898 true)))))
def laws_FnStemChanges.Pure : Prop := ∀ (l0 : List Int), l0.length ≤ maxLen → l0.length * 1 ≤ 140737488351232 → (∀ x ∈ l0, (Lit.int .u8 x).wf = true) → ∃ k, laws_FnStemChanges.f k l0 = some true
end Go.Proofs.YtejoneninbdjbaaDoor.E
end
section
namespace Go.Proofs.YtejoneninbdjbaaDoor.Pur
open Go.RowKit Go.Proofs.YtejoneninbdjbaaDoorW.PrintWords Go.Proofs.YtejoneninbdjbaaDoorW.PrintMore Go.Proofs.YtejoneninbdjbaaDoor.E
theorem s_same {st st' : List Int} {k : Nat} (h : rd st (k : Int) = rd st' (k : Int)) : sOf st k = sOf st' k := by unfold sOf; rw [h]
def gone : Nat → ByteArray
  | 0 => ⟨#[]⟩
  | p + 1 => gone p ++ ⟨#[63]⟩
section
variable {l : List ByteArray} {st : List Int} (V : VS l st) (hs' : ∀ t ∈ l, t.size ≤ 9223372036854775806) (hst : st.length ≤ 1048576)
include V hs' hst
end
theorem fsum_move {l : List ByteArray} {st st' : List Int} {i : Nat} (V : VS l st) (V' : VS l st') (h : ∀ q, q ≠ i → rd st' (q : Int) = rd st (q : Int)) : fSum l st' ≤ fSum l st + ((rdOf ByteArray.empty l 0).size : Int) := by
  have e : ∀ P : Nat, sumTo (fFew l st') P ≤ sumTo (fFew l st) P + (P : Int) := by
    intro P
    induction P with
    | zero => exact Int.le_refl _
    | succ P ih =>
      have := Few.moved (i := i) (K_few (stemK V) P) (K_few (stemK V') P) (fun q hq => s_same (h q hq))
      rw [sumTo, sumTo]
      omega
  exact e _
theorem law_move (l0 : List Int) (_ : (l0.length : Int) ≤ 9223372036854775807) (hw : ∀ x ∈ l0, (Lit.int .u8 x).wf = true) : ∃ k, laws_FnStemMove.f k l0 = some true := by
  refine EvP.rounds (?_ : EvP (fun k => laws_FnStemMove.f k l0) (· = true))
  unfold laws_FnStemMove.f
  refine EvP.ite (fun _ => EvP.ret rfl) (fun h0 => ?_)
  refine EvP.bind (P := fun r => r.1.length ≤ 5 ∧ (∀ t ∈ r.1, t.size ≤ 5) ∧ r.2.1.length ≤ 5) ?_ (fun r hr => ?_)
  · unfold spec_DrawStemMove.f
    refine EvP.bind (open_code l0 hw) (fun r hr => ?_)
    refine EvP.bind (drawn_stem hr.1 true r.2 (by omega)) (fun b hb => ?_)
    obtain ⟨b1, b2, b3, b4, b5⟩ := hb
    refine EvP.bind (at_ok hr.1 b.2.2 (b.1.length : Int) (by omega) (by omega)) (fun i hi => ?_)
    have hm : 1 ≤ mx 1 i.1 ∧ mx 1 i.1 ≤ 6 := by unfold mx; omega
    refine EvP.bind (at_ok hr.1 i.2 (mx 1 i.1) (by omega) (by omega)) (fun t ht => EvP.ret ⟨b1, b2, b3⟩)
  obtain ⟨l, st, i, tt⟩ := r
  obtain ⟨r1, r2, r3⟩ := hr
  dsimp only at r1 r2 r3 ⊢
  have hs' : ∀ t ∈ l, t.size ≤ 9223372036854775806 := fun t ht => Nat.le_trans (r2 t ht) (by omega)
  have hst : st.length ≤ 1048576 := by omega
  refine EvP.bind (impl_move l st i tt hs' hst) (fun a ha => ?_)
  refine EvP.bind (spec_move l st i tt hs' hst) (fun b hb => ?_)
  obtain rfl := ha.same hb
  rw [bne_self_eq_false]
  refine EvP.no (by decide) ?_
  refine EvP.bind (same_ints _ (Nat.le_trans ha.len hst)) (fun _ e => ?_)
  subst e
  refine EvP.yes rfl ?_
  refine EvP.succ ?_
  simp only [laws_FnStemMove.j0]
  by_cases M : MvOk l st i tt
  · have ea := ha.1 M
    obtain ⟨V, i1, i2, t0, t1⟩ := M
    obtain ⟨j, rfl⟩ := Int.eq_ofNat_of_zero_le (show 0 ≤ i by omega)
    obtain ⟨s, rfl⟩ := Int.eq_ofNat_of_zero_le t0
    rw [toNat_nat] at ea
    rw [ea]
    dsimp only
    have K := stemK V
    have n6 := K.n6
    have p8 := K.p8
    have V' := vs_set V j s (by omega) (by omega) (by omega)
    have len' : (st.set j (s : Int)).length = st.length := List.length_set
    have hst' : (st.set j (s : Int)).length ≤ 1048576 := by rw [len']; exact hst
    have par := K.par j (by omega) (by have := K.stl; omega)
    have hne : ∀ q, q ≠ j → rd (st.set j (s : Int)) (q : Int) = rd st (q : Int) := fun q hq => rdI_set_ne _ _ _ _ (Ne.symm hq)
    have heq : rd (st.set j (s : Int)) (j : Int) = (s : Int) := rdI_set_eq _ _ _ (by omega)
    refine EvP.no (by decide) (EvP.yes (by omega) (EvP.yes (by omega) ?_))
    refine EvP.bind (impl_move l (st.set j (s : Int)) (j : Int) (rd st (j : Int)) hs' hst') (fun x hx => ?_)
    have ex := hx.1 ⟨V', by omega, by omega, by omega, by omega⟩
    have eback : (st.set j (s : Int)).set j (rd st (j : Int)) = st := by
      rw [List.set_set]
      refine List.ext_getElem? (fun q => ?_)
      by_cases e : q = j
      · subst e
        rw [List.getElem?_set_self (by omega), rdI_at (by omega), List.getElem?_eq_getElem (by omega)]
      · rw [List.getElem?_set_ne (Ne.symm e)]
    rw [toNat_nat, eback] at ex
    subst ex
    refine EvP.bind (impl_fewest l _ hs' hst') (fun c hc => ?_)
    refine EvP.bind (impl_fewest l st hs' hst) (fun d hd => ?_)
    rw [hc.1 V', hd.1 V]
    refine EvP.yes (by have := K.n1; omega) (EvP.yes rfl ?_)
    refine EvP.bind (same_ints _ hst) (fun _ e => ?_)
    subst e
    refine EvP.yes rfl ?_
    refine EvP.bind (impl_stem l _ hs' hst') (fun v hv => ?_)
    refine EvP.yes (hv.mpr V') ?_
    refine EvP.bind (impl_depth l _ (j : Int) hs' hst') (fun e he => ?_)
    refine EvP.bind (impl_depth l _ (s : Int) hs' hst') (fun f hf => ?_)
    have ee := he.1 ⟨V', by omega, by omega⟩
    have ef := hf.1 ⟨V', by omega, by omega⟩
    rw [toNat_nat] at ee ef
    have hdp := depth_step (st.set j (s : Int)) (show 0 < j by omega) heq (by omega)
    have hdl := depth_le (st.set j (s : Int)) s s (Nat.le_refl _)
    have m1 := fsum_move V V' hne
    have m2 := fsum_move V' V (fun q hq => (hne q hq).symm)
    have b1 := K_bd K
    have b2 := K_bd (stemK V')
    have e1 : Hd (wrap64 (f + 1) = f + 1) := ⟨w64 (by omega) (by omega)⟩
    have e2 : Hd (wrap64 (fSum l (st.set j (s : Int)) - fSum l st) = fSum l (st.set j (s : Int)) - fSum l st) := ⟨w64 (by omega) (by omega)⟩
    have e3 : Hd (wrap64 (-((rdOf ByteArray.empty l 0).size : Int)) = -((rdOf ByteArray.empty l 0).size : Int)) := ⟨w64 (by omega) (by omega)⟩
    rw [e1.out, e2.out, e3.out]
    refine EvP.yes (by omega) (EvP.yes (by omega) (EvP.ret ?_))
    exact decide_eq_true (by omega)
  · have ea := ha.2 M
    rw [ea]
    refine EvP.yes rfl (EvP.yes rfl ?_)
    exact EvP.bind (same_ints _ (by decide)) (fun _ e => EvP.ret e)
end Go.Proofs.YtejoneninbdjbaaDoor.Pur
end
section
namespace Go.Proofs.YtejoneninbdjbaaDoor.Head
set_option maxRecDepth 100000
theorem and_t {a b : Bool} (h : a = true) (k : b = true) : (a && b) = true := by rw [h, k]; rfl
theorem mayEnter_of {P : Program} {l : List String} {W rest : List (List Char)} (h : behindMainWord (wordsSigns P.initOrder.toList) = W) (hc : ∃ c r, W = c :: r ∧ (c == "gc".toList || c == "spec".toList) = false ∧ (c == "carried".toList) = false) (hs : stripLifts liftWords W = (l, "cut".toList :: rest))
    (hl : (l.contains "finals" || !P.laysLater) = true) (hb : (l.contains "reflectrows" || !P.bearsReflect) = true) (hr : (l.contains "reflectrows" || !l.contains "leanrows") = true) (hd : P.doorFits l = true) : P.mayEnter = true := by
  obtain ⟨c, r, rfl, h1, h2⟩ := hc
  unfold Program.mayEnter
  rw [h]
  dsimp only
  rw [hs, hl, hb, hr, hd, h1, h2]
  simp
theorem headLifts_of {P : Program} {l : List String} {W rest : List (List Char)} (h : behindMainWord (wordsSigns P.initOrder.toList) = W) (hs : stripLifts liftWords W = (l, "cut".toList :: rest)) : P.headLifts = l := by
  unfold Program.headLifts
  rw [h]
  dsimp only
  rw [hs]
  simp
theorem liftsFinal_of {P : Program} {l : List String} {W rest : List (List Char)} (h : behindMainWord (wordsSigns P.initOrder.toList) = W) (hc : ∃ c r, W = c :: r ∧ (c == "gc".toList || c == "spec".toList) = false ∧ (c == "carried".toList) = false) (hs : stripLifts liftWords W = (l, "cut".toList :: rest)) : P.liftsFinal = l.contains "finals" := by
  unfold Program.liftsFinal
  rw [headLifts_of h hs, h]
  obtain ⟨c, r, rfl, h1, h2⟩ := hc
  have h3 : ((c :: r).head? == some "carried".toList) = false := by
    rw [beq_eq_false_iff_ne] at h2 ⊢
    exact fun e => h2 (Option.some.inj e)
  dsimp only
  rw [h3, Bool.false_and, Bool.false_or]
theorem make_of {P : Program} {rest : List (List Char)} (h : behindMainWord (wordsSigns P.initOrder.toList) = "cut".toList :: rest) : P.make = some .cut := by
  unfold Program.make
  rw [h]
  dsimp only
  rw [if_neg (by decide), if_pos (by simp)]
theorem mainIs_of {P : Program} {s : List Char} {rest : List (List Char)} (h : wordsSigns P.initOrder.toList = "harness".toList :: s :: rest) (hs : isSumSigns s = true) : P.mainIs = some (true, s) := by
  unfold Program.mainIs
  rw [h]
  dsimp only
  rw [hs]
  simp
def io : List Nat := [104, 97, 114, 110, 101, 115, 115, 32, 97, 49, 55, 53, 100, 55, 49, 55, 50, 99, 49, 55, 51, 50, 52, 49, 97, 52, 51, 56, 99, 53, 50, 99, 97, 100, 56, 102, 50, 99, 98, 98, 56, 52, 101, 54, 98, 50, 52, 101, 51, 97, 99, 54, 56, 49, 102, 49, 99, 55, 51, 51, 99, 98, 98, 57, 52, 51, 98, 49, 102, 48, 55, 99, 32, 99, 117, 116, 32, 97, 116, 32, 108, 111, 111, 112, 46, 101, 120, 97, 109, 112, 108, 101, 47, 110, 101, 117, 109, 101, 115, 47, 108, 97, 119, 115, 46, 70, 110, 69, 120, 97, 99, 116, 66, 111, 111, 107, 115, 86, 97, 108, 105, 100, 32, 108, 111, 111, 112, 46, 101, 120, 97, 109, 112, 108, 101, 47, 110, 101, 117, 109, 101, 115, 47, 108, 97, 119, 115, 46, 70, 110, 69, 120, 97, 99, 116, 66, 111, 111, 107, 115, 70, 97, 114, 32, 108, 111, 111, 112, 46, 101, 120, 97, 109, 112, 108, 101, 47, 110, 101, 117, 109, 101, 115, 47, 108, 97, 119, 115, 46, 70, 110, 69, 120, 97, 99, 116, 83, 116, 101, 109, 86, 97, 108, 105, 100, 32, 108, 111, 111, 112, 46, 101, 120, 97, 109, 112, 108, 101, 47, 110, 101, 117, 109, 101, 115, 47, 108, 97, 119, 115, 46, 70, 110, 69, 120, 97, 99, 116, 66, 111, 111, 107, 115, 67, 111, 109, 109, 111, 110, 32, 108, 111, 111, 112, 46, 101, 120, 97, 109, 112, 108, 101, 47, 110, 101, 117, 109, 101, 115, 47, 108, 97, 119, 115, 46, 70, 110, 66, 111, 111, 107, 115, 70, 97, 114, 32, 108, 111, 111, 112, 46, 101, 120, 97, 109, 112, 108, 101, 47, 110, 101, 117, 109, 101, 115, 47, 108, 97, 119, 115, 46, 70, 110, 69, 120, 97, 99, 116, 83, 116, 101, 109, 68, 101, 112, 116, 104, 32, 108, 111, 111, 112, 46, 101, 120, 97, 109, 112, 108, 101, 47, 110, 101, 117, 109, 101, 115, 47, 108, 97, 119, 115, 46, 70, 110, 66, 111, 111, 107, 115, 67, 111, 109, 109, 111, 110, 32, 108, 111, 111, 112, 46, 101, 120, 97, 109, 112, 108, 101, 47, 110, 101, 117, 109, 101, 115, 47, 108, 97, 119, 115, 46, 70, 110, 69, 120, 97, 99, 116, 83, 116, 101, 109, 67, 104, 97, 110, 103, 101, 115, 32, 108, 111, 111, 112, 46, 101, 120, 97, 109, 112, 108, 101, 47, 110, 101, 117, 109, 101, 115, 47, 108, 97, 119, 115, 46, 70, 110, 69, 120, 97, 99, 116, 83, 116, 101, 109, 77, 111, 118, 101, 32, 108, 111, 111, 112, 46, 101, 120, 97, 109, 112, 108, 101, 47, 110, 101, 117, 109, 101, 115, 47, 108, 97, 119, 115, 46, 70, 110, 69, 120, 97, 99, 116, 83, 116, 101, 109, 66, 101, 115, 116, 32, 108, 111, 111, 112, 46, 101, 120, 97, 109, 112, 108, 101, 47, 110, 101, 117, 109, 101, 115, 47, 108, 97, 119, 115, 46, 70, 110, 83, 116, 101, 109, 68, 101, 112, 116, 104, 32, 108, 111, 111, 112, 46, 101, 120, 97, 109, 112, 108, 101, 47, 110, 101, 117, 109, 101, 115, 47, 108, 97, 119, 115, 46, 70, 110, 83, 116, 101, 109, 66, 101, 115, 116, 32, 108, 111, 111, 112, 46, 101, 120, 97, 109, 112, 108, 101, 47, 110, 101, 117, 109, 101, 115, 47, 108, 97, 119, 115, 46, 70, 110, 69, 120, 97, 99, 116, 83, 116, 101, 109, 70, 101, 119, 101, 115, 116, 32, 108, 111, 111, 112, 46, 101, 120, 97, 109, 112, 108, 101, 47, 110, 101, 117, 109, 101, 115, 47, 108, 97, 119, 115, 46, 70, 110, 83, 116, 101, 109, 70, 101, 119, 101, 115, 116, 32, 108, 111, 111, 112, 46, 101, 120, 97, 109, 112, 108, 101, 47, 110, 101, 117, 109, 101, 115, 47, 108, 97, 119, 115, 46, 70, 110, 69, 120, 97, 99, 116, 83, 116, 101, 109, 70, 105, 108, 108, 32, 108, 111, 111, 112, 46, 101, 120, 97, 109, 112, 108, 101, 47, 110, 101, 117, 109, 101, 115, 47, 108, 97, 119, 115, 46, 70, 110, 83, 116, 101, 109, 77, 111, 118, 101, 32, 108, 111, 111, 112, 46, 101, 120, 97, 109, 112, 108, 101, 47, 110, 101, 117, 109, 101, 115, 47, 108, 97, 119, 115, 46, 70, 110, 83, 116, 101, 109, 76, 111, 115, 116, 32, 108, 111, 111, 112, 46, 101, 120, 97, 109, 112, 108, 101, 47, 110, 101, 117, 109, 101, 115, 47, 108, 97, 119, 115, 46, 70, 110, 83, 116, 101, 109, 67, 104, 97, 110, 103, 101, 115]
def ws : List (List Nat) := [[104, 97, 114, 110, 101, 115, 115], [97, 49, 55, 53, 100, 55, 49, 55, 50, 99, 49, 55, 51, 50, 52, 49, 97, 52, 51, 56, 99, 53, 50, 99, 97, 100, 56, 102, 50, 99, 98, 98, 56, 52, 101, 54, 98, 50, 52, 101, 51, 97, 99, 54, 56, 49, 102, 49, 99, 55, 51, 51, 99, 98, 98, 57, 52, 51, 98, 49, 102, 48, 55, 99], [99, 117, 116], [97, 116], [108, 111, 111, 112, 46, 101, 120, 97, 109, 112, 108, 101, 47, 110, 101, 117, 109, 101, 115, 47, 108, 97, 119, 115, 46, 70, 110, 69, 120, 97, 99, 116, 66, 111, 111, 107, 115, 86, 97, 108, 105, 100], [108, 111, 111, 112, 46, 101, 120, 97, 109, 112, 108, 101, 47, 110, 101, 117, 109, 101, 115, 47, 108, 97, 119, 115, 46, 70, 110, 69, 120, 97, 99, 116, 66, 111, 111, 107, 115, 70, 97, 114], [108, 111, 111, 112, 46, 101, 120, 97, 109, 112, 108, 101, 47, 110, 101, 117, 109, 101, 115, 47, 108, 97, 119, 115, 46, 70, 110, 69, 120, 97, 99, 116, 83, 116, 101, 109, 86, 97, 108, 105, 100], [108, 111, 111, 112, 46, 101, 120, 97, 109, 112, 108, 101, 47, 110, 101, 117, 109, 101, 115, 47, 108, 97, 119, 115, 46, 70, 110, 69, 120, 97, 99, 116, 66, 111, 111, 107, 115, 67, 111, 109, 109, 111, 110], [108, 111, 111, 112, 46, 101, 120, 97, 109, 112, 108, 101, 47, 110, 101, 117, 109, 101, 115, 47, 108, 97, 119, 115, 46, 70, 110, 66, 111, 111, 107, 115, 70, 97, 114], [108, 111, 111, 112, 46, 101, 120, 97, 109, 112, 108, 101, 47, 110, 101, 117, 109, 101, 115, 47, 108, 97, 119, 115, 46, 70, 110, 69, 120, 97, 99, 116, 83, 116, 101, 109, 68, 101, 112, 116, 104], [108, 111, 111, 112, 46, 101, 120, 97, 109, 112, 108, 101, 47, 110, 101, 117, 109, 101, 115, 47, 108, 97, 119, 115, 46, 70, 110, 66, 111, 111, 107, 115, 67, 111, 109, 109, 111, 110], [108, 111, 111, 112, 46, 101, 120, 97, 109, 112, 108, 101, 47, 110, 101, 117, 109, 101, 115, 47, 108, 97, 119, 115, 46, 70, 110, 69, 120, 97, 99, 116, 83, 116, 101, 109, 67, 104, 97, 110, 103, 101, 115], [108, 111, 111, 112, 46, 101, 120, 97, 109, 112, 108, 101, 47, 110, 101, 117, 109, 101, 115, 47, 108, 97, 119, 115, 46, 70, 110, 69, 120, 97, 99, 116, 83, 116, 101, 109, 77, 111, 118, 101], [108, 111, 111, 112, 46, 101, 120, 97, 109, 112, 108, 101, 47, 110, 101, 117, 109, 101, 115, 47, 108, 97, 119, 115, 46, 70, 110, 69, 120, 97, 99, 116, 83, 116, 101, 109, 66, 101, 115, 116], [108, 111, 111, 112, 46, 101, 120, 97, 109, 112, 108, 101, 47, 110, 101, 117, 109, 101, 115, 47, 108, 97, 119, 115, 46, 70, 110, 83, 116, 101, 109, 68, 101, 112, 116, 104], [108, 111, 111, 112, 46, 101, 120, 97, 109, 112, 108, 101, 47, 110, 101, 117, 109, 101, 115, 47, 108, 97, 119, 115, 46, 70, 110, 83, 116, 101, 109, 66, 101, 115, 116], [108, 111, 111, 112, 46, 101, 120, 97, 109, 112, 108, 101, 47, 110, 101, 117, 109, 101, 115, 47, 108, 97, 119, 115, 46, 70, 110, 69, 120, 97, 99, 116, 83, 116, 101, 109, 70, 101, 119, 101, 115, 116], [108, 111, 111, 112, 46, 101, 120, 97, 109, 112, 108, 101, 47, 110, 101, 117, 109, 101, 115, 47, 108, 97, 119, 115, 46, 70, 110, 83, 116, 101, 109, 70, 101, 119, 101, 115, 116], [108, 111, 111, 112, 46, 101, 120, 97, 109, 112, 108, 101, 47, 110, 101, 117, 109, 101, 115, 47, 108, 97, 119, 115, 46, 70, 110, 69, 120, 97, 99, 116, 83, 116, 101, 109, 70, 105, 108, 108], [108, 111, 111, 112, 46, 101, 120, 97, 109, 112, 108, 101, 47, 110, 101, 117, 109, 101, 115, 47, 108, 97, 119, 115, 46, 70, 110, 83, 116, 101, 109, 77, 111, 118, 101], [108, 111, 111, 112, 46, 101, 120, 97, 109, 112, 108, 101, 47, 110, 101, 117, 109, 101, 115, 47, 108, 97, 119, 115, 46, 70, 110, 83, 116, 101, 109, 76, 111, 115, 116], [108, 111, 111, 112, 46, 101, 120, 97, 109, 112, 108, 101, 47, 110, 101, 117, 109, 101, 115, 47, 108, 97, 119, 115, 46, 70, 110, 83, 116, 101, 109, 67, 104, 97, 110, 103, 101, 115]]
def ch (w : List Nat) : List Char := w.map Char.ofNat
theorem io_is : Tryd.prog.initOrder = String.ofList (ch io) := by kernel_rfl
theorem io_ws : wordsSigns (ch io) = ws.map ch := by kernel_rfl
theorem io_all : wordsSigns Tryd.prog.initOrder.toList = ws.map ch := by rw [io_is, String.toList_ofList, io_ws]
theorem be : behindMainWord (ws.map ch) = (ws.drop 2).map ch := by kernel_rfl
theorem io_be : behindMainWord (wordsSigns Tryd.prog.initOrder.toList) = (ws.drop 2).map ch := by rw [io_all, be]
theorem first : ∃ c r, (ws.drop 2).map ch = c :: r ∧ (c == "gc".toList || c == "spec".toList) = false ∧ (c == "carried".toList) = false := ⟨ch (ws.getD 2 []), (ws.drop 3).map ch, by kernel_rfl, by kernel_rfl, by kernel_rfl⟩
theorem st : stripLifts liftWords ((ws.drop 2).map ch) = ([], "cut".toList :: ((ws.drop 3).map ch)) := by kernel_rfl
theorem ll : ([].contains "finals" || !Tryd.prog.laysLater) = true := by kernel_rfl
theorem br : ([].contains "reflectrows" || !Tryd.prog.bearsReflect) = true := by kernel_rfl
theorem rr : ([].contains "reflectrows" || ![].contains "leanrows") = true := by kernel_rfl
theorem df : Tryd.prog.doorFits [] = true := by kernel_rfl
theorem mayE : Tryd.prog.mayEnter = true := mayEnter_of io_be first st ll br rr df
theorem finE : Tryd.prog.liftsFinal = [].contains "finals" := liftsFinal_of io_be first st
theorem mainE : Tryd.prog.mainIs = some (true, ch [97, 49, 55, 53, 100, 55, 49, 55, 50, 99, 49, 55, 51, 50, 52, 49, 97, 52, 51, 56, 99, 53, 50, 99, 97, 100, 56, 102, 50, 99, 98, 98, 56, 52, 101, 54, 98, 50, 52, 101, 51, 97, 99, 54, 56, 49, 102, 49, 99, 55, 51, 51, 99, 98, 98, 57, 52, 51, 98, 49, 102, 48, 55, 99]) := mainIs_of (rest := (ws.drop 2).map ch) (io_all.trans (by kernel_rfl)) (by kernel_rfl)
theorem makeE : Tryd.prog.make = some .cut := make_of (io_be.trans (by kernel_rfl : (ws.drop 2).map ch = "cut".toList :: ((ws.drop 3).map ch)))
end Go.Proofs.YtejoneninbdjbaaDoor.Head
end
section
namespace Go.Proofs.YtejoneninbdjbaaDoor.Pur
open Go.RowKit Go.ChangeShapes Go.Deep Go.Proofs.YtejoneninbdjbaaDoorW.PrintWords Go.Proofs.YtejoneninbdjbaaDoor.E
theorem open_rowP {P : Program} {H : Type} {enc : TypeId × Value → H} {W : World} {α : Type} [Inhabited α] {d : Kd α} {p : α → Prop} {t e : TypeId} {fuel : Nat} {cs : List Value} {x : DataW H × List MemPlace} (ht : P.underlying t = some (.slice e)) (hc : P.cellsOf e = d.sz)
    (o : ∀ (fuel : Nat) (cs : List Value) (x : DataW H × List MemPlace), DataW.trod enc P W 0 (fun _ => true) true fuel e cs = some x → ∃ y, d.K W y cs ∧ p y)
    (h : DataW.trod enc P W 0 (fun _ => true) true fuel t cs = some x) : ∃ (A : Option Addr) (c : Nat) (l : List α), cs = [.slice A l.length c] ∧ l.length ≤ c ∧ (l.length : Int) ≤ 9223372036854775807 ∧ d.C W A l.length l ∧ ∀ y ∈ l, p y := by
  rcases open_slice ht h with ⟨rfl, _⟩ | ⟨a, len, cap, m, n, D, Pl, rfl, _, hl, hm, hmm, _, hx⟩
  · exact ⟨none, 0, [], rfl, Nat.le_refl _, by simp, ⟨rfl, by simp, fun h => absurd h (by simp)⟩, fun y hy => by cases hy⟩
  · have hlm : len ≤ m := by rw [hmm]; simp; omega
    unfold maxLen at hm
    obtain ⟨Y, hY⟩ := choose_lt (α := α) (n := len) (p := fun i y => ∃ cs', W.cells? 0 (a.add (i * P.cellsOf e)) (P.cellsOf e) = some cs' ∧ d.K W y cs' ∧ p y) (fun i hi => by
      obtain ⟨cs', h1, h2⟩ := hx i (by omega)
      obtain ⟨y, hy, hp⟩ := o _ _ _ h2
      exact ⟨y, cs', h1, hy, hp⟩)
    have hlen : ((List.range len).map Y).length = len := by simp
    refine ⟨some a, cap, (List.range len).map Y, by rw [hlen], by rw [hlen]; exact hl, by rw [hlen]; omega, ⟨rfl, by rw [hlen]; omega, fun _ => ⟨a, rfl, fun j q hj => ?_⟩⟩, fun y hy => ?_⟩
    · obtain ⟨hj1, hj2⟩ := List.getElem?_eq_some_iff.1 hj
      rw [hlen] at hj1
      simp only [List.getElem_map, List.getElem_range] at hj2
      subst hj2
      obtain ⟨cs', h1, h2, _⟩ := hY j hj1
      obtain ⟨_, g1, g2⟩ := World.cells?_some h1
      refine ⟨cs', by rw [g1, hc], h2, fun i u hu => ?_⟩
      have := g2 i (by rw [← g1]; exact (List.getElem?_eq_some_iff.1 hu).1)
      rw [Go.Deep.add_add, hc, hu] at this
      exact this
    · obtain ⟨j, hj, rfl⟩ := List.mem_map.mp hy
      obtain ⟨_, _, _, hp⟩ := hY j (List.mem_range.mp hj)
      exact hp
theorem open_intsR {P : Program} {H : Type} {enc : TypeId × Value → H} {W : World} {k : IntKind} {t e : TypeId} {fuel : Nat} {cs : List Value} {x : DataW H × List MemPlace} (ht : P.underlying t = some (.slice e)) (he : P.underlying e = some (.int k)) (hc : P.cellsOf e = 1) (h : DataW.trod enc P W 0 (fun _ => true) true fuel t cs = some x) :
    ∃ (A : Option Addr) (c : Nat) (l : List Int), cs = [.slice A l.length c] ∧ l.length ≤ c ∧ (l.length : Int) ≤ 9223372036854775807 ∧ (Kd.int k).C W A l.length l ∧ ∀ y ∈ l, (Lit.int k y).wf = true :=
  open_rowP ht hc (fun fuel cs x h => by
    obtain ⟨s, rfl, _, hs⟩ := DataW.trod_int he h
    exact ⟨s, rfl, hs⟩) h
end Go.Proofs.YtejoneninbdjbaaDoor.Pur
end
section
namespace Go.Proofs.YtejoneninbdjbaaDoor.fnStemMove
open Go.ChangeShapes Go.WideShapes Go.ChangeAt Go.RowKit
open Go.ChangeMaps (open_string shut_string)
set_option linter.unusedVariables false
theorem own : ownKnob Tryd.prog.godebug = none := by kernel_rfl
theorem laidOut : laidOutB Tryd.prog = true := by kernel_rfl
set_option maxRecDepth 100000 in
theorem lifted (os : Os) (started : os.Started) (H : Type) (enc : TypeId × Value → H) :
    ReturnsInHanded {} Tryd.checked os 18 .any (fun w args => (Rows.fnStemMoveSpec.pre enc Tryd.prog Tryd.f18 Rows.fnStemMoveRow.domain false w args ∧ laidMetH Tryd.prog Rows.fnStemMoveRow.laid w) ∧ sizedMet enc Tryd.prog Tryd.f18 (OpenSpec.ofChange Rows.fnStemMoveSpec) false w args) (Rows.fnStemMoveSpec.post enc Tryd.prog Tryd.f18 false true false false) := by
  refine returnsInHanded_of_change_and (C := Tryd.checked) (X := fun w _ => laidMetH Tryd.prog Rows.fnStemMoveRow.laid w) (fun _ _ _ hh h => h.of_heap hh) own started (by kernel_rfl) Tryd.func18
    (ChangeSpec.witness_shaped (enc := enc) (C := Tryd.checked) (os := os) (X := fun w _ => laidMetH Tryd.prog Rows.fnStemMoveRow.laid w) false (World.laidAll Tryd.prog os Rows.fnStemMoveRow.laid) #[.slice none 0 0] 8 (World.laidAll_os _ _ _) (World.shaped_of_ZipB (by kernel_rfl) (by kernel_rfl)) (by kernel_rfl) (by kernel_rfl) (by kernel_rfl) (by rw [MakeChecks.laidMetH_plain _ _ _ (by kernel_rfl)]; exact laidMet_laidAll _ (by kernel_rfl) (by kernel_rfl))) ?_
  intro W base args ds gs before hval0 hW hcnd hsz0 hL _
  have hsz : (DataW.weightsEach Tryd.prog (Tryd.f18.params.toList ++ Rows.fnStemMoveSpec.plain.varTypes Tryd.prog) (ds ++ gs)).all (· ≤ reachBytes) = true := hsz0
  have hval : ∀ (j : Nat) t v, Tryd.f18.params[j]? = some t → args[j]? = some v → Value.okWide Tryd.prog W .any base t v := hval0
  have hW' := hW
  obtain ⟨p, q, hA0, hV, rfl, hfz, hnd⟩ := hW
  have hA : DataW.TrodAll enc Tryd.prog W 0 (fun _ => true) true Tryd.f18.params.toList args.toList ds p := hA0
  rw [Tryd.params18] at hA hval hsz
  obtain ⟨v0, vs0, d0, ds0, p0, q0, hargs, rfl, rfl, h0, r0⟩ := trodAll_cons hA
  obtain ⟨rfl, rfl, rfl⟩ := trodAll_nil r0
  obtain rfl : args = #[v0] := by cases args; simp_all
  obtain ⟨rfl, rfl⟩ := trodVars_none hV
  have k0 := h0
  have lt0 : ∀ x ∈ p0, x.block < W.heap.size := by obtain ⟨m, hm⟩ := k0; exact DataW.trod_lt m _ _ _ hm
  obtain ⟨a0, len0, cap0, rfl⟩ := okWide_slice Tryd.underlying35 (hval 0 35 v0 rfl rfl)
  obtain ⟨fuel0, hf0⟩ := h0
  obtain ⟨A0, c0, l0, hcs0, hle0, hm0, hC0, hx0⟩ := Pur.open_intsR Tryd.underlying35 Tryd.underlying5 (by kernel_rfl) hf0
  simp [Value.cells] at hcs0
  obtain ⟨rfl, rfl, rfl⟩ := hcs0
  clear hA0 hval0 hsz0 hsz
  obtain ⟨k, hk⟩ := Pur.law_move l0 hm0 hx0
  refine (E.laws_FnStemMove.calls k _ _ l0 true W hC0 hle0 hk).mono fun e W' ⟨he, bel⟩ => ?_
  subst he
  exact ⟨_, rfl, _, _, _, [], _, [], hW', trodAll_mk1 (shut_bool Tryd.underlying4 _), (trodAll_cons_mk (Below.trod laidOut (by kernel_rfl) (of_decide_eq_true (by kernel_rfl)) k0 bel lt0) trodAll_mk0), rfl, bel.frame _, fun h => by cases h⟩
set_option maxRecDepth 100000 in
theorem closed : joinedFacts Tryd.prog 18 Tryd.f18 Rows.fnStemMoveSpec Rows.fnStemMoveRow = true := by
  have hf : (Rows.fnStemMoveRow.lifted == Tryd.prog.liftsFinal) = true := by rw [Head.finE]; kernel_rfl
  have hm : (Tryd.prog.make == some Rows.fnStemMoveRow.make) = true := by rw [Head.makeE]; kernel_rfl
  unfold joinedFacts
  repeat' (with_reducible refine Head.and_t ?_ ?_)
  all_goals first | with_reducible exact Head.mayE | with_reducible exact hf | with_reducible exact hm | (as_aux_lemma => kernel_rfl)
theorem over : Rows.fnStemMoveRow.holds Tryd.pinned (OpenSpec.ofChange Rows.fnStemMoveSpec) :=
  OpenClaim.holds_of_wide 18 Tryd.f18 rfl rfl rfl rfl rfl rfl rfl ⟨rfl, rfl, rfl, rfl, rfl⟩ rfl rfl rfl rfl rfl (by kernel_rfl) Tryd.func18 closed
    (of_decide_eq_true (by kernel_rfl)) (by unfold Func.isWrapper; first | (rw [if_pos (by decide +kernel)]; kernel_rfl) | (rw [if_neg (by decide +kernel)]; exact ⟨rfl, rfl⟩))
    (fun os started H enc _ => lifted os started H enc)
theorem card_ : Rows.FnStemMoveCardSaid :=
  Claim7.holds_tied_plain_at .later [] [.data, .pinned] true (true, "a175d7172c173241a438c52cad8f2cbb84e6b24e3ac681f1c733cbb943b1f07c") false
    over (fun _ h => by cases h) (by as_aux_lemma => kernel_rfl) (fun _ h => by cases h) fnStemMove_row_tie rfl ⟨rfl, rfl⟩ (Head.mainE.trans (by as_aux_lemma => kernel_rfl)) rfl
    (fun f fn hf hfn => by
      obtain rfl : f = 18 := Option.some.inj ((show Tryd.prog.funcNamed "loop.example/neumes/laws.FnStemMove" = some 18 by kernel_rfl).symm.trans hf) |>.symm
      obtain rfl : fn = Tryd.f18 := (Option.some.inj (Tryd.func18.symm.trans hfn)).symm
      exact ⟨by kernel_rfl, fun j t ht => by
        rw [Tryd.params18] at ht
        have hm : t ∈ [35] := by simpa using Array.mem_of_getElem? ht
        have hall : ([35].all fun u => !Tryd.prog.wantsStandIn u) = true := by kernel_rfl
        exact (show Tryd.prog.wantsStandIn t = false by simpa using List.all_eq_true.1 hall t hm)⟩)
    (by kernel_rfl)
theorem proved : Rows.FnStemMoveCardSaid := card_
#print axioms proved
end Go.Proofs.YtejoneninbdjbaaDoor.fnStemMove
namespace Go.Proofs.YtejoneninbdjbaaDoor
theorem fnStemMove_holds : Rows.FnStemMoveCardSaid := fnStemMove.proved
end Go.Proofs.YtejoneninbdjbaaDoor
end
