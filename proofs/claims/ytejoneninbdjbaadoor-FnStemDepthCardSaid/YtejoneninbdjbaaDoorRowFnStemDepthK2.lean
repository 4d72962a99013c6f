/- Proved: for all arguments the given program's laws.FnStemDepth returns true, and its arguments read afterwards as they read before (the given constant Rows.FnStemDepthCardSaid).
Conditions: none ahead of the given statement; the statement itself begins in a world whose listed package-level variables hold what the program's text lays there, and its card ties them to that text. -/
import Derived.Test.YtejoneninbdjbaaDoorRowFnStemDepthK1
section
namespace Go.Proofs.YtejoneninbdjbaaDoor.Pur
open Go.RowKit Go.Proofs.YtejoneninbdjbaaDoorW.PrintWords Go.Proofs.YtejoneninbdjbaaDoorW.PrintMore Go.Proofs.YtejoneninbdjbaaDoor.E
def FewS (q : Int) (r : List ByteArray × List Int × Int) : Prop := r.1.length ≤ 5 ∧ (∀ t ∈ r.1, t.size ≤ 5) ∧ r.2.1.length ≤ 5 ∧ 0 ≤ r.2.2 ∧ r.2.2 ≤ q
theorem stem_loop {B : List Int} (hB : okB B) (l : List ByteArray) (hl : l.length ≤ 5) (hs : ∀ t ∈ l, t.size ≤ 5) : ∀ (d i : Nat) (st : List Int) (p : Int), i + d = l.length → st.length = i → 0 ≤ p → p + d ≤ 100000 → EvP (fun k => spec_l92Stem.l0 k l st (i : Int) B p) (FewS (p + d + 2)) := by
  intro d
  induction d with
  | zero =>
    intro i st p hi hst h0 h1
    refine EvP.succ ?_
    simp only [spec_l92Stem.l0]
    refine EvP.no (by omega) ?_
    refine EvP.ite (fun g => ?_) (fun g => EvP.ret ⟨hl, hs, by dsimp only; omega, h0, by dsimp only; omega⟩)
    refine EvP.bind (pick_ok hB p 30 (by omega) (by omega)) (fun r hr => ?_)
    refine EvP.ite (fun g0 => ?_) (fun g0 => ?_)
    · refine EvP.bind (P := fun y => y.length = 3) (EvP.con rfl rfl) (fun y hy => ?_)
      refine EvP.bind (pick_ok hB r.2 3 (by omega) (by omega)) (fun q hq => ?_)
      have e1 : Hd (wrap64 ((st.length : Int) - 1) = (st.length : Int) - 1) := ⟨w64 (by omega) (by omega)⟩
      rw [e1.out]
      refine EvP.yes hq.1 (EvP.yes (by omega) (EvP.yes (by omega) (EvP.yes (by omega) (EvP.ret ⟨hl, hs, ?_, ?_, ?_⟩))))
      · dsimp only; rw [List.length_set]; omega
      · dsimp only; omega
      · dsimp only; omega
    · refine EvP.ite (fun g1 => ?_) (fun g1 => EvP.ret ⟨hl, hs, by dsimp only; omega, by dsimp only; omega, by dsimp only; omega⟩)
      refine EvP.yes (by omega) (EvP.ret ⟨hl, hs, ?_, by dsimp only; omega, by dsimp only; omega⟩)
      dsimp only
      rw [List.length_drop]
      omega
  | succ d ih =>
    intro i st p hi hst h0 h1
    have e2 : Hd (wrap64 ((i : Int) + 1) = ((i + 1 : Nat) : Int)) := ⟨w64 (by omega) (by omega)⟩
    refine EvP.succ ?_
    simp only [spec_l92Stem.l0]
    rw [e2.out]
    refine EvP.yes (by omega) ?_
    refine EvP.ite (fun g => ?_) (fun g => ?_)
    · refine EvP.yes (by omega) ?_
      refine (ih (i + 1) _ p (by omega) (by simp; omega) h0 (by omega)).mono (fun r h => ⟨h.1, h.2.1, h.2.2.1, h.2.2.2.1, by have := h.2.2.2.2; omega⟩)
    · refine EvP.bind (pick_ok hB p (i : Int) (by omega) (by omega)) (fun r hr => ?_)
      refine EvP.yes (by omega) ?_
      refine (ih (i + 1) _ r.2 (by omega) (by simp; omega) (by omega) (by omega)).mono (fun q h => ⟨h.1, h.2.1, h.2.2.1, h.2.2.2.1, by have := h.2.2.2.2; omega⟩)
theorem drawn_stem {B : List Int} (hB : okB B) (lost : Bool) (p : Int) (hp : 0 ≤ p ∧ p ≤ 1000) : EvP (fun k => spec_l92Stem.f k B p lost) (FewS (p + 70)) := by
  unfold spec_l92Stem.f
  refine EvP.bind (drawn_books hB lost p hp) (fun b hb => ?_)
  obtain ⟨b1, b2, b3, b4⟩ := hb
  refine (stem_loop hB b.1 b1 b2 b.1.length 0 [] b.2 (by omega) rfl b3 (by omega)).mono (fun q h => ⟨h.1, h.2.1, h.2.2.1, h.2.2.2.1, by have := h.2.2.2.2; omega⟩)
end Go.Proofs.YtejoneninbdjbaaDoor.Pur
end
section
namespace Go.Proofs.YtejoneninbdjbaaDoor.E
open Go.RowKit Go.Proofs.YtejoneninbdjbaaDoorW.PrintWords Go.Proofs.YtejoneninbdjbaaDoorW.PrintLast Go.Proofs.YtejoneninbdjbaaDoorW.PrintMore
attribute [local go_sem] max2_int min2_int max_two min_two max_three min_three max_four min_four
set_option linter.unusedVariables false
set_option linter.unusedSimpArgs false
attribute [local go_sem] str_leq_ str_gtr_ str_geq_
def laws_toIntS.l0 : Nat → List Int → List Int → Int → Option (List Int)
 | 0, _, _, _ => none
 | k + 1, x0, x3, x4 => if x4 < (x0.length : Int) then (if 0 ≤ x4 then (if x4 < (x3.length : Int) then (laws_toIntS.l0 k x0 (x3.set (x4 : Int).toNat (rd x0 x4)) (wrap64 (x4 + 1))) else (none)) else (none)) else (some x3)
def laws_toIntS.f (k : Nat) (l0 : List Int) : Option (List Int) := if 0 ≤ (l0.length : Int) then (if ((l0.length : Int) : Int).toNat ≤ 35184372088832 then (laws_toIntS.l0 k l0 (List.replicate ((l0.length : Int) : Int).toNat 0) 0) else (none)) else (none)
end Go.Proofs.YtejoneninbdjbaaDoor.E
end
section
namespace Go.Proofs.YtejoneninbdjbaaDoor.E
open Go.RowKit Go.Proofs.YtejoneninbdjbaaDoorW.PrintWords Go.Proofs.YtejoneninbdjbaaDoorW.PrintLast Go.Proofs.YtejoneninbdjbaaDoorW.PrintMore
attribute [local go_sem] max2_int min2_int max_two min_two max_three min_three max_four min_four
set_option linter.unusedVariables false
set_option linter.unusedSimpArgs false
attribute [local go_sem] str_leq_ str_gtr_ str_geq_
def laws_eqIntS.l0 : Nat → List Int → List Int → Int → Option (Bool)
 | 0, _, _, _ => none
 | k + 1, x0, x1, x5 => if x5 < (x0.length : Int) then (if 0 ≤ x5 then (if x5 < (x1.length : Int) then (if (rd x0 x5) = (rd x1 x5) then (laws_eqIntS.l0 k x0 x1 (wrap64 (x5 + 1))) else (some false)) else (none)) else (none)) else (some true)
def laws_eqIntS.f (k : Nat) (l0 : List Int) (l1 : List Int) : Option (Bool) := if (l0.length : Int) = (l1.length : Int) then (laws_eqIntS.l0 k l0 l1 0) else (some false)
end Go.Proofs.YtejoneninbdjbaaDoor.E
end
section
namespace Go.Proofs.YtejoneninbdjbaaDoor.E
open Go.RowKit Go.Proofs.YtejoneninbdjbaaDoorW.PrintWords Go.Proofs.YtejoneninbdjbaaDoorW.PrintLast Go.Proofs.YtejoneninbdjbaaDoorW.PrintMore
attribute [local go_sem] max2_int min2_int max_two min_two max_three min_three max_four min_four
set_option linter.unusedVariables false
set_option linter.unusedSimpArgs false
attribute [local go_sem] str_leq_ str_gtr_ str_geq_
def laws_markIntS.l0 : Nat → List Int → Int → Int → Option (Int × List Int)
 | 0, _, _, _ => none
 | k + 1, x0, x1, x5 => if x5 < (x0.length : Int) then (if 0 ≤ x5 then (laws_markIntS.l0 k (x0.set (x5 : Int).toNat x1) (wrap64 (x1 + 1)) (wrap64 (x5 + 1))) else (none)) else (some (x1, x0))
def laws_markIntS.f (k : Nat) (l0 : List Int) (a1 : Int) : Option (Int × List Int) := laws_markIntS.l0 k l0 a1 0
end Go.Proofs.YtejoneninbdjbaaDoor.E
end
section
namespace Go.Proofs.YtejoneninbdjbaaDoor.E
open Go.RowKit Go.Proofs.YtejoneninbdjbaaDoorW.PrintWords Go.Proofs.YtejoneninbdjbaaDoorW.PrintLast Go.Proofs.YtejoneninbdjbaaDoorW.PrintMore
attribute [local go_sem] max2_int min2_int max_two min_two max_three min_three max_four min_four
set_option linter.unusedVariables false
set_option linter.unusedSimpArgs false
attribute [local go_sem] str_leq_ str_gtr_ str_geq_
def laws_heldIntS.l0 : Nat → List Int → Int → Int → Option (Int)
 | 0, _, _, _ => none
 | k + 1, x0, x1, x5 => if x5 < (x0.length : Int) then (if 0 ≤ x5 then (if (rd x0 x5) = x1 then (laws_heldIntS.l0 k x0 (wrap64 (x1 + 1)) (wrap64 (x5 + 1))) else (some (-1))) else (none)) else (some x1)
def laws_heldIntS.f (k : Nat) (l0 : List Int) (a1 : Int) : Option (Int) := laws_heldIntS.l0 k l0 a1 0
end Go.Proofs.YtejoneninbdjbaaDoor.E
end
section
namespace Go.Proofs.YtejoneninbdjbaaDoor.Pur
open Go.RowKit Go.Proofs.YtejoneninbdjbaaDoorW.PrintWords Go.Proofs.YtejoneninbdjbaaDoorW.PrintMore Go.Proofs.YtejoneninbdjbaaDoor.E
def VS (l : List ByteArray) (st : List Int) : Prop := (booksOf l).2 = true ∧ (booksOf l).1 ≠ l.length ∧ st.length = l.length ∧ rd st 0 = -1 ∧ ∀ j : Nat, 1 ≤ j → j < st.length → 0 ≤ rd st (j : Int) ∧ rd st (j : Int) < j
theorem spec_stem_loop (st : List Int) (hl : st.length ≤ 1048576) : ∀ (d i : Nat), 1 ≤ i → i + d = st.length → EvP (fun k => spec_StemValid.l0 k st (i : Int)) (fun r => r = true ↔ ∀ j : Nat, i ≤ j → j < st.length → 0 ≤ rd st (j : Int) ∧ rd st (j : Int) < j) := by
  intro d
  induction d with
  | zero =>
    intro i h1 hi
    refine EvP.succ ?_
    simp only [spec_StemValid.l0]
    exact EvP.no (by omega) (EvP.ret ⟨fun _ j h h' => by omega, fun _ => rfl⟩)
  | succ d ih =>
    intro i h1 hi
    have e1 : Hd (wrap64 ((i : Int) - 1) = (i : Int) - 1) := ⟨w64 (by omega) (by omega)⟩
    have e2 : Hd (wrap64 ((i : Int) + 1) = ((i + 1 : Nat) : Int)) := ⟨w64 (by omega) (by omega)⟩
    refine EvP.succ ?_
    simp only [spec_StemValid.l0]
    refine EvP.yes (by omega) (EvP.yes (by omega) ?_)
    rw [e1.out, e2.out]
    refine EvP.bind (P := (· = decide (0 ≤ rd st (i : Int) ∧ rd st (i : Int) < i))) ?_ (fun _ e => ?_)
    · unfold spec_l6In.f
      by_cases h : rd st (i : Int) ≥ 0
      · rw [if_pos h]; exact EvP.ret (decide_eq_decide.mpr (by omega))
      · rw [if_neg h]; exact EvP.ret (decide_eq_false (by omega)).symm
    subst e
    refine EvP.ite (fun h => ?_) (fun h => EvP.ret ⟨fun h' => Bool.noConfusion h', fun h' => absurd (decide_eq_true (h' i (Nat.le_refl _) (by omega))) h⟩)
    have h := of_decide_eq_true h
    refine (ih (i + 1) (by omega) (by omega)).mono (fun r hr => hr.trans ⟨fun g j hj hj' => ?_, fun g j hj hj' => g j (by omega) hj'⟩)
    by_cases e : j = i
    · subst e; exact h
    · exact g j (by omega) hj'
theorem impl_stem_loop (st : List Int) (hl : st.length ≤ 1048576) : ∀ (d i : Nat), i + d = (st.drop 1).length → EvP (fun k => impl_StemValid.l0 k (st.drop 1) ((st.drop 1).length : Int) (i : Int)) (fun r => r = true ↔ ∀ j : Nat, i + 1 ≤ j → j < st.length → 0 ≤ rd st (j : Int) ∧ rd st (j : Int) < j) := by
  have ld : (st.drop 1).length = st.length - 1 := List.length_drop
  intro d
  induction d with
  | zero =>
    intro i hi
    refine EvP.succ ?_
    simp only [impl_StemValid.l0]
    exact EvP.no (by omega) (EvP.ret ⟨fun _ j h h' => by omega, fun _ => rfl⟩)
  | succ d ih =>
    intro i hi
    have e2 : Hd (wrap64 ((i : Int) + 1) = ((i + 1 : Nat) : Int)) := ⟨w64 (by omega) (by omega)⟩
    have er : rd (st.drop 1) (i : Int) = rd st ((i + 1 : Nat) : Int) := by
      unfold rd
      rw [toNat_nat, toNat_nat, List.getD_eq_getElem?_getD, List.getD_eq_getElem?_getD, List.getElem?_drop, Nat.add_comm]
    refine EvP.succ ?_
    simp only [impl_StemValid.l0]
    refine EvP.yes (by omega) (EvP.yes (by omega) (EvP.yes (by omega) ?_))
    rw [er, e2.out]
    refine EvP.ite (fun h => EvP.ret ⟨fun h' => Bool.noConfusion h', fun h' => by have := h' (i + 1) (Nat.le_refl _) (by omega); omega⟩) (fun h => ?_)
    refine EvP.ite (fun h' => EvP.ret ⟨fun h' => Bool.noConfusion h', fun h' => by have := h' (i + 1) (Nat.le_refl _) (by omega); omega⟩) (fun h' => ?_)
    refine (ih (i + 1) (by omega)).mono (fun r hr => hr.trans ⟨fun g j hj hj' => ?_, fun g j hj hj' => g j (by omega) hj'⟩)
    by_cases e : j = i + 1
    · subst e; omega
    · exact g j (by omega) hj'
theorem bne_iff {a b : Int} : (a != b) = true ↔ a ≠ b := by simp
theorem spec_stem (l : List ByteArray) (st : List Int) (hs : ∀ t ∈ l, t.size ≤ 9223372036854775806) (hl : st.length ≤ 1048576) : EvP (fun k => spec_StemValid.f k l st) (fun r => r = true ↔ VS l st) := by
  unfold spec_StemValid.f
  have bad : ¬ VS l st → EvP (fun k => spec_StemValid.j0 k st true) (fun r => r = true ↔ VS l st) := by
    intro h
    refine EvP.succ ?_
    simp only [spec_StemValid.j0]
    exact EvP.yes trivial (EvP.ret ⟨fun h' => Bool.noConfusion h', fun h' => absurd h' h⟩)
  refine EvP.bind (spec_books l hs) (fun _ e => ?_)
  subst e
  refine EvP.ite (fun h1 => EvP.ite (fun h2 => bad (fun h => h.2.1 h2)) (fun h2 => EvP.ite (fun h3 => ?_) (fun h3 => bad (fun h => h3 (by rw [h.2.2.1]))))) (fun h1 => bad (fun h => h1 h.1))
  have hb := books_ok h1
  refine EvP.yes (by omega) ?_
  by_cases h4 : rd st 0 = -1
  · rw [show (rd st 0 != -1) = false by rw [h4]; rfl]
    refine EvP.succ ?_
    simp only [spec_StemValid.j0]
    refine EvP.no (by decide) ?_
    refine (spec_stem_loop st hl (st.length - 1) 1 (by omega) (by omega)).mono (fun r hr => hr.trans ⟨fun g => ⟨h1, h2, by omega, h4, g⟩, fun g => g.2.2.2.2⟩)
  · rw [show (rd st 0 != -1) = true from bne_iff.mpr h4]
    exact bad (fun h => h4 h.2.2.2.1)
theorem impl_stem (l : List ByteArray) (st : List Int) (hs : ∀ t ∈ l, t.size ≤ 9223372036854775806) (hl : st.length ≤ 1048576) : EvP (fun k => impl_StemValid.f k l st) (fun r => r = true ↔ VS l st) := by
  unfold impl_StemValid.f
  have bad : ¬ VS l st → EvP (fun k => impl_StemValid.j0 k st true) (fun r => r = true ↔ VS l st) := by
    intro h
    refine EvP.succ ?_
    simp only [impl_StemValid.j0]
    exact EvP.yes trivial (EvP.ret ⟨fun h' => Bool.noConfusion h', fun h' => absurd h' h⟩)
  refine EvP.bind (impl_books l hs) (fun _ e => ?_)
  subst e
  refine EvP.ite (fun h1 => EvP.ite (fun h2 => bad (fun h => h.2.1 h2)) (fun h2 => EvP.ite (fun h3 => ?_) (fun h3 => bad (fun h => h3 (by rw [h.2.2.1]))))) (fun h1 => bad (fun h => h1 h.1))
  have hb := books_ok h1
  refine EvP.yes (by omega) ?_
  by_cases h4 : rd st 0 = -1
  · rw [show (rd st 0 != -1) = false by rw [h4]; rfl]
    refine EvP.succ ?_
    simp only [impl_StemValid.j0]
    refine EvP.no (by decide) (EvP.yes (by omega) ?_)
    refine (impl_stem_loop st hl (st.drop 1).length 0 (by omega)).mono (fun r hr => hr.trans ⟨fun g => ⟨h1, h2, by omega, h4, g⟩, fun g => g.2.2.2.2⟩)
  · rw [show (rd st 0 != -1) = true from bne_iff.mpr h4]
    exact bad (fun h => h4 h.2.2.2.1)
end Go.Proofs.YtejoneninbdjbaaDoor.Pur
end
section
namespace Go.Proofs.YtejoneninbdjbaaDoor.E
open Go.RowKit Go.Proofs.YtejoneninbdjbaaDoorW.PrintWords Go.Proofs.YtejoneninbdjbaaDoorW.PrintLast Go.Proofs.YtejoneninbdjbaaDoorW.PrintMore
attribute [local go_sem] max2_int min2_int max_two min_two max_three min_three max_four min_four
set_option linter.unusedVariables false
set_option linter.unusedSimpArgs false
attribute [local go_sem] str_leq_ str_gtr_ str_geq_
mutual
def spec_StemChanges.j0 : Nat → List ByteArray → List Int → Bool → Option (Int)
 | 0, _, _, _ => none
 | k + 1, x0, x1, x15 => if x15 = true then (some (-1)) else (spec_StemChanges.l0 k x0 x1 0 1)
def spec_StemChanges.l0 : Nat → List ByteArray → List Int → Int → Int → Option (Int)
 | 0, _, _, _, _ => none
 | k + 1, x0, x1, x5, x6 => if x6 < (x1.length : Int) then (if 0 ≤ x6 then (if x6 < (x0.length : Int) then (if 0 ≤ (rd x1 x6) then (if (rd x1 x6) < (x0.length : Int) then ((spec_l7Far.f k (rdOf ByteArray.empty x0 x6) (rdOf ByteArray.empty x0 (rd x1 x6))).bind fun t362 => (spec_StemChanges.l0 k x0 x1 (wrap64 (x5 + t362)) (wrap64 (x6 + 1)))) else (none)) else (none)) else (none)) else (none)) else (some x5)
end
def spec_StemChanges.f (k : Nat) (l0 : List ByteArray) (l1 : List Int) : Option (Int) := (spec_StemValid.f k l0 l1).bind fun t357 => (if t357 = true then ((spec_BooksValid.f k l0).bind fun t358 => (spec_StemChanges.j0 k l0 l1 (!t358))) else (spec_StemChanges.j0 k l0 l1 true))
end Go.Proofs.YtejoneninbdjbaaDoor.E
end
section
namespace Go.Proofs.YtejoneninbdjbaaDoor.E
open Go.RowKit Go.Proofs.YtejoneninbdjbaaDoorW.PrintWords Go.Proofs.YtejoneninbdjbaaDoorW.PrintLast Go.Proofs.YtejoneninbdjbaaDoorW.PrintMore
attribute [local go_sem] max2_int min2_int max_two min_two max_three min_three max_four min_four
set_option linter.unusedVariables false
set_option linter.unusedSimpArgs false
attribute [local go_sem] str_leq_ str_gtr_ str_geq_
def impl_changesOf.l0 : Nat → List ByteArray → List Int → Int → Int → Option (Int)
 | 0, _, _, _, _ => none
 | k + 1, x0, x1, x5, x6 => if x6 < (x0.length : Int) then (if 0 ≤ x6 then (if x6 < (x1.length : Int) then (if 0 ≤ (rd x1 x6) then (if (rd x1 x6) < (x0.length : Int) then ((impl_farBetween.f k (rdOf ByteArray.empty x0 x6) (rdOf ByteArray.empty x0 (rd x1 x6))).bind fun t366 => (impl_changesOf.l0 k x0 x1 (wrap64 (x5 + t366)) (wrap64 (x6 + 1)))) else (none)) else (none)) else (none)) else (none)) else (some x5)
def impl_changesOf.f (k : Nat) (l0 : List ByteArray) (l1 : List Int) : Option (Int) := impl_changesOf.l0 k l0 l1 0 1
end Go.Proofs.YtejoneninbdjbaaDoor.E
end
section
namespace Go.Proofs.YtejoneninbdjbaaDoor.E
open Go.RowKit Go.Proofs.YtejoneninbdjbaaDoorW.PrintWords Go.Proofs.YtejoneninbdjbaaDoorW.PrintLast Go.Proofs.YtejoneninbdjbaaDoorW.PrintMore
attribute [local go_sem] max2_int min2_int max_two min_two max_three min_three max_four min_four
set_option linter.unusedVariables false
set_option linter.unusedSimpArgs false
attribute [local go_sem] str_leq_ str_gtr_ str_geq_
def impl_StemChanges.f (k : Nat) (l0 : List ByteArray) (l1 : List Int) : Option (Int) := (impl_StemValid.f k l0 l1).bind fun t367 => (if t367 = true then ((impl_BooksValid.f k l0).bind fun t368 => (if t368 = true then ((impl_changesOf.f k l0 l1).bind fun t369 => (some t369)) else (some (-1)))) else (some (-1)))
end Go.Proofs.YtejoneninbdjbaaDoor.E
end
section
namespace Go.Proofs.YtejoneninbdjbaaDoor.E
open Go.RowKit Go.Proofs.YtejoneninbdjbaaDoorW.PrintWords Go.Proofs.YtejoneninbdjbaaDoorW.PrintLast Go.Proofs.YtejoneninbdjbaaDoorW.PrintMore
attribute [local go_sem] max2_int min2_int max_two min_two max_three min_three max_four min_four
set_option linter.unusedVariables false
set_option linter.unusedSimpArgs false
attribute [local go_sem] str_leq_ str_gtr_ str_geq_
def laws_FnExactStemChanges.f (k : Nat) (l0 : List ByteArray) (l1 : List Int) : Option (Bool) := if (l1.length : Int) > 1048576 then (some true) else ((laws_szStringS.f k l0 1048576).bind fun t370 => (if t370 < 0 then (some true) else ((laws_toStringS.f k l0).bind fun t371 => ((laws_toIntS.f k l1).bind fun t374 => ((spec_StemChanges.f k t371 t374).bind fun t377 => ((laws_toStringS.f k l0).bind fun t378 => ((laws_toIntS.f k l1).bind fun t381 => ((impl_StemChanges.f k t378 t381).bind fun t384 => (if t384 = t377 then ((laws_toStringS.f k l0).bind fun t385 => ((laws_eqStringS.f k t378 t385).bind fun t388 => (if t388 = true then ((laws_toIntS.f k l1).bind fun t389 => ((laws_eqIntS.f k t381 t389).bind fun t392 => (if t392 = true then (some true) else (some false)))) else (some false)))) else (some false))))))))))
end Go.Proofs.YtejoneninbdjbaaDoor.E
end
section
namespace Go.Proofs.YtejoneninbdjbaaDoor.Pur
open Go.RowKit Go.Proofs.YtejoneninbdjbaaDoorW.PrintWords Go.Proofs.YtejoneninbdjbaaDoorW.PrintMore Go.Proofs.YtejoneninbdjbaaDoor.E
def chg (l : List ByteArray) (st : List Int) : Nat → Nat → Int
  | 0, _ => 0
  | d + 1, i => farT (rdOf ByteArray.empty l (i : Int)) (rdOf ByteArray.empty l (rd st (i : Int))) + chg l st d (i + 1)
def Tells (c : Prop) (X v : Int) : Prop := (c → v = X) ∧ (¬ c → v = -1)
theorem Tells.same {c : Prop} {X a b : Int} (h : Tells c X a) (k : Tells c X b) : a = b := by
  by_cases hc : c
  · rw [h.1 hc, k.1 hc]
  · rw [h.2 hc, k.2 hc]
section
variable (l : List ByteArray) (st : List Int) (n : Nat) (hn : n ≤ 1048576) (hsz : ∀ t ∈ l, t.size = n) (hl : l.length ≤ 6) (hst : st.length = l.length) (hp : ∀ j : Nat, 1 ≤ j → j < st.length → 0 ≤ rd st (j : Int) ∧ rd st (j : Int) < j)
include hn hsz hl hst hp
end
end Go.Proofs.YtejoneninbdjbaaDoor.Pur
end
section
namespace Go.Proofs.YtejoneninbdjbaaDoor.E
open Go.RowKit Go.Proofs.YtejoneninbdjbaaDoorW.PrintWords Go.Proofs.YtejoneninbdjbaaDoorW.PrintLast Go.Proofs.YtejoneninbdjbaaDoorW.PrintMore
attribute [local go_sem] max2_int min2_int max_two min_two max_three min_three max_four min_four
set_option linter.unusedVariables false
set_option linter.unusedSimpArgs false
attribute [local go_sem] str_leq_ str_gtr_ str_geq_
def laws_FnExactStemDepth.f (k : Nat) (l0 : List ByteArray) (l1 : List Int) (a2 : Int) : Option (Bool) := if (l1.length : Int) > 1048576 then (some true) else ((laws_szStringS.f k l0 1048576).bind fun t314 => (if t314 < 0 then (some true) else ((laws_toStringS.f k l0).bind fun t315 => ((laws_toIntS.f k l1).bind fun t318 => ((spec_StemDepth.f k t315 t318 a2).bind fun t321 => ((laws_toStringS.f k l0).bind fun t322 => ((laws_toIntS.f k l1).bind fun t325 => ((impl_StemDepth.f k t322 t325 a2).bind fun t328 => (if t328 = t321 then ((laws_toStringS.f k l0).bind fun t329 => ((laws_eqStringS.f k t322 t329).bind fun t332 => (if t332 = true then ((laws_toIntS.f k l1).bind fun t333 => ((laws_eqIntS.f k t325 t333).bind fun t336 => (if t336 = true then (some true) else (some false)))) else (some false)))) else (some false))))))))))
end Go.Proofs.YtejoneninbdjbaaDoor.E
end
section
namespace Go.Proofs.YtejoneninbdjbaaDoor.Pur
open Go.RowKit Go.Proofs.YtejoneninbdjbaaDoorW.PrintWords Go.Proofs.YtejoneninbdjbaaDoorW.PrintMore Go.Proofs.YtejoneninbdjbaaDoor.E
theorem vs_stok {l : List ByteArray} {st : List Int} (V : VS l st) : stOkB l st = true := by
  obtain ⟨l1, l6, _⟩ := books_ok V.1
  unfold stOkB
  rw [Bool.and_eq_true, Bool.and_eq_true]
  refine ⟨⟨decide_eq_true V.2.2.1, decide_eq_true (by omega)⟩, List.all_eq_true.mpr (fun j hj => ?_)⟩
  have hj := List.mem_range.mp hj
  by_cases e : j = 0
  · rw [decide_eq_true e]; rfl
  · have := V.2.2.2.2 j (by omega) hj
    rw [decide_eq_true this.1, decide_eq_true this.2, Bool.and_self, Bool.or_true]
theorem spec_depth_loop {l : List ByteArray} {st : List Int} (V : VS l st) : ∀ (d j : Nat) (x : Nat), j ≤ d → j < st.length → x + j ≤ 1000 → EvP (fun k => spec_StemDepth.l0 k st (j : Int) (x : Int)) (· = ((x + depth st j : Nat) : Int)) := by
  intro d
  induction d with
  | zero =>
    intro j x hj _ _
    obtain rfl : j = 0 := by omega
    refine EvP.succ ?_
    simp only [spec_StemDepth.l0]
    exact EvP.no (by omega) (EvP.ret (by rw [depth_zero]; rfl))
  | succ d ih =>
    intro j x hj hl hx
    refine EvP.succ ?_
    simp only [spec_StemDepth.l0]
    by_cases e : j = 0
    · subst e
      exact EvP.no (by omega) (EvP.ret (by rw [depth_zero]; rfl))
    · have hs := V.2.2.2.2 j (by omega) hl
      obtain ⟨s, es⟩ : ∃ s : Nat, rd st (j : Int) = (s : Int) := ⟨(rd st (j : Int)).toNat, by omega⟩
      rw [es] at hs ⊢
      have e1 : Hd (wrap64 ((x : Int) + 1) = ((x + 1 : Nat) : Int)) := ⟨w64 (by omega) (by omega)⟩
      refine EvP.yes (by omega) (EvP.yes (by omega) (EvP.yes (by omega) ?_))
      rw [e1.out]
      refine (ih s (x + 1) (by omega) (by omega) (by omega)).mono (fun r h => ?_)
      rw [h, depth_step st (by omega) es (by omega)]
      omega
def DepOk (l : List ByteArray) (st : List Int) (i : Int) : Prop := VS l st ∧ 0 ≤ i ∧ i < st.length
theorem spec_depth (l : List ByteArray) (st : List Int) (i : Int) (hs : ∀ t ∈ l, t.size ≤ 9223372036854775806) (hl : st.length ≤ 1048576) : EvP (fun k => spec_StemDepth.f k l st i) (Tells (DepOk l st i) ((depth st i.toNat : Nat) : Int)) := by
  unfold spec_StemDepth.f
  have bad : ¬ DepOk l st i → EvP (fun k => spec_StemDepth.j0 k st i true) (Tells (DepOk l st i) ((depth st i.toNat : Nat) : Int)) := by
    intro h
    refine EvP.succ ?_
    simp only [spec_StemDepth.j0]
    exact EvP.yes trivial (EvP.ret ⟨fun h' => absurd h' h, fun _ => rfl⟩)
  refine EvP.bind (spec_stem l st hs hl) (fun a ha => ?_)
  refine EvP.ite (fun h1 => ?_) (fun h1 => bad (fun h => h1 (ha.mpr h.1)))
  have V := ha.mp h1
  have e1 : Hd (wrap64 ((st.length : Int) - 1) = (st.length : Int) - 1) := ⟨w64 (by omega) (by omega)⟩
  rw [e1.out]
  refine EvP.bind (P := (· = decide (0 ≤ i ∧ i ≤ (st.length : Int) - 1))) ?_ (fun b hb => ?_)
  · unfold spec_l6In.f
    by_cases h : i ≥ 0
    · rw [if_pos h]; exact EvP.ret (decide_eq_decide.mpr (by omega))
    · rw [if_neg h]; exact EvP.ret (decide_eq_false (by omega)).symm
  subst hb
  by_cases h2 : 0 ≤ i ∧ i ≤ (st.length : Int) - 1
  · rw [decide_eq_true h2]
    refine EvP.succ ?_
    simp only [spec_StemDepth.j0]
    refine EvP.no (by decide) ?_
    obtain ⟨l1, l6, _⟩ := books_ok V.1
    have hsl := V.2.2.1
    obtain ⟨j, rfl⟩ := Int.eq_ofNat_of_zero_le h2.1
    refine (spec_depth_loop V j j 0 (Nat.le_refl _) (by omega) (by omega)).mono (fun r h => ⟨fun _ => ?_, fun h' => absurd ⟨V, by omega, by omega⟩ h'⟩)
    rw [h, Nat.zero_add]
    rfl
  · rw [decide_eq_false h2]
    exact bad (fun h => h2 (by have := h.2; omega))
theorem impl_depth (l : List ByteArray) (st : List Int) (i : Int) (hs : ∀ t ∈ l, t.size ≤ 9223372036854775806) (hl : st.length ≤ 1048576) : EvP (fun k => impl_StemDepth.f k l st i) (Tells (DepOk l st i) ((depth st i.toNat : Nat) : Int)) := by
  unfold impl_StemDepth.f
  refine EvP.bind (impl_stem l st hs hl) (fun a ha => ?_)
  refine EvP.ite (fun h1 => ?_) (fun h1 => EvP.ret ⟨fun h => absurd (ha.mpr h.1) h1, fun _ => rfl⟩)
  have V := ha.mp h1
  refine EvP.ite (fun h2 => EvP.ret ⟨fun h => absurd h.2 (by omega), fun _ => rfl⟩) (fun h2 => ?_)
  refine EvP.ite (fun h3 => EvP.ret ⟨fun h => absurd h.2 (by omega), fun _ => rfl⟩) (fun h3 => ?_)
  exact EvP.yes (vs_stok V) (EvP.ret ⟨fun _ => rfl, fun h => absurd ⟨V, by omega, by omega⟩ h⟩)
end Go.Proofs.YtejoneninbdjbaaDoor.Pur
end
section
namespace Go.Proofs.YtejoneninbdjbaaDoor.Pur
open Go.RowKit Go.Proofs.YtejoneninbdjbaaDoorW.PrintWords Go.Proofs.YtejoneninbdjbaaDoorW.PrintMore Go.Proofs.YtejoneninbdjbaaDoor.E
theorem law_depth (l0 : List Int) (_ : (l0.length : Int) ≤ 9223372036854775807) (hw : ∀ x ∈ l0, (Lit.int .u8 x).wf = true) : ∃ k, laws_FnStemDepth.f k l0 = some true := by
  refine EvP.rounds (?_ : EvP (fun k => laws_FnStemDepth.f k l0) (· = true))
  unfold laws_FnStemDepth.f
  refine EvP.ite (fun _ => EvP.ret rfl) (fun h0 => ?_)
  refine EvP.bind (P := fun r => r.1.length ≤ 5 ∧ (∀ t ∈ r.1, t.size ≤ 5) ∧ r.2.1.length ≤ 5) ?_ (fun r hr => ?_)
  · unfold spec_DrawStemDepth.f
    refine EvP.bind (open_code l0 hw) (fun r hr => ?_)
    refine EvP.bind (drawn_stem hr.1 true r.2 (by omega)) (fun b hb => ?_)
    obtain ⟨b1, b2, b3, b4, b5⟩ := hb
    refine EvP.bind (at_ok hr.1 b.2.2 (b.1.length : Int) (by omega) (by omega)) (fun i hi => EvP.ret ⟨b1, b2, b3⟩)
  obtain ⟨l, st, i⟩ := r
  obtain ⟨r1, r2, r3⟩ := hr
  dsimp only at r1 r2 r3 ⊢
  have hs' : ∀ t ∈ l, t.size ≤ 9223372036854775806 := fun t ht => Nat.le_trans (r2 t ht) (by omega)
  have hst : st.length ≤ 1048576 := by omega
  refine EvP.bind (impl_depth l st i hs' hst) (fun a ha => ?_)
  refine EvP.bind (spec_depth l st i hs' hst) (fun b hb => ?_)
  obtain rfl := ha.same hb
  refine EvP.yes rfl ?_
  refine EvP.succ ?_
  simp only [laws_FnStemDepth.j0]
  by_cases g : DepOk l st i
  · have ea := ha.1 g
    obtain ⟨V, i0, i1⟩ := g
    obtain ⟨j, rfl⟩ := Int.eq_ofNat_of_zero_le i0
    rw [toNat_nat] at ea
    have hdl := depth_le st j j (Nat.le_refl _)
    have hsl := V.2.2.1
    refine EvP.no (by rw [decide_eq_true_iff]; omega) ?_
    by_cases e : j = 0
    · subst e
      refine EvP.yes rfl (EvP.ret ?_)
      rw [ea, depth_zero]
      rfl
    · have hq := V.2.2.2.2 j (by omega) (by omega)
      obtain ⟨s, es⟩ : ∃ s : Nat, rd st (j : Int) = (s : Int) := ⟨(rd st (j : Int)).toNat, by omega⟩
      have hd := depth_step st (show 0 < j by omega) es (by omega)
      refine EvP.no (by omega) (EvP.yes (by omega) (EvP.yes (by omega) (EvP.yes (by omega) (EvP.yes (by omega) (EvP.yes (by omega) ?_)))))
      refine EvP.bind (impl_depth l st (rd st (j : Int)) hs' hst) (fun c hc => EvP.ret ?_)
      have ec := hc.1 ⟨V, by omega, by omega⟩
      rw [es, toNat_nat] at ec
      rw [w64 (by omega) (by omega), ec, ea, hd, beq_iff_eq]
      omega
  · have ea := ha.2 g
    refine EvP.yes (by rw [decide_eq_true_iff]; omega) (EvP.ret ?_)
    exact beq_self_eq_true _
end Go.Proofs.YtejoneninbdjbaaDoor.Pur
end
section
namespace Go.Proofs.YtejoneninbdjbaaDoor.Head
set_option maxRecDepth 100000
theorem and_t {a b : Bool} (h : a = true) (k : b = true) : (a && b) = true := by rw [h, k]; rfl
theorem mayEnter_of {P : Program} {l : List String} {W rest : List (List Char)} (h : behindMainWord (wordsSigns P.initOrder.toList) = W) (hc : ∃ c r, W = c :: r ∧ (c == "gc".toList || c == "spec".toList) = false ∧ (c == "carried".toList) = false) (hs : stripLifts liftWords W = (l, "cut".toList :: rest))
    (hl : (l.contains "finals" || !P.laysLater) = true) (hb : (l.contains "reflectrows" || !P.bearsReflect) = true) (hr : (l.contains "reflectrows" || !l.contains "leanrows") = true) (hd : P.doorFits l = true) : P.mayEnter = true := by
  obtain ⟨c, r, rfl, h1, h2⟩ := hc
  unfold Program.mayEnter
  rw [h]
  dsimp only
  rw [hs, hl, hb, hr, hd, h1, h2]
  simp
theorem headLifts_of {P : Program} {l : List String} {W rest : List (List Char)} (h : behindMainWord (wordsSigns P.initOrder.toList) = W) (hs : stripLifts liftWords W = (l, "cut".toList :: rest)) : P.headLifts = l := by
  unfold Program.headLifts
  rw [h]
  dsimp only
  rw [hs]
  simp
theorem liftsFinal_of {P : Program} {l : List String} {W rest : List (List Char)} (h : behindMainWord (wordsSigns P.initOrder.toList) = W) (hc : ∃ c r, W = c :: r ∧ (c == "gc".toList || c == "spec".toList) = false ∧ (c == "carried".toList) = false) (hs : stripLifts liftWords W = (l, "cut".toList :: rest)) : P.liftsFinal = l.contains "finals" := by
  unfold Program.liftsFinal
  rw [headLifts_of h hs, h]
  obtain ⟨c, r, rfl, h1, h2⟩ := hc
  have h3 : ((c :: r).head? == some "carried".toList) = false := by
    rw [beq_eq_false_iff_ne] at h2 ⊢
    exact fun e => h2 (Option.some.inj e)
  dsimp only
  rw [h3, Bool.false_and, Bool.false_or]
theorem make_of {P : Program} {rest : List (List Char)} (h : behindMainWord (wordsSigns P.initOrder.toList) = "cut".toList :: rest) : P.make = some .cut := by
  unfold Program.make
  rw [h]
  dsimp only
  rw [if_neg (by decide), if_pos (by simp)]
theorem mainIs_of {P : Program} {s : List Char} {rest : List (List Char)} (h : wordsSigns P.initOrder.toList = "harness".toList :: s :: rest) (hs : isSumSigns s = true) : P.mainIs = some (true, s) := by
  unfold Program.mainIs
  rw [h]
  dsimp only
  rw [hs]
  simp
def io : List Nat := [104, 97, 114, 110, 101, 115, 115, 32, 97, 49, 55, 53, 100, 55, 49, 55, 50, 99, 49, 55, 51, 50, 52, 49, 97, 52, 51, 56, 99, 53, 50, 99, 97, 100, 56, 102, 50, 99, 98, 98, 56, 52, 101, 54, 98, 50, 52, 101, 51, 97, 99, 54, 56, 49, 102, 49, 99, 55, 51, 51, 99, 98, 98, 57, 52, 51, 98, 49, 102, 48, 55, 99, 32, 99, 117, 116, 32, 97, 116, 32, 108, 111, 111, 112, 46, 101, 120, 97, 109, 112, 108, 101, 47, 110, 101, 117, 109, 101, 115, 47, 108, 97, 119, 115, 46, 70, 110, 69, 120, 97, 99, 116, 66, 111, 111, 107, 115, 86, 97, 108, 105, 100, 32, 108, 111, 111, 112, 46, 101, 120, 97, 109, 112, 108, 101, 47, 110, 101, 117, 109, 101, 115, 47, 108, 97, 119, 115, 46, 70, 110, 69, 120, 97, 99, 116, 66, 111, 111, 107, 115, 70, 97, 114, 32, 108, 111, 111, 112, 46, 101, 120, 97, 109, 112, 108, 101, 47, 110, 101, 117, 109, 101, 115, 47, 108, 97, 119, 115, 46, 70, 110, 69, 120, 97, 99, 116, 83, 116, 101, 109, 86, 97, 108, 105, 100, 32, 108, 111, 111, 112, 46, 101, 120, 97, 109, 112, 108, 101, 47, 110, 101, 117, 109, 101, 115, 47, 108, 97, 119, 115, 46, 70, 110, 69, 120, 97, 99, 116, 66, 111, 111, 107, 115, 67, 111, 109, 109, 111, 110, 32, 108, 111, 111, 112, 46, 101, 120, 97, 109, 112, 108, 101, 47, 110, 101, 117, 109, 101, 115, 47, 108, 97, 119, 115, 46, 70, 110, 66, 111, 111, 107, 115, 70, 97, 114, 32, 108, 111, 111, 112, 46, 101, 120, 97, 109, 112, 108, 101, 47, 110, 101, 117, 109, 101, 115, 47, 108, 97, 119, 115, 46, 70, 110, 69, 120, 97, 99, 116, 83, 116, 101, 109, 68, 101, 112, 116, 104, 32, 108, 111, 111, 112, 46, 101, 120, 97, 109, 112, 108, 101, 47, 110, 101, 117, 109, 101, 115, 47, 108, 97, 119, 115, 46, 70, 110, 66, 111, 111, 107, 115, 67, 111, 109, 109, 111, 110, 32, 108, 111, 111, 112, 46, 101, 120, 97, 109, 112, 108, 101, 47, 110, 101, 117, 109, 101, 115, 47, 108, 97, 119, 115, 46, 70, 110, 69, 120, 97, 99, 116, 83, 116, 101, 109, 67, 104, 97, 110, 103, 101, 115, 32, 108, 111, 111, 112, 46, 101, 120, 97, 109, 112, 108, 101, 47, 110, 101, 117, 109, 101, 115, 47, 108, 97, 119, 115, 46, 70, 110, 69, 120, 97, 99, 116, 83, 116, 101, 109, 77, 111, 118, 101, 32, 108, 111, 111, 112, 46, 101, 120, 97, 109, 112, 108, 101, 47, 110, 101, 117, 109, 101, 115, 47, 108, 97, 119, 115, 46, 70, 110, 69, 120, 97, 99, 116, 83, 116, 101, 109, 66, 101, 115, 116, 32, 108, 111, 111, 112, 46, 101, 120, 97, 109, 112, 108, 101, 47, 110, 101, 117, 109, 101, 115, 47, 108, 97, 119, 115, 46, 70, 110, 83, 116, 101, 109, 68, 101, 112, 116, 104, 32, 108, 111, 111, 112, 46, 101, 120, 97, 109, 112, 108, 101, 47, 110, 101, 117, 109, 101, 115, 47, 108, 97, 119, 115, 46, 70, 110, 83, 116, 101, 109, 66, 101, 115, 116, 32, 108, 111, 111, 112, 46, 101, 120, 97, 109, 112, 108, 101, 47, 110, 101, 117, 109, 101, 115, 47, 108, 97, 119, 115, 46, 70, 110, 69, 120, 97, 99, 116, 83, 116, 101, 109, 70, 101, 119, 101, 115, 116, 32, 108, 111, 111, 112, 46, 101, 120, 97, 109, 112, 108, 101, 47, 110, 101, 117, 109, 101, 115, 47, 108, 97, 119, 115, 46, 70, 110, 83, 116, 101, 109, 70, 101, 119, 101, 115, 116, 32, 108, 111, 111, 112, 46, 101, 120, 97, 109, 112, 108, 101, 47, 110, 101, 117, 109, 101, 115, 47, 108, 97, 119, 115, 46, 70, 110, 69, 120, 97, 99, 116, 83, 116, 101, 109, 70, 105, 108, 108, 32, 108, 111, 111, 112, 46, 101, 120, 97, 109, 112, 108, 101, 47, 110, 101, 117, 109, 101, 115, 47, 108, 97, 119, 115, 46, 70, 110, 83, 116, 101, 109, 77, 111, 118, 101, 32, 108, 111, 111, 112, 46, 101, 120, 97, 109, 112, 108, 101, 47, 110, 101, 117, 109, 101, 115, 47, 108, 97, 119, 115, 46, 70, 110, 83, 116, 101, 109, 76, 111, 115, 116, 32, 108, 111, 111, 112, 46, 101, 120, 97, 109, 112, 108, 101, 47, 110, 101, 117, 109, 101, 115, 47, 108, 97, 119, 115, 46, 70, 110, 83, 116, 101, 109, 67, 104, 97, 110, 103, 101, 115]
def ws : List (List Nat) := [[104, 97, 114, 110, 101, 115, 115], [97, 49, 55, 53, 100, 55, 49, 55, 50, 99, 49, 55, 51, 50, 52, 49, 97, 52, 51, 56, 99, 53, 50, 99, 97, 100, 56, 102, 50, 99, 98, 98, 56, 52, 101, 54, 98, 50, 52, 101, 51, 97, 99, 54, 56, 49, 102, 49, 99, 55, 51, 51, 99, 98, 98, 57, 52, 51, 98, 49, 102, 48, 55, 99], [99, 117, 116], [97, 116], [108, 111, 111, 112, 46, 101, 120, 97, 109, 112, 108, 101, 47, 110, 101, 117, 109, 101, 115, 47, 108, 97, 119, 115, 46, 70, 110, 69, 120, 97, 99, 116, 66, 111, 111, 107, 115, 86, 97, 108, 105, 100], [108, 111, 111, 112, 46, 101, 120, 97, 109, 112, 108, 101, 47, 110, 101, 117, 109, 101, 115, 47, 108, 97, 119, 115, 46, 70, 110, 69, 120, 97, 99, 116, 66, 111, 111, 107, 115, 70, 97, 114], [108, 111, 111, 112, 46, 101, 120, 97, 109, 112, 108, 101, 47, 110, 101, 117, 109, 101, 115, 47, 108, 97, 119, 115, 46, 70, 110, 69, 120, 97, 99, 116, 83, 116, 101, 109, 86, 97, 108, 105, 100], [108, 111, 111, 112, 46, 101, 120, 97, 109, 112, 108, 101, 47, 110, 101, 117, 109, 101, 115, 47, 108, 97, 119, 115, 46, 70, 110, 69, 120, 97, 99, 116, 66, 111, 111, 107, 115, 67, 111, 109, 109, 111, 110], [108, 111, 111, 112, 46, 101, 120, 97, 109, 112, 108, 101, 47, 110, 101, 117, 109, 101, 115, 47, 108, 97, 119, 115, 46, 70, 110, 66, 111, 111, 107, 115, 70, 97, 114], [108, 111, 111, 112, 46, 101, 120, 97, 109, 112, 108, 101, 47, 110, 101, 117, 109, 101, 115, 47, 108, 97, 119, 115, 46, 70, 110, 69, 120, 97, 99, 116, 83, 116, 101, 109, 68, 101, 112, 116, 104], [108, 111, 111, 112, 46, 101, 120, 97, 109, 112, 108, 101, 47, 110, 101, 117, 109, 101, 115, 47, 108, 97, 119, 115, 46, 70, 110, 66, 111, 111, 107, 115, 67, 111, 109, 109, 111, 110], [108, 111, 111, 112, 46, 101, 120, 97, 109, 112, 108, 101, 47, 110, 101, 117, 109, 101, 115, 47, 108, 97, 119, 115, 46, 70, 110, 69, 120, 97, 99, 116, 83, 116, 101, 109, 67, 104, 97, 110, 103, 101, 115], [108, 111, 111, 112, 46, 101, 120, 97, 109, 112, 108, 101, 47, 110, 101, 117, 109, 101, 115, 47, 108, 97, 119, 115, 46, 70, 110, 69, 120, 97, 99, 116, 83, 116, 101, 109, 77, 111, 118, 101], [108, 111, 111, 112, 46, 101, 120, 97, 109, 112, 108, 101, 47, 110, 101, 117, 109, 101, 115, 47, 108, 97, 119, 115, 46, 70, 110, 69, 120, 97, 99, 116, 83, 116, 101, 109, 66, 101, 115, 116], [108, 111, 111, 112, 46, 101, 120, 97, 109, 112, 108, 101, 47, 110, 101, 117, 109, 101, 115, 47, 108, 97, 119, 115, 46, 70, 110, 83, 116, 101, 109, 68, 101, 112, 116, 104], [108, 111, 111, 112, 46, 101, 120, 97, 109, 112, 108, 101, 47, 110, 101, 117, 109, 101, 115, 47, 108, 97, 119, 115, 46, 70, 110, 83, 116, 101, 109, 66, 101, 115, 116], [108, 111, 111, 112, 46, 101, 120, 97, 109, 112, 108, 101, 47, 110, 101, 117, 109, 101, 115, 47, 108, 97, 119, 115, 46, 70, 110, 69, 120, 97, 99, 116, 83, 116, 101, 109, 70, 101, 119, 101, 115, 116], [108, 111, 111, 112, 46, 101, 120, 97, 109, 112, 108, 101, 47, 110, 101, 117, 109, 101, 115, 47, 108, 97, 119, 115, 46, 70, 110, 83, 116, 101, 109, 70, 101, 119, 101, 115, 116], [108, 111, 111, 112, 46, 101, 120, 97, 109, 112, 108, 101, 47, 110, 101, 117, 109, 101, 115, 47, 108, 97, 119, 115, 46, 70, 110, 69, 120, 97, 99, 116, 83, 116, 101, 109, 70, 105, 108, 108], [108, 111, 111, 112, 46, 101, 120, 97, 109, 112, 108, 101, 47, 110, 101, 117, 109, 101, 115, 47, 108, 97, 119, 115, 46, 70, 110, 83, 116, 101, 109, 77, 111, 118, 101], [108, 111, 111, 112, 46, 101, 120, 97, 109, 112, 108, 101, 47, 110, 101, 117, 109, 101, 115, 47, 108, 97, 119, 115, 46, 70, 110, 83, 116, 101, 109, 76, 111, 115, 116], [108, 111, 111, 112, 46, 101, 120, 97, 109, 112, 108, 101, 47, 110, 101, 117, 109, 101, 115, 47, 108, 97, 119, 115, 46, 70, 110, 83, 116, 101, 109, 67, 104, 97, 110, 103, 101, 115]]
def ch (w : List Nat) : List Char := w.map Char.ofNat
theorem io_is : Tryd.prog.initOrder = String.ofList (ch io) := by kernel_rfl
theorem io_ws : wordsSigns (ch io) = ws.map ch := by kernel_rfl
theorem io_all : wordsSigns Tryd.prog.initOrder.toList = ws.map ch := by rw [io_is, String.toList_ofList, io_ws]
theorem be : behindMainWord (ws.map ch) = (ws.drop 2).map ch := by kernel_rfl
theorem io_be : behindMainWord (wordsSigns Tryd.prog.initOrder.toList) = (ws.drop 2).map ch := by rw [io_all, be]
theorem first : ∃ c r, (ws.drop 2).map ch = c :: r ∧ (c == "gc".toList || c == "spec".toList) = false ∧ (c == "carried".toList) = false := ⟨ch (ws.getD 2 []), (ws.drop 3).map ch, by kernel_rfl, by kernel_rfl, by kernel_rfl⟩
theorem st : stripLifts liftWords ((ws.drop 2).map ch) = ([], "cut".toList :: ((ws.drop 3).map ch)) := by kernel_rfl
theorem ll : ([].contains "finals" || !Tryd.prog.laysLater) = true := by kernel_rfl
theorem br : ([].contains "reflectrows" || !Tryd.prog.bearsReflect) = true := by kernel_rfl
theorem rr : ([].contains "reflectrows" || ![].contains "leanrows") = true := by kernel_rfl
theorem df : Tryd.prog.doorFits [] = true := by kernel_rfl
theorem mayE : Tryd.prog.mayEnter = true := mayEnter_of io_be first st ll br rr df
theorem finE : Tryd.prog.liftsFinal = [].contains "finals" := liftsFinal_of io_be first st
theorem mainE : Tryd.prog.mainIs = some (true, ch [97, 49, 55, 53, 100, 55, 49, 55, 50, 99, 49, 55, 51, 50, 52, 49, 97, 52, 51, 56, 99, 53, 50, 99, 97, 100, 56, 102, 50, 99, 98, 98, 56, 52, 101, 54, 98, 50, 52, 101, 51, 97, 99, 54, 56, 49, 102, 49, 99, 55, 51, 51, 99, 98, 98, 57, 52, 51, 98, 49, 102, 48, 55, 99]) := mainIs_of (rest := (ws.drop 2).map ch) (io_all.trans (by kernel_rfl)) (by kernel_rfl)
theorem makeE : Tryd.prog.make = some .cut := make_of (io_be.trans (by kernel_rfl : (ws.drop 2).map ch = "cut".toList :: ((ws.drop 3).map ch)))
end Go.Proofs.YtejoneninbdjbaaDoor.Head
end
section
namespace Go.Proofs.YtejoneninbdjbaaDoor.Pur
open Go.RowKit Go.ChangeShapes Go.Deep Go.Proofs.YtejoneninbdjbaaDoorW.PrintWords Go.Proofs.YtejoneninbdjbaaDoor.E
theorem open_rowP {P : Program} {H : Type} {enc : TypeId × Value → H} {W : World} {α : Type} [Inhabited α] {d : Kd α} {p : α → Prop} {t e : TypeId} {fuel : Nat} {cs : List Value} {x : DataW H × List MemPlace} (ht : P.underlying t = some (.slice e)) (hc : P.cellsOf e = d.sz)
    (o : ∀ (fuel : Nat) (cs : List Value) (x : DataW H × List MemPlace), DataW.trod enc P W 0 (fun _ => true) true fuel e cs = some x → ∃ y, d.K W y cs ∧ p y)
    (h : DataW.trod enc P W 0 (fun _ => true) true fuel t cs = some x) : ∃ (A : Option Addr) (c : Nat) (l : List α), cs = [.slice A l.length c] ∧ l.length ≤ c ∧ (l.length : Int) ≤ 9223372036854775807 ∧ d.C W A l.length l ∧ ∀ y ∈ l, p y := by
  rcases open_slice ht h with ⟨rfl, _⟩ | ⟨a, len, cap, m, n, D, Pl, rfl, _, hl, hm, hmm, _, hx⟩
  · exact ⟨none, 0, [], rfl, Nat.le_refl _, by simp, ⟨rfl, by simp, fun h => absurd h (by simp)⟩, fun y hy => by cases hy⟩
  · have hlm : len ≤ m := by rw [hmm]; simp; omega
    unfold maxLen at hm
    obtain ⟨Y, hY⟩ := choose_lt (α := α) (n := len) (p := fun i y => ∃ cs', W.cells? 0 (a.add (i * P.cellsOf e)) (P.cellsOf e) = some cs' ∧ d.K W y cs' ∧ p y) (fun i hi => by
      obtain ⟨cs', h1, h2⟩ := hx i (by omega)
      obtain ⟨y, hy, hp⟩ := o _ _ _ h2
      exact ⟨y, cs', h1, hy, hp⟩)
    have hlen : ((List.range len).map Y).length = len := by simp
    refine ⟨some a, cap, (List.range len).map Y, by rw [hlen], by rw [hlen]; exact hl, by rw [hlen]; omega, ⟨rfl, by rw [hlen]; omega, fun _ => ⟨a, rfl, fun j q hj => ?_⟩⟩, fun y hy => ?_⟩
    · obtain ⟨hj1, hj2⟩ := List.getElem?_eq_some_iff.1 hj
      rw [hlen] at hj1
      simp only [List.getElem_map, List.getElem_range] at hj2
      subst hj2
      obtain ⟨cs', h1, h2, _⟩ := hY j hj1
      obtain ⟨_, g1, g2⟩ := World.cells?_some h1
      refine ⟨cs', by rw [g1, hc], h2, fun i u hu => ?_⟩
      have := g2 i (by rw [← g1]; exact (List.getElem?_eq_some_iff.1 hu).1)
      rw [Go.Deep.add_add, hc, hu] at this
      exact this
    · obtain ⟨j, hj, rfl⟩ := List.mem_map.mp hy
      obtain ⟨_, _, _, hp⟩ := hY j (List.mem_range.mp hj)
      exact hp
theorem open_intsR {P : Program} {H : Type} {enc : TypeId × Value → H} {W : World} {k : IntKind} {t e : TypeId} {fuel : Nat} {cs : List Value} {x : DataW H × List MemPlace} (ht : P.underlying t = some (.slice e)) (he : P.underlying e = some (.int k)) (hc : P.cellsOf e = 1) (h : DataW.trod enc P W 0 (fun _ => true) true fuel t cs = some x) :
    ∃ (A : Option Addr) (c : Nat) (l : List Int), cs = [.slice A l.length c] ∧ l.length ≤ c ∧ (l.length : Int) ≤ 9223372036854775807 ∧ (Kd.int k).C W A l.length l ∧ ∀ y ∈ l, (Lit.int k y).wf = true :=
  open_rowP ht hc (fun fuel cs x h => by
    obtain ⟨s, rfl, _, hs⟩ := DataW.trod_int he h
    exact ⟨s, rfl, hs⟩) h
end Go.Proofs.YtejoneninbdjbaaDoor.Pur
end
section
namespace Go.Proofs.YtejoneninbdjbaaDoor.fnStemDepth
open Go.ChangeShapes Go.WideShapes Go.ChangeAt Go.RowKit
open Go.ChangeMaps (open_string shut_string)
set_option linter.unusedVariables false
theorem own : ownKnob Tryd.prog.godebug = none := by kernel_rfl
theorem laidOut : laidOutB Tryd.prog = true := by kernel_rfl
set_option maxRecDepth 100000 in
theorem lifted (os : Os) (started : os.Started) (H : Type) (enc : TypeId × Value → H) :
    ReturnsInHanded {} Tryd.checked os 13 .any (fun w args => (Rows.fnStemDepthSpec.pre enc Tryd.prog Tryd.f13 Rows.fnStemDepthRow.domain false w args ∧ laidMetH Tryd.prog Rows.fnStemDepthRow.laid w) ∧ sizedMet enc Tryd.prog Tryd.f13 (OpenSpec.ofChange Rows.fnStemDepthSpec) false w args) (Rows.fnStemDepthSpec.post enc Tryd.prog Tryd.f13 false true false false) := by
  refine returnsInHanded_of_change_and (C := Tryd.checked) (X := fun w _ => laidMetH Tryd.prog Rows.fnStemDepthRow.laid w) (fun _ _ _ hh h => h.of_heap hh) own started (by kernel_rfl) Tryd.func13
    (ChangeSpec.witness_shaped (enc := enc) (C := Tryd.checked) (os := os) (X := fun w _ => laidMetH Tryd.prog Rows.fnStemDepthRow.laid w) false (World.laidAll Tryd.prog os Rows.fnStemDepthRow.laid) #[.slice none 0 0] 8 (World.laidAll_os _ _ _) (World.shaped_of_ZipB (by kernel_rfl) (by kernel_rfl)) (by kernel_rfl) (by kernel_rfl) (by kernel_rfl) (by rw [MakeChecks.laidMetH_plain _ _ _ (by kernel_rfl)]; exact laidMet_laidAll _ (by kernel_rfl) (by kernel_rfl))) ?_
  intro W base args ds gs before hval0 hW hcnd hsz0 hL _
  have hsz : (DataW.weightsEach Tryd.prog (Tryd.f13.params.toList ++ Rows.fnStemDepthSpec.plain.varTypes Tryd.prog) (ds ++ gs)).all (· ≤ reachBytes) = true := hsz0
  have hval : ∀ (j : Nat) t v, Tryd.f13.params[j]? = some t → args[j]? = some v → Value.okWide Tryd.prog W .any base t v := hval0
  have hW' := hW
  obtain ⟨p, q, hA0, hV, rfl, hfz, hnd⟩ := hW
  have hA : DataW.TrodAll enc Tryd.prog W 0 (fun _ => true) true Tryd.f13.params.toList args.toList ds p := hA0
  rw [Tryd.params13] at hA hval hsz
  obtain ⟨v0, vs0, d0, ds0, p0, q0, hargs, rfl, rfl, h0, r0⟩ := trodAll_cons hA
  obtain ⟨rfl, rfl, rfl⟩ := trodAll_nil r0
  obtain rfl : args = #[v0] := by cases args; simp_all
  obtain ⟨rfl, rfl⟩ := trodVars_none hV
  have k0 := h0
  have lt0 : ∀ x ∈ p0, x.block < W.heap.size := by obtain ⟨m, hm⟩ := k0; exact DataW.trod_lt m _ _ _ hm
  obtain ⟨a0, len0, cap0, rfl⟩ := okWide_slice Tryd.underlying35 (hval 0 35 v0 rfl rfl)
  obtain ⟨fuel0, hf0⟩ := h0
  obtain ⟨A0, c0, l0, hcs0, hle0, hm0, hC0, hx0⟩ := Pur.open_intsR Tryd.underlying35 Tryd.underlying5 (by kernel_rfl) hf0
  simp [Value.cells] at hcs0
  obtain ⟨rfl, rfl, rfl⟩ := hcs0
  clear hA0 hval0 hsz0 hsz
  obtain ⟨k, hk⟩ := Pur.law_depth l0 hm0 hx0
  refine (E.laws_FnStemDepth.calls k _ _ l0 true W hC0 hle0 hk).mono fun e W' ⟨he, bel⟩ => ?_
  subst he
  exact ⟨_, rfl, _, _, _, [], _, [], hW', trodAll_mk1 (shut_bool Tryd.underlying4 _), (trodAll_cons_mk (Below.trod laidOut (by kernel_rfl) (of_decide_eq_true (by kernel_rfl)) k0 bel lt0) trodAll_mk0), rfl, bel.frame _, fun h => by cases h⟩
set_option maxRecDepth 100000 in
theorem closed : joinedFacts Tryd.prog 13 Tryd.f13 Rows.fnStemDepthSpec Rows.fnStemDepthRow = true := by
  have hf : (Rows.fnStemDepthRow.lifted == Tryd.prog.liftsFinal) = true := by rw [Head.finE]; kernel_rfl
  have hm : (Tryd.prog.make == some Rows.fnStemDepthRow.make) = true := by rw [Head.makeE]; kernel_rfl
  unfold joinedFacts
  repeat' (with_reducible refine Head.and_t ?_ ?_)
  all_goals first | with_reducible exact Head.mayE | with_reducible exact hf | with_reducible exact hm | (as_aux_lemma => kernel_rfl)
theorem over : Rows.fnStemDepthRow.holds Tryd.pinned (OpenSpec.ofChange Rows.fnStemDepthSpec) :=
  OpenClaim.holds_of_wide 13 Tryd.f13 rfl rfl rfl rfl rfl rfl rfl ⟨rfl, rfl, rfl, rfl, rfl⟩ rfl rfl rfl rfl rfl (by kernel_rfl) Tryd.func13 closed
    (of_decide_eq_true (by kernel_rfl)) (by unfold Func.isWrapper; first | (rw [if_pos (by decide +kernel)]; kernel_rfl) | (rw [if_neg (by decide +kernel)]; exact ⟨rfl, rfl⟩))
    (fun os started H enc _ => lifted os started H enc)
theorem card_ : Rows.FnStemDepthCardSaid :=
  Claim7.holds_tied_plain_at .later [] [.data, .pinned] true (true, "a175d7172c173241a438c52cad8f2cbb84e6b24e3ac681f1c733cbb943b1f07c") false
    over (fun _ h => by cases h) (by as_aux_lemma => kernel_rfl) (fun _ h => by cases h) fnStemDepth_row_tie rfl ⟨rfl, rfl⟩ (Head.mainE.trans (by as_aux_lemma => kernel_rfl)) rfl
    (fun f fn hf hfn => by
      obtain rfl : f = 13 := Option.some.inj ((show Tryd.prog.funcNamed "loop.example/neumes/laws.FnStemDepth" = some 13 by kernel_rfl).symm.trans hf) |>.symm
      obtain rfl : fn = Tryd.f13 := (Option.some.inj (Tryd.func13.symm.trans hfn)).symm
      exact ⟨by kernel_rfl, fun j t ht => by
        rw [Tryd.params13] at ht
        have hm : t ∈ [35] := by simpa using Array.mem_of_getElem? ht
        have hall : ([35].all fun u => !Tryd.prog.wantsStandIn u) = true := by kernel_rfl
        exact (show Tryd.prog.wantsStandIn t = false by simpa using List.all_eq_true.1 hall t hm)⟩)
    (by kernel_rfl)
theorem proved : Rows.FnStemDepthCardSaid := card_
#print axioms proved
end Go.Proofs.YtejoneninbdjbaaDoor.fnStemDepth
namespace Go.Proofs.YtejoneninbdjbaaDoor
theorem fnStemDepth_holds : Rows.FnStemDepthCardSaid := fnStemDepth.proved
end Go.Proofs.YtejoneninbdjbaaDoor
end
