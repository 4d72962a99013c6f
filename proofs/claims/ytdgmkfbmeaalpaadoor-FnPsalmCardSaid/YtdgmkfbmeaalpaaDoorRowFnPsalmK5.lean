/- Proved: for all arguments the given program's laws.FnPsalm returns true, and its arguments read afterwards as they read before (the given constant Rows.FnPsalmCardSaid).
Conditions: none ahead of the given statement; the statement itself begins in a world whose listed package-level variables hold what the program's text lays there, and its card ties them to that text. -/
import Derived.Test.YtdgmkfbmeaalpaaDoorRowFnPsalmK4
section
namespace Go.Proofs.YtdgmkfbmeaalpaaDoor.Pur
open Go.RowKit Go.Proofs.YtdgmkfbmeaalpaaDoorW.PrintWords Go.Proofs.YtdgmkfbmeaalpaaDoor.E
theorem some_loop {B : List Int} (hB : okB B) (n : Int) (hn : 0 ≤ n ∧ n ≤ 20) : ∀ (d : Nat) (i : Int) (acc : List S25) (p : Int), 0 ≤ i → i + d = n → (acc.length : Int) = i → 0 ≤ p → p ≤ 1000000 - 10 * d → EvP (fun k => spec_l91Some.l0 k n acc i B p) (fun r => (r.1.length : Int) = n ∧ 0 ≤ r.2 ∧ r.2 ≤ p + 2 * d) := by
  intro d
  induction d with
  | zero =>
    intro i acc p h0 hi ha hp hp'
    refine EvP.succ ?_
    simp only [spec_l91Some.l0]
    exact EvP.no (by omega) (EvP.ret ⟨by simp only []; omega, by simp only []; omega, by simp only []; omega⟩)
  | succ d ih =>
    intro i acc p h0 hi ha hp hp'
    refine EvP.succ ?_
    simp only [spec_l91Some.l0]
    refine EvP.yes (by omega) ?_
    refine EvP.bind (pick_ok hB p 6 (by omega) (by omega)) (fun r1 ⟨a1, a2, a3⟩ => ?_)
    have e1 : Hd (wrap64 (i + 1) = i + 1) := ⟨w64 (by omega) (by omega)⟩
    refine EvP.bind (P := fun _ => True) (EvP.con rfl trivial) (fun _ _ => ?_)
    refine EvP.ite (fun _ => ?_) (fun _ => ?_)
    · refine EvP.bind (pick_ok hB r1.2 2 (by omega) (by omega)) (fun r2 ⟨b1, b2, b3⟩ => ?_)
      refine EvP.yes (by omega) ?_
      rw [e1.out]
      refine (ih (i + 1) _ r2.2 (by omega) (by omega) (by simp; omega) (by omega) (by omega)).mono ?_
      rintro r ⟨c1, c2, c3⟩
      exact ⟨c1, c2, by omega⟩
    · refine EvP.yes (by omega) ?_
      rw [e1.out]
      refine (ih (i + 1) _ r1.2 (by omega) (by omega) (by simp; omega) (by omega) (by omega)).mono ?_
      rintro r ⟨c1, c2, c3⟩
      exact ⟨c1, c2, by omega⟩
theorem some_ok {B : List Int} (hB : okB B) (p n : Int) (hn : 0 ≤ n ∧ n ≤ 20) (hp : 0 ≤ p ∧ p ≤ 900000) : EvP (fun k => spec_l91Some.f k B p n) (fun r => (r.1.length : Int) = n ∧ 0 ≤ r.2 ∧ r.2 ≤ p + 2 * n) := by
  simp only [spec_l91Some.f]
  refine (some_loop hB n hn n.toNat 0 [] p (by omega) (by omega) rfl (by omega) (by omega)).mono ?_
  rintro r ⟨c1, c2, c3⟩
  exact ⟨c1, c2, by omega⟩
theorem draw_psalm {B : List Int} (hB : okB B) (p : Int) (hp : 0 ≤ p ∧ p ≤ 100000) : EvP (fun k => spec_l91Psalm.f k B p) (fun r => r.1.length ≤ 10 ∧ r.2.2.2.1.length ≤ 10 ∧ r.2.2.2.2.1.length ≤ 10 ∧ 0 ≤ r.2.2.2.2.2 ∧ r.2.2.2.2.2 ≤ p + 50) := by
  simp only [spec_l91Psalm.f]
  refine EvP.bind (pick_ok hB p 4 (by omega) (by omega)) (fun r1 ⟨a1, a2, a3⟩ => ?_)
  refine EvP.bind (some_ok hB r1.2 r1.1 (by omega) (by omega)) (fun r2 ⟨b1, b2, b3⟩ => ?_)
  refine EvP.bind (pick_ok hB r2.2 4 (by omega) (by omega)) (fun r3 ⟨c1, c2, c3⟩ => ?_)
  refine EvP.bind (pick_ok hB r3.2 3 (by omega) (by omega)) (fun r4 ⟨d1, d2, d3⟩ => ?_)
  have e4 : Hd (wrap64 (1 + r4.1) = 1 + r4.1) := ⟨w64 (by omega) (by omega)⟩
  rw [e4.out]
  refine EvP.bind (some_ok hB r4.2 (1 + r4.1) (by omega) (by omega)) (fun r5 ⟨f1, f2, f3⟩ => ?_)
  refine EvP.bind (pick_ok hB r5.2 4 (by omega) (by omega)) (fun r6 ⟨g1, g2, g3⟩ => ?_)
  have e6 : Hd (wrap64 (1 + r6.1) = 1 + r6.1) := ⟨w64 (by omega) (by omega)⟩
  rw [e6.out]
  refine EvP.bind (some_ok hB r6.2 (1 + r6.1) (by omega) (by omega)) (fun r7 ⟨h1, h2, h3⟩ => ?_)
  refine EvP.bind (pick_ok hB r7.2 40 (by omega) (by omega)) (fun r8 ⟨i1, i2, i3⟩ => ?_)
  refine EvP.ite (fun _ => EvP.ret ?_) (fun _ => EvP.ite (fun _ => EvP.ret ?_) (fun _ => EvP.ite (fun _ => ?_) (fun _ => EvP.ret ?_)))
  · exact ⟨by simp only []; omega, by simp only []; omega, by simp only []; omega, by simp only []; omega, by simp only []; omega⟩
  · exact ⟨by simp only []; omega, Nat.zero_le _, by simp only []; omega, by simp only []; omega, by simp only []; omega⟩
  · refine EvP.bind (some_ok hB r8.2 5 (by omega) (by omega)) (fun r9 ⟨j1, j2, j3⟩ => EvP.ret ?_)
    exact ⟨by simp only []; omega, by simp only []; omega, by simp only []; omega, by simp only []; omega, by simp only []; omega⟩
  · exact ⟨by simp only []; omega, by simp only []; omega, by simp only []; omega, by simp only []; omega, by simp only []; omega⟩
theorem verse_end {B : List Int} (hB : okB B) (t : ByteArray) (ht : t.size ≤ 1000) (p : Int) (hp : 0 ≤ p ∧ p ≤ 200000) : EvP (fun k => spec_l91Verse.l0 k t 2 B p) (fun r => r.1.size ≤ t.size + 12 ∧ 0 ≤ r.2 ∧ r.2 ≤ p + 2) := by
  refine EvP.succ ?_
  simp only [spec_l91Verse.l0]
  refine EvP.no (by omega) ?_
  refine EvP.bind (pick_ok hB p 24 (by omega) (by omega)) (fun r1 ⟨a1, a2, a3⟩ => ?_)
  refine EvP.ite (fun _ => ?_) (fun _ => EvP.ite (fun _ => ?_) (fun _ => EvP.ite (fun _ => ?_) (fun _ => EvP.ret ?_)))
  · refine EvP.bind (of_size hB r1.2 (by omega) _ (by decide) 2 (by intro t h; simp at h; rcases h with rfl | rfl | rfl <;> decide)) (fun r2 ⟨b1, _, b3⟩ => ?_)
    refine EvP.yes (by omega) (EvP.ret ⟨?_, by simp only []; omega, by simp only []; omega⟩)
    rw [ByteArray.size_append]
    omega
  · refine EvP.bind (of_size hB r1.2 (by omega) _ (by decide) 3 (by intro t h; simp at h; rcases h with rfl | rfl | rfl | rfl | rfl | rfl <;> decide)) (fun r2 ⟨b1, _, b3⟩ => ?_)
    exact EvP.ret ⟨by simp only []; omega, by simp only []; omega, by simp only []; omega⟩
  · refine EvP.yes (by omega) (EvP.ret ⟨?_, by simp only []; omega, by simp only []; omega⟩)
    rw [ByteArray.size_append]
    exact Nat.le_refl _
  · exact ⟨by simp only []; omega, by simp only []; omega, by simp only []; omega⟩
theorem verse_half {B : List Int} (hB : okB B) (x4 : Int) (n T : Nat) (P : Int) (Q : ByteArray × Int → Prop) (hn : n ≤ 100) (hT : T ≤ 900) (hP : P ≤ 200000) (hc : ∀ (t : ByteArray) (p : Int), t.size ≤ T → 0 ≤ p → p ≤ P → EvP (fun k => spec_l91Verse.l0 k (if x4 = 0 then t ++ (⟨#[124]⟩ : ByteArray) else t) (wrap64 (x4 + 1)) B p) Q) :
    ∀ (d i : Nat) (t : ByteArray) (p : Int), i + d = n → t.size + d ≤ T → 0 ≤ p → p + d ≤ P → EvP (fun k => spec_l91Verse.l1 k t x4 (n : Int) (i : Int) B p) Q := by
  intro d
  induction d with
  | zero =>
    intro i t p hi ht hp hp'
    refine EvP.succ ?_
    simp only [spec_l91Verse.l1]
    refine EvP.no (by omega) ?_
    have h := hc t p (by omega) hp (by omega)
    by_cases hx : x4 = 0
    · rw [if_pos hx] at h
      exact EvP.yes hx (EvP.yes (by omega) h)
    · rw [if_neg hx] at h
      exact EvP.no hx h
  | succ d ih =>
    intro i t p hi ht hp hp'
    refine EvP.succ ?_
    simp only [spec_l91Verse.l1]
    refine EvP.yes (by omega) ?_
    refine EvP.bind (of_size hB p (by omega) _ (by decide) 1 (by intro t h; simp at h; rcases h with rfl | rfl | rfl <;> decide)) (fun r2 ⟨b1, _, b3⟩ => ?_)
    refine EvP.yes (by omega) ?_
    have e1 : Hd (wrap64 ((i : Int) + 1) = ((i + 1 : Nat) : Int)) := ⟨w64 (by omega) (by omega)⟩
    rw [e1.out]
    exact ih (i + 1) _ _ (by omega) (by rw [ByteArray.size_append]; omega) (by omega) (by omega)
theorem draw_verse {B : List Int} (hB : okB B) (p : Int) (hp : 0 ≤ p ∧ p ≤ 100000) : EvP (fun k => spec_l91Verse.f k B p) (fun r => r.1.size ≤ 100 ∧ 0 ≤ r.2 ∧ r.2 ≤ p + 50) := by
  simp only [spec_l91Verse.f]
  have h2 : ∀ (t : ByteArray) (p' : Int), t.size ≤ 40 → 0 ≤ p' → p' ≤ p + 40 → EvP (fun k => spec_l91Verse.l0 k (if (1 : Int) = 0 then t ++ (⟨#[124]⟩ : ByteArray) else t) (wrap64 (1 + 1)) B p') (fun r => r.1.size ≤ 100 ∧ 0 ≤ r.2 ∧ r.2 ≤ p + 50) := by
    intro t p' ht h0 h1
    rw [if_neg (by decide), show wrap64 (1 + 1) = 2 from w64 (by omega) (by omega)]
    refine (verse_end hB t (by omega) p' (by omega)).mono ?_
    rintro r ⟨a, b, c⟩
    exact ⟨by omega, b, by omega⟩
  have h1 : ∀ (t : ByteArray) (p' : Int), t.size ≤ 20 → 0 ≤ p' → p' ≤ p + 20 → EvP (fun k => spec_l91Verse.l0 k t 1 B p') (fun r => r.1.size ≤ 100 ∧ 0 ≤ r.2 ∧ r.2 ≤ p + 50) := by
    intro t p' ht h0 h1
    refine EvP.succ ?_
    simp only [spec_l91Verse.l0]
    refine EvP.yes (by omega) ?_
    refine EvP.bind (pick_ok hB p' 8 (by omega) (by omega)) (fun r1 ⟨a1, a2, a3⟩ => ?_)
    have e4 : Hd (wrap64 (1 + r1.1) = ((1 + r1.1.toNat : Nat) : Int)) := ⟨by rw [w64 (by omega) (by omega)]; omega⟩
    rw [e4.out]
    exact verse_half hB 1 (1 + r1.1.toNat) 40 (p + 40) _ (by omega) (by omega) (by omega) h2 (1 + r1.1.toNat) 0 t r1.2 (by omega) (by omega) (by omega) (by omega)
  have h1' : ∀ (t : ByteArray) (p' : Int), t.size ≤ 19 → 0 ≤ p' → p' ≤ p + 20 → EvP (fun k => spec_l91Verse.l0 k (if (0 : Int) = 0 then t ++ (⟨#[124]⟩ : ByteArray) else t) (wrap64 (0 + 1)) B p') (fun r => r.1.size ≤ 100 ∧ 0 ≤ r.2 ∧ r.2 ≤ p + 50) := by
    intro t p' ht h0 h2
    rw [if_pos rfl, show wrap64 (0 + 1) = 1 from w64 (by omega) (by omega)]
    exact h1 _ p' (by rw [ByteArray.size_append]; show t.size + 1 ≤ 20; omega) h0 h2
  refine EvP.succ ?_
  simp only [spec_l91Verse.l0]
  refine EvP.yes (by omega) ?_
  refine EvP.bind (pick_ok hB p 8 (by omega) (by omega)) (fun r1 ⟨a1, a2, a3⟩ => ?_)
  have e4 : Hd (wrap64 (1 + r1.1) = ((1 + r1.1.toNat : Nat) : Int)) := ⟨by rw [w64 (by omega) (by omega)]; omega⟩
  rw [e4.out]
  exact verse_half hB 0 (1 + r1.1.toNat) 19 (p + 20) _ (by omega) (by omega) (by omega) h1' (1 + r1.1.toNat) 0 ⟨#[]⟩ r1.2 (by omega) (by show 0 + _ ≤ 19; omega) (by omega) (by omega)
theorem draw_sing {B : List Int} (hB : okB B) (p : Int) (hp : 0 ≤ p ∧ p ≤ 10000) : EvP (fun k => spec_l91Sing.f k B p) (fun r => r.1.length ≤ 10 ∧ r.2.2.2.1.length ≤ 10 ∧ r.2.2.2.2.1.length ≤ 10 ∧ r.2.2.2.2.2.1.size ≤ 100) := by
  simp only [spec_l91Sing.f]
  refine EvP.bind (draw_psalm hB p (by omega)) (fun r1 ⟨a1, a2, a3, a4, a5⟩ => ?_)
  refine EvP.bind (draw_verse hB r1.2.2.2.2.2 (by omega)) (fun r2 ⟨b1, b2, b3⟩ => EvP.ret ?_)
  exact ⟨a1, a2, a3, b1⟩
end Go.Proofs.YtdgmkfbmeaalpaaDoor.Pur
end
section
namespace Go.Proofs.YtdgmkfbmeaalpaaDoor.E
open Go.RowKit Go.Proofs.YtdgmkfbmeaalpaaDoorW.PrintWords Go.Proofs.YtdgmkfbmeaalpaaDoorW.PrintLast Go.Proofs.YtdgmkfbmeaalpaaDoorW.PrintMore
attribute [local go_sem] max2_int min2_int max_two min_two max_three min_three max_four min_four
set_option linter.unusedVariables false
set_option linter.unusedSimpArgs false
attribute [local go_sem] str_leq_ str_gtr_ str_geq_
mutual
def laws_FnPsalmAccents.j0 : Nat → ByteArray → Int → Int → Bool → List (S25) → Int → Bool → List (S25) → List (S25) → Option (Bool)
 | 0, _, _, _, _, _, _, _, _, _ => none
 | k + 1, x4, x5, x6, x33, x452000, x452001, x452002, x452003, x452004 => if x33 = true then (some (x5 == x6)) else ((impl_VerseHalves.f x4).bind fun bt454 => (laws_FnPsalmAccents.l0 k x4 x5 bt454.1 bt454.2.1 bt454.2.2 (⟨#[]⟩ : ByteArray) 0 x452000 x452001 x452002 x452003 x452004))
def laws_FnPsalmAccents.l0 : Nat → ByteArray → Int → ByteArray → ByteArray → Bool → ByteArray → Int → List (S25) → Int → Bool → List (S25) → List (S25) → Option (Bool)
 | 0, _, _, _, _, _, _, _, _, _, _, _, _ => none
 | k + 1, x4, x5, x7, x8, x9, x10, x11, x452000, x452001, x452002, x452003, x452004 => if x11 < (x7.size : Int) then (if x10.size + 1 ≤ 9223372036854775807 then (laws_FnPsalmAccents.l0 k x4 x5 x7 x8 x9 (x10 ++ (⟨#[120]⟩ : ByteArray)) (wrap64 (x11 + 1)) x452000 x452001 x452002 x452003 x452004) else (none)) else (if x10.size + 1 ≤ 9223372036854775807 then (laws_FnPsalmAccents.l1 k x4 x5 x8 x9 (x10 ++ (⟨#[124]⟩ : ByteArray)) 0 x452000 x452001 x452002 x452003 x452004) else (none))
def laws_FnPsalmAccents.l1 : Nat → ByteArray → Int → ByteArray → Bool → ByteArray → Int → List (S25) → Int → Bool → List (S25) → List (S25) → Option (Bool)
 | 0, _, _, _, _, _, _, _, _, _, _, _ => none
 | k + 1, x4, x5, x8, x9, x10, x12, x452000, x452001, x452002, x452003, x452004 => if x12 < (x8.size : Int) then (if x10.size + 1 ≤ 9223372036854775807 then (laws_FnPsalmAccents.l1 k x4 x5 x8 x9 (x10 ++ (⟨#[120]⟩ : ByteArray)) (wrap64 (x12 + 1)) x452000 x452001 x452002 x452003 x452004) else (none)) else (if x9 = true then ((impl_VerseAccents.f k x4).bind fun t457 => (if x5 ≤ (t457.length : Int) then (if x5 ≤ (wrap64 ((x452003.length : Int) + (x452004.length : Int))) then ((impl_PsalmAccents.f k x452000 x452001 x452002 x452003 x452004 x10).bind fun t460 => (some (t460 == 0))) else (none)) else (none))) else (none))
end
def laws_FnPsalmAccents.f (k : Nat) (l0 : List Int) : Option (Bool) := if (l0.length : Int) > 1048576 then (some true) else ((spec_DrawPsalmAccents.f k l0).bind fun bt439 => ((impl_PsalmAccents.f k bt439.1 bt439.2.1 bt439.2.2.1 bt439.2.2.2.1 bt439.2.2.2.2.1 bt439.2.2.2.2.2).bind fun t452 => ((spec_PsalmAccents.f k bt439.1 bt439.2.1 bt439.2.2.1 bt439.2.2.2.1 bt439.2.2.2.2.1 bt439.2.2.2.2.2).bind fun t453 => (if t452 = t453 then (laws_FnPsalmAccents.j0 k bt439.2.2.2.2.2 t452 t453 (decide (t452 < 0)) bt439.1 bt439.2.1 bt439.2.2.1 bt439.2.2.2.1 bt439.2.2.2.2.1) else (laws_FnPsalmAccents.j0 k bt439.2.2.2.2.2 t452 t453 true bt439.1 bt439.2.1 bt439.2.2.1 bt439.2.2.2.1 bt439.2.2.2.2.1)))))
def laws_FnPsalmAccents.Pure : Prop := ∀ (l0 : List Int), l0.length ≤ maxLen → l0.length * 1 ≤ 140737488351232 → (∀ x ∈ l0, (Lit.int .u8 x).wf = true) → ∃ k, laws_FnPsalmAccents.f k l0 = some true
end Go.Proofs.YtdgmkfbmeaalpaaDoor.E
end
section
namespace Go.Proofs.YtdgmkfbmeaalpaaDoor.E
open Go.RowKit Go.Proofs.YtdgmkfbmeaalpaaDoorW.PrintWords Go.Proofs.YtdgmkfbmeaalpaaDoorW.PrintLast Go.Proofs.YtdgmkfbmeaalpaaDoorW.PrintMore
attribute [local go_sem] max2_int min2_int max_two min_two max_three min_three max_four min_four
set_option linter.unusedVariables false
set_option linter.unusedSimpArgs false
attribute [local go_sem] str_leq_ str_gtr_ str_geq_
def spec_DrawPsalmTenors.f (k : Nat) (l0 : List Int) : Option ((List (S25)) × Int × Bool × (List (S25)) × (List (S25)) × ByteArray) := (spec_l6Open.f l0).bind fun bt501 => ((spec_l91Sing.f k bt501.1 bt501.2).bind fun bt504 => (some (bt504.1, bt504.2.1, bt504.2.2.1, bt504.2.2.2.1, bt504.2.2.2.2.1, bt504.2.2.2.2.2.1)))
end Go.Proofs.YtdgmkfbmeaalpaaDoor.E
end
section
namespace Go.Proofs.YtdgmkfbmeaalpaaDoor.E
open Go.RowKit Go.Proofs.YtdgmkfbmeaalpaaDoorW.PrintWords Go.Proofs.YtdgmkfbmeaalpaaDoorW.PrintLast Go.Proofs.YtdgmkfbmeaalpaaDoorW.PrintMore
attribute [local go_sem] max2_int min2_int max_two min_two max_three min_three max_four min_four
set_option linter.unusedVariables false
set_option linter.unusedSimpArgs false
attribute [local go_sem] str_leq_ str_gtr_ str_geq_
mutual
def laws_FnPsalmMore.j0 : Nat → ByteArray → Int → Int → Bool → List (S25) → Int → Bool → List (S25) → List (S25) → Option (Bool)
 | 0, _, _, _, _, _, _, _, _, _ => none
 | k + 1, x4, x5, x6, x37, x532000, x532001, x532002, x532003, x532004 => if x37 = true then (some (x5 == x6)) else ((impl_VerseHalves.f x4).bind fun bt534 => (if bt534.1.size + 2 ≤ 9223372036854775807 then (if (bt534.1 ++ (⟨#[124, 120]⟩ : ByteArray)).size + bt534.2.1.size ≤ 9223372036854775807 then (if bt534.2.2 = true then ((impl_VerseValid.f ((bt534.1 ++ (⟨#[124, 120]⟩ : ByteArray)) ++ bt534.2.1)).bind fun t537 => (laws_FnPsalmMore.j1 k x4 x5 bt534.1 bt534.2.1 bt534.2.2 ((bt534.1 ++ (⟨#[124, 120]⟩ : ByteArray)) ++ bt534.2.1) (!t537) x532000 x532001 x532002 x532003 x532004)) else (laws_FnPsalmMore.j1 k x4 x5 bt534.1 bt534.2.1 bt534.2.2 ((bt534.1 ++ (⟨#[124, 120]⟩ : ByteArray)) ++ bt534.2.1) true x532000 x532001 x532002 x532003 x532004)) else (none)) else (none)))
def laws_FnPsalmMore.j1 : Nat → ByteArray → Int → ByteArray → ByteArray → Bool → ByteArray → Bool → List (S25) → Int → Bool → List (S25) → List (S25) → Option (Bool)
 | 0, _, _, _, _, _, _, _, _, _, _, _, _ => none
 | k + 1, x4, x5, x7, x8, x9, x10, x57, x532000, x532001, x532002, x532003, x532004 => if x57 = true then (some x9) else ((impl_PsalmSing.f k x532000 x532001 x532002 x532003 x532004 x4).bind fun bt538 => ((impl_PsalmSing.f k x532000 x532001 x532002 x532003 x532004 x10).bind fun bt542 => ((some (([] : List (S25)) : List (S25))).bind fun y546 => (if 0 ≤ (wrap64 ((wrap64 ((x7.size : Int) + (x8.size : Int))) - (x532004.length : Int))) then (if (wrap64 ((wrap64 ((x7.size : Int) + (x8.size : Int))) - (x532004.length : Int))) ≤ (bt538.1.length : Int) then ((some (bt538.1.take ((wrap64 ((wrap64 ((x7.size : Int) + (x8.size : Int))) - (x532004.length : Int))) : Int).toNat : List (S25))).bind fun y549 => (if y546.length + y549.length < 8796093022208 then ((some (y546 ++ y549 : List (S25))).bind fun y553 => ((some (([(⟨x532001, x532002⟩ : S25)] : List (S25)) : List (S25))).bind fun y556 => (if y553.length + y556.length < 8796093022208 then ((some (y553 ++ y556 : List (S25))).bind fun y559 => ((some (bt538.1.drop ((wrap64 ((wrap64 ((x7.size : Int) + (x8.size : Int))) - (x532004.length : Int))) : Int).toNat : List (S25))).bind fun y562 => (if y559.length + y562.length < 8796093022208 then (if bt538.2 = true then (if bt542.2 = true then ((impl_PsalmTenors.f k x532000 x532001 x532002 x532003 x532004 x10).bind fun t569 => (if t569 = (wrap64 (x5 + 1)) then ((laws_sameTones.f k bt542.1 (y559 ++ y562)).bind fun t570 => (some t570)) else (none))) else (none)) else (none)) else (none)))) else (none)))) else (none))) else (none)) else (none)))))
end
def laws_FnPsalmMore.f (k : Nat) (l0 : List Int) : Option (Bool) := if (l0.length : Int) > 1048576 then (some true) else ((spec_DrawPsalmTenors.f k l0).bind fun bt519 => ((impl_PsalmTenors.f k bt519.1 bt519.2.1 bt519.2.2.1 bt519.2.2.2.1 bt519.2.2.2.2.1 bt519.2.2.2.2.2).bind fun t532 => ((spec_PsalmTenors.f k bt519.1 bt519.2.1 bt519.2.2.1 bt519.2.2.2.1 bt519.2.2.2.2.1 bt519.2.2.2.2.2).bind fun t533 => (if t532 = t533 then (laws_FnPsalmMore.j0 k bt519.2.2.2.2.2 t532 t533 (decide (t532 < 0)) bt519.1 bt519.2.1 bt519.2.2.1 bt519.2.2.2.1 bt519.2.2.2.2.1) else (laws_FnPsalmMore.j0 k bt519.2.2.2.2.2 t532 t533 true bt519.1 bt519.2.1 bt519.2.2.1 bt519.2.2.2.1 bt519.2.2.2.2.1)))))
def laws_FnPsalmMore.T15 : Bool × List (List Nat × List Nat) := (true, [([], []), ([], []), ([], []), ([1, 2], [1, 2]), ([0, 3], [0, 3]), ([], []), ([5], [5]), ([6], [6]), ([4, 7, 4], [4, 7]), ([8, 8, 0, 1, 2, 3, 4, 5, 6, 7, 8], [8])])
def laws_FnPsalmMore.B15 : List Nat := [0, 0, 0, 6, 15, 0, 32, 96, 255, 511]
def laws_FnPsalmMore.Pure : Prop := ∀ (l0 : List Int), l0.length ≤ maxLen → l0.length * 1 ≤ 140737488351232 → (∀ x ∈ l0, (Lit.int .u8 x).wf = true) → ∃ k, laws_FnPsalmMore.f k l0 = some true
end Go.Proofs.YtdgmkfbmeaalpaaDoor.E
end
section
namespace Go.Proofs.YtdgmkfbmeaalpaaDoor.Pur
open Go.RowKit Go.Proofs.YtdgmkfbmeaalpaaDoorW.PrintWords Go.Proofs.YtdgmkfbmeaalpaaDoorW.PrintMore Go.Proofs.YtdgmkfbmeaalpaaDoor.E
def mkB (l : List UInt8) : ByteArray := ⟨l.toArray⟩
section
variable {ps pm pe : TL} {x : Int} {b : Bool} {s u v : ByteArray}
end
theorem halves_of {s u v : ByteArray} (h : verse s = some (u, v)) : halvesOf s = (u, v, true) := by
  unfold halvesOf
  rw [h]
theorem same_loop (l : TL) (hl : l.length ≤ 1000000) : ∀ d i : Nat, i + d = l.length → EvP (fun k => laws_sameTones.l0 k l l (i : Int)) (· = true) := by
  intro d
  induction d with
  | zero =>
    intro i hi
    refine EvP.succ ?_
    simp only [laws_sameTones.l0]
    exact EvP.no (by omega) (EvP.ret rfl)
  | succ d ih =>
    intro i hi
    refine EvP.succ ?_
    simp only [laws_sameTones.l0]
    refine EvP.yes (by omega) (EvP.yes (by omega) (EvP.yes (by omega) (EvP.no (by simp) ?_)))
    rw [w64 (by omega) (by omega), show (i : Int) + 1 = ((i + 1 : Nat) : Int) by omega]
    exact ih (i + 1) (by omega)
theorem same_self (l : TL) (hl : l.length ≤ 1000000) : EvP (fun k => laws_sameTones.f k l l) (· = true) := by
  simp only [laws_sameTones.f]
  exact EvP.yes (by trivial) (same_loop l hl l.length 0 (by omega))
end Go.Proofs.YtdgmkfbmeaalpaaDoor.Pur
end
section
namespace Go.Proofs.YtdgmkfbmeaalpaaDoor.E
open Go.RowKit Go.Proofs.YtdgmkfbmeaalpaaDoorW.PrintWords Go.Proofs.YtdgmkfbmeaalpaaDoorW.PrintLast Go.Proofs.YtdgmkfbmeaalpaaDoorW.PrintMore
attribute [local go_sem] max2_int min2_int max_two min_two max_three min_three max_four min_four
set_option linter.unusedVariables false
set_option linter.unusedSimpArgs false
attribute [local go_sem high] eqA25
attribute [local go_sem] str_leq_ str_gtr_ str_geq_
def impl_equalTones.l0 : Nat → List (S25) → List (S25) → Int → Int → Option (Bool)
 | 0, _, _, _, _ => none
 | k + 1, x1, x12, x13, x14 => if x14 < x13 then (if 0 ≤ x14 then (if x14 < (x12.length : Int) then (if x14 < (x1.length : Int) then (if (!(((rd_T25 x12 x14).f0) == ((rd_T25 x1 x14).f0)) || (!(((rd_T25 x12 x14).f1) == ((rd_T25 x1 x14).f1)))) = true then (some false) else (impl_equalTones.l0 k x1 x12 x13 (wrap64 (x14 + 1)))) else (none)) else (none)) else (none)) else (some true)
def impl_equalTones.f (k : Nat) (l0 : List (S25)) (l1 : List (S25)) : Option (Bool) := if (l0.length : Int) = (l1.length : Int) then (impl_equalTones.l0 k l1 l0 (l0.length : Int) 0) else (some false)
end Go.Proofs.YtdgmkfbmeaalpaaDoor.E
end
section
namespace Go.Proofs.YtdgmkfbmeaalpaaDoor.E
open Go.RowKit Go.Proofs.YtdgmkfbmeaalpaaDoorW.PrintWords Go.Proofs.YtdgmkfbmeaalpaaDoorW.PrintLast Go.Proofs.YtdgmkfbmeaalpaaDoorW.PrintMore
attribute [local go_sem] max2_int min2_int max_two min_two max_three min_three max_four min_four
set_option linter.unusedVariables false
set_option linter.unusedSimpArgs false
attribute [local go_sem high] eqA25
attribute [local go_sem] str_leq_ str_gtr_ str_geq_
def spec_l4Equal.l0 : Nat → List (S25) → List (S25) → Int → Option (Bool)
 | 0, _, _, _ => none
 | k + 1, x0, x1, x5 => if x5 < (x0.length : Int) then (if 0 ≤ x5 then (if x5 < (x1.length : Int) then (if (!(((rd_T25 x0 x5).f0) == ((rd_T25 x1 x5).f0)) || (!(((rd_T25 x0 x5).f1) == ((rd_T25 x1 x5).f1)))) = true then (some false) else (spec_l4Equal.l0 k x0 x1 (wrap64 (x5 + 1)))) else (none)) else (none)) else (some true)
def spec_l4Equal.f (k : Nat) (l0 : List (S25)) (l1 : List (S25)) : Option (Bool) := if (l0.length : Int) = (l1.length : Int) then (spec_l4Equal.l0 k l0 l1 0) else (some false)
end Go.Proofs.YtdgmkfbmeaalpaaDoor.E
end
section
namespace Go.Proofs.YtdgmkfbmeaalpaaDoor.Pur
open Go.RowKit Go.Proofs.YtdgmkfbmeaalpaaDoorW.PrintWords Go.Proofs.YtdgmkfbmeaalpaaDoor.E
instance decT : DecidableEq S25 := fun a b => if h : a.f0 = b.f0 ∧ a.f1 = b.f1 then .isTrue (by
    cases a
    cases b
    obtain ⟨h1, h2⟩ := h
    simp only [] at h1 h2
    rw [h1, h2]) else .isFalse (fun e => h (by rw [e]; exact ⟨rfl, rfl⟩))
end Go.Proofs.YtdgmkfbmeaalpaaDoor.Pur
end
section
namespace Go.Proofs.YtdgmkfbmeaalpaaDoor.E
open Go.RowKit Go.Proofs.YtdgmkfbmeaalpaaDoorW.PrintWords Go.Proofs.YtdgmkfbmeaalpaaDoorW.PrintLast Go.Proofs.YtdgmkfbmeaalpaaDoorW.PrintMore
attribute [local go_sem] max2_int min2_int max_two min_two max_three min_three max_four min_four
set_option linter.unusedVariables false
set_option linter.unusedSimpArgs false
attribute [local go_sem] str_leq_ str_gtr_ str_geq_
def spec_DrawPsalmFits.f (k : Nat) (l0 : List Int) : Option ((List (S25)) × Int × Bool × (List (S25)) × (List (S25)) × ByteArray) := (spec_l6Open.f l0).bind fun bt191 => ((spec_l91Sing.f k bt191.1 bt191.2).bind fun bt194 => (some (bt194.1, bt194.2.1, bt194.2.2.1, bt194.2.2.2.1, bt194.2.2.2.2.1, bt194.2.2.2.2.2.1)))
end Go.Proofs.YtdgmkfbmeaalpaaDoor.E
end
section
namespace Go.Proofs.YtdgmkfbmeaalpaaDoor.E
open Go.RowKit Go.Proofs.YtdgmkfbmeaalpaaDoorW.PrintWords Go.Proofs.YtdgmkfbmeaalpaaDoorW.PrintLast Go.Proofs.YtdgmkfbmeaalpaaDoorW.PrintMore
attribute [local go_sem] max2_int min2_int max_two min_two max_three min_three max_four min_four
set_option linter.unusedVariables false
set_option linter.unusedSimpArgs false
attribute [local go_sem] str_leq_ str_gtr_ str_geq_
mutual
def laws_FnPsalmFits.j0 : Nat → ByteArray → Bool → Bool → Bool → List (S25) → Int → Bool → List (S25) → List (S25) → Option (Bool)
 | 0, _, _, _, _, _, _, _, _, _ => none
 | k + 1, x4, x5, x6, x36, x278000, x278001, x278002, x278003, x278004 => if x36 = true then (some (x5 == x6)) else ((impl_VerseHalves.f x4).bind fun bt280 => (if bt280.1.size + 2 ≤ 9223372036854775807 then (if (bt280.1 ++ (⟨#[120, 124]⟩ : ByteArray)).size + bt280.2.1.size ≤ 9223372036854775807 then (if ((bt280.1 ++ (⟨#[120, 124]⟩ : ByteArray)) ++ bt280.2.1).size + 1 ≤ 9223372036854775807 then ((some (([] : List (S25)) : List (S25))).bind fun y283 => ((impl_PsalmSing.f k x278000 x278001 x278002 x278003 x278004 x4).bind fun bt287 => ((some (([] : List (S25)) : List (S25))).bind fun y291 => (if y291.length + x278003.length < 8796093022208 then ((some (y291 ++ x278003 : List (S25))).bind fun y294 => ((some (([(⟨x278001, x278002⟩ : S25)] : List (S25)) : List (S25))).bind fun y297 => (if y294.length + y297.length < 8796093022208 then ((some (y294 ++ y297 : List (S25))).bind fun y300 => ((impl_PsalmValid.f k x278000 x278001 x278002 y300 x278004).bind fun t304 => (if t304 = true then (laws_FnPsalmFits.j1 k x4 bt280.2.2 (((bt280.1 ++ (⟨#[120, 124]⟩ : ByteArray)) ++ bt280.2.1) ++ (⟨#[47]⟩ : ByteArray)) bt287.2 (decide ((bt280.1.size : Int) ≥ (wrap64 ((wrap64 ((x278000.length : Int) + (x278003.length : Int))) + 1)))) x278000 x278001 x278002 x278003 x278004 y283 x278001 x278002 x278003 x278004 x278000 x278001 x278002 y300 x278004) else (laws_FnPsalmFits.j1 k x4 bt280.2.2 (((bt280.1 ++ (⟨#[120, 124]⟩ : ByteArray)) ++ bt280.2.1) ++ (⟨#[47]⟩ : ByteArray)) bt287.2 false x278000 x278001 x278002 x278003 x278004 y283 x278001 x278002 x278003 x278004 x278000 x278001 x278002 y300 x278004)))) else (none)))) else (none))))) else (none)) else (none)) else (none)))
def laws_FnPsalmFits.j1 : Nat → ByteArray → Bool → ByteArray → Bool → Bool → List (S25) → Int → Bool → List (S25) → List (S25) → List (S25) → Int → Bool → List (S25) → List (S25) → List (S25) → Int → Bool → List (S25) → List (S25) → Option (Bool)
 | 0, _, _, _, _, _, _, _, _, _, _, _, _, _, _, _, _, _, _, _, _ => none
 | k + 1, x4, x9, x10, x13, x15, x278000, x278001, x278002, x278003, x278004, x287000, x287001, x287002, x287003, x287004, x304000, x304001, x304002, x304003, x304004 => if x9 = true then (if x13 = true then ((impl_PsalmFits.f k x287000 x287001 x287002 x287003 x287004 x4).bind fun t305 => (if t305 = true then ((impl_VerseValid.f x10).bind fun t306 => (if t306 = true then ((impl_PsalmFits.f k x278000 x278001 x278002 x278003 x278004 x10).bind fun t307 => (if t307 = true then ((impl_PsalmFits.f k x304000 x304001 x304002 x304003 x304004 x4).bind fun t308 => (some (t308 == x15))) else (none))) else ((impl_PsalmFits.f k x304000 x304001 x304002 x304003 x304004 x4).bind fun t309 => (some (t309 == x15))))) else (none))) else (none)) else (none)
end
def laws_FnPsalmFits.f (k : Nat) (l0 : List Int) : Option (Bool) := if (l0.length : Int) > 1048576 then (some true) else ((spec_DrawPsalmFits.f k l0).bind fun bt265 => ((impl_PsalmFits.f k bt265.1 bt265.2.1 bt265.2.2.1 bt265.2.2.2.1 bt265.2.2.2.2.1 bt265.2.2.2.2.2).bind fun t278 => ((spec_PsalmFits.f k bt265.1 bt265.2.1 bt265.2.2.1 bt265.2.2.2.1 bt265.2.2.2.2.1 bt265.2.2.2.2.2).bind fun t279 => (if (t278 != t279) = true then (laws_FnPsalmFits.j0 k bt265.2.2.2.2.2 t278 t279 true bt265.1 bt265.2.1 bt265.2.2.1 bt265.2.2.2.1 bt265.2.2.2.2.1) else (laws_FnPsalmFits.j0 k bt265.2.2.2.2.2 t278 t279 (!t278) bt265.1 bt265.2.1 bt265.2.2.1 bt265.2.2.2.1 bt265.2.2.2.2.1)))))
def laws_FnPsalmFits.T12 : Bool × List (List Nat × List Nat) := (true, [([], []), ([0], [0]), ([], []), ([2], [2]), ([], []), ([], []), ([5], [5]), ([4, 6], [4, 6]), ([], []), ([8], [8]), ([9], [9]), ([7, 10, 7], [7, 10]), ([], []), ([12], [12]), ([1, 3, 11, 13], [1, 3, 11, 13]), ([], []), ([15, 14, 11, 0, 1, 2, 3, 4, 5, 6, 7, 8, 9, 10, 11, 12, 13, 14, 15], [14, 15])])
def laws_FnPsalmFits.B12 : List Nat := [0, 1, 0, 4, 0, 0, 32, 112, 0, 256, 768, 2032, 0, 4096, 16383, 0, 65535]
def laws_FnPsalmFits.Pure : Prop := ∀ (l0 : List Int), l0.length ≤ maxLen → l0.length * 1 ≤ 140737488351232 → (∀ x ∈ l0, (Lit.int .u8 x).wf = true) → ∃ k, laws_FnPsalmFits.f k l0 = some true
end Go.Proofs.YtdgmkfbmeaalpaaDoor.E
end
section
namespace Go.Proofs.YtdgmkfbmeaalpaaDoor.Pur
open Go.RowKit Go.Proofs.YtdgmkfbmeaalpaaDoorW.PrintWords Go.Proofs.YtdgmkfbmeaalpaaDoorW.PrintMore Go.Proofs.YtdgmkfbmeaalpaaDoor.E
theorem draw_sing1 (l : List Int) (h : ∀ x ∈ l, (Lit.int .u8 x).wf = true) : EvP (fun k => spec_DrawPsalmSing.f k l) (fun r => r.1.length ≤ 10 ∧ r.2.2.2.1.length ≤ 10 ∧ r.2.2.2.2.1.length ≤ 10 ∧ r.2.2.2.2.2.size ≤ 100) := by
  simp only [spec_DrawPsalmSing.f]
  refine EvP.bind (open_code l h) (fun r0 ⟨hB, e0⟩ => ?_)
  refine EvP.bind (draw_sing hB r0.2 (by omega)) (fun r1 ⟨a1, a2, a3, a4⟩ => EvP.ret ?_)
  exact ⟨a1, a2, a3, a4⟩
theorem impl_syll (s : ByteArray) (hs : s.size ≤ 100000000) {u v : ByteArray} (hv : verse s = some (u, v)) : impl_VerseSyllables.f s = some ((u.size : Int) + v.size) := by
  unfold impl_VerseSyllables.f
  rw [impl_halves s hs, halves_of hv]
  have hl := (verse_some hv).1
  simp only [Option.bind_some]
  rw [if_pos trivial, w64 (by omega) (by omega)]
def freeN (a b c d : Nat) (i : Nat) : Nat := if (a ≤ i ∧ i < b) ∨ (c ≤ i ∧ i < d) then 1 else 0
theorem freeN_le (a b c d i : Nat) : freeN a b c d i ≤ 1 := by unfold freeN; split <;> omega
theorem sumN_ones {f : Nat → Nat} : ∀ n : Nat, (∀ i, i < n → f i = 1) → sumN f n = n
  | 0, _ => rfl
  | n + 1, h => by rw [sumN, sumN_ones n (fun i hi => h i (by omega)), h n (by omega)]
theorem free_sum {a b c d n : Nat} (h1 : a ≤ b) (h2 : b ≤ c) (h3 : c ≤ d) (h4 : d ≤ n) : sumN (freeN a b c d) n = (b - a) + (d - c) := by
  have e : n = a + ((b - a) + ((c - b) + ((d - c) + (n - d)))) := by omega
  rw [e, sumN_add, sumN_add, sumN_add, sumN_add]
  have z1 : sumN (freeN a b c d) a = 0 := sumN_zero a (fun i hi => by unfold freeN; exact if_neg (by omega))
  have z2 : sumN (fun i => freeN a b c d (a + i)) (b - a) = b - a := sumN_ones (b - a) (fun i hi => by unfold freeN; exact if_pos (by omega))
  have z3 : sumN (fun i => freeN a b c d (a + (b - a + i))) (c - b) = 0 := sumN_zero (c - b) (fun i hi => by unfold freeN; exact if_neg (by omega))
  have z4 : sumN (fun i => freeN a b c d (a + (b - a + (c - b + i)))) (d - c) = d - c := sumN_ones (d - c) (fun i hi => by unfold freeN; exact if_pos (by omega))
  have z5 : sumN (fun i => freeN a b c d (a + (b - a + (c - b + (d - c + i))))) (n - d) = 0 := sumN_zero (n - d) (fun i hi => by unfold freeN; exact if_neg (by omega))
  rw [z1, z2, z3, z4, z5]
  omega
section
variable {ps pm pe : TL} {x : Int} {b : Bool} {s u v : ByteArray}
theorem sing_take : (singOf ps x b pm pe u.size v.size).take ps.length = ps := by
  unfold singOf
  rw [List.take_left' rfl]
theorem sing_mid (h1 : ps.length + pm.length ≤ u.size) : ((singOf ps x b pm pe u.size v.size).take u.size).drop (u.size - pm.length) = pm := by
  have e : singOf ps x b pm pe u.size v.size = ((ps ++ List.replicate (u.size - pm.length - ps.length) ⟨x, b⟩) ++ pm) ++ (List.replicate (v.size - pe.length) ⟨x, b⟩ ++ pe) := by simp [singOf]
  rw [e, List.take_left' (by simp only [List.length_append, List.length_replicate]; omega), List.drop_left' (by simp only [List.length_append, List.length_replicate]; omega)]
theorem sing_end (h1 : ps.length + pm.length ≤ u.size) (h2 : pe.length ≤ v.size) : (singOf ps x b pm pe u.size v.size).drop (u.size + v.size - pe.length) = pe := by
  have e : singOf ps x b pm pe u.size v.size = (ps ++ (List.replicate (u.size - pm.length - ps.length) ⟨x, b⟩ ++ (pm ++ List.replicate (v.size - pe.length) ⟨x, b⟩))) ++ pe := by simp [singOf]
  rw [e, List.drop_left' (by simp only [List.length_append, List.length_replicate]; omega)]
theorem sing_free (h1 : ps.length + pm.length ≤ u.size) (h2 : pe.length ≤ v.size) {i : Nat} (hi : (ps.length ≤ i ∧ i < u.size - pm.length) ∨ (u.size ≤ i ∧ i < u.size + v.size - pe.length)) : rd_T25 (singOf ps x b pm pe u.size v.size) (i : Int) = ⟨x, b⟩ := by
  unfold rd_T25
  rw [toNat_nat, List.getD_eq_getElem?_getD, ← sing_map, List.getElem?_map, sung_D h1 h2 (by omega) (by omega) (by omega)]
  rfl
theorem law_sing_loop (hs : s.size ≤ 100000000) (hf : fitP ps x b pm pe s = some (u, v)) : ∀ d i : Nat, i + d = u.size + v.size → EvP (fun k => laws_FnPsalm.l0 k s (singOf ps x b pm pe u.size v.size) u ((u.size : Int) + v.size) (sumN (freeN ps.length (u.size - pm.length) u.size (u.size + v.size - pe.length)) i : Int) (i : Int) ps x b pm pe) (· = true) := by
  obtain ⟨h, hv, h1, h2⟩ := fit_some hf
  have hl := (verse_some hv).1
  have hlen := sing_len (x := x) (b := b) h1 h2
  intro d
  induction d with
  | zero =>
    intro i hi
    obtain rfl : i = u.size + v.size := by omega
    refine EvP.succ ?_
    simp only [laws_FnPsalm.l0]
    refine EvP.no (by omega) ?_
    refine EvP.bind (impl_tenors ps x b pm pe s hs) (fun _ e => EvP.ret ?_)
    subst e
    rw [hf, free_sum (by omega) (by omega) (by omega) (by omega)]
    simp only [tenR, beq_iff_eq]
    omega
  | succ d ih =>
    intro i hi
    have hle := sumN_le (f := freeN ps.length (u.size - pm.length) u.size (u.size + v.size - pe.length)) i (fun j _ => freeN_le _ _ _ _ j)
    have hn := ih (i + 1) (by omega)
    rw [sumN] at hn
    have e1 : Hd (wrap64 ((i : Int) + 1) = ((i + 1 : Nat) : Int)) := ⟨w64 (by omega) (by omega)⟩
    have e2 : Hd (wrap64 ((sumN (freeN ps.length (u.size - pm.length) u.size (u.size + v.size - pe.length)) i : Int) + 1) = ((sumN (freeN ps.length (u.size - pm.length) u.size (u.size + v.size - pe.length)) i + 1 : Nat) : Int)) := ⟨w64 (by omega) (by omega)⟩
    have yes : ((ps.length ≤ i ∧ i < u.size - pm.length) ∨ (u.size ≤ i ∧ i < u.size + v.size - pe.length)) → EvP (fun k => laws_FnPsalm.j3 k s (singOf ps x b pm pe u.size v.size) u ((u.size : Int) + v.size) (sumN (freeN ps.length (u.size - pm.length) u.size (u.size + v.size - pe.length)) i : Int) (i : Int) true ps x b pm pe) (· = true) := by
      intro hc
      rw [show freeN ps.length (u.size - pm.length) u.size (u.size + v.size - pe.length) i = 1 from if_pos hc] at hn
      refine EvP.succ ?_
      simp only [laws_FnPsalm.j3]
      refine EvP.yes (by trivial) (EvP.yes (by omega) (EvP.yes (by omega) (EvP.succ ?_)))
      simp only [laws_FnPsalm.j4]
      rw [sing_free h1 h2 hc]
      refine EvP.no (by simp) (EvP.yes (by trivial) ?_)
      rw [e1.out, e2.out]
      exact hn
    have no : ¬ ((ps.length ≤ i ∧ i < u.size - pm.length) ∨ (u.size ≤ i ∧ i < u.size + v.size - pe.length)) → EvP (fun k => laws_FnPsalm.j3 k s (singOf ps x b pm pe u.size v.size) u ((u.size : Int) + v.size) (sumN (freeN ps.length (u.size - pm.length) u.size (u.size + v.size - pe.length)) i : Int) (i : Int) false ps x b pm pe) (· = true) := by
      intro hc
      rw [show freeN ps.length (u.size - pm.length) u.size (u.size + v.size - pe.length) i = 0 from if_neg hc] at hn
      refine EvP.succ ?_
      simp only [laws_FnPsalm.j3]
      refine EvP.no (by simp) (EvP.succ ?_)
      simp only [laws_FnPsalm.j4]
      refine EvP.no (by simp) (EvP.no (by simp) ?_)
      rw [e1.out]
      exact hn
    refine EvP.succ ?_
    simp only [laws_FnPsalm.l0]
    have w1 : Hd (wrap64 ((u.size : Int) - (pm.length : Int)) = ((u.size - pm.length : Nat) : Int)) := ⟨by rw [w64 (by omega) (by omega)]; omega⟩
    have w2 : Hd (wrap64 ((u.size : Int) + (v.size : Int) - (pe.length : Int)) = ((u.size + v.size - pe.length : Nat) : Int)) := ⟨by rw [w64 (by omega) (by omega)]; omega⟩
    rw [w1.out, w2.out]
    refine EvP.yes (by omega) ?_
    have low : EvP (fun k => if (i : Int) ≥ (u.size : Int) then laws_FnPsalm.j3 k s (singOf ps x b pm pe u.size v.size) u ((u.size : Int) + v.size) (sumN (freeN ps.length (u.size - pm.length) u.size (u.size + v.size - pe.length)) i : Int) (i : Int) (decide ((i : Int) < ((u.size + v.size - pe.length : Nat) : Int))) ps x b pm pe else laws_FnPsalm.j3 k s (singOf ps x b pm pe u.size v.size) u ((u.size : Int) + v.size) (sumN (freeN ps.length (u.size - pm.length) u.size (u.size + v.size - pe.length)) i : Int) (i : Int) false ps x b pm pe) (· = true) ∨ (ps.length ≤ i ∧ i < u.size - pm.length) := by
      by_cases g0 : ps.length ≤ i ∧ i < u.size - pm.length
      · exact .inr g0
      · refine .inl (EvP.ite (fun g1 => ?_) (fun g1 => no (by omega)))
        by_cases g2 : (i : Int) < ((u.size + v.size - pe.length : Nat) : Int)
        · rw [decide_eq_true g2]
          exact yes (by omega)
        · rw [decide_eq_false g2]
          exact no (by omega)
    refine EvP.ite (fun g1 => EvP.ite (fun g2 => yes (by omega)) (fun g2 => low.resolve_right (by omega))) (fun g1 => low.resolve_right (by omega))
end
theorem law_sing (l : List Int) (_ : (l.length : Int) ≤ 9223372036854775807) (hw : ∀ x ∈ l, (Lit.int .u8 x).wf = true) : ∃ k, laws_FnPsalm.f k l = some true := by
  refine EvP.rounds ?_
  simp only [laws_FnPsalm.f]
  refine EvP.ite (fun _ => EvP.ret rfl) (fun _ => ?_)
  refine EvP.bind (draw_sing1 l hw) (fun r ⟨a1, a2, a3, a4⟩ => ?_)
  refine EvP.bind (impl_sing _ _ _ _ _ _ (by omega)) (fun _ e => ?_)
  subst e
  refine EvP.bind (spec_sing _ _ _ _ _ _ (by omega) (by omega) (by omega) (by omega)) (fun _ e => ?_)
  subst e
  refine EvP.no (by simp) ?_
  rcases hf : fitP r.1 r.2.1 r.2.2.1 r.2.2.2.1 r.2.2.2.2.1 r.2.2.2.2.2 with _ | ⟨u, v⟩
  · refine EvP.bind (same_self _ (by simp [singR])) (fun _ e => ?_)
    subst e
    refine EvP.yes rfl (EvP.succ ?_)
    simp only [laws_FnPsalm.j0, singR]
    refine EvP.yes rfl (EvP.yes rfl ?_)
    exact EvP.bind (same_self _ (by simp)) (fun _ e => EvP.ret e)
  · obtain ⟨h, hv, h1, h2⟩ := fit_some hf
    obtain ⟨hl, hu1, hv1, _⟩ := verse_some hv
    have hlen := sing_len (x := r.2.1) (b := r.2.2.1) h1 h2
    simp only [singR]
    refine EvP.bind (same_self _ (by omega)) (fun _ e => ?_)
    subst e
    refine EvP.yes rfl (EvP.succ ?_)
    simp only [laws_FnPsalm.j0]
    refine EvP.no (by simp) ?_
    refine EvP.bind (EvP.con (impl_halves _ (by omega)) (P := (· = halvesOf r.2.2.2.2.2)) rfl) (fun _ e => ?_)
    subst e
    rw [halves_of hv]
    refine EvP.yes rfl ?_
    refine EvP.bind (EvP.con (impl_syll _ (by omega) hv) (P := (· = (u.size : Int) + v.size)) rfl) (fun _ e => ?_)
    subst e
    have w1 : Hd (wrap64 ((u.size : Int) - (r.2.2.2.1.length : Int)) = ((u.size - r.2.2.2.1.length : Nat) : Int)) := ⟨by rw [w64 (by omega) (by omega)]; omega⟩
    have w2 : Hd (wrap64 (((singOf r.1 r.2.1 r.2.2.1 r.2.2.2.1 r.2.2.2.2.1 u.size v.size).length : Int) - (r.2.2.2.2.1.length : Int)) = ((u.size + v.size - r.2.2.2.2.1.length : Nat) : Int)) := ⟨by rw [w64 (by omega) (by omega)]; omega⟩
    simp only []
    rw [w1.out, w2.out]
    simp only [toNat_nat]
    refine EvP.yes (by omega) (EvP.yes (by omega) (EvP.yes (by omega) ?_))
    rw [sing_take]
    refine EvP.bind (same_self _ (by omega)) (fun _ e => ?_)
    subst e
    refine EvP.yes rfl (EvP.yes (by omega) (EvP.yes (by omega) (EvP.yes (by omega) ?_)))
    rw [sing_mid h1]
    refine EvP.bind (same_self _ (by omega)) (fun _ e => ?_)
    subst e
    refine EvP.yes rfl (EvP.yes (by omega) (EvP.yes (by omega) ?_))
    rw [sing_end h1 h2]
    refine EvP.bind (same_self _ (by omega)) (fun _ e => ?_)
    subst e
    refine EvP.succ ?_
    simp only [laws_FnPsalm.j1]
    refine EvP.no (by simp) ?_
    rw [show ((singOf r.1 r.2.1 r.2.2.1 r.2.2.2.1 r.2.2.2.2.1 u.size v.size).length : Int) = (u.size : Int) + v.size by omega]
    exact law_sing_loop (by omega) hf (u.size + v.size) 0 (by omega)
end Go.Proofs.YtdgmkfbmeaalpaaDoor.Pur
end
section
namespace Go.Proofs.YtdgmkfbmeaalpaaDoor.Head
set_option maxRecDepth 100000
theorem and_t {a b : Bool} (h : a = true) (k : b = true) : (a && b) = true := by rw [h, k]; rfl
theorem mayEnter_of {P : Program} {l : List String} {W rest : List (List Char)} (h : behindMainWord (wordsSigns P.initOrder.toList) = W) (hc : ∃ c r, W = c :: r ∧ (c == "gc".toList || c == "spec".toList) = false ∧ (c == "carried".toList) = false) (hs : stripLifts liftWords W = (l, "cut".toList :: rest))
    (hl : (l.contains "finals" || !P.laysLater) = true) (hb : (l.contains "reflectrows" || !P.bearsReflect) = true) (hr : (l.contains "reflectrows" || !l.contains "leanrows") = true) (hd : P.doorFits l = true) : P.mayEnter = true := by
  obtain ⟨c, r, rfl, h1, h2⟩ := hc
  unfold Program.mayEnter
  rw [h]
  dsimp only
  rw [hs, hl, hb, hr, hd, h1, h2]
  simp
theorem headLifts_of {P : Program} {l : List String} {W rest : List (List Char)} (h : behindMainWord (wordsSigns P.initOrder.toList) = W) (hs : stripLifts liftWords W = (l, "cut".toList :: rest)) : P.headLifts = l := by
  unfold Program.headLifts
  rw [h]
  dsimp only
  rw [hs]
  simp
theorem liftsFinal_of {P : Program} {l : List String} {W rest : List (List Char)} (h : behindMainWord (wordsSigns P.initOrder.toList) = W) (hc : ∃ c r, W = c :: r ∧ (c == "gc".toList || c == "spec".toList) = false ∧ (c == "carried".toList) = false) (hs : stripLifts liftWords W = (l, "cut".toList :: rest)) : P.liftsFinal = l.contains "finals" := by
  unfold Program.liftsFinal
  rw [headLifts_of h hs, h]
  obtain ⟨c, r, rfl, h1, h2⟩ := hc
  have h3 : ((c :: r).head? == some "carried".toList) = false := by
    rw [beq_eq_false_iff_ne] at h2 ⊢
    exact fun e => h2 (Option.some.inj e)
  dsimp only
  rw [h3, Bool.false_and, Bool.false_or]
theorem make_of {P : Program} {rest : List (List Char)} (h : behindMainWord (wordsSigns P.initOrder.toList) = "cut".toList :: rest) : P.make = some .cut := by
  unfold Program.make
  rw [h]
  dsimp only
  rw [if_neg (by decide), if_pos (by simp)]
theorem mainIs_of {P : Program} {s : List Char} {rest : List (List Char)} (h : wordsSigns P.initOrder.toList = "harness".toList :: s :: rest) (hs : isSumSigns s = true) : P.mainIs = some (true, s) := by
  unfold Program.mainIs
  rw [h]
  dsimp only
  rw [hs]
  simp
def io : List Nat := [104, 97, 114, 110, 101, 115, 115, 32, 57, 53, 99, 56, 51, 49, 56, 101, 49, 51, 57, 50, 101, 98, 50, 97, 53, 100, 98, 55, 98, 56, 98, 55, 97, 57, 57, 100, 50, 56, 50, 99, 53, 54, 50, 53, 56, 101, 55, 102, 101, 54, 49, 101, 48, 100, 97, 56, 101, 52, 50, 57, 101, 54, 100, 53, 100, 51, 48, 52, 101, 52, 101, 101, 32, 99, 117, 116, 32, 97, 116, 32, 108, 111, 111, 112, 46, 101, 120, 97, 109, 112, 108, 101, 47, 110, 101, 117, 109, 101, 115, 47, 108, 97, 119, 115, 46, 70, 110, 80, 115, 97, 108, 109, 70, 105, 116, 115, 32, 108, 111, 111, 112, 46, 101, 120, 97, 109, 112, 108, 101, 47, 110, 101, 117, 109, 101, 115, 47, 108, 97, 119, 115, 46, 70, 110, 69, 120, 97, 99, 116, 80, 115, 97, 108, 109, 84, 101, 110, 111, 114, 115, 32, 108, 111, 111, 112, 46, 101, 120, 97, 109, 112, 108, 101, 47, 110, 101, 117, 109, 101, 115, 47, 108, 97, 119, 115, 46, 70, 110, 80, 115, 97, 108, 109, 65, 99, 99, 101, 110, 116, 115, 32, 108, 111, 111, 112, 46, 101, 120, 97, 109, 112, 108, 101, 47, 110, 101, 117, 109, 101, 115, 47, 108, 97, 119, 115, 46, 70, 110, 69, 120, 97, 99, 116, 80, 115, 97, 108, 109, 65, 99, 99, 101, 110, 116, 115, 32, 108, 111, 111, 112, 46, 101, 120, 97, 109, 112, 108, 101, 47, 110, 101, 117, 109, 101, 115, 47, 108, 97, 119, 115, 46, 70, 110, 80, 115, 97, 108, 109, 77, 111, 114, 101, 32, 108, 111, 111, 112, 46, 101, 120, 97, 109, 112, 108, 101, 47, 110, 101, 117, 109, 101, 115, 47, 108, 97, 119, 115, 46, 70, 110, 80, 115, 97, 108, 109, 32, 108, 111, 111, 112, 46, 101, 120, 97, 109, 112, 108, 101, 47, 110, 101, 117, 109, 101, 115, 47, 108, 97, 119, 115, 46, 70, 110, 69, 120, 97, 99, 116, 80, 115, 97, 108, 109, 83, 105, 110, 103, 32, 108, 111, 111, 112, 46, 101, 120, 97, 109, 112, 108, 101, 47, 110, 101, 117, 109, 101, 115, 47, 108, 97, 119, 115, 46, 70, 110, 80, 115, 97, 108, 109, 66, 101, 115, 116, 32, 108, 111, 111, 112, 46, 101, 120, 97, 109, 112, 108, 101, 47, 110, 101, 117, 109, 101, 115, 47, 108, 97, 119, 115, 46, 70, 110, 80, 115, 97, 108, 109, 82, 101, 97, 100, 32, 108, 111, 111, 112, 46, 101, 120, 97, 109, 112, 108, 101, 47, 110, 101, 117, 109, 101, 115, 47, 108, 97, 119, 115, 46, 70, 110, 69, 120, 97, 99, 116, 80, 115, 97, 108, 109, 82, 101, 97, 100, 32, 108, 111, 111, 112, 46, 101, 120, 97, 109, 112, 108, 101, 47, 110, 101, 117, 109, 101, 115, 47, 108, 97, 119, 115, 46, 70, 110, 69, 120, 97, 99, 116, 80, 115, 97, 108, 109, 66, 101, 115, 116, 32, 108, 111, 111, 112, 46, 101, 120, 97, 109, 112, 108, 101, 47, 110, 101, 117, 109, 101, 115, 47, 108, 97, 119, 115, 46, 70, 110, 80, 115, 97, 108, 109, 77, 111, 118, 101]
def ws : List (List Nat) := [[104, 97, 114, 110, 101, 115, 115], [57, 53, 99, 56, 51, 49, 56, 101, 49, 51, 57, 50, 101, 98, 50, 97, 53, 100, 98, 55, 98, 56, 98, 55, 97, 57, 57, 100, 50, 56, 50, 99, 53, 54, 50, 53, 56, 101, 55, 102, 101, 54, 49, 101, 48, 100, 97, 56, 101, 52, 50, 57, 101, 54, 100, 53, 100, 51, 48, 52, 101, 52, 101, 101], [99, 117, 116], [97, 116], [108, 111, 111, 112, 46, 101, 120, 97, 109, 112, 108, 101, 47, 110, 101, 117, 109, 101, 115, 47, 108, 97, 119, 115, 46, 70, 110, 80, 115, 97, 108, 109, 70, 105, 116, 115], [108, 111, 111, 112, 46, 101, 120, 97, 109, 112, 108, 101, 47, 110, 101, 117, 109, 101, 115, 47, 108, 97, 119, 115, 46, 70, 110, 69, 120, 97, 99, 116, 80, 115, 97, 108, 109, 84, 101, 110, 111, 114, 115], [108, 111, 111, 112, 46, 101, 120, 97, 109, 112, 108, 101, 47, 110, 101, 117, 109, 101, 115, 47, 108, 97, 119, 115, 46, 70, 110, 80, 115, 97, 108, 109, 65, 99, 99, 101, 110, 116, 115], [108, 111, 111, 112, 46, 101, 120, 97, 109, 112, 108, 101, 47, 110, 101, 117, 109, 101, 115, 47, 108, 97, 119, 115, 46, 70, 110, 69, 120, 97, 99, 116, 80, 115, 97, 108, 109, 65, 99, 99, 101, 110, 116, 115], [108, 111, 111, 112, 46, 101, 120, 97, 109, 112, 108, 101, 47, 110, 101, 117, 109, 101, 115, 47, 108, 97, 119, 115, 46, 70, 110, 80, 115, 97, 108, 109, 77, 111, 114, 101], [108, 111, 111, 112, 46, 101, 120, 97, 109, 112, 108, 101, 47, 110, 101, 117, 109, 101, 115, 47, 108, 97, 119, 115, 46, 70, 110, 80, 115, 97, 108, 109], [108, 111, 111, 112, 46, 101, 120, 97, 109, 112, 108, 101, 47, 110, 101, 117, 109, 101, 115, 47, 108, 97, 119, 115, 46, 70, 110, 69, 120, 97, 99, 116, 80, 115, 97, 108, 109, 83, 105, 110, 103], [108, 111, 111, 112, 46, 101, 120, 97, 109, 112, 108, 101, 47, 110, 101, 117, 109, 101, 115, 47, 108, 97, 119, 115, 46, 70, 110, 80, 115, 97, 108, 109, 66, 101, 115, 116], [108, 111, 111, 112, 46, 101, 120, 97, 109, 112, 108, 101, 47, 110, 101, 117, 109, 101, 115, 47, 108, 97, 119, 115, 46, 70, 110, 80, 115, 97, 108, 109, 82, 101, 97, 100], [108, 111, 111, 112, 46, 101, 120, 97, 109, 112, 108, 101, 47, 110, 101, 117, 109, 101, 115, 47, 108, 97, 119, 115, 46, 70, 110, 69, 120, 97, 99, 116, 80, 115, 97, 108, 109, 82, 101, 97, 100], [108, 111, 111, 112, 46, 101, 120, 97, 109, 112, 108, 101, 47, 110, 101, 117, 109, 101, 115, 47, 108, 97, 119, 115, 46, 70, 110, 69, 120, 97, 99, 116, 80, 115, 97, 108, 109, 66, 101, 115, 116], [108, 111, 111, 112, 46, 101, 120, 97, 109, 112, 108, 101, 47, 110, 101, 117, 109, 101, 115, 47, 108, 97, 119, 115, 46, 70, 110, 80, 115, 97, 108, 109, 77, 111, 118, 101]]
def ch (w : List Nat) : List Char := w.map Char.ofNat
theorem io_is : Tryd.prog.initOrder = String.ofList (ch io) := by kernel_rfl
theorem io_ws : wordsSigns (ch io) = ws.map ch := by kernel_rfl
theorem io_all : wordsSigns Tryd.prog.initOrder.toList = ws.map ch := by rw [io_is, String.toList_ofList, io_ws]
theorem be : behindMainWord (ws.map ch) = (ws.drop 2).map ch := by kernel_rfl
theorem io_be : behindMainWord (wordsSigns Tryd.prog.initOrder.toList) = (ws.drop 2).map ch := by rw [io_all, be]
theorem first : ∃ c r, (ws.drop 2).map ch = c :: r ∧ (c == "gc".toList || c == "spec".toList) = false ∧ (c == "carried".toList) = false := ⟨ch (ws.getD 2 []), (ws.drop 3).map ch, by kernel_rfl, by kernel_rfl, by kernel_rfl⟩
theorem st : stripLifts liftWords ((ws.drop 2).map ch) = ([], "cut".toList :: ((ws.drop 3).map ch)) := by kernel_rfl
theorem ll : ([].contains "finals" || !Tryd.prog.laysLater) = true := by kernel_rfl
theorem br : ([].contains "reflectrows" || !Tryd.prog.bearsReflect) = true := by kernel_rfl
theorem rr : ([].contains "reflectrows" || ![].contains "leanrows") = true := by kernel_rfl
theorem df : Tryd.prog.doorFits [] = true := by kernel_rfl
theorem mayE : Tryd.prog.mayEnter = true := mayEnter_of io_be first st ll br rr df
theorem finE : Tryd.prog.liftsFinal = [].contains "finals" := liftsFinal_of io_be first st
theorem mainE : Tryd.prog.mainIs = some (true, ch [57, 53, 99, 56, 51, 49, 56, 101, 49, 51, 57, 50, 101, 98, 50, 97, 53, 100, 98, 55, 98, 56, 98, 55, 97, 57, 57, 100, 50, 56, 50, 99, 53, 54, 50, 53, 56, 101, 55, 102, 101, 54, 49, 101, 48, 100, 97, 56, 101, 52, 50, 57, 101, 54, 100, 53, 100, 51, 48, 52, 101, 52, 101, 101]) := mainIs_of (rest := (ws.drop 2).map ch) (io_all.trans (by kernel_rfl)) (by kernel_rfl)
theorem makeE : Tryd.prog.make = some .cut := make_of (io_be.trans (by kernel_rfl : (ws.drop 2).map ch = "cut".toList :: ((ws.drop 3).map ch)))
end Go.Proofs.YtdgmkfbmeaalpaaDoor.Head
end
section
namespace Go.Proofs.YtdgmkfbmeaalpaaDoor.Pur
open Go.RowKit Go.ChangeShapes Go.Deep Go.Proofs.YtdgmkfbmeaalpaaDoorW.PrintWords Go.Proofs.YtdgmkfbmeaalpaaDoor.E
theorem open_rowP {P : Program} {H : Type} {enc : TypeId × Value → H} {W : World} {α : Type} [Inhabited α] {d : Kd α} {p : α → Prop} {t e : TypeId} {fuel : Nat} {cs : List Value} {x : DataW H × List MemPlace} (ht : P.underlying t = some (.slice e)) (hc : P.cellsOf e = d.sz)
    (o : ∀ (fuel : Nat) (cs : List Value) (x : DataW H × List MemPlace), DataW.trod enc P W 0 (fun _ => true) true fuel e cs = some x → ∃ y, d.K W y cs ∧ p y)
    (h : DataW.trod enc P W 0 (fun _ => true) true fuel t cs = some x) : ∃ (A : Option Addr) (c : Nat) (l : List α), cs = [.slice A l.length c] ∧ l.length ≤ c ∧ (l.length : Int) ≤ 9223372036854775807 ∧ d.C W A l.length l ∧ ∀ y ∈ l, p y := by
  rcases open_slice ht h with ⟨rfl, _⟩ | ⟨a, len, cap, m, n, D, Pl, rfl, _, hl, hm, hmm, _, hx⟩
  · exact ⟨none, 0, [], rfl, Nat.le_refl _, by simp, ⟨rfl, by simp, fun h => absurd h (by simp)⟩, fun y hy => by cases hy⟩
  · have hlm : len ≤ m := by rw [hmm]; simp; omega
    unfold maxLen at hm
    obtain ⟨Y, hY⟩ := choose_lt (α := α) (n := len) (p := fun i y => ∃ cs', W.cells? 0 (a.add (i * P.cellsOf e)) (P.cellsOf e) = some cs' ∧ d.K W y cs' ∧ p y) (fun i hi => by
      obtain ⟨cs', h1, h2⟩ := hx i (by omega)
      obtain ⟨y, hy, hp⟩ := o _ _ _ h2
      exact ⟨y, cs', h1, hy, hp⟩)
    have hlen : ((List.range len).map Y).length = len := by simp
    refine ⟨some a, cap, (List.range len).map Y, by rw [hlen], by rw [hlen]; exact hl, by rw [hlen]; omega, ⟨rfl, by rw [hlen]; omega, fun _ => ⟨a, rfl, fun j q hj => ?_⟩⟩, fun y hy => ?_⟩
    · obtain ⟨hj1, hj2⟩ := List.getElem?_eq_some_iff.1 hj
      rw [hlen] at hj1
      simp only [List.getElem_map, List.getElem_range] at hj2
      subst hj2
      obtain ⟨cs', h1, h2, _⟩ := hY j hj1
      obtain ⟨_, g1, g2⟩ := World.cells?_some h1
      refine ⟨cs', by rw [g1, hc], h2, fun i u hu => ?_⟩
      have := g2 i (by rw [← g1]; exact (List.getElem?_eq_some_iff.1 hu).1)
      rw [Go.Deep.add_add, hc, hu] at this
      exact this
    · obtain ⟨j, hj, rfl⟩ := List.mem_map.mp hy
      obtain ⟨_, _, _, hp⟩ := hY j (List.mem_range.mp hj)
      exact hp
theorem open_intsR {P : Program} {H : Type} {enc : TypeId × Value → H} {W : World} {k : IntKind} {t e : TypeId} {fuel : Nat} {cs : List Value} {x : DataW H × List MemPlace} (ht : P.underlying t = some (.slice e)) (he : P.underlying e = some (.int k)) (hc : P.cellsOf e = 1) (h : DataW.trod enc P W 0 (fun _ => true) true fuel t cs = some x) :
    ∃ (A : Option Addr) (c : Nat) (l : List Int), cs = [.slice A l.length c] ∧ l.length ≤ c ∧ (l.length : Int) ≤ 9223372036854775807 ∧ (Kd.int k).C W A l.length l ∧ ∀ y ∈ l, (Lit.int k y).wf = true :=
  open_rowP ht hc (fun fuel cs x h => by
    obtain ⟨s, rfl, _, hs⟩ := DataW.trod_int he h
    exact ⟨s, rfl, hs⟩) h
end Go.Proofs.YtdgmkfbmeaalpaaDoor.Pur
end
section
namespace Go.Proofs.YtdgmkfbmeaalpaaDoor.Pur
open Go
variable {H : Type} {enc : TypeId × Value → H}
theorem handed_shaped_and {a : Assume} {C : Checked} {os : Os} {f : FuncId} {fn : Func} {s : ChangeSpec} {conds : List PathCond} {apart fresh handsOn again : Bool} {X : World → Array Value → Prop}
    (hX : ∀ (w w' : World) (args : Array Value), w.heap = w'.heap → X w args → X w' args)
    (own : ownKnob C.prog.godebug = none) (started : os.Started) (noInit : C.prog.inits.idxOf? f = none) (hfn : C.prog.funcs[f]? = some fn)
    (witness : ∃ (w : World) (tape : Tape) (i : Input), w.os = os ∧ (w.forCall tape i).Shaped C.prog ∧ i.vars = [] ∧ Input.okWide C.prog (w.forCall tape i) .any w.heap.size f i ∧
      ((s.pre enc C.prog fn conds apart (w.forCall tape i).memory i.args ∧ X (w.forCall tape i).memory i.args) ∧ sizedMet enc C.prog fn (OpenSpec.ofChange s) apart (w.forCall tape i).memory i.args) ∧ a.holds C.prog (lone (Frame.enter C.prog f i.args .normal) [] (w.forCall tape i)))
    (contract : ∀ (W : World) (base : Nat) (args : Array Value) (ds gs : List (DataW H)) (before : List MemPlace),
      (∀ (j : Nat) t v, fn.params[j]? = some t → args[j]? = some v → Value.okWide C.prog W .any base t v) →
      DataW.Whole enc C.prog fn.params.toList s.vars apart W args.toList ds gs before →
      conds.all (PathCond.test C.prog ⟨fn.params.toList, ds, s.plain.varTypes C.prog, gs⟩) = true →
      (DataW.weightsEach C.prog (fn.params.toList ++ s.plain.varTypes C.prog) (ds ++ gs)).all (· ≤ reachBytes) = true → X W args → W.ShapedOpen C.prog →
      a.holds C.prog (lone (Frame.enter C.prog f args .normal) [] W) →
      Calls C.prog f args W fun e W' => ∃ v, e = .returned v ∧ s.post enc C.prog fn apart fresh handsOn again W args v W') :
    ReturnsInHanded a C os f .any (fun w args => (s.pre enc C.prog fn conds apart w args ∧ X w args) ∧ sizedMet enc C.prog fn (OpenSpec.ofChange s) apart w args) (s.post enc C.prog fn apart fresh handsOn again) := by
  refine returnsInHanded_of_calls own started noInit witness ?_
  intro w tape i _ hsh _ hok hpre hholds
  obtain ⟨_, _, _, fn', hfn', _, _, _, _, hval⟩ := hok
  have e : fn' = fn := Option.some.inj (hfn'.symm.trans hfn)
  subst e
  obtain ⟨⟨⟨ds, gs, before, hw, hc⟩, hx⟩, hz⟩ := hpre
  have hw' := DataW.Whole.of_heap (w' := w.forCall tape i) (by rfl) hw
  refine (contract (w.forCall tape i) w.heap.size i.args ds gs before hval hw' hc (hz.weights hw) (hX _ _ _ (by rfl) hx) hsh hholds).mono fun e W' ⟨v, he, hp⟩ => ?_
  subst he
  exact ChangeSpec.post_blind hp
end Go.Proofs.YtdgmkfbmeaalpaaDoor.Pur
end
section
namespace Go.Proofs.YtdgmkfbmeaalpaaDoor.Pur
open Go.Proofs.YtdgmkfbmeaalpaaDoor.E
theorem gok0 {W : World} (h : W.ShapedOpen Tryd.prog) : GOk [0] W := by
  intro n hn
  obtain rfl := List.mem_singleton.mp hn
  exact Tryd.laysCut.s1_3 W h
end Go.Proofs.YtdgmkfbmeaalpaaDoor.Pur
end
section
namespace Go.Proofs.YtdgmkfbmeaalpaaDoor.fnPsalm
open Go.ChangeShapes Go.WideShapes Go.ChangeAt Go.RowKit
open Go.ChangeMaps (open_string shut_string)
set_option linter.unusedVariables false
theorem own : ownKnob Tryd.prog.godebug = none := by kernel_rfl
theorem laidOut : laidOutB Tryd.prog = true := by kernel_rfl
set_option maxRecDepth 100000 in
theorem lifted (os : Os) (started : os.Started) (H : Type) (enc : TypeId × Value → H) :
    ReturnsInHanded {} Tryd.checked os 8 .any (fun w args => (Rows.fnPsalmSpec.pre enc Tryd.prog Tryd.f8 Rows.fnPsalmRow.domain false w args ∧ laidMetH Tryd.prog Rows.fnPsalmRow.laid w) ∧ sizedMet enc Tryd.prog Tryd.f8 (OpenSpec.ofChange Rows.fnPsalmSpec) false w args) (Rows.fnPsalmSpec.post enc Tryd.prog Tryd.f8 false true false false) := by
  refine Pur.handed_shaped_and (C := Tryd.checked) (X := fun w _ => laidMetH Tryd.prog Rows.fnPsalmRow.laid w) (fun _ _ _ hh h => h.of_heap hh) own started (by kernel_rfl) Tryd.func8
    (ChangeSpec.witness_shaped (enc := enc) (C := Tryd.checked) (os := os) (X := fun w _ => laidMetH Tryd.prog Rows.fnPsalmRow.laid w) false (World.laidAll Tryd.prog os Rows.fnPsalmRow.laid) #[.slice none 0 0] 8 (World.laidAll_os _ _ _) (World.shaped_of_ZipB (by kernel_rfl) (by kernel_rfl)) (by kernel_rfl) (by kernel_rfl) (by kernel_rfl) (by rw [MakeChecks.laidMetH_plain _ _ _ (by kernel_rfl)]; exact laidMet_laidAll _ (by kernel_rfl) (by kernel_rfl))) ?_
  intro W base args ds gs before hval0 hW hcnd hsz0 hL hSh _
  have hsz : (DataW.weightsEach Tryd.prog (Tryd.f8.params.toList ++ Rows.fnPsalmSpec.plain.varTypes Tryd.prog) (ds ++ gs)).all (· ≤ reachBytes) = true := hsz0
  have hval : ∀ (j : Nat) t v, Tryd.f8.params[j]? = some t → args[j]? = some v → Value.okWide Tryd.prog W .any base t v := hval0
  have hW' := hW
  obtain ⟨p, q, hA0, hV, rfl, hfz, hnd⟩ := hW
  have hA : DataW.TrodAll enc Tryd.prog W 0 (fun _ => true) true Tryd.f8.params.toList args.toList ds p := hA0
  rw [Tryd.params8] at hA hval hsz
  obtain ⟨v0, vs0, d0, ds0, p0, q0, hargs, rfl, rfl, h0, r0⟩ := trodAll_cons hA
  obtain ⟨rfl, rfl, rfl⟩ := trodAll_nil r0
  obtain rfl : args = #[v0] := by cases args; simp_all
  obtain ⟨rfl, rfl⟩ := trodVars_none hV
  have k0 := h0
  have lt0 : ∀ x ∈ p0, x.block < W.heap.size := by obtain ⟨m, hm⟩ := k0; exact DataW.trod_lt m _ _ _ hm
  obtain ⟨a0, len0, cap0, rfl⟩ := okWide_slice Tryd.underlying22 (hval 0 22 v0 rfl rfl)
  obtain ⟨fuel0, hf0⟩ := h0
  obtain ⟨A0, c0, l0, hcs0, hle0, hm0, hC0, hx0⟩ := Pur.open_intsR Tryd.underlying22 Tryd.underlying5 (by kernel_rfl) hf0
  simp [Value.cells] at hcs0
  obtain ⟨rfl, rfl, rfl⟩ := hcs0
  clear hA0 hval0 hsz0 hsz
  obtain ⟨k, hk⟩ := Pur.law_sing l0 hm0 hx0
  refine (E.laws_FnPsalm.calls k _ _ l0 true W hC0 hle0 (Pur.gok0 hSh) hk).mono fun e W' ⟨he, bel⟩ => ?_
  subst he
  exact ⟨_, rfl, _, _, _, [], _, [], hW', trodAll_mk1 (shut_bool Tryd.underlying4 _), (trodAll_cons_mk (Below.trod laidOut (by kernel_rfl) (of_decide_eq_true (by kernel_rfl)) k0 bel lt0) trodAll_mk0), rfl, bel.frame _, fun h => by cases h⟩
set_option maxRecDepth 100000 in
theorem closed : joinedFacts Tryd.prog 8 Tryd.f8 Rows.fnPsalmSpec Rows.fnPsalmRow = true := by
  have hf : (Rows.fnPsalmRow.lifted == Tryd.prog.liftsFinal) = true := by rw [Head.finE]; kernel_rfl
  have hm : (Tryd.prog.make == some Rows.fnPsalmRow.make) = true := by rw [Head.makeE]; kernel_rfl
  unfold joinedFacts
  repeat' (with_reducible refine Head.and_t ?_ ?_)
  all_goals first | with_reducible exact Head.mayE | with_reducible exact hf | with_reducible exact hm | (as_aux_lemma => kernel_rfl)
theorem over : Rows.fnPsalmRow.holds Tryd.pinned (OpenSpec.ofChange Rows.fnPsalmSpec) :=
  OpenClaim.holds_of_wide 8 Tryd.f8 rfl rfl rfl rfl rfl rfl rfl ⟨rfl, rfl, rfl, rfl, rfl⟩ rfl rfl rfl rfl rfl (by kernel_rfl) Tryd.func8 closed
    (of_decide_eq_true (by kernel_rfl)) (by unfold Func.isWrapper; first | (rw [if_pos (by decide +kernel)]; kernel_rfl) | (rw [if_neg (by decide +kernel)]; exact ⟨rfl, rfl⟩))
    (fun os started H enc _ => lifted os started H enc)
theorem card_ : Rows.FnPsalmCardSaid :=
  Claim7.holds_tied_plain_at .later [] [.data, .pinned] true (true, "95c8318e1392eb2a5db7b8b7a99d282c56258e7fe61e0da8e429e6d5d304e4ee") false
    over (fun _ h => by cases h) (by as_aux_lemma => kernel_rfl) (fun _ h => by cases h) fnPsalm_row_tie rfl ⟨rfl, rfl⟩ (Head.mainE.trans (by as_aux_lemma => kernel_rfl)) rfl
    (fun f fn hf hfn => by
      obtain rfl : f = 8 := Option.some.inj ((show Tryd.prog.funcNamed "loop.example/neumes/laws.FnPsalm" = some 8 by kernel_rfl).symm.trans hf) |>.symm
      obtain rfl : fn = Tryd.f8 := (Option.some.inj (Tryd.func8.symm.trans hfn)).symm
      exact ⟨by kernel_rfl, fun j t ht => by
        rw [Tryd.params8] at ht
        have hm : t ∈ [22] := by simpa using Array.mem_of_getElem? ht
        have hall : ([22].all fun u => !Tryd.prog.wantsStandIn u) = true := by kernel_rfl
        exact (show Tryd.prog.wantsStandIn t = false by simpa using List.all_eq_true.1 hall t hm)⟩)
    (by kernel_rfl)
theorem proved : Rows.FnPsalmCardSaid := card_
#print axioms proved
end Go.Proofs.YtdgmkfbmeaalpaaDoor.fnPsalm
namespace Go.Proofs.YtdgmkfbmeaalpaaDoor
theorem fnPsalm_holds : Rows.FnPsalmCardSaid := fnPsalm.proved
end Go.Proofs.YtdgmkfbmeaalpaaDoor
end
