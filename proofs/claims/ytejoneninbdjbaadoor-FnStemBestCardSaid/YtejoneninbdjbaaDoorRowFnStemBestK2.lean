/- Proved: for all arguments the given program's laws.FnStemBest returns true, and its arguments read afterwards as they read before (the given constant Rows.FnStemBestCardSaid).
Conditions: none ahead of the given statement; the statement itself begins in a world whose listed package-level variables hold what the program's text lays there, and its card ties them to that text. -/
import Derived.Test.YtejoneninbdjbaaDoorRowFnStemBestK1
section
namespace Go.Proofs.YtejoneninbdjbaaDoor.E
open Go.RowKit Go.Proofs.YtejoneninbdjbaaDoorW.PrintWords Go.Proofs.YtejoneninbdjbaaDoorW.PrintLast Go.Proofs.YtejoneninbdjbaaDoorW.PrintMore
attribute [local go_sem] max2_int min2_int max_two min_two max_three min_three max_four min_four
set_option linter.unusedVariables false
set_option linter.unusedSimpArgs false
attribute [local go_sem] str_leq_ str_gtr_ str_geq_
def laws_markStringS.l0 : Nat → List ByteArray → Int → Int → Option (Int × List ByteArray)
 | 0, _, _, _ => none
 | k + 1, x0, x1, x5 => if x5 < (x0.length : Int) then ((laws_markText.f k x1).bind fun t401 => (if 0 ≤ x5 then (laws_markStringS.l0 k (x0.set (x5 : Int).toNat t401) (wrap64 (x1 + 1)) (wrap64 (x5 + 1))) else (none))) else (some (x1, x0))
def laws_markStringS.f (k : Nat) (l0 : List ByteArray) (a1 : Int) : Option (Int × List ByteArray) := laws_markStringS.l0 k l0 a1 0
end Go.Proofs.YtejoneninbdjbaaDoor.E
end
section
namespace Go.Proofs.YtejoneninbdjbaaDoor.E
open Go.RowKit Go.Proofs.YtejoneninbdjbaaDoorW.PrintWords Go.Proofs.YtejoneninbdjbaaDoorW.PrintLast Go.Proofs.YtejoneninbdjbaaDoorW.PrintMore
attribute [local go_sem] max2_int min2_int max_two min_two max_three min_three max_four min_four
set_option linter.unusedVariables false
set_option linter.unusedSimpArgs false
attribute [local go_sem] str_leq_ str_gtr_ str_geq_
mutual
def laws_FnExactStemBest.j0 : Nat → List ByteArray → List Int → Bool → List ByteArray → List Int → Bool → Bool → Option (Bool)
 | 0, _, _, _, _, _, _, _ => none
 | k + 1, x0, x4, x5, x6, x7, x8, x40 => if x40 = true then (some false) else ((laws_toStringS.f k x0).bind fun t500 => ((laws_eqStringS.f k x6 t500).bind fun t503 => (if t503 = true then ((laws_markStringS.f k x6 1).bind fun bt504 => (if bt504.1 < 0 then (laws_FnExactStemBest.j1 k x0 x4 x5 x7 true) else ((laws_eqIntS.f k x7 x4).bind fun t506 => (if t506 = true then (laws_FnExactStemBest.j1 k x0 x4 x5 x7 (x8 != x5)) else (laws_FnExactStemBest.j1 k x0 x4 x5 x7 true))))) else (some false))))
def laws_FnExactStemBest.j1 : Nat → List ByteArray → List Int → Bool → List Int → Bool → Option (Bool)
 | 0, _, _, _, _, _ => none
 | k + 1, x0, x4, x5, x7, x61 => if x61 = true then (some false) else ((laws_markIntS.f k x7 1).bind fun bt507 => ((laws_heldIntS.f k bt507.2 1).bind fun t509 => (if t509 < 0 then (some false) else (if t509 = bt507.1 then ((laws_toStringS.f k x0).bind fun t510 => ((impl_StemBest.f k t510).bind fun bt513 => ((laws_eqIntS.f k bt513.1 x4).bind fun t517 => (if t517 = true then (laws_FnExactStemBest.j2 k bt507.2 bt507.1 (bt513.2 != x5)) else (laws_FnExactStemBest.j2 k bt507.2 bt507.1 true))))) else (some false)))))
def laws_FnExactStemBest.j2 : Nat → List Int → Int → Bool → Option (Bool)
 | 0, _, _, _ => none
 | k + 1, x7, x10, x87 => if x87 = true then (some false) else ((laws_heldIntS.f k x7 1).bind fun t518 => (if t518 < 0 then (some false) else (if t518 = x10 then (some true) else (some false))))
end
def laws_FnExactStemBest.f (k : Nat) (l0 : List ByteArray) : Option (Bool) := (laws_szStringS.f k l0 1048576).bind fun t484 => (if t484 < 0 then (some true) else ((laws_toStringS.f k l0).bind fun t485 => ((spec_StemBest.f k t485).bind fun bt488 => ((laws_toStringS.f k l0).bind fun t492 => ((impl_StemBest.f k t492).bind fun bt495 => ((laws_eqIntS.f k bt495.1 bt488.1).bind fun t499 => (if t499 = true then (laws_FnExactStemBest.j0 k l0 bt488.1 bt488.2 t492 bt495.1 bt495.2 (bt495.2 != bt488.2)) else (laws_FnExactStemBest.j0 k l0 bt488.1 bt488.2 t492 bt495.1 bt495.2 true))))))))
end Go.Proofs.YtejoneninbdjbaaDoor.E
end
section
namespace Go.Proofs.YtejoneninbdjbaaDoor.Pur
open Go.RowKit Go.Proofs.YtejoneninbdjbaaDoorW.PrintWords Go.Proofs.YtejoneninbdjbaaDoorW.PrintMore Go.Proofs.YtejoneninbdjbaaDoor.E
def near (l : List ByteArray) (i : Nat) : Nat → Nat → Nat → Nat
  | 0, _, b => b
  | d + 1, k, b => near l i d (k + 1) (if farT (rdOf ByteArray.empty l (i : Int)) (rdOf ByteArray.empty l (k : Int)) < farT (rdOf ByteArray.empty l (i : Int)) (rdOf ByteArray.empty l (b : Int)) then k else b)
theorem near_lt (l : List ByteArray) (i : Nat) : ∀ (d k b : Nat), k + d ≤ i → b < i → near l i d k b < i := by
  intro d
  induction d with
  | zero => intro k b _ h; exact h
  | succ d ih => intro k b h1 h2; exact ih (k + 1) _ (by omega) (by split <;> omega)
def bests (l : List ByteArray) : Nat → Nat → List Int
  | 0, _ => []
  | d + 1, i => ((near l i (i - 1) 1 0 : Nat) : Int) :: bests l d (i + 1)
theorem bests_len (l : List ByteArray) : ∀ d i, (bests l d i).length = d
  | 0, _ => rfl
  | d + 1, i => by rw [bests, List.length_cons, bests_len l d (i + 1)]
section
variable (l : List ByteArray) (n : Nat) (hn : n ≤ 1048576) (hsz : ∀ t ∈ l, t.size = n) (hl : l.length ≤ 6)
include hn hsz hl
theorem impl_near_loop (i : Nat) (hi : i < l.length) (acc : List Int) (Q : List Int × Bool → Prop) : ∀ (d k b : Nat), k + d = i → b < i → (EvP (fun m => if acc.length < 17592186044416 then impl_StemBest.l0 m l (acc ++ [((near l i d k b : Nat) : Int)]) (wrap64 ((i : Int) + 1)) else none) Q) → EvP (fun m => impl_StemBest.l1 m l acc (i : Int) (b : Int) (k : Int)) Q := by
  intro d
  induction d with
  | zero =>
    intro k b hk hb K
    refine EvP.succ ?_
    simp only [impl_StemBest.l1]
    exact EvP.no (by omega) K
  | succ d ih =>
    intro k b hk hb K
    have m0 := hsz _ (rd_mem (l := l) (i := (i : Int)) (by omega) (by omega))
    have m1 := hsz _ (rd_mem (l := l) (i := (k : Int)) (by omega) (by omega))
    have m2 := hsz _ (rd_mem (l := l) (i := (b : Int)) (by omega) (by omega))
    have e2 : Hd (wrap64 ((k : Int) + 1) = ((k + 1 : Nat) : Int)) := ⟨w64 (by omega) (by omega)⟩
    refine EvP.succ ?_
    simp only [impl_StemBest.l1]
    refine EvP.yes (by omega) (EvP.yes (by omega) (EvP.yes (by omega) (EvP.yes (by omega) (EvP.yes (by omega) ?_))))
    refine EvP.bind (impl_far _ _ (by omega) (by omega)) (fun _ e => ?_)
    subst e
    refine EvP.yes (by omega) (EvP.yes (by omega) ?_)
    refine EvP.bind (impl_far _ _ (by omega) (by omega)) (fun _ e => ?_)
    subst e
    rw [e2.out]
    rw [near] at K
    refine EvP.ite (fun h => ?_) (fun h => ?_)
    · rw [if_pos h] at K; exact ih (k + 1) k (by omega) (by omega) K
    · rw [if_neg h] at K; exact ih (k + 1) b (by omega) hb K
theorem spec_near_loop (i : Nat) (hi : i < l.length) (acc : List Int) (Q : List Int × Bool → Prop) : ∀ (d k b : Nat), k + d = i → b < i → (EvP (fun m => if acc.length < 17592186044416 then spec_StemBest.l0 m l (acc ++ [((near l i d k b : Nat) : Int)]) (wrap64 ((i : Int) + 1)) else none) Q) → EvP (fun m => spec_StemBest.l1 m l acc (i : Int) (b : Int) (k : Int)) Q := by
  intro d
  induction d with
  | zero =>
    intro k b hk hb K
    refine EvP.succ ?_
    simp only [spec_StemBest.l1]
    exact EvP.no (by omega) K
  | succ d ih =>
    intro k b hk hb K
    have m0 := hsz _ (rd_mem (l := l) (i := (i : Int)) (by omega) (by omega))
    have m1 := hsz _ (rd_mem (l := l) (i := (k : Int)) (by omega) (by omega))
    have m2 := hsz _ (rd_mem (l := l) (i := (b : Int)) (by omega) (by omega))
    have e2 : Hd (wrap64 ((k : Int) + 1) = ((k + 1 : Nat) : Int)) := ⟨w64 (by omega) (by omega)⟩
    refine EvP.succ ?_
    simp only [spec_StemBest.l1]
    refine EvP.yes (by omega) (EvP.yes (by omega) (EvP.yes (by omega) (EvP.yes (by omega) (EvP.yes (by omega) ?_))))
    refine EvP.bind (spec_far _ _ (by omega) (by omega)) (fun _ e => ?_)
    subst e
    refine EvP.yes (by omega) (EvP.yes (by omega) ?_)
    refine EvP.bind (spec_far _ _ (by omega) (by omega)) (fun _ e => ?_)
    subst e
    rw [e2.out]
    rw [near] at K
    refine EvP.ite (fun h => ?_) (fun h => ?_)
    · rw [if_pos h] at K; exact ih (k + 1) k (by omega) (by omega) K
    · rw [if_neg h] at K; exact ih (k + 1) b (by omega) hb K
theorem impl_best_loop : ∀ (d i : Nat) (acc : List Int), 1 ≤ i → i + d = l.length → acc.length + d ≤ 100 → EvP (fun m => impl_StemBest.l0 m l acc (i : Int)) (· = (acc ++ bests l d i, true)) := by
  intro d
  induction d with
  | zero =>
    intro i acc h1 hi ha
    refine EvP.succ ?_
    simp only [impl_StemBest.l0]
    exact EvP.no (by omega) (EvP.ret (by rw [bests, List.append_nil]))
  | succ d ih =>
    intro i acc h1 hi ha
    refine EvP.succ ?_
    simp only [impl_StemBest.l0]
    refine EvP.yes (by omega) ?_
    refine impl_near_loop l n hn hsz hl i (by omega) acc _ (i - 1) 1 0 (by omega) (by omega) ?_
    refine EvP.yes (by omega) ?_
    rw [w64 (by omega) (by omega), bests]
    refine (ih (i + 1) _ (by omega) (by omega) (by simp; omega)).mono (fun r e => by rw [e, List.append_assoc]; rfl)
theorem spec_best_loop : ∀ (d i : Nat) (acc : List Int), 1 ≤ i → i + d = l.length → acc.length + d ≤ 100 → EvP (fun m => spec_StemBest.l0 m l acc (i : Int)) (· = (acc ++ bests l d i, true)) := by
  intro d
  induction d with
  | zero =>
    intro i acc h1 hi ha
    refine EvP.succ ?_
    simp only [spec_StemBest.l0]
    exact EvP.no (by omega) (EvP.ret (by rw [bests, List.append_nil]))
  | succ d ih =>
    intro i acc h1 hi ha
    refine EvP.succ ?_
    simp only [spec_StemBest.l0]
    refine EvP.yes (by omega) ?_
    refine spec_near_loop l n hn hsz hl i (by omega) acc _ i 0 0 (by omega) (by omega) ?_
    refine EvP.yes (by omega) ?_
    have e0 : near l i i 0 0 = near l i (i - 1) 1 0 := by
      obtain ⟨j, rfl⟩ : ∃ j, i = j + 1 := ⟨i - 1, by omega⟩
      rw [near]
      simp
    rw [e0, w64 (by omega) (by omega), bests]
    refine (ih (i + 1) _ (by omega) (by omega) (by simp; omega)).mono (fun r e => by rw [e, List.append_assoc]; rfl)
end
def bestOf (l : List ByteArray) : List Int × Bool := if okBooks l = true then ((-1) :: bests l (l.length - 1) 1, true) else ([], false)
theorem spec_best (l : List ByteArray) (hs : ∀ t ∈ l, t.size ≤ 9223372036854775806) : EvP (fun k => spec_StemBest.f k l) (· = bestOf l) := by
  unfold spec_StemBest.f bestOf
  refine EvP.bind (spec_okBooks l hs) (fun _ e => ?_)
  subst e
  refine EvP.ite (fun h => ?_) (fun h => EvP.ret (by rw [if_neg h]))
  obtain ⟨l1, l6, n, n1, n8, hn⟩ := okBooks_ok h
  rw [if_pos h]
  exact spec_best_loop l n (by omega) (fun t ht => (hn t ht).1) l6 (l.length - 1) 1 [-1] (by omega) (by omega) (by simp; omega)
theorem impl_best (l : List ByteArray) (hs : ∀ t ∈ l, t.size ≤ 9223372036854775806) : EvP (fun k => impl_StemBest.f k l) (· = bestOf l) := by
  unfold impl_StemBest.f bestOf
  refine EvP.bind (impl_okBooks l hs) (fun _ e => ?_)
  subst e
  refine EvP.ite (fun h => ?_) (fun h => EvP.ret (by rw [if_neg h]))
  obtain ⟨l1, l6, n, n1, n8, hn⟩ := okBooks_ok h
  rw [if_pos h]
  exact impl_best_loop l n (by omega) (fun t ht => (hn t ht).1) l6 (l.length - 1) 1 [-1] (by omega) (by omega) (by simp; omega)
theorem bestOf_len (l : List ByteArray) : (bestOf l).1.length ≤ 1048576 := by
  unfold bestOf
  by_cases h : okBooks l = true
  · obtain ⟨l1, l6, _⟩ := okBooks_ok h
    rw [if_pos h, List.length_cons, bests_len]
    omega
  · rw [if_neg h]; simp
end Go.Proofs.YtejoneninbdjbaaDoor.Pur
end
section
namespace Go.Proofs.YtejoneninbdjbaaDoor.E
open Go.RowKit Go.Proofs.YtejoneninbdjbaaDoorW.PrintWords Go.Proofs.YtejoneninbdjbaaDoorW.PrintLast Go.Proofs.YtejoneninbdjbaaDoorW.PrintMore
attribute [local go_sem] max2_int min2_int max_two min_two max_three min_three max_four min_four
set_option linter.unusedVariables false
set_option linter.unusedSimpArgs false
attribute [local go_sem] str_leq_ str_gtr_ str_geq_
mutual
def spec_StemChanges.j0 : Nat → List ByteArray → List Int → Bool → Option (Int)
 | 0, _, _, _ => none
 | k + 1, x0, x1, x15 => if x15 = true then (some (-1)) else (spec_StemChanges.l0 k x0 x1 0 1)
def spec_StemChanges.l0 : Nat → List ByteArray → List Int → Int → Int → Option (Int)
 | 0, _, _, _, _ => none
 | k + 1, x0, x1, x5, x6 => if x6 < (x1.length : Int) then (if 0 ≤ x6 then (if x6 < (x0.length : Int) then (if 0 ≤ (rd x1 x6) then (if (rd x1 x6) < (x0.length : Int) then ((spec_l7Far.f k (rdOf ByteArray.empty x0 x6) (rdOf ByteArray.empty x0 (rd x1 x6))).bind fun t343 => (spec_StemChanges.l0 k x0 x1 (wrap64 (x5 + t343)) (wrap64 (x6 + 1)))) else (none)) else (none)) else (none)) else (none)) else (some x5)
end
def spec_StemChanges.f (k : Nat) (l0 : List ByteArray) (l1 : List Int) : Option (Int) := (spec_StemValid.f k l0 l1).bind fun t338 => (if t338 = true then ((spec_BooksValid.f k l0).bind fun t339 => (spec_StemChanges.j0 k l0 l1 (!t339))) else (spec_StemChanges.j0 k l0 l1 true))
end Go.Proofs.YtejoneninbdjbaaDoor.E
end
section
namespace Go.Proofs.YtejoneninbdjbaaDoor.E
open Go.RowKit Go.Proofs.YtejoneninbdjbaaDoorW.PrintWords Go.Proofs.YtejoneninbdjbaaDoorW.PrintLast Go.Proofs.YtejoneninbdjbaaDoorW.PrintMore
attribute [local go_sem] max2_int min2_int max_two min_two max_three min_three max_four min_four
set_option linter.unusedVariables false
set_option linter.unusedSimpArgs false
attribute [local go_sem] str_leq_ str_gtr_ str_geq_
def laws_FnExactStemChanges.f (k : Nat) (l0 : List ByteArray) (l1 : List Int) : Option (Bool) := if (l1.length : Int) > 1048576 then (some true) else ((laws_szStringS.f k l0 1048576).bind fun t351 => (if t351 < 0 then (some true) else ((laws_toStringS.f k l0).bind fun t352 => ((laws_toIntS.f k l1).bind fun t355 => ((spec_StemChanges.f k t352 t355).bind fun t358 => ((laws_toStringS.f k l0).bind fun t359 => ((laws_toIntS.f k l1).bind fun t362 => ((impl_StemChanges.f k t359 t362).bind fun t365 => (if t365 = t358 then ((laws_toStringS.f k l0).bind fun t366 => ((laws_eqStringS.f k t359 t366).bind fun t369 => (if t369 = true then ((laws_toIntS.f k l1).bind fun t370 => ((laws_eqIntS.f k t362 t370).bind fun t373 => (if t373 = true then (some true) else (some false)))) else (some false)))) else (some false))))))))))
end Go.Proofs.YtejoneninbdjbaaDoor.E
end
section
namespace Go.Proofs.YtejoneninbdjbaaDoor.Pur
open Go.RowKit Go.Proofs.YtejoneninbdjbaaDoorW.PrintWords Go.Proofs.YtejoneninbdjbaaDoorW.PrintMore Go.Proofs.YtejoneninbdjbaaDoor.E
def chg (l : List ByteArray) (st : List Int) : Nat → Nat → Int
  | 0, _ => 0
  | d + 1, i => farT (rdOf ByteArray.empty l (i : Int)) (rdOf ByteArray.empty l (rd st (i : Int))) + chg l st d (i + 1)
def Tells (c : Prop) (X v : Int) : Prop := (c → v = X) ∧ (¬ c → v = -1)
section
variable (l : List ByteArray) (st : List Int) (n : Nat) (hn : n ≤ 1048576) (hsz : ∀ t ∈ l, t.size = n) (hl : l.length ≤ 6) (hst : st.length = l.length) (hp : ∀ j : Nat, 1 ≤ j → j < st.length → 0 ≤ rd st (j : Int) ∧ rd st (j : Int) < j)
include hn hsz hl hst hp
theorem impl_changes_loop : ∀ (d i : Nat) (s : Int), 1 ≤ i → i + d = l.length → 0 ≤ s → s ≤ 1048576 * (i : Int) → EvP (fun k => impl_changesOf.l0 k l st s (i : Int)) (· = s + chg l st d i) := by
  intro d
  induction d with
  | zero =>
    intro i s h1 hi h0 hs
    refine EvP.succ ?_
    simp only [impl_changesOf.l0]
    exact EvP.no (by omega) (EvP.ret (by simp [chg]))
  | succ d ih =>
    intro i s h1 hi h0 hs
    have hq := hp i h1 (by omega)
    have m1 := hsz _ (rd_mem (l := l) (i := (i : Int)) (by omega) (by omega))
    have m2 := hsz _ (rd_mem (l := l) (i := rd st (i : Int)) hq.1 (by omega))
    have bd := farT_bd (rdOf ByteArray.empty l (i : Int)) (rdOf ByteArray.empty l (rd st (i : Int)))
    have e2 : Hd (wrap64 ((i : Int) + 1) = ((i + 1 : Nat) : Int)) := ⟨w64 (by omega) (by omega)⟩
    refine EvP.succ ?_
    simp only [impl_changesOf.l0]
    refine EvP.yes (by omega) (EvP.yes (by omega) (EvP.yes (by omega) (EvP.yes hq.1 (EvP.yes (by omega) ?_))))
    refine EvP.bind (impl_far _ _ (by omega) (by omega)) (fun _ e => ?_)
    subst e
    rw [e2.out, w64 (by omega) (by omega), chg]
    refine (ih (i + 1) _ (by omega) (by omega) (by omega) (by omega)).mono (fun r e => by rw [e]; omega)
theorem impl_changes (h1 : 1 ≤ l.length) : EvP (fun k => impl_changesOf.f k l st) (· = chg l st (l.length - 1) 1) := by
  unfold impl_changesOf.f
  refine (impl_changes_loop l st n hn hsz hl hst hp (l.length - 1) 1 0 (by omega) (by omega) (by omega) (by omega)).mono (fun r e => by rw [e]; omega)
omit hl hst hp in
theorem chg_bd : ∀ (d i : Nat), 1 ≤ i → i + d = l.length → 0 ≤ chg l st d i ∧ chg l st d i ≤ n * d := by
  intro d
  induction d with
  | zero => intro i _ _; simp [chg]
  | succ d ih =>
    intro i h1 hi
    have m1 := hsz _ (rd_mem (l := l) (i := (i : Int)) (by omega) (by omega))
    have bd := farT_bd (rdOf ByteArray.empty l (i : Int)) (rdOf ByteArray.empty l (rd st (i : Int)))
    have := ih (i + 1) (by omega) (by omega)
    rw [chg, show ((d + 1 : Nat) : Int) = (d : Int) + 1 from rfl, Int.mul_add]
    omega
end
theorem impl_chg (l : List ByteArray) (st : List Int) (hs : ∀ t ∈ l, t.size ≤ 9223372036854775806) (hl : st.length ≤ 1048576) : EvP (fun k => impl_StemChanges.f k l st) (Tells (VS l st ∧ okBooks l = true) (chg l st (l.length - 1) 1)) := by
  unfold impl_StemChanges.f
  refine EvP.bind (impl_stem l st hs hl) (fun a ha => ?_)
  refine EvP.ite (fun h1 => ?_) (fun h1 => EvP.ret ⟨fun h => absurd (ha.mpr h.1) h1, fun _ => rfl⟩)
  have V := ha.mp h1
  refine EvP.bind (impl_okBooks l hs) (fun _ e => ?_)
  subst e
  refine EvP.ite (fun ho => ?_) (fun ho => EvP.ret ⟨fun h => absurd h.2 ho, fun _ => rfl⟩)
  obtain ⟨l1, l6, n, n1, n8, hn⟩ := okBooks_ok ho
  refine EvP.bind (impl_changes l st n (by omega) (fun t ht => (hn t ht).1) l6 V.2.2.1 V.2.2.2.2 l1) (fun r e => EvP.ret ⟨fun _ => e, fun h => absurd ⟨V, ho⟩ h⟩)
end Go.Proofs.YtejoneninbdjbaaDoor.Pur
end
section
namespace Go.Proofs.YtejoneninbdjbaaDoor.E
open Go.RowKit Go.Proofs.YtejoneninbdjbaaDoorW.PrintWords Go.Proofs.YtejoneninbdjbaaDoorW.PrintLast Go.Proofs.YtejoneninbdjbaaDoorW.PrintMore
attribute [local go_sem] max2_int min2_int max_two min_two max_three min_three max_four min_four
set_option linter.unusedVariables false
set_option linter.unusedSimpArgs false
attribute [local go_sem] str_leq_ str_gtr_ str_geq_
def spec_StemMove.f (k : Nat) (l0 : List ByteArray) (l1 : List Int) (a2 : Int) (a3 : Int) : Option (List Int × Bool) := (spec_StemValid.f k l0 l1).bind fun t374 => (if t374 = true then ((spec_l6In.f a2 1 (wrap64 ((l1.length : Int) - 1))).bind fun t375 => (if t375 = true then ((spec_l6In.f a3 0 (wrap64 (a2 - 1))).bind fun t376 => (if t376 = true then ((some (([] : List Int) : List Int)).bind fun y377 => (if y377.length + l1.length < 17592186044416 then ((some (y377 ++ l1 : List Int)).bind fun y380 => (if 0 ≤ a2 then (if a2 < (y380.length : Int) then (some ((y380.set (a2 : Int).toNat a3), true)) else (none)) else (none))) else (none))) else (some ((([] : List Int)), false)))) else (some ((([] : List Int)), false)))) else (some ((([] : List Int)), false)))
end Go.Proofs.YtejoneninbdjbaaDoor.E
end
section
namespace Go.Proofs.YtejoneninbdjbaaDoor.E
open Go.RowKit Go.Proofs.YtejoneninbdjbaaDoorW.PrintWords Go.Proofs.YtejoneninbdjbaaDoorW.PrintLast Go.Proofs.YtejoneninbdjbaaDoorW.PrintMore
attribute [local go_sem] max2_int min2_int max_two min_two max_three min_three max_four min_four
set_option linter.unusedVariables false
set_option linter.unusedSimpArgs false
attribute [local go_sem] str_leq_ str_gtr_ str_geq_
mutual
def laws_FnExactStemMove.j0 : Nat → List ByteArray → List Int → Int → Int → List Int → Bool → List ByteArray → List Int → List Int → Bool → Bool → Option (Bool)
 | 0, _, _, _, _, _, _, _, _, _, _, _ => none
 | k + 1, x0, x1, x2, x3, x10, x11, x12, x13, x14, x15, x59 => if x59 = true then (some false) else ((laws_toStringS.f k x0).bind fun t427 => ((laws_eqStringS.f k x12 t427).bind fun t430 => (if t430 = true then ((laws_toIntS.f k x1).bind fun t431 => ((laws_eqIntS.f k x13 t431).bind fun t434 => (if t434 = true then ((laws_markStringS.f k x12 1).bind fun bt435 => ((laws_markIntS.f k x13 bt435.1).bind fun bt437 => (if bt437.1 < 0 then (laws_FnExactStemMove.j1 k x0 x1 x2 x3 x10 x11 x14 true) else ((laws_eqIntS.f k x14 x10).bind fun t439 => (if t439 = true then (laws_FnExactStemMove.j1 k x0 x1 x2 x3 x10 x11 x14 (x15 != x11)) else (laws_FnExactStemMove.j1 k x0 x1 x2 x3 x10 x11 x14 true)))))) else (some false)))) else (some false))))
def laws_FnExactStemMove.j1 : Nat → List ByteArray → List Int → Int → Int → List Int → Bool → List Int → Bool → Option (Bool)
 | 0, _, _, _, _, _, _, _, _ => none
 | k + 1, x0, x1, x2, x3, x10, x11, x14, x88 => if x88 = true then (some false) else ((laws_markIntS.f k x14 1).bind fun bt440 => ((laws_heldIntS.f k bt440.2 1).bind fun t442 => (if t442 < 0 then (some false) else (if t442 = bt440.1 then ((laws_toStringS.f k x0).bind fun t443 => ((laws_toIntS.f k x1).bind fun t446 => ((impl_StemMove.f k t443 t446 x2 x3).bind fun bt449 => ((laws_eqIntS.f k bt449.1 x10).bind fun t453 => (if t453 = true then (laws_FnExactStemMove.j2 k bt440.2 bt440.1 (bt449.2 != x11)) else (laws_FnExactStemMove.j2 k bt440.2 bt440.1 true)))))) else (some false)))))
def laws_FnExactStemMove.j2 : Nat → List Int → Int → Bool → Option (Bool)
 | 0, _, _, _ => none
 | k + 1, x14, x17, x118 => if x118 = true then (some false) else ((laws_heldIntS.f k x14 1).bind fun t454 => (if t454 < 0 then (some false) else (if t454 = x17 then (some true) else (some false))))
end
def laws_FnExactStemMove.f (k : Nat) (l0 : List ByteArray) (l1 : List Int) (a2 : Int) (a3 : Int) : Option (Bool) := if (l1.length : Int) > 1048576 then (some true) else ((laws_szStringS.f k l0 1048576).bind fun t405 => (if t405 < 0 then (some true) else ((laws_toStringS.f k l0).bind fun t406 => ((laws_toIntS.f k l1).bind fun t409 => ((spec_StemMove.f k t406 t409 a2 a3).bind fun bt412 => ((laws_toStringS.f k l0).bind fun t416 => ((laws_toIntS.f k l1).bind fun t419 => ((impl_StemMove.f k t416 t419 a2 a3).bind fun bt422 => ((laws_eqIntS.f k bt422.1 bt412.1).bind fun t426 => (if t426 = true then (laws_FnExactStemMove.j0 k l0 l1 a2 a3 bt412.1 bt412.2 t416 t419 bt422.1 bt422.2 (bt422.2 != bt412.2)) else (laws_FnExactStemMove.j0 k l0 l1 a2 a3 bt412.1 bt412.2 t416 t419 bt422.1 bt422.2 true)))))))))))
end Go.Proofs.YtejoneninbdjbaaDoor.E
end
section
namespace Go.Proofs.YtejoneninbdjbaaDoor.Pur
open Go.RowKit Go.Proofs.YtejoneninbdjbaaDoorW.PrintWords Go.Proofs.YtejoneninbdjbaaDoorW.PrintMore Go.Proofs.YtejoneninbdjbaaDoor.E
def MvOk (l : List ByteArray) (st : List Int) (i tt : Int) : Prop := VS l st ∧ 1 ≤ i ∧ i < st.length ∧ 0 ≤ tt ∧ tt < i
def Mv (l : List ByteArray) (st : List Int) (i tt : Int) (r : List Int × Bool) : Prop := (MvOk l st i tt → r = (st.set i.toNat tt, true)) ∧ (¬ MvOk l st i tt → r = ([], false))
theorem impl_move (l : List ByteArray) (st : List Int) (i tt : Int) (hs : ∀ t ∈ l, t.size ≤ 9223372036854775806) (hl : st.length ≤ 1048576) : EvP (fun k => impl_StemMove.f k l st i tt) (Mv l st i tt) := by
  unfold impl_StemMove.f
  refine EvP.bind (impl_stem l st hs hl) (fun a ha => ?_)
  refine EvP.ite (fun h1 => ?_) (fun h1 => EvP.ret ⟨fun h => absurd (ha.mpr h.1) h1, fun _ => rfl⟩)
  have V := ha.mp h1
  refine EvP.ite (fun h2 => EvP.ret ⟨fun h => absurd h.2 (by omega), fun _ => rfl⟩) (fun h2 => ?_)
  refine EvP.ite (fun h3 => EvP.ret ⟨fun h => absurd h.2 (by omega), fun _ => rfl⟩) (fun h3 => ?_)
  refine EvP.ite (fun h4 => EvP.ret ⟨fun h => absurd h.2 (by omega), fun _ => rfl⟩) (fun h4 => ?_)
  refine EvP.ite (fun h5 => EvP.ret ⟨fun h => absurd h.2 (by omega), fun _ => rfl⟩) (fun h5 => ?_)
  refine EvP.bind (P := (· = st)) ?_ (fun y hy => ?_)
  · unfold impl_copiedNumbers.f
    exact EvP.yes (by omega) (EvP.ret rfl)
  subst hy
  exact EvP.yes (by omega) (EvP.yes (by omega) (EvP.ret ⟨fun _ => rfl, fun h => absurd ⟨V, by omega, by omega, by omega, by omega⟩ h⟩))
end Go.Proofs.YtejoneninbdjbaaDoor.Pur
end
section
namespace Go.Proofs.YtejoneninbdjbaaDoor.Pur
open Go.RowKit Go.Proofs.YtejoneninbdjbaaDoorW.PrintWords Go.Proofs.YtejoneninbdjbaaDoorW.PrintMore Go.Proofs.YtejoneninbdjbaaDoor.E
theorem same_ints_loop (l : List Int) (hl : l.length ≤ 1048576) : ∀ d i : Nat, i + d = l.length → EvP (fun k => laws_sameInts.l0 k l l (i : Int)) (· = true) := by
  intro d
  induction d with
  | zero =>
    intro i hi
    refine EvP.succ ?_
    simp only [laws_sameInts.l0]
    exact EvP.no (by omega) (EvP.ret rfl)
  | succ d ih =>
    intro i hi
    have e2 : Hd (wrap64 ((i : Int) + 1) = ((i + 1 : Nat) : Int)) := ⟨w64 (by omega) (by omega)⟩
    refine EvP.succ ?_
    simp only [laws_sameInts.l0]
    refine EvP.yes (by omega) (EvP.yes (by omega) (EvP.yes (by omega) (EvP.yes trivial ?_)))
    rw [e2.out]
    exact ih (i + 1) (by omega)
theorem same_ints (l : List Int) (hl : l.length ≤ 1048576) : EvP (fun k => laws_sameInts.f k l l) (· = true) := by
  unfold laws_sameInts.f
  exact EvP.yes rfl (same_ints_loop l hl l.length 0 (by omega))
def F (l : List ByteArray) (i k : Nat) : Int := farT (rdOf ByteArray.empty l (i : Int)) (rdOf ByteArray.empty l (k : Int))
theorem near_best (l : List ByteArray) (i : Nat) : ∀ (d k b : Nat), b < k → (∀ x, x < k → F l i b ≤ F l i x ∧ (F l i x = F l i b → b ≤ x)) → ∀ x, x < k + d → F l i (near l i d k b) ≤ F l i x ∧ (F l i x = F l i (near l i d k b) → near l i d k b ≤ x) := by
  intro d
  induction d with
  | zero => intro k b _ h x hx; exact h x hx
  | succ d ih =>
    intro k b hb h x hx
    rw [near]
    show F l i (near l i d (k + 1) (if F l i k < F l i b then k else b)) ≤ F l i x ∧ (F l i x = F l i (near l i d (k + 1) (if F l i k < F l i b then k else b)) → near l i d (k + 1) (if F l i k < F l i b then k else b) ≤ x)
    refine ih (k + 1) _ (by split <;> omega) (fun y hy => ?_) x (by omega)
    by_cases c : F l i k < F l i b
    · rw [if_pos c]
      by_cases e : y = k
      · subst e; exact ⟨Int.le_refl _, fun _ => Nat.le_refl _⟩
      · have := h y (by omega)
        exact ⟨by omega, fun h' => by omega⟩
    · rw [if_neg c]
      by_cases e : y = k
      · subst e; exact ⟨by omega, fun _ => by omega⟩
      · exact h y (by omega)
theorem bests_rd (l : List ByteArray) : ∀ (d i j : Nat), j < d → (bests l d i)[j]? = some ((near l (i + j) (i + j - 1) 1 0 : Nat) : Int) := by
  intro d
  induction d with
  | zero => intro i j h; omega
  | succ d ih =>
    intro i j h
    rw [bests]
    cases j with
    | zero => rfl
    | succ j =>
      rw [List.getElem?_cons_succ, ih (i + 1) j (by omega)]
      rw [show i + 1 + j = i + (j + 1) by omega]
def bst (l : List ByteArray) : List Int := (-1) :: bests l (l.length - 1) 1
theorem bst_rd (l : List ByteArray) (i : Nat) (h1 : 1 ≤ i) (h2 : i < l.length) : rd (bst l) (i : Int) = ((near l i (i - 1) 1 0 : Nat) : Int) := by
  unfold rd bst
  obtain ⟨j, rfl⟩ : ∃ j, i = j + 1 := ⟨i - 1, by omega⟩
  rw [toNat_nat, List.getD_eq_getElem?_getD, List.getElem?_cons_succ, bests_rd l _ _ _ (by omega), Option.getD_some, show 1 + j = j + 1 by omega]
theorem bst_len (l : List ByteArray) (h : 1 ≤ l.length) : (bst l).length = l.length := by
  unfold bst
  rw [List.length_cons, bests_len]
  omega
theorem rd_set_eq (l : List Int) (i : Nat) (x : Int) (h : i < l.length) : rd (l.set i x) (i : Int) = x := by
  unfold rd
  rw [toNat_nat, List.getD_eq_getElem?_getD, List.getElem?_set_self h, Option.getD_some]
theorem rd_set_ne (l : List Int) (i j : Nat) (x : Int) (h : i ≠ j) : rd (l.set i x) (j : Int) = rd l (j : Int) := by
  unfold rd
  rw [toNat_nat, List.getD_eq_getElem?_getD, List.getD_eq_getElem?_getD, List.getElem?_set_ne h]
theorem chg_set (l : List ByteArray) (st : List Int) (i k : Nat) (hi : i < st.length) : ∀ (d j : Nat),
    chg l (st.set i (k : Int)) d j = chg l st d j + (if j ≤ i ∧ i < j + d then F l i k - farT (rdOf ByteArray.empty l (i : Int)) (rdOf ByteArray.empty l (rd st (i : Int))) else 0) := by
  intro d
  induction d with
  | zero => intro j; rw [if_neg (by omega)]; simp [chg]
  | succ d ih =>
    intro j
    rw [chg, chg, ih (j + 1)]
    by_cases e : j = i
    · subst e
      rw [rd_set_eq _ _ _ hi, if_neg (by omega), if_pos (by omega)]
      unfold F
      omega
    · rw [rd_set_ne _ _ _ _ (Ne.symm e)]
      by_cases c : j ≤ i ∧ i < j + (d + 1)
      · rw [if_pos c, if_pos (by omega)]; omega
      · rw [if_neg c, if_neg (by omega)]; omega
theorem vs_set {l : List ByteArray} {st : List Int} (V : VS l st) (i k : Nat) (h1 : 1 ≤ i) (hi : i < st.length) (hk : k < i) : VS l (st.set i (k : Int)) := by
  obtain ⟨v1, v2, v3, v4, v5⟩ := V
  refine ⟨v1, v2, by rw [List.length_set]; exact v3, ?_, fun j hj hj' => ?_⟩
  · have := rd_set_ne st i 0 (k : Int) (by omega)
    rw [show ((0 : Nat) : Int) = 0 from rfl] at this
    rw [this]; exact v4
  · rw [List.length_set] at hj'
    by_cases e : j = i
    · subst e; rw [rd_set_eq _ _ _ hi]; omega
    · rw [rd_set_ne _ _ _ _ (Ne.symm e)]; exact v5 j hj hj'
theorem ok_books {l : List ByteArray} (h : okBooks l = true) : (booksOf l).2 = true ∧ (booksOf l).1 = 0 := by
  unfold okBooks at h
  rw [Bool.and_eq_true] at h
  exact ⟨h.1, by simpa using h.2⟩
theorem bst_vs {l : List ByteArray} (h : okBooks l = true) (h1 : 1 ≤ l.length) : VS l (bst l) := by
  obtain ⟨a, b⟩ := ok_books h
  refine ⟨a, by omega, bst_len l h1, rfl, fun j hj hj' => ?_⟩
  rw [bst_len l h1] at hj'
  rw [bst_rd l j hj hj']
  have := near_lt l j (j - 1) 1 0 (by omega) (by omega)
  omega
section
variable (l : List ByteArray) (hs : ∀ t ∈ l, t.size ≤ 9223372036854775806) (ok : okBooks l = true) (h1 : 1 ≤ l.length) (h6 : l.length ≤ 6)
include hs ok h1 h6
theorem law_inner (c0 : Int) (hc : c0 = chg l (bst l) (l.length - 1) 1) (i : Nat) (hi1 : 1 ≤ i) (hi : i < l.length) (Q : Bool → Prop) (K : EvP (fun k => laws_FnStemBest.l0 k l (bst l) c0 (wrap64 ((i : Int) + 1))) Q) :
    ∀ (d k : Nat), k + d = i → EvP (fun m => laws_FnStemBest.l1 m l (bst l) c0 (i : Int) (k : Int)) Q := by
  have bl := bst_len l h1
  have V := bst_vs ok h1
  intro d
  induction d with
  | zero =>
    intro k hk
    refine EvP.succ ?_
    simp only [laws_FnStemBest.l1]
    exact EvP.no (by omega) K
  | succ d ih =>
    intro k hk
    have e2 : Hd (wrap64 ((k : Int) + 1) = ((k + 1 : Nat) : Int)) := ⟨w64 (by omega) (by omega)⟩
    refine EvP.succ ?_
    simp only [laws_FnStemBest.l1]
    refine EvP.yes (by omega) ?_
    refine EvP.bind (impl_move l (bst l) (i : Int) (k : Int) hs (by omega)) (fun r hr => ?_)
    have er := hr.1 ⟨V, by omega, by omega, by omega, by omega⟩
    subst er
    rw [toNat_nat]
    dsimp only
    have Vk := vs_set V i k hi1 (by omega) (by omega)
    refine EvP.bind (impl_chg l ((bst l).set i (k : Int)) hs (by rw [List.length_set]; omega)) (fun y hy => ?_)
    have ey := hy.1 ⟨Vk, ok⟩
    refine EvP.yes rfl ?_
    have ch := chg_set l (bst l) i k (by omega) (l.length - 1) 1
    rw [if_pos (by omega), bst_rd l i hi1 hi] at ch
    have nb := near_best l i (i - 1) 1 0 (by omega) (fun x hx => by obtain rfl : x = 0 := (by omega); exact ⟨Int.le_refl _, fun _ => Nat.le_refl _⟩) k (by omega)
    unfold F at ch nb
    refine EvP.no (by omega) ?_
    rw [e2.out]
    refine EvP.ite (fun hyc => ?_) (fun _ => ih (k + 1) (by omega))
    refine EvP.yes (by omega) (EvP.yes (by omega) ?_)
    rw [bst_rd l i hi1 hi]
    refine EvP.no ?_ (ih (k + 1) (by omega))
    have := nb.2 (by omega)
    omega
theorem law_outer (c0 : Int) (hc : c0 = chg l (bst l) (l.length - 1) 1) (h0 : 0 ≤ c0) : ∀ (d i : Nat), 1 ≤ i → i + d = l.length → EvP (fun m => laws_FnStemBest.l0 m l (bst l) c0 (i : Int)) (· = true) := by
  intro d
  induction d with
  | zero =>
    intro i hi hd
    refine EvP.succ ?_
    simp only [laws_FnStemBest.l0]
    exact EvP.no (by omega) (EvP.ret (decide_eq_true h0))
  | succ d ih =>
    intro i hi hd
    refine EvP.succ ?_
    simp only [laws_FnStemBest.l0]
    refine EvP.yes (by omega) ?_
    refine law_inner l hs ok h1 h6 c0 hc i hi (by omega) _ ?_ i 0 (by omega)
    rw [w64 (by omega) (by omega)]
    exact ih (i + 1) (by omega) (by omega)
end
theorem law_best (l0 : List Int) (_ : (l0.length : Int) ≤ 9223372036854775807) (hw : ∀ x ∈ l0, (Lit.int .u8 x).wf = true) : ∃ k, laws_FnStemBest.f k l0 = some true := by
  refine EvP.rounds (?_ : EvP (fun k => laws_FnStemBest.f k l0) (· = true))
  unfold laws_FnStemBest.f
  refine EvP.ite (fun _ => EvP.ret rfl) (fun h0 => ?_)
  refine EvP.bind (P := fun r => r.length ≤ 5 ∧ ∀ t ∈ r, t.size ≤ 5) ?_ (fun l hr => ?_)
  · unfold spec_DrawStemBest.f
    refine EvP.bind (open_code l0 hw) (fun r hr => ?_)
    refine EvP.bind (drawn_books hr.1 false r.2 (by omega)) (fun b hb => ?_)
    exact EvP.ret ⟨hb.1, hb.2.1⟩
  obtain ⟨r1, r2⟩ := hr
  have hs' : ∀ t ∈ l, t.size ≤ 9223372036854775806 := fun t ht => Nat.le_trans (r2 t ht) (by omega)
  refine EvP.bind (impl_best l hs') (fun _ e => ?_)
  subst e
  refine EvP.bind (spec_best l hs') (fun _ e => ?_)
  subst e
  rw [bne_self_eq_false]
  refine EvP.no (by decide) ?_
  refine EvP.bind (same_ints _ (bestOf_len l)) (fun _ e => ?_)
  subst e
  refine EvP.yes rfl ?_
  refine EvP.succ ?_
  simp only [laws_FnStemBest.j0]
  by_cases ok : okBooks l = true
  · have eb : bestOf l = (bst l, true) := by unfold bestOf bst; rw [if_pos ok]
    rw [eb]
    obtain ⟨l1, l6, n, n1, n8, hn⟩ := okBooks_ok ok
    have V := bst_vs ok l1
    refine EvP.no (by simp) ?_
    refine EvP.bind (impl_chg l (bst l) hs' (by rw [bst_len l l1]; omega)) (fun c hc => ?_)
    have ec := hc.1 ⟨V, ok⟩
    have bd := chg_bd l (bst l) n (by omega) (fun t ht => (hn t ht).1) (l.length - 1) 1 (by omega) (by omega)
    exact law_outer l hs' ok l1 l6 c ec (by omega) (l.length - 1) 1 (by omega) (by omega)
  · have eb : bestOf l = ([], false) := by unfold bestOf; rw [if_neg ok]
    rw [eb]
    refine EvP.yes rfl (EvP.yes (by decide) ?_)
    exact EvP.bind (same_ints _ (by decide)) (fun _ e => EvP.ret e)
end Go.Proofs.YtejoneninbdjbaaDoor.Pur
end
section
namespace Go.Proofs.YtejoneninbdjbaaDoor.Head
set_option maxRecDepth 100000
theorem and_t {a b : Bool} (h : a = true) (k : b = true) : (a && b) = true := by rw [h, k]; rfl
theorem mayEnter_of {P : Program} {l : List String} {W rest : List (List Char)} (h : behindMainWord (wordsSigns P.initOrder.toList) = W) (hc : ∃ c r, W = c :: r ∧ (c == "gc".toList || c == "spec".toList) = false ∧ (c == "carried".toList) = false) (hs : stripLifts liftWords W = (l, "cut".toList :: rest))
    (hl : (l.contains "finals" || !P.laysLater) = true) (hb : (l.contains "reflectrows" || !P.bearsReflect) = true) (hr : (l.contains "reflectrows" || !l.contains "leanrows") = true) (hd : P.doorFits l = true) : P.mayEnter = true := by
  obtain ⟨c, r, rfl, h1, h2⟩ := hc
  unfold Program.mayEnter
  rw [h]
  dsimp only
  rw [hs, hl, hb, hr, hd, h1, h2]
  simp
theorem headLifts_of {P : Program} {l : List String} {W rest : List (List Char)} (h : behindMainWord (wordsSigns P.initOrder.toList) = W) (hs : stripLifts liftWords W = (l, "cut".toList :: rest)) : P.headLifts = l := by
  unfold Program.headLifts
  rw [h]
  dsimp only
  rw [hs]
  simp
theorem liftsFinal_of {P : Program} {l : List String} {W rest : List (List Char)} (h : behindMainWord (wordsSigns P.initOrder.toList) = W) (hc : ∃ c r, W = c :: r ∧ (c == "gc".toList || c == "spec".toList) = false ∧ (c == "carried".toList) = false) (hs : stripLifts liftWords W = (l, "cut".toList :: rest)) : P.liftsFinal = l.contains "finals" := by
  unfold Program.liftsFinal
  rw [headLifts_of h hs, h]
  obtain ⟨c, r, rfl, h1, h2⟩ := hc
  have h3 : ((c :: r).head? == some "carried".toList) = false := by
    rw [beq_eq_false_iff_ne] at h2 ⊢
    exact fun e => h2 (Option.some.inj e)
  dsimp only
  rw [h3, Bool.false_and, Bool.false_or]
theorem make_of {P : Program} {rest : List (List Char)} (h : behindMainWord (wordsSigns P.initOrder.toList) = "cut".toList :: rest) : P.make = some .cut := by
  unfold Program.make
  rw [h]
  dsimp only
  rw [if_neg (by decide), if_pos (by simp)]
theorem mainIs_of {P : Program} {s : List Char} {rest : List (List Char)} (h : wordsSigns P.initOrder.toList = "harness".toList :: s :: rest) (hs : isSumSigns s = true) : P.mainIs = some (true, s) := by
  unfold Program.mainIs
  rw [h]
  dsimp only
  rw [hs]
  simp
def io : List Nat := [104, 97, 114, 110, 101, 115, 115, 32, 97, 49, 55, 53, 100, 55, 49, 55, 50, 99, 49, 55, 51, 50, 52, 49, 97, 52, 51, 56, 99, 53, 50, 99, 97, 100, 56, 102, 50, 99, 98, 98, 56, 52, 101, 54, 98, 50, 52, 101, 51, 97, 99, 54, 56, 49, 102, 49, 99, 55, 51, 51, 99, 98, 98, 57, 52, 51, 98, 49, 102, 48, 55, 99, 32, 99, 117, 116, 32, 97, 116, 32, 108, 111, 111, 112, 46, 101, 120, 97, 109, 112, 108, 101, 47, 110, 101, 117, 109, 101, 115, 47, 108, 97, 119, 115, 46, 70, 110, 69, 120, 97, 99, 116, 66, 111, 111, 107, 115, 86, 97, 108, 105, 100, 32, 108, 111, 111, 112, 46, 101, 120, 97, 109, 112, 108, 101, 47, 110, 101, 117, 109, 101, 115, 47, 108, 97, 119, 115, 46, 70, 110, 69, 120, 97, 99, 116, 66, 111, 111, 107, 115, 70, 97, 114, 32, 108, 111, 111, 112, 46, 101, 120, 97, 109, 112, 108, 101, 47, 110, 101, 117, 109, 101, 115, 47, 108, 97, 119, 115, 46, 70, 110, 69, 120, 97, 99, 116, 83, 116, 101, 109, 86, 97, 108, 105, 100, 32, 108, 111, 111, 112, 46, 101, 120, 97, 109, 112, 108, 101, 47, 110, 101, 117, 109, 101, 115, 47, 108, 97, 119, 115, 46, 70, 110, 69, 120, 97, 99, 116, 66, 111, 111, 107, 115, 67, 111, 109, 109, 111, 110, 32, 108, 111, 111, 112, 46, 101, 120, 97, 109, 112, 108, 101, 47, 110, 101, 117, 109, 101, 115, 47, 108, 97, 119, 115, 46, 70, 110, 66, 111, 111, 107, 115, 70, 97, 114, 32, 108, 111, 111, 112, 46, 101, 120, 97, 109, 112, 108, 101, 47, 110, 101, 117, 109, 101, 115, 47, 108, 97, 119, 115, 46, 70, 110, 69, 120, 97, 99, 116, 83, 116, 101, 109, 68, 101, 112, 116, 104, 32, 108, 111, 111, 112, 46, 101, 120, 97, 109, 112, 108, 101, 47, 110, 101, 117, 109, 101, 115, 47, 108, 97, 119, 115, 46, 70, 110, 66, 111, 111, 107, 115, 67, 111, 109, 109, 111, 110, 32, 108, 111, 111, 112, 46, 101, 120, 97, 109, 112, 108, 101, 47, 110, 101, 117, 109, 101, 115, 47, 108, 97, 119, 115, 46, 70, 110, 69, 120, 97, 99, 116, 83, 116, 101, 109, 67, 104, 97, 110, 103, 101, 115, 32, 108, 111, 111, 112, 46, 101, 120, 97, 109, 112, 108, 101, 47, 110, 101, 117, 109, 101, 115, 47, 108, 97, 119, 115, 46, 70, 110, 69, 120, 97, 99, 116, 83, 116, 101, 109, 77, 111, 118, 101, 32, 108, 111, 111, 112, 46, 101, 120, 97, 109, 112, 108, 101, 47, 110, 101, 117, 109, 101, 115, 47, 108, 97, 119, 115, 46, 70, 110, 69, 120, 97, 99, 116, 83, 116, 101, 109, 66, 101, 115, 116, 32, 108, 111, 111, 112, 46, 101, 120, 97, 109, 112, 108, 101, 47, 110, 101, 117, 109, 101, 115, 47, 108, 97, 119, 115, 46, 70, 110, 83, 116, 101, 109, 68, 101, 112, 116, 104, 32, 108, 111, 111, 112, 46, 101, 120, 97, 109, 112, 108, 101, 47, 110, 101, 117, 109, 101, 115, 47, 108, 97, 119, 115, 46, 70, 110, 83, 116, 101, 109, 66, 101, 115, 116, 32, 108, 111, 111, 112, 46, 101, 120, 97, 109, 112, 108, 101, 47, 110, 101, 117, 109, 101, 115, 47, 108, 97, 119, 115, 46, 70, 110, 69, 120, 97, 99, 116, 83, 116, 101, 109, 70, 101, 119, 101, 115, 116, 32, 108, 111, 111, 112, 46, 101, 120, 97, 109, 112, 108, 101, 47, 110, 101, 117, 109, 101, 115, 47, 108, 97, 119, 115, 46, 70, 110, 83, 116, 101, 109, 70, 101, 119, 101, 115, 116, 32, 108, 111, 111, 112, 46, 101, 120, 97, 109, 112, 108, 101, 47, 110, 101, 117, 109, 101, 115, 47, 108, 97, 119, 115, 46, 70, 110, 69, 120, 97, 99, 116, 83, 116, 101, 109, 70, 105, 108, 108, 32, 108, 111, 111, 112, 46, 101, 120, 97, 109, 112, 108, 101, 47, 110, 101, 117, 109, 101, 115, 47, 108, 97, 119, 115, 46, 70, 110, 83, 116, 101, 109, 77, 111, 118, 101, 32, 108, 111, 111, 112, 46, 101, 120, 97, 109, 112, 108, 101, 47, 110, 101, 117, 109, 101, 115, 47, 108, 97, 119, 115, 46, 70, 110, 83, 116, 101, 109, 76, 111, 115, 116, 32, 108, 111, 111, 112, 46, 101, 120, 97, 109, 112, 108, 101, 47, 110, 101, 117, 109, 101, 115, 47, 108, 97, 119, 115, 46, 70, 110, 83, 116, 101, 109, 67, 104, 97, 110, 103, 101, 115]
def ws : List (List Nat) := [[104, 97, 114, 110, 101, 115, 115], [97, 49, 55, 53, 100, 55, 49, 55, 50, 99, 49, 55, 51, 50, 52, 49, 97, 52, 51, 56, 99, 53, 50, 99, 97, 100, 56, 102, 50, 99, 98, 98, 56, 52, 101, 54, 98, 50, 52, 101, 51, 97, 99, 54, 56, 49, 102, 49, 99, 55, 51, 51, 99, 98, 98, 57, 52, 51, 98, 49, 102, 48, 55, 99], [99, 117, 116], [97, 116], [108, 111, 111, 112, 46, 101, 120, 97, 109, 112, 108, 101, 47, 110, 101, 117, 109, 101, 115, 47, 108, 97, 119, 115, 46, 70, 110, 69, 120, 97, 99, 116, 66, 111, 111, 107, 115, 86, 97, 108, 105, 100], [108, 111, 111, 112, 46, 101, 120, 97, 109, 112, 108, 101, 47, 110, 101, 117, 109, 101, 115, 47, 108, 97, 119, 115, 46, 70, 110, 69, 120, 97, 99, 116, 66, 111, 111, 107, 115, 70, 97, 114], [108, 111, 111, 112, 46, 101, 120, 97, 109, 112, 108, 101, 47, 110, 101, 117, 109, 101, 115, 47, 108, 97, 119, 115, 46, 70, 110, 69, 120, 97, 99, 116, 83, 116, 101, 109, 86, 97, 108, 105, 100], [108, 111, 111, 112, 46, 101, 120, 97, 109, 112, 108, 101, 47, 110, 101, 117, 109, 101, 115, 47, 108, 97, 119, 115, 46, 70, 110, 69, 120, 97, 99, 116, 66, 111, 111, 107, 115, 67, 111, 109, 109, 111, 110], [108, 111, 111, 112, 46, 101, 120, 97, 109, 112, 108, 101, 47, 110, 101, 117, 109, 101, 115, 47, 108, 97, 119, 115, 46, 70, 110, 66, 111, 111, 107, 115, 70, 97, 114], [108, 111, 111, 112, 46, 101, 120, 97, 109, 112, 108, 101, 47, 110, 101, 117, 109, 101, 115, 47, 108, 97, 119, 115, 46, 70, 110, 69, 120, 97, 99, 116, 83, 116, 101, 109, 68, 101, 112, 116, 104], [108, 111, 111, 112, 46, 101, 120, 97, 109, 112, 108, 101, 47, 110, 101, 117, 109, 101, 115, 47, 108, 97, 119, 115, 46, 70, 110, 66, 111, 111, 107, 115, 67, 111, 109, 109, 111, 110], [108, 111, 111, 112, 46, 101, 120, 97, 109, 112, 108, 101, 47, 110, 101, 117, 109, 101, 115, 47, 108, 97, 119, 115, 46, 70, 110, 69, 120, 97, 99, 116, 83, 116, 101, 109, 67, 104, 97, 110, 103, 101, 115], [108, 111, 111, 112, 46, 101, 120, 97, 109, 112, 108, 101, 47, 110, 101, 117, 109, 101, 115, 47, 108, 97, 119, 115, 46, 70, 110, 69, 120, 97, 99, 116, 83, 116, 101, 109, 77, 111, 118, 101], [108, 111, 111, 112, 46, 101, 120, 97, 109, 112, 108, 101, 47, 110, 101, 117, 109, 101, 115, 47, 108, 97, 119, 115, 46, 70, 110, 69, 120, 97, 99, 116, 83, 116, 101, 109, 66, 101, 115, 116], [108, 111, 111, 112, 46, 101, 120, 97, 109, 112, 108, 101, 47, 110, 101, 117, 109, 101, 115, 47, 108, 97, 119, 115, 46, 70, 110, 83, 116, 101, 109, 68, 101, 112, 116, 104], [108, 111, 111, 112, 46, 101, 120, 97, 109, 112, 108, 101, 47, 110, 101, 117, 109, 101, 115, 47, 108, 97, 119, 115, 46, 70, 110, 83, 116, 101, 109, 66, 101, 115, 116], [108, 111, 111, 112, 46, 101, 120, 97, 109, 112, 108, 101, 47, 110, 101, 117, 109, 101, 115, 47, 108, 97, 119, 115, 46, 70, 110, 69, 120, 97, 99, 116, 83, 116, 101, 109, 70, 101, 119, 101, 115, 116], [108, 111, 111, 112, 46, 101, 120, 97, 109, 112, 108, 101, 47, 110, 101, 117, 109, 101, 115, 47, 108, 97, 119, 115, 46, 70, 110, 83, 116, 101, 109, 70, 101, 119, 101, 115, 116], [108, 111, 111, 112, 46, 101, 120, 97, 109, 112, 108, 101, 47, 110, 101, 117, 109, 101, 115, 47, 108, 97, 119, 115, 46, 70, 110, 69, 120, 97, 99, 116, 83, 116, 101, 109, 70, 105, 108, 108], [108, 111, 111, 112, 46, 101, 120, 97, 109, 112, 108, 101, 47, 110, 101, 117, 109, 101, 115, 47, 108, 97, 119, 115, 46, 70, 110, 83, 116, 101, 109, 77, 111, 118, 101], [108, 111, 111, 112, 46, 101, 120, 97, 109, 112, 108, 101, 47, 110, 101, 117, 109, 101, 115, 47, 108, 97, 119, 115, 46, 70, 110, 83, 116, 101, 109, 76, 111, 115, 116], [108, 111, 111, 112, 46, 101, 120, 97, 109, 112, 108, 101, 47, 110, 101, 117, 109, 101, 115, 47, 108, 97, 119, 115, 46, 70, 110, 83, 116, 101, 109, 67, 104, 97, 110, 103, 101, 115]]
def ch (w : List Nat) : List Char := w.map Char.ofNat
theorem io_is : Tryd.prog.initOrder = String.ofList (ch io) := by kernel_rfl
theorem io_ws : wordsSigns (ch io) = ws.map ch := by kernel_rfl
theorem io_all : wordsSigns Tryd.prog.initOrder.toList = ws.map ch := by rw [io_is, String.toList_ofList, io_ws]
theorem be : behindMainWord (ws.map ch) = (ws.drop 2).map ch := by kernel_rfl
theorem io_be : behindMainWord (wordsSigns Tryd.prog.initOrder.toList) = (ws.drop 2).map ch := by rw [io_all, be]
theorem first : ∃ c r, (ws.drop 2).map ch = c :: r ∧ (c == "gc".toList || c == "spec".toList) = false ∧ (c == "carried".toList) = false := ⟨ch (ws.getD 2 []), (ws.drop 3).map ch, by kernel_rfl, by kernel_rfl, by kernel_rfl⟩
theorem st : stripLifts liftWords ((ws.drop 2).map ch) = ([], "cut".toList :: ((ws.drop 3).map ch)) := by kernel_rfl
theorem ll : ([].contains "finals" || !Tryd.prog.laysLater) = true := by kernel_rfl
theorem br : ([].contains "reflectrows" || !Tryd.prog.bearsReflect) = true := by kernel_rfl
theorem rr : ([].contains "reflectrows" || ![].contains "leanrows") = true := by kernel_rfl
theorem df : Tryd.prog.doorFits [] = true := by kernel_rfl
theorem mayE : Tryd.prog.mayEnter = true := mayEnter_of io_be first st ll br rr df
theorem finE : Tryd.prog.liftsFinal = [].contains "finals" := liftsFinal_of io_be first st
theorem mainE : Tryd.prog.mainIs = some (true, ch [97, 49, 55, 53, 100, 55, 49, 55, 50, 99, 49, 55, 51, 50, 52, 49, 97, 52, 51, 56, 99, 53, 50, 99, 97, 100, 56, 102, 50, 99, 98, 98, 56, 52, 101, 54, 98, 50, 52, 101, 51, 97, 99, 54, 56, 49, 102, 49, 99, 55, 51, 51, 99, 98, 98, 57, 52, 51, 98, 49, 102, 48, 55, 99]) := mainIs_of (rest := (ws.drop 2).map ch) (io_all.trans (by kernel_rfl)) (by kernel_rfl)
theorem makeE : Tryd.prog.make = some .cut := make_of (io_be.trans (by kernel_rfl : (ws.drop 2).map ch = "cut".toList :: ((ws.drop 3).map ch)))
end Go.Proofs.YtejoneninbdjbaaDoor.Head
end
section
namespace Go.Proofs.YtejoneninbdjbaaDoor.Pur
open Go.RowKit Go.ChangeShapes Go.Deep Go.Proofs.YtejoneninbdjbaaDoorW.PrintWords Go.Proofs.YtejoneninbdjbaaDoor.E
theorem open_rowP {P : Program} {H : Type} {enc : TypeId × Value → H} {W : World} {α : Type} [Inhabited α] {d : Kd α} {p : α → Prop} {t e : TypeId} {fuel : Nat} {cs : List Value} {x : DataW H × List MemPlace} (ht : P.underlying t = some (.slice e)) (hc : P.cellsOf e = d.sz)
    (o : ∀ (fuel : Nat) (cs : List Value) (x : DataW H × List MemPlace), DataW.trod enc P W 0 (fun _ => true) true fuel e cs = some x → ∃ y, d.K W y cs ∧ p y)
    (h : DataW.trod enc P W 0 (fun _ => true) true fuel t cs = some x) : ∃ (A : Option Addr) (c : Nat) (l : List α), cs = [.slice A l.length c] ∧ l.length ≤ c ∧ (l.length : Int) ≤ 9223372036854775807 ∧ d.C W A l.length l ∧ ∀ y ∈ l, p y := by
  rcases open_slice ht h with ⟨rfl, _⟩ | ⟨a, len, cap, m, n, D, Pl, rfl, _, hl, hm, hmm, _, hx⟩
  · exact ⟨none, 0, [], rfl, Nat.le_refl _, by simp, ⟨rfl, by simp, fun h => absurd h (by simp)⟩, fun y hy => by cases hy⟩
  · have hlm : len ≤ m := by rw [hmm]; simp; omega
    unfold maxLen at hm
    obtain ⟨Y, hY⟩ := choose_lt (α := α) (n := len) (p := fun i y => ∃ cs', W.cells? 0 (a.add (i * P.cellsOf e)) (P.cellsOf e) = some cs' ∧ d.K W y cs' ∧ p y) (fun i hi => by
      obtain ⟨cs', h1, h2⟩ := hx i (by omega)
      obtain ⟨y, hy, hp⟩ := o _ _ _ h2
      exact ⟨y, cs', h1, hy, hp⟩)
    have hlen : ((List.range len).map Y).length = len := by simp
    refine ⟨some a, cap, (List.range len).map Y, by rw [hlen], by rw [hlen]; exact hl, by rw [hlen]; omega, ⟨rfl, by rw [hlen]; omega, fun _ => ⟨a, rfl, fun j q hj => ?_⟩⟩, fun y hy => ?_⟩
    · obtain ⟨hj1, hj2⟩ := List.getElem?_eq_some_iff.1 hj
      rw [hlen] at hj1
      simp only [List.getElem_map, List.getElem_range] at hj2
      subst hj2
      obtain ⟨cs', h1, h2, _⟩ := hY j hj1
      obtain ⟨_, g1, g2⟩ := World.cells?_some h1
      refine ⟨cs', by rw [g1, hc], h2, fun i u hu => ?_⟩
      have := g2 i (by rw [← g1]; exact (List.getElem?_eq_some_iff.1 hu).1)
      rw [Go.Deep.add_add, hc, hu] at this
      exact this
    · obtain ⟨j, hj, rfl⟩ := List.mem_map.mp hy
      obtain ⟨_, _, _, hp⟩ := hY j (List.mem_range.mp hj)
      exact hp
theorem open_intsR {P : Program} {H : Type} {enc : TypeId × Value → H} {W : World} {k : IntKind} {t e : TypeId} {fuel : Nat} {cs : List Value} {x : DataW H × List MemPlace} (ht : P.underlying t = some (.slice e)) (he : P.underlying e = some (.int k)) (hc : P.cellsOf e = 1) (h : DataW.trod enc P W 0 (fun _ => true) true fuel t cs = some x) :
    ∃ (A : Option Addr) (c : Nat) (l : List Int), cs = [.slice A l.length c] ∧ l.length ≤ c ∧ (l.length : Int) ≤ 9223372036854775807 ∧ (Kd.int k).C W A l.length l ∧ ∀ y ∈ l, (Lit.int k y).wf = true :=
  open_rowP ht hc (fun fuel cs x h => by
    obtain ⟨s, rfl, _, hs⟩ := DataW.trod_int he h
    exact ⟨s, rfl, hs⟩) h
end Go.Proofs.YtejoneninbdjbaaDoor.Pur
end
section
namespace Go.Proofs.YtejoneninbdjbaaDoor.fnStemBest
open Go.ChangeShapes Go.WideShapes Go.ChangeAt Go.RowKit
open Go.ChangeMaps (open_string shut_string)
set_option linter.unusedVariables false
theorem own : ownKnob Tryd.prog.godebug = none := by kernel_rfl
theorem laidOut : laidOutB Tryd.prog = true := by kernel_rfl
set_option maxRecDepth 100000 in
theorem lifted (os : Os) (started : os.Started) (H : Type) (enc : TypeId × Value → H) :
    ReturnsInHanded {} Tryd.checked os 14 .any (fun w args => (Rows.fnStemBestSpec.pre enc Tryd.prog Tryd.f14 Rows.fnStemBestRow.domain false w args ∧ laidMetH Tryd.prog Rows.fnStemBestRow.laid w) ∧ sizedMet enc Tryd.prog Tryd.f14 (OpenSpec.ofChange Rows.fnStemBestSpec) false w args) (Rows.fnStemBestSpec.post enc Tryd.prog Tryd.f14 false true false false) := by
  refine returnsInHanded_of_change_and (C := Tryd.checked) (X := fun w _ => laidMetH Tryd.prog Rows.fnStemBestRow.laid w) (fun _ _ _ hh h => h.of_heap hh) own started (by kernel_rfl) Tryd.func14
    (ChangeSpec.witness_shaped (enc := enc) (C := Tryd.checked) (os := os) (X := fun w _ => laidMetH Tryd.prog Rows.fnStemBestRow.laid w) false (World.laidAll Tryd.prog os Rows.fnStemBestRow.laid) #[.slice none 0 0] 8 (World.laidAll_os _ _ _) (World.shaped_of_ZipB (by kernel_rfl) (by kernel_rfl)) (by kernel_rfl) (by kernel_rfl) (by kernel_rfl) (by rw [MakeChecks.laidMetH_plain _ _ _ (by kernel_rfl)]; exact laidMet_laidAll _ (by kernel_rfl) (by kernel_rfl))) ?_
  intro W base args ds gs before hval0 hW hcnd hsz0 hL _
  have hsz : (DataW.weightsEach Tryd.prog (Tryd.f14.params.toList ++ Rows.fnStemBestSpec.plain.varTypes Tryd.prog) (ds ++ gs)).all (· ≤ reachBytes) = true := hsz0
  have hval : ∀ (j : Nat) t v, Tryd.f14.params[j]? = some t → args[j]? = some v → Value.okWide Tryd.prog W .any base t v := hval0
  have hW' := hW
  obtain ⟨p, q, hA0, hV, rfl, hfz, hnd⟩ := hW
  have hA : DataW.TrodAll enc Tryd.prog W 0 (fun _ => true) true Tryd.f14.params.toList args.toList ds p := hA0
  rw [Tryd.params14] at hA hval hsz
  obtain ⟨v0, vs0, d0, ds0, p0, q0, hargs, rfl, rfl, h0, r0⟩ := trodAll_cons hA
  obtain ⟨rfl, rfl, rfl⟩ := trodAll_nil r0
  obtain rfl : args = #[v0] := by cases args; simp_all
  obtain ⟨rfl, rfl⟩ := trodVars_none hV
  have k0 := h0
  have lt0 : ∀ x ∈ p0, x.block < W.heap.size := by obtain ⟨m, hm⟩ := k0; exact DataW.trod_lt m _ _ _ hm
  obtain ⟨a0, len0, cap0, rfl⟩ := okWide_slice Tryd.underlying35 (hval 0 35 v0 rfl rfl)
  obtain ⟨fuel0, hf0⟩ := h0
  obtain ⟨A0, c0, l0, hcs0, hle0, hm0, hC0, hx0⟩ := Pur.open_intsR Tryd.underlying35 Tryd.underlying5 (by kernel_rfl) hf0
  simp [Value.cells] at hcs0
  obtain ⟨rfl, rfl, rfl⟩ := hcs0
  clear hA0 hval0 hsz0 hsz
  obtain ⟨k, hk⟩ := Pur.law_best l0 hm0 hx0
  refine (E.laws_FnStemBest.calls k _ _ l0 true W hC0 hle0 hk).mono fun e W' ⟨he, bel⟩ => ?_
  subst he
  exact ⟨_, rfl, _, _, _, [], _, [], hW', trodAll_mk1 (shut_bool Tryd.underlying4 _), (trodAll_cons_mk (Below.trod laidOut (by kernel_rfl) (of_decide_eq_true (by kernel_rfl)) k0 bel lt0) trodAll_mk0), rfl, bel.frame _, fun h => by cases h⟩
set_option maxRecDepth 100000 in
theorem closed : joinedFacts Tryd.prog 14 Tryd.f14 Rows.fnStemBestSpec Rows.fnStemBestRow = true := by
  have hf : (Rows.fnStemBestRow.lifted == Tryd.prog.liftsFinal) = true := by rw [Head.finE]; kernel_rfl
  have hm : (Tryd.prog.make == some Rows.fnStemBestRow.make) = true := by rw [Head.makeE]; kernel_rfl
  unfold joinedFacts
  repeat' (with_reducible refine Head.and_t ?_ ?_)
  all_goals first | with_reducible exact Head.mayE | with_reducible exact hf | with_reducible exact hm | (as_aux_lemma => kernel_rfl)
theorem over : Rows.fnStemBestRow.holds Tryd.pinned (OpenSpec.ofChange Rows.fnStemBestSpec) :=
  OpenClaim.holds_of_wide 14 Tryd.f14 rfl rfl rfl rfl rfl rfl rfl ⟨rfl, rfl, rfl, rfl, rfl⟩ rfl rfl rfl rfl rfl (by kernel_rfl) Tryd.func14 closed
    (of_decide_eq_true (by kernel_rfl)) (by unfold Func.isWrapper; first | (rw [if_pos (by decide +kernel)]; kernel_rfl) | (rw [if_neg (by decide +kernel)]; exact ⟨rfl, rfl⟩))
    (fun os started H enc _ => lifted os started H enc)
theorem card_ : Rows.FnStemBestCardSaid :=
  Claim7.holds_tied_plain_at .later [] [.data, .pinned] true (true, "a175d7172c173241a438c52cad8f2cbb84e6b24e3ac681f1c733cbb943b1f07c") false
    over (fun _ h => by cases h) (by as_aux_lemma => kernel_rfl) (fun _ h => by cases h) fnStemBest_row_tie rfl ⟨rfl, rfl⟩ (Head.mainE.trans (by as_aux_lemma => kernel_rfl)) rfl
    (fun f fn hf hfn => by
      obtain rfl : f = 14 := Option.some.inj ((show Tryd.prog.funcNamed "loop.example/neumes/laws.FnStemBest" = some 14 by kernel_rfl).symm.trans hf) |>.symm
      obtain rfl : fn = Tryd.f14 := (Option.some.inj (Tryd.func14.symm.trans hfn)).symm
      exact ⟨by kernel_rfl, fun j t ht => by
        rw [Tryd.params14] at ht
        have hm : t ∈ [35] := by simpa using Array.mem_of_getElem? ht
        have hall : ([35].all fun u => !Tryd.prog.wantsStandIn u) = true := by kernel_rfl
        exact (show Tryd.prog.wantsStandIn t = false by simpa using List.all_eq_true.1 hall t hm)⟩)
    (by kernel_rfl)
theorem proved : Rows.FnStemBestCardSaid := card_
#print axioms proved
end Go.Proofs.YtejoneninbdjbaaDoor.fnStemBest
namespace Go.Proofs.YtejoneninbdjbaaDoor
theorem fnStemBest_holds : Rows.FnStemBestCardSaid := fnStemBest.proved
end Go.Proofs.YtejoneninbdjbaaDoor
end
