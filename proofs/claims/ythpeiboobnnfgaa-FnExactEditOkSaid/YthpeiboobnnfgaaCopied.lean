/- Lists of tones that a law copies, and holds against each other. -/
import Derived.Test.YthpeiboobnnfgaaTone
import Derived.Test.YthpeiboobnnfgaaEx2
import Derived.Test.YthpeiboobnnfgaaEx4
import Derived.Test.YthpeiboobnnfgaaEx6
namespace Go.Proofs.Ythpeiboobnnfgaa.Pur
open Go.RowKit Go.Proofs.YthpeiboobnnfgaaW.PrintWords Go.Proofs.Ythpeiboobnnfgaa.E

abbrev Tn' := S36
/-- A tone as the program has it. -/
def cv (t : S48) : S36 := ⟨t.f0, t.f1⟩
/-- How much room is left. -/
theorem sz_ok (l : List S48) (n : Int) (hl : (l.length : Int) ≤ 9223372036854775807) (h0 : 0 ≤ n) (hn : n ≤ 1048576) :
    ((l.length : Int) ≤ n ∧ laws_szToneS.f l n = some (n - l.length)) ∨ (n < (l.length : Int) ∧ laws_szToneS.f l n = some (-1)) := by
  unfold laws_szToneS.f
  rw [w64 (by omega) (by omega)]
  by_cases h : n - (l.length : Int) < 0
  · rw [if_pos h]; exact .inr ⟨by omega, rfl⟩
  · rw [if_neg h]; exact .inl ⟨by omega, rfl⟩

theorem conv_loop (l : List S48) (hl : l.length ≤ 1048576) : ∀ (d i : Nat) (xs : List S36), i + d = l.length → xs.length = l.length → xs.take i = (l.take i).map cv →
    EvP (fun k => laws_toToneS.l0 k l xs (i : Int)) (· = l.map cv) := by
  intro d
  induction d with
  | zero =>
    intro i xs hi hx ht
    refine EvP.succ ?_
    simp only [laws_toToneS.l0]
    refine EvP.no (by omega) (EvP.ret ?_)
    rw [List.take_of_length_le (by omega), List.take_of_length_le (by omega)] at ht
    exact ht
  | succ d ih =>
    intro i xs hi hx ht
    have hlt : i < l.length := by omega
    refine EvP.succ ?_
    simp only [laws_toToneS.l0]
    refine EvP.yes (by omega) (EvP.yes (by omega) ?_)
    refine EvP.bind (P := (· = (l[i].f0, l[i].f1))) (EvP.con ?_ rfl) (fun _ e => ?_)
    · unfold laws_toTone.f rd_T48
      rw [toNat_nat, List.getD_eq_getElem?_getD, List.getElem?_eq_getElem hlt]
      rfl
    · subst e
      refine EvP.yes (by omega) ?_
      rw [w64 (by omega) (by omega), toNat_nat]
      refine ih (i + 1) _ (by omega) (by simpa using hx) ?_
      rw [List.take_succ_eq_append_getElem (by simp; omega), List.take_succ_eq_append_getElem hlt, List.map_append, List.take_set_of_le (Nat.le_refl _), ht]
      simp [cv]
theorem conv_ok (l : List S48) (hl : l.length ≤ 1048576) : EvP (fun k => laws_toToneS.f k l) (· = l.map cv) := by
  unfold laws_toToneS.f
  refine EvP.yes (by omega) (EvP.yes (by omega) ?_)
  exact conv_loop l hl l.length 0 _ (by omega) (by simp) rfl

theorem eq_loop (l : List S36) (hl : l.length ≤ 1048576) : ∀ d i : Nat, i + d = l.length → EvP (fun k => laws_eqToneS.l0 k l l (i : Int)) (· = true) := by
  intro d
  induction d with
  | zero =>
    intro i hi
    refine EvP.succ ?_
    simp only [laws_eqToneS.l0]
    exact EvP.no (by omega) (EvP.ret rfl)
  | succ d ih =>
    intro i hi
    refine EvP.succ ?_
    simp only [laws_eqToneS.l0]
    refine EvP.yes (by omega) (EvP.yes (by omega) (EvP.yes (by omega) ?_))
    refine EvP.bind (P := (· = true)) (EvP.con (by simp [laws_eqTone.f]) rfl) (fun _ e => ?_)
    subst e
    refine EvP.yes rfl ?_
    rw [w64 (by omega) (by omega)]
    exact ih (i + 1) (by omega)
theorem eq_ok (l : List S36) (hl : l.length ≤ 1048576) : EvP (fun k => laws_eqToneS.f k l l) (· = true) := by
  unfold laws_eqToneS.f
  exact EvP.yes rfl (eq_loop l hl l.length 0 (by omega))
end Go.Proofs.Ythpeiboobnnfgaa.Pur
