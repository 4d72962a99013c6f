/- Proved: for all arguments the given program's laws.FnExactPsalmSing returns true, and its arguments read afterwards as they read before (the given constant Rows.FnExactPsalmSingCardSaid).
Conditions: none ahead of the given statement; the statement itself begins in a world whose listed package-level variables hold what the program's text lays there, and its card ties them to that text. -/
import Derived.Test.YtdgmkfbmeaalpaaDoorRowFnExactPsalmSingK2
section
namespace Go.Proofs.YtdgmkfbmeaalpaaDoor.Pur
open Go.RowKit Go.Proofs.YtdgmkfbmeaalpaaDoorW.PrintWords Go.Proofs.YtdgmkfbmeaalpaaDoor.E
abbrev Tn' := S25
def cv (t : S39) : S25 := ⟨t.f0, t.f1⟩
theorem sz_ok (l : List S39) (n : Int) (hl : (l.length : Int) ≤ 9223372036854775807) (h0 : 0 ≤ n) (hn : n ≤ 1048576) :
    ((l.length : Int) ≤ n ∧ laws_szToneS.f l n = some (n - l.length)) ∨ (n < (l.length : Int) ∧ laws_szToneS.f l n = some (-1)) := by
  unfold laws_szToneS.f
  rw [w64 (by omega) (by omega)]
  by_cases h : n - (l.length : Int) < 0
  · rw [if_pos h]; exact .inr ⟨by omega, rfl⟩
  · rw [if_neg h]; exact .inl ⟨by omega, rfl⟩
theorem conv_loop (l : List S39) (hl : l.length ≤ 1048576) : ∀ (d i : Nat) (xs : List S25), i + d = l.length → xs.length = l.length → xs.take i = (l.take i).map cv →
    EvP (fun k => laws_toToneS.l0 k l xs (i : Int)) (· = l.map cv) := by
  intro d
  induction d with
  | zero =>
    intro i xs hi hx ht
    refine EvP.succ ?_
    simp only [laws_toToneS.l0]
    refine EvP.no (by omega) (EvP.ret ?_)
    rw [List.take_of_length_le (by omega), List.take_of_length_le (by omega)] at ht
    exact ht
  | succ d ih =>
    intro i xs hi hx ht
    have hlt : i < l.length := by omega
    refine EvP.succ ?_
    simp only [laws_toToneS.l0]
    refine EvP.yes (by omega) (EvP.yes (by omega) ?_)
    refine EvP.bind (P := (· = (l[i].f0, l[i].f1))) (EvP.con ?_ rfl) (fun _ e => ?_)
    · unfold laws_toTone.f rd_T39
      rw [toNat_nat, List.getD_eq_getElem?_getD, List.getElem?_eq_getElem hlt]
      rfl
    · subst e
      refine EvP.yes (by omega) ?_
      rw [w64 (by omega) (by omega), toNat_nat]
      refine ih (i + 1) _ (by omega) (by simpa using hx) ?_
      rw [List.take_succ_eq_append_getElem (by simp; omega), List.take_succ_eq_append_getElem hlt, List.map_append, List.take_set_of_le (Nat.le_refl _), ht]
      simp [cv]
theorem conv_ok (l : List S39) (hl : l.length ≤ 1048576) : EvP (fun k => laws_toToneS.f k l) (· = l.map cv) := by
  unfold laws_toToneS.f
  refine EvP.yes (by omega) (EvP.yes (by omega) ?_)
  exact conv_loop l hl l.length 0 _ (by omega) (by simp) rfl
theorem eq_loop (l : List S25) (hl : l.length ≤ 1048576) : ∀ d i : Nat, i + d = l.length → EvP (fun k => laws_eqToneS.l0 k l l (i : Int)) (· = true) := by
  intro d
  induction d with
  | zero =>
    intro i hi
    refine EvP.succ ?_
    simp only [laws_eqToneS.l0]
    exact EvP.no (by omega) (EvP.ret rfl)
  | succ d ih =>
    intro i hi
    refine EvP.succ ?_
    simp only [laws_eqToneS.l0]
    refine EvP.yes (by omega) (EvP.yes (by omega) (EvP.yes (by omega) ?_))
    refine EvP.bind (P := (· = true)) (EvP.con (by simp [laws_eqTone.f]) rfl) (fun _ e => ?_)
    subst e
    refine EvP.yes rfl ?_
    rw [w64 (by omega) (by omega)]
    exact ih (i + 1) (by omega)
theorem eq_ok (l : List S25) (hl : l.length ≤ 1048576) : EvP (fun k => laws_eqToneS.f k l l) (· = true) := by
  unfold laws_eqToneS.f
  exact EvP.yes rfl (eq_loop l hl l.length 0 (by omega))
end Go.Proofs.YtdgmkfbmeaalpaaDoor.Pur
end
section
namespace Go.Proofs.YtdgmkfbmeaalpaaDoor.E
open Go.RowKit Go.Proofs.YtdgmkfbmeaalpaaDoorW.PrintWords Go.Proofs.YtdgmkfbmeaalpaaDoorW.PrintLast Go.Proofs.YtdgmkfbmeaalpaaDoorW.PrintMore
attribute [local go_sem] max2_int min2_int max_two min_two max_three min_three max_four min_four
set_option linter.unusedVariables false
set_option linter.unusedSimpArgs false
attribute [local go_sem] str_leq_ str_gtr_ str_geq_
def laws_FnExactPsalmTenors.f (k : Nat) (l0_0 : List (S39)) (a0_1 : Int) (a0_2 : Bool) (l0_3 : List (S39)) (l0_4 : List (S39)) (a1 : ByteArray) : Option (Bool) := if (a1.size : Int) > 1048576 then (some true) else ((laws_szPsalm.f l0_0 a0_1 a0_2 l0_3 l0_4 1048576).bind fun t361 => (if t361 < 0 then (some true) else ((laws_toPsalm.f k l0_0 a0_1 a0_2 l0_3 l0_4).bind fun bt362 => ((spec_PsalmTenors.f k bt362.1 bt362.2.1 bt362.2.2.1 bt362.2.2.2.1 bt362.2.2.2.2 a1).bind fun t373 => ((laws_toPsalm.f k l0_0 a0_1 a0_2 l0_3 l0_4).bind fun bt374 => ((impl_PsalmTenors.f k bt374.1 bt374.2.1 bt374.2.2.1 bt374.2.2.2.1 bt374.2.2.2.2 a1).bind fun t386 => (if t386 = t373 then ((laws_toPsalm.f k l0_0 a0_1 a0_2 l0_3 l0_4).bind fun bt387 => ((laws_eqPsalm.f k bt374.1 bt374.2.1 bt374.2.2.1 bt374.2.2.2.1 bt374.2.2.2.2 bt387.1 bt387.2.1 bt387.2.2.1 bt387.2.2.2.1 bt387.2.2.2.2).bind fun t398 => (if t398 = true then (some true) else (none)))) else (none))))))))
end Go.Proofs.YtdgmkfbmeaalpaaDoor.E
end
section
namespace Go.Proofs.YtdgmkfbmeaalpaaDoor.E
open Go.RowKit Go.Proofs.YtdgmkfbmeaalpaaDoorW.PrintWords Go.Proofs.YtdgmkfbmeaalpaaDoorW.PrintLast Go.Proofs.YtdgmkfbmeaalpaaDoorW.PrintMore
attribute [local go_sem] max2_int min2_int max_two min_two max_three min_three max_four min_four
set_option linter.unusedVariables false
set_option linter.unusedSimpArgs false
attribute [local go_sem] str_leq_ str_gtr_ str_geq_
def laws_FnExactPsalmAccents.f (k : Nat) (l0_0 : List (S39)) (a0_1 : Int) (a0_2 : Bool) (l0_3 : List (S39)) (l0_4 : List (S39)) (a1 : ByteArray) : Option (Bool) := if (a1.size : Int) > 1048576 then (some true) else ((laws_szPsalm.f l0_0 a0_1 a0_2 l0_3 l0_4 1048576).bind fun t462 => (if t462 < 0 then (some true) else ((laws_toPsalm.f k l0_0 a0_1 a0_2 l0_3 l0_4).bind fun bt463 => ((spec_PsalmAccents.f k bt463.1 bt463.2.1 bt463.2.2.1 bt463.2.2.2.1 bt463.2.2.2.2 a1).bind fun t474 => ((laws_toPsalm.f k l0_0 a0_1 a0_2 l0_3 l0_4).bind fun bt475 => ((impl_PsalmAccents.f k bt475.1 bt475.2.1 bt475.2.2.1 bt475.2.2.2.1 bt475.2.2.2.2 a1).bind fun t487 => (if t487 = t474 then ((laws_toPsalm.f k l0_0 a0_1 a0_2 l0_3 l0_4).bind fun bt488 => ((laws_eqPsalm.f k bt475.1 bt475.2.1 bt475.2.2.1 bt475.2.2.2.1 bt475.2.2.2.2 bt488.1 bt488.2.1 bt488.2.2.1 bt488.2.2.2.1 bt488.2.2.2.2).bind fun t499 => (if t499 = true then (some true) else (none)))) else (none))))))))
end Go.Proofs.YtdgmkfbmeaalpaaDoor.E
end
section
namespace Go.Proofs.YtdgmkfbmeaalpaaDoor.Pur
open Go.RowKit Go.Proofs.YtdgmkfbmeaalpaaDoorW.PrintWords Go.Proofs.YtdgmkfbmeaalpaaDoor.E
abbrev LT := List S39
theorem EvP.now {α β : Type} {o : Option α} {r : α} {f : Nat → α → Option β} {Q : β → Prop} (h : o = some r) (k : EvP (fun n => f n r) Q) : EvP (fun n => o.bind (f n)) Q := by
  subst h
  exact k
theorem sz_psalm (ls : LT) (a : Int) (b : Bool) (lm le : LT) (n : Int) (h1 : (ls.length : Int) ≤ 9223372036854775807) (h2 : (lm.length : Int) ≤ 9223372036854775807) (h3 : (le.length : Int) ≤ 9223372036854775807) (h0 : 0 ≤ n) (hn : n ≤ 1048576) : laws_szPsalm.f ls a b lm le n = some (-1) ∨ ((ls.length : Int) + lm.length + le.length ≤ n ∧ laws_szPsalm.f ls a b lm le n = some (n - ls.length - lm.length - le.length)) := by
  unfold laws_szPsalm.f
  rcases sz_ok ls n h1 h0 hn with ⟨g1, e1⟩ | ⟨g1, e1⟩
  · rw [e1, Option.bind_some, if_neg (by omega)]
    rcases sz_ok lm (n - ls.length) h2 (by omega) (by omega) with ⟨g2, e2⟩ | ⟨g2, e2⟩
    · rw [e2, Option.bind_some, if_neg (by omega)]
      rcases sz_ok le (n - ls.length - lm.length) h3 (by omega) (by omega) with ⟨g3, e3⟩ | ⟨g3, e3⟩
      · rw [e3, Option.bind_some, if_neg (by omega)]
        exact .inr ⟨by omega, rfl⟩
      · rw [e3]
        exact .inl rfl
    · rw [e2]
      exact .inl rfl
  · rw [e1]
    exact .inl rfl
theorem to_psalm (ls : LT) (a : Int) (b : Bool) (lm le : LT) (h1 : ls.length ≤ 1048576) (h2 : lm.length ≤ 1048576) (h3 : le.length ≤ 1048576) : EvP (fun k => laws_toPsalm.f k ls a b lm le) (· = (ls.map cv, a, b, lm.map cv, le.map cv)) := by
  simp only [laws_toPsalm.f]
  refine EvP.bind (conv_ok ls h1) (fun _ e => ?_)
  subst e
  refine EvP.now (r := (a, b)) rfl ?_
  refine EvP.bind (conv_ok lm h2) (fun _ e => ?_)
  subst e
  refine EvP.bind (conv_ok le h3) (fun _ e => ?_)
  subst e
  exact EvP.ret rfl
theorem eq_psalm (ps : TL) (a : Int) (b : Bool) (pm pe : TL) (h1 : ps.length ≤ 1048576) (h2 : pm.length ≤ 1048576) (h3 : pe.length ≤ 1048576) : EvP (fun k => laws_eqPsalm.f k ps a b pm pe ps a b pm pe) (· = true) := by
  simp only [laws_eqPsalm.f]
  refine EvP.bind (eq_ok ps h1) (fun _ e => ?_)
  subst e
  refine EvP.yes rfl ?_
  refine EvP.now (r := true) (by simp [laws_eqTone.f]) (EvP.yes rfl ?_)
  refine EvP.bind (eq_ok pm h2) (fun _ e => ?_)
  subst e
  refine EvP.yes rfl ?_
  refine EvP.bind (eq_ok pe h3) (fun _ e => ?_)
  subst e
  exact EvP.yes rfl (EvP.ret rfl)
end Go.Proofs.YtdgmkfbmeaalpaaDoor.Pur
end
section
namespace Go.Proofs.YtdgmkfbmeaalpaaDoor.Pur
open Go.RowKit Go.Proofs.YtdgmkfbmeaalpaaDoorW.PrintWords Go.Proofs.YtdgmkfbmeaalpaaDoor.E
def toneM (j : Nat) : Tn' := ⟨1 + 2 * (j : Int), (Int.tmod (2 + 2 * (j : Int)) 3 == 0)⟩
def MarkedT (i : Nat) (xs : List Tn') : Prop := ∀ j : Nat, j < i → xs[j]? = some (toneM j)
theorem mark_val_loop : ∀ (d i : Nat) (xs : List Tn') (n : Int), i + d = xs.length → xs.length ≤ 1048576 → 0 ≤ n → n + 2 * d ≤ 100000000 → EvP (fun k => laws_markToneS.l0 k xs n (i : Int)) (fun r => r.1 = n + 2 * (d : Int)) := by
  intro d
  induction d with
  | zero =>
    intro i xs n hi hl h0 hn
    refine EvP.succ ?_
    simp only [laws_markToneS.l0]
    exact EvP.no (by omega) (EvP.ret (by simp))
  | succ d ih =>
    intro i xs n hi hl h0 hn
    refine EvP.succ ?_
    simp only [laws_markToneS.l0]
    have e1 : Hd (wrap64 (n + 1) = n + 1) := ⟨w64 (by omega) (by omega)⟩
    have e2 : Hd (wrap64 (n + 1 + 1) = n + 2) := ⟨by rw [w64 (by omega) (by omega)]; omega⟩
    have e3 : Hd (wrap64 ((i : Int) + 1) = ((i + 1 : Nat) : Int)) := ⟨w64 (by omega) (by omega)⟩
    rw [e1.out, e2.out, e3.out]
    refine EvP.yes (by omega) (EvP.yes (by omega) ?_)
    refine EvP.bind (P := fun y => y.length = xs.length) (EvP.con rfl (List.length_set ..)) (fun y hy => ?_)
    refine (ih (i + 1) _ (n + 2) (by rw [List.length_set]; omega) (by rw [List.length_set]; omega) (by omega) (by omega)).mono (fun r hr => ?_)
    rw [hr]
    omega
theorem mark_val (xs : List Tn') (n : Int) (hl : xs.length ≤ 1048576) (h0 : 0 ≤ n) (hn : n ≤ 50000000) : EvP (fun k => laws_markToneS.f k xs n) (fun r => r.1 = n + 2 * (xs.length : Int)) := by
  simp only [laws_markToneS.f]
  exact mark_val_loop xs.length 0 xs n (by omega) hl h0 (by omega)
theorem marked_loop (m : Nat) (hm : m ≤ 1048576) : ∀ (d i : Nat) (xs : List Tn'), i + d = m → xs.length = m → MarkedT i xs → EvP (fun k => laws_markToneS.l0 k xs (1 + 2 * (i : Int)) (i : Int)) (fun r => r.1 = 1 + 2 * (m : Int) ∧ r.2.length = m ∧ MarkedT m r.2) := by
  intro d
  induction d with
  | zero =>
    intro i xs hi hl h
    obtain rfl : i = m := by omega
    refine EvP.succ ?_
    simp only [laws_markToneS.l0]
    exact EvP.no (by omega) (EvP.ret ⟨rfl, hl, h⟩)
  | succ d ih =>
    intro i xs hi hl h
    refine EvP.succ ?_
    simp only [laws_markToneS.l0]
    have e1 : Hd (wrap64 (1 + 2 * (i : Int) + 1) = 2 + 2 * (i : Int)) := ⟨by rw [w64 (by omega) (by omega)]; omega⟩
    have e2 : Hd (wrap64 (2 + 2 * (i : Int) + 1) = 1 + 2 * ((i + 1 : Nat) : Int)) := ⟨by rw [w64 (by omega) (by omega)]; omega⟩
    have e3 : Hd (wrap64 ((i : Int) + 1) = ((i + 1 : Nat) : Int)) := ⟨w64 (by omega) (by omega)⟩
    rw [e1.out, e2.out, e3.out]
    refine EvP.yes (by omega) (EvP.yes (by omega) ?_)
    refine EvP.bind (P := fun y => y = xs.set i ⟨1 + 2 * (i : Int), (rd_T25 xs (i : Int)).f1⟩) (EvP.con rfl rfl) (fun y hy => ?_)
    subst hy
    have hlt : i < (xs.set i ⟨1 + 2 * (i : Int), (rd_T25 xs (i : Int)).f1⟩).length := by rw [List.length_set]; omega
    rw [rdT_lt hlt, List.getElem_set_self, toNat_nat]
    refine ih (i + 1) _ (by omega) (by rw [List.length_set, List.length_set]; exact hl) (fun j hj => ?_)
    by_cases e : j = i
    · subst e
      rw [List.getElem?_set_self hlt]
      rfl
    · rw [List.getElem?_set_ne (Ne.symm e), List.getElem?_set_ne (Ne.symm e)]
      exact h j (by omega)
theorem marked_tones (xs : List Tn') (hl : xs.length ≤ 1048576) : EvP (fun k => laws_markToneS.f k xs 1) (fun r => r.1 = 1 + 2 * (xs.length : Int) ∧ r.2.length = xs.length ∧ MarkedT xs.length r.2) := by
  simp only [laws_markToneS.f]
  exact marked_loop xs.length hl xs.length 0 xs (by omega) rfl (fun j hj => by omega)
theorem held_loop (xs : List Tn') (m : Nat) (hm : m ≤ 1048576) (hl : xs.length = m) (h : MarkedT m xs) : ∀ d i : Nat, i + d = m → EvP (fun k => laws_heldToneS.l0 k xs (1 + 2 * (i : Int)) (i : Int)) (· = 1 + 2 * (m : Int)) := by
  intro d
  induction d with
  | zero =>
    intro i hi
    obtain rfl : i = m := by omega
    refine EvP.succ ?_
    simp only [laws_heldToneS.l0]
    exact EvP.no (by omega) (EvP.ret rfl)
  | succ d ih =>
    intro i hi
    refine EvP.succ ?_
    simp only [laws_heldToneS.l0]
    have e1 : Hd (wrap64 (1 + 2 * (i : Int) + 1) = 2 + 2 * (i : Int)) := ⟨by rw [w64 (by omega) (by omega)]; omega⟩
    have e2 : Hd (wrap64 (2 + 2 * (i : Int) + 1) = 1 + 2 * ((i + 1 : Nat) : Int)) := ⟨by rw [w64 (by omega) (by omega)]; omega⟩
    have e3 : Hd (wrap64 ((i : Int) + 1) = ((i + 1 : Nat) : Int)) := ⟨w64 (by omega) (by omega)⟩
    have hlt : i < xs.length := by omega
    have hv : xs[i] = toneM i := Option.some.inj ((List.getElem?_eq_getElem hlt).symm.trans (h i (by omega)))
    rw [e1.out, e2.out, e3.out, rdT_lt hlt, hv]
    refine EvP.yes (by omega) (EvP.yes (by omega) (EvP.yes rfl (EvP.no (by simp [toneM]) ?_)))
    exact ih (i + 1) (by omega)
theorem held_tones (xs : List Tn') (m : Nat) (hm : m ≤ 1048576) (hl : xs.length = m) (h : MarkedT m xs) : EvP (fun k => laws_heldToneS.f k xs 1) (· = 1 + 2 * (m : Int)) := by
  simp only [laws_heldToneS.f]
  exact held_loop xs m hm hl h m 0 (by omega)
end Go.Proofs.YtdgmkfbmeaalpaaDoor.Pur
end
section
namespace Go.Proofs.YtdgmkfbmeaalpaaDoor.Pur
open Go.RowKit Go.Proofs.YtdgmkfbmeaalpaaDoorW.PrintWords Go.Proofs.YtdgmkfbmeaalpaaDoor.E
theorem EvP.bindv {α β : Type} {g : Nat → Option α} {v : α} {f : Nat → α → Option β} {Q : β → Prop} (h : EvP g (· = v)) (k : EvP (fun n => f n v) Q) : EvP (fun n => (g n).bind (f n)) Q :=
  EvP.bind h (fun _ e => by subst e; exact k)
theorem singR_short {ps pm pe : TL} {x : Int} {b : Bool} {s : ByteArray} : (singR ps x b pm pe (fitP ps x b pm pe s)).1.length ≤ 20 := by
  rcases hf : fitP ps x b pm pe s with _ | ⟨u, v⟩
  · exact Nat.zero_le _
  · obtain ⟨h, hv, h1, h2⟩ := fit_some hf
    have hl := (verse_some hv).1
    simp only [singR]
    rw [sing_len h1 h2]
    exact hl
theorem mark_psalm (ps : TL) (x : Int) (b : Bool) (pm pe : TL) (h1 : ps.length ≤ 1048576) (h2 : pm.length ≤ 1048576) (h3 : pe.length ≤ 1048576) : EvP (fun k => laws_markPsalm.f k ps x b pm pe 1) (fun r => 0 ≤ r.1) := by
  simp only [laws_markPsalm.f]
  refine EvP.bind (mark_val ps 1 h1 (by decide) (by decide)) (fun r1 e1 => ?_)
  refine EvP.bind (mark_val pm r1.1 h2 (by omega) (by omega)) (fun r2 e2 => ?_)
  refine EvP.bind (mark_val pe r2.1 h3 (by omega) (by omega)) (fun r3 e3 => EvP.ret ?_)
  simp only []
  omega
theorem exact_sing (ls : LT) (a : Int) (b : Bool) (lm le : LT) (s : ByteArray) (h1 : (ls.length : Int) ≤ 9223372036854775807) (h2 : (lm.length : Int) ≤ 9223372036854775807) (h3 : (le.length : Int) ≤ 9223372036854775807) (_ : s.size ≤ 140737488351232) : ∃ k, laws_FnExactPsalmSing.f k ls a b lm le s = some true := by
  refine EvP.rounds ?_
  simp only [laws_FnExactPsalmSing.f]
  refine EvP.ite (fun _ => EvP.ret rfl) (fun hs => ?_)
  rcases sz_psalm ls a b lm le 1048576 h1 h2 h3 (by decide) (by decide) with h | ⟨hl, h⟩
  · exact EvP.now h (EvP.yes (by decide) (EvP.ret rfl))
  · refine EvP.now h (EvP.no (by omega) ?_)
    have ht := to_psalm ls a b lm le (by omega) (by omega) (by omega)
    have i1 : (ls.map cv).length ≤ 1048576 := by rw [List.length_map]; omega
    have i2 : (lm.map cv).length ≤ 1048576 := by rw [List.length_map]; omega
    have i3 : (le.map cv).length ≤ 1048576 := by rw [List.length_map]; omega
    have hg := impl_sing (ls.map cv) a b (lm.map cv) (le.map cv) s (by omega)
    have hw := spec_sing (ls.map cv) a b (lm.map cv) (le.map cv) s (by omega) (by omega) (by omega) (by omega)
    have hn : (singR (ls.map cv) a b (lm.map cv) (le.map cv) (fitP (ls.map cv) a b (lm.map cv) (le.map cv) s)).1.length ≤ 20 := singR_short
    revert hg hw hn
    generalize singR (ls.map cv) a b (lm.map cv) (le.map cv) (fitP (ls.map cv) a b (lm.map cv) (le.map cv) s) = R
    intro hg hw hn
    have hq := eq_ok R.1 (by omega)
    refine EvP.bindv ht ?_
    refine EvP.bindv hw ?_
    refine EvP.bindv ht ?_
    refine EvP.bindv hg ?_
    refine EvP.bindv hq ?_
    refine EvP.yes rfl (EvP.succ ?_)
    simp only [laws_FnExactPsalmSing.j0]
    refine EvP.no (by simp) ?_
    refine EvP.bindv ht ?_
    refine EvP.bindv (eq_psalm (ls.map cv) a b (lm.map cv) (le.map cv) i1 i2 i3) ?_
    refine EvP.yes rfl ?_
    refine EvP.bind (mark_psalm (ls.map cv) a b (lm.map cv) (le.map cv) i1 i2 i3) (fun m hm => ?_)
    refine EvP.no (by omega) ?_
    refine EvP.bindv hq ?_
    refine EvP.yes rfl (EvP.succ ?_)
    simp only [laws_FnExactPsalmSing.j1]
    refine EvP.no (by simp) ?_
    refine EvP.bind (marked_tones R.1 (by omega)) (fun y hy => ?_)
    obtain ⟨y1, y2, y3⟩ := hy
    have hh := held_tones y.2 R.1.length (by omega) y2 y3
    refine EvP.bindv hh ?_
    refine EvP.no (by omega) (EvP.yes y1.symm ?_)
    refine EvP.bindv ht ?_
    refine EvP.bindv hg ?_
    refine EvP.bindv hq ?_
    refine EvP.yes rfl (EvP.succ ?_)
    simp only [laws_FnExactPsalmSing.j2]
    refine EvP.no (by simp) ?_
    refine EvP.bindv hh ?_
    exact EvP.no (by omega) (EvP.yes y1.symm (EvP.ret rfl))
end Go.Proofs.YtdgmkfbmeaalpaaDoor.Pur
end
section
namespace Go.Proofs.YtdgmkfbmeaalpaaDoor.Head
set_option maxRecDepth 100000
theorem and_t {a b : Bool} (h : a = true) (k : b = true) : (a && b) = true := by rw [h, k]; rfl
theorem mayEnter_of {P : Program} {l : List String} {W rest : List (List Char)} (h : behindMainWord (wordsSigns P.initOrder.toList) = W) (hc : ∃ c r, W = c :: r ∧ (c == "gc".toList || c == "spec".toList) = false ∧ (c == "carried".toList) = false) (hs : stripLifts liftWords W = (l, "cut".toList :: rest))
    (hl : (l.contains "finals" || !P.laysLater) = true) (hb : (l.contains "reflectrows" || !P.bearsReflect) = true) (hr : (l.contains "reflectrows" || !l.contains "leanrows") = true) (hd : P.doorFits l = true) : P.mayEnter = true := by
  obtain ⟨c, r, rfl, h1, h2⟩ := hc
  unfold Program.mayEnter
  rw [h]
  dsimp only
  rw [hs, hl, hb, hr, hd, h1, h2]
  simp
theorem headLifts_of {P : Program} {l : List String} {W rest : List (List Char)} (h : behindMainWord (wordsSigns P.initOrder.toList) = W) (hs : stripLifts liftWords W = (l, "cut".toList :: rest)) : P.headLifts = l := by
  unfold Program.headLifts
  rw [h]
  dsimp only
  rw [hs]
  simp
theorem liftsFinal_of {P : Program} {l : List String} {W rest : List (List Char)} (h : behindMainWord (wordsSigns P.initOrder.toList) = W) (hc : ∃ c r, W = c :: r ∧ (c == "gc".toList || c == "spec".toList) = false ∧ (c == "carried".toList) = false) (hs : stripLifts liftWords W = (l, "cut".toList :: rest)) : P.liftsFinal = l.contains "finals" := by
  unfold Program.liftsFinal
  rw [headLifts_of h hs, h]
  obtain ⟨c, r, rfl, h1, h2⟩ := hc
  have h3 : ((c :: r).head? == some "carried".toList) = false := by
    rw [beq_eq_false_iff_ne] at h2 ⊢
    exact fun e => h2 (Option.some.inj e)
  dsimp only
  rw [h3, Bool.false_and, Bool.false_or]
theorem make_of {P : Program} {rest : List (List Char)} (h : behindMainWord (wordsSigns P.initOrder.toList) = "cut".toList :: rest) : P.make = some .cut := by
  unfold Program.make
  rw [h]
  dsimp only
  rw [if_neg (by decide), if_pos (by simp)]
theorem mainIs_of {P : Program} {s : List Char} {rest : List (List Char)} (h : wordsSigns P.initOrder.toList = "harness".toList :: s :: rest) (hs : isSumSigns s = true) : P.mainIs = some (true, s) := by
  unfold Program.mainIs
  rw [h]
  dsimp only
  rw [hs]
  simp
def io : List Nat := [104, 97, 114, 110, 101, 115, 115, 32, 57, 53, 99, 56, 51, 49, 56, 101, 49, 51, 57, 50, 101, 98, 50, 97, 53, 100, 98, 55, 98, 56, 98, 55, 97, 57, 57, 100, 50, 56, 50, 99, 53, 54, 50, 53, 56, 101, 55, 102, 101, 54, 49, 101, 48, 100, 97, 56, 101, 52, 50, 57, 101, 54, 100, 53, 100, 51, 48, 52, 101, 52, 101, 101, 32, 99, 117, 116, 32, 97, 116, 32, 108, 111, 111, 112, 46, 101, 120, 97, 109, 112, 108, 101, 47, 110, 101, 117, 109, 101, 115, 47, 108, 97, 119, 115, 46, 70, 110, 80, 115, 97, 108, 109, 70, 105, 116, 115, 32, 108, 111, 111, 112, 46, 101, 120, 97, 109, 112, 108, 101, 47, 110, 101, 117, 109, 101, 115, 47, 108, 97, 119, 115, 46, 70, 110, 69, 120, 97, 99, 116, 80, 115, 97, 108, 109, 84, 101, 110, 111, 114, 115, 32, 108, 111, 111, 112, 46, 101, 120, 97, 109, 112, 108, 101, 47, 110, 101, 117, 109, 101, 115, 47, 108, 97, 119, 115, 46, 70, 110, 80, 115, 97, 108, 109, 65, 99, 99, 101, 110, 116, 115, 32, 108, 111, 111, 112, 46, 101, 120, 97, 109, 112, 108, 101, 47, 110, 101, 117, 109, 101, 115, 47, 108, 97, 119, 115, 46, 70, 110, 69, 120, 97, 99, 116, 80, 115, 97, 108, 109, 65, 99, 99, 101, 110, 116, 115, 32, 108, 111, 111, 112, 46, 101, 120, 97, 109, 112, 108, 101, 47, 110, 101, 117, 109, 101, 115, 47, 108, 97, 119, 115, 46, 70, 110, 80, 115, 97, 108, 109, 77, 111, 114, 101, 32, 108, 111, 111, 112, 46, 101, 120, 97, 109, 112, 108, 101, 47, 110, 101, 117, 109, 101, 115, 47, 108, 97, 119, 115, 46, 70, 110, 80, 115, 97, 108, 109, 32, 108, 111, 111, 112, 46, 101, 120, 97, 109, 112, 108, 101, 47, 110, 101, 117, 109, 101, 115, 47, 108, 97, 119, 115, 46, 70, 110, 69, 120, 97, 99, 116, 80, 115, 97, 108, 109, 83, 105, 110, 103, 32, 108, 111, 111, 112, 46, 101, 120, 97, 109, 112, 108, 101, 47, 110, 101, 117, 109, 101, 115, 47, 108, 97, 119, 115, 46, 70, 110, 80, 115, 97, 108, 109, 66, 101, 115, 116, 32, 108, 111, 111, 112, 46, 101, 120, 97, 109, 112, 108, 101, 47, 110, 101, 117, 109, 101, 115, 47, 108, 97, 119, 115, 46, 70, 110, 80, 115, 97, 108, 109, 82, 101, 97, 100, 32, 108, 111, 111, 112, 46, 101, 120, 97, 109, 112, 108, 101, 47, 110, 101, 117, 109, 101, 115, 47, 108, 97, 119, 115, 46, 70, 110, 69, 120, 97, 99, 116, 80, 115, 97, 108, 109, 82, 101, 97, 100, 32, 108, 111, 111, 112, 46, 101, 120, 97, 109, 112, 108, 101, 47, 110, 101, 117, 109, 101, 115, 47, 108, 97, 119, 115, 46, 70, 110, 69, 120, 97, 99, 116, 80, 115, 97, 108, 109, 66, 101, 115, 116, 32, 108, 111, 111, 112, 46, 101, 120, 97, 109, 112, 108, 101, 47, 110, 101, 117, 109, 101, 115, 47, 108, 97, 119, 115, 46, 70, 110, 80, 115, 97, 108, 109, 77, 111, 118, 101]
def ws : List (List Nat) := [[104, 97, 114, 110, 101, 115, 115], [57, 53, 99, 56, 51, 49, 56, 101, 49, 51, 57, 50, 101, 98, 50, 97, 53, 100, 98, 55, 98, 56, 98, 55, 97, 57, 57, 100, 50, 56, 50, 99, 53, 54, 50, 53, 56, 101, 55, 102, 101, 54, 49, 101, 48, 100, 97, 56, 101, 52, 50, 57, 101, 54, 100, 53, 100, 51, 48, 52, 101, 52, 101, 101], [99, 117, 116], [97, 116], [108, 111, 111, 112, 46, 101, 120, 97, 109, 112, 108, 101, 47, 110, 101, 117, 109, 101, 115, 47, 108, 97, 119, 115, 46, 70, 110, 80, 115, 97, 108, 109, 70, 105, 116, 115], [108, 111, 111, 112, 46, 101, 120, 97, 109, 112, 108, 101, 47, 110, 101, 117, 109, 101, 115, 47, 108, 97, 119, 115, 46, 70, 110, 69, 120, 97, 99, 116, 80, 115, 97, 108, 109, 84, 101, 110, 111, 114, 115], [108, 111, 111, 112, 46, 101, 120, 97, 109, 112, 108, 101, 47, 110, 101, 117, 109, 101, 115, 47, 108, 97, 119, 115, 46, 70, 110, 80, 115, 97, 108, 109, 65, 99, 99, 101, 110, 116, 115], [108, 111, 111, 112, 46, 101, 120, 97, 109, 112, 108, 101, 47, 110, 101, 117, 109, 101, 115, 47, 108, 97, 119, 115, 46, 70, 110, 69, 120, 97, 99, 116, 80, 115, 97, 108, 109, 65, 99, 99, 101, 110, 116, 115], [108, 111, 111, 112, 46, 101, 120, 97, 109, 112, 108, 101, 47, 110, 101, 117, 109, 101, 115, 47, 108, 97, 119, 115, 46, 70, 110, 80, 115, 97, 108, 109, 77, 111, 114, 101], [108, 111, 111, 112, 46, 101, 120, 97, 109, 112, 108, 101, 47, 110, 101, 117, 109, 101, 115, 47, 108, 97, 119, 115, 46, 70, 110, 80, 115, 97, 108, 109], [108, 111, 111, 112, 46, 101, 120, 97, 109, 112, 108, 101, 47, 110, 101, 117, 109, 101, 115, 47, 108, 97, 119, 115, 46, 70, 110, 69, 120, 97, 99, 116, 80, 115, 97, 108, 109, 83, 105, 110, 103], [108, 111, 111, 112, 46, 101, 120, 97, 109, 112, 108, 101, 47, 110, 101, 117, 109, 101, 115, 47, 108, 97, 119, 115, 46, 70, 110, 80, 115, 97, 108, 109, 66, 101, 115, 116], [108, 111, 111, 112, 46, 101, 120, 97, 109, 112, 108, 101, 47, 110, 101, 117, 109, 101, 115, 47, 108, 97, 119, 115, 46, 70, 110, 80, 115, 97, 108, 109, 82, 101, 97, 100], [108, 111, 111, 112, 46, 101, 120, 97, 109, 112, 108, 101, 47, 110, 101, 117, 109, 101, 115, 47, 108, 97, 119, 115, 46, 70, 110, 69, 120, 97, 99, 116, 80, 115, 97, 108, 109, 82, 101, 97, 100], [108, 111, 111, 112, 46, 101, 120, 97, 109, 112, 108, 101, 47, 110, 101, 117, 109, 101, 115, 47, 108, 97, 119, 115, 46, 70, 110, 69, 120, 97, 99, 116, 80, 115, 97, 108, 109, 66, 101, 115, 116], [108, 111, 111, 112, 46, 101, 120, 97, 109, 112, 108, 101, 47, 110, 101, 117, 109, 101, 115, 47, 108, 97, 119, 115, 46, 70, 110, 80, 115, 97, 108, 109, 77, 111, 118, 101]]
def ch (w : List Nat) : List Char := w.map Char.ofNat
theorem io_is : Tryd.prog.initOrder = String.ofList (ch io) := by kernel_rfl
theorem io_ws : wordsSigns (ch io) = ws.map ch := by kernel_rfl
theorem io_all : wordsSigns Tryd.prog.initOrder.toList = ws.map ch := by rw [io_is, String.toList_ofList, io_ws]
theorem be : behindMainWord (ws.map ch) = (ws.drop 2).map ch := by kernel_rfl
theorem io_be : behindMainWord (wordsSigns Tryd.prog.initOrder.toList) = (ws.drop 2).map ch := by rw [io_all, be]
theorem first : ∃ c r, (ws.drop 2).map ch = c :: r ∧ (c == "gc".toList || c == "spec".toList) = false ∧ (c == "carried".toList) = false := ⟨ch (ws.getD 2 []), (ws.drop 3).map ch, by kernel_rfl, by kernel_rfl, by kernel_rfl⟩
theorem st : stripLifts liftWords ((ws.drop 2).map ch) = ([], "cut".toList :: ((ws.drop 3).map ch)) := by kernel_rfl
theorem ll : ([].contains "finals" || !Tryd.prog.laysLater) = true := by kernel_rfl
theorem br : ([].contains "reflectrows" || !Tryd.prog.bearsReflect) = true := by kernel_rfl
theorem rr : ([].contains "reflectrows" || ![].contains "leanrows") = true := by kernel_rfl
theorem df : Tryd.prog.doorFits [] = true := by kernel_rfl
theorem mayE : Tryd.prog.mayEnter = true := mayEnter_of io_be first st ll br rr df
theorem finE : Tryd.prog.liftsFinal = [].contains "finals" := liftsFinal_of io_be first st
theorem mainE : Tryd.prog.mainIs = some (true, ch [57, 53, 99, 56, 51, 49, 56, 101, 49, 51, 57, 50, 101, 98, 50, 97, 53, 100, 98, 55, 98, 56, 98, 55, 97, 57, 57, 100, 50, 56, 50, 99, 53, 54, 50, 53, 56, 101, 55, 102, 101, 54, 49, 101, 48, 100, 97, 56, 101, 52, 50, 57, 101, 54, 100, 53, 100, 51, 48, 52, 101, 52, 101, 101]) := mainIs_of (rest := (ws.drop 2).map ch) (io_all.trans (by kernel_rfl)) (by kernel_rfl)
theorem makeE : Tryd.prog.make = some .cut := make_of (io_be.trans (by kernel_rfl : (ws.drop 2).map ch = "cut".toList :: ((ws.drop 3).map ch)))
end Go.Proofs.YtdgmkfbmeaalpaaDoor.Head
end
section
namespace Go.Proofs.YtdgmkfbmeaalpaaDoor.Pur
open Go.RowKit Go.ChangeShapes Go.Deep Go.Proofs.YtdgmkfbmeaalpaaDoorW.PrintWords Go.Proofs.YtdgmkfbmeaalpaaDoor.E
section
variable {P : Program}
theorem open_ib {H : Type} {enc : TypeId × Value → H} {W : World} {t : TypeId} {f0 f1 : Field} {fuel : Nat} {cs : List Value} {x : DataW H × List MemPlace} (ht : P.underlying t = some (.struct #[f0, f1])) (hi : P.underlying f0.type = some (.int .i64)) (hb : P.underlying f1.type = some .bool)
    (c0 : P.cellsOf f0.type = 1) (c1 : P.cellsOf f1.type = 1) (ct : P.cellsOf t = 2) (o0 : f0.offset = 0) (o1 : f1.offset = 1) (h : DataW.trod enc P W 0 (fun _ => true) true fuel t cs = some x) : ∃ (a : Int) (b : Bool), cs = [.int .i64 a, .bool b] := by
  obtain ⟨y0, y1, n, _, hl, h0, h1⟩ := trod_struct2 ht h
  rw [ct] at hl
  rw [c0, o0] at h0
  rw [c1, o1] at h1
  obtain ⟨a, e0, _, _⟩ := DataW.trod_int hi h0
  obtain ⟨b, e1, _⟩ := DataW.trod_bool hb h1
  match cs, hl with
  | [u, v], _ =>
    simp at e0 e1
    exact ⟨a, b, by rw [e0, e1]⟩
theorem open_row {H : Type} {enc : TypeId × Value → H} {W : World} {α : Type} [Inhabited α] {d : Kd α} {t e : TypeId} {fuel : Nat} {cs : List Value} {x : DataW H × List MemPlace} (ht : P.underlying t = some (.slice e)) (hc : P.cellsOf e = d.sz)
    (o : ∀ (fuel : Nat) (cs : List Value) (x : DataW H × List MemPlace), DataW.trod enc P W 0 (fun _ => true) true fuel e cs = some x → ∃ y, d.K W y cs)
    (h : DataW.trod enc P W 0 (fun _ => true) true fuel t cs = some x) : ∃ (A : Option Addr) (c : Nat) (l : List α), cs = [.slice A l.length c] ∧ l.length ≤ c ∧ (l.length : Int) ≤ 9223372036854775807 ∧ d.C W A l.length l := by
  rcases open_slice ht h with ⟨rfl, _⟩ | ⟨a, len, cap, m, n, D, Pl, rfl, _, hl, hm, hmm, _, hx⟩
  · exact ⟨none, 0, [], rfl, Nat.le_refl _, by simp, rfl, by simp, fun h => absurd h (by simp)⟩
  · have hlm : len ≤ m := by rw [hmm]; simp; omega
    unfold maxLen at hm
    obtain ⟨Y, hY⟩ := choose_lt (α := α) (n := len) (p := fun i y => ∃ cs', W.cells? 0 (a.add (i * P.cellsOf e)) (P.cellsOf e) = some cs' ∧ d.K W y cs') (fun i hi => by
      obtain ⟨cs', h1, h2⟩ := hx i (by omega)
      obtain ⟨y, hy⟩ := o _ _ _ h2
      exact ⟨y, cs', h1, hy⟩)
    have hlen : ((List.range len).map Y).length = len := by simp
    refine ⟨some a, cap, (List.range len).map Y, by rw [hlen], by rw [hlen]; exact hl, by rw [hlen]; omega, rfl, by rw [hlen]; omega, fun _ => ⟨a, rfl, fun j p hj => ?_⟩⟩
    obtain ⟨hj1, hj2⟩ := List.getElem?_eq_some_iff.1 hj
    rw [hlen] at hj1
    simp only [List.getElem_map, List.getElem_range] at hj2
    subst hj2
    obtain ⟨cs', h1, h2⟩ := hY j hj1
    obtain ⟨_, g1, g2⟩ := World.cells?_some h1
    refine ⟨cs', by rw [g1, hc], h2, fun i u hu => ?_⟩
    have := g2 i (by rw [← g1]; exact (List.getElem?_eq_some_iff.1 hu).1)
    rw [Go.Deep.add_add, hc, hu] at this
    exact this
end
instance : Inhabited S39 := ⟨z39⟩
theorem open_tones {H : Type} {enc : TypeId × Value → H} {W : World} {fuel : Nat} {cs : List Value} {x : DataW H × List MemPlace} (h : DataW.trod enc Tryd.prog W 0 (fun _ => true) true fuel 38 cs = some x) :
    ∃ (A : Option Addr) (c : Nat) (l : List S39), cs = [.slice A l.length c] ∧ l.length ≤ c ∧ (l.length : Int) ≤ 9223372036854775807 ∧ Kd.C k39 W A l.length l :=
  open_row Tryd.underlying38 (by kernel_rfl) (fun fuel cs x h => by
    obtain ⟨a, b, rfl⟩ := open_ib Tryd.underlying39 (by kernel_rfl) (by kernel_rfl) (by kernel_rfl) (by kernel_rfl) (by kernel_rfl) rfl rfl h
    exact ⟨⟨a, b⟩, k39_mk W ⟨a, b⟩⟩) h
end Go.Proofs.YtdgmkfbmeaalpaaDoor.Pur
end
section
namespace Go.Proofs.YtdgmkfbmeaalpaaDoor.Pur
open Go.RowKit Go.ChangeShapes Go.WideShapes Go.Deep Go.Proofs.YtdgmkfbmeaalpaaDoorW.PrintWords Go.Proofs.YtdgmkfbmeaalpaaDoor.E
set_option maxRecDepth 100000 in
theorem open_psalm_cells {H : Type} {enc : TypeId × Value → H} {W : World} {fuel : Nat} {cs : List Value} {x : DataW H × List MemPlace} (h : DataW.trod enc Tryd.prog W 0 (fun _ => true) true fuel 41 cs = some x) :
    ∃ (As : Option Addr) (c0 : Nat) (ls : List S39) (a : Int) (b : Bool) (Am : Option Addr) (cm : Nat) (lm : List S39) (Ae : Option Addr) (ce : Nat) (le : List S39),
      cs = [.slice As ls.length c0, .int .i64 a, .bool b, .slice Am lm.length cm, .slice Ae le.length ce] ∧ ls.length ≤ c0 ∧ (ls.length : Int) ≤ 9223372036854775807 ∧ Kd.C k39 W As ls.length ls ∧ lm.length ≤ cm ∧ (lm.length : Int) ≤ 9223372036854775807 ∧ Kd.C k39 W Am lm.length lm ∧ le.length ≤ ce ∧ (le.length : Int) ≤ 9223372036854775807 ∧ Kd.C k39 W Ae le.length le := by
  obtain ⟨xs, n, _, rfl, hl, hlen, hf⟩ := DataW.trod_struct Tryd.underlying41 h
  have ct : Tryd.prog.cellsOf 41 = 5 := by kernel_rfl
  have c1 : Tryd.prog.cellsOf 38 = 1 := by kernel_rfl
  have c2 : Tryd.prog.cellsOf 39 = 2 := by kernel_rfl
  rw [ct] at hl
  match xs, hlen with
  | [y0, y1, y2, y3], _ =>
    have h0 : DataW.trod enc Tryd.prog W 0 (fun _ => true) true n 38 ((cs.drop 0).take (Tryd.prog.cellsOf 38)) = some y0 := hf 0 _ rfl
    have h1 : DataW.trod enc Tryd.prog W 0 (fun _ => true) true n 39 ((cs.drop 1).take (Tryd.prog.cellsOf 39)) = some y1 := hf 1 _ rfl
    have h2 : DataW.trod enc Tryd.prog W 0 (fun _ => true) true n 38 ((cs.drop 3).take (Tryd.prog.cellsOf 38)) = some y2 := hf 2 _ rfl
    have h3 : DataW.trod enc Tryd.prog W 0 (fun _ => true) true n 38 ((cs.drop 4).take (Tryd.prog.cellsOf 38)) = some y3 := hf 3 _ rfl
    rw [c1] at h0 h2 h3
    rw [c2] at h1
    match cs, hl with
    | [v0, v1, v2, v3, v4], _ =>
      obtain ⟨As, c0, ls, e0, a1, a2, a3⟩ := open_tones h0
      obtain ⟨a, b, e1⟩ := open_ib Tryd.underlying39 (by kernel_rfl) (by kernel_rfl) (by kernel_rfl) (by kernel_rfl) (by kernel_rfl) rfl rfl h1
      obtain ⟨Am, cm, lm, e2, b1, b2, b3⟩ := open_tones h2
      obtain ⟨Ae, ce, le, e3, d1, d2, d3⟩ := open_tones h3
      simp at e0 e1 e2 e3
      obtain ⟨e1, e1'⟩ := e1
      exact ⟨As, c0, ls, a, b, Am, cm, lm, Ae, ce, le, by rw [e0, e1, e1', e2, e3], a1, a2, a3, b1, b2, b3, d1, d2, d3⟩
set_option maxRecDepth 100000 in
theorem open_psalm {H : Type} {enc : TypeId × Value → H} {W : World} {base : Nat} {v : Value} {x : DataW H × List MemPlace} (hv : Value.okWide Tryd.prog W .any base 41 v) (h : ∃ fuel, DataW.trod enc Tryd.prog W 0 (fun _ => true) true fuel 41 v.cells.toList = some x) :
    ∃ (As : Option Addr) (c0 : Nat) (ls : List S39) (a : Int) (b : Bool) (Am : Option Addr) (cm : Nat) (lm : List S39) (Ae : Option Addr) (ce : Nat) (le : List S39),
      v = .agg #[.slice As ls.length c0, .int .i64 a, .bool b, .slice Am lm.length cm, .slice Ae le.length ce] ∧ ls.length ≤ c0 ∧ (ls.length : Int) ≤ 9223372036854775807 ∧ Kd.C k39 W As ls.length ls ∧ lm.length ≤ cm ∧ (lm.length : Int) ≤ 9223372036854775807 ∧ Kd.C k39 W Am lm.length lm ∧ le.length ≤ ce ∧ (le.length : Int) ≤ 9223372036854775807 ∧ Kd.C k39 W Ae le.length le := by
  obtain ⟨cs, rfl, _⟩ := okWide_struct Tryd.underlying41 hv
  obtain ⟨fuel, h⟩ := h
  obtain ⟨As, c0, ls, a, b, Am, cm, lm, Ae, ce, le, e, r⟩ := open_psalm_cells h
  refine ⟨As, c0, ls, a, b, Am, cm, lm, Ae, ce, le, ?_, r⟩
  congr 1
  exact Array.toList_inj.mp e
instance : Inhabited S41 := ⟨z41⟩
end Go.Proofs.YtdgmkfbmeaalpaaDoor.Pur
end
section
namespace Go.Proofs.YtdgmkfbmeaalpaaDoor.Pur
open Go
variable {H : Type} {enc : TypeId × Value → H}
theorem handed_shaped_and {a : Assume} {C : Checked} {os : Os} {f : FuncId} {fn : Func} {s : ChangeSpec} {conds : List PathCond} {apart fresh handsOn again : Bool} {X : World → Array Value → Prop}
    (hX : ∀ (w w' : World) (args : Array Value), w.heap = w'.heap → X w args → X w' args)
    (own : ownKnob C.prog.godebug = none) (started : os.Started) (noInit : C.prog.inits.idxOf? f = none) (hfn : C.prog.funcs[f]? = some fn)
    (witness : ∃ (w : World) (tape : Tape) (i : Input), w.os = os ∧ (w.forCall tape i).Shaped C.prog ∧ i.vars = [] ∧ Input.okWide C.prog (w.forCall tape i) .any w.heap.size f i ∧
      ((s.pre enc C.prog fn conds apart (w.forCall tape i).memory i.args ∧ X (w.forCall tape i).memory i.args) ∧ sizedMet enc C.prog fn (OpenSpec.ofChange s) apart (w.forCall tape i).memory i.args) ∧ a.holds C.prog (lone (Frame.enter C.prog f i.args .normal) [] (w.forCall tape i)))
    (contract : ∀ (W : World) (base : Nat) (args : Array Value) (ds gs : List (DataW H)) (before : List MemPlace),
      (∀ (j : Nat) t v, fn.params[j]? = some t → args[j]? = some v → Value.okWide C.prog W .any base t v) →
      DataW.Whole enc C.prog fn.params.toList s.vars apart W args.toList ds gs before →
      conds.all (PathCond.test C.prog ⟨fn.params.toList, ds, s.plain.varTypes C.prog, gs⟩) = true →
      (DataW.weightsEach C.prog (fn.params.toList ++ s.plain.varTypes C.prog) (ds ++ gs)).all (· ≤ reachBytes) = true → X W args → W.ShapedOpen C.prog →
      a.holds C.prog (lone (Frame.enter C.prog f args .normal) [] W) →
      Calls C.prog f args W fun e W' => ∃ v, e = .returned v ∧ s.post enc C.prog fn apart fresh handsOn again W args v W') :
    ReturnsInHanded a C os f .any (fun w args => (s.pre enc C.prog fn conds apart w args ∧ X w args) ∧ sizedMet enc C.prog fn (OpenSpec.ofChange s) apart w args) (s.post enc C.prog fn apart fresh handsOn again) := by
  refine returnsInHanded_of_calls own started noInit witness ?_
  intro w tape i _ hsh _ hok hpre hholds
  obtain ⟨_, _, _, fn', hfn', _, _, _, _, hval⟩ := hok
  have e : fn' = fn := Option.some.inj (hfn'.symm.trans hfn)
  subst e
  obtain ⟨⟨⟨ds, gs, before, hw, hc⟩, hx⟩, hz⟩ := hpre
  have hw' := DataW.Whole.of_heap (w' := w.forCall tape i) (by rfl) hw
  refine (contract (w.forCall tape i) w.heap.size i.args ds gs before hval hw' hc (hz.weights hw) (hX _ _ _ (by rfl) hx) hsh hholds).mono fun e W' ⟨v, he, hp⟩ => ?_
  subst he
  exact ChangeSpec.post_blind hp
end Go.Proofs.YtdgmkfbmeaalpaaDoor.Pur
end
section
namespace Go.Proofs.YtdgmkfbmeaalpaaDoor.Pur
open Go.Proofs.YtdgmkfbmeaalpaaDoor.E
theorem gok0 {W : World} (h : W.ShapedOpen Tryd.prog) : GOk [0] W := by
  intro n hn
  obtain rfl := List.mem_singleton.mp hn
  exact Tryd.laysCut.s1_3 W h
end Go.Proofs.YtdgmkfbmeaalpaaDoor.Pur
end
section
namespace Go.Proofs.YtdgmkfbmeaalpaaDoor.fnExactPsalmSing
open Go.ChangeShapes Go.WideShapes Go.ChangeAt Go.RowKit
open Go.ChangeMaps (open_string shut_string)
set_option linter.unusedVariables false
theorem own : ownKnob Tryd.prog.godebug = none := by kernel_rfl
theorem laidOut : laidOutB Tryd.prog = true := by kernel_rfl
set_option maxRecDepth 100000 in
theorem lifted (os : Os) (started : os.Started) (H : Type) (enc : TypeId × Value → H) :
    ReturnsInHanded {} Tryd.checked os 9 .any (fun w args => (Rows.fnExactPsalmSingSpec.pre enc Tryd.prog Tryd.f9 Rows.fnExactPsalmSingRow.domain false w args ∧ laidMetH Tryd.prog Rows.fnExactPsalmSingRow.laid w) ∧ sizedMet enc Tryd.prog Tryd.f9 (OpenSpec.ofChange Rows.fnExactPsalmSingSpec) false w args) (Rows.fnExactPsalmSingSpec.post enc Tryd.prog Tryd.f9 false true false false) := by
  refine Pur.handed_shaped_and (C := Tryd.checked) (X := fun w _ => laidMetH Tryd.prog Rows.fnExactPsalmSingRow.laid w) (fun _ _ _ hh h => h.of_heap hh) own started (by kernel_rfl) Tryd.func9
    (ChangeSpec.witness_shaped (enc := enc) (C := Tryd.checked) (os := os) (X := fun w _ => laidMetH Tryd.prog Rows.fnExactPsalmSingRow.laid w) false (World.laidAll Tryd.prog os Rows.fnExactPsalmSingRow.laid) #[.agg #[.slice none 0 0, .int .i64 0, .bool false, .slice none 0 0, .slice none 0 0], .string ByteArray.empty] 8 (World.laidAll_os _ _ _) (World.shaped_of_ZipB (by kernel_rfl) (by kernel_rfl)) (by kernel_rfl) (by kernel_rfl) (by kernel_rfl) (by rw [MakeChecks.laidMetH_plain _ _ _ (by kernel_rfl)]; exact laidMet_laidAll _ (by kernel_rfl) (by kernel_rfl))) ?_
  intro W base args ds gs before hval0 hW hcnd hsz0 hL hSh _
  have hsz : (DataW.weightsEach Tryd.prog (Tryd.f9.params.toList ++ Rows.fnExactPsalmSingSpec.plain.varTypes Tryd.prog) (ds ++ gs)).all (· ≤ reachBytes) = true := hsz0
  have hval : ∀ (j : Nat) t v, Tryd.f9.params[j]? = some t → args[j]? = some v → Value.okWide Tryd.prog W .any base t v := hval0
  have hW' := hW
  obtain ⟨p, q, hA0, hV, rfl, hfz, hnd⟩ := hW
  have hA : DataW.TrodAll enc Tryd.prog W 0 (fun _ => true) true Tryd.f9.params.toList args.toList ds p := hA0
  rw [Tryd.params9] at hA hval hsz
  obtain ⟨v0, vs0, d0, ds0, p0, q0, hargs, rfl, rfl, h0, r0⟩ := trodAll_cons hA
  obtain ⟨v1, vs1, d1, ds1, p1, q1, rfl, rfl, rfl, h1, r1⟩ := trodAll_cons r0
  obtain ⟨rfl, rfl, rfl⟩ := trodAll_nil r1
  obtain rfl : args = #[v0, v1] := by cases args; simp_all
  obtain ⟨rfl, rfl⟩ := trodVars_none hV
  have k0 := h0
  have lt0 : ∀ x ∈ p0, x.block < W.heap.size := by obtain ⟨m, hm⟩ := k0; exact DataW.trod_lt m _ _ _ hm
  obtain ⟨As0, cs0, ls0, at0, bt0, Am0, cm0, lm0, Ae0, ce0, le0, rfl, hls0, hms0, hCs0, hlm0, hmm0, hCm0, hle0, hme0, hCe0⟩ := Pur.open_psalm (hval 0 41 v0 rfl rfl) h0
  have k1 := h1
  have lt1 : ∀ x ∈ p1, x.block < W.heap.size := by obtain ⟨m, hm⟩ := k1; exact DataW.trod_lt m _ _ _ hm
  obtain ⟨a1, rfl, rfl, rfl, y1⟩ := open_string Tryd.underlying9 (hval 1 9 v1 rfl rfl) h1
  have w1 : a1.size ≤ 140737488351232 := by
    have z := sized_string hsz (j := 1) (t := 9) rfl rfl
    rw [Array.length_toList] at z
    exact z
  clear hA0 hval0 hsz0 hsz
  obtain ⟨k, hk⟩ := Pur.exact_sing ls0 at0 bt0 lm0 le0 a1 hms0 hmm0 hme0 w1
  refine (E.laws_FnExactPsalmSing.calls k _ _ ls0 at0 bt0 _ _ lm0 _ _ le0 a1 true W hCs0 hls0 hCm0 hlm0 hCe0 hle0 (Pur.gok0 hSh) hk).mono fun e W' ⟨he, bel⟩ => ?_
  subst he
  exact ⟨_, rfl, _, _, _, [], _, [], hW', trodAll_mk1 (shut_bool Tryd.underlying4 _), (trodAll_cons_mk (Below.trod laidOut (by kernel_rfl) (of_decide_eq_true (by kernel_rfl)) k0 bel lt0) (trodAll_cons_mk (shut_string Tryd.underlying9 y1) trodAll_mk0)), rfl, bel.frame _, fun h => by cases h⟩
set_option maxRecDepth 100000 in
theorem closed : joinedFacts Tryd.prog 9 Tryd.f9 Rows.fnExactPsalmSingSpec Rows.fnExactPsalmSingRow = true := by
  have hf : (Rows.fnExactPsalmSingRow.lifted == Tryd.prog.liftsFinal) = true := by rw [Head.finE]; kernel_rfl
  have hm : (Tryd.prog.make == some Rows.fnExactPsalmSingRow.make) = true := by rw [Head.makeE]; kernel_rfl
  unfold joinedFacts
  repeat' (with_reducible refine Head.and_t ?_ ?_)
  all_goals first | with_reducible exact Head.mayE | with_reducible exact hf | with_reducible exact hm | (as_aux_lemma => kernel_rfl)
theorem over : Rows.fnExactPsalmSingRow.holds Tryd.pinned (OpenSpec.ofChange Rows.fnExactPsalmSingSpec) :=
  OpenClaim.holds_of_wide 9 Tryd.f9 rfl rfl rfl rfl rfl rfl rfl ⟨rfl, rfl, rfl, rfl, rfl⟩ rfl rfl rfl rfl rfl (by kernel_rfl) Tryd.func9 closed
    (of_decide_eq_true (by kernel_rfl)) (by unfold Func.isWrapper; first | (rw [if_pos (by decide +kernel)]; kernel_rfl) | (rw [if_neg (by decide +kernel)]; exact ⟨rfl, rfl⟩))
    (fun os started H enc _ => lifted os started H enc)
theorem card_ : Rows.FnExactPsalmSingCardSaid :=
  Claim7.holds_tied_plain_at .later [] [.data, .pinned] true (true, "95c8318e1392eb2a5db7b8b7a99d282c56258e7fe61e0da8e429e6d5d304e4ee") false
    over (fun _ h => by cases h) (by as_aux_lemma => kernel_rfl) (fun _ h => by cases h) fnExactPsalmSing_row_tie rfl ⟨rfl, rfl⟩ (Head.mainE.trans (by as_aux_lemma => kernel_rfl)) rfl
    (fun f fn hf hfn => by
      obtain rfl : f = 9 := Option.some.inj ((show Tryd.prog.funcNamed "loop.example/neumes/laws.FnExactPsalmSing" = some 9 by kernel_rfl).symm.trans hf) |>.symm
      obtain rfl : fn = Tryd.f9 := (Option.some.inj (Tryd.func9.symm.trans hfn)).symm
      exact ⟨by kernel_rfl, fun j t ht => by
        rw [Tryd.params9] at ht
        have hm : t ∈ [41, 9] := by simpa using Array.mem_of_getElem? ht
        have hall : ([41, 9].all fun u => !Tryd.prog.wantsStandIn u) = true := by kernel_rfl
        exact (show Tryd.prog.wantsStandIn t = false by simpa using List.all_eq_true.1 hall t hm)⟩)
    (by kernel_rfl)
theorem proved : Rows.FnExactPsalmSingCardSaid := card_
#print axioms proved
end Go.Proofs.YtdgmkfbmeaalpaaDoor.fnExactPsalmSing
namespace Go.Proofs.YtdgmkfbmeaalpaaDoor
theorem fnExactPsalmSing_holds : Rows.FnExactPsalmSingCardSaid := fnExactPsalmSing.proved
end Go.Proofs.YtdgmkfbmeaalpaaDoor
end
