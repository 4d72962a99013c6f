/- The tables of the program and of the reference hold the least sums of prices. -/
import Derived.Test.YthpeiboobnnfgaaTabs
import Derived.Test.YthpeiboobnnfgaaTone
import Derived.Test.YthpeiboobnnfgaaEx12
namespace Go.Proofs.Ythpeiboobnnfgaa.Pur
open Go.RowKit Go.Proofs.YthpeiboobnnfgaaW.PrintWords Go.Proofs.YthpeiboobnnfgaaW.PrintMore Go.Proofs.Ythpeiboobnnfgaa.E Go.Proofs.Ythpeiboobnnfgaa.Ed

abbrev Tn := S36
def costP : Pr Tn := { ins := 2, om := 2, both := fun a b => if a.f0 = b.f0 then (if a.f1 = b.f1 then 0 else 1) else 3 }
def commonP : Pr Tn := { ins := 0, om := 0, both := fun a b => if a.f0 = b.f0 ∧ a.f1 = b.f1 then -1 else 0 }
theorem tn_ext {a b : Tn} (h0 : a.f0 = b.f0) (h1 : a.f1 = b.f1) : a = b := by cases a; cases b; simp_all
theorem costC : Cost costP where
  ins := rfl
  om := rfl
  same := fun a => by simp [costP]
  differ := fun a b h => by
    unfold costP at h
    by_cases h0 : a.f0 = b.f0
    · by_cases h1 : a.f1 = b.f1
      · exact tn_ext h0 h1
      · simp [h0, h1] at h
    · simp [h0] at h
  le := fun a b => by unfold costP; dsimp only; split <;> (try split) <;> omega
  comm := fun a b => by
    unfold costP
    dsimp only
    by_cases h0 : a.f0 = b.f0
    · by_cases h1 : a.f1 = b.f1
      · simp [h0, h1]
      · have h1' : ¬ b.f1 = a.f1 := fun h => h1 h.symm
        simp [h0, h1, h1']
    · have h0' : ¬ b.f0 = a.f0 := fun h => h0 h.symm
      simp [h0, h0']
theorem commonC : Common commonP where
  ins := rfl
  om := rfl
  same := fun a => by simp [commonP]
  differ := fun a b h => by
    unfold commonP
    dsimp only
    rw [if_neg (fun h' => h (tn_ext h'.1 h'.2))]
  comm := fun a b => by
    unfold commonP
    dsimp only
    by_cases h : a.f0 = b.f0 ∧ a.f1 = b.f1
    · rw [if_pos h, if_pos ⟨h.1.symm, h.2.symm⟩]
    · rw [if_neg h, if_neg (fun h' => h ⟨h'.1.symm, h'.2.symm⟩)]

theorem least_le_all {α : Type} (p : Pr α) : ∀ xs ys : List α, least p xs ys ≤ p.om * xs.length + p.ins * ys.length
  | [], ys => by rw [least_nil]; simp
  | x :: xs, ys => by
    have h1 := least_le_om p x xs ys
    have h2 := least_le_all p xs ys
    rw [List.length_cons, show ((xs.length + 1 : Nat) : Int) = (xs.length : Int) + 1 from rfl, Int.mul_add]
    omega
theorem cost_bd (xs ys : List Tn) : 0 ≤ least costP xs ys ∧ least costP xs ys ≤ 2 * xs.length + 2 * ys.length := ⟨costC.least_nonneg xs ys, least_le_all costP xs ys⟩
theorem common_bd (xs ys : List Tn) : -(xs.length : Int) ≤ least commonP xs ys ∧ least commonP xs ys ≤ 0 := by
  have h1 := commonC.le_first (Al.least commonP xs ys)
  have h2 := commonC.nonpos (Al.least commonP xs ys)
  omega

theorem drop_len {a : List Tn} (i : Nat) : (a.drop i).length = a.length - i := List.length_drop
theorem drop_cons {a : List Tn} {i : Nat} (h : i < a.length) : a.drop i = a[i] :: a.drop (i + 1) := List.drop_eq_getElem_cons h
theorem rdT_getElem {l : List Tn} {i : Nat} (h : i < l.length) : rd_T36 l (i : Int) = l[i] := rdT_lt h

theorem spec_replace (a b : Tn) : spec_l7Replace.f a.f0 a.f1 b.f0 b.f1 = some (costP.both a b) := by
  unfold spec_l7Replace.f costP
  dsimp only
  by_cases h0 : a.f0 = b.f0
  · by_cases h1 : a.f1 = b.f1
    · simp [h0, h1]
    · simp [h0, h1]
  · simp [h0]
theorem mn_min (a b : Int) : mn a b = min a b := by unfold mn; omega
theorem mx_max (a b : Int) : mx a b = max a b := by unfold mx; omega

section
variable (a b : List Tn) (ha : a.length ≤ 24) (hb : b.length ≤ 24) (Q : List (List Int) → Prop)
include ha hb

theorem spec_row (i : Nat) (hi : i ≤ a.length) (next : ∀ x, Done costP a b x i 0 → EvP (fun n => spec_l7Costs.l0 n a b x (wrap64 ((i : Int) - 1))) Q) :
    ∀ k1 : Nat, k1 ≤ b.length + 1 → ∀ x, Done costP a b x i k1 → EvP (fun n => spec_l7Costs.l1 n a b x (i : Int) ((k1 : Int) - 1)) Q := by
  intro k1
  induction k1 with
  | zero =>
    intro _ x D
    refine EvP.succ ?_
    simp only [spec_l7Costs.l1]
    exact EvP.no (by omega) (next x D)
  | succ k ih =>
    intro hk x D
    have hx : x.length = a.length + 1 := D.len
    have hri : (rd_L4 x (i : Int)).length = b.length + 1 := D.row i (Nat.le_refl _) hi
    have ek : (((k + 1 : Nat) : Int) - 1) = (k : Int) := by omega
    have ekm : wrap64 ((k : Int) - 1) = (k : Int) - 1 := w64 (by omega) (by omega)
    have ei1 : wrap64 ((i : Int) + 1) = ((i + 1 : Nat) : Int) := w64 (by omega) (by omega)
    have ek1 : wrap64 ((k : Int) + 1) = ((k + 1 : Nat) : Int) := w64 (by omega) (by omega)
    rw [ek]
    refine EvP.succ ?_
    simp only [spec_l7Costs.l1]
    refine EvP.yes (by omega) ?_
    have fin : ∀ v, v = least costP (a.drop i) (b.drop k) → EvP (fun n => spec_l7Costs.l1 n a b (putT x i k v) (i : Int) (wrap64 ((k : Int) - 1))) Q := by
      intro v hv
      rw [ekm]
      exact ih (by omega) _ (D.put hi (by omega) hv)
    refine EvP.ite (fun hia => ?_) (fun hia => ?_)
    · refine EvP.yes (by omega) (EvP.yes (by omega) (EvP.yes (by omega) (EvP.yes (by omega) (fin _ ?_))))
      rw [w64 (i := (b.length : Int) - k) (by omega) (by omega), w64 (by omega) (by omega), List.drop_of_length_le (show a.length ≤ i by omega), least_nil, drop_len]
      show _ = (2 : Int) * _
      omega
    · refine EvP.ite (fun hkb => ?_) (fun hkb => ?_)
      · refine EvP.yes (by omega) (EvP.yes (by omega) (EvP.yes (by omega) (EvP.yes (by omega) (fin _ ?_))))
        rw [w64 (i := (a.length : Int) - i) (by omega) (by omega), w64 (by omega) (by omega), List.drop_of_length_le (show b.length ≤ k by omega), least_nil', drop_len]
        show _ = (2 : Int) * _
        omega
      · have hia' : i < a.length := by omega
        have hkb' : k < b.length := by omega
        have hri1 : (rd_L4 x ((i + 1 : Nat) : Int)).length = b.length + 1 := D.row (i + 1) (by omega) (by omega)
        rw [ei1, ek1]
        refine EvP.yes (by omega) (EvP.yes (by omega) (EvP.yes (by omega) (EvP.yes (by omega) (EvP.yes (by omega) (EvP.yes (by omega) (EvP.yes (by omega) (EvP.yes (by omega) (EvP.yes (by omega) (EvP.yes (by omega) (EvP.yes (by omega) ?_))))))))))
        rw [rdT_getElem hia', rdT_getElem hkb']
        refine EvP.bind (P := (· = costP.both a[i] b[k])) (EvP.con (spec_replace _ _) rfl) (fun _ e => ?_)
        subst e
        refine EvP.yes (by omega) (fin _ ?_)
        rw [rd_T, rd_T, rd_T, D.told (i + 1) k (by omega) (by omega) (by omega), D.told i (k + 1) (by omega) (by omega) (by omega), D.told (i + 1) (k + 1) (by omega) (by omega) (by omega)]
        rw [drop_cons hia', drop_cons hkb', least_cc, ← drop_cons hia', ← drop_cons hkb', mn_min, mn_min]
        have b1 := cost_bd (a.drop (i + 1)) (b.drop k)
        have b2 := cost_bd (a.drop i) (b.drop (k + 1))
        have b3 := cost_bd (a.drop (i + 1)) (b.drop (k + 1))
        have b4 := costC.le a[i] b[k]
        simp only [drop_len] at b1 b2 b3
        rw [w64 (by omega) (by omega), w64 (by omega) (by omega)]
        have c1 : costP.ins = 2 := rfl
        have c2 : costP.om = 2 := rfl
        rw [c1, c2]
        omega

theorem spec_rows (hQ : ∀ x, Full costP a b x → Q x) :
    ∀ i1 : Nat, i1 ≤ a.length + 1 → ∀ x, x.length = a.length + 1 → (∀ j, i1 ≤ j → j ≤ a.length → RL x j = b.length + 1) → (∀ j l, j ≤ a.length → l ≤ b.length → i1 ≤ j → T x j l = least costP (a.drop j) (b.drop l)) →
      EvP (fun n => spec_l7Costs.l0 n a b x ((i1 : Int) - 1)) Q := by
  intro i1
  induction i1 with
  | zero =>
    intro _ x hx hr ht
    refine EvP.succ ?_
    simp only [spec_l7Costs.l0]
    refine EvP.no (by omega) ?_
    exact (EvP.ret (hQ x ⟨hx, fun j hj => hr j (Nat.zero_le _) hj, fun j l hj hl => ht j l hj hl (Nat.zero_le _)⟩))
  | succ i ih =>
    intro hi x hx hr ht
    have ei : (((i + 1 : Nat) : Int) - 1) = (i : Int) := by omega
    have eb : wrap64 ((b.length : Int) + 1) = ((b.length + 1 : Nat) : Int) := w64 (by omega) (by omega)
    rw [ei]
    refine EvP.succ ?_
    simp only [spec_l7Costs.l0]
    refine EvP.yes (by omega) ?_
    rw [eb]
    refine EvP.yes (by omega) (EvP.yes (by omega) (EvP.yes (by omega) (EvP.yes (by omega) ?_)))
    have D : Done costP a b (x.set i (List.replicate (b.length + 1) 0)) i (b.length + 1) := Done.new hx (fun j hj hj' => hr j (by omega) hj') (fun j l hj hl hij => ht j l hj hl (by omega)) (by omega)
    have eb' : (((b.length + 1 : Nat) : Int) - 1) = (b.length : Int) := by omega
    have := spec_row a b ha hb Q i (by omega) (fun x' D' => by
      rw [w64 (by omega) (by omega)]
      exact ih (by omega) x' D'.len (fun j hj hj' => D'.row j (by omega) hj') (fun j l hj hl hij => D'.told j l hj hl (by omega))) (b.length + 1) (Nat.le_refl _) _ D
    rw [eb'] at this
    exact this
end

theorem spec_costs (a b : List Tn) (ha : a.length ≤ 24) (hb : b.length ≤ 24) : EvP (fun n => spec_l7Costs.f n a b) (Full costP a b) := by
  unfold spec_l7Costs.f
  have ea : wrap64 ((a.length : Int) + 1) = ((a.length + 1 : Nat) : Int) := w64 (by omega) (by omega)
  rw [ea]
  refine EvP.yes (by omega) (EvP.yes (by omega) ?_)
  have := spec_rows a b ha hb (Full costP a b) (fun _ h => h) (a.length + 1) (Nat.le_refl _) (List.replicate (a.length + 1) []) (by simp) (fun j hj hj' => by omega) (fun j l hj hl hij => by omega)
  rw [show (((a.length + 1 : Nat) : Int) - 1) = (a.length : Int) by omega] at this
  exact this
end Go.Proofs.Ythpeiboobnnfgaa.Pur
