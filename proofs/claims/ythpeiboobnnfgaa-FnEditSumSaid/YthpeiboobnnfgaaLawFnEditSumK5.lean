/- Proved: for all arguments the given program's laws.FnEditSum returns true, and its arguments read afterwards as they read before (the given constant Rows.FnEditSumSaid).
Conditions: none ahead of the given statement. -/
import Derived.Test.YthpeiboobnnfgaaLawFnEditSumK4
section
namespace Go.Proofs.Ythpeiboobnnfgaa.Pur
open Go.RowKit Go.Proofs.YthpeiboobnnfgaaW.PrintWords Go.Proofs.YthpeiboobnnfgaaW.PrintMore Go.Proofs.Ythpeiboobnnfgaa.E Go.Proofs.Ythpeiboobnnfgaa.Ed
namespace LcostOf
theorem pay1 : impl_costOf.f 1 0 1 2 = some costP.ins := by simp [impl_costOf.f, costP]
theorem pay3 : impl_costOf.f 3 1 0 2 = some costP.om := by simp [impl_costOf.f, costP]
theorem pay2 (x y : Tn) (h : eqT x y = true) : impl_costOf.f 2 1 1 0 = some (costP.both x y) := by
  obtain rfl := (eqT_iff x y).mp h
  simp [impl_costOf.f, costP]
theorem pay4 (x y : Tn) (h : ¬ eqT x y = true) : impl_costOf.f 4 1 1 (if x.f0 = y.f0 then 1 else 3) = some (costP.both x y) := by
  unfold eqT at h
  by_cases h0 : x.f0 = y.f0
  · by_cases h1 : x.f1 = y.f1
    · simp [h0, h1] at h
    · simp [impl_costOf.f, costP, h0, h1]
  · simp [impl_costOf.f, costP, h0]
theorem bd (xs ys : List Tn) (hx : xs.length ≤ 24) (_hy : ys.length ≤ 24) : -24 ≤ least costP xs ys ∧ least costP xs ys ≤ 96 := by
  have := cost_bd xs ys
  omega
theorem bdp (x y : Tn) : -1 ≤ costP.both x y ∧ costP.both x y ≤ 3 ∧ -1 ≤ costP.ins ∧ costP.ins ≤ 3 ∧ -1 ≤ costP.om ∧ costP.om ≤ 3 := by
  unfold costP
  dsimp only
  split <;> (try split) <;> omega
def st (x : List (List Int)) (i k : Nat) : Option Int → List (List Int)
  | none => x
  | some u => putT x i k u
def comb : Option Int → Int → Int
  | none, v => v
  | some u, v => if v < u then v else u
section
variable (a b : List Tn) (ha : a.length ≤ 24) (hb : b.length ≤ 24) (Q : List (List Int) → Prop)
variable {x : List (List Int)} {i k : Nat} (D : Done costP a b x i (k + 1)) (hi : i ≤ a.length) (hk : k ≤ b.length)
include ha hb D hi hk
omit ha hb hi hk in
theorem rows (m : Option Int) : (st x i k m).length = a.length + 1 ∧ (∀ j, i ≤ j → j ≤ a.length → (rd_L4 (st x i k m) (j : Int)).length = b.length + 1) := by
  cases m with
  | none => exact ⟨D.len, fun j hj hj' => D.row j hj hj'⟩
  | some u => exact ⟨by rw [st, putT_length]; exact D.len, fun j hj hj' => by rw [st, rd_RL, putT_RL]; exact D.row j hj hj'⟩
omit ha hb in
theorem reads (m : Option Int) (s1 s2 : Nat) (h1 : i + s1 ≤ a.length) (h2 : k + s2 ≤ b.length) (hne : s1 + s2 ≠ 0) : T (st x i k m) (i + s1) (k + s2) = least costP (a.drop (i + s1)) (b.drop (k + s2)) := by
  have ht := D.told (i + s1) (k + s2) h1 h2 (by omega)
  cases m with
  | none => exact ht
  | some u =>
    rw [st, putT_T x i k _ _ u (by rw [D.len]; omega) (by rw [D.row i (Nat.le_refl _) hi]; omega), if_neg (by omega)]
    exact ht
omit ha hb D in
theorem skip (m : Option Int) (j : Nat) (hj : j < 4) (e : Int) (he : rd [1, 2, 3, 4] (j : Int) = e) (u : Int × Int × Int × Bool) (hu : EvP (fun n => impl_useOf.f n e (a.drop i) (b.drop k)) (· = u)) (ho : u.2.2.2 = false)
    (K : EvP (fun n => impl_leastSums_costOf.l2 n a b (st x i k m) (i : Int) (k : Int) m.isSome [1, 2, 3, 4] (([1, 2, 3, 4] : List Int).length : Int) ((j + 1 : Nat) : Int)) Q) :
    EvP (fun n => impl_leastSums_costOf.l2 n a b (st x i k m) (i : Int) (k : Int) m.isSome [1, 2, 3, 4] (([1, 2, 3, 4] : List Int).length : Int) (j : Int)) Q := by
  have hl : ([1, 2, 3, 4] : List Int).length = 4 := rfl
  refine EvP.succ ?_
  simp only [impl_leastSums_costOf.l2]
  refine EvP.yes (by omega) (EvP.yes (by omega) (EvP.yes (by omega) (EvP.yes (by omega) (EvP.yes (by omega) (EvP.yes (by omega) (EvP.yes (by omega) ?_))))))
  rw [he]
  refine EvP.bind (P := (· = u)) hu (fun _ h => ?_)
  subst h
  refine EvP.no (by rw [ho]; simp) ?_
  rw [w64 (by omega) (by omega)]
  exact K
theorem take (m : Option Int) (j : Nat) (hj : j < 4) (e : Int) (he : rd [1, 2, 3, 4] (j : Int) = e) (s1 s2 : Nat) (c pay : Int) (hu : EvP (fun n => impl_useOf.f n e (a.drop i) (b.drop k)) (· = ((s1 : Int), (s2 : Int), c, true)))
    (h1 : i + s1 ≤ a.length) (h2 : k + s2 ≤ b.length) (hne : s1 + s2 ≠ 0) (hF : impl_costOf.f e (s1 : Int) (s2 : Int) c = some pay) (hp : -1 ≤ pay ∧ pay ≤ 3)
    (K : EvP (fun n => impl_leastSums_costOf.l2 n a b (st x i k (some (comb m (pay + least costP (a.drop (i + s1)) (b.drop (k + s2)))))) (i : Int) (k : Int) true [1, 2, 3, 4] (([1, 2, 3, 4] : List Int).length : Int) ((j + 1 : Nat) : Int)) Q) :
    EvP (fun n => impl_leastSums_costOf.l2 n a b (st x i k m) (i : Int) (k : Int) m.isSome [1, 2, 3, 4] (([1, 2, 3, 4] : List Int).length : Int) (j : Int)) Q := by
  have hl : ([1, 2, 3, 4] : List Int).length = 4 := rfl
  obtain ⟨hx, hr⟩ := rows a b D m
  have hri := hr i (Nat.le_refl _) hi
  have hrs := hr (i + s1) (by omega) h1
  have b1 := bd (a.drop (i + s1)) (b.drop (k + s2)) (by rw [drop_len]; omega) (by rw [drop_len]; omega)
  have hv : Hd (wrap64 (pay + rd (rd_L4 (st x i k m) ((i + s1 : Nat) : Int)) ((k + s2 : Nat) : Int)) = pay + least costP (a.drop (i + s1)) (b.drop (k + s2))) := by
    refine Hd.mk ?_
    rw [rd_T, reads a b D hi hk m s1 s2 h1 h2 hne]
    exact w64 (by omega) (by omega)
  refine EvP.succ ?_
  simp only [impl_leastSums_costOf.l2]
  refine EvP.yes (by omega) (EvP.yes (by omega) (EvP.yes (by omega) (EvP.yes (by omega) (EvP.yes (by omega) (EvP.yes (by omega) (EvP.yes (by omega) ?_))))))
  rw [he]
  refine EvP.bind (P := (· = ((s1 : Int), (s2 : Int), c, true))) hu (fun _ h => ?_)
  subst h
  refine EvP.yes rfl ?_
  refine EvP.bind (P := (· = pay)) (EvP.con hF rfl) (fun pay' h => ?_)
  subst h
  have e1 : wrap64 ((i : Int) + (s1 : Int)) = ((i + s1 : Nat) : Int) := w64 (by omega) (by omega)
  have e2 : Hd (wrap64 ((k : Int) + (s2 : Int)) = ((k + s2 : Nat) : Int)) := Hd.mk (by clear e1; exact w64 (by omega) (by omega))
  have ej : Hd (wrap64 ((j : Int) + 1) = ((j + 1 : Nat) : Int)) := Hd.mk (by clear e1; exact w64 (by omega) (by omega))
  simp only [e1, e2.out, hv.out, ej.out]
  clear e1 e2 ej hv
  refine EvP.yes (by omega) (EvP.yes (by omega) (EvP.yes (by omega) (EvP.yes (by omega) ?_)))
  cases m with
  | none =>
    refine EvP.no (by simp) (EvP.yes (by omega) (EvP.yes (by omega) ?_))
    exact K
  | some u =>
    refine EvP.yes rfl (EvP.yes (by omega) (EvP.yes (by omega) ?_))
    have hu' : rd (rd_L4 (st x i k (some u)) (i : Int)) (k : Int) = u := by
      rw [rd_T, st, putT_T x i k i k u (by rw [D.len]; omega) (by rw [D.row i (Nat.le_refl _) hi]; omega), if_pos ⟨rfl, rfl⟩]
    rw [hu']
    refine EvP.ite (fun h => ?_) (fun h => ?_)
    · unfold comb at K
      dsimp only at K
      rw [if_pos h] at K
      have ep : st x i k (some (pay' + least costP (a.drop (i + s1)) (b.drop (k + s2)))) = putT (putT x i k u) i k (pay' + least costP (a.drop (i + s1)) (b.drop (k + s2))) := (putT_put x i k u _).symm
      rw [ep] at K
      exact K
    · unfold comb at K
      dsimp only at K
      rw [if_neg h] at K
      exact K
theorem cell (next : ∀ x', Done costP a b x' i k → EvP (fun n => impl_leastSums_costOf.l1 n a b x' (i : Int) ((k : Int) - 1)) Q) :
    EvP (fun n => impl_leastSums_costOf.l2 n a b x (i : Int) (k : Int) false [1, 2, 3, 4] (([1, 2, 3, 4] : List Int).length : Int) 0) Q := by
  have hl : ([1, 2, 3, 4] : List Int).length = 4 := rfl
  have fin : ∀ m, Done costP a b (st x i k m) i k → EvP (fun n => impl_leastSums_costOf.l2 n a b (st x i k m) (i : Int) (k : Int) m.isSome [1, 2, 3, 4] (([1, 2, 3, 4] : List Int).length : Int) ((4 : Nat) : Int)) Q := by
    intro m hm
    refine EvP.succ ?_
    simp only [impl_leastSums_costOf.l2]
    refine EvP.no (by omega) ?_
    rw [w64 (by omega) (by omega)]
    exact next _ hm
  have put : ∀ v, v = least costP (a.drop i) (b.drop k) → Done costP a b (st x i k (some v)) i k := fun v hv => D.put hi hk hv
  obtain ⟨u1, u2, u3, u4⟩ := use_ok (a.drop i) (b.drop k)
  have s0 := skip a b Q hi hk (x := x)
  have t0 := take a b ha hb Q D hi hk
  show EvP (fun n => impl_leastSums_costOf.l2 n a b (st x i k none) (i : Int) (k : Int) (none : Option Int).isSome [1, 2, 3, 4] (([1, 2, 3, 4] : List Int).length : Int) ((0 : Nat) : Int)) Q
  by_cases hia : i < a.length
  · have ea := drop_cons hia
    by_cases hkb : k < b.length
    · have eb := drop_cons hkb
      have bp := bdp a[i] b[k]
      have v1 : use1 (a.drop i) (b.drop k) = (((0 : Nat) : Int), ((1 : Nat) : Int), 2, true) := use1_true _ _ (by rw [drop_len]; omega)
      have v3 : use3 (a.drop i) (b.drop k) = (((1 : Nat) : Int), ((0 : Nat) : Int), 2, true) := use3_true _ _ (by rw [drop_len]; omega)
      rw [v1] at u1
      rw [v3] at u3
      refine t0 none 0 (by omega) 1 rfl 0 1 2 costP.ins u1 (by omega) (by omega) (by omega) pay1 (by omega) ?_
      have least_is := least_cc costP a[i] b[k] (a.drop (i + 1)) (b.drop (k + 1))
      rw [← ea, ← eb] at least_is
      by_cases he : eqT a[i] b[k] = true
      · have v2 : use2 (a.drop i) (b.drop k) = (((1 : Nat) : Int), ((1 : Nat) : Int), 0, true) := by rw [ea, eb]; simp [use2, he]
        have v4 : (use4 (a.drop i) (b.drop k)).2.2.2 = false := by rw [ea, eb]; simp [use4, he]
        rw [v2] at u2
        refine t0 (some _) 1 (by omega) 2 rfl 1 1 0 (costP.both a[i] b[k]) u2 (by omega) (by omega) (by omega) (pay2 _ _ he) (by omega) ?_
        refine t0 (some _) 2 (by omega) 3 rfl 1 0 2 costP.om u3 (by omega) (by omega) (by omega) pay3 (by omega) ?_
        refine s0 (some _) 3 (by omega) 4 rfl _ u4 v4 ?_
        refine fin (some _) (put _ ?_)
        rw [least_is]
        simp only [comb, Nat.add_zero]
        generalize least costP (a.drop i) (b.drop (k + 1)) = p1
        generalize least costP (a.drop (i + 1)) (b.drop (k + 1)) = p2
        generalize least costP (a.drop (i + 1)) (b.drop k) = p3
        (repeat' split) <;> omega
      · have v2 : (use2 (a.drop i) (b.drop k)).2.2.2 = false := by rw [ea, eb]; simp [use2, he]
        have v4 : use4 (a.drop i) (b.drop k) = (((1 : Nat) : Int), ((1 : Nat) : Int), (if a[i].f0 = b[k].f0 then 1 else 3), true) := by
          rw [ea, eb, show use4 (a[i] :: a.drop (i + 1)) (b[k] :: b.drop (k + 1)) = if eqT a[i] b[k] = true then (0, 0, 0, false) else if a[i].f0 = b[k].f0 then (1, 1, 1, true) else (1, 1, 3, true) from rfl, if_neg he]
          split <;> rfl
        rw [v4] at u4
        refine s0 (some _) 1 (by omega) 2 rfl _ u2 v2 ?_
        refine t0 (some _) 2 (by omega) 3 rfl 1 0 2 costP.om u3 (by omega) (by omega) (by omega) pay3 (by omega) ?_
        refine t0 (some _) 3 (by omega) 4 rfl 1 1 _ (costP.both a[i] b[k]) u4 (by omega) (by omega) (by omega) (pay4 _ _ he) (by omega) ?_
        refine fin (some _) (put _ ?_)
        rw [least_is]
        simp only [comb, Nat.add_zero]
        generalize least costP (a.drop i) (b.drop (k + 1)) = p1
        generalize least costP (a.drop (i + 1)) (b.drop (k + 1)) = p2
        generalize least costP (a.drop (i + 1)) (b.drop k) = p3
        (repeat' split) <;> omega
    · have eb : b.drop k = [] := List.drop_of_length_le (by omega)
      have bp := bdp a[i] a[i]
      have v1 : (use1 (a.drop i) (b.drop k)).2.2.2 = false := use1_false _ _ (by rw [drop_len]; omega)
      have v2 : (use2 (a.drop i) (b.drop k)).2.2.2 = false := by rw [eb, ea]; simp [use2]
      have v3 : use3 (a.drop i) (b.drop k) = (((1 : Nat) : Int), ((0 : Nat) : Int), 2, true) := use3_true _ _ (by rw [drop_len]; omega)
      have v4 : (use4 (a.drop i) (b.drop k)).2.2.2 = false := by rw [eb, ea]; simp [use4]
      rw [v3] at u3
      refine s0 none 0 (by omega) 1 rfl _ u1 v1 ?_
      refine s0 none 1 (by omega) 2 rfl _ u2 v2 ?_
      refine t0 none 2 (by omega) 3 rfl 1 0 2 costP.om u3 (by omega) (by omega) (by omega) pay3 (by omega) ?_
      refine s0 (some _) 3 (by omega) 4 rfl _ u4 v4 ?_
      refine fin (some _) (put _ ?_)
      simp only [comb, Nat.add_zero]
      rw [eb, ea, least_cn]
  · have ea : a.drop i = [] := List.drop_of_length_le (by omega)
    have v2 : (use2 (a.drop i) (b.drop k)).2.2.2 = false := by rw [ea]; simp [use2]
    have v3 : (use3 (a.drop i) (b.drop k)).2.2.2 = false := use3_false _ _ (by rw [drop_len]; omega)
    have v4 : (use4 (a.drop i) (b.drop k)).2.2.2 = false := by rw [ea]; simp [use4]
    by_cases hkb : k < b.length
    · have eb := drop_cons hkb
      have bp := bdp b[k] b[k]
      have v1 : use1 (a.drop i) (b.drop k) = (((0 : Nat) : Int), ((1 : Nat) : Int), 2, true) := use1_true _ _ (by rw [drop_len]; omega)
      rw [v1] at u1
      refine t0 none 0 (by omega) 1 rfl 0 1 2 costP.ins u1 (by omega) (by omega) (by omega) pay1 (by omega) ?_
      refine s0 (some _) 1 (by omega) 2 rfl _ u2 v2 ?_
      refine s0 (some _) 2 (by omega) 3 rfl _ u3 v3 ?_
      refine s0 (some _) 3 (by omega) 4 rfl _ u4 v4 ?_
      refine fin (some _) (put _ ?_)
      simp only [comb, Nat.add_zero]
      rw [ea, eb, least_nc]
    · have eb : b.drop k = [] := List.drop_of_length_le (by omega)
      have v1 : (use1 (a.drop i) (b.drop k)).2.2.2 = false := use1_false _ _ (by rw [drop_len]; omega)
      refine s0 none 0 (by omega) 1 rfl _ u1 v1 ?_
      refine s0 none 1 (by omega) 2 rfl _ u2 v2 ?_
      refine s0 none 2 (by omega) 3 rfl _ u3 v3 ?_
      refine s0 none 3 (by omega) 4 rfl _ u4 v4 ?_
      refine fin none ?_
      obtain rfl : i = a.length := by omega
      obtain rfl : k = b.length := by omega
      exact D.stay
end
section
variable (a b : List Tn) (ha : a.length ≤ 24) (hb : b.length ≤ 24) (Q : List (List Int) → Prop)
include ha hb
theorem row (i : Nat) (hi : i ≤ a.length) (next : ∀ x, Done costP a b x i 0 → EvP (fun n => impl_leastSums_costOf.l0 n a b x (wrap64 ((i : Int) - 1))) Q) :
    ∀ k1 : Nat, k1 ≤ b.length + 1 → ∀ x, Done costP a b x i k1 → EvP (fun n => impl_leastSums_costOf.l1 n a b x (i : Int) ((k1 : Int) - 1)) Q := by
  intro k1
  induction k1 with
  | zero =>
    intro _ x D
    refine EvP.succ ?_
    simp only [impl_leastSums_costOf.l1]
    exact EvP.no (by omega) (next x D)
  | succ k ih =>
    intro hk x D
    have ek : (((k + 1 : Nat) : Int) - 1) = (k : Int) := by omega
    rw [ek]
    refine EvP.succ ?_
    simp only [impl_leastSums_costOf.l1]
    refine EvP.yes (by omega) ?_
    refine EvP.bind (P := (· = [1, 2, 3, 4])) (EvP.con rfl rfl) (fun _ h => ?_)
    subst h
    exact cell a b ha hb Q D hi (by omega) (fun x' D' => ih (by omega) x' D')
theorem lines (hQ : ∀ x, Full costP a b x → Q x) :
    ∀ i1 : Nat, i1 ≤ a.length + 1 → ∀ x, x.length = a.length + 1 → (∀ j, i1 ≤ j → j ≤ a.length → RL x j = b.length + 1) → (∀ j l, j ≤ a.length → l ≤ b.length → i1 ≤ j → T x j l = least costP (a.drop j) (b.drop l)) →
      EvP (fun n => impl_leastSums_costOf.l0 n a b x ((i1 : Int) - 1)) Q := by
  intro i1
  induction i1 with
  | zero =>
    intro _ x hx hr ht
    refine EvP.succ ?_
    simp only [impl_leastSums_costOf.l0]
    refine EvP.no (by omega) ?_
    exact (EvP.ret (hQ x ⟨hx, fun j hj => hr j (Nat.zero_le _) hj, fun j l hj hl => ht j l hj hl (Nat.zero_le _)⟩))
  | succ i ih =>
    intro hi x hx hr ht
    have ei : (((i + 1 : Nat) : Int) - 1) = (i : Int) := by omega
    have eb : wrap64 ((b.length : Int) + 1) = ((b.length + 1 : Nat) : Int) := w64 (by omega) (by omega)
    rw [ei]
    refine EvP.succ ?_
    simp only [impl_leastSums_costOf.l0]
    refine EvP.yes (by omega) ?_
    rw [eb]
    refine EvP.yes (by omega) (EvP.yes (by omega) (EvP.yes (by omega) (EvP.yes (by omega) ?_)))
    have D : Done costP a b (x.set i (List.replicate (b.length + 1) 0)) i (b.length + 1) := Done.new hx (fun j hj hj' => hr j (by omega) hj') (fun j l hj hl hij => ht j l hj hl (by omega)) (by omega)
    have eb' : (((b.length + 1 : Nat) : Int) - 1) = (b.length : Int) := by omega
    have := row a b ha hb Q i (by omega) (fun x' D' => by
      rw [w64 (by omega) (by omega)]
      exact ih (by omega) x' D'.len (fun j hj hj' => D'.row j (by omega) hj') (fun j l hj hl hij => D'.told j l hj hl (by omega))) (b.length + 1) (Nat.le_refl _) _ D
    rw [eb'] at this
    exact this
end
end LcostOf
theorem impl_sums_costOf (a b : List Tn) (ha : a.length ≤ 24) (hb : b.length ≤ 24) : EvP (fun n => impl_leastSums_costOf.f n a b) (Full costP a b) := by
  unfold impl_leastSums_costOf.f
  have ea : wrap64 ((a.length : Int) + 1) = ((a.length + 1 : Nat) : Int) := w64 (by omega) (by omega)
  rw [ea]
  refine EvP.yes (by omega) (EvP.yes (by omega) ?_)
  have := LcostOf.lines a b ha hb (Full costP a b) (fun _ h => h) (a.length + 1) (Nat.le_refl _) (List.replicate (a.length + 1) []) (by simp) (fun j hj hj' => by omega) (fun j l hj hl hij => by omega)
  rw [show (((a.length + 1 : Nat) : Int) - 1) = (a.length : Int) by omega] at this
  exact this
end Go.Proofs.Ythpeiboobnnfgaa.Pur
end
section
namespace Go.Proofs.Ythpeiboobnnfgaa.Pur
open Go.RowKit Go.Proofs.YthpeiboobnnfgaaW.PrintWords Go.Proofs.YthpeiboobnnfgaaW.PrintMore Go.Proofs.Ythpeiboobnnfgaa.E Go.Proofs.Ythpeiboobnnfgaa.Ed
def letterOf (xs ys : List Tn) : Int :=
  if (use1 xs ys).2.2.2 = true ∧ 2 + least costP xs (ys.drop 1) = least costP xs ys then 105
  else if (use2 xs ys).2.2.2 = true ∧ least costP (xs.drop 1) (ys.drop 1) = least costP xs ys then 107
  else if (use3 xs ys).2.2.2 = true ∧ 2 + least costP (xs.drop 1) ys = least costP xs ys then 111
  else 114
def txt : Nat → List Tn → List Tn → List Int
  | 0, _, _ => []
  | m + 1, xs, ys => if xs.length = 0 ∧ ys.length = 0 then [] else letterOf xs ys :: txt m (xs.drop (if letterOf xs ys = 105 then 0 else 1)) (ys.drop (if letterOf xs ys = 111 then 0 else 1))
theorem txt_go {m : Nat} {xs ys : List Tn} {v : Int} {dx dy : Nat} (h : ¬ (xs.length = 0 ∧ ys.length = 0)) (hv : letterOf xs ys = v) (hx : (if v = 105 then 0 else 1) = dx) (hy : (if v = 111 then 0 else 1) = dy) : txt (m + 1) xs ys = v :: txt m (xs.drop dx) (ys.drop dy) := by
  rw [txt, if_neg h, hv, hx, hy]
theorem txt_end {m : Nat} {xs ys : List Tn} (h : xs.length = 0 ∧ ys.length = 0) : txt m xs ys = [] := by
  cases m with
  | zero => rfl
  | succ m => rw [txt, if_pos h]
theorem last_way (xs ys : List Tn) (h : ¬ (xs.length = 0 ∧ ys.length = 0)) (h1 : ¬ ((use1 xs ys).2.2.2 = true ∧ 2 + least costP xs (ys.drop 1) = least costP xs ys)) (h2 : ¬ ((use2 xs ys).2.2.2 = true ∧ least costP (xs.drop 1) (ys.drop 1) = least costP xs ys)) (h3 : ¬ ((use3 xs ys).2.2.2 = true ∧ 2 + least costP (xs.drop 1) ys = least costP xs ys)) :
    ∃ x xs' y ys', xs = x :: xs' ∧ ys = y :: ys' ∧ ¬ eqT x y = true ∧ (if x.f0 = y.f0 then (1 : Int) else 3) + least costP xs' ys' = least costP xs ys := by
  cases xs with
  | nil =>
    cases ys with
    | nil => exact absurd ⟨rfl, rfl⟩ h
    | cons y ys => exact absurd ⟨by simp [use1], by rw [least_nc]; rfl⟩ h1
  | cons x xs =>
    cases ys with
    | nil => exact absurd ⟨by simp [use3], by rw [least_cn]; rfl⟩ h3
    | cons y ys =>
      have k1 : ¬ 2 + least costP (x :: xs) ys = least costP (x :: xs) (y :: ys) := fun e => h1 ⟨by simp [use1], e⟩
      have k3 : ¬ 2 + least costP xs (y :: ys) = least costP (x :: xs) (y :: ys) := fun e => h3 ⟨by simp [use3], e⟩
      have L := least_cc costP x y xs ys
      rw [show costP.ins = 2 from rfl, show costP.om = 2 from rfl] at L
      have hb : costP.both x y + least costP xs ys = least costP (x :: xs) (y :: ys) := by omega
      by_cases he : eqT x y = true
      · have e := (eqT_iff x y).mp he
        have z : costP.both x y = 0 := by rw [e]; exact costC.same y
        exact absurd ⟨he, by rw [z] at hb; rw [← hb]; simp⟩ h2
      · refine ⟨x, xs, y, ys, rfl, rfl, he, ?_⟩
        rw [← hb]
        have : costP.both x y = if x.f0 = y.f0 then (1 : Int) else 3 := by
          show (if x.f0 = y.f0 then (if x.f1 = y.f1 then (0 : Int) else 1) else 3) = _
          by_cases h0 : x.f0 = y.f0
          · by_cases h1 : x.f1 = y.f1
            · exact absurd ((eqT_iff x y).mpr (tn_ext h0 h1)) he
            · rw [if_pos h0, if_neg h1, if_pos h0]
          · rw [if_neg h0, if_neg h0]
        rw [this]
end Go.Proofs.Ythpeiboobnnfgaa.Pur
end
section
namespace Go.Proofs.Ythpeiboobnnfgaa.Pur
open Go.RowKit Go.Proofs.YthpeiboobnnfgaaW.PrintWords Go.Proofs.YthpeiboobnnfgaaW.PrintMore Go.Proofs.Ythpeiboobnnfgaa.E Go.Proofs.Ythpeiboobnnfgaa.Ed
def lets (t : ByteArray) (p d : Nat) : List Int := (List.range' p d).map (fun j : Nat => bt t (j : Int))
def goL : List Int → List Tn → List Tn → Int → Int × Bool
  | [], xs, ys, n => (n, decide (xs.length = 0) && decide (ys.length = 0))
  | c :: cs, xs, ys, n => if (useC c xs ys).2.2.2 = true then goL cs (xs.drop (useC c xs ys).1.toNat) (ys.drop (useC c xs ys).2.1.toNat) (n + (useC c xs ys).2.2.1) else (0, false)
theorem sumT_goL (t : ByteArray) : ∀ (d p : Nat) (xs ys : List Tn) (n : Int), sumT t d p xs ys n = goL (lets t p d) xs ys n := by
  intro d
  induction d with
  | zero => intro p xs ys n; rfl
  | succ d ih =>
    intro p xs ys n
    rw [show lets t p (d + 1) = bt t (p : Int) :: lets t (p + 1) d from rfl, sumT, goL, ih]
theorem useC_cases (c : Int) (xs ys : List Tn) (h : (useC c xs ys).2.2.2 = true) :
    (c = 105 ∧ ∃ y ys', ys = y :: ys' ∧ useC c xs ys = (((0 : Nat) : Int), ((1 : Nat) : Int), 2, true)) ∨
    (c = 107 ∧ ∃ x xs' y ys', xs = x :: xs' ∧ ys = y :: ys' ∧ eqT x y = true ∧ useC c xs ys = (((1 : Nat) : Int), ((1 : Nat) : Int), 0, true)) ∨
    (c = 111 ∧ ∃ x xs', xs = x :: xs' ∧ useC c xs ys = (((1 : Nat) : Int), ((0 : Nat) : Int), 2, true)) ∨
    (c = 114 ∧ ∃ x xs' y ys', xs = x :: xs' ∧ ys = y :: ys' ∧ ¬ eqT x y = true ∧ useC c xs ys = (((1 : Nat) : Int), ((1 : Nat) : Int), (if x.f0 = y.f0 then 1 else 3), true)) := by
  by_cases c1 : c = 105
  · have e : useC c xs ys = use1 xs ys := by unfold useC; rw [if_pos c1]
    cases ys with
    | nil => rw [e, use1_false _ _ rfl] at h; exact absurd h (by decide)
    | cons y ys => exact .inl ⟨c1, y, ys, rfl, by rw [e]; exact use1_true _ _ (by simp)⟩
  by_cases c2 : c = 107
  · have e : useC c xs ys = use2 xs ys := by unfold useC; rw [if_neg c1, if_pos c2]
    cases xs with
    | nil => rw [e, use2_nil _ _ (.inl rfl)] at h; exact absurd h (by decide)
    | cons x xs => cases ys with
      | nil => rw [e, use2_nil _ _ (.inr rfl)] at h; exact absurd h (by decide)
      | cons y ys =>
        by_cases he : eqT x y = true
        · exact .inr (.inl ⟨c2, x, xs, y, ys, rfl, rfl, he, by rw [e]; exact use2_same _ _ _ _ he⟩)
        · rw [e, use2_not _ _ _ _ he] at h; exact absurd h (by decide)
  by_cases c3 : c = 111
  · have e : useC c xs ys = use3 xs ys := by unfold useC; rw [if_neg c1, if_neg c2, if_pos c3]
    cases xs with
    | nil => rw [e, use3_false _ _ rfl] at h; exact absurd h (by decide)
    | cons x xs => exact .inr (.inr (.inl ⟨c3, x, xs, rfl, by rw [e]; exact use3_true _ _ (by simp)⟩))
  by_cases c4 : c = 114
  · have e : useC c xs ys = use4 xs ys := by unfold useC; rw [if_neg c1, if_neg c2, if_neg c3, if_pos c4]
    cases xs with
    | nil => rw [e, use4_nil _ _ (.inl rfl)] at h; exact absurd h (by decide)
    | cons x xs => cases ys with
      | nil => rw [e, use4_nil _ _ (.inr rfl)] at h; exact absurd h (by decide)
      | cons y ys =>
        by_cases he : eqT x y = true
        · rw [e, use4_same _ _ _ _ he] at h; exact absurd h (by decide)
        · exact .inr (.inr (.inr ⟨c4, x, xs, y, ys, rfl, rfl, he, by rw [e]; exact use4_not _ _ _ _ he⟩))
  · unfold useC at h
    rw [if_neg c1, if_neg c2, if_neg c3, if_neg c4] at h
    exact absurd h (by decide)
theorem useC_i (xs : List Tn) (y : Tn) (ys : List Tn) : useC 105 xs (y :: ys) = (((0 : Nat) : Int), ((1 : Nat) : Int), 2, true) := use1_true xs (y :: ys) (by simp)
theorem useC_k (x : Tn) (xs : List Tn) (y : Tn) (ys : List Tn) (h : eqT x y = true) : useC 107 (x :: xs) (y :: ys) = (((1 : Nat) : Int), ((1 : Nat) : Int), 0, true) := use2_same x y xs ys h
theorem useC_o (x : Tn) (xs ys : List Tn) : useC 111 (x :: xs) ys = (((1 : Nat) : Int), ((0 : Nat) : Int), 2, true) := use3_true (x :: xs) ys (by simp)
theorem useC_r (x : Tn) (xs : List Tn) (y : Tn) (ys : List Tn) (h : ¬ eqT x y = true) : useC 114 (x :: xs) (y :: ys) = (((1 : Nat) : Int), ((1 : Nat) : Int), (if x.f0 = y.f0 then 1 else 3), true) := use4_not x y xs ys h
theorem goL_go {c : Int} {cs : List Int} {xs ys : List Tn} {n k : Int} {x y : Nat} (h : useC c xs ys = ((x : Int), (y : Int), k, true)) : goL (c :: cs) xs ys n = goL cs (xs.drop x) (ys.drop y) (n + k) := by
  rw [goL, h]
  rfl
inductive AlL : List Int → List Tn → List Tn → Int → Prop
  | nil : AlL [] [] [] 0
  | ins (y : Tn) {cs : List Int} {xs ys : List Tn} {n : Int} : AlL cs xs ys n → AlL (105 :: cs) xs (y :: ys) (2 + n)
  | keep (x y : Tn) {cs : List Int} {xs ys : List Tn} {n : Int} : eqT x y = true → AlL cs xs ys n → AlL (107 :: cs) (x :: xs) (y :: ys) (0 + n)
  | om (x : Tn) {cs : List Int} {xs ys : List Tn} {n : Int} : AlL cs xs ys n → AlL (111 :: cs) (x :: xs) ys (2 + n)
  | repl (x y : Tn) {cs : List Int} {xs ys : List Tn} {n : Int} : ¬ eqT x y = true → AlL cs xs ys n → AlL (114 :: cs) (x :: xs) (y :: ys) ((if x.f0 = y.f0 then 1 else 3) + n)
theorem AlL.eq {cs : List Int} {xs ys : List Tn} {n m : Int} (h : AlL cs xs ys n) (e : n = m) : AlL cs xs ys m := e ▸ h
theorem goL_al : ∀ (cs : List Int) (xs ys : List Tn) (n m : Int), goL cs xs ys n = (m, true) → AlL cs xs ys (m - n) := by
  intro cs
  induction cs with
  | nil =>
    intro xs ys n m h
    rw [goL] at h
    simp only [Prod.mk.injEq, Bool.and_eq_true, decide_eq_true_eq] at h
    obtain ⟨h0, h1, h2⟩ := h
    obtain rfl := List.eq_nil_of_length_eq_zero h1
    obtain rfl := List.eq_nil_of_length_eq_zero h2
    exact AlL.nil.eq (by omega)
  | cons c cs ih =>
    intro xs ys n m h
    have hu : (useC c xs ys).2.2.2 = true := by
      by_cases hu : (useC c xs ys).2.2.2 = true
      · exact hu
      · rw [goL, if_neg hu] at h
        simp at h
    rcases useC_cases c xs ys hu with ⟨rfl, y, ys', rfl, e⟩ | ⟨rfl, x, xs', y, ys', rfl, rfl, he, e⟩ | ⟨rfl, x, xs', rfl, e⟩ | ⟨rfl, x, xs', y, ys', rfl, rfl, he, e⟩
    · rw [goL_go e] at h
      exact (AlL.ins y (ih _ _ _ _ h)).eq (by omega)
    · rw [goL_go e] at h
      exact (AlL.keep x y he (ih _ _ _ _ h)).eq (by omega)
    · rw [goL_go e] at h
      exact (AlL.om x (ih _ _ _ _ h)).eq (by omega)
    · rw [goL_go e] at h
      exact (AlL.repl x y he (ih _ _ _ _ h)).eq (by omega)
theorem al_goL {cs : List Int} {xs ys : List Tn} {k : Int} (h : AlL cs xs ys k) : ∀ n, goL cs xs ys n = (n + k, true) := by
  induction h with
  | nil => intro n; simp [goL]
  | ins y _ ih => intro n; rw [goL_go (useC_i _ y _)]; exact (ih _).trans (by rw [Int.add_assoc])
  | keep x y he _ ih => intro n; rw [goL_go (useC_k x _ y _ he)]; exact (ih _).trans (by rw [Int.add_assoc])
  | om x _ ih => intro n; rw [goL_go (useC_o x _ _)]; exact (ih _).trans (by rw [Int.add_assoc])
  | repl x y he _ ih => intro n; rw [goL_go (useC_r x _ y _ he)]; exact (ih _).trans (by rw [Int.add_assoc])
theorem both_keep {x y : Tn} (h : eqT x y = true) : costP.both x y = 0 := by rw [(eqT_iff x y).mp h]; exact costC.same y
theorem both_repl {x y : Tn} (h : ¬ eqT x y = true) : costP.both x y = if x.f0 = y.f0 then (1 : Int) else 3 := by
  show (if x.f0 = y.f0 then (if x.f1 = y.f1 then (0 : Int) else 1) else 3) = _
  by_cases h0 : x.f0 = y.f0
  · by_cases h1 : x.f1 = y.f1
    · exact absurd ((eqT_iff x y).mpr (tn_ext h0 h1)) h
    · rw [if_pos h0, if_neg h1, if_pos h0]
  · rw [if_neg h0, if_neg h0]
theorem AlL.al {cs : List Int} {xs ys : List Tn} {n : Int} (h : AlL cs xs ys n) : Al costP xs ys n := by
  induction h with
  | nil => exact .nil
  | ins y _ ih => exact .ins y ih
  | keep x y he _ ih => exact (Al.both x y ih).eq (by rw [both_keep he])
  | om x _ ih => exact .om x ih
  | repl x y he _ ih => exact (Al.both x y ih).eq (by rw [both_repl he])
theorem AlL.le {cs : List Int} {xs ys : List Tn} {n : Int} (h : AlL cs xs ys n) : least costP xs ys ≤ n := h.al.le
def others (c : Int) (cs : List Int) : Nat := (cs.filter (fun x => !(x == c))).length
def these (c : Int) (cs : List Int) : Nat := (cs.filter (fun x => x == c)).length
theorem AlL.keeps {cs : List Int} {xs ys : List Tn} {n : Int} (h : AlL cs xs ys n) : Al commonP xs ys (-(these 107 cs : Int)) := by
  induction h with
  | nil => exact .nil
  | ins y _ ih => exact (Al.ins y ih).eq (by simp [these, commonP])
  | keep x y he _ ih =>
    refine (Al.both x y ih).eq ?_
    rw [(eqT_iff x y).mp he, commonC.same]
    simp [these]
    omega
  | om x _ ih => exact (Al.om x ih).eq (by simp [these, commonP])
  | repl x y he _ ih =>
    refine (Al.both x y ih).eq ?_
    rw [commonC.differ x y (fun e => he ((eqT_iff x y).mpr e))]
    simp [these]
def opp (c : Int) : Int := if c = 105 then 111 else if c = 111 then 105 else c
theorem eqT_comm {x y : Tn} (h : eqT x y = true) : eqT y x = true := (eqT_iff y x).mpr ((eqT_iff x y).mp h).symm
theorem AlL.swap {cs : List Int} {xs ys : List Tn} {n : Int} (h : AlL cs xs ys n) : AlL (cs.map opp) ys xs n := by
  induction h with
  | nil => exact .nil
  | ins y _ ih => exact .om y ih
  | keep x y he _ ih => exact .keep y x (eqT_comm he) ih
  | om x _ ih => exact .ins x ih
  | repl x y he _ ih =>
    refine (AlL.repl y x (fun h => he (eqT_comm h)) ih).eq ?_
    by_cases h0 : x.f0 = y.f0
    · rw [if_pos h0, if_pos h0.symm]
    · rw [if_neg h0, if_neg (fun h => h0 h.symm)]
theorem txt_al : ∀ (m : Nat) (xs ys : List Tn), xs.length + ys.length ≤ m → AlL (txt m xs ys) xs ys (least costP xs ys) := by
  intro m
  induction m with
  | zero =>
    intro xs ys h
    obtain rfl := List.eq_nil_of_length_eq_zero (show xs.length = 0 by omega)
    obtain rfl := List.eq_nil_of_length_eq_zero (show ys.length = 0 by omega)
    exact AlL.nil.eq (least_nn costP).symm
  | succ m ih =>
    intro xs ys hm
    by_cases h : xs.length = 0 ∧ ys.length = 0
    · rw [txt_end h]
      obtain rfl := List.eq_nil_of_length_eq_zero h.1
      obtain rfl := List.eq_nil_of_length_eq_zero h.2
      exact AlL.nil.eq (least_nn costP).symm
    by_cases h1 : (use1 xs ys).2.2.2 = true ∧ 2 + least costP xs (ys.drop 1) = least costP xs ys
    · rw [txt_go h (v := 105) (dx := 0) (dy := 1) (by unfold letterOf; rw [if_pos h1]) rfl rfl]
      cases ys with
      | nil => exact absurd h1.1 (by simp [use1])
      | cons y ys => exact (AlL.ins y (ih xs ys (by simp at hm; omega))).eq h1.2
    by_cases h2 : (use2 xs ys).2.2.2 = true ∧ least costP (xs.drop 1) (ys.drop 1) = least costP xs ys
    · rw [txt_go h (v := 107) (dx := 1) (dy := 1) (by unfold letterOf; rw [if_neg h1, if_pos h2]) rfl rfl]
      cases xs with
      | nil => exact absurd h2.1 (by simp [use2])
      | cons x xs => cases ys with
        | nil => exact absurd h2.1 (by simp [use2])
        | cons y ys => exact (AlL.keep x y (by simpa [use2] using h2.1) (ih xs ys (by simp at hm; omega))).eq (by rw [← h2.2]; simp)
    by_cases h3 : (use3 xs ys).2.2.2 = true ∧ 2 + least costP (xs.drop 1) ys = least costP xs ys
    · rw [txt_go h (v := 111) (dx := 1) (dy := 0) (by unfold letterOf; rw [if_neg h1, if_neg h2, if_pos h3]) rfl rfl]
      cases xs with
      | nil => exact absurd h3.1 (by simp [use3])
      | cons x xs => exact (AlL.om x (ih xs ys (by simp at hm; omega))).eq h3.2
    · rw [txt_go h (v := 114) (dx := 1) (dy := 1) (by unfold letterOf; rw [if_neg h1, if_neg h2, if_neg h3]) rfl rfl]
      obtain ⟨x, xs', y, ys', rfl, rfl, he, hl⟩ := last_way xs ys h h1 h2 h3
      exact (AlL.repl x y he (ih xs' ys' (by simp at hm; omega))).eq hl
def leL : List Int → List Int → Prop
  | [], _ => True
  | _ :: _, [] => False
  | a :: x, b :: y => a < b ∨ a = b ∧ leL x y
theorem txt_least {cs : List Int} {xs ys : List Tn} {n : Int} (h : AlL cs xs ys n) : ∀ m, xs.length + ys.length ≤ m → n = least costP xs ys → leL (txt m xs ys) cs := by
  induction h with
  | nil => intro m _ _; rw [txt_end ⟨rfl, rfl⟩]; exact trivial
  | @ins y cs xs ys n h ih =>
    intro m hm e
    obtain ⟨m, rfl⟩ : ∃ k, m = k + 1 := ⟨m - 1, by simp at hm; omega⟩
    have h1 := h.le
    have h2 : least costP xs (y :: ys) ≤ 2 + least costP xs ys := least_le_ins costP y xs ys
    rw [txt_go (fun h => by simp at h) (v := 105) (dx := 0) (dy := 1) (by unfold letterOf; rw [if_pos ⟨by simp [use1], by show 2 + least costP xs ys = _; omega⟩]) rfl rfl]
    exact .inr ⟨rfl, ih m (by simp at hm; omega) (by omega)⟩
  | @keep x y cs xs ys n he h ih =>
    intro m hm e
    obtain ⟨m, rfl⟩ : ∃ k, m = k + 1 := ⟨m - 1, by simp at hm; omega⟩
    have h1 := h.le
    have h2 : least costP (x :: xs) (y :: ys) ≤ costP.both x y + least costP xs ys := least_le_both costP x y xs ys
    rw [both_keep he] at h2
    by_cases c1 : (use1 (x :: xs) (y :: ys)).2.2.2 = true ∧ 2 + least costP (x :: xs) ((y :: ys).drop 1) = least costP (x :: xs) (y :: ys)
    · rw [txt_go (fun h => by simp at h) (v := 105) (dx := 0) (dy := 1) (by unfold letterOf; rw [if_pos c1]) rfl rfl]
      exact .inl (by decide)
    · rw [txt_go (fun h => by simp at h) (v := 107) (dx := 1) (dy := 1) (by unfold letterOf; rw [if_neg c1, if_pos ⟨by simp [use2, he], by show least costP xs ys = _; omega⟩]) rfl rfl]
      exact .inr ⟨rfl, ih m (by simp at hm; omega) (by omega)⟩
  | @om x cs xs ys n h ih =>
    intro m hm e
    obtain ⟨m, rfl⟩ : ∃ k, m = k + 1 := ⟨m - 1, by simp at hm; omega⟩
    have h1 := h.le
    have h2 : least costP (x :: xs) ys ≤ 2 + least costP xs ys := least_le_om costP x xs ys
    by_cases c1 : (use1 (x :: xs) ys).2.2.2 = true ∧ 2 + least costP (x :: xs) (ys.drop 1) = least costP (x :: xs) ys
    · rw [txt_go (fun h => by simp at h) (v := 105) (dx := 0) (dy := 1) (by unfold letterOf; rw [if_pos c1]) rfl rfl]
      exact .inl (by decide)
    by_cases c2 : (use2 (x :: xs) ys).2.2.2 = true ∧ least costP ((x :: xs).drop 1) (ys.drop 1) = least costP (x :: xs) ys
    · rw [txt_go (fun h => by simp at h) (v := 107) (dx := 1) (dy := 1) (by unfold letterOf; rw [if_neg c1, if_pos c2]) rfl rfl]
      exact .inl (by decide)
    · rw [txt_go (fun h => by simp at h) (v := 111) (dx := 1) (dy := 0) (by unfold letterOf; rw [if_neg c1, if_neg c2, if_pos ⟨by simp [use3], by show 2 + least costP xs ys = _; omega⟩]) rfl rfl]
      exact .inr ⟨rfl, ih m (by simp at hm; omega) (by omega)⟩
  | @repl x y cs xs ys n he h ih =>
    intro m hm e
    obtain ⟨m, rfl⟩ : ∃ k, m = k + 1 := ⟨m - 1, by simp at hm; omega⟩
    have h1 := h.le
    have h2 : least costP (x :: xs) (y :: ys) ≤ costP.both x y + least costP xs ys := least_le_both costP x y xs ys
    rw [both_repl he] at h2
    by_cases c1 : (use1 (x :: xs) (y :: ys)).2.2.2 = true ∧ 2 + least costP (x :: xs) ((y :: ys).drop 1) = least costP (x :: xs) (y :: ys)
    · rw [txt_go (fun h => by simp at h) (v := 105) (dx := 0) (dy := 1) (by unfold letterOf; rw [if_pos c1]) rfl rfl]
      exact .inl (by decide)
    by_cases c2 : (use2 (x :: xs) (y :: ys)).2.2.2 = true ∧ least costP ((x :: xs).drop 1) ((y :: ys).drop 1) = least costP (x :: xs) (y :: ys)
    · rw [txt_go (fun h => by simp at h) (v := 107) (dx := 1) (dy := 1) (by unfold letterOf; rw [if_neg c1, if_pos c2]) rfl rfl]
      exact .inl (by decide)
    by_cases c3 : (use3 (x :: xs) (y :: ys)).2.2.2 = true ∧ 2 + least costP ((x :: xs).drop 1) (y :: ys) = least costP (x :: xs) (y :: ys)
    · rw [txt_go (fun h => by simp at h) (v := 111) (dx := 1) (dy := 0) (by unfold letterOf; rw [if_neg c1, if_neg c2, if_pos c3]) rfl rfl]
      exact .inl (by decide)
    · rw [txt_go (fun h => by simp at h) (v := 114) (dx := 1) (dy := 1) (by unfold letterOf; rw [if_neg c1, if_neg c2, if_neg c3]) rfl rfl]
      exact .inr ⟨rfl, ih m (by simp at hm; omega) (by omega)⟩
end Go.Proofs.Ythpeiboobnnfgaa.Pur
end
section
namespace Go.Proofs.Ythpeiboobnnfgaa.Pur
open Go.RowKit Go.Proofs.YthpeiboobnnfgaaW.PrintWords Go.Proofs.YthpeiboobnnfgaaW.PrintMore Go.Proofs.Ythpeiboobnnfgaa.E
def okB (B : List Int) : Prop := B.length ≤ 2000 ∧ ∀ x ∈ B, 0 ≤ x ∧ x ≤ 255
theorem byte_range {x : Int} (h : (Lit.int .u8 x).wf = true) : 0 ≤ x ∧ x ≤ 255 := by
  simp [Lit.wf, IntKind.min, IntKind.max, IntKind.signed, IntKind.bits] at h
  omega
theorem okB_rd {B : List Int} (h : okB B) (i : Int) : 0 ≤ rd B i ∧ rd B i ≤ 255 := by
  unfold rd
  rw [List.getD_eq_getElem?_getD]
  cases e : B[i.toNat]? with
  | none => simp
  | some v => simpa using h.2 v (List.mem_of_getElem? e)
theorem open_code (l : List Int) (h : ∀ x ∈ l, (Lit.int .u8 x).wf = true) : EvP (fun _ => spec_l6Open.f l) (fun r => okB r.1 ∧ r.2 = 0) := by
  unfold spec_l6Open.f
  refine EvP.ite (fun h1 => EvP.yes (by omega) (EvP.ret ⟨⟨by simp; omega, fun x hx => byte_range (h x (List.mem_of_mem_take hx))⟩, rfl⟩)) (fun h1 => EvP.ret ⟨⟨by dsimp only; omega, fun x hx => byte_range (h x hx)⟩, rfl⟩)
theorem xor_nn {x y : Int} (hx : 0 ≤ x) (hx' : x < 4611686018427387904) (hy : 0 ≤ y) (hy' : y < 4611686018427387904) : 0 ≤ Go.bits .xor .i64 x y := by
  obtain ⟨a, rfl⟩ := Int.eq_ofNat_of_zero_le hx
  obtain ⟨b, rfl⟩ := Int.eq_ofNat_of_zero_le hy
  have ha : a < 2 ^ 62 := by omega
  have hb : b < 2 ^ 62 := by omega
  have hx : a ^^^ b < 2 ^ 62 := Nat.xor_lt_two_pow ha hb
  have ea : a % 2 ^ IntKind.i64.bits = a := Nat.mod_eq_of_lt (by simp [IntKind.bits]; omega)
  have eb : b % 2 ^ IntKind.i64.bits = b := Nat.mod_eq_of_lt (by simp [IntKind.bits]; omega)
  simp only [Go.bits, BitVec.ofInt_natCast, BitVec.toNat_xor, BitVec.toNat_ofNat, ea, eb]
  rw [IntKind.wrap_i64]
  omega
theorem mix_ok (E n : Int) (h0 : 0 ≤ E) (h1 : E < 4611686018427387904) (hn : 1 ≤ n) :
    0 ≤ Int.tmod (Go.bits .xor .i64 E (wrap64 (Int.tdiv E 64))) n ∧ Int.tmod (Go.bits .xor .i64 E (wrap64 (Int.tdiv E 64))) n < n := by
  have hd : Int.tdiv E 64 = E / 64 := tdiv_pos 64 h0
  have h2 := xor_nn h0 h1 (y := wrap64 (Int.tdiv E 64)) (by rw [hd, w64 (by omega) (by omega)]; omega) (by rw [hd, w64 (by omega) (by omega)]; omega)
  exact ⟨Int.tmod_nonneg n h2, Int.tmod_lt_of_pos _ (by omega)⟩
theorem mixE (r1 r2 p q : Int) (a1 : 0 ≤ r1 ∧ r1 ≤ 255) (a2 : 0 ≤ r2 ∧ r2 ≤ 255) (hp : 0 ≤ p ∧ p ≤ 1000000000) (hq : 0 ≤ q ∧ q ≤ 1000000000) :
    (wrap64 ((wrap64 ((wrap64 ((wrap64 ((wrap64 r1) * 131)) + (wrap64 ((wrap64 r2) * 1117)))) + (wrap64 (p * 29)))) + (wrap64 ((wrap64 q) * 53)))) = r1 * 131 + r2 * 1117 + p * 29 + q * 53 := by
  rw [w64 (i := r1) (by omega) (by omega), w64 (i := r2) (by omega) (by omega), w64 (i := q) (by omega) (by omega), w64 (i := r1 * 131) (by omega) (by omega), w64 (i := r2 * 1117) (by omega) (by omega), w64 (i := p * 29) (by omega) (by omega),
    w64 (i := q * 53) (by omega) (by omega), w64 (i := r1 * 131 + r2 * 1117) (by omega) (by omega), w64 (i := r1 * 131 + r2 * 1117 + p * 29) (by omega) (by omega), w64 (by omega) (by omega)]
theorem pick_ok {B : List Int} (hB : okB B) (p n : Int) (hp : 0 ≤ p ∧ p ≤ 100000000) (hn : 1 ≤ n ∧ n ≤ 1000000) : EvP (fun k => spec_l6Rd_pick.f k B p n) (fun r => 0 ≤ r.1 ∧ r.1 < n ∧ r.2 = p + 1) := by
  unfold spec_l6Rd_pick.f
  have e1 : wrap64 (p + 1) = p + 1 := w64 (by omega) (by omega)
  have e2 : wrap64 (p + 1 - 1) = p := by rw [w64 (by omega) (by omega)]; omega
  have hl := hB.1
  rw [e1]
  refine EvP.no (by omega) ?_
  refine EvP.succ ?_
  simp only [spec_l6Rd_pick.j0, e2]
  clear e1 e2
  refine EvP.ite (fun h0 => EvP.ret ⟨by omega, by dsimp only; omega, rfl⟩) (fun h0 => ?_)
  have hpos : 0 < (B.length : Int) := by
    rw [beq_iff_eq] at h0
    omega
  refine EvP.ite (fun h1 => ?_) (fun h1 => ?_)
  · have hr := okB_rd hB p
    refine EvP.yes (by omega) (EvP.no (by omega) (EvP.ret ⟨?_, ?_, rfl⟩))
    · rw [w64 (by omega) (by omega)]; exact Int.tmod_nonneg n hr.1
    · exact Int.tmod_lt_of_pos _ (by omega)
  · refine EvP.no (by omega) ?_
    have m1 : Int.tmod p (B.length : Int) = p % (B.length : Int) := tmod_pos _ hp.1
    have hm1 : 0 ≤ Int.tmod p (B.length : Int) ∧ Int.tmod p (B.length : Int) < (B.length : Int) := by rw [m1]; exact ⟨Int.emod_nonneg _ (by omega), Int.emod_lt_of_pos _ hpos⟩
    have e3 : wrap64 ((wrap64 (p * 7)) + 3) = p * 7 + 3 := by rw [w64 (i := p * 7) (by omega) (by omega), w64 (by omega) (by omega)]
    rw [e3]
    clear e3
    have hm2 : 0 ≤ Int.tmod (p * 7 + 3) (B.length : Int) ∧ Int.tmod (p * 7 + 3) (B.length : Int) < (B.length : Int) := by rw [tmod_pos _ (by omega)]; exact ⟨Int.emod_nonneg _ (by omega), Int.emod_lt_of_pos _ hpos⟩
    have hq : 0 ≤ Int.tdiv p (B.length : Int) ∧ Int.tdiv p (B.length : Int) ≤ 1000000000 := by
      rw [tdiv_pos _ hp.1]
      have := Int.ediv_le_self (B.length : Int) hp.1
      exact ⟨Int.ediv_nonneg hp.1 (by omega), by omega⟩
    have a1 := okB_rd hB (Int.tmod p (B.length : Int))
    have a2 := okB_rd hB (Int.tmod (p * 7 + 3) (B.length : Int))
    refine EvP.yes hm1.1 (EvP.yes hm1.2 (EvP.yes hm2.1 (EvP.yes hm2.2 (EvP.no (by omega) ?_))))
    rw [mixE _ _ p _ a1 a2 (by omega) hq]
    have := mix_ok (rd B (Int.tmod p (B.length : Int)) * 131 + rd B (Int.tmod (p * 7 + 3) (B.length : Int)) * 1117 + p * 29 + Int.tdiv p (B.length : Int) * 53) n (by omega) (by omega) hn.1
    exact EvP.ret ⟨this.1, this.2, rfl⟩
end Go.Proofs.Ythpeiboobnnfgaa.Pur
end
section
namespace Go.Proofs.Ythpeiboobnnfgaa.Pur
open Go.RowKit Go.Proofs.YthpeiboobnnfgaaW.PrintWords Go.Proofs.YthpeiboobnnfgaaW.PrintMore Go.Proofs.Ythpeiboobnnfgaa.E
theorem step_in {v : Int} : 1 ≤ mx 1 (mn 15 v) ∧ mx 1 (mn 15 v) ≤ 15 := by unfold mx mn; omega
theorem melody_loop {B : List Int} (hB : okB B) (n : Int) (hn : 0 ≤ n ∧ n ≤ 200) : ∀ (d : Nat) (i : Int) (acc : List S36) (s p : Int), 0 ≤ i → i + d = n → (acc.length : Int) = i → 1 ≤ s → s ≤ 15 → 0 ≤ p → p ≤ 1000000 - 10 * d →
    EvP (fun k => spec_l91Melody.l0 k acc n s i B p) (fun r => (r.1.length : Int) = n ∧ 0 ≤ r.2 ∧ r.2 ≤ p + 2 * d + 2) := by
  intro d
  induction d with
  | zero =>
    intro i acc s p hi hd ha hs0 hs1 hp0 hp1
    refine EvP.succ ?_
    simp only [spec_l91Melody.l0]
    refine EvP.no (by omega) ?_
    refine EvP.ite (fun hpos => ?_) (fun _ => EvP.ret ⟨by dsimp only; omega, hp0, by dsimp only; omega⟩)
    refine EvP.bind (pick_ok hB p 50 (by omega) (by omega)) (fun r hr => ?_)
    refine EvP.ite (fun _ => ?_) (fun _ => EvP.ite (fun _ => ?_) (fun _ => EvP.ret ⟨by dsimp only; omega, by dsimp only; omega, by dsimp only; omega⟩))
    · refine EvP.bind (P := (· = [(-1), 21, 20])) (EvP.con rfl rfl) (fun _ e => ?_)
      subst e
      refine EvP.bind (pick_ok hB r.2 3 (by omega) (by omega)) (fun q hq => ?_)
      have h3 : (([(-1), 21, 20] : List Int).length : Int) = 3 := rfl
      exact EvP.yes hq.1 (EvP.yes (by omega) (EvP.yes (by omega) (EvP.ret ⟨by simp; omega, by dsimp only; omega, by dsimp only; omega⟩)))
    · rw [w64 (by omega) (by omega)]
      exact EvP.yes (by omega) (EvP.yes (by omega) (EvP.ret ⟨by simp; omega, by dsimp only; omega, by dsimp only; omega⟩))
  | succ d ih =>
    intro i acc s p hi hd ha hs0 hs1 hp0 hp1
    refine EvP.succ ?_
    simp only [spec_l91Melody.l0]
    refine EvP.yes (by omega) ?_
    refine EvP.bind (P := (· = Int.tmod s 7)) (EvP.con rfl rfl) (fun _ e => ?_)
    subst e
    have ei : Hd (wrap64 (i + 1) = i + 1) := ⟨w64 (by omega) (by omega)⟩
    refine EvP.ite (fun _ => ?_) (fun _ => ?_)
    · refine EvP.bind (pick_ok hB p 3 (by omega) (by omega)) (fun r hr => ?_)
      refine EvP.yes (by omega) ?_
      refine EvP.bind (pick_ok hB r.2 5 (by omega) (by omega)) (fun q hq => ?_)
      rw [ei.out]
      have sn := step_in (v := wrap64 ((wrap64 (s + q.1)) - 2))
      refine (ih (i + 1) _ _ q.2 (by omega) (by omega) (by simp; omega) sn.1 sn.2 (by omega) (by omega)).mono (fun r' h => ⟨h.1, h.2.1, by omega⟩)
    · refine EvP.yes (by omega) ?_
      refine EvP.bind (pick_ok hB p 5 (by omega) (by omega)) (fun q hq => ?_)
      rw [ei.out]
      have sn := step_in (v := wrap64 ((wrap64 (s + q.1)) - 2))
      refine (ih (i + 1) _ _ q.2 (by omega) (by omega) (by simp; omega) sn.1 sn.2 (by omega) (by omega)).mono (fun r' h => ⟨h.1, h.2.1, by omega⟩)
theorem melody_ok {B : List Int} (hB : okB B) (p most : Int) (hp : 0 ≤ p ∧ p ≤ 100000) (hm : 0 ≤ most ∧ most ≤ 100) :
    EvP (fun k => spec_l91Melody.f k B p most) (fun r => (r.1.length : Int) ≤ most ∧ 0 ≤ r.2 ∧ r.2 ≤ p + 2 * most + 4) := by
  unfold spec_l91Melody.f
  rw [w64 (by omega) (by omega)]
  refine EvP.bind (pick_ok hB p (most + 1) (by omega) (by omega)) (fun r hr => ?_)
  refine EvP.bind (pick_ok hB r.2 5 (by omega) (by omega)) (fun q hq => ?_)
  rw [w64 (by omega) (by omega)]
  obtain ⟨d, hd⟩ := Int.eq_ofNat_of_zero_le hr.1
  refine (melody_loop hB r.1 (by omega) d 0 [] _ q.2 (by omega) (by omega) rfl (by omega) (by omega) (by omega) (by omega)).mono (fun r' h => ⟨by omega, h.2.1, by omega⟩)
end Go.Proofs.Ythpeiboobnnfgaa.Pur
end
section
namespace Go.Proofs.Ythpeiboobnnfgaa.Pur
open Go.RowKit Go.Proofs.YthpeiboobnnfgaaW.PrintWords Go.Proofs.YthpeiboobnnfgaaW.PrintMore Go.Proofs.Ythpeiboobnnfgaa.E Go.Proofs.Ythpeiboobnnfgaa.Ed
theorem strOf_snoc (l : List Int) (v : Int) : strOfNums (l ++ [v]) = strOfNums l ++ (⟨#[UInt8.ofNat v.toNat]⟩ : ByteArray) := by
  apply ByteArray.ext
  rw [ByteArray.data_append]
  simp [strOfNums]
theorem len_txt : ∀ (m : Nat) (xs ys : List Tn), (txt m xs ys).length ≤ m := by
  intro m
  induction m with
  | zero => intro xs ys; simp [txt]
  | succ m ih =>
    intro xs ys
    rw [txt]
    split
    · simp
    · rw [List.length_cons]; have := ih (xs.drop (if letterOf xs ys = 105 then 0 else 1)) (ys.drop (if letterOf xs ys = 111 then 0 else 1)); omega
section
variable (a b : List Tn) (ha : a.length ≤ 24) (hb : b.length ≤ 24) {x : List (List Int)} (F : Full costP a b x)
include ha hb F
theorem tab_at (i k : Nat) (hi : i ≤ a.length) (hk : k ≤ b.length) : (i : Int) < (x.length : Int) ∧ (k : Int) < ((rd_L4 x (i : Int)).length : Int) ∧ rd (rd_L4 x (i : Int)) (k : Int) = least costP (a.drop i) (b.drop k) ∧ 0 ≤ least costP (a.drop i) (b.drop k) ∧ least costP (a.drop i) (b.drop k) ≤ 96 := by
  have h1 := F.len
  have h2 : (rd_L4 x (i : Int)).length = b.length + 1 := F.row i hi
  have h3 := cost_bd (a.drop i) (b.drop k)
  simp only [drop_len] at h3
  exact ⟨by omega, by omega, by rw [rd_T]; exact F.told i k hi hk, h3.1, by omega⟩
omit ha hb F in
theorem passE (Q : ByteArray × Bool → Prop) (i k : Nat) (hi : i ≤ a.length) (hk : k ≤ b.length) (acc : List Int) (j : Nat) (hj : j < 4) (e : Int) (he : rd [1, 2, 3, 4] (j : Int) = e) (u : Int × Int × Int × Bool)
    (hu : EvP (fun n => impl_useOf.f n e (a.drop i) (b.drop k)) (· = u)) (ho : u.2.2.2 = false)
    (K : EvP (fun n => impl_EditText.l1 n a b x acc (i : Int) (k : Int) [1, 2, 3, 4] (([1, 2, 3, 4] : List Int).length : Int) ((j + 1 : Nat) : Int)) Q) :
    EvP (fun n => impl_EditText.l1 n a b x acc (i : Int) (k : Int) [1, 2, 3, 4] (([1, 2, 3, 4] : List Int).length : Int) (j : Int)) Q := by
  have hl : ([1, 2, 3, 4] : List Int).length = 4 := rfl
  refine EvP.succ ?_
  simp only [impl_EditText.l1]
  refine EvP.yes (by omega) (EvP.yes (by omega) (EvP.yes (by omega) (EvP.yes (by omega) (EvP.yes (by omega) (EvP.yes (by omega) (EvP.yes (by omega) ?_))))))
  rw [he]
  refine EvP.bind (P := (· = u)) hu (fun _ h => ?_)
  subst h
  refine EvP.no (by rw [ho]; simp) ?_
  rw [w64 (by omega) (by omega)]
  exact K
theorem tryE (Q : ByteArray × Bool → Prop) (i k : Nat) (hi : i ≤ a.length) (hk : k ≤ b.length) (acc : List Int) (hacc : acc.length ≤ 48) (j : Nat) (hj : j < 4) (e : Int) (he : rd [1, 2, 3, 4] (j : Int) = e) (s1 s2 : Nat) (c : Int)
    (hu : EvP (fun n => impl_useOf.f n e (a.drop i) (b.drop k)) (· = ((s1 : Int), (s2 : Int), c, true))) (h1 : i + s1 ≤ a.length) (h2 : k + s2 ≤ b.length) (hc : 0 ≤ c ∧ c ≤ 3) (v : Int) (hv : en63_letter.f e = some v)
    (Y : c + least costP (a.drop (i + s1)) (b.drop (k + s2)) = least costP (a.drop i) (b.drop k) → EvP (fun n => impl_EditText.l0 n a b x (acc ++ [v]) ((i + s1 : Nat) : Int) ((k + s2 : Nat) : Int)) Q)
    (K : ¬ c + least costP (a.drop (i + s1)) (b.drop (k + s2)) = least costP (a.drop i) (b.drop k) → EvP (fun n => impl_EditText.l1 n a b x acc (i : Int) (k : Int) [1, 2, 3, 4] (([1, 2, 3, 4] : List Int).length : Int) ((j + 1 : Nat) : Int)) Q) :
    EvP (fun n => impl_EditText.l1 n a b x acc (i : Int) (k : Int) [1, 2, 3, 4] (([1, 2, 3, 4] : List Int).length : Int) (j : Int)) Q := by
  have hl : ([1, 2, 3, 4] : List Int).length = 4 := rfl
  obtain ⟨t1, t2, t3, t4, t5⟩ := tab_at a b ha hb F i k hi hk
  obtain ⟨r1, r2, r3, r4, r5⟩ := tab_at a b ha hb F (i + s1) (k + s2) h1 h2
  refine EvP.succ ?_
  simp only [impl_EditText.l1]
  refine EvP.yes (by omega) (EvP.yes (by omega) (EvP.yes (by omega) (EvP.yes (by omega) (EvP.yes (by omega) (EvP.yes (by omega) (EvP.yes (by omega) ?_))))))
  rw [he]
  refine EvP.bind (P := (· = ((s1 : Int), (s2 : Int), c, true))) hu (fun _ h => ?_)
  subst h
  refine EvP.yes rfl ?_
  have e1 : Hd (wrap64 ((i : Int) + (s1 : Int)) = ((i + s1 : Nat) : Int)) := Hd.mk (w64 (by omega) (by omega))
  have e2 : Hd (wrap64 ((k : Int) + (s2 : Int)) = ((k + s2 : Nat) : Int)) := Hd.mk (w64 (by omega) (by omega))
  have ej : Hd (wrap64 ((j : Int) + 1) = ((j + 1 : Nat) : Int)) := Hd.mk (w64 (by omega) (by omega))
  have ev : Hd (wrap64 (c + least costP (a.drop (i + s1)) (b.drop (k + s2))) = c + least costP (a.drop (i + s1)) (b.drop (k + s2))) := Hd.mk (w64 (by omega) (by omega))
  simp only [e1.out, e2.out, ej.out]
  refine EvP.yes (by omega) (EvP.yes r1 (EvP.yes (by omega) (EvP.yes r2 (EvP.yes t1 (EvP.yes t2 ?_)))))
  rw [r3, t3, ev.out]
  refine EvP.ite (fun h => ?_) (fun h => K h)
  refine EvP.bind (P := (· = v)) (EvP.con hv rfl) (fun _ h' => ?_)
  subst h'
  exact EvP.yes (by omega) (Y h)
theorem impl_walk : ∀ (m i k : Nat) (acc : List Int), i ≤ a.length → k ≤ b.length → (a.length - i) + (b.length - k) ≤ m → acc.length + m ≤ 48 →
    EvP (fun n => impl_EditText.l0 n a b x acc (i : Int) (k : Int)) (· = (strOfNums (acc ++ txt m (a.drop i) (b.drop k)), true)) := by
  intro m
  induction m with
  | zero =>
    intro i k acc hi hk hm hacc
    refine EvP.succ ?_
    simp only [impl_EditText.l0]
    refine EvP.no (by omega) ?_
    rw [decide_eq_false (by omega)]
    refine EvP.succ ?_
    simp only [impl_EditText.j2]
    exact EvP.no (by decide) (EvP.ret (by rw [txt, List.append_nil]))
  | succ m ih =>
    intro i k acc hi hk hm hacc
    have la := drop_len (a := a) i
    have lb := drop_len (a := b) k
    by_cases h0 : i = a.length ∧ k = b.length
    · refine EvP.succ ?_
      simp only [impl_EditText.l0]
      refine EvP.no (by omega) ?_
      rw [decide_eq_false (by omega)]
      refine EvP.succ ?_
      simp only [impl_EditText.j2]
      exact EvP.no (by decide) (EvP.ret (by rw [txt_end (by omega), List.append_nil]))
    have h : ¬ ((a.drop i).length = 0 ∧ (b.drop k).length = 0) := by omega
    have W : EvP (fun n => impl_EditText.j2 n a b x acc (i : Int) (k : Int) true) (· = (strOfNums (acc ++ txt (m + 1) (a.drop i) (b.drop k)), true)) := by
      refine EvP.succ ?_
      simp only [impl_EditText.j2]
      refine EvP.yes trivial ?_
      refine EvP.bind (P := (· = [1, 2, 3, 4])) (EvP.con rfl rfl) (fun _ e => ?_)
      subst e
      obtain ⟨u1, u2, u3, u4⟩ := use_ok (a.drop i) (b.drop k)
      have fin : ∀ (v : Int) (dx dy : Nat), letterOf (a.drop i) (b.drop k) = v → (if v = 105 then 0 else 1) = dx → (if v = 111 then 0 else 1) = dy → i + dx ≤ a.length → k + dy ≤ b.length → 0 < dx + dy →
          EvP (fun n => impl_EditText.l0 n a b x (acc ++ [v]) ((i + dx : Nat) : Int) ((k + dy : Nat) : Int)) (· = (strOfNums (acc ++ txt (m + 1) (a.drop i) (b.drop k)), true)) := by
        intro v dx dy hv hx hy hix hky hpos
        have := ih (i + dx) (k + dy) (acc ++ [v]) hix hky (by omega) (by simp; omega)
        rw [txt_go h hv hx hy, List.drop_drop, List.drop_drop]
        rw [List.append_assoc] at this
        exact this
      have S4 : ¬ ((use1 (a.drop i) (b.drop k)).2.2.2 = true ∧ 2 + least costP (a.drop i) ((b.drop k).drop 1) = least costP (a.drop i) (b.drop k)) → ¬ ((use2 (a.drop i) (b.drop k)).2.2.2 = true ∧ least costP ((a.drop i).drop 1) ((b.drop k).drop 1) = least costP (a.drop i) (b.drop k)) →
          ¬ ((use3 (a.drop i) (b.drop k)).2.2.2 = true ∧ 2 + least costP ((a.drop i).drop 1) (b.drop k) = least costP (a.drop i) (b.drop k)) →
          EvP (fun n => impl_EditText.l1 n a b x acc (i : Int) (k : Int) [1, 2, 3, 4] (([1, 2, 3, 4] : List Int).length : Int) ((3 : Nat) : Int)) (· = (strOfNums (acc ++ txt (m + 1) (a.drop i) (b.drop k)), true)) := by
        intro h1 h2 h3
        obtain ⟨x', xs', y', ys', ex, ey, he, hl⟩ := last_way _ _ h h1 h2 h3
        have e4 : use4 (a.drop i) (b.drop k) = (((1 : Nat) : Int), ((1 : Nat) : Int), (if x'.f0 = y'.f0 then 1 else 3), true) := by rw [ex, ey]; exact use4_not _ _ _ _ he
        rw [e4] at u4
        have lx := congrArg List.length ex
        have ly := congrArg List.length ey
        rw [List.length_cons] at lx ly
        have hd : least costP (a.drop (i + 1)) (b.drop (k + 1)) = least costP xs' ys' := by
          rw [← List.drop_drop, ← List.drop_drop, ex, ey]; rfl
        refine tryE a b ha hb F _ i k hi hk acc (by omega) 3 (by omega) 4 rfl 1 1 _ u4 (by omega) (by omega) (by split <;> omega) 114 rfl (fun _ => ?_) (fun hn => absurd (by rw [hd]; exact hl) hn)
        exact fin 114 1 1 (by unfold letterOf; rw [if_neg h1, if_neg h2, if_neg h3]) rfl rfl (by omega) (by omega) (by omega)
      have S3 : ¬ ((use1 (a.drop i) (b.drop k)).2.2.2 = true ∧ 2 + least costP (a.drop i) ((b.drop k).drop 1) = least costP (a.drop i) (b.drop k)) → ¬ ((use2 (a.drop i) (b.drop k)).2.2.2 = true ∧ least costP ((a.drop i).drop 1) ((b.drop k).drop 1) = least costP (a.drop i) (b.drop k)) →
          EvP (fun n => impl_EditText.l1 n a b x acc (i : Int) (k : Int) [1, 2, 3, 4] (([1, 2, 3, 4] : List Int).length : Int) ((2 : Nat) : Int)) (· = (strOfNums (acc ++ txt (m + 1) (a.drop i) (b.drop k)), true)) := by
        intro h1 h2
        by_cases hx : i < a.length
        · have e3 := use3_true (a.drop i) (b.drop k) (by omega)
          rw [e3] at u3
          refine tryE a b ha hb F _ i k hi hk acc (by omega) 2 (by omega) 3 rfl 1 0 2 u3 (by omega) (by omega) (by omega) 111 rfl (fun hl => ?_) (fun hn => S4 h1 h2 (fun hh => hn (by have := hh.2; rw [List.drop_drop] at this; exact this)))
          exact fin 111 1 0 (by unfold letterOf; rw [if_neg h1, if_neg h2, if_pos ⟨by rw [e3], by rw [List.drop_drop]; exact hl⟩]) rfl rfl (by omega) (by omega) (by omega)
        · have e3 := use3_false (a.drop i) (b.drop k) (by omega)
          exact passE a b _ i k hi hk acc 2 (by omega) 3 rfl _ u3 e3 (S4 h1 h2 (fun hh => by rw [e3] at hh; exact Bool.noConfusion hh.1))
      have S2 : ¬ ((use1 (a.drop i) (b.drop k)).2.2.2 = true ∧ 2 + least costP (a.drop i) ((b.drop k).drop 1) = least costP (a.drop i) (b.drop k)) →
          EvP (fun n => impl_EditText.l1 n a b x acc (i : Int) (k : Int) [1, 2, 3, 4] (([1, 2, 3, 4] : List Int).length : Int) ((1 : Nat) : Int)) (· = (strOfNums (acc ++ txt (m + 1) (a.drop i) (b.drop k)), true)) := by
        intro h1
        by_cases hu : (use2 (a.drop i) (b.drop k)).2.2.2 = true
        · obtain ⟨hx, hy, e2⟩ : i < a.length ∧ k < b.length ∧ use2 (a.drop i) (b.drop k) = (((1 : Nat) : Int), ((1 : Nat) : Int), 0, true) := by
            by_cases hz : i < a.length ∧ k < b.length
            · refine ⟨hz.1, hz.2, ?_⟩
              rw [drop_cons hz.1, drop_cons hz.2] at hu ⊢
              by_cases he : eqT a[i] b[k] = true
              · exact use2_same _ _ _ _ he
              · rw [use2_not _ _ _ _ he] at hu; exact absurd hu (by decide)
            · rw [use2_nil _ _ (by omega)] at hu; exact absurd hu (by decide)
          rw [e2] at u2
          refine tryE a b ha hb F _ i k hi hk acc (by omega) 1 (by omega) 2 rfl 1 1 0 u2 (by omega) (by omega) (by omega) 107 rfl (fun hl => ?_) (fun hn => S3 h1 (fun hh => hn (by have := hh.2; rw [List.drop_drop, List.drop_drop] at this; rw [Int.zero_add]; exact this)))
          exact fin 107 1 1 (by unfold letterOf; rw [if_neg h1, if_pos ⟨hu, by rw [List.drop_drop, List.drop_drop]; rw [Int.zero_add] at hl; exact hl⟩]) rfl rfl (by omega) (by omega) (by omega)
        · exact passE a b _ i k hi hk acc 1 (by omega) 2 rfl _ u2 (Bool.eq_false_iff.mpr hu) (S3 h1 (fun hh => hu hh.1))
      show EvP (fun n => impl_EditText.l1 n a b x acc (i : Int) (k : Int) [1, 2, 3, 4] (([1, 2, 3, 4] : List Int).length : Int) ((0 : Nat) : Int)) _
      by_cases hy : k < b.length
      · have e1 := use1_true (a.drop i) (b.drop k) (by omega)
        rw [e1] at u1
        refine tryE a b ha hb F _ i k hi hk acc (by omega) 0 (by omega) 1 rfl 0 1 2 u1 (by omega) (by omega) (by omega) 105 rfl (fun hl => ?_) (fun hn => S2 (fun hh => hn (by have := hh.2; rw [List.drop_drop] at this; exact this)))
        exact fin 105 0 1 (by unfold letterOf; rw [if_pos ⟨by rw [e1], by rw [List.drop_drop]; exact hl⟩]) rfl rfl (by omega) (by omega) (by omega)
      · have e1 := use1_false (a.drop i) (b.drop k) (by omega)
        exact passE a b _ i k hi hk acc 0 (by omega) 1 rfl _ u1 e1 (S2 (fun hh => by rw [e1] at hh; exact Bool.noConfusion hh.1))
    refine EvP.succ ?_
    simp only [impl_EditText.l0]
    refine EvP.ite (fun _ => W) (fun h => ?_)
    rw [decide_eq_true (by omega)]
    exact W
theorem spec_walk : ∀ (m i k : Nat) (acc : List Int), i ≤ a.length → k ≤ b.length → (a.length - i) + (b.length - k) ≤ m → acc.length + m ≤ 48 →
    EvP (fun n => spec_EditText.l0 n a b x (strOfNums acc) (i : Int) (k : Int)) (· = (strOfNums (acc ++ txt m (a.drop i) (b.drop k)), true)) := by
  intro m
  induction m with
  | zero =>
    intro i k acc hi hk hm hacc
    refine EvP.succ ?_
    simp only [spec_EditText.l0]
    refine EvP.no (by omega) ?_
    rw [decide_eq_false (by omega)]
    refine EvP.succ ?_
    simp only [spec_EditText.j2]
    exact EvP.no (by decide) (EvP.ret (by rw [txt, List.append_nil]))
  | succ m ih =>
    intro i k acc hi hk hm hacc
    have la := drop_len (a := a) i
    have lb := drop_len (a := b) k
    have ls := strOfNums_size acc
    by_cases h0 : i = a.length ∧ k = b.length
    · refine EvP.succ ?_
      simp only [spec_EditText.l0]
      refine EvP.no (by omega) ?_
      rw [decide_eq_false (by omega)]
      refine EvP.succ ?_
      simp only [spec_EditText.j2]
      exact EvP.no (by decide) (EvP.ret (by rw [txt_end (by omega), List.append_nil]))
    have h : ¬ ((a.drop i).length = 0 ∧ (b.drop k).length = 0) := by omega
    obtain ⟨t1, t2, t3, t4, t5⟩ := tab_at a b ha hb F i k hi hk
    have ei : Hd (wrap64 ((i : Int) + 1) = ((i + 1 : Nat) : Int)) := Hd.mk (w64 (by omega) (by omega))
    have ek : Hd (wrap64 ((k : Int) + 1) = ((k + 1 : Nat) : Int)) := Hd.mk (w64 (by omega) (by omega))
    have fin : ∀ (v : Int) (dx dy : Nat), letterOf (a.drop i) (b.drop k) = v → (if v = 105 then 0 else 1) = dx → (if v = 111 then 0 else 1) = dy → i + dx ≤ a.length → k + dy ≤ b.length → 0 < dx + dy →
        EvP (fun n => spec_EditText.l0 n a b x (strOfNums acc ++ (⟨#[UInt8.ofNat v.toNat]⟩ : ByteArray)) ((i + dx : Nat) : Int) ((k + dy : Nat) : Int)) (· = (strOfNums (acc ++ txt (m + 1) (a.drop i) (b.drop k)), true)) := by
      intro v dx dy hv hx hy hix hky hpos
      have := ih (i + dx) (k + dy) (acc ++ [v]) hix hky (by omega) (by simp; omega)
      rw [txt_go h hv hx hy, List.drop_drop, List.drop_drop]
      rw [List.append_assoc, strOf_snoc] at this
      exact this
    have room : (strOfNums acc).size + 1 ≤ 9223372036854775807 := by omega
    have S4 : ∀ B : Bool, ¬ ((use1 (a.drop i) (b.drop k)).2.2.2 = true ∧ 2 + least costP (a.drop i) ((b.drop k).drop 1) = least costP (a.drop i) (b.drop k)) → (B = true ↔ ((use2 (a.drop i) (b.drop k)).2.2.2 = true ∧ least costP ((a.drop i).drop 1) ((b.drop k).drop 1) = least costP (a.drop i) (b.drop k))) →
        EvP (fun n => spec_EditText.j4 n a b x (strOfNums acc) (i : Int) (k : Int) (least costP (a.drop i) (b.drop k)) B) (· = (strOfNums (acc ++ txt (m + 1) (a.drop i) (b.drop k)), true)) := by
      intro B h1 hB
      refine EvP.succ ?_
      simp only [spec_EditText.j4]
      refine EvP.ite (fun hb1 => ?_) (fun hb0 => ?_)
      · have h2 := hB.mp hb1
        refine EvP.yes room ?_
        rw [ei.out, ek.out]
        have hz : i < a.length ∧ k < b.length := by
          by_cases hz : i < a.length ∧ k < b.length
          · exact hz
          · have := h2.1; rw [use2_nil _ _ (by omega)] at this; exact absurd this (by decide)
        exact fin 107 1 1 (by unfold letterOf; rw [if_neg h1, if_pos h2]) rfl rfl (by omega) (by omega) (by omega)
      · have h2 : ¬ _ := fun hh => hb0 (hB.mpr hh)
        have last : ¬ ((use3 (a.drop i) (b.drop k)).2.2.2 = true ∧ 2 + least costP ((a.drop i).drop 1) (b.drop k) = least costP (a.drop i) (b.drop k)) →
            EvP (fun n => if (strOfNums acc).size + 1 ≤ 9223372036854775807 then spec_EditText.l0 n a b x (strOfNums acc ++ (⟨#[114]⟩ : ByteArray)) (wrap64 ((i : Int) + 1)) (wrap64 ((k : Int) + 1)) else none) (· = (strOfNums (acc ++ txt (m + 1) (a.drop i) (b.drop k)), true)) := by
          intro h3
          obtain ⟨x', xs', y', ys', ex, ey, he, hl⟩ := last_way _ _ h h1 h2 h3
          have lx := congrArg List.length ex
          have ly := congrArg List.length ey
          rw [List.length_cons] at lx ly
          refine EvP.yes room ?_
          rw [ei.out, ek.out]
          exact fin 114 1 1 (by unfold letterOf; rw [if_neg h1, if_neg h2, if_neg h3]) rfl rfl (by omega) (by omega) (by omega)
        refine EvP.ite (fun hx => ?_) (fun hx => ?_)
        · have hx' : i < a.length := by omega
          obtain ⟨r1, r2, r3, r4, r5⟩ := tab_at a b ha hb F (i + 1) k (by omega) hk
          have ev : Hd (wrap64 (least costP (a.drop (i + 1)) (b.drop k) + 2) = least costP (a.drop (i + 1)) (b.drop k) + 2) := Hd.mk (w64 (by omega) (by omega))
          have e3 := use3_true (a.drop i) (b.drop k) (by omega)
          have hd : (a.drop i).drop 1 = a.drop (i + 1) := by rw [List.drop_drop]
          simp only [ei.out] at last ⊢
          refine EvP.yes (by omega) (EvP.yes r1 (EvP.yes (by omega) (EvP.yes r2 ?_)))
          rw [r3, ev.out]
          refine EvP.ite (fun hl => ?_) (fun hl => last (fun hh => hl (by have := hh.2; rw [hd] at this; omega)))
          refine EvP.yes room ?_
          exact fin 111 1 0 (by unfold letterOf; rw [if_neg h1, if_neg h2, if_pos ⟨by rw [e3], by rw [hd]; omega⟩]) rfl rfl (by omega) (by omega) (by omega)
        · have e3 := use3_false (a.drop i) (b.drop k) (by omega)
          exact last (fun hh => by rw [e3] at hh; exact Bool.noConfusion hh.1)
    have S3 : ∀ B : Bool, (B = true ↔ ((use1 (a.drop i) (b.drop k)).2.2.2 = true ∧ 2 + least costP (a.drop i) ((b.drop k).drop 1) = least costP (a.drop i) (b.drop k))) →
        EvP (fun n => spec_EditText.j3 n a b x (strOfNums acc) (i : Int) (k : Int) (least costP (a.drop i) (b.drop k)) B) (· = (strOfNums (acc ++ txt (m + 1) (a.drop i) (b.drop k)), true)) := by
      intro B hB
      refine EvP.succ ?_
      simp only [spec_EditText.j3]
      refine EvP.ite (fun hb1 => ?_) (fun hb0 => ?_)
      · have h1 := hB.mp hb1
        have hy : k < b.length := by
          by_cases hy : k < b.length
          · exact hy
          · have := h1.1; rw [use1_false _ _ (by omega)] at this; exact absurd this (by decide)
        refine EvP.yes room ?_
        rw [ek.out]
        exact fin 105 0 1 (by unfold letterOf; rw [if_pos h1]) rfl rfl (by omega) (by omega) (by omega)
      · have h1 : ¬ _ := fun hh => hb0 (hB.mpr hh)
        have no2 : (use2 (a.drop i) (b.drop k)).2.2.2 = false → EvP (fun n => spec_EditText.j4 n a b x (strOfNums acc) (i : Int) (k : Int) (least costP (a.drop i) (b.drop k)) false) (· = (strOfNums (acc ++ txt (m + 1) (a.drop i) (b.drop k)), true)) := by
          intro e2
          exact S4 false h1 ⟨fun hh => Bool.noConfusion hh, fun hh => by rw [e2] at hh; exact hh.1⟩
        refine EvP.ite (fun hx => EvP.ite (fun hy => ?_) (fun hy => no2 (use2_nil _ _ (by omega)))) (fun hx => no2 (use2_nil _ _ (by omega)))
        have hx' : i < a.length := by omega
        have hy' : k < b.length := by omega
        refine EvP.yes (by omega) (EvP.yes (by omega) ?_)
        rw [rdT_lt hx', rdT_lt hy']
        show EvP (fun n => if eqT a[i] b[k] = true then _ else _) _
        refine EvP.ite (fun he => ?_) (fun he => no2 (by rw [drop_cons hx', drop_cons hy']; exact use2_not _ _ _ _ he))
        obtain ⟨r1, r2, r3, r4, r5⟩ := tab_at a b ha hb F (i + 1) (k + 1) (by omega) (by omega)
        simp only [ei.out, ek.out]
        refine EvP.yes (by omega) (EvP.yes r1 (EvP.yes (by omega) (EvP.yes r2 ?_)))
        rw [r3]
        refine S4 _ h1 ?_
        rw [beq_iff_eq, List.drop_drop, List.drop_drop]
        refine ⟨fun hh => ⟨?_, hh⟩, fun hh => hh.2⟩
        rw [drop_cons hx', drop_cons hy', use2_same _ _ _ _ he]
    have W : EvP (fun n => spec_EditText.j2 n a b x (strOfNums acc) (i : Int) (k : Int) true) (· = (strOfNums (acc ++ txt (m + 1) (a.drop i) (b.drop k)), true)) := by
      refine EvP.succ ?_
      simp only [spec_EditText.j2]
      refine EvP.yes trivial (EvP.yes (by omega) (EvP.yes t1 (EvP.yes (by omega) (EvP.yes t2 ?_))))
      rw [t3]
      refine EvP.ite (fun hy => ?_) (fun hy => S3 false ⟨fun hh => Bool.noConfusion hh, fun hh => by have := hh.1; rw [use1_false _ _ (by omega)] at this; exact this⟩)
      obtain ⟨r1, r2, r3, r4, r5⟩ := tab_at a b ha hb F i (k + 1) hi (by omega)
      have ev : Hd (wrap64 (least costP (a.drop i) (b.drop (k + 1)) + 2) = least costP (a.drop i) (b.drop (k + 1)) + 2) := Hd.mk (w64 (by omega) (by omega))
      simp only [ek.out]
      refine EvP.yes (by omega) (EvP.yes r2 ?_)
      rw [r3, ev.out]
      refine S3 _ ?_
      rw [beq_iff_eq, List.drop_drop]
      refine ⟨fun hh => ⟨by rw [use1_true _ _ (by omega)], by omega⟩, fun hh => by have := hh.2; omega⟩
    refine EvP.succ ?_
    simp only [spec_EditText.l0]
    refine EvP.ite (fun _ => W) (fun h => ?_)
    rw [decide_eq_true (by omega)]
    exact W
end
def txtOf (a b : List Tn) : ByteArray × Bool := if okM a = true ∧ okM b = true then (strOfNums (txt 48 a b), true) else (⟨#[]⟩, false)
theorem okM_24t {a : List Tn} (h : okM a = true) : a.length ≤ 24 := by
  unfold okM at h
  rw [Bool.and_eq_true] at h
  exact of_decide_eq_true h.2
theorem spec_txt (a b : List Tn) (ha : a.length < 9223372036854775807) (hb : b.length < 9223372036854775807) : EvP (fun k => spec_EditText.f k a b) (· = txtOf a b) := by
  unfold spec_EditText.f txtOf
  have jt : ∀ v, v = ((⟨#[]⟩ : ByteArray), false) → EvP (fun k => spec_EditText.j0 k a b true) (· = v) := by
    intro v hv
    refine EvP.succ ?_
    simp only [spec_EditText.j0]
    exact EvP.yes trivial (EvP.ret hv.symm)
  refine EvP.bind (P := (· = okM a)) (spec_melody a ha) (fun _ e => ?_)
  subst e
  refine EvP.ite (fun h1 => ?_) (fun h1 => jt _ (by rw [if_neg (fun h => h1 h.1)]))
  refine EvP.bind (P := (· = okM b)) (spec_melody b hb) (fun _ e => ?_)
  subst e
  by_cases h2 : okM b = true
  · rw [if_pos ⟨h1, h2⟩, h2]
    have la := okM_24t h1
    have lb := okM_24t h2
    refine EvP.succ ?_
    simp only [spec_EditText.j0, Bool.not_true]
    refine EvP.no (by decide) ?_
    refine EvP.bind (spec_costs a b la lb) (fun x F => ?_)
    exact spec_walk a b la lb F 48 0 0 [] (Nat.zero_le _) (Nat.zero_le _) (by omega) (by simp)
  · rw [Bool.eq_false_iff.mpr h2]
    exact jt _ (by rw [if_neg (fun h => Bool.noConfusion h.2)])
theorem impl_txt (a b : List Tn) : EvP (fun k => impl_EditText.f k a b) (· = txtOf a b) := by
  unfold impl_EditText.f txtOf
  have jt : ∀ v, v = ((⟨#[]⟩ : ByteArray), false) → EvP (fun k => impl_EditText.j0 k a b true) (· = v) := by
    intro v hv
    refine EvP.succ ?_
    simp only [impl_EditText.j0]
    exact EvP.yes trivial (EvP.ret hv.symm)
  refine EvP.bind (P := (· = okM a)) (impl_melody a) (fun _ e => ?_)
  subst e
  refine EvP.ite (fun h1 => ?_) (fun h1 => jt _ (by rw [if_neg (fun h => h1 h.1)]))
  refine EvP.bind (P := (· = okM b)) (impl_melody b) (fun _ e => ?_)
  subst e
  by_cases h2 : okM b = true
  · rw [if_pos ⟨h1, h2⟩, h2]
    have la := okM_24t h1
    have lb := okM_24t h2
    refine EvP.succ ?_
    simp only [impl_EditText.j0, Bool.not_true]
    refine EvP.no (by decide) ?_
    refine EvP.bind (impl_sums_costOf a b la lb) (fun x F => ?_)
    exact impl_walk a b la lb F 48 0 0 [] (Nat.zero_le _) (Nat.zero_le _) (by omega) (by simp)
  · rw [Bool.eq_false_iff.mpr h2]
    exact jt _ (by rw [if_neg (fun h => Bool.noConfusion h.2)])
end Go.Proofs.Ythpeiboobnnfgaa.Pur
end
section
namespace Go.Proofs.Ythpeiboobnnfgaa.E
open Go.RowKit Go.Proofs.YthpeiboobnnfgaaW.PrintWords Go.Proofs.YthpeiboobnnfgaaW.PrintLast Go.Proofs.YthpeiboobnnfgaaW.PrintMore
attribute [local go_sem] max2_int min2_int max_two min_two max_three min_three max_four min_four
set_option linter.unusedVariables false
set_option linter.unusedSimpArgs false
attribute [local go_sem] en63_mk1 en63_mk2 en63_mk3 en63_mk4
attribute [local go_sem] str_leq_ str_gtr_ str_geq_
def spec_DrawEditText.f (k : Nat) (l0 : List Int) : Option ((List (S36)) × (List (S36))) := (spec_l6Open.f l0).bind fun bt495 => ((spec_l92Edited.f k bt495.1 bt495.2).bind fun bt498 => (some (bt498.1, bt498.2.1)))
end Go.Proofs.Ythpeiboobnnfgaa.E
end
section
namespace Go.Proofs.Ythpeiboobnnfgaa.E
open Go.RowKit Go.Proofs.YthpeiboobnnfgaaW.PrintWords Go.Proofs.YthpeiboobnnfgaaW.PrintLast Go.Proofs.YthpeiboobnnfgaaW.PrintMore
attribute [local go_sem] max2_int min2_int max_two min_two max_three min_three max_four min_four
set_option linter.unusedVariables false
set_option linter.unusedSimpArgs false
attribute [local go_sem] en63_mk1 en63_mk2 en63_mk3 en63_mk4
attribute [local go_sem] str_leq_ str_gtr_ str_geq_
def spec_DrawEditCost.f (k : Nat) (l0 : List Int) : Option ((List (S36)) × (List (S36))) := (spec_l6Open.f l0).bind fun bt525 => ((spec_l92Edited.f k bt525.1 bt525.2).bind fun bt528 => (some (bt528.1, bt528.2.1)))
end Go.Proofs.Ythpeiboobnnfgaa.E
end
section
namespace Go.Proofs.Ythpeiboobnnfgaa.E
open Go.RowKit Go.Proofs.YthpeiboobnnfgaaW.PrintWords Go.Proofs.YthpeiboobnnfgaaW.PrintLast Go.Proofs.YthpeiboobnnfgaaW.PrintMore
attribute [local go_sem] max2_int min2_int max_two min_two max_three min_three max_four min_four
set_option linter.unusedVariables false
set_option linter.unusedSimpArgs false
attribute [local go_sem] en63_mk1 en63_mk2 en63_mk3 en63_mk4
attribute [local go_sem] str_leq_ str_gtr_ str_geq_
def spec_DrawEditCommon.f (k : Nat) (l0 : List Int) : Option ((List (S36)) × (List (S36))) := (spec_l6Open.f l0).bind fun bt575 => ((spec_l92Edited.f k bt575.1 bt575.2).bind fun bt578 => (some (bt578.1, bt578.2.1)))
end Go.Proofs.Ythpeiboobnnfgaa.E
end
section
namespace Go.Proofs.Ythpeiboobnnfgaa.Pur
open Go.RowKit Go.Proofs.YthpeiboobnnfgaaW.PrintWords Go.Proofs.YthpeiboobnnfgaaW.PrintMore Go.Proofs.Ythpeiboobnnfgaa.E Go.Proofs.Ythpeiboobnnfgaa.Ed
theorem edited_loop {B : List Int} (hB : okB B) (a : List Tn) (ha : a.length ≤ 12) : ∀ (d i : Nat) (acc : List Tn) (p : Int), i + d = a.length → acc.length ≤ 2 * i → 0 ≤ p → p ≤ 100000 + (i : Int) →
    EvP (fun k => spec_l92Edited.l0 k a acc (i : Int) B p) (fun r => r.1 = a ∧ r.2.1.length ≤ 24 ∧ 0 ≤ r.2.2 ∧ r.2.2 ≤ p + d) := by
  intro d
  induction d with
  | zero =>
    intro i acc p hi hacc hp0 hp1
    refine EvP.succ ?_
    simp only [spec_l92Edited.l0]
    exact EvP.no (by omega) (EvP.ret ⟨rfl, by dsimp only; omega, hp0, by dsimp only; omega⟩)
  | succ d ih =>
    intro i acc p hi hacc hp0 hp1
    refine EvP.succ ?_
    simp only [spec_l92Edited.l0]
    have ei : Hd (wrap64 ((i : Int) + 1) = ((i + 1 : Nat) : Int)) := ⟨w64 (by omega) (by omega)⟩
    refine EvP.yes (by omega) ?_
    refine EvP.bind (pick_ok hB p 8 (by omega) (by omega)) (fun r hr => ?_)
    rw [ei.out]
    have go : ∀ acc' : List Tn, acc'.length ≤ acc.length + 2 → EvP (fun k => spec_l92Edited.l0 k a acc' ((i + 1 : Nat) : Int) B r.2) (fun r => r.1 = a ∧ r.2.1.length ≤ 24 ∧ 0 ≤ r.2.2 ∧ r.2.2 ≤ p + (d + 1 : Nat)) := by
      intro acc' h
      exact (ih (i + 1) acc' r.2 (by omega) (by omega) (by omega) (by omega)).mono (fun r' h' => ⟨h'.1, h'.2.1, h'.2.2.1, by omega⟩)
    have i0 : (0 : Int) ≤ (i : Int) := by omega
    have room : acc.length < 8796093022208 := by omega
    refine EvP.ite (fun _ => go _ (by omega)) (fun _ => EvP.ite (fun _ => EvP.yes i0 ?_) (fun _ => EvP.ite (fun _ => EvP.yes i0 (EvP.yes room (go _ (by simp)))) (fun _ => EvP.ite (fun _ => EvP.yes i0 ?_) (fun _ => EvP.yes i0 (EvP.yes room (go _ (by simp)))))))
    · refine EvP.bind (P := fun y => y.length = 2) (EvP.con rfl rfl) (fun y hy => ?_)
      exact EvP.yes (by omega) (go _ (by simp; omega))
    · refine EvP.bind (P := fun _ => True) (EvP.con rfl trivial) (fun y _ => ?_)
      exact EvP.ite (fun _ => EvP.yes room (go _ (by simp))) (fun _ => EvP.yes room (go _ (by simp)))
theorem edited_ok {B : List Int} (hB : okB B) (p : Int) (hp : 0 ≤ p ∧ p ≤ 1000) : EvP (fun k => spec_l92Edited.f k B p) (fun r => r.1.length ≤ 24 ∧ r.2.1.length ≤ 24 ∧ 0 ≤ r.2.2 ∧ r.2.2 ≤ p + 100) := by
  unfold spec_l92Edited.f
  refine EvP.bind (melody_ok hB p 6 (by omega) (by omega)) (fun r hr => ?_)
  refine EvP.bind (pick_ok hB r.2 4 (by omega) (by omega)) (fun q hq => ?_)
  refine EvP.ite (fun _ => ?_) (fun _ => ?_)
  · refine EvP.bind (melody_ok hB q.2 6 (by omega) (by omega)) (fun s hs => ?_)
    exact EvP.ret ⟨by dsimp only; omega, by dsimp only; omega, hs.2.1, by dsimp only; omega⟩
  · refine (edited_loop hB r.1 (by omega) r.1.length 0 [] q.2 (by omega) (by simp) (by omega) (by omega)).mono (fun r' h => ⟨by rw [h.1]; omega, h.2.1, h.2.2.1, by omega⟩)
theorem aligned_loop {B : List Int} (hB : okB B) (a b : List Tn) (ha : a.length ≤ 24) (hb : b.length ≤ 24) : ∀ (d i k : Nat) (s : ByteArray) (p : Int), (a.length - i) + (b.length - k) ≤ d → i ≤ a.length → k ≤ b.length → s.size + d ≤ 48 → 0 ≤ p → p + 2 * (d : Int) ≤ 10000 →
    EvP (fun n => spec_l92Aligned.l0 n a b s (i : Int) (k : Int) B p) (fun r => r.1 = a ∧ r.2.1 = b ∧ r.2.2.1.size ≤ 48) := by
  intro d
  induction d with
  | zero =>
    intro i k s p hd hi hk hs hp0 hp1
    refine EvP.succ ?_
    simp only [spec_l92Aligned.l0]
    refine EvP.no (by omega) ?_
    rw [decide_eq_false (by omega)]
    refine EvP.succ ?_
    simp only [spec_l92Aligned.j1]
    exact EvP.no (by decide) (EvP.ret ⟨rfl, rfl, by dsimp only; omega⟩)
  | succ d ih =>
    intro i k s p hd hi hk hs hp0 hp1
    have ei : Hd (wrap64 ((i : Int) + 1) = ((i + 1 : Nat) : Int)) := ⟨w64 (by omega) (by omega)⟩
    have ek : Hd (wrap64 ((k : Int) + 1) = ((k + 1 : Nat) : Int)) := ⟨w64 (by omega) (by omega)⟩
    have sz : ∀ c : UInt8, (s ++ (⟨#[c]⟩ : ByteArray)).size = s.size + 1 := fun c => by rw [ByteArray.size_append]; rfl
    have room : s.size + 1 ≤ 9223372036854775807 := by omega
    have J3 : ∀ (Bb : Bool) (p' : Int), 0 ≤ p' → p' + 2 * (d : Int) ≤ 10000 → k < b.length → (Bb = false → i < a.length) → EvP (fun n => spec_l92Aligned.j3 n a b s (i : Int) (k : Int) Bb B p') (fun r => r.1 = a ∧ r.2.1 = b ∧ r.2.2.1.size ≤ 48) := by
      intro Bb p' h0 h1 hkb hia
      refine EvP.succ ?_
      simp only [spec_l92Aligned.j3]
      refine EvP.ite (fun _ => EvP.yes room ?_) (fun hb0 => ?_)
      · rw [ek.out]
        exact ih i (k + 1) _ p' (by omega) hi (by omega) (by rw [sz]; omega) h0 h1
      · have hia' := hia (Bool.eq_false_iff.mpr hb0)
        refine EvP.yes (by omega) (EvP.yes (by omega) (EvP.yes (by omega) (EvP.yes (by omega) ?_)))
        rw [ei.out, ek.out]
        refine EvP.ite (fun _ => EvP.yes room ?_) (fun _ => EvP.yes room ?_) <;> exact ih (i + 1) (k + 1) _ p' (by omega) (by omega) (by omega) (by rw [sz]; omega) h0 h1
    have J2 : ∀ (Bb : Bool) (p' : Int), 0 ≤ p' → p' + 1 + 2 * (d : Int) ≤ 10000 → (Bb = true → i < a.length) → (Bb = false → k < b.length) → EvP (fun n => spec_l92Aligned.j2 n a b s (i : Int) (k : Int) Bb B p') (fun r => r.1 = a ∧ r.2.1 = b ∧ r.2.2.1.size ≤ 48) := by
      intro Bb p' h0 h1 hia hkb
      refine EvP.succ ?_
      simp only [spec_l92Aligned.j2]
      refine EvP.ite (fun hb1 => EvP.yes room ?_) (fun hb0 => ?_)
      · have := hia hb1
        rw [ei.out]
        exact ih (i + 1) k _ p' (by omega) (by omega) hk (by rw [sz]; omega) h0 (by omega)
      · have hk' := hkb (Bool.eq_false_iff.mpr hb0)
        refine EvP.ite (fun _ => J3 true p' h0 (by omega) hk' (fun h => Bool.noConfusion h)) (fun hne => ?_)
        refine EvP.bind (pick_ok hB p' 2 (by omega) (by omega)) (fun r hr => ?_)
        exact J3 _ r.2 (by omega) (by omega) hk' (fun _ => by omega)
    have J1 : (i < a.length ∨ k < b.length) → EvP (fun n => spec_l92Aligned.j1 n a b s (i : Int) (k : Int) true B p) (fun r => r.1 = a ∧ r.2.1 = b ∧ r.2.2.1.size ≤ 48) := by
      intro h
      refine EvP.succ ?_
      simp only [spec_l92Aligned.j1]
      refine EvP.yes trivial (EvP.ite (fun hkb => J2 true p hp0 (by omega) (fun _ => by omega) (fun h => Bool.noConfusion h)) (fun hkb => EvP.ite (fun hia => ?_) (fun hia => J2 false p hp0 (by omega) (fun h => Bool.noConfusion h) (fun _ => by omega))))
      refine EvP.bind (pick_ok hB p 3 (by omega) (by omega)) (fun r hr => ?_)
      exact J2 _ r.2 (by omega) (by omega) (fun _ => by omega) (fun _ => by omega)
    refine EvP.succ ?_
    simp only [spec_l92Aligned.l0]
    refine EvP.ite (fun h => J1 (.inl (by omega))) (fun h => ?_)
    by_cases hk' : k < b.length
    · rw [decide_eq_true (by omega)]
      exact J1 (.inr hk')
    · rw [decide_eq_false (by omega)]
      refine EvP.succ ?_
      simp only [spec_l92Aligned.j1]
      exact EvP.no (by decide) (EvP.ret ⟨rfl, rfl, by dsimp only; omega⟩)
theorem of_ok {B : List Int} (hB : okB B) (p : Int) (hp : 0 ≤ p ∧ p ≤ 1000000) (l : List ByteArray) (hl : 1 ≤ l.length ∧ l.length ≤ 1000) : EvP (fun k => spec_l6Rd_of.f k B p l) (fun r => (∃ i : Nat, i < l.length ∧ r.1 = l.getD i ByteArray.empty) ∧ r.2 = p + 1) := by
  unfold spec_l6Rd_of.f
  refine EvP.bind (pick_ok hB p (l.length : Int) (by omega) (by omega)) (fun r hr => ?_)
  exact EvP.yes hr.1 (EvP.yes hr.2.1 (EvP.ret ⟨⟨r.1.toNat, by omega, rfl⟩, hr.2.2⟩))
theorem txtOf_size (a b : List Tn) : (txtOf a b).1.size ≤ 48 := by
  unfold txtOf
  split
  · rw [strOfNums_size]; exact len_txt 48 a b
  · exact Nat.zero_le 48
theorem draw_sum (l : List Int) (h : ∀ x ∈ l, (Lit.int .u8 x).wf = true) : EvP (fun k => spec_DrawEditSum.f k l) (fun r => r.1.length ≤ 24 ∧ r.2.1.length ≤ 24 ∧ r.2.2.size ≤ 49) := by
  unfold spec_DrawEditSum.f
  refine EvP.bind (open_code l h) (fun r hr => ?_)
  refine EvP.bind (P := fun q => q.1.length ≤ 24 ∧ q.2.1.length ≤ 24 ∧ q.2.2.1.size ≤ 49) ?_ (fun q hq => EvP.ret hq)
  unfold spec_l92Aligned.f
  refine EvP.bind (edited_ok hr.1 r.2 (by omega)) (fun e he => ?_)
  refine EvP.bind (pick_ok hr.1 e.2.2 2 (by omega) (by omega)) (fun q hq => ?_)
  refine EvP.ite (fun _ => ?_) (fun _ => ?_)
  · refine EvP.bind (spec_txt e.1 e.2.1 (by omega) (by omega)) (fun t ht => ?_)
    subst ht
    have hs := txtOf_size e.1 e.2.1
    refine EvP.bind (pick_ok hr.1 q.2 6 (by omega) (by omega)) (fun u hu => ?_)
    refine EvP.ite (fun _ => ?_) (fun _ => EvP.ret ⟨he.1, he.2.1, by dsimp only; omega⟩)
    refine EvP.bind (of_ok hr.1 u.2 (by omega) _ (by simp)) (fun w hw => ?_)
    have hw1 : w.1.size = 1 := by
      obtain ⟨⟨j, hj, e⟩, _⟩ := hw
      rw [e]
      match j, hj with
      | 0, _ => rfl
      | 1, _ => rfl
      | 2, _ => rfl
    exact EvP.yes (by omega) (EvP.ret ⟨he.1, he.2.1, by dsimp only; rw [ByteArray.size_append]; omega⟩)
  · refine (aligned_loop hr.1 e.1 e.2.1 he.1 he.2.1 48 0 0 ⟨#[]⟩ q.2 (by omega) (by omega) (by omega) (Nat.le_refl _) (by omega) (by omega)).mono (fun r' h' => ⟨by rw [h'.1]; exact he.1, by rw [h'.2.1]; exact he.2.1, by omega⟩)
end Go.Proofs.Ythpeiboobnnfgaa.Pur
end
section
namespace Go.Proofs.Ythpeiboobnnfgaa.E
open Go.RowKit Go.Proofs.YthpeiboobnnfgaaW.PrintWords Go.Proofs.YthpeiboobnnfgaaW.PrintLast Go.Proofs.YthpeiboobnnfgaaW.PrintMore
attribute [local go_sem] max2_int min2_int max_two min_two max_three min_three max_four min_four
set_option linter.unusedVariables false
set_option linter.unusedSimpArgs false
attribute [local go_sem] en63_mk1 en63_mk2 en63_mk3 en63_mk4
attribute [local go_sem] str_leq_ str_gtr_ str_geq_
def laws_szToneS.f (l0 : List (S48)) (a1 : Int) : Option (Int) := if (wrap64 (a1 - (l0.length : Int))) < 0 then (some (-1)) else (some (wrap64 (a1 - (l0.length : Int))))
end Go.Proofs.Ythpeiboobnnfgaa.E
end
section
namespace Go.Proofs.Ythpeiboobnnfgaa.E
open Go.RowKit Go.Proofs.YthpeiboobnnfgaaW.PrintWords Go.Proofs.YthpeiboobnnfgaaW.PrintLast Go.Proofs.YthpeiboobnnfgaaW.PrintMore
attribute [local go_sem] max2_int min2_int max_two min_two max_three min_three max_four min_four
set_option linter.unusedVariables false
set_option linter.unusedSimpArgs false
attribute [local go_sem] en63_mk1 en63_mk2 en63_mk3 en63_mk4
attribute [local go_sem] str_leq_ str_gtr_ str_geq_
def laws_toTone.f (a0_0 : Int) (a0_1 : Bool) : Option (Int × Bool) := some (a0_0, a0_1)
end Go.Proofs.Ythpeiboobnnfgaa.E
end
section
namespace Go.Proofs.Ythpeiboobnnfgaa.E
open Go.RowKit Go.Proofs.YthpeiboobnnfgaaW.PrintWords Go.Proofs.YthpeiboobnnfgaaW.PrintLast Go.Proofs.YthpeiboobnnfgaaW.PrintMore
attribute [local go_sem] max2_int min2_int max_two min_two max_three min_three max_four min_four
set_option linter.unusedVariables false
set_option linter.unusedSimpArgs false
attribute [local go_sem] en63_mk1 en63_mk2 en63_mk3 en63_mk4
attribute [local go_sem] str_leq_ str_gtr_ str_geq_
def laws_toToneS.l0 : Nat → List (S48) → List (S36) → Int → Option ((List (S36)))
 | 0, _, _, _ => none
 | k + 1, x0, x3, x4 => if x4 < (x0.length : Int) then (if 0 ≤ x4 then ((laws_toTone.f ((rd_T48 x0 x4).f0) ((rd_T48 x0 x4).f1)).bind fun bt108 => (if x4 < (x3.length : Int) then (laws_toToneS.l0 k x0 (x3.set (x4 : Int).toNat (⟨bt108.1, bt108.2⟩ : S36)) (wrap64 (x4 + 1))) else (none))) else (none)) else (some x3)
def laws_toToneS.f (k : Nat) (l0 : List (S48)) : Option ((List (S36))) := if 0 ≤ (l0.length : Int) then (if ((l0.length : Int) : Int).toNat ≤ 17592186044416 then (laws_toToneS.l0 k l0 (List.replicate ((l0.length : Int) : Int).toNat z36) 0) else (none)) else (none)
end Go.Proofs.Ythpeiboobnnfgaa.E
end
section
namespace Go.Proofs.Ythpeiboobnnfgaa.E
open Go.RowKit Go.Proofs.YthpeiboobnnfgaaW.PrintWords Go.Proofs.YthpeiboobnnfgaaW.PrintLast Go.Proofs.YthpeiboobnnfgaaW.PrintMore
attribute [local go_sem] max2_int min2_int max_two min_two max_three min_three max_four min_four
set_option linter.unusedVariables false
set_option linter.unusedSimpArgs false
attribute [local go_sem] en63_mk1 en63_mk2 en63_mk3 en63_mk4
attribute [local go_sem] str_leq_ str_gtr_ str_geq_
def laws_eqTone.f (a0_0 : Int) (a0_1 : Bool) (a1_0 : Int) (a1_1 : Bool) : Option (Bool) := if a0_0 = a1_0 then (if (a0_1 != a1_1) = true then (some false) else (some true)) else (some false)
end Go.Proofs.Ythpeiboobnnfgaa.E
end
section
namespace Go.Proofs.Ythpeiboobnnfgaa.E
open Go.RowKit Go.Proofs.YthpeiboobnnfgaaW.PrintWords Go.Proofs.YthpeiboobnnfgaaW.PrintLast Go.Proofs.YthpeiboobnnfgaaW.PrintMore
attribute [local go_sem] max2_int min2_int max_two min_two max_three min_three max_four min_four
set_option linter.unusedVariables false
set_option linter.unusedSimpArgs false
attribute [local go_sem] en63_mk1 en63_mk2 en63_mk3 en63_mk4
attribute [local go_sem] str_leq_ str_gtr_ str_geq_
def laws_eqToneS.l0 : Nat → List (S36) → List (S36) → Int → Option (Bool)
 | 0, _, _, _ => none
 | k + 1, x0, x1, x5 => if x5 < (x0.length : Int) then (if 0 ≤ x5 then (if x5 < (x1.length : Int) then ((laws_eqTone.f ((rd_T36 x0 x5).f0) ((rd_T36 x0 x5).f1) ((rd_T36 x1 x5).f0) ((rd_T36 x1 x5).f1)).bind fun t115 => (if t115 = true then (laws_eqToneS.l0 k x0 x1 (wrap64 (x5 + 1))) else (some false))) else (none)) else (none)) else (some true)
def laws_eqToneS.f (k : Nat) (l0 : List (S36)) (l1 : List (S36)) : Option (Bool) := if (l0.length : Int) = (l1.length : Int) then (laws_eqToneS.l0 k l0 l1 0) else (some false)
def laws_eqToneS.T6 : Bool × List (List Nat × List Nat) := (true, [([], []), ([], []), ([0, 1], [0, 1]), ([2], [2]), ([], []), ([], []), ([4, 5], [4, 5]), ([6], [6]), ([3, 7], [3, 7]), ([8], [8])])
def laws_eqToneS.B6 : List Nat := [0, 0, 3, 7, 0, 0, 48, 112, 255, 511]
end Go.Proofs.Ythpeiboobnnfgaa.E
end
section
namespace Go.Proofs.Ythpeiboobnnfgaa.Pur
open Go.RowKit Go.Proofs.YthpeiboobnnfgaaW.PrintWords Go.Proofs.Ythpeiboobnnfgaa.E
abbrev Tn' := S36
def cv (t : S48) : S36 := ⟨t.f0, t.f1⟩
end Go.Proofs.Ythpeiboobnnfgaa.Pur
end
section
namespace Go.Proofs.Ythpeiboobnnfgaa.E
open Go.RowKit Go.Proofs.YthpeiboobnnfgaaW.PrintWords Go.Proofs.YthpeiboobnnfgaaW.PrintLast Go.Proofs.YthpeiboobnnfgaaW.PrintMore
attribute [local go_sem] max2_int min2_int max_two min_two max_three min_three max_four min_four
set_option linter.unusedVariables false
set_option linter.unusedSimpArgs false
attribute [local go_sem] en63_mk1 en63_mk2 en63_mk3 en63_mk4
attribute [local go_sem] str_leq_ str_gtr_ str_geq_
def spec_EditCost.f (k : Nat) (l0 : List (S36)) (l1 : List (S36)) : Option (Int) := (spec_MelodyValid.f k l0).bind fun t518 => (if t518 = true then ((spec_MelodyValid.f k l1).bind fun t519 => (if t519 = true then ((spec_l7Costs.f k l0 l1).bind fun t520 => (if 0 < (t520.length : Int) then (if 0 < ((rd_L4 t520 0).length : Int) then (some (rd (rd_L4 t520 0) 0)) else (none)) else (none))) else (some (-1)))) else (some (-1)))
end Go.Proofs.Ythpeiboobnnfgaa.E
end
section
namespace Go.Proofs.Ythpeiboobnnfgaa.E
open Go.RowKit Go.Proofs.YthpeiboobnnfgaaW.PrintWords Go.Proofs.YthpeiboobnnfgaaW.PrintLast Go.Proofs.YthpeiboobnnfgaaW.PrintMore
attribute [local go_sem] max2_int min2_int max_two min_two max_three min_three max_four min_four
set_option linter.unusedVariables false
set_option linter.unusedSimpArgs false
attribute [local go_sem] en63_mk1 en63_mk2 en63_mk3 en63_mk4
attribute [local go_sem] str_leq_ str_gtr_ str_geq_
def laws_FnExactEditCost.f (k : Nat) (l0 : List (S48)) (l1 : List (S48)) : Option (Bool) := (laws_szToneS.f l0 1048576).bind fun t663 => (if t663 < 0 then (some true) else ((laws_szToneS.f l1 t663).bind fun t664 => (if t664 < 0 then (some true) else ((laws_toToneS.f k l0).bind fun t665 => ((laws_toToneS.f k l1).bind fun t668 => ((spec_EditCost.f k t665 t668).bind fun t671 => ((laws_toToneS.f k l0).bind fun t672 => ((laws_toToneS.f k l1).bind fun t675 => ((impl_EditCost.f k t672 t675).bind fun t678 => (if t678 = t671 then ((laws_toToneS.f k l0).bind fun t679 => ((laws_eqToneS.f k t672 t679).bind fun t682 => (if t682 = true then ((laws_toToneS.f k l1).bind fun t683 => ((laws_eqToneS.f k t675 t683).bind fun t686 => (if t686 = true then (some true) else (none)))) else (none)))) else (none)))))))))))
end Go.Proofs.Ythpeiboobnnfgaa.E
end
section
namespace Go.Proofs.Ythpeiboobnnfgaa.Pur
open Go.RowKit Go.Proofs.YthpeiboobnnfgaaW.PrintWords Go.Proofs.Ythpeiboobnnfgaa.E Go.Proofs.Ythpeiboobnnfgaa.Ed
def costOf (a b : List Tn) : Int := if okM a = true ∧ okM b = true then least costP a b else -1
theorem okM_len {a : List Tn} (h : okM a = true) : a.length ≤ 24 := by
  unfold okM at h
  rw [Bool.and_eq_true] at h
  exact of_decide_eq_true h.2
theorem full_first {p : Pr Tn} {a b : List Tn} {x : List (List Int)} (F : Full p a b x) : 0 < (x.length : Int) ∧ 0 < ((rd_L4 x 0).length : Int) ∧ rd (rd_L4 x 0) 0 = least p a b := by
  have h1 := F.len
  have h2 : (rd_L4 x 0).length = b.length + 1 := F.row 0 (Nat.zero_le _)
  have h3 := F.told 0 0 (Nat.zero_le _) (Nat.zero_le _)
  exact ⟨by omega, by omega, h3⟩
theorem impl_cost (a b : List Tn) : EvP (fun k => impl_EditCost.f k a b) (· = costOf a b) := by
  unfold impl_EditCost.f costOf
  refine EvP.bind (P := (· = okM a)) (impl_melody a) (fun _ e => ?_)
  subst e
  refine EvP.ite (fun h1 => ?_) (fun h1 => EvP.ret (by rw [if_neg (fun h => h1 h.1)]))
  refine EvP.bind (P := (· = okM b)) (impl_melody b) (fun _ e => ?_)
  subst e
  refine EvP.ite (fun h2 => ?_) (fun h2 => EvP.ret (by rw [if_neg (fun h => h2 h.2)]))
  rw [if_pos ⟨h1, h2⟩]
  refine EvP.bind (impl_sums_costOf a b (okM_len h1) (okM_len h2)) (fun x F => ?_)
  obtain ⟨f1, f2, f3⟩ := full_first F
  exact EvP.yes f1 (EvP.yes f2 (EvP.ret f3))
end Go.Proofs.Ythpeiboobnnfgaa.Pur
end
section
namespace Go.Proofs.Ythpeiboobnnfgaa.Pur
open Go.RowKit Go.Proofs.YthpeiboobnnfgaaW.PrintWords Go.Proofs.YthpeiboobnnfgaaW.PrintMore Go.Proofs.Ythpeiboobnnfgaa.E Go.Proofs.Ythpeiboobnnfgaa.Ed
namespace LlessKept
theorem pay1 : impl_lessKept.f 1 0 1 2 = some commonP.ins := by simp [impl_lessKept.f, commonP]
theorem pay3 : impl_lessKept.f 3 1 0 2 = some commonP.om := by simp [impl_lessKept.f, commonP]
theorem pay2 (x y : Tn) (h : eqT x y = true) : impl_lessKept.f 2 1 1 0 = some (commonP.both x y) := by
  obtain rfl := (eqT_iff x y).mp h
  simp [impl_lessKept.f, commonP]
theorem pay4 (x y : Tn) (h : ¬ eqT x y = true) : impl_lessKept.f 4 1 1 (if x.f0 = y.f0 then 1 else 3) = some (commonP.both x y) := by
  unfold eqT at h
  by_cases h0 : x.f0 = y.f0
  · by_cases h1 : x.f1 = y.f1
    · simp [h0, h1] at h
    · simp [impl_lessKept.f, commonP, h0, h1]
  · simp [impl_lessKept.f, commonP, h0]
theorem bd (xs ys : List Tn) (hx : xs.length ≤ 24) (_hy : ys.length ≤ 24) : -24 ≤ least commonP xs ys ∧ least commonP xs ys ≤ 96 := by
  have := common_bd xs ys
  omega
theorem bdp (x y : Tn) : -1 ≤ commonP.both x y ∧ commonP.both x y ≤ 3 ∧ -1 ≤ commonP.ins ∧ commonP.ins ≤ 3 ∧ -1 ≤ commonP.om ∧ commonP.om ≤ 3 := by
  unfold commonP
  dsimp only
  split <;> (try split) <;> omega
def st (x : List (List Int)) (i k : Nat) : Option Int → List (List Int)
  | none => x
  | some u => putT x i k u
def comb : Option Int → Int → Int
  | none, v => v
  | some u, v => if v < u then v else u
section
variable (a b : List Tn) (ha : a.length ≤ 24) (hb : b.length ≤ 24) (Q : List (List Int) → Prop)
variable {x : List (List Int)} {i k : Nat} (D : Done commonP a b x i (k + 1)) (hi : i ≤ a.length) (hk : k ≤ b.length)
include ha hb D hi hk
omit ha hb hi hk in
theorem rows (m : Option Int) : (st x i k m).length = a.length + 1 ∧ (∀ j, i ≤ j → j ≤ a.length → (rd_L4 (st x i k m) (j : Int)).length = b.length + 1) := by
  cases m with
  | none => exact ⟨D.len, fun j hj hj' => D.row j hj hj'⟩
  | some u => exact ⟨by rw [st, putT_length]; exact D.len, fun j hj hj' => by rw [st, rd_RL, putT_RL]; exact D.row j hj hj'⟩
omit ha hb in
theorem reads (m : Option Int) (s1 s2 : Nat) (h1 : i + s1 ≤ a.length) (h2 : k + s2 ≤ b.length) (hne : s1 + s2 ≠ 0) : T (st x i k m) (i + s1) (k + s2) = least commonP (a.drop (i + s1)) (b.drop (k + s2)) := by
  have ht := D.told (i + s1) (k + s2) h1 h2 (by omega)
  cases m with
  | none => exact ht
  | some u =>
    rw [st, putT_T x i k _ _ u (by rw [D.len]; omega) (by rw [D.row i (Nat.le_refl _) hi]; omega), if_neg (by omega)]
    exact ht
omit ha hb D in
theorem skip (m : Option Int) (j : Nat) (hj : j < 4) (e : Int) (he : rd [1, 2, 3, 4] (j : Int) = e) (u : Int × Int × Int × Bool) (hu : EvP (fun n => impl_useOf.f n e (a.drop i) (b.drop k)) (· = u)) (ho : u.2.2.2 = false)
    (K : EvP (fun n => impl_leastSums_lessKept.l2 n a b (st x i k m) (i : Int) (k : Int) m.isSome [1, 2, 3, 4] (([1, 2, 3, 4] : List Int).length : Int) ((j + 1 : Nat) : Int)) Q) :
    EvP (fun n => impl_leastSums_lessKept.l2 n a b (st x i k m) (i : Int) (k : Int) m.isSome [1, 2, 3, 4] (([1, 2, 3, 4] : List Int).length : Int) (j : Int)) Q := by
  have hl : ([1, 2, 3, 4] : List Int).length = 4 := rfl
  refine EvP.succ ?_
  simp only [impl_leastSums_lessKept.l2]
  refine EvP.yes (by omega) (EvP.yes (by omega) (EvP.yes (by omega) (EvP.yes (by omega) (EvP.yes (by omega) (EvP.yes (by omega) (EvP.yes (by omega) ?_))))))
  rw [he]
  refine EvP.bind (P := (· = u)) hu (fun _ h => ?_)
  subst h
  refine EvP.no (by rw [ho]; simp) ?_
  rw [w64 (by omega) (by omega)]
  exact K
theorem take (m : Option Int) (j : Nat) (hj : j < 4) (e : Int) (he : rd [1, 2, 3, 4] (j : Int) = e) (s1 s2 : Nat) (c pay : Int) (hu : EvP (fun n => impl_useOf.f n e (a.drop i) (b.drop k)) (· = ((s1 : Int), (s2 : Int), c, true)))
    (h1 : i + s1 ≤ a.length) (h2 : k + s2 ≤ b.length) (hne : s1 + s2 ≠ 0) (hF : impl_lessKept.f e (s1 : Int) (s2 : Int) c = some pay) (hp : -1 ≤ pay ∧ pay ≤ 3)
    (K : EvP (fun n => impl_leastSums_lessKept.l2 n a b (st x i k (some (comb m (pay + least commonP (a.drop (i + s1)) (b.drop (k + s2)))))) (i : Int) (k : Int) true [1, 2, 3, 4] (([1, 2, 3, 4] : List Int).length : Int) ((j + 1 : Nat) : Int)) Q) :
    EvP (fun n => impl_leastSums_lessKept.l2 n a b (st x i k m) (i : Int) (k : Int) m.isSome [1, 2, 3, 4] (([1, 2, 3, 4] : List Int).length : Int) (j : Int)) Q := by
  have hl : ([1, 2, 3, 4] : List Int).length = 4 := rfl
  obtain ⟨hx, hr⟩ := rows a b D m
  have hri := hr i (Nat.le_refl _) hi
  have hrs := hr (i + s1) (by omega) h1
  have b1 := bd (a.drop (i + s1)) (b.drop (k + s2)) (by rw [drop_len]; omega) (by rw [drop_len]; omega)
  have hv : Hd (wrap64 (pay + rd (rd_L4 (st x i k m) ((i + s1 : Nat) : Int)) ((k + s2 : Nat) : Int)) = pay + least commonP (a.drop (i + s1)) (b.drop (k + s2))) := by
    refine Hd.mk ?_
    rw [rd_T, reads a b D hi hk m s1 s2 h1 h2 hne]
    exact w64 (by omega) (by omega)
  refine EvP.succ ?_
  simp only [impl_leastSums_lessKept.l2]
  refine EvP.yes (by omega) (EvP.yes (by omega) (EvP.yes (by omega) (EvP.yes (by omega) (EvP.yes (by omega) (EvP.yes (by omega) (EvP.yes (by omega) ?_))))))
  rw [he]
  refine EvP.bind (P := (· = ((s1 : Int), (s2 : Int), c, true))) hu (fun _ h => ?_)
  subst h
  refine EvP.yes rfl ?_
  refine EvP.bind (P := (· = pay)) (EvP.con hF rfl) (fun pay' h => ?_)
  subst h
  have e1 : wrap64 ((i : Int) + (s1 : Int)) = ((i + s1 : Nat) : Int) := w64 (by omega) (by omega)
  have e2 : Hd (wrap64 ((k : Int) + (s2 : Int)) = ((k + s2 : Nat) : Int)) := Hd.mk (by clear e1; exact w64 (by omega) (by omega))
  have ej : Hd (wrap64 ((j : Int) + 1) = ((j + 1 : Nat) : Int)) := Hd.mk (by clear e1; exact w64 (by omega) (by omega))
  simp only [e1, e2.out, hv.out, ej.out]
  clear e1 e2 ej hv
  refine EvP.yes (by omega) (EvP.yes (by omega) (EvP.yes (by omega) (EvP.yes (by omega) ?_)))
  cases m with
  | none =>
    refine EvP.no (by simp) (EvP.yes (by omega) (EvP.yes (by omega) ?_))
    exact K
  | some u =>
    refine EvP.yes rfl (EvP.yes (by omega) (EvP.yes (by omega) ?_))
    have hu' : rd (rd_L4 (st x i k (some u)) (i : Int)) (k : Int) = u := by
      rw [rd_T, st, putT_T x i k i k u (by rw [D.len]; omega) (by rw [D.row i (Nat.le_refl _) hi]; omega), if_pos ⟨rfl, rfl⟩]
    rw [hu']
    refine EvP.ite (fun h => ?_) (fun h => ?_)
    · unfold comb at K
      dsimp only at K
      rw [if_pos h] at K
      have ep : st x i k (some (pay' + least commonP (a.drop (i + s1)) (b.drop (k + s2)))) = putT (putT x i k u) i k (pay' + least commonP (a.drop (i + s1)) (b.drop (k + s2))) := (putT_put x i k u _).symm
      rw [ep] at K
      exact K
    · unfold comb at K
      dsimp only at K
      rw [if_neg h] at K
      exact K
theorem cell (next : ∀ x', Done commonP a b x' i k → EvP (fun n => impl_leastSums_lessKept.l1 n a b x' (i : Int) ((k : Int) - 1)) Q) :
    EvP (fun n => impl_leastSums_lessKept.l2 n a b x (i : Int) (k : Int) false [1, 2, 3, 4] (([1, 2, 3, 4] : List Int).length : Int) 0) Q := by
  have hl : ([1, 2, 3, 4] : List Int).length = 4 := rfl
  have fin : ∀ m, Done commonP a b (st x i k m) i k → EvP (fun n => impl_leastSums_lessKept.l2 n a b (st x i k m) (i : Int) (k : Int) m.isSome [1, 2, 3, 4] (([1, 2, 3, 4] : List Int).length : Int) ((4 : Nat) : Int)) Q := by
    intro m hm
    refine EvP.succ ?_
    simp only [impl_leastSums_lessKept.l2]
    refine EvP.no (by omega) ?_
    rw [w64 (by omega) (by omega)]
    exact next _ hm
  have put : ∀ v, v = least commonP (a.drop i) (b.drop k) → Done commonP a b (st x i k (some v)) i k := fun v hv => D.put hi hk hv
  obtain ⟨u1, u2, u3, u4⟩ := use_ok (a.drop i) (b.drop k)
  have s0 := skip a b Q hi hk (x := x)
  have t0 := take a b ha hb Q D hi hk
  show EvP (fun n => impl_leastSums_lessKept.l2 n a b (st x i k none) (i : Int) (k : Int) (none : Option Int).isSome [1, 2, 3, 4] (([1, 2, 3, 4] : List Int).length : Int) ((0 : Nat) : Int)) Q
  by_cases hia : i < a.length
  · have ea := drop_cons hia
    by_cases hkb : k < b.length
    · have eb := drop_cons hkb
      have bp := bdp a[i] b[k]
      have v1 : use1 (a.drop i) (b.drop k) = (((0 : Nat) : Int), ((1 : Nat) : Int), 2, true) := use1_true _ _ (by rw [drop_len]; omega)
      have v3 : use3 (a.drop i) (b.drop k) = (((1 : Nat) : Int), ((0 : Nat) : Int), 2, true) := use3_true _ _ (by rw [drop_len]; omega)
      rw [v1] at u1
      rw [v3] at u3
      refine t0 none 0 (by omega) 1 rfl 0 1 2 commonP.ins u1 (by omega) (by omega) (by omega) pay1 (by omega) ?_
      have least_is := least_cc commonP a[i] b[k] (a.drop (i + 1)) (b.drop (k + 1))
      rw [← ea, ← eb] at least_is
      by_cases he : eqT a[i] b[k] = true
      · have v2 : use2 (a.drop i) (b.drop k) = (((1 : Nat) : Int), ((1 : Nat) : Int), 0, true) := by rw [ea, eb]; simp [use2, he]
        have v4 : (use4 (a.drop i) (b.drop k)).2.2.2 = false := by rw [ea, eb]; simp [use4, he]
        rw [v2] at u2
        refine t0 (some _) 1 (by omega) 2 rfl 1 1 0 (commonP.both a[i] b[k]) u2 (by omega) (by omega) (by omega) (pay2 _ _ he) (by omega) ?_
        refine t0 (some _) 2 (by omega) 3 rfl 1 0 2 commonP.om u3 (by omega) (by omega) (by omega) pay3 (by omega) ?_
        refine s0 (some _) 3 (by omega) 4 rfl _ u4 v4 ?_
        refine fin (some _) (put _ ?_)
        rw [least_is]
        simp only [comb, Nat.add_zero]
        generalize least commonP (a.drop i) (b.drop (k + 1)) = p1
        generalize least commonP (a.drop (i + 1)) (b.drop (k + 1)) = p2
        generalize least commonP (a.drop (i + 1)) (b.drop k) = p3
        (repeat' split) <;> omega
      · have v2 : (use2 (a.drop i) (b.drop k)).2.2.2 = false := by rw [ea, eb]; simp [use2, he]
        have v4 : use4 (a.drop i) (b.drop k) = (((1 : Nat) : Int), ((1 : Nat) : Int), (if a[i].f0 = b[k].f0 then 1 else 3), true) := by
          rw [ea, eb, show use4 (a[i] :: a.drop (i + 1)) (b[k] :: b.drop (k + 1)) = if eqT a[i] b[k] = true then (0, 0, 0, false) else if a[i].f0 = b[k].f0 then (1, 1, 1, true) else (1, 1, 3, true) from rfl, if_neg he]
          split <;> rfl
        rw [v4] at u4
        refine s0 (some _) 1 (by omega) 2 rfl _ u2 v2 ?_
        refine t0 (some _) 2 (by omega) 3 rfl 1 0 2 commonP.om u3 (by omega) (by omega) (by omega) pay3 (by omega) ?_
        refine t0 (some _) 3 (by omega) 4 rfl 1 1 _ (commonP.both a[i] b[k]) u4 (by omega) (by omega) (by omega) (pay4 _ _ he) (by omega) ?_
        refine fin (some _) (put _ ?_)
        rw [least_is]
        simp only [comb, Nat.add_zero]
        generalize least commonP (a.drop i) (b.drop (k + 1)) = p1
        generalize least commonP (a.drop (i + 1)) (b.drop (k + 1)) = p2
        generalize least commonP (a.drop (i + 1)) (b.drop k) = p3
        (repeat' split) <;> omega
    · have eb : b.drop k = [] := List.drop_of_length_le (by omega)
      have bp := bdp a[i] a[i]
      have v1 : (use1 (a.drop i) (b.drop k)).2.2.2 = false := use1_false _ _ (by rw [drop_len]; omega)
      have v2 : (use2 (a.drop i) (b.drop k)).2.2.2 = false := by rw [eb, ea]; simp [use2]
      have v3 : use3 (a.drop i) (b.drop k) = (((1 : Nat) : Int), ((0 : Nat) : Int), 2, true) := use3_true _ _ (by rw [drop_len]; omega)
      have v4 : (use4 (a.drop i) (b.drop k)).2.2.2 = false := by rw [eb, ea]; simp [use4]
      rw [v3] at u3
      refine s0 none 0 (by omega) 1 rfl _ u1 v1 ?_
      refine s0 none 1 (by omega) 2 rfl _ u2 v2 ?_
      refine t0 none 2 (by omega) 3 rfl 1 0 2 commonP.om u3 (by omega) (by omega) (by omega) pay3 (by omega) ?_
      refine s0 (some _) 3 (by omega) 4 rfl _ u4 v4 ?_
      refine fin (some _) (put _ ?_)
      simp only [comb, Nat.add_zero]
      rw [eb, ea, least_cn]
  · have ea : a.drop i = [] := List.drop_of_length_le (by omega)
    have v2 : (use2 (a.drop i) (b.drop k)).2.2.2 = false := by rw [ea]; simp [use2]
    have v3 : (use3 (a.drop i) (b.drop k)).2.2.2 = false := use3_false _ _ (by rw [drop_len]; omega)
    have v4 : (use4 (a.drop i) (b.drop k)).2.2.2 = false := by rw [ea]; simp [use4]
    by_cases hkb : k < b.length
    · have eb := drop_cons hkb
      have bp := bdp b[k] b[k]
      have v1 : use1 (a.drop i) (b.drop k) = (((0 : Nat) : Int), ((1 : Nat) : Int), 2, true) := use1_true _ _ (by rw [drop_len]; omega)
      rw [v1] at u1
      refine t0 none 0 (by omega) 1 rfl 0 1 2 commonP.ins u1 (by omega) (by omega) (by omega) pay1 (by omega) ?_
      refine s0 (some _) 1 (by omega) 2 rfl _ u2 v2 ?_
      refine s0 (some _) 2 (by omega) 3 rfl _ u3 v3 ?_
      refine s0 (some _) 3 (by omega) 4 rfl _ u4 v4 ?_
      refine fin (some _) (put _ ?_)
      simp only [comb, Nat.add_zero]
      rw [ea, eb, least_nc]
    · have eb : b.drop k = [] := List.drop_of_length_le (by omega)
      have v1 : (use1 (a.drop i) (b.drop k)).2.2.2 = false := use1_false _ _ (by rw [drop_len]; omega)
      refine s0 none 0 (by omega) 1 rfl _ u1 v1 ?_
      refine s0 none 1 (by omega) 2 rfl _ u2 v2 ?_
      refine s0 none 2 (by omega) 3 rfl _ u3 v3 ?_
      refine s0 none 3 (by omega) 4 rfl _ u4 v4 ?_
      refine fin none ?_
      obtain rfl : i = a.length := by omega
      obtain rfl : k = b.length := by omega
      exact D.stay
end
section
variable (a b : List Tn) (ha : a.length ≤ 24) (hb : b.length ≤ 24) (Q : List (List Int) → Prop)
include ha hb
theorem row (i : Nat) (hi : i ≤ a.length) (next : ∀ x, Done commonP a b x i 0 → EvP (fun n => impl_leastSums_lessKept.l0 n a b x (wrap64 ((i : Int) - 1))) Q) :
    ∀ k1 : Nat, k1 ≤ b.length + 1 → ∀ x, Done commonP a b x i k1 → EvP (fun n => impl_leastSums_lessKept.l1 n a b x (i : Int) ((k1 : Int) - 1)) Q := by
  intro k1
  induction k1 with
  | zero =>
    intro _ x D
    refine EvP.succ ?_
    simp only [impl_leastSums_lessKept.l1]
    exact EvP.no (by omega) (next x D)
  | succ k ih =>
    intro hk x D
    have ek : (((k + 1 : Nat) : Int) - 1) = (k : Int) := by omega
    rw [ek]
    refine EvP.succ ?_
    simp only [impl_leastSums_lessKept.l1]
    refine EvP.yes (by omega) ?_
    refine EvP.bind (P := (· = [1, 2, 3, 4])) (EvP.con rfl rfl) (fun _ h => ?_)
    subst h
    exact cell a b ha hb Q D hi (by omega) (fun x' D' => ih (by omega) x' D')
theorem lines (hQ : ∀ x, Full commonP a b x → Q x) :
    ∀ i1 : Nat, i1 ≤ a.length + 1 → ∀ x, x.length = a.length + 1 → (∀ j, i1 ≤ j → j ≤ a.length → RL x j = b.length + 1) → (∀ j l, j ≤ a.length → l ≤ b.length → i1 ≤ j → T x j l = least commonP (a.drop j) (b.drop l)) →
      EvP (fun n => impl_leastSums_lessKept.l0 n a b x ((i1 : Int) - 1)) Q := by
  intro i1
  induction i1 with
  | zero =>
    intro _ x hx hr ht
    refine EvP.succ ?_
    simp only [impl_leastSums_lessKept.l0]
    refine EvP.no (by omega) ?_
    exact (EvP.ret (hQ x ⟨hx, fun j hj => hr j (Nat.zero_le _) hj, fun j l hj hl => ht j l hj hl (Nat.zero_le _)⟩))
  | succ i ih =>
    intro hi x hx hr ht
    have ei : (((i + 1 : Nat) : Int) - 1) = (i : Int) := by omega
    have eb : wrap64 ((b.length : Int) + 1) = ((b.length + 1 : Nat) : Int) := w64 (by omega) (by omega)
    rw [ei]
    refine EvP.succ ?_
    simp only [impl_leastSums_lessKept.l0]
    refine EvP.yes (by omega) ?_
    rw [eb]
    refine EvP.yes (by omega) (EvP.yes (by omega) (EvP.yes (by omega) (EvP.yes (by omega) ?_)))
    have D : Done commonP a b (x.set i (List.replicate (b.length + 1) 0)) i (b.length + 1) := Done.new hx (fun j hj hj' => hr j (by omega) hj') (fun j l hj hl hij => ht j l hj hl (by omega)) (by omega)
    have eb' : (((b.length + 1 : Nat) : Int) - 1) = (b.length : Int) := by omega
    have := row a b ha hb Q i (by omega) (fun x' D' => by
      rw [w64 (by omega) (by omega)]
      exact ih (by omega) x' D'.len (fun j hj hj' => D'.row j (by omega) hj') (fun j l hj hl hij => D'.told j l hj hl (by omega))) (b.length + 1) (Nat.le_refl _) _ D
    rw [eb'] at this
    exact this
end
end LlessKept
theorem impl_sums_lessKept (a b : List Tn) (ha : a.length ≤ 24) (hb : b.length ≤ 24) : EvP (fun n => impl_leastSums_lessKept.f n a b) (Full commonP a b) := by
  unfold impl_leastSums_lessKept.f
  have ea : wrap64 ((a.length : Int) + 1) = ((a.length + 1 : Nat) : Int) := w64 (by omega) (by omega)
  rw [ea]
  refine EvP.yes (by omega) (EvP.yes (by omega) ?_)
  have := LlessKept.lines a b ha hb (Full commonP a b) (fun _ h => h) (a.length + 1) (Nat.le_refl _) (List.replicate (a.length + 1) []) (by simp) (fun j hj hj' => by omega) (fun j l hj hl hij => by omega)
  rw [show (((a.length + 1 : Nat) : Int) - 1) = (a.length : Int) by omega] at this
  exact this
end Go.Proofs.Ythpeiboobnnfgaa.Pur
end
section
namespace Go.Proofs.Ythpeiboobnnfgaa.E
open Go.RowKit Go.Proofs.YthpeiboobnnfgaaW.PrintWords Go.Proofs.YthpeiboobnnfgaaW.PrintLast Go.Proofs.YthpeiboobnnfgaaW.PrintMore
attribute [local go_sem] max2_int min2_int max_two min_two max_three min_three max_four min_four
set_option linter.unusedVariables false
set_option linter.unusedSimpArgs false
attribute [local go_sem high] eqA36
attribute [local go_sem] en63_mk1 en63_mk2 en63_mk3 en63_mk4
attribute [local go_sem] str_leq_ str_gtr_ str_geq_
mutual
def spec_EditCommon.j0 : Nat → List (S36) → List (S36) → Bool → Option (Int)
 | 0, _, _, _ => none
 | k + 1, x0, x1, x16 => if x16 = true then (some (-1)) else (if 0 ≤ (wrap64 ((x1.length : Int) + 1)) then (if (wrap64 ((x1.length : Int) + 1) : Int).toNat ≤ 35184372088832 then (spec_EditCommon.l0 k x0 x1 (List.replicate (wrap64 ((x1.length : Int) + 1) : Int).toNat 0) 0) else (none)) else (none))
def spec_EditCommon.l0 : Nat → List (S36) → List (S36) → List Int → Int → Option (Int)
 | 0, _, _, _, _ => none
 | k + 1, x0, x1, x5, x6 => if x6 < (x0.length : Int) then (if 0 ≤ (wrap64 ((x1.length : Int) + 1)) then (if (wrap64 ((x1.length : Int) + 1) : Int).toNat ≤ 35184372088832 then (spec_EditCommon.l1 k x0 x1 x5 x6 (List.replicate (wrap64 ((x1.length : Int) + 1) : Int).toNat 0) 0) else (none)) else (none)) else (if 0 ≤ (x1.length : Int) then (if (x1.length : Int) < (x5.length : Int) then (some (rd x5 (x1.length : Int))) else (none)) else (none))
def spec_EditCommon.l1 : Nat → List (S36) → List (S36) → List Int → Int → List Int → Int → Option (Int)
 | 0, _, _, _, _, _, _ => none
 | k + 1, x0, x1, x5, x6, x7, x8 => if x8 < (x1.length : Int) then (if 0 ≤ x8 then (if x8 < (x7.length : Int) then (if 0 ≤ (wrap64 (x8 + 1)) then (if (wrap64 (x8 + 1)) < (x5.length : Int) then (if (wrap64 (x8 + 1)) < (x7.length : Int) then ((some (x7.set ((wrap64 (x8 + 1)) : Int).toNat (mx (rd x7 x8) (rd x5 (wrap64 (x8 + 1)))) : List Int)).bind fun y569 => (if 0 ≤ x6 then (if x6 < (x0.length : Int) then (if (((rd_T36 x0 x6).f0) == ((rd_T36 x1 x8).f0) && (((rd_T36 x0 x6).f1) == ((rd_T36 x1 x8).f1))) = true then (if x8 < (x5.length : Int) then (spec_EditCommon.l1 k x0 x1 x5 x6 (y569.set ((wrap64 (x8 + 1)) : Int).toNat (mx (rd y569 (wrap64 (x8 + 1))) (wrap64 ((rd x5 x8) + 1)))) (wrap64 (x8 + 1))) else (none)) else (spec_EditCommon.l1 k x0 x1 x5 x6 y569 (wrap64 (x8 + 1)))) else (none)) else (none))) else (none)) else (none)) else (none)) else (none)) else (none)) else (spec_EditCommon.l0 k x0 x1 x7 (wrap64 (x6 + 1)))
end
def spec_EditCommon.f (k : Nat) (l0 : List (S36)) (l1 : List (S36)) : Option (Int) := (spec_MelodyValid.f k l0).bind fun t558 => (if t558 = true then ((spec_MelodyValid.f k l1).bind fun t559 => (spec_EditCommon.j0 k l0 l1 (!t559))) else (spec_EditCommon.j0 k l0 l1 true))
def spec_EditCommon.T11 : Bool × List (List Nat × List Nat) := (true, [([], []), ([], []), ([1], [1]), ([], []), ([], []), ([3, 4], [3, 4]), ([5], [5]), ([], []), ([], []), ([8], [8]), ([7, 9], [7, 9]), ([10], [10]), ([6, 11], [6, 11]), ([0, 2, 0, 1, 2, 3, 4, 5, 6, 7, 8, 9, 10, 11, 12], [0, 2]), ([13, 12, 0, 1, 2, 3, 4, 5, 6, 7, 8, 9, 10, 11, 12], [12, 13])])
def spec_EditCommon.B11 : List Nat := [0, 0, 2, 0, 0, 24, 56, 0, 0, 256, 896, 1920, 4088, 8191, 16383]
def spec_EditCommon.T12 : Bool × List (List Nat × List Nat) := (true, [([], []), ([], []), ([0, 1], [0, 1]), ([2], [2]), ([], []), ([], []), ([4, 5], [4, 5]), ([6], [6]), ([3, 7], [3, 7])])
def spec_EditCommon.B12 : List Nat := [0, 0, 3, 7, 0, 0, 48, 112, 255]
def spec_EditCommon.T13 : Bool × List (List Nat × List Nat) := (true, [([], []), ([], []), ([1], [1]), ([], []), ([], []), ([4], [4]), ([3, 5], [3, 5]), ([6], [6]), ([], []), ([], []), ([8, 9], [8, 9]), ([10], [10]), ([11], [11]), ([7, 12], [7, 12]), ([0, 2, 0, 1, 2, 3, 4, 5, 6, 7, 8, 9, 10, 11, 12, 13], [0, 2]), ([14, 13, 0, 1, 2, 3, 4, 5, 6, 7, 8, 9, 10, 11, 12, 13], [13, 14])])
def spec_EditCommon.B13 : List Nat := [0, 0, 2, 0, 0, 16, 56, 120, 0, 0, 768, 1792, 3840, 8184, 16383, 32767]
end Go.Proofs.Ythpeiboobnnfgaa.E
end
section
namespace Go.Proofs.Ythpeiboobnnfgaa.E
open Go.RowKit Go.Proofs.YthpeiboobnnfgaaW.PrintWords Go.Proofs.YthpeiboobnnfgaaW.PrintLast Go.Proofs.YthpeiboobnnfgaaW.PrintMore
attribute [local go_sem] max2_int min2_int max_two min_two max_three min_three max_four min_four
set_option linter.unusedVariables false
set_option linter.unusedSimpArgs false
attribute [local go_sem] en63_mk1 en63_mk2 en63_mk3 en63_mk4
attribute [local go_sem] str_leq_ str_gtr_ str_geq_
def laws_FnExactEditCommon.f (k : Nat) (l0 : List (S48)) (l1 : List (S48)) : Option (Bool) := (laws_szToneS.f l0 1048576).bind fun t639 => (if t639 < 0 then (some true) else ((laws_szToneS.f l1 t639).bind fun t640 => (if t640 < 0 then (some true) else ((laws_toToneS.f k l0).bind fun t641 => ((laws_toToneS.f k l1).bind fun t644 => ((spec_EditCommon.f k t641 t644).bind fun t647 => ((laws_toToneS.f k l0).bind fun t648 => ((laws_toToneS.f k l1).bind fun t651 => ((impl_EditCommon.f k t648 t651).bind fun t654 => (if t654 = t647 then ((laws_toToneS.f k l0).bind fun t655 => ((laws_eqToneS.f k t648 t655).bind fun t658 => (if t658 = true then ((laws_toToneS.f k l1).bind fun t659 => ((laws_eqToneS.f k t651 t659).bind fun t662 => (if t662 = true then (some true) else (none)))) else (none)))) else (none)))))))))))
end Go.Proofs.Ythpeiboobnnfgaa.E
end
section
namespace Go.Proofs.Ythpeiboobnnfgaa.Pur
open Go.RowKit Go.Proofs.YthpeiboobnnfgaaW.PrintWords Go.Proofs.YthpeiboobnnfgaaW.PrintMore Go.Proofs.Ythpeiboobnnfgaa.E Go.Proofs.Ythpeiboobnnfgaa.Ed
theorem okM_24 {a : List Tn} (h : okM a = true) : a.length ≤ 24 := by
  unfold okM at h
  rw [Bool.and_eq_true] at h
  exact of_decide_eq_true h.2
theorem full_one {p : Pr Tn} {a b : List Tn} {x : List (List Int)} (F : Full p a b x) : 0 < (x.length : Int) ∧ 0 < ((rd_L4 x 0).length : Int) ∧ rd (rd_L4 x 0) 0 = least p a b := by
  have h1 := F.len
  have h2 : (rd_L4 x 0).length = b.length + 1 := F.row 0 (Nat.zero_le _)
  have h3 := F.told 0 0 (Nat.zero_le _) (Nat.zero_le _)
  exact ⟨by omega, by omega, h3⟩
def com (a b : List Tn) : Int := -least commonP a b
structure RowTo (a b : List Tn) (i m : Nat) (xs : List Int) : Prop where
  len : xs.length = b.length + 1
  told : ∀ j, j ≤ m → xs.getD j 0 = com (a.take i) (b.take j)
section
variable (a b : List Tn) (ha : a.length ≤ 24) (hb : b.length ≤ 24) (Q : Int → Prop)
include ha hb
end
def commonOf (a b : List Tn) : Int := if okM a = true ∧ okM b = true then com a b else -1
theorem impl_common (a b : List Tn) : EvP (fun k => impl_EditCommon.f k a b) (· = commonOf a b) := by
  unfold impl_EditCommon.f commonOf
  refine EvP.bind (P := (· = okM a)) (impl_melody a) (fun _ e => ?_)
  subst e
  refine EvP.ite (fun h1 => ?_) (fun h1 => EvP.ret (by rw [if_neg (fun h => h1 h.1)]))
  refine EvP.bind (P := (· = okM b)) (impl_melody b) (fun _ e => ?_)
  subst e
  refine EvP.ite (fun h2 => ?_) (fun h2 => EvP.ret (by rw [if_neg (fun h => h2 h.2)]))
  rw [if_pos ⟨h1, h2⟩]
  have la := okM_24 h1
  refine EvP.bind (impl_sums_lessKept a b la (okM_24 h2)) (fun x F => ?_)
  obtain ⟨f1, f2, f3⟩ := full_one F
  refine EvP.yes f1 (EvP.yes f2 (EvP.ret ?_))
  have := common_bd a b
  rw [f3, w64 (by omega) (by omega)]
  rfl
end Go.Proofs.Ythpeiboobnnfgaa.Pur
end
section
namespace Go.Proofs.Ythpeiboobnnfgaa.E
open Go.RowKit Go.Proofs.YthpeiboobnnfgaaW.PrintWords Go.Proofs.YthpeiboobnnfgaaW.PrintLast Go.Proofs.YthpeiboobnnfgaaW.PrintMore
attribute [local go_sem] max2_int min2_int max_two min_two max_three min_three max_four min_four
set_option linter.unusedVariables false
set_option linter.unusedSimpArgs false
attribute [local go_sem] en63_mk1 en63_mk2 en63_mk3 en63_mk4
attribute [local go_sem] str_leq_ str_gtr_ str_geq_
def impl_MelodyBack.l0 : Nat → List (S36) → List (S36) → List (S36) → Int → Int → Option ((List (S36)) × Bool)
 | 0, _, _, _, _, _ => none
 | k + 1, x0, x4, x13, x14, x15 => if x15 < x14 then (if 0 ≤ x15 then (if x15 < (x13.length : Int) then (if 0 ≤ (wrap64 ((wrap64 ((x0.length : Int) - 1)) - x15)) then (if (wrap64 ((wrap64 ((x0.length : Int) - 1)) - x15)) < (x4.length : Int) then (impl_MelodyBack.l0 k x0 (x4.set ((wrap64 ((wrap64 ((x0.length : Int) - 1)) - x15)) : Int).toNat (⟨(rd_T36 x13 x15).f0, (rd_T36 x13 x15).f1⟩ : S36)) x13 x14 (wrap64 (x15 + 1))) else (none)) else (none)) else (none)) else (none)) else (some (x4, true))
def impl_MelodyBack.f (k : Nat) (l0 : List (S36)) : Option ((List (S36)) × Bool) := (impl_MelodyValid.f k l0).bind fun t585 => (if t585 = true then (if 0 ≤ (l0.length : Int) then (if ((l0.length : Int) : Int).toNat ≤ 17592186044416 then (impl_MelodyBack.l0 k l0 (List.replicate ((l0.length : Int) : Int).toNat z36) l0 (l0.length : Int) 0) else (none)) else (none)) else (some (([] : List (S36)), false)))
end Go.Proofs.Ythpeiboobnnfgaa.E
end
section
namespace Go.Proofs.Ythpeiboobnnfgaa.Pur
open Go.RowKit Go.Proofs.YthpeiboobnnfgaaW.PrintWords Go.Proofs.YthpeiboobnnfgaaW.PrintMore Go.Proofs.Ythpeiboobnnfgaa.E Go.Proofs.Ythpeiboobnnfgaa.Ed
instance : DecidableEq Tn := fun a b => decidable_of_iff (eqT a b = true) (eqT_iff a b)
theorem cost_ok {a b : List Tn} (h : okM a = true) (h' : okM b = true) : costOf a b = least costP a b := by unfold costOf; rw [if_pos ⟨h, h'⟩]
theorem common_ok {a b : List Tn} (h : okM a = true) (h' : okM b = true) : commonOf a b = com a b := by unfold commonOf; rw [if_pos ⟨h, h'⟩]
end Go.Proofs.Ythpeiboobnnfgaa.Pur
end
section
namespace Go.Proofs.Ythpeiboobnnfgaa.E
open Go.RowKit Go.Proofs.YthpeiboobnnfgaaW.PrintWords Go.Proofs.YthpeiboobnnfgaaW.PrintLast Go.Proofs.YthpeiboobnnfgaaW.PrintMore
attribute [local go_sem] max2_int min2_int max_two min_two max_three min_three max_four min_four
set_option linter.unusedVariables false
set_option linter.unusedSimpArgs false
attribute [local go_sem] en63_mk1 en63_mk2 en63_mk3 en63_mk4
attribute [local go_sem] str_leq_ str_gtr_ str_geq_
def laws_FnExactEditSum.f (k : Nat) (l0 : List (S48)) (l1 : List (S48)) (a2 : ByteArray) : Option (Bool) := if (a2.size : Int) > 1048576 then (some true) else ((laws_szToneS.f l0 1048576).bind fun t687 => (if t687 < 0 then (some true) else ((laws_szToneS.f l1 t687).bind fun t688 => (if t688 < 0 then (some true) else ((laws_toToneS.f k l0).bind fun t689 => ((laws_toToneS.f k l1).bind fun t692 => ((spec_EditSum.f k t689 t692 a2).bind fun t695 => ((laws_toToneS.f k l0).bind fun t696 => ((laws_toToneS.f k l1).bind fun t699 => ((impl_EditSum.f k t696 t699 a2).bind fun t702 => (if t702 = t695 then ((laws_toToneS.f k l0).bind fun t703 => ((laws_eqToneS.f k t696 t703).bind fun t706 => (if t706 = true then ((laws_toToneS.f k l1).bind fun t707 => ((laws_eqToneS.f k t699 t707).bind fun t710 => (if t710 = true then (some true) else (none)))) else (none)))) else (none))))))))))))
end Go.Proofs.Ythpeiboobnnfgaa.E
end
section
namespace Go.Proofs.Ythpeiboobnnfgaa.Pur
open Go.RowKit Go.Proofs.YthpeiboobnnfgaaW.PrintWords Go.Proofs.YthpeiboobnnfgaaW.PrintMore Go.Proofs.Ythpeiboobnnfgaa.E Go.Proofs.Ythpeiboobnnfgaa.Ed
theorem impl_sum (a b : List Tn) (t : ByteArray) (ht : t.size ≤ 1048576) : EvP (fun k => impl_EditSum.f k a b t) (· = ans (sumOf a b t)) := by
  unfold impl_EditSum.f ans
  refine EvP.bind (impl_asum a b t ht) (fun _ e => ?_)
  subst e
  exact EvP.ite (fun h => EvP.ret (by rw [if_pos h])) (fun h => EvP.ret (by rw [if_neg h]))
end Go.Proofs.Ythpeiboobnnfgaa.Pur
end
section
namespace Go.Proofs.Ythpeiboobnnfgaa.E
open Go.RowKit Go.Proofs.YthpeiboobnnfgaaW.PrintWords Go.Proofs.YthpeiboobnnfgaaW.PrintLast Go.Proofs.YthpeiboobnnfgaaW.PrintMore
attribute [local go_sem] max2_int min2_int max_two min_two max_three min_three max_four min_four
set_option linter.unusedVariables false
set_option linter.unusedSimpArgs false
attribute [local go_sem] en63_mk1 en63_mk2 en63_mk3 en63_mk4
attribute [local go_sem] str_leq_ str_gtr_ str_geq_
def impl_EditOk.f (k : Nat) (l0 : List (S36)) (l1 : List (S36)) (a2 : ByteArray) : Option (Bool) := (impl_alignmentSum.f k l0 l1 a2).bind fun bt493 => (some bt493.2)
end Go.Proofs.Ythpeiboobnnfgaa.E
end
section
namespace Go.Proofs.Ythpeiboobnnfgaa.E
open Go.RowKit Go.Proofs.YthpeiboobnnfgaaW.PrintWords Go.Proofs.YthpeiboobnnfgaaW.PrintLast Go.Proofs.YthpeiboobnnfgaaW.PrintMore
attribute [local go_sem] max2_int min2_int max_two min_two max_three min_three max_four min_four
set_option linter.unusedVariables false
set_option linter.unusedSimpArgs false
attribute [local go_sem] en63_mk1 en63_mk2 en63_mk3 en63_mk4
attribute [local go_sem] str_leq_ str_gtr_ str_geq_
def spec_EditOk.f (k : Nat) (l0 : List (S36)) (l1 : List (S36)) (a2 : ByteArray) : Option (Bool) := (spec_EditSum.f k l0 l1 a2).bind fun t711 => (some (decide (t711 ≥ 0)))
end Go.Proofs.Ythpeiboobnnfgaa.E
end
section
namespace Go.Proofs.Ythpeiboobnnfgaa.E
open Go.RowKit Go.Proofs.YthpeiboobnnfgaaW.PrintWords Go.Proofs.YthpeiboobnnfgaaW.PrintLast Go.Proofs.YthpeiboobnnfgaaW.PrintMore
attribute [local go_sem] max2_int min2_int max_two min_two max_three min_three max_four min_four
set_option linter.unusedVariables false
set_option linter.unusedSimpArgs false
attribute [local go_sem] en63_mk1 en63_mk2 en63_mk3 en63_mk4
attribute [local go_sem] str_leq_ str_gtr_ str_geq_
def laws_FnExactEditOk.f (k : Nat) (l0 : List (S48)) (l1 : List (S48)) (a2 : ByteArray) : Option (Bool) := if (a2.size : Int) > 1048576 then (some true) else ((laws_szToneS.f l0 1048576).bind fun t712 => (if t712 < 0 then (some true) else ((laws_szToneS.f l1 t712).bind fun t713 => (if t713 < 0 then (some true) else ((laws_toToneS.f k l0).bind fun t714 => ((laws_toToneS.f k l1).bind fun t717 => ((spec_EditOk.f k t714 t717 a2).bind fun t720 => ((laws_toToneS.f k l0).bind fun t721 => ((laws_toToneS.f k l1).bind fun t724 => ((impl_EditOk.f k t721 t724 a2).bind fun t727 => (if (t727 != t720) = true then (none) else ((laws_toToneS.f k l0).bind fun t728 => ((laws_eqToneS.f k t721 t728).bind fun t731 => (if t731 = true then ((laws_toToneS.f k l1).bind fun t732 => ((laws_eqToneS.f k t724 t732).bind fun t735 => (if t735 = true then (some true) else (none)))) else (none)))))))))))))))
end Go.Proofs.Ythpeiboobnnfgaa.E
end
section
namespace Go.Proofs.Ythpeiboobnnfgaa.Pur
open Go.RowKit Go.Proofs.YthpeiboobnnfgaaW.PrintWords Go.Proofs.YthpeiboobnnfgaaW.PrintMore Go.Proofs.Ythpeiboobnnfgaa.E Go.Proofs.Ythpeiboobnnfgaa.Ed
def letsOf (t : ByteArray) : List Int := lets t 0 t.size
theorem letsOf_length (t : ByteArray) : (letsOf t).length = t.size := by unfold letsOf lets; rw [List.length_map, List.length_range']
theorem bt_data (t : ByteArray) (i : Nat) (h : i < t.size) : bt t (i : Int) = ((t.data[i]'h).toNat : Int) := by
  unfold bt
  rw [toNat_nat, dif_pos h]
  rfl
theorem letsOf_eq (t : ByteArray) : letsOf t = t.data.toList.map (fun b => (b.toNat : Int)) := by
  refine List.ext_getElem (by rw [letsOf_length, List.length_map, Array.length_toList]; rfl) (fun i h1 h2 => ?_)
  have hi : i < t.size := by rw [letsOf_length] at h1; exact h1
  simp only [letsOf, lets, List.getElem_map, List.getElem_range', Nat.zero_add, Nat.one_mul]
  rw [bt_data t i hi, Array.getElem_toList]
theorem letsOf_str (l : List Int) (h : ∀ c ∈ l, 0 ≤ c ∧ c ≤ 255) : letsOf (strOfNums l) = l := by
  rw [letsOf_eq, strOfNums_data, List.map_map]
  refine (List.map_congr_left (fun c hc => ?_)).trans (List.map_id l)
  have := h c hc
  simp only [Function.comp, id]
  rw [UInt8.toNat_ofNat_of_lt' (by show c.toNat < 256; omega)]
  omega
theorem less_of_leL : ∀ (x y : List UInt8), leL (x.map (fun b => (b.toNat : Int))) (y.map (fun b => (b.toNat : Int))) → (Op.bytesLess x y || x == y) = true
  | [], [], _ => rfl
  | [], _ :: _, _ => rfl
  | _ :: _, [], h => False.elim h
  | a :: x, b :: y, h => by
    rcases h with h | ⟨h1, h2⟩
    · have h : (a.toNat : Int) < (b.toNat : Int) := h
      have : a < b := by rw [UInt8.lt_iff_toNat_lt]; omega
      simp [Op.bytesLess, this]
    · have h1 : (a.toNat : Int) = (b.toNat : Int) := h1
      have hab : a = b := by rw [← UInt8.toNat_inj]; omega
      have := less_of_leL x y h2
      subst hab
      rw [Bool.or_eq_true] at this ⊢
      rcases this with h | h
      · exact .inl (by rw [Op.bytesLess, h]; simp)
      · exact .inr (by rw [beq_iff_eq] at h; rw [h]; simp)
theorem sumOf_letters {a b : List Tn} (oa : okM a = true) (ob : okM b = true) (t : ByteArray) : sumOf a b t = goL (letsOf t) a b 0 := by
  unfold sumOf
  rw [if_pos ⟨oa, ob⟩, sumT_goL]
  rfl
theorem ans_al {a b : List Tn} {t : ByteArray} (h : ¬ ans (sumOf a b t) < 0) : okM a = true ∧ okM b = true ∧ AlL (letsOf t) a b (ans (sumOf a b t)) ∧ (sumOf a b t).2 = true := by
  unfold ans at h ⊢
  by_cases h2 : (sumOf a b t).2 = true
  · have ho : okM a = true ∧ okM b = true := by
      by_cases ho : okM a = true ∧ okM b = true
      · exact ho
      · unfold sumOf at h2
        rw [if_neg ho] at h2
        exact absurd h2 (by decide)
    rw [if_pos h2] at h ⊢
    refine ⟨ho.1, ho.2, ?_, h2⟩
    have := goL_al (letsOf t) a b 0 (sumOf a b t).1 (by rw [← sumOf_letters ho.1 ho.2, ← h2])
    exact this.eq (by omega)
  · rw [if_neg h2] at h
    omega
theorem al_sum {a b : List Tn} (oa : okM a = true) (ob : okM b = true) {t : ByteArray} {n : Int} (h : AlL (letsOf t) a b n) : sumOf a b t = (n, true) := by
  rw [sumOf_letters oa ob, al_goL h]
  simp
theorem AlL.bytes {cs : List Int} {xs ys : List Tn} {n : Int} (h : AlL cs xs ys n) : ∀ c ∈ cs, 0 ≤ c ∧ c ≤ 255 := by
  induction h with
  | nil => intro c hc; cases hc
  | ins y _ ih => intro c hc; rcases List.mem_cons.mp hc with rfl | hc; omega; exact ih c hc
  | keep x y he _ ih => intro c hc; rcases List.mem_cons.mp hc with rfl | hc; omega; exact ih c hc
  | om x _ ih => intro c hc; rcases List.mem_cons.mp hc with rfl | hc; omega; exact ih c hc
  | repl x y he _ ih => intro c hc; rcases List.mem_cons.mp hc with rfl | hc; omega; exact ih c hc
theorem these_cons (v c : Int) (l : List Int) : these v (c :: l) = (if c = v then these v l + 1 else these v l) := by
  unfold these
  by_cases h : c = v
  · rw [if_pos h, List.filter_cons_of_pos (by simpa using h), List.length_cons]
  · rw [if_neg h, List.filter_cons_of_neg (by simpa using h)]
end Go.Proofs.Ythpeiboobnnfgaa.Pur
end
section
namespace Go.Proofs.Ythpeiboobnnfgaa.Pure
open Go.RowKit Go.Proofs.Ythpeiboobnnfgaa.E Go.Proofs.YthpeiboobnnfgaaW.PrintWords Go.Proofs.YthpeiboobnnfgaaW.PrintLast Go.Proofs.Ythpeiboobnnfgaa.Pur Go.Proofs.Ythpeiboobnnfgaa.Ed
def rest (k : Nat) (a b : List Tn) (t : ByteArray) (out : Int) (other : ByteArray) (keeps : Int) : Option Bool :=
  (impl_EditCost.f k a b).bind fun t488 => ((impl_EditText.f k a b).bind fun bt489 => (if bt489.2 = true then (if out ≥ t488 then ((impl_EditSum.f k b a other).bind fun t491 => (if t491 = out then ((impl_EditCommon.f k a b).bind fun t492 => (if keeps ≤ t492 then (if out > t488 then (some true) else (some (Op.bytesLess bt489.1.toList t.toList || bt489.1.toList == t.toList))) else (none))) else (none))) else (none)) else (none)))
theorem other_loop (a b : List Tn) (t : ByteArray) (ht : t.size ≤ 1048576) (out : Int) (Q : Bool → Prop) (next : EvP (fun k => rest k a b t out (strOfNums ((letsOf t).map opp)) (these 107 (letsOf t) : Int)) Q) :
    ∀ (d i n : Nat) (acc : List Int), i + d = t.size → acc.length = i → n ≤ i → acc ++ (lets t i d).map opp = (letsOf t).map opp → n + these 107 (lets t i d) = these 107 (letsOf t) → EvP (fun k => laws_FnEditSum.l0 k a b t out (strOfNums acc) (n : Int) (i : Int)) Q := by
  intro d
  induction d with
  | zero =>
    intro i n acc hi hl hn ea en
    refine EvP.succ ?_
    simp only [laws_FnEditSum.l0]
    refine EvP.no (by omega) ?_
    simp only [lets, List.range'_zero, List.map_nil, List.append_nil, these, List.filter_nil, List.length_nil, Nat.add_zero] at ea en
    rw [ea, en]
    exact next
  | succ d ih =>
    intro i n acc hi hl hn ea en
    rw [show lets t i (d + 1) = bt t (i : Int) :: lets t (i + 1) d from rfl] at ea en
    rw [these_cons] at en
    rw [List.map_cons] at ea
    have w1 : Hd (wrap64 ((i : Int) + 1) = ((i + 1 : Nat) : Int)) := ⟨w64 (by omega) (by omega)⟩
    have w2 : Hd (wrap64 ((n : Int) + 1) = ((n + 1 : Nat) : Int)) := ⟨w64 (by omega) (by omega)⟩
    have ls := strOfNums_size acc
    have hit : i < t.size := by omega
    have step : ∀ c : Int, opp (bt t (i : Int)) = c → (bt t (i : Int) = 107 → EvP (fun k => laws_FnEditSum.l0 k a b t out (strOfNums acc ++ (⟨#[UInt8.ofNat c.toNat]⟩ : ByteArray)) ((n + 1 : Nat) : Int) ((i + 1 : Nat) : Int)) Q) ∧
        (¬ bt t (i : Int) = 107 → EvP (fun k => laws_FnEditSum.l0 k a b t out (strOfNums acc ++ (⟨#[UInt8.ofNat c.toNat]⟩ : ByteArray)) (n : Int) ((i + 1 : Nat) : Int)) Q) := by
      intro c hc
      rw [← strOf_snoc]
      rw [hc] at ea
      refine ⟨fun h7 => ?_, fun h7 => ?_⟩
      · rw [if_pos h7] at en
        exact ih (i + 1) (n + 1) (acc ++ [c]) (by omega) (by simp; omega) (by omega) (by rw [List.append_assoc]; exact ea) (by omega)
      · rw [if_neg h7] at en
        exact ih (i + 1) n (acc ++ [c]) (by omega) (by simp; omega) (by omega) (by rw [List.append_assoc]; exact ea) (by omega)
    refine EvP.succ ?_
    simp only [laws_FnEditSum.l0]
    refine EvP.yes (by omega) (EvP.yes (by omega) ?_)
    rw [w1.out, w2.out]
    refine EvP.ite (fun h5 => ?_) (fun h5 => EvP.ite (fun h6 => ?_) (fun h6 => ?_))
    · have s := step 111 (by rw [h5]; rfl)
      exact EvP.yes (by omega) (EvP.ite (fun h7 => s.1 h7) (fun h7 => s.2 h7))
    · have s := step 105 (by rw [h6]; rfl)
      exact EvP.yes (by omega) (EvP.ite (fun h7 => s.1 h7) (fun h7 => s.2 h7))
    · have ex : t.extract i (i + 1) = (⟨#[UInt8.ofNat (bt t (i : Int)).toNat]⟩ : ByteArray) := by
        apply ByteArray.ext
        rw [ByteArray.data_extract, bt_data t i hit]
        have hd : i < t.data.size := hit
        apply Array.ext
        · rw [Array.size_extract]
          show min (i + 1) t.data.size - i = 1
          omega
        · intro j h1 h2
          obtain rfl : j = 0 := Nat.lt_one_iff.mp h2
          rw [Array.getElem_extract]
          simp
      have s := step (bt t (i : Int)) (by unfold opp; rw [if_neg h5, if_neg h6])
      rw [toNat_nat, toNat_nat, ex]
      exact EvP.yes (by omega) (EvP.yes (by omega) (EvP.yes (by show _ + 1 ≤ _; omega) (EvP.ite (fun h7 => s.1 h7) (fun h7 => s.2 h7))))
theorem FnEditSum : laws_FnEditSum.Pure := by
  intro l0 _ _ hw
  refine EvP.rounds (?_ : EvP (fun k => laws_FnEditSum.f k l0) (· = true))
  unfold laws_FnEditSum.f
  refine EvP.ite (fun _ => EvP.ret rfl) (fun h0 => ?_)
  refine EvP.bind (draw_sum l0 hw) (fun r hr => ?_)
  obtain ⟨a, b, t⟩ := r
  obtain ⟨la, lb, lt⟩ := hr
  dsimp only at la lb lt ⊢
  refine EvP.bind (impl_sum a b t (by omega)) (fun _ e => ?_)
  subst e
  refine EvP.bind (spec_sum a b t (by omega) (by omega) (by omega)) (fun _ e => ?_)
  subst e
  refine EvP.yes rfl ?_
  refine EvP.succ ?_
  simp only [laws_FnEditSum.j0]
  refine EvP.ite (fun _ => EvP.ret (by simp)) (fun hn => ?_)
  have hn : ¬ ans (sumOf a b t) < 0 := fun h => hn (decide_eq_true h)
  obtain ⟨oa, ob, A, _⟩ := ans_al hn
  generalize ans (sumOf a b t) = out at *
  refine other_loop a b t (by omega) out _ ?_ t.size 0 0 [] (by omega) rfl (by omega) rfl (by rw [Nat.zero_add]; rfl)
  unfold rest
  refine EvP.bind (impl_cost a b) (fun _ e => ?_)
  subst e
  refine EvP.bind (impl_txt a b) (fun _ e => ?_)
  subst e
  have ht : txtOf a b = (strOfNums (txt 48 a b), true) := by unfold txtOf; rw [if_pos ⟨oa, ob⟩]
  rw [ht, cost_ok oa ob]
  refine EvP.yes rfl (EvP.yes A.le ?_)
  have Sw := A.swap
  have hl : letsOf (strOfNums ((letsOf t).map opp)) = (letsOf t).map opp := letsOf_str _ Sw.bytes
  have hs : (strOfNums ((letsOf t).map opp)).size ≤ 49 := by rw [strOfNums_size, List.length_map, letsOf_length]; omega
  rw [← hl] at Sw
  generalize strOfNums ((letsOf t).map opp) = o at *
  refine EvP.bind (impl_sum b a o (by omega)) (fun _ e => ?_)
  subst e
  refine EvP.yes (by rw [al_sum ob oa Sw]; rfl) ?_
  refine EvP.bind (impl_common a b) (fun _ e => ?_)
  subst e
  have hk := A.keeps.le
  refine EvP.yes (by rw [common_ok oa ob]; unfold com; omega) ?_
  refine EvP.ite (fun _ => EvP.ret rfl) (fun hg => EvP.ret ?_)
  have he : out = least costP a b := by have := A.le; omega
  have L := txt_least A 48 (by omega) he
  have T := txt_al 48 a b (by omega)
  have h1 : (txt 48 a b) = (strOfNums (txt 48 a b)).data.toList.map (fun c => (c.toNat : Int)) := by rw [← letsOf_eq, letsOf_str _ T.bytes]
  rw [h1, letsOf_eq] at L
  have := less_of_leL _ _ L
  rw [ByteArray.toList_eq, ByteArray.toList_eq]
  exact this
end Go.Proofs.Ythpeiboobnnfgaa.Pure
end
section
namespace Go.Proofs.YthpeiboobnnfgaaW.PrintWords
open Go.ChangeShapes Go.WideShapes
theorem sized_ints {H : Type} {enc : TypeId × Value → H} {P : Program} {W : World} {base : Nat} {spare : Nat → Bool} {held : Bool} {t e : TypeId} {k : IntKind} {a : Option Addr} {len cap : Nat} {d : DataW H} {ps : List MemPlace} {ts : List TypeId} {ds : List (DataW H)} {j : Nat}
    (hsz : (DataW.weightsEach P ts ds).all (· ≤ reachBytes) = true) (ht : ts[j]? = some t) (hd : ds[j]? = some d) (hu : P.underlying t = some (.slice e)) (he : P.underlying e = some (.int k)) (hc : P.cellsOf e = 1) {B : Nat} (hB : P.bytesOf e = B)
    (h : DataW.Trod enc P W base spare held t (.slice a len cap) d ps) : len * B ≤ 140737488351232 := by
  obtain ⟨fuel, hf⟩ := h
  rcases open_ints hu he hc hf with ⟨hcs, _⟩ | ⟨x, l, c, zs, hcs, _, hl, _, hz, hx, _, _⟩
  · simp [Value.cells] at hcs
    obtain ⟨rfl, rfl, rfl⟩ := hcs
    simp
  · simp [Value.cells] at hcs
    obtain ⟨rfl, rfl, rfl⟩ := hcs
    obtain ⟨hx, _⟩ := Prod.mk.inj hx
    subst hx
    have z := sized_slice hsz ht hd hu
    rw [hB] at z
    have hl2 : len ≤ zs.length := by
      rw [hz]
      split
      · exact hl
      · exact Nat.le_refl _
    have h1 : (lits (H := H) k (zs.take len)).length + (lits (H := H) k (zs.drop len)).length = zs.length := by
      simp [lits]
      omega
    rw [h1] at z
    exact Nat.le_trans (Nat.mul_le_mul_right _ hl2) z
end Go.Proofs.YthpeiboobnnfgaaW.PrintWords
end
section
namespace Go.Proofs.Ythpeiboobnnfgaa.fnEditSum
open Go.ChangeShapes Go.WideShapes Go.ChangeAt Go.RowKit
open Go.ChangeMaps (open_string shut_string)
set_option linter.unusedVariables false
theorem own : ownKnob Try.prog.godebug = none := by kernel_rfl
theorem laidOut : laidOutB Try.prog = true := by kernel_rfl
def IsRow (k : IntKind) (w : World) (a : Option Addr) (len cap : Nat) (zs : List Int) : Prop :=
  (a = none ∧ len = 0 ∧ cap = 0 ∧ zs = []) ∨
  ∃ x, a = some x ∧ len ≤ cap ∧ cap ≤ maxLen ∧ zs.length = cap ∧ (∀ i, i < zs.length → w.cell? (x.add i) = some (.int k (zs.getD i 0))) ∧ ∀ n ∈ zs, (Lit.int k n).wf = true
set_option maxRecDepth 100000 in
theorem lifted (os : Os) (started : os.Started) (H : Type) (enc : TypeId × Value → H) :
    ReturnsInHanded {} Try.checked os 12 .any (Rows.fnEditSumSpec.pre6 enc Try.prog Try.f12 Rows.fnEditSumRow.domain false) (Rows.fnEditSumSpec.post enc Try.prog Try.f12 false true false false) := by
  refine returnsInHanded_of_change_sized (C := Try.checked) own started (by kernel_rfl) Try.func12
    (ChangeSpec.witness6 (enc := enc) (C := Try.checked) false ⟨#[], #[.slice none 0 0], []⟩ 8 (by kernel_rfl) (by kernel_rfl) (by kernel_rfl) (by kernel_rfl)) ?_
  intro W base args ds gs before hval0 hW hcnd hsz0 _
  have hsz : (DataW.weightsEach Try.prog (Try.f12.params.toList ++ Rows.fnEditSumSpec.plain.varTypes Try.prog) (ds ++ gs)).all (· ≤ reachBytes) = true := hsz0
  have hval : ∀ (j : Nat) t v, Try.f12.params[j]? = some t → args[j]? = some v → Value.okWide Try.prog W .any base t v := hval0
  have hW' := hW
  obtain ⟨p, q, hA0, hV, rfl, hfz, hnd⟩ := hW
  have hA : DataW.TrodAll enc Try.prog W 0 (fun _ => true) true Try.f12.params.toList args.toList ds p := hA0
  rw [Try.params12] at hA hval hsz
  obtain ⟨v0, vs0, d0, ds0, p0, q0, hargs, rfl, rfl, h0, r0⟩ := trodAll_cons hA
  obtain ⟨rfl, rfl, rfl⟩ := trodAll_nil r0
  obtain rfl : args = #[v0] := by cases args; simp_all
  obtain ⟨rfl, rfl⟩ := trodVars_none hV
  obtain ⟨a0, len0, cap0, rfl⟩ := okWide_slice Try.underlying32 (hval 0 32 v0 rfl rfl)
  have k0 := h0
  have lt0 : ∀ x ∈ p0, x.block < W.heap.size := by obtain ⟨m, hm⟩ := k0; exact DataW.trod_lt m _ _ _ hm
  obtain ⟨z0, w0⟩ : ∃ zs, IsRow .u8 W a0 len0 cap0 zs := by
    obtain ⟨fuel, hf⟩ := h0
    rcases open_ints Try.underlying32 Try.underlying5 (by kernel_rfl) hf with ⟨hcs, _⟩ | ⟨x, l, c, zs, hcs, _, hl, hm, hz, _, hcell, hwz⟩
    · simp [Value.cells] at hcs
      obtain ⟨rfl, rfl, rfl⟩ := hcs
      exact ⟨[], .inl ⟨rfl, rfl, rfl, rfl⟩⟩
    · simp [Value.cells] at hcs
      obtain ⟨rfl, rfl, rfl⟩ := hcs
      exact ⟨zs, .inr ⟨_, rfl, hl, hm, by simpa using hz, hcell, hwz⟩⟩
  have y0 : len0 * 1 ≤ 140737488351232 := Go.Proofs.YthpeiboobnnfgaaW.PrintWords.sized_ints hsz (j := 0) (t := 32) rfl rfl Try.underlying32 Try.underlying5 (by kernel_rfl) (by kernel_rfl) h0
  clear hA0 hval0 hsz0 hsz
  refine (E.laws_FnEditSum.walk Pure.FnEditSum a0 len0 cap0 z0 W w0 y0).mono fun e W' ⟨he, bel⟩ => ?_
  subst he
  exact ⟨_, rfl, _, _, _, [], _, [], hW', trodAll_mk1 (shut_bool Try.underlying4 _), (trodAll_cons_mk (Below.trod laidOut (by kernel_rfl) (of_decide_eq_true (by kernel_rfl)) k0 bel lt0) trodAll_mk0), rfl, bel.frame _, fun h => by cases h⟩
theorem over : Rows.fnEditSumRow.holds Try.pinned (OpenSpec.ofChange Rows.fnEditSumSpec) :=
  OpenClaim.holds_of_wide 12 Try.f12 rfl rfl rfl rfl rfl rfl rfl ⟨rfl, rfl, rfl, rfl, rfl⟩ rfl rfl rfl rfl rfl (by kernel_rfl) Try.func12 (by kernel_rfl)
    (of_decide_eq_true (by kernel_rfl)) (by unfold Func.isWrapper; first | (rw [if_pos (by decide +kernel)]; kernel_rfl) | (rw [if_neg (by decide +kernel)]; exact ⟨rfl, rfl⟩))
    (fun os started H enc _ => lifted os started H enc)
theorem proved : Rows.FnEditSumSaid := over
#print axioms proved
end Go.Proofs.Ythpeiboobnnfgaa.fnEditSum
namespace Go.Proofs.Ythpeiboobnnfgaa
theorem fnEditSum_holds : Rows.FnEditSumSaid := fnEditSum.proved
end Go.Proofs.Ythpeiboobnnfgaa
end
