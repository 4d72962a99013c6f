/- Proved: for all arguments the given program's laws.FnExactEditText returns true, and its arguments read afterwards as they read before (the given constant Rows.FnExactEditTextSaid).
Conditions: none ahead of the given statement. -/
import Derived.Test.YthpeiboobnnfgaaRowFnExactEditTextK3
section
namespace Go.Proofs.Ythpeiboobnnfgaa.Pur
open Go.RowKit Go.Proofs.YthpeiboobnnfgaaW.PrintWords Go.Proofs.YthpeiboobnnfgaaW.PrintMore Go.Proofs.Ythpeiboobnnfgaa.E Go.Proofs.Ythpeiboobnnfgaa.Ed
namespace LcostOf
theorem pay1 : impl_costOf.f 1 0 1 2 = some costP.ins := by simp [impl_costOf.f, costP]
theorem pay3 : impl_costOf.f 3 1 0 2 = some costP.om := by simp [impl_costOf.f, costP]
theorem pay2 (x y : Tn) (h : eqT x y = true) : impl_costOf.f 2 1 1 0 = some (costP.both x y) := by
  obtain rfl := (eqT_iff x y).mp h
  simp [impl_costOf.f, costP]
theorem pay4 (x y : Tn) (h : ¬ eqT x y = true) : impl_costOf.f 4 1 1 (if x.f0 = y.f0 then 1 else 3) = some (costP.both x y) := by
  unfold eqT at h
  by_cases h0 : x.f0 = y.f0
  · by_cases h1 : x.f1 = y.f1
    · simp [h0, h1] at h
    · simp [impl_costOf.f, costP, h0, h1]
  · simp [impl_costOf.f, costP, h0]
theorem bd (xs ys : List Tn) (hx : xs.length ≤ 24) (_hy : ys.length ≤ 24) : -24 ≤ least costP xs ys ∧ least costP xs ys ≤ 96 := by
  have := cost_bd xs ys
  omega
theorem bdp (x y : Tn) : -1 ≤ costP.both x y ∧ costP.both x y ≤ 3 ∧ -1 ≤ costP.ins ∧ costP.ins ≤ 3 ∧ -1 ≤ costP.om ∧ costP.om ≤ 3 := by
  unfold costP
  dsimp only
  split <;> (try split) <;> omega
def st (x : List (List Int)) (i k : Nat) : Option Int → List (List Int)
  | none => x
  | some u => putT x i k u
def comb : Option Int → Int → Int
  | none, v => v
  | some u, v => if v < u then v else u
section
variable (a b : List Tn) (ha : a.length ≤ 24) (hb : b.length ≤ 24) (Q : List (List Int) → Prop)
variable {x : List (List Int)} {i k : Nat} (D : Done costP a b x i (k + 1)) (hi : i ≤ a.length) (hk : k ≤ b.length)
include ha hb D hi hk
omit ha hb hi hk in
theorem rows (m : Option Int) : (st x i k m).length = a.length + 1 ∧ (∀ j, i ≤ j → j ≤ a.length → (rd_L4 (st x i k m) (j : Int)).length = b.length + 1) := by
  cases m with
  | none => exact ⟨D.len, fun j hj hj' => D.row j hj hj'⟩
  | some u => exact ⟨by rw [st, putT_length]; exact D.len, fun j hj hj' => by rw [st, rd_RL, putT_RL]; exact D.row j hj hj'⟩
omit ha hb in
theorem reads (m : Option Int) (s1 s2 : Nat) (h1 : i + s1 ≤ a.length) (h2 : k + s2 ≤ b.length) (hne : s1 + s2 ≠ 0) : T (st x i k m) (i + s1) (k + s2) = least costP (a.drop (i + s1)) (b.drop (k + s2)) := by
  have ht := D.told (i + s1) (k + s2) h1 h2 (by omega)
  cases m with
  | none => exact ht
  | some u =>
    rw [st, putT_T x i k _ _ u (by rw [D.len]; omega) (by rw [D.row i (Nat.le_refl _) hi]; omega), if_neg (by omega)]
    exact ht
omit ha hb D in
theorem skip (m : Option Int) (j : Nat) (hj : j < 4) (e : Int) (he : rd [1, 2, 3, 4] (j : Int) = e) (u : Int × Int × Int × Bool) (hu : EvP (fun n => impl_useOf.f n e (a.drop i) (b.drop k)) (· = u)) (ho : u.2.2.2 = false)
    (K : EvP (fun n => impl_leastSums_costOf.l2 n a b (st x i k m) (i : Int) (k : Int) m.isSome [1, 2, 3, 4] (([1, 2, 3, 4] : List Int).length : Int) ((j + 1 : Nat) : Int)) Q) :
    EvP (fun n => impl_leastSums_costOf.l2 n a b (st x i k m) (i : Int) (k : Int) m.isSome [1, 2, 3, 4] (([1, 2, 3, 4] : List Int).length : Int) (j : Int)) Q := by
  have hl : ([1, 2, 3, 4] : List Int).length = 4 := rfl
  refine EvP.succ ?_
  simp only [impl_leastSums_costOf.l2]
  refine EvP.yes (by omega) (EvP.yes (by omega) (EvP.yes (by omega) (EvP.yes (by omega) (EvP.yes (by omega) (EvP.yes (by omega) (EvP.yes (by omega) ?_))))))
  rw [he]
  refine EvP.bind (P := (· = u)) hu (fun _ h => ?_)
  subst h
  refine EvP.no (by rw [ho]; simp) ?_
  rw [w64 (by omega) (by omega)]
  exact K
theorem take (m : Option Int) (j : Nat) (hj : j < 4) (e : Int) (he : rd [1, 2, 3, 4] (j : Int) = e) (s1 s2 : Nat) (c pay : Int) (hu : EvP (fun n => impl_useOf.f n e (a.drop i) (b.drop k)) (· = ((s1 : Int), (s2 : Int), c, true)))
    (h1 : i + s1 ≤ a.length) (h2 : k + s2 ≤ b.length) (hne : s1 + s2 ≠ 0) (hF : impl_costOf.f e (s1 : Int) (s2 : Int) c = some pay) (hp : -1 ≤ pay ∧ pay ≤ 3)
    (K : EvP (fun n => impl_leastSums_costOf.l2 n a b (st x i k (some (comb m (pay + least costP (a.drop (i + s1)) (b.drop (k + s2)))))) (i : Int) (k : Int) true [1, 2, 3, 4] (([1, 2, 3, 4] : List Int).length : Int) ((j + 1 : Nat) : Int)) Q) :
    EvP (fun n => impl_leastSums_costOf.l2 n a b (st x i k m) (i : Int) (k : Int) m.isSome [1, 2, 3, 4] (([1, 2, 3, 4] : List Int).length : Int) (j : Int)) Q := by
  have hl : ([1, 2, 3, 4] : List Int).length = 4 := rfl
  obtain ⟨hx, hr⟩ := rows a b D m
  have hri := hr i (Nat.le_refl _) hi
  have hrs := hr (i + s1) (by omega) h1
  have b1 := bd (a.drop (i + s1)) (b.drop (k + s2)) (by rw [drop_len]; omega) (by rw [drop_len]; omega)
  have hv : Hd (wrap64 (pay + rd (rd_L4 (st x i k m) ((i + s1 : Nat) : Int)) ((k + s2 : Nat) : Int)) = pay + least costP (a.drop (i + s1)) (b.drop (k + s2))) := by
    refine Hd.mk ?_
    rw [rd_T, reads a b D hi hk m s1 s2 h1 h2 hne]
    exact w64 (by omega) (by omega)
  refine EvP.succ ?_
  simp only [impl_leastSums_costOf.l2]
  refine EvP.yes (by omega) (EvP.yes (by omega) (EvP.yes (by omega) (EvP.yes (by omega) (EvP.yes (by omega) (EvP.yes (by omega) (EvP.yes (by omega) ?_))))))
  rw [he]
  refine EvP.bind (P := (· = ((s1 : Int), (s2 : Int), c, true))) hu (fun _ h => ?_)
  subst h
  refine EvP.yes rfl ?_
  refine EvP.bind (P := (· = pay)) (EvP.con hF rfl) (fun pay' h => ?_)
  subst h
  have e1 : wrap64 ((i : Int) + (s1 : Int)) = ((i + s1 : Nat) : Int) := w64 (by omega) (by omega)
  have e2 : Hd (wrap64 ((k : Int) + (s2 : Int)) = ((k + s2 : Nat) : Int)) := Hd.mk (by clear e1; exact w64 (by omega) (by omega))
  have ej : Hd (wrap64 ((j : Int) + 1) = ((j + 1 : Nat) : Int)) := Hd.mk (by clear e1; exact w64 (by omega) (by omega))
  simp only [e1, e2.out, hv.out, ej.out]
  clear e1 e2 ej hv
  refine EvP.yes (by omega) (EvP.yes (by omega) (EvP.yes (by omega) (EvP.yes (by omega) ?_)))
  cases m with
  | none =>
    refine EvP.no (by simp) (EvP.yes (by omega) (EvP.yes (by omega) ?_))
    exact K
  | some u =>
    refine EvP.yes rfl (EvP.yes (by omega) (EvP.yes (by omega) ?_))
    have hu' : rd (rd_L4 (st x i k (some u)) (i : Int)) (k : Int) = u := by
      rw [rd_T, st, putT_T x i k i k u (by rw [D.len]; omega) (by rw [D.row i (Nat.le_refl _) hi]; omega), if_pos ⟨rfl, rfl⟩]
    rw [hu']
    refine EvP.ite (fun h => ?_) (fun h => ?_)
    · unfold comb at K
      dsimp only at K
      rw [if_pos h] at K
      have ep : st x i k (some (pay' + least costP (a.drop (i + s1)) (b.drop (k + s2)))) = putT (putT x i k u) i k (pay' + least costP (a.drop (i + s1)) (b.drop (k + s2))) := (putT_put x i k u _).symm
      rw [ep] at K
      exact K
    · unfold comb at K
      dsimp only at K
      rw [if_neg h] at K
      exact K
theorem cell (next : ∀ x', Done costP a b x' i k → EvP (fun n => impl_leastSums_costOf.l1 n a b x' (i : Int) ((k : Int) - 1)) Q) :
    EvP (fun n => impl_leastSums_costOf.l2 n a b x (i : Int) (k : Int) false [1, 2, 3, 4] (([1, 2, 3, 4] : List Int).length : Int) 0) Q := by
  have hl : ([1, 2, 3, 4] : List Int).length = 4 := rfl
  have fin : ∀ m, Done costP a b (st x i k m) i k → EvP (fun n => impl_leastSums_costOf.l2 n a b (st x i k m) (i : Int) (k : Int) m.isSome [1, 2, 3, 4] (([1, 2, 3, 4] : List Int).length : Int) ((4 : Nat) : Int)) Q := by
    intro m hm
    refine EvP.succ ?_
    simp only [impl_leastSums_costOf.l2]
    refine EvP.no (by omega) ?_
    rw [w64 (by omega) (by omega)]
    exact next _ hm
  have put : ∀ v, v = least costP (a.drop i) (b.drop k) → Done costP a b (st x i k (some v)) i k := fun v hv => D.put hi hk hv
  obtain ⟨u1, u2, u3, u4⟩ := use_ok (a.drop i) (b.drop k)
  have s0 := skip a b Q hi hk (x := x)
  have t0 := take a b ha hb Q D hi hk
  show EvP (fun n => impl_leastSums_costOf.l2 n a b (st x i k none) (i : Int) (k : Int) (none : Option Int).isSome [1, 2, 3, 4] (([1, 2, 3, 4] : List Int).length : Int) ((0 : Nat) : Int)) Q
  by_cases hia : i < a.length
  · have ea := drop_cons hia
    by_cases hkb : k < b.length
    · have eb := drop_cons hkb
      have bp := bdp a[i] b[k]
      have v1 : use1 (a.drop i) (b.drop k) = (((0 : Nat) : Int), ((1 : Nat) : Int), 2, true) := use1_true _ _ (by rw [drop_len]; omega)
      have v3 : use3 (a.drop i) (b.drop k) = (((1 : Nat) : Int), ((0 : Nat) : Int), 2, true) := use3_true _ _ (by rw [drop_len]; omega)
      rw [v1] at u1
      rw [v3] at u3
      refine t0 none 0 (by omega) 1 rfl 0 1 2 costP.ins u1 (by omega) (by omega) (by omega) pay1 (by omega) ?_
      have least_is := least_cc costP a[i] b[k] (a.drop (i + 1)) (b.drop (k + 1))
      rw [← ea, ← eb] at least_is
      by_cases he : eqT a[i] b[k] = true
      · have v2 : use2 (a.drop i) (b.drop k) = (((1 : Nat) : Int), ((1 : Nat) : Int), 0, true) := by rw [ea, eb]; simp [use2, he]
        have v4 : (use4 (a.drop i) (b.drop k)).2.2.2 = false := by rw [ea, eb]; simp [use4, he]
        rw [v2] at u2
        refine t0 (some _) 1 (by omega) 2 rfl 1 1 0 (costP.both a[i] b[k]) u2 (by omega) (by omega) (by omega) (pay2 _ _ he) (by omega) ?_
        refine t0 (some _) 2 (by omega) 3 rfl 1 0 2 costP.om u3 (by omega) (by omega) (by omega) pay3 (by omega) ?_
        refine s0 (some _) 3 (by omega) 4 rfl _ u4 v4 ?_
        refine fin (some _) (put _ ?_)
        rw [least_is]
        simp only [comb, Nat.add_zero]
        generalize least costP (a.drop i) (b.drop (k + 1)) = p1
        generalize least costP (a.drop (i + 1)) (b.drop (k + 1)) = p2
        generalize least costP (a.drop (i + 1)) (b.drop k) = p3
        (repeat' split) <;> omega
      · have v2 : (use2 (a.drop i) (b.drop k)).2.2.2 = false := by rw [ea, eb]; simp [use2, he]
        have v4 : use4 (a.drop i) (b.drop k) = (((1 : Nat) : Int), ((1 : Nat) : Int), (if a[i].f0 = b[k].f0 then 1 else 3), true) := by
          rw [ea, eb, show use4 (a[i] :: a.drop (i + 1)) (b[k] :: b.drop (k + 1)) = if eqT a[i] b[k] = true then (0, 0, 0, false) else if a[i].f0 = b[k].f0 then (1, 1, 1, true) else (1, 1, 3, true) from rfl, if_neg he]
          split <;> rfl
        rw [v4] at u4
        refine s0 (some _) 1 (by omega) 2 rfl _ u2 v2 ?_
        refine t0 (some _) 2 (by omega) 3 rfl 1 0 2 costP.om u3 (by omega) (by omega) (by omega) pay3 (by omega) ?_
        refine t0 (some _) 3 (by omega) 4 rfl 1 1 _ (costP.both a[i] b[k]) u4 (by omega) (by omega) (by omega) (pay4 _ _ he) (by omega) ?_
        refine fin (some _) (put _ ?_)
        rw [least_is]
        simp only [comb, Nat.add_zero]
        generalize least costP (a.drop i) (b.drop (k + 1)) = p1
        generalize least costP (a.drop (i + 1)) (b.drop (k + 1)) = p2
        generalize least costP (a.drop (i + 1)) (b.drop k) = p3
        (repeat' split) <;> omega
    · have eb : b.drop k = [] := List.drop_of_length_le (by omega)
      have bp := bdp a[i] a[i]
      have v1 : (use1 (a.drop i) (b.drop k)).2.2.2 = false := use1_false _ _ (by rw [drop_len]; omega)
      have v2 : (use2 (a.drop i) (b.drop k)).2.2.2 = false := by rw [eb, ea]; simp [use2]
      have v3 : use3 (a.drop i) (b.drop k) = (((1 : Nat) : Int), ((0 : Nat) : Int), 2, true) := use3_true _ _ (by rw [drop_len]; omega)
      have v4 : (use4 (a.drop i) (b.drop k)).2.2.2 = false := by rw [eb, ea]; simp [use4]
      rw [v3] at u3
      refine s0 none 0 (by omega) 1 rfl _ u1 v1 ?_
      refine s0 none 1 (by omega) 2 rfl _ u2 v2 ?_
      refine t0 none 2 (by omega) 3 rfl 1 0 2 costP.om u3 (by omega) (by omega) (by omega) pay3 (by omega) ?_
      refine s0 (some _) 3 (by omega) 4 rfl _ u4 v4 ?_
      refine fin (some _) (put _ ?_)
      simp only [comb, Nat.add_zero]
      rw [eb, ea, least_cn]
  · have ea : a.drop i = [] := List.drop_of_length_le (by omega)
    have v2 : (use2 (a.drop i) (b.drop k)).2.2.2 = false := by rw [ea]; simp [use2]
    have v3 : (use3 (a.drop i) (b.drop k)).2.2.2 = false := use3_false _ _ (by rw [drop_len]; omega)
    have v4 : (use4 (a.drop i) (b.drop k)).2.2.2 = false := by rw [ea]; simp [use4]
    by_cases hkb : k < b.length
    · have eb := drop_cons hkb
      have bp := bdp b[k] b[k]
      have v1 : use1 (a.drop i) (b.drop k) = (((0 : Nat) : Int), ((1 : Nat) : Int), 2, true) := use1_true _ _ (by rw [drop_len]; omega)
      rw [v1] at u1
      refine t0 none 0 (by omega) 1 rfl 0 1 2 costP.ins u1 (by omega) (by omega) (by omega) pay1 (by omega) ?_
      refine s0 (some _) 1 (by omega) 2 rfl _ u2 v2 ?_
      refine s0 (some _) 2 (by omega) 3 rfl _ u3 v3 ?_
      refine s0 (some _) 3 (by omega) 4 rfl _ u4 v4 ?_
      refine fin (some _) (put _ ?_)
      simp only [comb, Nat.add_zero]
      rw [ea, eb, least_nc]
    · have eb : b.drop k = [] := List.drop_of_length_le (by omega)
      have v1 : (use1 (a.drop i) (b.drop k)).2.2.2 = false := use1_false _ _ (by rw [drop_len]; omega)
      refine s0 none 0 (by omega) 1 rfl _ u1 v1 ?_
      refine s0 none 1 (by omega) 2 rfl _ u2 v2 ?_
      refine s0 none 2 (by omega) 3 rfl _ u3 v3 ?_
      refine s0 none 3 (by omega) 4 rfl _ u4 v4 ?_
      refine fin none ?_
      obtain rfl : i = a.length := by omega
      obtain rfl : k = b.length := by omega
      exact D.stay
end
section
variable (a b : List Tn) (ha : a.length ≤ 24) (hb : b.length ≤ 24) (Q : List (List Int) → Prop)
include ha hb
theorem row (i : Nat) (hi : i ≤ a.length) (next : ∀ x, Done costP a b x i 0 → EvP (fun n => impl_leastSums_costOf.l0 n a b x (wrap64 ((i : Int) - 1))) Q) :
    ∀ k1 : Nat, k1 ≤ b.length + 1 → ∀ x, Done costP a b x i k1 → EvP (fun n => impl_leastSums_costOf.l1 n a b x (i : Int) ((k1 : Int) - 1)) Q := by
  intro k1
  induction k1 with
  | zero =>
    intro _ x D
    refine EvP.succ ?_
    simp only [impl_leastSums_costOf.l1]
    exact EvP.no (by omega) (next x D)
  | succ k ih =>
    intro hk x D
    have ek : (((k + 1 : Nat) : Int) - 1) = (k : Int) := by omega
    rw [ek]
    refine EvP.succ ?_
    simp only [impl_leastSums_costOf.l1]
    refine EvP.yes (by omega) ?_
    refine EvP.bind (P := (· = [1, 2, 3, 4])) (EvP.con rfl rfl) (fun _ h => ?_)
    subst h
    exact cell a b ha hb Q D hi (by omega) (fun x' D' => ih (by omega) x' D')
theorem lines (hQ : ∀ x, Full costP a b x → Q x) :
    ∀ i1 : Nat, i1 ≤ a.length + 1 → ∀ x, x.length = a.length + 1 → (∀ j, i1 ≤ j → j ≤ a.length → RL x j = b.length + 1) → (∀ j l, j ≤ a.length → l ≤ b.length → i1 ≤ j → T x j l = least costP (a.drop j) (b.drop l)) →
      EvP (fun n => impl_leastSums_costOf.l0 n a b x ((i1 : Int) - 1)) Q := by
  intro i1
  induction i1 with
  | zero =>
    intro _ x hx hr ht
    refine EvP.succ ?_
    simp only [impl_leastSums_costOf.l0]
    refine EvP.no (by omega) ?_
    exact (EvP.ret (hQ x ⟨hx, fun j hj => hr j (Nat.zero_le _) hj, fun j l hj hl => ht j l hj hl (Nat.zero_le _)⟩))
  | succ i ih =>
    intro hi x hx hr ht
    have ei : (((i + 1 : Nat) : Int) - 1) = (i : Int) := by omega
    have eb : wrap64 ((b.length : Int) + 1) = ((b.length + 1 : Nat) : Int) := w64 (by omega) (by omega)
    rw [ei]
    refine EvP.succ ?_
    simp only [impl_leastSums_costOf.l0]
    refine EvP.yes (by omega) ?_
    rw [eb]
    refine EvP.yes (by omega) (EvP.yes (by omega) (EvP.yes (by omega) (EvP.yes (by omega) ?_)))
    have D : Done costP a b (x.set i (List.replicate (b.length + 1) 0)) i (b.length + 1) := Done.new hx (fun j hj hj' => hr j (by omega) hj') (fun j l hj hl hij => ht j l hj hl (by omega)) (by omega)
    have eb' : (((b.length + 1 : Nat) : Int) - 1) = (b.length : Int) := by omega
    have := row a b ha hb Q i (by omega) (fun x' D' => by
      rw [w64 (by omega) (by omega)]
      exact ih (by omega) x' D'.len (fun j hj hj' => D'.row j (by omega) hj') (fun j l hj hl hij => D'.told j l hj hl (by omega))) (b.length + 1) (Nat.le_refl _) _ D
    rw [eb'] at this
    exact this
end
end LcostOf
theorem impl_sums_costOf (a b : List Tn) (ha : a.length ≤ 24) (hb : b.length ≤ 24) : EvP (fun n => impl_leastSums_costOf.f n a b) (Full costP a b) := by
  unfold impl_leastSums_costOf.f
  have ea : wrap64 ((a.length : Int) + 1) = ((a.length + 1 : Nat) : Int) := w64 (by omega) (by omega)
  rw [ea]
  refine EvP.yes (by omega) (EvP.yes (by omega) ?_)
  have := LcostOf.lines a b ha hb (Full costP a b) (fun _ h => h) (a.length + 1) (Nat.le_refl _) (List.replicate (a.length + 1) []) (by simp) (fun j hj hj' => by omega) (fun j l hj hl hij => by omega)
  rw [show (((a.length + 1 : Nat) : Int) - 1) = (a.length : Int) by omega] at this
  exact this
end Go.Proofs.Ythpeiboobnnfgaa.Pur
end
section
namespace Go.Proofs.Ythpeiboobnnfgaa.Pur
open Go.RowKit Go.Proofs.YthpeiboobnnfgaaW.PrintWords Go.Proofs.YthpeiboobnnfgaaW.PrintMore Go.Proofs.Ythpeiboobnnfgaa.E Go.Proofs.Ythpeiboobnnfgaa.Ed
def letterOf (xs ys : List Tn) : Int :=
  if (use1 xs ys).2.2.2 = true ∧ 2 + least costP xs (ys.drop 1) = least costP xs ys then 105
  else if (use2 xs ys).2.2.2 = true ∧ least costP (xs.drop 1) (ys.drop 1) = least costP xs ys then 107
  else if (use3 xs ys).2.2.2 = true ∧ 2 + least costP (xs.drop 1) ys = least costP xs ys then 111
  else 114
def txt : Nat → List Tn → List Tn → List Int
  | 0, _, _ => []
  | m + 1, xs, ys => if xs.length = 0 ∧ ys.length = 0 then [] else letterOf xs ys :: txt m (xs.drop (if letterOf xs ys = 105 then 0 else 1)) (ys.drop (if letterOf xs ys = 111 then 0 else 1))
theorem txt_go {m : Nat} {xs ys : List Tn} {v : Int} {dx dy : Nat} (h : ¬ (xs.length = 0 ∧ ys.length = 0)) (hv : letterOf xs ys = v) (hx : (if v = 105 then 0 else 1) = dx) (hy : (if v = 111 then 0 else 1) = dy) : txt (m + 1) xs ys = v :: txt m (xs.drop dx) (ys.drop dy) := by
  rw [txt, if_neg h, hv, hx, hy]
theorem txt_end {m : Nat} {xs ys : List Tn} (h : xs.length = 0 ∧ ys.length = 0) : txt m xs ys = [] := by
  cases m with
  | zero => rfl
  | succ m => rw [txt, if_pos h]
theorem last_way (xs ys : List Tn) (h : ¬ (xs.length = 0 ∧ ys.length = 0)) (h1 : ¬ ((use1 xs ys).2.2.2 = true ∧ 2 + least costP xs (ys.drop 1) = least costP xs ys)) (h2 : ¬ ((use2 xs ys).2.2.2 = true ∧ least costP (xs.drop 1) (ys.drop 1) = least costP xs ys)) (h3 : ¬ ((use3 xs ys).2.2.2 = true ∧ 2 + least costP (xs.drop 1) ys = least costP xs ys)) :
    ∃ x xs' y ys', xs = x :: xs' ∧ ys = y :: ys' ∧ ¬ eqT x y = true ∧ (if x.f0 = y.f0 then (1 : Int) else 3) + least costP xs' ys' = least costP xs ys := by
  cases xs with
  | nil =>
    cases ys with
    | nil => exact absurd ⟨rfl, rfl⟩ h
    | cons y ys => exact absurd ⟨by simp [use1], by rw [least_nc]; rfl⟩ h1
  | cons x xs =>
    cases ys with
    | nil => exact absurd ⟨by simp [use3], by rw [least_cn]; rfl⟩ h3
    | cons y ys =>
      have k1 : ¬ 2 + least costP (x :: xs) ys = least costP (x :: xs) (y :: ys) := fun e => h1 ⟨by simp [use1], e⟩
      have k3 : ¬ 2 + least costP xs (y :: ys) = least costP (x :: xs) (y :: ys) := fun e => h3 ⟨by simp [use3], e⟩
      have L := least_cc costP x y xs ys
      rw [show costP.ins = 2 from rfl, show costP.om = 2 from rfl] at L
      have hb : costP.both x y + least costP xs ys = least costP (x :: xs) (y :: ys) := by omega
      by_cases he : eqT x y = true
      · have e := (eqT_iff x y).mp he
        have z : costP.both x y = 0 := by rw [e]; exact costC.same y
        exact absurd ⟨he, by rw [z] at hb; rw [← hb]; simp⟩ h2
      · refine ⟨x, xs, y, ys, rfl, rfl, he, ?_⟩
        rw [← hb]
        have : costP.both x y = if x.f0 = y.f0 then (1 : Int) else 3 := by
          show (if x.f0 = y.f0 then (if x.f1 = y.f1 then (0 : Int) else 1) else 3) = _
          by_cases h0 : x.f0 = y.f0
          · by_cases h1 : x.f1 = y.f1
            · exact absurd ((eqT_iff x y).mpr (tn_ext h0 h1)) he
            · rw [if_pos h0, if_neg h1, if_pos h0]
          · rw [if_neg h0, if_neg h0]
        rw [this]
end Go.Proofs.Ythpeiboobnnfgaa.Pur
end
section
namespace Go.Proofs.Ythpeiboobnnfgaa.Pur
open Go.RowKit Go.Proofs.YthpeiboobnnfgaaW.PrintWords Go.Proofs.YthpeiboobnnfgaaW.PrintMore Go.Proofs.Ythpeiboobnnfgaa.E Go.Proofs.Ythpeiboobnnfgaa.Ed
theorem strOf_snoc (l : List Int) (v : Int) : strOfNums (l ++ [v]) = strOfNums l ++ (⟨#[UInt8.ofNat v.toNat]⟩ : ByteArray) := by
  apply ByteArray.ext
  rw [ByteArray.data_append]
  simp [strOfNums]
section
variable (a b : List Tn) (ha : a.length ≤ 24) (hb : b.length ≤ 24) {x : List (List Int)} (F : Full costP a b x)
include ha hb F
theorem tab_at (i k : Nat) (hi : i ≤ a.length) (hk : k ≤ b.length) : (i : Int) < (x.length : Int) ∧ (k : Int) < ((rd_L4 x (i : Int)).length : Int) ∧ rd (rd_L4 x (i : Int)) (k : Int) = least costP (a.drop i) (b.drop k) ∧ 0 ≤ least costP (a.drop i) (b.drop k) ∧ least costP (a.drop i) (b.drop k) ≤ 96 := by
  have h1 := F.len
  have h2 : (rd_L4 x (i : Int)).length = b.length + 1 := F.row i hi
  have h3 := cost_bd (a.drop i) (b.drop k)
  simp only [drop_len] at h3
  exact ⟨by omega, by omega, by rw [rd_T]; exact F.told i k hi hk, h3.1, by omega⟩
omit ha hb F in
theorem passE (Q : ByteArray × Bool → Prop) (i k : Nat) (hi : i ≤ a.length) (hk : k ≤ b.length) (acc : List Int) (j : Nat) (hj : j < 4) (e : Int) (he : rd [1, 2, 3, 4] (j : Int) = e) (u : Int × Int × Int × Bool)
    (hu : EvP (fun n => impl_useOf.f n e (a.drop i) (b.drop k)) (· = u)) (ho : u.2.2.2 = false)
    (K : EvP (fun n => impl_EditText.l1 n a b x acc (i : Int) (k : Int) [1, 2, 3, 4] (([1, 2, 3, 4] : List Int).length : Int) ((j + 1 : Nat) : Int)) Q) :
    EvP (fun n => impl_EditText.l1 n a b x acc (i : Int) (k : Int) [1, 2, 3, 4] (([1, 2, 3, 4] : List Int).length : Int) (j : Int)) Q := by
  have hl : ([1, 2, 3, 4] : List Int).length = 4 := rfl
  refine EvP.succ ?_
  simp only [impl_EditText.l1]
  refine EvP.yes (by omega) (EvP.yes (by omega) (EvP.yes (by omega) (EvP.yes (by omega) (EvP.yes (by omega) (EvP.yes (by omega) (EvP.yes (by omega) ?_))))))
  rw [he]
  refine EvP.bind (P := (· = u)) hu (fun _ h => ?_)
  subst h
  refine EvP.no (by rw [ho]; simp) ?_
  rw [w64 (by omega) (by omega)]
  exact K
theorem tryE (Q : ByteArray × Bool → Prop) (i k : Nat) (hi : i ≤ a.length) (hk : k ≤ b.length) (acc : List Int) (hacc : acc.length ≤ 48) (j : Nat) (hj : j < 4) (e : Int) (he : rd [1, 2, 3, 4] (j : Int) = e) (s1 s2 : Nat) (c : Int)
    (hu : EvP (fun n => impl_useOf.f n e (a.drop i) (b.drop k)) (· = ((s1 : Int), (s2 : Int), c, true))) (h1 : i + s1 ≤ a.length) (h2 : k + s2 ≤ b.length) (hc : 0 ≤ c ∧ c ≤ 3) (v : Int) (hv : en63_letter.f e = some v)
    (Y : c + least costP (a.drop (i + s1)) (b.drop (k + s2)) = least costP (a.drop i) (b.drop k) → EvP (fun n => impl_EditText.l0 n a b x (acc ++ [v]) ((i + s1 : Nat) : Int) ((k + s2 : Nat) : Int)) Q)
    (K : ¬ c + least costP (a.drop (i + s1)) (b.drop (k + s2)) = least costP (a.drop i) (b.drop k) → EvP (fun n => impl_EditText.l1 n a b x acc (i : Int) (k : Int) [1, 2, 3, 4] (([1, 2, 3, 4] : List Int).length : Int) ((j + 1 : Nat) : Int)) Q) :
    EvP (fun n => impl_EditText.l1 n a b x acc (i : Int) (k : Int) [1, 2, 3, 4] (([1, 2, 3, 4] : List Int).length : Int) (j : Int)) Q := by
  have hl : ([1, 2, 3, 4] : List Int).length = 4 := rfl
  obtain ⟨t1, t2, t3, t4, t5⟩ := tab_at a b ha hb F i k hi hk
  obtain ⟨r1, r2, r3, r4, r5⟩ := tab_at a b ha hb F (i + s1) (k + s2) h1 h2
  refine EvP.succ ?_
  simp only [impl_EditText.l1]
  refine EvP.yes (by omega) (EvP.yes (by omega) (EvP.yes (by omega) (EvP.yes (by omega) (EvP.yes (by omega) (EvP.yes (by omega) (EvP.yes (by omega) ?_))))))
  rw [he]
  refine EvP.bind (P := (· = ((s1 : Int), (s2 : Int), c, true))) hu (fun _ h => ?_)
  subst h
  refine EvP.yes rfl ?_
  have e1 : Hd (wrap64 ((i : Int) + (s1 : Int)) = ((i + s1 : Nat) : Int)) := Hd.mk (w64 (by omega) (by omega))
  have e2 : Hd (wrap64 ((k : Int) + (s2 : Int)) = ((k + s2 : Nat) : Int)) := Hd.mk (w64 (by omega) (by omega))
  have ej : Hd (wrap64 ((j : Int) + 1) = ((j + 1 : Nat) : Int)) := Hd.mk (w64 (by omega) (by omega))
  have ev : Hd (wrap64 (c + least costP (a.drop (i + s1)) (b.drop (k + s2))) = c + least costP (a.drop (i + s1)) (b.drop (k + s2))) := Hd.mk (w64 (by omega) (by omega))
  simp only [e1.out, e2.out, ej.out]
  refine EvP.yes (by omega) (EvP.yes r1 (EvP.yes (by omega) (EvP.yes r2 (EvP.yes t1 (EvP.yes t2 ?_)))))
  rw [r3, t3, ev.out]
  refine EvP.ite (fun h => ?_) (fun h => K h)
  refine EvP.bind (P := (· = v)) (EvP.con hv rfl) (fun _ h' => ?_)
  subst h'
  exact EvP.yes (by omega) (Y h)
theorem impl_walk : ∀ (m i k : Nat) (acc : List Int), i ≤ a.length → k ≤ b.length → (a.length - i) + (b.length - k) ≤ m → acc.length + m ≤ 48 →
    EvP (fun n => impl_EditText.l0 n a b x acc (i : Int) (k : Int)) (· = (strOfNums (acc ++ txt m (a.drop i) (b.drop k)), true)) := by
  intro m
  induction m with
  | zero =>
    intro i k acc hi hk hm hacc
    refine EvP.succ ?_
    simp only [impl_EditText.l0]
    refine EvP.no (by omega) ?_
    rw [decide_eq_false (by omega)]
    refine EvP.succ ?_
    simp only [impl_EditText.j2]
    exact EvP.no (by decide) (EvP.ret (by rw [txt, List.append_nil]))
  | succ m ih =>
    intro i k acc hi hk hm hacc
    have la := drop_len (a := a) i
    have lb := drop_len (a := b) k
    by_cases h0 : i = a.length ∧ k = b.length
    · refine EvP.succ ?_
      simp only [impl_EditText.l0]
      refine EvP.no (by omega) ?_
      rw [decide_eq_false (by omega)]
      refine EvP.succ ?_
      simp only [impl_EditText.j2]
      exact EvP.no (by decide) (EvP.ret (by rw [txt_end (by omega), List.append_nil]))
    have h : ¬ ((a.drop i).length = 0 ∧ (b.drop k).length = 0) := by omega
    have W : EvP (fun n => impl_EditText.j2 n a b x acc (i : Int) (k : Int) true) (· = (strOfNums (acc ++ txt (m + 1) (a.drop i) (b.drop k)), true)) := by
      refine EvP.succ ?_
      simp only [impl_EditText.j2]
      refine EvP.yes trivial ?_
      refine EvP.bind (P := (· = [1, 2, 3, 4])) (EvP.con rfl rfl) (fun _ e => ?_)
      subst e
      obtain ⟨u1, u2, u3, u4⟩ := use_ok (a.drop i) (b.drop k)
      have fin : ∀ (v : Int) (dx dy : Nat), letterOf (a.drop i) (b.drop k) = v → (if v = 105 then 0 else 1) = dx → (if v = 111 then 0 else 1) = dy → i + dx ≤ a.length → k + dy ≤ b.length → 0 < dx + dy →
          EvP (fun n => impl_EditText.l0 n a b x (acc ++ [v]) ((i + dx : Nat) : Int) ((k + dy : Nat) : Int)) (· = (strOfNums (acc ++ txt (m + 1) (a.drop i) (b.drop k)), true)) := by
        intro v dx dy hv hx hy hix hky hpos
        have := ih (i + dx) (k + dy) (acc ++ [v]) hix hky (by omega) (by simp; omega)
        rw [txt_go h hv hx hy, List.drop_drop, List.drop_drop]
        rw [List.append_assoc] at this
        exact this
      have S4 : ¬ ((use1 (a.drop i) (b.drop k)).2.2.2 = true ∧ 2 + least costP (a.drop i) ((b.drop k).drop 1) = least costP (a.drop i) (b.drop k)) → ¬ ((use2 (a.drop i) (b.drop k)).2.2.2 = true ∧ least costP ((a.drop i).drop 1) ((b.drop k).drop 1) = least costP (a.drop i) (b.drop k)) →
          ¬ ((use3 (a.drop i) (b.drop k)).2.2.2 = true ∧ 2 + least costP ((a.drop i).drop 1) (b.drop k) = least costP (a.drop i) (b.drop k)) →
          EvP (fun n => impl_EditText.l1 n a b x acc (i : Int) (k : Int) [1, 2, 3, 4] (([1, 2, 3, 4] : List Int).length : Int) ((3 : Nat) : Int)) (· = (strOfNums (acc ++ txt (m + 1) (a.drop i) (b.drop k)), true)) := by
        intro h1 h2 h3
        obtain ⟨x', xs', y', ys', ex, ey, he, hl⟩ := last_way _ _ h h1 h2 h3
        have e4 : use4 (a.drop i) (b.drop k) = (((1 : Nat) : Int), ((1 : Nat) : Int), (if x'.f0 = y'.f0 then 1 else 3), true) := by rw [ex, ey]; exact use4_not _ _ _ _ he
        rw [e4] at u4
        have lx := congrArg List.length ex
        have ly := congrArg List.length ey
        rw [List.length_cons] at lx ly
        have hd : least costP (a.drop (i + 1)) (b.drop (k + 1)) = least costP xs' ys' := by
          rw [← List.drop_drop, ← List.drop_drop, ex, ey]; rfl
        refine tryE a b ha hb F _ i k hi hk acc (by omega) 3 (by omega) 4 rfl 1 1 _ u4 (by omega) (by omega) (by split <;> omega) 114 rfl (fun _ => ?_) (fun hn => absurd (by rw [hd]; exact hl) hn)
        exact fin 114 1 1 (by unfold letterOf; rw [if_neg h1, if_neg h2, if_neg h3]) rfl rfl (by omega) (by omega) (by omega)
      have S3 : ¬ ((use1 (a.drop i) (b.drop k)).2.2.2 = true ∧ 2 + least costP (a.drop i) ((b.drop k).drop 1) = least costP (a.drop i) (b.drop k)) → ¬ ((use2 (a.drop i) (b.drop k)).2.2.2 = true ∧ least costP ((a.drop i).drop 1) ((b.drop k).drop 1) = least costP (a.drop i) (b.drop k)) →
          EvP (fun n => impl_EditText.l1 n a b x acc (i : Int) (k : Int) [1, 2, 3, 4] (([1, 2, 3, 4] : List Int).length : Int) ((2 : Nat) : Int)) (· = (strOfNums (acc ++ txt (m + 1) (a.drop i) (b.drop k)), true)) := by
        intro h1 h2
        by_cases hx : i < a.length
        · have e3 := use3_true (a.drop i) (b.drop k) (by omega)
          rw [e3] at u3
          refine tryE a b ha hb F _ i k hi hk acc (by omega) 2 (by omega) 3 rfl 1 0 2 u3 (by omega) (by omega) (by omega) 111 rfl (fun hl => ?_) (fun hn => S4 h1 h2 (fun hh => hn (by have := hh.2; rw [List.drop_drop] at this; exact this)))
          exact fin 111 1 0 (by unfold letterOf; rw [if_neg h1, if_neg h2, if_pos ⟨by rw [e3], by rw [List.drop_drop]; exact hl⟩]) rfl rfl (by omega) (by omega) (by omega)
        · have e3 := use3_false (a.drop i) (b.drop k) (by omega)
          exact passE a b _ i k hi hk acc 2 (by omega) 3 rfl _ u3 e3 (S4 h1 h2 (fun hh => by rw [e3] at hh; exact Bool.noConfusion hh.1))
      have S2 : ¬ ((use1 (a.drop i) (b.drop k)).2.2.2 = true ∧ 2 + least costP (a.drop i) ((b.drop k).drop 1) = least costP (a.drop i) (b.drop k)) →
          EvP (fun n => impl_EditText.l1 n a b x acc (i : Int) (k : Int) [1, 2, 3, 4] (([1, 2, 3, 4] : List Int).length : Int) ((1 : Nat) : Int)) (· = (strOfNums (acc ++ txt (m + 1) (a.drop i) (b.drop k)), true)) := by
        intro h1
        by_cases hu : (use2 (a.drop i) (b.drop k)).2.2.2 = true
        · obtain ⟨hx, hy, e2⟩ : i < a.length ∧ k < b.length ∧ use2 (a.drop i) (b.drop k) = (((1 : Nat) : Int), ((1 : Nat) : Int), 0, true) := by
            by_cases hz : i < a.length ∧ k < b.length
            · refine ⟨hz.1, hz.2, ?_⟩
              rw [drop_cons hz.1, drop_cons hz.2] at hu ⊢
              by_cases he : eqT a[i] b[k] = true
              · exact use2_same _ _ _ _ he
              · rw [use2_not _ _ _ _ he] at hu; exact absurd hu (by decide)
            · rw [use2_nil _ _ (by omega)] at hu; exact absurd hu (by decide)
          rw [e2] at u2
          refine tryE a b ha hb F _ i k hi hk acc (by omega) 1 (by omega) 2 rfl 1 1 0 u2 (by omega) (by omega) (by omega) 107 rfl (fun hl => ?_) (fun hn => S3 h1 (fun hh => hn (by have := hh.2; rw [List.drop_drop, List.drop_drop] at this; rw [Int.zero_add]; exact this)))
          exact fin 107 1 1 (by unfold letterOf; rw [if_neg h1, if_pos ⟨hu, by rw [List.drop_drop, List.drop_drop]; rw [Int.zero_add] at hl; exact hl⟩]) rfl rfl (by omega) (by omega) (by omega)
        · exact passE a b _ i k hi hk acc 1 (by omega) 2 rfl _ u2 (Bool.eq_false_iff.mpr hu) (S3 h1 (fun hh => hu hh.1))
      show EvP (fun n => impl_EditText.l1 n a b x acc (i : Int) (k : Int) [1, 2, 3, 4] (([1, 2, 3, 4] : List Int).length : Int) ((0 : Nat) : Int)) _
      by_cases hy : k < b.length
      · have e1 := use1_true (a.drop i) (b.drop k) (by omega)
        rw [e1] at u1
        refine tryE a b ha hb F _ i k hi hk acc (by omega) 0 (by omega) 1 rfl 0 1 2 u1 (by omega) (by omega) (by omega) 105 rfl (fun hl => ?_) (fun hn => S2 (fun hh => hn (by have := hh.2; rw [List.drop_drop] at this; exact this)))
        exact fin 105 0 1 (by unfold letterOf; rw [if_pos ⟨by rw [e1], by rw [List.drop_drop]; exact hl⟩]) rfl rfl (by omega) (by omega) (by omega)
      · have e1 := use1_false (a.drop i) (b.drop k) (by omega)
        exact passE a b _ i k hi hk acc 0 (by omega) 1 rfl _ u1 e1 (S2 (fun hh => by rw [e1] at hh; exact Bool.noConfusion hh.1))
    refine EvP.succ ?_
    simp only [impl_EditText.l0]
    refine EvP.ite (fun _ => W) (fun h => ?_)
    rw [decide_eq_true (by omega)]
    exact W
theorem spec_walk : ∀ (m i k : Nat) (acc : List Int), i ≤ a.length → k ≤ b.length → (a.length - i) + (b.length - k) ≤ m → acc.length + m ≤ 48 →
    EvP (fun n => spec_EditText.l0 n a b x (strOfNums acc) (i : Int) (k : Int)) (· = (strOfNums (acc ++ txt m (a.drop i) (b.drop k)), true)) := by
  intro m
  induction m with
  | zero =>
    intro i k acc hi hk hm hacc
    refine EvP.succ ?_
    simp only [spec_EditText.l0]
    refine EvP.no (by omega) ?_
    rw [decide_eq_false (by omega)]
    refine EvP.succ ?_
    simp only [spec_EditText.j2]
    exact EvP.no (by decide) (EvP.ret (by rw [txt, List.append_nil]))
  | succ m ih =>
    intro i k acc hi hk hm hacc
    have la := drop_len (a := a) i
    have lb := drop_len (a := b) k
    have ls := strOfNums_size acc
    by_cases h0 : i = a.length ∧ k = b.length
    · refine EvP.succ ?_
      simp only [spec_EditText.l0]
      refine EvP.no (by omega) ?_
      rw [decide_eq_false (by omega)]
      refine EvP.succ ?_
      simp only [spec_EditText.j2]
      exact EvP.no (by decide) (EvP.ret (by rw [txt_end (by omega), List.append_nil]))
    have h : ¬ ((a.drop i).length = 0 ∧ (b.drop k).length = 0) := by omega
    obtain ⟨t1, t2, t3, t4, t5⟩ := tab_at a b ha hb F i k hi hk
    have ei : Hd (wrap64 ((i : Int) + 1) = ((i + 1 : Nat) : Int)) := Hd.mk (w64 (by omega) (by omega))
    have ek : Hd (wrap64 ((k : Int) + 1) = ((k + 1 : Nat) : Int)) := Hd.mk (w64 (by omega) (by omega))
    have fin : ∀ (v : Int) (dx dy : Nat), letterOf (a.drop i) (b.drop k) = v → (if v = 105 then 0 else 1) = dx → (if v = 111 then 0 else 1) = dy → i + dx ≤ a.length → k + dy ≤ b.length → 0 < dx + dy →
        EvP (fun n => spec_EditText.l0 n a b x (strOfNums acc ++ (⟨#[UInt8.ofNat v.toNat]⟩ : ByteArray)) ((i + dx : Nat) : Int) ((k + dy : Nat) : Int)) (· = (strOfNums (acc ++ txt (m + 1) (a.drop i) (b.drop k)), true)) := by
      intro v dx dy hv hx hy hix hky hpos
      have := ih (i + dx) (k + dy) (acc ++ [v]) hix hky (by omega) (by simp; omega)
      rw [txt_go h hv hx hy, List.drop_drop, List.drop_drop]
      rw [List.append_assoc, strOf_snoc] at this
      exact this
    have room : (strOfNums acc).size + 1 ≤ 9223372036854775807 := by omega
    have S4 : ∀ B : Bool, ¬ ((use1 (a.drop i) (b.drop k)).2.2.2 = true ∧ 2 + least costP (a.drop i) ((b.drop k).drop 1) = least costP (a.drop i) (b.drop k)) → (B = true ↔ ((use2 (a.drop i) (b.drop k)).2.2.2 = true ∧ least costP ((a.drop i).drop 1) ((b.drop k).drop 1) = least costP (a.drop i) (b.drop k))) →
        EvP (fun n => spec_EditText.j4 n a b x (strOfNums acc) (i : Int) (k : Int) (least costP (a.drop i) (b.drop k)) B) (· = (strOfNums (acc ++ txt (m + 1) (a.drop i) (b.drop k)), true)) := by
      intro B h1 hB
      refine EvP.succ ?_
      simp only [spec_EditText.j4]
      refine EvP.ite (fun hb1 => ?_) (fun hb0 => ?_)
      · have h2 := hB.mp hb1
        refine EvP.yes room ?_
        rw [ei.out, ek.out]
        have hz : i < a.length ∧ k < b.length := by
          by_cases hz : i < a.length ∧ k < b.length
          · exact hz
          · have := h2.1; rw [use2_nil _ _ (by omega)] at this; exact absurd this (by decide)
        exact fin 107 1 1 (by unfold letterOf; rw [if_neg h1, if_pos h2]) rfl rfl (by omega) (by omega) (by omega)
      · have h2 : ¬ _ := fun hh => hb0 (hB.mpr hh)
        have last : ¬ ((use3 (a.drop i) (b.drop k)).2.2.2 = true ∧ 2 + least costP ((a.drop i).drop 1) (b.drop k) = least costP (a.drop i) (b.drop k)) →
            EvP (fun n => if (strOfNums acc).size + 1 ≤ 9223372036854775807 then spec_EditText.l0 n a b x (strOfNums acc ++ (⟨#[114]⟩ : ByteArray)) (wrap64 ((i : Int) + 1)) (wrap64 ((k : Int) + 1)) else none) (· = (strOfNums (acc ++ txt (m + 1) (a.drop i) (b.drop k)), true)) := by
          intro h3
          obtain ⟨x', xs', y', ys', ex, ey, he, hl⟩ := last_way _ _ h h1 h2 h3
          have lx := congrArg List.length ex
          have ly := congrArg List.length ey
          rw [List.length_cons] at lx ly
          refine EvP.yes room ?_
          rw [ei.out, ek.out]
          exact fin 114 1 1 (by unfold letterOf; rw [if_neg h1, if_neg h2, if_neg h3]) rfl rfl (by omega) (by omega) (by omega)
        refine EvP.ite (fun hx => ?_) (fun hx => ?_)
        · have hx' : i < a.length := by omega
          obtain ⟨r1, r2, r3, r4, r5⟩ := tab_at a b ha hb F (i + 1) k (by omega) hk
          have ev : Hd (wrap64 (least costP (a.drop (i + 1)) (b.drop k) + 2) = least costP (a.drop (i + 1)) (b.drop k) + 2) := Hd.mk (w64 (by omega) (by omega))
          have e3 := use3_true (a.drop i) (b.drop k) (by omega)
          have hd : (a.drop i).drop 1 = a.drop (i + 1) := by rw [List.drop_drop]
          simp only [ei.out] at last ⊢
          refine EvP.yes (by omega) (EvP.yes r1 (EvP.yes (by omega) (EvP.yes r2 ?_)))
          rw [r3, ev.out]
          refine EvP.ite (fun hl => ?_) (fun hl => last (fun hh => hl (by have := hh.2; rw [hd] at this; omega)))
          refine EvP.yes room ?_
          exact fin 111 1 0 (by unfold letterOf; rw [if_neg h1, if_neg h2, if_pos ⟨by rw [e3], by rw [hd]; omega⟩]) rfl rfl (by omega) (by omega) (by omega)
        · have e3 := use3_false (a.drop i) (b.drop k) (by omega)
          exact last (fun hh => by rw [e3] at hh; exact Bool.noConfusion hh.1)
    have S3 : ∀ B : Bool, (B = true ↔ ((use1 (a.drop i) (b.drop k)).2.2.2 = true ∧ 2 + least costP (a.drop i) ((b.drop k).drop 1) = least costP (a.drop i) (b.drop k))) →
        EvP (fun n => spec_EditText.j3 n a b x (strOfNums acc) (i : Int) (k : Int) (least costP (a.drop i) (b.drop k)) B) (· = (strOfNums (acc ++ txt (m + 1) (a.drop i) (b.drop k)), true)) := by
      intro B hB
      refine EvP.succ ?_
      simp only [spec_EditText.j3]
      refine EvP.ite (fun hb1 => ?_) (fun hb0 => ?_)
      · have h1 := hB.mp hb1
        have hy : k < b.length := by
          by_cases hy : k < b.length
          · exact hy
          · have := h1.1; rw [use1_false _ _ (by omega)] at this; exact absurd this (by decide)
        refine EvP.yes room ?_
        rw [ek.out]
        exact fin 105 0 1 (by unfold letterOf; rw [if_pos h1]) rfl rfl (by omega) (by omega) (by omega)
      · have h1 : ¬ _ := fun hh => hb0 (hB.mpr hh)
        have no2 : (use2 (a.drop i) (b.drop k)).2.2.2 = false → EvP (fun n => spec_EditText.j4 n a b x (strOfNums acc) (i : Int) (k : Int) (least costP (a.drop i) (b.drop k)) false) (· = (strOfNums (acc ++ txt (m + 1) (a.drop i) (b.drop k)), true)) := by
          intro e2
          exact S4 false h1 ⟨fun hh => Bool.noConfusion hh, fun hh => by rw [e2] at hh; exact hh.1⟩
        refine EvP.ite (fun hx => EvP.ite (fun hy => ?_) (fun hy => no2 (use2_nil _ _ (by omega)))) (fun hx => no2 (use2_nil _ _ (by omega)))
        have hx' : i < a.length := by omega
        have hy' : k < b.length := by omega
        refine EvP.yes (by omega) (EvP.yes (by omega) ?_)
        rw [rdT_lt hx', rdT_lt hy']
        show EvP (fun n => if eqT a[i] b[k] = true then _ else _) _
        refine EvP.ite (fun he => ?_) (fun he => no2 (by rw [drop_cons hx', drop_cons hy']; exact use2_not _ _ _ _ he))
        obtain ⟨r1, r2, r3, r4, r5⟩ := tab_at a b ha hb F (i + 1) (k + 1) (by omega) (by omega)
        simp only [ei.out, ek.out]
        refine EvP.yes (by omega) (EvP.yes r1 (EvP.yes (by omega) (EvP.yes r2 ?_)))
        rw [r3]
        refine S4 _ h1 ?_
        rw [beq_iff_eq, List.drop_drop, List.drop_drop]
        refine ⟨fun hh => ⟨?_, hh⟩, fun hh => hh.2⟩
        rw [drop_cons hx', drop_cons hy', use2_same _ _ _ _ he]
    have W : EvP (fun n => spec_EditText.j2 n a b x (strOfNums acc) (i : Int) (k : Int) true) (· = (strOfNums (acc ++ txt (m + 1) (a.drop i) (b.drop k)), true)) := by
      refine EvP.succ ?_
      simp only [spec_EditText.j2]
      refine EvP.yes trivial (EvP.yes (by omega) (EvP.yes t1 (EvP.yes (by omega) (EvP.yes t2 ?_))))
      rw [t3]
      refine EvP.ite (fun hy => ?_) (fun hy => S3 false ⟨fun hh => Bool.noConfusion hh, fun hh => by have := hh.1; rw [use1_false _ _ (by omega)] at this; exact this⟩)
      obtain ⟨r1, r2, r3, r4, r5⟩ := tab_at a b ha hb F i (k + 1) hi (by omega)
      have ev : Hd (wrap64 (least costP (a.drop i) (b.drop (k + 1)) + 2) = least costP (a.drop i) (b.drop (k + 1)) + 2) := Hd.mk (w64 (by omega) (by omega))
      simp only [ek.out]
      refine EvP.yes (by omega) (EvP.yes r2 ?_)
      rw [r3, ev.out]
      refine S3 _ ?_
      rw [beq_iff_eq, List.drop_drop]
      refine ⟨fun hh => ⟨by rw [use1_true _ _ (by omega)], by omega⟩, fun hh => by have := hh.2; omega⟩
    refine EvP.succ ?_
    simp only [spec_EditText.l0]
    refine EvP.ite (fun _ => W) (fun h => ?_)
    rw [decide_eq_true (by omega)]
    exact W
end
def txtOf (a b : List Tn) : ByteArray × Bool := if okM a = true ∧ okM b = true then (strOfNums (txt 48 a b), true) else (⟨#[]⟩, false)
theorem okM_24t {a : List Tn} (h : okM a = true) : a.length ≤ 24 := by
  unfold okM at h
  rw [Bool.and_eq_true] at h
  exact of_decide_eq_true h.2
theorem spec_txt (a b : List Tn) (ha : a.length < 9223372036854775807) (hb : b.length < 9223372036854775807) : EvP (fun k => spec_EditText.f k a b) (· = txtOf a b) := by
  unfold spec_EditText.f txtOf
  have jt : ∀ v, v = ((⟨#[]⟩ : ByteArray), false) → EvP (fun k => spec_EditText.j0 k a b true) (· = v) := by
    intro v hv
    refine EvP.succ ?_
    simp only [spec_EditText.j0]
    exact EvP.yes trivial (EvP.ret hv.symm)
  refine EvP.bind (P := (· = okM a)) (spec_melody a ha) (fun _ e => ?_)
  subst e
  refine EvP.ite (fun h1 => ?_) (fun h1 => jt _ (by rw [if_neg (fun h => h1 h.1)]))
  refine EvP.bind (P := (· = okM b)) (spec_melody b hb) (fun _ e => ?_)
  subst e
  by_cases h2 : okM b = true
  · rw [if_pos ⟨h1, h2⟩, h2]
    have la := okM_24t h1
    have lb := okM_24t h2
    refine EvP.succ ?_
    simp only [spec_EditText.j0, Bool.not_true]
    refine EvP.no (by decide) ?_
    refine EvP.bind (spec_costs a b la lb) (fun x F => ?_)
    exact spec_walk a b la lb F 48 0 0 [] (Nat.zero_le _) (Nat.zero_le _) (by omega) (by simp)
  · rw [Bool.eq_false_iff.mpr h2]
    exact jt _ (by rw [if_neg (fun h => Bool.noConfusion h.2)])
theorem impl_txt (a b : List Tn) : EvP (fun k => impl_EditText.f k a b) (· = txtOf a b) := by
  unfold impl_EditText.f txtOf
  have jt : ∀ v, v = ((⟨#[]⟩ : ByteArray), false) → EvP (fun k => impl_EditText.j0 k a b true) (· = v) := by
    intro v hv
    refine EvP.succ ?_
    simp only [impl_EditText.j0]
    exact EvP.yes trivial (EvP.ret hv.symm)
  refine EvP.bind (P := (· = okM a)) (impl_melody a) (fun _ e => ?_)
  subst e
  refine EvP.ite (fun h1 => ?_) (fun h1 => jt _ (by rw [if_neg (fun h => h1 h.1)]))
  refine EvP.bind (P := (· = okM b)) (impl_melody b) (fun _ e => ?_)
  subst e
  by_cases h2 : okM b = true
  · rw [if_pos ⟨h1, h2⟩, h2]
    have la := okM_24t h1
    have lb := okM_24t h2
    refine EvP.succ ?_
    simp only [impl_EditText.j0, Bool.not_true]
    refine EvP.no (by decide) ?_
    refine EvP.bind (impl_sums_costOf a b la lb) (fun x F => ?_)
    exact impl_walk a b la lb F 48 0 0 [] (Nat.zero_le _) (Nat.zero_le _) (by omega) (by simp)
  · rw [Bool.eq_false_iff.mpr h2]
    exact jt _ (by rw [if_neg (fun h => Bool.noConfusion h.2)])
end Go.Proofs.Ythpeiboobnnfgaa.Pur
end
section
namespace Go.Proofs.Ythpeiboobnnfgaa.Pur
open Go.RowKit Go.Proofs.YthpeiboobnnfgaaW.PrintWords Go.Proofs.Ythpeiboobnnfgaa.E
abbrev Tn' := S36
def cv (t : S48) : S36 := ⟨t.f0, t.f1⟩
theorem sz_ok (l : List S48) (n : Int) (hl : (l.length : Int) ≤ 9223372036854775807) (h0 : 0 ≤ n) (hn : n ≤ 1048576) :
    ((l.length : Int) ≤ n ∧ laws_szToneS.f l n = some (n - l.length)) ∨ (n < (l.length : Int) ∧ laws_szToneS.f l n = some (-1)) := by
  unfold laws_szToneS.f
  rw [w64 (by omega) (by omega)]
  by_cases h : n - (l.length : Int) < 0
  · rw [if_pos h]; exact .inr ⟨by omega, rfl⟩
  · rw [if_neg h]; exact .inl ⟨by omega, rfl⟩
theorem conv_loop (l : List S48) (hl : l.length ≤ 1048576) : ∀ (d i : Nat) (xs : List S36), i + d = l.length → xs.length = l.length → xs.take i = (l.take i).map cv →
    EvP (fun k => laws_toToneS.l0 k l xs (i : Int)) (· = l.map cv) := by
  intro d
  induction d with
  | zero =>
    intro i xs hi hx ht
    refine EvP.succ ?_
    simp only [laws_toToneS.l0]
    refine EvP.no (by omega) (EvP.ret ?_)
    rw [List.take_of_length_le (by omega), List.take_of_length_le (by omega)] at ht
    exact ht
  | succ d ih =>
    intro i xs hi hx ht
    have hlt : i < l.length := by omega
    refine EvP.succ ?_
    simp only [laws_toToneS.l0]
    refine EvP.yes (by omega) (EvP.yes (by omega) ?_)
    refine EvP.bind (P := (· = (l[i].f0, l[i].f1))) (EvP.con ?_ rfl) (fun _ e => ?_)
    · unfold laws_toTone.f rd_T48
      rw [toNat_nat, List.getD_eq_getElem?_getD, List.getElem?_eq_getElem hlt]
      rfl
    · subst e
      refine EvP.yes (by omega) ?_
      rw [w64 (by omega) (by omega), toNat_nat]
      refine ih (i + 1) _ (by omega) (by simpa using hx) ?_
      rw [List.take_succ_eq_append_getElem (by simp; omega), List.take_succ_eq_append_getElem hlt, List.map_append, List.take_set_of_le (Nat.le_refl _), ht]
      simp [cv]
theorem conv_ok (l : List S48) (hl : l.length ≤ 1048576) : EvP (fun k => laws_toToneS.f k l) (· = l.map cv) := by
  unfold laws_toToneS.f
  refine EvP.yes (by omega) (EvP.yes (by omega) ?_)
  exact conv_loop l hl l.length 0 _ (by omega) (by simp) rfl
theorem eq_loop (l : List S36) (hl : l.length ≤ 1048576) : ∀ d i : Nat, i + d = l.length → EvP (fun k => laws_eqToneS.l0 k l l (i : Int)) (· = true) := by
  intro d
  induction d with
  | zero =>
    intro i hi
    refine EvP.succ ?_
    simp only [laws_eqToneS.l0]
    exact EvP.no (by omega) (EvP.ret rfl)
  | succ d ih =>
    intro i hi
    refine EvP.succ ?_
    simp only [laws_eqToneS.l0]
    refine EvP.yes (by omega) (EvP.yes (by omega) (EvP.yes (by omega) ?_))
    refine EvP.bind (P := (· = true)) (EvP.con (by simp [laws_eqTone.f]) rfl) (fun _ e => ?_)
    subst e
    refine EvP.yes rfl ?_
    rw [w64 (by omega) (by omega)]
    exact ih (i + 1) (by omega)
theorem eq_ok (l : List S36) (hl : l.length ≤ 1048576) : EvP (fun k => laws_eqToneS.f k l l) (· = true) := by
  unfold laws_eqToneS.f
  exact EvP.yes rfl (eq_loop l hl l.length 0 (by omega))
end Go.Proofs.Ythpeiboobnnfgaa.Pur
end
section
namespace Go.Proofs.Ythpeiboobnnfgaa.Pur
open Go.RowKit Go.Proofs.YthpeiboobnnfgaaW.PrintWords Go.Proofs.YthpeiboobnnfgaaW.PrintMore Go.Proofs.Ythpeiboobnnfgaa.E Go.Proofs.Ythpeiboobnnfgaa.Ed
theorem exact_txt (l0 l1 : List S48) (h0 : (l0.length : Int) ≤ 9223372036854775807) (h1 : (l1.length : Int) ≤ 9223372036854775807) : ∃ k, laws_FnExactEditText.f k l0 l1 = some true := by
  refine EvP.rounds (?_ : EvP (fun k => laws_FnExactEditText.f k l0 l1) (· = true))
  unfold laws_FnExactEditText.f
  rcases sz_ok l0 1048576 h0 (by omega) (by omega) with ⟨g0, e0⟩ | ⟨g0, e0⟩
  · rcases sz_ok l1 (1048576 - l0.length) h1 (by omega) (by omega) with ⟨g1, e1⟩ | ⟨g1, e1⟩
    · have n0 : l0.length ≤ 1048576 := by omega
      have n1 : l1.length ≤ 1048576 := by omega
      refine EvP.bind (P := (· = 1048576 - (l0.length : Int))) (EvP.con e0 rfl) (fun _ e => ?_)
      subst e
      refine EvP.no (by omega) ?_
      refine EvP.bind (P := (· = 1048576 - (l0.length : Int) - l1.length)) (EvP.con e1 rfl) (fun _ e => ?_)
      subst e
      refine EvP.no (by omega) ?_
      refine EvP.bind (conv_ok l0 n0) (fun _ e => ?_)
      subst e
      refine EvP.bind (conv_ok l1 n1) (fun _ e => ?_)
      subst e
      refine EvP.bind (spec_txt _ _ (by simp; omega) (by simp; omega)) (fun _ e => ?_)
      subst e
      refine EvP.bind (conv_ok l0 n0) (fun _ e => ?_)
      subst e
      refine EvP.bind (conv_ok l1 n1) (fun _ e => ?_)
      subst e
      refine EvP.bind (impl_txt _ _) (fun _ e => ?_)
      subst e
      refine EvP.yes rfl ?_
      rw [bne_self_eq_false]
      refine EvP.succ ?_
      simp only [laws_FnExactEditText.j0]
      refine EvP.no (by decide) ?_
      refine EvP.bind (conv_ok l0 n0) (fun _ e => ?_)
      subst e
      refine EvP.bind (eq_ok _ (by simpa using n0)) (fun _ e => ?_)
      subst e
      refine EvP.yes rfl ?_
      refine EvP.bind (conv_ok l1 n1) (fun _ e => ?_)
      subst e
      refine EvP.bind (eq_ok _ (by simpa using n1)) (fun _ e => ?_)
      subst e
      exact EvP.yes rfl (EvP.ret rfl)
    · refine EvP.bind (P := (· = 1048576 - (l0.length : Int))) (EvP.con e0 rfl) (fun _ e => ?_)
      subst e
      refine EvP.no (by omega) ?_
      refine EvP.bind (P := (· = (-1 : Int))) (EvP.con e1 rfl) (fun _ e => ?_)
      subst e
      exact EvP.yes (by omega) (EvP.ret rfl)
  · refine EvP.bind (P := (· = (-1 : Int))) (EvP.con e0 rfl) (fun _ e => ?_)
    subst e
    exact EvP.yes (by omega) (EvP.ret rfl)
end Go.Proofs.Ythpeiboobnnfgaa.Pur
end
section
namespace Go.Proofs.Ythpeiboobnnfgaa.Pur
open Go.RowKit Go.ChangeShapes Go.Deep Go.Proofs.YthpeiboobnnfgaaW.PrintWords Go.Proofs.Ythpeiboobnnfgaa.E
section
variable {P : Program}
theorem open_ib {H : Type} {enc : TypeId × Value → H} {W : World} {t : TypeId} {f0 f1 : Field} {fuel : Nat} {cs : List Value} {x : DataW H × List MemPlace} (ht : P.underlying t = some (.struct #[f0, f1])) (hi : P.underlying f0.type = some (.int .i64)) (hb : P.underlying f1.type = some .bool)
    (c0 : P.cellsOf f0.type = 1) (c1 : P.cellsOf f1.type = 1) (ct : P.cellsOf t = 2) (o0 : f0.offset = 0) (o1 : f1.offset = 1) (h : DataW.trod enc P W 0 (fun _ => true) true fuel t cs = some x) : ∃ (a : Int) (b : Bool), cs = [.int .i64 a, .bool b] := by
  obtain ⟨y0, y1, n, _, hl, h0, h1⟩ := trod_struct2 ht h
  rw [ct] at hl
  rw [c0, o0] at h0
  rw [c1, o1] at h1
  obtain ⟨a, e0, _, _⟩ := DataW.trod_int hi h0
  obtain ⟨b, e1, _⟩ := DataW.trod_bool hb h1
  match cs, hl with
  | [u, v], _ =>
    simp at e0 e1
    exact ⟨a, b, by rw [e0, e1]⟩
theorem open_row {H : Type} {enc : TypeId × Value → H} {W : World} {α : Type} [Inhabited α] {d : Kd α} {t e : TypeId} {fuel : Nat} {cs : List Value} {x : DataW H × List MemPlace} (ht : P.underlying t = some (.slice e)) (hc : P.cellsOf e = d.sz)
    (o : ∀ (fuel : Nat) (cs : List Value) (x : DataW H × List MemPlace), DataW.trod enc P W 0 (fun _ => true) true fuel e cs = some x → ∃ y, d.K W y cs)
    (h : DataW.trod enc P W 0 (fun _ => true) true fuel t cs = some x) : ∃ (A : Option Addr) (c : Nat) (l : List α), cs = [.slice A l.length c] ∧ l.length ≤ c ∧ (l.length : Int) ≤ 9223372036854775807 ∧ d.C W A l.length l := by
  rcases open_slice ht h with ⟨rfl, _⟩ | ⟨a, len, cap, m, n, D, Pl, rfl, _, hl, hm, hmm, _, hx⟩
  · exact ⟨none, 0, [], rfl, Nat.le_refl _, by simp, rfl, by simp, fun h => absurd h (by simp)⟩
  · have hlm : len ≤ m := by rw [hmm]; simp; omega
    unfold maxLen at hm
    obtain ⟨Y, hY⟩ := choose_lt (α := α) (n := len) (p := fun i y => ∃ cs', W.cells? 0 (a.add (i * P.cellsOf e)) (P.cellsOf e) = some cs' ∧ d.K W y cs') (fun i hi => by
      obtain ⟨cs', h1, h2⟩ := hx i (by omega)
      obtain ⟨y, hy⟩ := o _ _ _ h2
      exact ⟨y, cs', h1, hy⟩)
    have hlen : ((List.range len).map Y).length = len := by simp
    refine ⟨some a, cap, (List.range len).map Y, by rw [hlen], by rw [hlen]; exact hl, by rw [hlen]; omega, rfl, by rw [hlen]; omega, fun _ => ⟨a, rfl, fun j p hj => ?_⟩⟩
    obtain ⟨hj1, hj2⟩ := List.getElem?_eq_some_iff.1 hj
    rw [hlen] at hj1
    simp only [List.getElem_map, List.getElem_range] at hj2
    subst hj2
    obtain ⟨cs', h1, h2⟩ := hY j hj1
    obtain ⟨_, g1, g2⟩ := World.cells?_some h1
    refine ⟨cs', by rw [g1, hc], h2, fun i u hu => ?_⟩
    have := g2 i (by rw [← g1]; exact (List.getElem?_eq_some_iff.1 hu).1)
    rw [Go.Deep.add_add, hc, hu] at this
    exact this
end
instance : Inhabited S48 := ⟨z48⟩
theorem open_tones {H : Type} {enc : TypeId × Value → H} {W : World} {fuel : Nat} {cs : List Value} {x : DataW H × List MemPlace} (h : DataW.trod enc Try.prog W 0 (fun _ => true) true fuel 22 cs = some x) :
    ∃ (A : Option Addr) (c : Nat) (l : List S48), cs = [.slice A l.length c] ∧ l.length ≤ c ∧ (l.length : Int) ≤ 9223372036854775807 ∧ Kd.C k48 W A l.length l :=
  open_row Try.underlying22 (by kernel_rfl) (fun fuel cs x h => by
    obtain ⟨a, b, rfl⟩ := open_ib Try.underlying48 (by kernel_rfl) (by kernel_rfl) (by kernel_rfl) (by kernel_rfl) (by kernel_rfl) rfl rfl h
    exact ⟨⟨a, b⟩, k48_mk W ⟨a, b⟩⟩) h
end Go.Proofs.Ythpeiboobnnfgaa.Pur
end
section
namespace Go.Proofs.Ythpeiboobnnfgaa.fnExactEditText
open Go.ChangeShapes Go.WideShapes Go.ChangeAt Go.RowKit
open Go.ChangeMaps (open_string shut_string)
theorem own : ownKnob Try.prog.godebug = none := by kernel_rfl
theorem laidOut : laidOutB Try.prog = true := by kernel_rfl
set_option maxRecDepth 100000 in
theorem lifted (os : Os) (started : os.Started) (H : Type) (enc : TypeId × Value → H) :
    ReturnsInHanded {} Try.checked os 10 .any (Rows.fnExactEditTextSpec.pre6 enc Try.prog Try.f10 Rows.fnExactEditTextRow.domain false) (Rows.fnExactEditTextSpec.post enc Try.prog Try.f10 false true false false) := by
  refine returnsInHanded_of_change_sized (C := Try.checked) own started (by kernel_rfl) Try.func10
    (ChangeSpec.witness6 (enc := enc) (C := Try.checked) false ⟨#[], #[.slice none 0 0, .slice none 0 0], []⟩ 8 (by kernel_rfl) (by kernel_rfl) (by kernel_rfl) (by kernel_rfl)) ?_
  intro W base args ds gs before hval0 hW hcnd hsz0 _
  have hsz : (DataW.weightsEach Try.prog (Try.f10.params.toList ++ Rows.fnExactEditTextSpec.plain.varTypes Try.prog) (ds ++ gs)).all (· ≤ reachBytes) = true := hsz0
  have hval : ∀ (j : Nat) t v, Try.f10.params[j]? = some t → args[j]? = some v → Value.okWide Try.prog W .any base t v := hval0
  have hW' := hW
  obtain ⟨p, q, hA0, hV, rfl, hfz, hnd⟩ := hW
  have hA : DataW.TrodAll enc Try.prog W 0 (fun _ => true) true Try.f10.params.toList args.toList ds p := hA0
  rw [Try.params10] at hA hval hsz
  obtain ⟨v0, vs0, d0, ds0, p0, q0, hargs, rfl, rfl, h0, r0⟩ := trodAll_cons hA
  obtain ⟨v1, vs1, d1, ds1, p1, q1, rfl, rfl, rfl, h1, r1⟩ := trodAll_cons r0
  obtain ⟨rfl, rfl, rfl⟩ := trodAll_nil r1
  obtain rfl : args = #[v0, v1] := by cases args; simp_all
  obtain ⟨rfl, rfl⟩ := trodVars_none hV
  obtain ⟨a0, len0, cap0, rfl⟩ := okWide_slice Try.underlying22 (hval 0 22 v0 rfl rfl)
  have k0 := h0
  have lt0 : ∀ x ∈ p0, x.block < W.heap.size := by obtain ⟨m, hm⟩ := k0; exact DataW.trod_lt m _ _ _ hm
  obtain ⟨fuel0, hf0⟩ := h0
  obtain ⟨A0, c0, l0, hcs0, hle0, hm0, hC0⟩ := Pur.open_tones hf0
  simp [Value.cells] at hcs0
  obtain ⟨rfl, rfl, rfl⟩ := hcs0
  obtain ⟨a1, len1, cap1, rfl⟩ := okWide_slice Try.underlying22 (hval 1 22 v1 rfl rfl)
  have k1 := h1
  have lt1 : ∀ x ∈ p1, x.block < W.heap.size := by obtain ⟨m, hm⟩ := k1; exact DataW.trod_lt m _ _ _ hm
  obtain ⟨fuel1, hf1⟩ := h1
  obtain ⟨A1, c1, l1, hcs1, hle1, hm1, hC1⟩ := Pur.open_tones hf1
  simp [Value.cells] at hcs1
  obtain ⟨rfl, rfl, rfl⟩ := hcs1
  clear hA0 hval0 hsz0 hsz
  obtain ⟨k, hk⟩ := Pur.exact_txt l0 l1 hm0 hm1
  refine (E.laws_FnExactEditText.calls k _ _ l0 _ _ l1 true W hC0 hle0 hC1 hle1 hk).mono fun e W' ⟨he, bel⟩ => ?_
  subst he
  exact ⟨_, rfl, _, _, _, [], _, [], hW', trodAll_mk1 (shut_bool Try.underlying4 _), (trodAll_cons_mk (Below.trod laidOut (by kernel_rfl) (of_decide_eq_true (by kernel_rfl)) k0 bel lt0) (trodAll_cons_mk (Below.trod laidOut (by kernel_rfl) (of_decide_eq_true (by kernel_rfl)) k1 bel lt1) trodAll_mk0)), rfl, bel.frame _, fun h => by cases h⟩
theorem over : Rows.fnExactEditTextRow.holds Try.pinned (OpenSpec.ofChange Rows.fnExactEditTextSpec) :=
  OpenClaim.holds_of_wide 10 Try.f10 rfl rfl rfl rfl rfl rfl rfl ⟨rfl, rfl, rfl, rfl, rfl⟩ rfl rfl rfl rfl rfl (by kernel_rfl) Try.func10 (by kernel_rfl)
    (of_decide_eq_true (by kernel_rfl)) (by unfold Func.isWrapper; first | (rw [if_pos (by decide +kernel)]; kernel_rfl) | (rw [if_neg (by decide +kernel)]; exact ⟨rfl, rfl⟩))
    (fun os started H enc _ => lifted os started H enc)
theorem proved : Rows.FnExactEditTextSaid := over
#print axioms proved
end Go.Proofs.Ythpeiboobnnfgaa.fnExactEditText
namespace Go.Proofs.Ythpeiboobnnfgaa
theorem fnExactEditText_holds : Rows.FnExactEditTextSaid := fnExactEditText.proved
end Go.Proofs.Ythpeiboobnnfgaa
end
