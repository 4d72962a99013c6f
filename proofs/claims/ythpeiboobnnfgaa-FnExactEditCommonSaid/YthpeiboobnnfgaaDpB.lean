/- The program's table of least sums (lessKept). -/
import Derived.Test.YthpeiboobnnfgaaDpUse
import Derived.Test.YthpeiboobnnfgaaEx17
import Derived.Test.YthpeiboobnnfgaaEx22
import Derived.Test.YthpeiboobnnfgaaEx23
namespace Go.Proofs.Ythpeiboobnnfgaa.Pur
open Go.RowKit Go.Proofs.YthpeiboobnnfgaaW.PrintWords Go.Proofs.YthpeiboobnnfgaaW.PrintMore Go.Proofs.Ythpeiboobnnfgaa.E Go.Proofs.Ythpeiboobnnfgaa.Ed

namespace LlessKept
theorem pay1 : impl_lessKept.f 1 0 1 2 = some commonP.ins := by simp [impl_lessKept.f, commonP]
theorem pay3 : impl_lessKept.f 3 1 0 2 = some commonP.om := by simp [impl_lessKept.f, commonP]
theorem pay2 (x y : Tn) (h : eqT x y = true) : impl_lessKept.f 2 1 1 0 = some (commonP.both x y) := by
  obtain rfl := (eqT_iff x y).mp h
  simp [impl_lessKept.f, commonP]
theorem pay4 (x y : Tn) (h : ¬ eqT x y = true) : impl_lessKept.f 4 1 1 (if x.f0 = y.f0 then 1 else 3) = some (commonP.both x y) := by
  unfold eqT at h
  by_cases h0 : x.f0 = y.f0
  · by_cases h1 : x.f1 = y.f1
    · simp [h0, h1] at h
    · simp [impl_lessKept.f, commonP, h0, h1]
  · simp [impl_lessKept.f, commonP, h0]
theorem bd (xs ys : List Tn) (hx : xs.length ≤ 24) (_hy : ys.length ≤ 24) : -24 ≤ least commonP xs ys ∧ least commonP xs ys ≤ 96 := by
  have := common_bd xs ys
  omega
theorem bdp (x y : Tn) : -1 ≤ commonP.both x y ∧ commonP.both x y ≤ 3 ∧ -1 ≤ commonP.ins ∧ commonP.ins ≤ 3 ∧ -1 ≤ commonP.om ∧ commonP.om ≤ 3 := by
  unfold commonP
  dsimp only
  split <;> (try split) <;> omega

/-- The table with what is known of a cell. -/
def st (x : List (List Int)) (i k : Nat) : Option Int → List (List Int)
  | none => x
  | some u => putT x i k u
/-- One more sum. -/
def comb : Option Int → Int → Int
  | none, v => v
  | some u, v => if v < u then v else u

section
variable (a b : List Tn) (ha : a.length ≤ 24) (hb : b.length ≤ 24) (Q : List (List Int) → Prop)
variable {x : List (List Int)} {i k : Nat} (D : Done commonP a b x i (k + 1)) (hi : i ≤ a.length) (hk : k ≤ b.length)
include ha hb D hi hk

omit ha hb hi hk in
theorem rows (m : Option Int) : (st x i k m).length = a.length + 1 ∧ (∀ j, i ≤ j → j ≤ a.length → (rd_L4 (st x i k m) (j : Int)).length = b.length + 1) := by
  cases m with
  | none => exact ⟨D.len, fun j hj hj' => D.row j hj hj'⟩
  | some u => exact ⟨by rw [st, putT_length]; exact D.len, fun j hj hj' => by rw [st, rd_RL, putT_RL]; exact D.row j hj hj'⟩
omit ha hb in
theorem reads (m : Option Int) (s1 s2 : Nat) (h1 : i + s1 ≤ a.length) (h2 : k + s2 ≤ b.length) (hne : s1 + s2 ≠ 0) : T (st x i k m) (i + s1) (k + s2) = least commonP (a.drop (i + s1)) (b.drop (k + s2)) := by
  have ht := D.told (i + s1) (k + s2) h1 h2 (by omega)
  cases m with
  | none => exact ht
  | some u =>
    rw [st, putT_T x i k _ _ u (by rw [D.len]; omega) (by rw [D.row i (Nat.le_refl _) hi]; omega), if_neg (by omega)]
    exact ht

omit ha hb D in
theorem skip (m : Option Int) (j : Nat) (hj : j < 4) (e : Int) (he : rd [1, 2, 3, 4] (j : Int) = e) (u : Int × Int × Int × Bool) (hu : EvP (fun n => impl_useOf.f n e (a.drop i) (b.drop k)) (· = u)) (ho : u.2.2.2 = false)
    (K : EvP (fun n => impl_leastSums_lessKept.l2 n a b (st x i k m) (i : Int) (k : Int) m.isSome [1, 2, 3, 4] (([1, 2, 3, 4] : List Int).length : Int) ((j + 1 : Nat) : Int)) Q) :
    EvP (fun n => impl_leastSums_lessKept.l2 n a b (st x i k m) (i : Int) (k : Int) m.isSome [1, 2, 3, 4] (([1, 2, 3, 4] : List Int).length : Int) (j : Int)) Q := by
  have hl : ([1, 2, 3, 4] : List Int).length = 4 := rfl
  refine EvP.succ ?_
  simp only [impl_leastSums_lessKept.l2]
  refine EvP.yes (by omega) (EvP.yes (by omega) (EvP.yes (by omega) (EvP.yes (by omega) (EvP.yes (by omega) (EvP.yes (by omega) (EvP.yes (by omega) ?_))))))
  rw [he]
  refine EvP.bind (P := (· = u)) hu (fun _ h => ?_)
  subst h
  refine EvP.no (by rw [ho]; simp) ?_
  rw [w64 (by omega) (by omega)]
  exact K

theorem take (m : Option Int) (j : Nat) (hj : j < 4) (e : Int) (he : rd [1, 2, 3, 4] (j : Int) = e) (s1 s2 : Nat) (c pay : Int) (hu : EvP (fun n => impl_useOf.f n e (a.drop i) (b.drop k)) (· = ((s1 : Int), (s2 : Int), c, true)))
    (h1 : i + s1 ≤ a.length) (h2 : k + s2 ≤ b.length) (hne : s1 + s2 ≠ 0) (hF : impl_lessKept.f e (s1 : Int) (s2 : Int) c = some pay) (hp : -1 ≤ pay ∧ pay ≤ 3)
    (K : EvP (fun n => impl_leastSums_lessKept.l2 n a b (st x i k (some (comb m (pay + least commonP (a.drop (i + s1)) (b.drop (k + s2)))))) (i : Int) (k : Int) true [1, 2, 3, 4] (([1, 2, 3, 4] : List Int).length : Int) ((j + 1 : Nat) : Int)) Q) :
    EvP (fun n => impl_leastSums_lessKept.l2 n a b (st x i k m) (i : Int) (k : Int) m.isSome [1, 2, 3, 4] (([1, 2, 3, 4] : List Int).length : Int) (j : Int)) Q := by
  have hl : ([1, 2, 3, 4] : List Int).length = 4 := rfl
  obtain ⟨hx, hr⟩ := rows a b D m
  have hri := hr i (Nat.le_refl _) hi
  have hrs := hr (i + s1) (by omega) h1
  have b1 := bd (a.drop (i + s1)) (b.drop (k + s2)) (by rw [drop_len]; omega) (by rw [drop_len]; omega)
  have hv : Hd (wrap64 (pay + rd (rd_L4 (st x i k m) ((i + s1 : Nat) : Int)) ((k + s2 : Nat) : Int)) = pay + least commonP (a.drop (i + s1)) (b.drop (k + s2))) := by
    refine Hd.mk ?_
    rw [rd_T, reads a b D hi hk m s1 s2 h1 h2 hne]
    exact w64 (by omega) (by omega)
  refine EvP.succ ?_
  simp only [impl_leastSums_lessKept.l2]
  refine EvP.yes (by omega) (EvP.yes (by omega) (EvP.yes (by omega) (EvP.yes (by omega) (EvP.yes (by omega) (EvP.yes (by omega) (EvP.yes (by omega) ?_))))))
  rw [he]
  refine EvP.bind (P := (· = ((s1 : Int), (s2 : Int), c, true))) hu (fun _ h => ?_)
  subst h
  refine EvP.yes rfl ?_
  refine EvP.bind (P := (· = pay)) (EvP.con hF rfl) (fun pay' h => ?_)
  subst h
  have e1 : wrap64 ((i : Int) + (s1 : Int)) = ((i + s1 : Nat) : Int) := w64 (by omega) (by omega)
  have e2 : Hd (wrap64 ((k : Int) + (s2 : Int)) = ((k + s2 : Nat) : Int)) := Hd.mk (by clear e1; exact w64 (by omega) (by omega))
  have ej : Hd (wrap64 ((j : Int) + 1) = ((j + 1 : Nat) : Int)) := Hd.mk (by clear e1; exact w64 (by omega) (by omega))
  simp only [e1, e2.out, hv.out, ej.out]
  clear e1 e2 ej hv
  refine EvP.yes (by omega) (EvP.yes (by omega) (EvP.yes (by omega) (EvP.yes (by omega) ?_)))
  cases m with
  | none =>
    refine EvP.no (by simp) (EvP.yes (by omega) (EvP.yes (by omega) ?_))
    exact K
  | some u =>
    refine EvP.yes rfl (EvP.yes (by omega) (EvP.yes (by omega) ?_))
    have hu' : rd (rd_L4 (st x i k (some u)) (i : Int)) (k : Int) = u := by
      rw [rd_T, st, putT_T x i k i k u (by rw [D.len]; omega) (by rw [D.row i (Nat.le_refl _) hi]; omega), if_pos ⟨rfl, rfl⟩]
    rw [hu']
    refine EvP.ite (fun h => ?_) (fun h => ?_)
    · unfold comb at K
      dsimp only at K
      rw [if_pos h] at K
      have ep : st x i k (some (pay' + least commonP (a.drop (i + s1)) (b.drop (k + s2)))) = putT (putT x i k u) i k (pay' + least commonP (a.drop (i + s1)) (b.drop (k + s2))) := (putT_put x i k u _).symm
      rw [ep] at K
      exact K
    · unfold comb at K
      dsimp only at K
      rw [if_neg h] at K
      exact K

/-- A cell, filled. -/
theorem cell (next : ∀ x', Done commonP a b x' i k → EvP (fun n => impl_leastSums_lessKept.l1 n a b x' (i : Int) ((k : Int) - 1)) Q) :
    EvP (fun n => impl_leastSums_lessKept.l2 n a b x (i : Int) (k : Int) false [1, 2, 3, 4] (([1, 2, 3, 4] : List Int).length : Int) 0) Q := by
  have hl : ([1, 2, 3, 4] : List Int).length = 4 := rfl
  have fin : ∀ m, Done commonP a b (st x i k m) i k → EvP (fun n => impl_leastSums_lessKept.l2 n a b (st x i k m) (i : Int) (k : Int) m.isSome [1, 2, 3, 4] (([1, 2, 3, 4] : List Int).length : Int) ((4 : Nat) : Int)) Q := by
    intro m hm
    refine EvP.succ ?_
    simp only [impl_leastSums_lessKept.l2]
    refine EvP.no (by omega) ?_
    rw [w64 (by omega) (by omega)]
    exact next _ hm
  have put : ∀ v, v = least commonP (a.drop i) (b.drop k) → Done commonP a b (st x i k (some v)) i k := fun v hv => D.put hi hk hv
  obtain ⟨u1, u2, u3, u4⟩ := use_ok (a.drop i) (b.drop k)
  have s0 := skip a b Q hi hk (x := x)
  have t0 := take a b ha hb Q D hi hk
  show EvP (fun n => impl_leastSums_lessKept.l2 n a b (st x i k none) (i : Int) (k : Int) (none : Option Int).isSome [1, 2, 3, 4] (([1, 2, 3, 4] : List Int).length : Int) ((0 : Nat) : Int)) Q
  by_cases hia : i < a.length
  · have ea := drop_cons hia
    by_cases hkb : k < b.length
    · have eb := drop_cons hkb
      have bp := bdp a[i] b[k]
      have v1 : use1 (a.drop i) (b.drop k) = (((0 : Nat) : Int), ((1 : Nat) : Int), 2, true) := use1_true _ _ (by rw [drop_len]; omega)
      have v3 : use3 (a.drop i) (b.drop k) = (((1 : Nat) : Int), ((0 : Nat) : Int), 2, true) := use3_true _ _ (by rw [drop_len]; omega)
      rw [v1] at u1
      rw [v3] at u3
      refine t0 none 0 (by omega) 1 rfl 0 1 2 commonP.ins u1 (by omega) (by omega) (by omega) pay1 (by omega) ?_
      have least_is := least_cc commonP a[i] b[k] (a.drop (i + 1)) (b.drop (k + 1))
      rw [← ea, ← eb] at least_is
      by_cases he : eqT a[i] b[k] = true
      · have v2 : use2 (a.drop i) (b.drop k) = (((1 : Nat) : Int), ((1 : Nat) : Int), 0, true) := by rw [ea, eb]; simp [use2, he]
        have v4 : (use4 (a.drop i) (b.drop k)).2.2.2 = false := by rw [ea, eb]; simp [use4, he]
        rw [v2] at u2
        refine t0 (some _) 1 (by omega) 2 rfl 1 1 0 (commonP.both a[i] b[k]) u2 (by omega) (by omega) (by omega) (pay2 _ _ he) (by omega) ?_
        refine t0 (some _) 2 (by omega) 3 rfl 1 0 2 commonP.om u3 (by omega) (by omega) (by omega) pay3 (by omega) ?_
        refine s0 (some _) 3 (by omega) 4 rfl _ u4 v4 ?_
        refine fin (some _) (put _ ?_)
        rw [least_is]
        simp only [comb, Nat.add_zero]
        generalize least commonP (a.drop i) (b.drop (k + 1)) = p1
        generalize least commonP (a.drop (i + 1)) (b.drop (k + 1)) = p2
        generalize least commonP (a.drop (i + 1)) (b.drop k) = p3
        (repeat' split) <;> omega
      · have v2 : (use2 (a.drop i) (b.drop k)).2.2.2 = false := by rw [ea, eb]; simp [use2, he]
        have v4 : use4 (a.drop i) (b.drop k) = (((1 : Nat) : Int), ((1 : Nat) : Int), (if a[i].f0 = b[k].f0 then 1 else 3), true) := by
          rw [ea, eb, show use4 (a[i] :: a.drop (i + 1)) (b[k] :: b.drop (k + 1)) = if eqT a[i] b[k] = true then (0, 0, 0, false) else if a[i].f0 = b[k].f0 then (1, 1, 1, true) else (1, 1, 3, true) from rfl, if_neg he]
          split <;> rfl
        rw [v4] at u4
        refine s0 (some _) 1 (by omega) 2 rfl _ u2 v2 ?_
        refine t0 (some _) 2 (by omega) 3 rfl 1 0 2 commonP.om u3 (by omega) (by omega) (by omega) pay3 (by omega) ?_
        refine t0 (some _) 3 (by omega) 4 rfl 1 1 _ (commonP.both a[i] b[k]) u4 (by omega) (by omega) (by omega) (pay4 _ _ he) (by omega) ?_
        refine fin (some _) (put _ ?_)
        rw [least_is]
        simp only [comb, Nat.add_zero]
        generalize least commonP (a.drop i) (b.drop (k + 1)) = p1
        generalize least commonP (a.drop (i + 1)) (b.drop (k + 1)) = p2
        generalize least commonP (a.drop (i + 1)) (b.drop k) = p3
        (repeat' split) <;> omega
    · have eb : b.drop k = [] := List.drop_of_length_le (by omega)
      have bp := bdp a[i] a[i]
      have v1 : (use1 (a.drop i) (b.drop k)).2.2.2 = false := use1_false _ _ (by rw [drop_len]; omega)
      have v2 : (use2 (a.drop i) (b.drop k)).2.2.2 = false := by rw [eb, ea]; simp [use2]
      have v3 : use3 (a.drop i) (b.drop k) = (((1 : Nat) : Int), ((0 : Nat) : Int), 2, true) := use3_true _ _ (by rw [drop_len]; omega)
      have v4 : (use4 (a.drop i) (b.drop k)).2.2.2 = false := by rw [eb, ea]; simp [use4]
      rw [v3] at u3
      refine s0 none 0 (by omega) 1 rfl _ u1 v1 ?_
      refine s0 none 1 (by omega) 2 rfl _ u2 v2 ?_
      refine t0 none 2 (by omega) 3 rfl 1 0 2 commonP.om u3 (by omega) (by omega) (by omega) pay3 (by omega) ?_
      refine s0 (some _) 3 (by omega) 4 rfl _ u4 v4 ?_
      refine fin (some _) (put _ ?_)
      simp only [comb, Nat.add_zero]
      rw [eb, ea, least_cn]
  · have ea : a.drop i = [] := List.drop_of_length_le (by omega)
    have v2 : (use2 (a.drop i) (b.drop k)).2.2.2 = false := by rw [ea]; simp [use2]
    have v3 : (use3 (a.drop i) (b.drop k)).2.2.2 = false := use3_false _ _ (by rw [drop_len]; omega)
    have v4 : (use4 (a.drop i) (b.drop k)).2.2.2 = false := by rw [ea]; simp [use4]
    by_cases hkb : k < b.length
    · have eb := drop_cons hkb
      have bp := bdp b[k] b[k]
      have v1 : use1 (a.drop i) (b.drop k) = (((0 : Nat) : Int), ((1 : Nat) : Int), 2, true) := use1_true _ _ (by rw [drop_len]; omega)
      rw [v1] at u1
      refine t0 none 0 (by omega) 1 rfl 0 1 2 commonP.ins u1 (by omega) (by omega) (by omega) pay1 (by omega) ?_
      refine s0 (some _) 1 (by omega) 2 rfl _ u2 v2 ?_
      refine s0 (some _) 2 (by omega) 3 rfl _ u3 v3 ?_
      refine s0 (some _) 3 (by omega) 4 rfl _ u4 v4 ?_
      refine fin (some _) (put _ ?_)
      simp only [comb, Nat.add_zero]
      rw [ea, eb, least_nc]
    · have eb : b.drop k = [] := List.drop_of_length_le (by omega)
      have v1 : (use1 (a.drop i) (b.drop k)).2.2.2 = false := use1_false _ _ (by rw [drop_len]; omega)
      refine s0 none 0 (by omega) 1 rfl _ u1 v1 ?_
      refine s0 none 1 (by omega) 2 rfl _ u2 v2 ?_
      refine s0 none 2 (by omega) 3 rfl _ u3 v3 ?_
      refine s0 none 3 (by omega) 4 rfl _ u4 v4 ?_
      refine fin none ?_
      obtain rfl : i = a.length := by omega
      obtain rfl : k = b.length := by omega
      exact D.stay
end

section
variable (a b : List Tn) (ha : a.length ≤ 24) (hb : b.length ≤ 24) (Q : List (List Int) → Prop)
include ha hb

theorem row (i : Nat) (hi : i ≤ a.length) (next : ∀ x, Done commonP a b x i 0 → EvP (fun n => impl_leastSums_lessKept.l0 n a b x (wrap64 ((i : Int) - 1))) Q) :
    ∀ k1 : Nat, k1 ≤ b.length + 1 → ∀ x, Done commonP a b x i k1 → EvP (fun n => impl_leastSums_lessKept.l1 n a b x (i : Int) ((k1 : Int) - 1)) Q := by
  intro k1
  induction k1 with
  | zero =>
    intro _ x D
    refine EvP.succ ?_
    simp only [impl_leastSums_lessKept.l1]
    exact EvP.no (by omega) (next x D)
  | succ k ih =>
    intro hk x D
    have ek : (((k + 1 : Nat) : Int) - 1) = (k : Int) := by omega
    rw [ek]
    refine EvP.succ ?_
    simp only [impl_leastSums_lessKept.l1]
    refine EvP.yes (by omega) ?_
    refine EvP.bind (P := (· = [1, 2, 3, 4])) (EvP.con rfl rfl) (fun _ h => ?_)
    subst h
    exact cell a b ha hb Q D hi (by omega) (fun x' D' => ih (by omega) x' D')

theorem lines (hQ : ∀ x, Full commonP a b x → Q x) :
    ∀ i1 : Nat, i1 ≤ a.length + 1 → ∀ x, x.length = a.length + 1 → (∀ j, i1 ≤ j → j ≤ a.length → RL x j = b.length + 1) → (∀ j l, j ≤ a.length → l ≤ b.length → i1 ≤ j → T x j l = least commonP (a.drop j) (b.drop l)) →
      EvP (fun n => impl_leastSums_lessKept.l0 n a b x ((i1 : Int) - 1)) Q := by
  intro i1
  induction i1 with
  | zero =>
    intro _ x hx hr ht
    refine EvP.succ ?_
    simp only [impl_leastSums_lessKept.l0]
    refine EvP.no (by omega) ?_
    exact (EvP.ret (hQ x ⟨hx, fun j hj => hr j (Nat.zero_le _) hj, fun j l hj hl => ht j l hj hl (Nat.zero_le _)⟩))
  | succ i ih =>
    intro hi x hx hr ht
    have ei : (((i + 1 : Nat) : Int) - 1) = (i : Int) := by omega
    have eb : wrap64 ((b.length : Int) + 1) = ((b.length + 1 : Nat) : Int) := w64 (by omega) (by omega)
    rw [ei]
    refine EvP.succ ?_
    simp only [impl_leastSums_lessKept.l0]
    refine EvP.yes (by omega) ?_
    rw [eb]
    refine EvP.yes (by omega) (EvP.yes (by omega) (EvP.yes (by omega) (EvP.yes (by omega) ?_)))
    have D : Done commonP a b (x.set i (List.replicate (b.length + 1) 0)) i (b.length + 1) := Done.new hx (fun j hj hj' => hr j (by omega) hj') (fun j l hj hl hij => ht j l hj hl (by omega)) (by omega)
    have eb' : (((b.length + 1 : Nat) : Int) - 1) = (b.length : Int) := by omega
    have := row a b ha hb Q i (by omega) (fun x' D' => by
      rw [w64 (by omega) (by omega)]
      exact ih (by omega) x' D'.len (fun j hj hj' => D'.row j (by omega) hj') (fun j l hj hl hij => D'.told j l hj hl (by omega))) (b.length + 1) (Nat.le_refl _) _ D
    rw [eb'] at this
    exact this
end
end LlessKept

theorem impl_sums_lessKept (a b : List Tn) (ha : a.length ≤ 24) (hb : b.length ≤ 24) : EvP (fun n => impl_leastSums_lessKept.f n a b) (Full commonP a b) := by
  unfold impl_leastSums_lessKept.f
  have ea : wrap64 ((a.length : Int) + 1) = ((a.length + 1 : Nat) : Int) := w64 (by omega) (by omega)
  rw [ea]
  refine EvP.yes (by omega) (EvP.yes (by omega) ?_)
  have := LlessKept.lines a b ha hb (Full commonP a b) (fun _ h => h) (a.length + 1) (Nat.le_refl _) (List.replicate (a.length + 1) []) (by simp) (fun j hj hj' => by omega) (fun j l hj hl hij => by omega)
  rw [show (((a.length + 1 : Nat) : Int) - 1) = (a.length : Int) by omega] at this
  exact this
end Go.Proofs.Ythpeiboobnnfgaa.Pur
