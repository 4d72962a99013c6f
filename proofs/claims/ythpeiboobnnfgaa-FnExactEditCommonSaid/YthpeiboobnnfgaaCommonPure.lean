/- What two melodies have in common: the program and the reference tell the same. -/
import Derived.Test.YthpeiboobnnfgaaDpB
import Derived.Test.YthpeiboobnnfgaaCopied
import Derived.Test.YthpeiboobnnfgaaEx24
import Derived.Test.YthpeiboobnnfgaaEx44
import Derived.Test.YthpeiboobnnfgaaEx50
namespace Go.Proofs.Ythpeiboobnnfgaa.Pur
open Go.RowKit Go.Proofs.YthpeiboobnnfgaaW.PrintWords Go.Proofs.YthpeiboobnnfgaaW.PrintMore Go.Proofs.Ythpeiboobnnfgaa.E Go.Proofs.Ythpeiboobnnfgaa.Ed

theorem okM_24 {a : List Tn} (h : okM a = true) : a.length ≤ 24 := by
  unfold okM at h
  rw [Bool.and_eq_true] at h
  exact of_decide_eq_true h.2

theorem full_one {p : Pr Tn} {a b : List Tn} {x : List (List Int)} (F : Full p a b x) : 0 < (x.length : Int) ∧ 0 < ((rd_L4 x 0).length : Int) ∧ rd (rd_L4 x 0) 0 = least p a b := by
  have h1 := F.len
  have h2 : (rd_L4 x 0).length = b.length + 1 := F.row 0 (Nat.zero_le _)
  have h3 := F.told 0 0 (Nat.zero_le _) (Nat.zero_le _)
  exact ⟨by omega, by omega, h3⟩

/-- How many tones two lists have in common. -/
def com (a b : List Tn) : Int := -least commonP a b
theorem com_bd (a b : List Tn) : 0 ≤ com a b ∧ com a b ≤ a.length := by have := common_bd a b; unfold com; omega
theorem com_nil (a : List Tn) : com a [] = 0 := by unfold com; rw [least_nil']; simp [commonP]
theorem nil_com (b : List Tn) : com [] b = 0 := by unfold com; rw [least_nil]; simp [commonP]
theorem com_snoc (x y : Tn) (a b : List Tn) : com (a ++ [x]) (b ++ [y]) = (if eqT x y = true then max (max (com (a ++ [x]) b) (com a (b ++ [y]))) (com a b + 1) else max (com (a ++ [x]) b) (com a (b ++ [y]))) := by
  unfold com
  rw [least_snoc]
  have c1 : commonP.ins = 0 := rfl
  have c2 : commonP.om = 0 := rfl
  have h1 : least commonP a (b ++ [y]) ≤ least commonP a b := by
    have := ((Al.least commonP a b).append (Al.ins y (Al.nil (p := commonP)))).le
    rw [List.append_nil, c1] at this
    omega
  rw [c1, c2]
  by_cases h : eqT x y = true
  · have := (eqT_iff x y).mp h
    rw [if_pos h, this, commonC.same]
    omega
  · rw [if_neg h, commonC.differ x y (fun e => h ((eqT_iff x y).mpr e))]
    omega

/-- A row of the reference's table, told up to a place. -/
structure RowTo (a b : List Tn) (i m : Nat) (xs : List Int) : Prop where
  len : xs.length = b.length + 1
  told : ∀ j, j ≤ m → xs.getD j 0 = com (a.take i) (b.take j)

theorem rd_nat (xs : List Int) (j : Nat) : rd xs (j : Int) = xs.getD j 0 := rfl
theorem take_snoc' {l : List Tn} {i : Nat} (h : i < l.length) : l.take (i + 1) = l.take i ++ [l[i]] := List.take_succ_eq_append_getElem h

section
variable (a b : List Tn) (ha : a.length ≤ 24) (hb : b.length ≤ 24) (Q : Int → Prop)
include ha hb

theorem common_line (i : Nat) (hi : i < a.length) (now : List Int) (R : RowTo a b i b.length now) (next : ∀ xs, RowTo a b (i + 1) b.length xs → EvP (fun n => spec_EditCommon.l0 n a b xs (wrap64 ((i : Int) + 1))) Q) :
    ∀ d k : Nat, k + d = b.length → ∀ xs, RowTo a b (i + 1) k xs → EvP (fun n => spec_EditCommon.l1 n a b now (i : Int) xs (k : Int)) Q := by
  intro d
  induction d with
  | zero =>
    intro k hk xs X
    refine EvP.succ ?_
    simp only [spec_EditCommon.l1]
    refine EvP.no (by omega) (next xs ?_)
    obtain rfl : k = b.length := by omega
    exact X
  | succ d ih =>
    intro k hk xs X
    have hkb : k < b.length := by omega
    have hx := X.len
    have hn := R.len
    have ek : wrap64 ((k : Int) + 1) = ((k + 1 : Nat) : Int) := w64 (by omega) (by omega)
    have t1 := X.told k (Nat.le_refl _)
    have t2 := R.told (k + 1) (by omega)
    have t3 := R.told k (by omega)
    have b3 := com_bd (a.take i) (b.take k)
    rw [List.length_take] at b3
    have ta := take_snoc' hi
    have tb := take_snoc' hkb
    have cs := com_snoc a[i] b[k] (a.take i) (b.take k)
    rw [← ta, ← tb] at cs
    refine EvP.succ ?_
    simp only [spec_EditCommon.l1]
    simp only [ek]
    clear ek
    refine EvP.yes (by omega) (EvP.yes (by omega) (EvP.yes (by omega) (EvP.yes (by omega) (EvP.yes (by omega) (EvP.yes (by omega) ?_)))))
    refine EvP.bind (P := (· = xs.set (k + 1) (max (com (a.take (i + 1)) (b.take k)) (com (a.take i) (b.take (k + 1)))))) (EvP.con rfl ?_) (fun ys e => ?_)
    · rw [rd_nat, rd_nat, t1, t2, mx_max]
      rfl
    · subst e
      refine EvP.yes (by omega) (EvP.yes (by omega) ?_)
      rw [rdT_getElem hi, rdT_getElem hkb]
      have hset : ∀ v : Int, (∀ j, j ≤ k + 1 → (xs.set (k + 1) v).getD j 0 = if j = k + 1 then v else xs.getD j 0) := by
        intro v j hj
        rw [getD_set]
        by_cases h : j = k + 1
        · rw [if_pos ⟨h.symm, by omega⟩, if_pos h]
        · rw [if_neg (fun h' => h h'.1.symm), if_neg h]
      show EvP (fun n => if eqT a[i] b[k] = true then _ else _) _
      refine EvP.ite (fun he => ?_) (fun he => ?_)
      · rw [if_pos he] at cs
        refine EvP.yes (by omega) ?_
        refine ih (k + 1) (by omega) _ ⟨by simpa using hx, fun j hj => ?_⟩
        rw [rd_nat, rd_nat, t3, mx_max, toNat_nat, List.set_set, hset _ j hj, hset _ (k + 1) (Nat.le_refl _), if_pos rfl, w64 (by omega) (by omega)]
        by_cases h : j = k + 1
        · rw [if_pos h, h, cs]
        · rw [if_neg h]; exact X.told j (by omega)
      · rw [if_neg he] at cs
        refine ih (k + 1) (by omega) _ ⟨by simpa using hx, fun j hj => ?_⟩
        rw [hset _ j hj]
        by_cases h : j = k + 1
        · rw [if_pos h, h, cs]
        · rw [if_neg h]; exact X.told j (by omega)

theorem common_lines (hQ : Q (com a b)) : ∀ d i : Nat, i + d = a.length → ∀ now, RowTo a b i b.length now → EvP (fun n => spec_EditCommon.l0 n a b now (i : Int)) Q := by
  intro d
  induction d with
  | zero =>
    intro i hi now R
    have hn := R.len
    have t := R.told b.length (Nat.le_refl _)
    rw [List.take_of_length_le (by omega), List.take_of_length_le (Nat.le_refl _)] at t
    refine EvP.succ ?_
    simp only [spec_EditCommon.l0]
    refine EvP.no (by omega) (EvP.yes (by omega) (EvP.yes (by omega) (EvP.ret ?_)))
    rw [rd_nat, t]
    exact hQ
  | succ d ih =>
    intro i hi now R
    have eb : wrap64 ((b.length : Int) + 1) = ((b.length + 1 : Nat) : Int) := w64 (by omega) (by omega)
    refine EvP.succ ?_
    simp only [spec_EditCommon.l0]
    simp only [eb]
    clear eb
    refine EvP.yes (by omega) (EvP.yes (by omega) (EvP.yes (by omega) ?_))
    refine common_line a b ha hb Q i (by omega) now R (fun xs X => ?_) b.length 0 (by omega) _ ⟨by simp, fun j hj => ?_⟩
    · rw [w64 (by omega) (by omega)]
      exact ih (i + 1) (by omega) xs X
    · obtain rfl : j = 0 := by omega
      rw [List.take_zero, com_nil]
      simp
end

/-- What is common, or -1. -/
def commonOf (a b : List Tn) : Int := if okM a = true ∧ okM b = true then com a b else -1

theorem spec_common (a b : List Tn) (ha : a.length < 9223372036854775807) (hb : b.length < 9223372036854775807) : EvP (fun k => spec_EditCommon.f k a b) (· = commonOf a b) := by
  unfold spec_EditCommon.f commonOf
  have jt : ∀ v : Int, v = -1 → EvP (fun k => spec_EditCommon.j0 k a b true) (· = v) := by
    intro v hv
    refine EvP.succ ?_
    simp only [spec_EditCommon.j0]
    exact EvP.yes (by simp) (EvP.ret hv.symm)
  refine EvP.bind (P := (· = okM a)) (spec_melody a ha) (fun _ e => ?_)
  subst e
  refine EvP.ite (fun h1 => ?_) (fun h1 => jt _ (by rw [if_neg (fun h => h1 h.1)]))
  refine EvP.bind (P := (· = okM b)) (spec_melody b hb) (fun _ e => ?_)
  subst e
  by_cases h2 : okM b = true
  · rw [if_pos ⟨h1, h2⟩, h2]
    have la := okM_24 h1
    have lb := okM_24 h2
    have eb : wrap64 ((b.length : Int) + 1) = ((b.length + 1 : Nat) : Int) := w64 (by omega) (by omega)
    refine EvP.succ ?_
    simp only [spec_EditCommon.j0, Bool.not_true]
    simp only [eb]
    clear eb
    refine EvP.no (by simp) (EvP.yes (by omega) (EvP.yes (by omega) ?_))
    refine common_lines a b la lb (· = com a b) rfl a.length 0 (by omega) _ ⟨by simp, fun j hj => ?_⟩
    rw [List.take_zero, nil_com]
    simp [List.getD_eq_getElem?_getD, List.getElem?_replicate]
    split <;> rfl
  · rw [Bool.eq_false_iff.mpr h2]
    exact jt _ (by rw [if_neg (fun h => Bool.noConfusion h.2)])

theorem impl_common (a b : List Tn) : EvP (fun k => impl_EditCommon.f k a b) (· = commonOf a b) := by
  unfold impl_EditCommon.f commonOf
  refine EvP.bind (P := (· = okM a)) (impl_melody a) (fun _ e => ?_)
  subst e
  refine EvP.ite (fun h1 => ?_) (fun h1 => EvP.ret (by rw [if_neg (fun h => h1 h.1)]))
  refine EvP.bind (P := (· = okM b)) (impl_melody b) (fun _ e => ?_)
  subst e
  refine EvP.ite (fun h2 => ?_) (fun h2 => EvP.ret (by rw [if_neg (fun h => h2 h.2)]))
  rw [if_pos ⟨h1, h2⟩]
  have la := okM_24 h1
  refine EvP.bind (impl_sums_lessKept a b la (okM_24 h2)) (fun x F => ?_)
  obtain ⟨f1, f2, f3⟩ := full_one F
  refine EvP.yes f1 (EvP.yes f2 (EvP.ret ?_))
  have := common_bd a b
  rw [f3, w64 (by omega) (by omega)]
  rfl

theorem exact_common (l0 l1 : List S48) (h0 : (l0.length : Int) ≤ 9223372036854775807) (h1 : (l1.length : Int) ≤ 9223372036854775807) : ∃ k, laws_FnExactEditCommon.f k l0 l1 = some true := by
  refine EvP.rounds (?_ : EvP (fun k => laws_FnExactEditCommon.f k l0 l1) (· = true))
  unfold laws_FnExactEditCommon.f
  rcases sz_ok l0 1048576 h0 (by omega) (by omega) with ⟨g0, e0⟩ | ⟨g0, e0⟩
  · rcases sz_ok l1 (1048576 - l0.length) h1 (by omega) (by omega) with ⟨g1, e1⟩ | ⟨g1, e1⟩
    · have n0 : l0.length ≤ 1048576 := by omega
      have n1 : l1.length ≤ 1048576 := by omega
      refine EvP.bind (P := (· = 1048576 - (l0.length : Int))) (EvP.con e0 rfl) (fun _ e => ?_)
      subst e
      refine EvP.no (by omega) ?_
      refine EvP.bind (P := (· = 1048576 - (l0.length : Int) - l1.length)) (EvP.con e1 rfl) (fun _ e => ?_)
      subst e
      refine EvP.no (by omega) ?_
      refine EvP.bind (conv_ok l0 n0) (fun _ e => ?_)
      subst e
      refine EvP.bind (conv_ok l1 n1) (fun _ e => ?_)
      subst e
      refine EvP.bind (spec_common _ _ (by simp; omega) (by simp; omega)) (fun _ e => ?_)
      subst e
      refine EvP.bind (conv_ok l0 n0) (fun _ e => ?_)
      subst e
      refine EvP.bind (conv_ok l1 n1) (fun _ e => ?_)
      subst e
      refine EvP.bind (impl_common _ _) (fun _ e => ?_)
      subst e
      refine EvP.yes rfl ?_
      refine EvP.bind (conv_ok l0 n0) (fun _ e => ?_)
      subst e
      refine EvP.bind (eq_ok _ (by simpa using n0)) (fun _ e => ?_)
      subst e
      refine EvP.yes rfl ?_
      refine EvP.bind (conv_ok l1 n1) (fun _ e => ?_)
      subst e
      refine EvP.bind (eq_ok _ (by simpa using n1)) (fun _ e => ?_)
      subst e
      exact EvP.yes rfl (EvP.ret rfl)
    · refine EvP.bind (P := (· = 1048576 - (l0.length : Int))) (EvP.con e0 rfl) (fun _ e => ?_)
      subst e
      refine EvP.no (by omega) ?_
      refine EvP.bind (P := (· = (-1 : Int))) (EvP.con e1 rfl) (fun _ e => ?_)
      subst e
      exact EvP.yes (by omega) (EvP.ret rfl)
  · refine EvP.bind (P := (· = (-1 : Int))) (EvP.con e0 rfl) (fun _ e => ?_)
    subst e
    exact EvP.yes (by omega) (EvP.ret rfl)
end Go.Proofs.Ythpeiboobnnfgaa.Pur
