/- Tables of least sums: rows of rows, filled cell by cell. -/
import Derived.Test.YthpeiboobnnfgaaEdPlain
import Derived.Test.YthpeiboobnnfgaaEvP
import Derived.Test.YthpeiboobnnfgaaEx0
namespace Go.Proofs.Ythpeiboobnnfgaa.Pur
open Go.RowKit Go.Proofs.YthpeiboobnnfgaaW.PrintWords Go.Proofs.YthpeiboobnnfgaaW.PrintMore Go.Proofs.Ythpeiboobnnfgaa.E Go.Proofs.Ythpeiboobnnfgaa.Ed

/-- A cell of a table. -/
def T (x : List (List Int)) (i k : Nat) : Int := (x.getD i []).getD k 0
/-- A row's length. -/
def RL (x : List (List Int)) (i : Nat) : Nat := (x.getD i []).length
/-- A table with one cell written. -/
def putT (x : List (List Int)) (i k : Nat) (v : Int) : List (List Int) := x.set i ((x.getD i []).set k v)

theorem rd_T (x : List (List Int)) (i k : Nat) : rd (rd_L4 x (i : Int)) (k : Int) = T x i k := rfl
theorem rd_RL (x : List (List Int)) (i : Nat) : (rd_L4 x (i : Int)).length = RL x i := rfl

theorem getD_set {α : Type} (x : List α) (i j : Nat) (v d : α) : (x.set i v).getD j d = if i = j ∧ i < x.length then v else x.getD j d := by
  simp only [List.getD_eq_getElem?_getD, List.getElem?_set]
  by_cases h : i = j
  · subst h
    by_cases h2 : i < x.length
    · simp [h2]
    · simp [h2]
  · simp [h]

theorem putT_length (x : List (List Int)) (i k : Nat) (v : Int) : (putT x i k v).length = x.length := by simp [putT]
theorem putT_RL (x : List (List Int)) (i k j : Nat) (v : Int) : RL (putT x i k v) j = RL x j := by
  unfold RL putT
  rw [getD_set]
  split
  · rename_i h; rw [h.1]; simp
  · rfl
theorem putT_T (x : List (List Int)) (i k i' k' : Nat) (v : Int) (hi : i < x.length) (hk : k < RL x i) : T (putT x i k v) i' k' = if i = i' ∧ k = k' then v else T x i' k' := by
  unfold T putT
  rw [getD_set]
  by_cases h : i = i'
  · subst h
    rw [if_pos ⟨rfl, hi⟩, getD_set]
    by_cases h2 : k = k'
    · subst h2
      have hk' : k < (x.getD i []).length := hk
      rw [if_pos ⟨rfl, hk'⟩, if_pos ⟨rfl, rfl⟩]
    · rw [if_neg (fun h => h2 h.1), if_neg (fun h => h2 h.2)]
  · rw [if_neg (fun h' => h h'.1), if_neg (fun h' => h h'.1)]
theorem putT_put (x : List (List Int)) (i k : Nat) (u v : Int) : putT (putT x i k u) i k v = putT x i k v := by
  unfold putT
  rw [getD_set]
  by_cases hi : i < x.length
  · rw [if_pos ⟨rfl, hi⟩, List.set_set, List.set_set]
  · rw [List.set_eq_of_length_le (by simp; omega), List.set_eq_of_length_le (by omega), List.set_eq_of_length_le (by omega)]

section
variable {α : Type} (p : Pr α) (a b : List α)
/-- The table is told from the row i, cell k on; what stands ahead in this row is 0. -/
structure Done (x : List (List Int)) (i k : Nat) : Prop where
  len : x.length = a.length + 1
  row : ∀ j, i ≤ j → j ≤ a.length → RL x j = b.length + 1
  told : ∀ j l, j ≤ a.length → l ≤ b.length → (i < j ∨ i = j ∧ k ≤ l) → T x j l = least p (a.drop j) (b.drop l)
  zero : ∀ l, l < k → T x i l = 0
/-- The whole table. -/
structure Full (x : List (List Int)) : Prop where
  len : x.length = a.length + 1
  row : ∀ j, j ≤ a.length → RL x j = b.length + 1
  told : ∀ j l, j ≤ a.length → l ≤ b.length → T x j l = least p (a.drop j) (b.drop l)
variable {p a b}

theorem Done.full {x : List (List Int)} (h : Done p a b x 0 0) : Full p a b x :=
  ⟨h.len, fun j hj => h.row j (Nat.zero_le _) hj, fun j l hj hl => h.told j l hj hl (by omega)⟩

/-- One more cell. -/
theorem Done.put {x : List (List Int)} {i k : Nat} (h : Done p a b x i (k + 1)) (hi : i ≤ a.length) (hk : k ≤ b.length) {v : Int} (hv : v = least p (a.drop i) (b.drop k)) : Done p a b (putT x i k v) i k := by
  have h1 : i < x.length := by rw [h.len]; omega
  have h2 : k < RL x i := by rw [h.row i (Nat.le_refl _) hi]; omega
  refine ⟨by rw [putT_length]; exact h.len, fun j hj hj' => by rw [putT_RL]; exact h.row j hj hj', fun j l hj hl hd => ?_, fun l hl => ?_⟩
  · rw [putT_T x i k j l v h1 h2]
    by_cases e : i = j ∧ k = l
    · rw [if_pos e, hv, e.1, e.2]
    · rw [if_neg e]
      exact h.told j l hj hl (by omega)
  · rw [putT_T x i k i l v h1 h2, if_neg (by omega)]
    exact h.zero l (by omega)

/-- The last cell of all may stay as it was made. -/
theorem Done.stay {x : List (List Int)} (h : Done p a b x a.length (b.length + 1)) : Done p a b x a.length b.length := by
  refine ⟨h.len, h.row, fun j l hj hl hd => ?_, fun l hl => h.zero l (by omega)⟩
  obtain ⟨rfl, rfl⟩ : j = a.length ∧ l = b.length := by omega
  rw [h.zero _ (Nat.lt_succ_self _), List.drop_of_length_le (Nat.le_refl _), List.drop_of_length_le (Nat.le_refl _), least_nn]

/-- A new row, all of it 0. -/
theorem Done.new {x : List (List Int)} {i : Nat} (h : x.length = a.length + 1) (hr : ∀ j, i < j → j ≤ a.length → RL x j = b.length + 1)
    (ht : ∀ j l, j ≤ a.length → l ≤ b.length → i < j → T x j l = least p (a.drop j) (b.drop l)) (hi : i ≤ a.length) : Done p a b (x.set i (List.replicate (b.length + 1) 0)) i (b.length + 1) := by
  refine ⟨by simpa using h, fun j hj hj' => ?_, fun j l hj hl hd => ?_, fun l hl => ?_⟩
  · unfold RL
    rw [getD_set]
    split
    · simp
    · exact hr j (by omega) hj'
  · unfold T
    rw [getD_set, if_neg (by omega)]
    exact ht j l hj hl (by omega)
  · unfold T
    rw [getD_set, if_pos ⟨rfl, by omega⟩]
    simp [List.getD_eq_getElem?_getD, hl]
end
end Go.Proofs.Ythpeiboobnnfgaa.Pur
