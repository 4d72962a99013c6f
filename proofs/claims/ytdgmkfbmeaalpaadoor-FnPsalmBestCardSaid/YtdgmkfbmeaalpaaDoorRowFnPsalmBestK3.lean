/- Proved: for all arguments the given program's laws.FnPsalmBest returns true, and its arguments read afterwards as they read before (the given constant Rows.FnPsalmBestCardSaid).
Conditions: none ahead of the given statement; the statement itself begins in a world whose listed package-level variables hold what the program's text lays there, and its card ties them to that text. -/
import Derived.Test.YtdgmkfbmeaalpaaDoorRowFnPsalmBestK2
section
namespace Go.Proofs.YtdgmkfbmeaalpaaDoor.Pur
open Go.RowKit Go.Proofs.YtdgmkfbmeaalpaaDoorW.PrintWords Go.Proofs.YtdgmkfbmeaalpaaDoor.E
def isA (v : ByteArray) (z : Nat) : Nat := if v.data.toList[z]? = some 47 then 1 else 0
theorem bt_is {t : ByteArray} {i : Nat} (h : i < t.size) : bt t (i : Int) = 47 ↔ t.data.toList[i]? = some 47 := by
  have hl : i < t.data.toList.length := by rw [list_len]; exact h
  rw [bt_at t i h, List.getElem?_eq_getElem hl]
  constructor
  · intro e
    congr 1
    exact UInt8.toNat_inj.mp (by rw [show (47 : UInt8).toNat = 47 from rfl]; omega)
  · intro e
    rw [Option.some.inj e]
    rfl
theorem isA_yes {t : ByteArray} {i : Nat} (h : i < t.size) (g : bt t (i : Int) = 47) : isA t i = 1 := if_pos ((bt_is h).mp g)
theorem isA_no {t : ByteArray} {i : Nat} (h : i < t.size) (g : ¬ bt t (i : Int) = 47) : isA t i = 0 := if_neg (fun e => g ((bt_is h).mpr e))
theorem sumN_first (f : Nat → Nat) (d : Nat) : sumN f (d + 1) = f 0 + sumN (fun j => f (j + 1)) d := by
  rw [Nat.add_comm d 1, sumN_add]
  simp only [sumN, Nat.zero_add]
  congr 1
  exact sumN_congr d (fun i _ => by rw [Nat.add_comm])
theorem sumN_from (f : Nat → Nat) (i d : Nat) : sumN (fun j => f (i + j)) (d + 1) = f i + sumN (fun j => f (i + 1 + j)) d := by
  rw [sumN_first]
  congr 1
  exact sumN_congr d (fun j _ => by congr 1; omega)
theorem sumN_split (f : Nat → Nat) {n k : Nat} (h : k ≤ n) : sumN f n = sumN f (n - k) + sumN (fun j => f (n - k + j)) k := by
  have := sumN_add f (n - k) k
  rw [Nat.sub_add_cancel h] at this
  exact this
def accN (u v : ByteArray) (m e : Nat) : Nat := sumN (fun j => isA u (u.size - m + j)) m + sumN (fun j => isA v (v.size - e + j)) e
def accR (pm pe : TL) : Option (ByteArray × ByteArray) → Int
  | some q => (accN q.1 q.2 pm.length pe.length : Int)
  | none => -1
def accFrom : List UInt8 → Nat → List Int
  | [], _ => []
  | b :: l, i => if b = 47 then (i : Int) :: accFrom l (i + 1) else accFrom l (i + 1)
theorem acc_loop (t : ByteArray) (ht : t.size ≤ 1000) : ∀ (d i : Nat) (xs : List Int), i + d = t.size → xs.length ≤ i → EvP (fun k => impl_VerseAccents.l0 k xs t (t.size : Int) (i : Int)) (· = xs ++ accFrom (t.data.toList.drop i) i) := by
  intro d
  induction d with
  | zero =>
    intro i xs hi hx
    refine EvP.succ ?_
    simp only [impl_VerseAccents.l0]
    refine EvP.no (by omega) (EvP.ret ?_)
    rw [List.drop_of_length_le (by rw [list_len]; omega)]
    simp [accFrom]
  | succ d ih =>
    intro i xs hi hx
    have hlt : i < t.size := by omega
    have hl : i < t.data.toList.length := by rw [list_len]; exact hlt
    refine EvP.succ ?_
    simp only [impl_VerseAccents.l0]
    refine EvP.yes (by omega) (EvP.yes (by omega) (EvP.yes (by omega) ?_))
    rw [w64 (by omega) (by omega), show (i : Int) + 1 = ((i + 1 : Nat) : Int) by omega, List.drop_eq_getElem_cons hl, accFrom]
    have hb := bt_is hlt
    rw [List.getElem?_eq_getElem hl, Option.some.injEq] at hb
    refine EvP.ite (fun h => EvP.yes (by omega) ?_) (fun h => ?_)
    · rw [if_pos (hb.mp h)]
      refine (ih (i + 1) (xs ++ [(i : Int)]) (by omega) (by simp; omega)).mono ?_
      intro r e
      rw [e, List.append_assoc]
      rfl
    · rw [if_neg (fun e => h (hb.mpr e))]
      exact ih (i + 1) xs (by omega) (by omega)
def accL : Option (ByteArray × ByteArray) → List Int
  | some q => accFrom (q.1 ++ q.2).data.toList 0
  | none => []
theorem impl_accents_list (s : ByteArray) (hs : s.size ≤ 100000000) : EvP (fun k => impl_VerseAccents.f k s) (· = accL (verse s)) := by
  simp only [impl_VerseAccents.f]
  refine EvP.bind (EvP.con rfl (P := (· = ([] : List Int))) rfl) (fun _ e => ?_)
  subst e
  refine EvP.bind (EvP.con (impl_halves s hs) (P := (· = halvesOf s)) rfl) (fun _ e => ?_)
  subst e
  rcases hv : verse s with _ | ⟨u, v⟩
  · have hh : halvesOf s = (⟨#[]⟩, ⟨#[]⟩, false) := by unfold halvesOf; rw [hv]
    rw [hh]
    exact EvP.ret rfl
  · have hh : halvesOf s = (u, v, true) := by unfold halvesOf; rw [hv]
    have hl := (verse_some hv).1
    rw [hh]
    refine EvP.yes rfl (EvP.yes (by simp only []; omega) ?_)
    refine (acc_loop (u ++ v) (by rw [ByteArray.size_append]; omega) _ 0 [] (by rw [Nat.zero_add]) (Nat.zero_le _)).mono ?_
    intro r e
    rw [e]
    rfl
theorem accFrom_count (p : Int → Bool) : ∀ (l : List UInt8) (i : Nat), (accFrom l i).countP p = sumN (fun j => if l[j]? = some 47 ∧ p ((i + j : Nat) : Int) = true then 1 else 0) l.length
  | [], _ => rfl
  | b :: l, i => by
    rw [List.length_cons, sumN_first, accFrom]
    have ih := accFrom_count p l (i + 1)
    have ht : sumN (fun j => if (b :: l)[j + 1]? = some 47 ∧ p ((i + (j + 1) : Nat) : Int) = true then 1 else 0) l.length = (accFrom l (i + 1)).countP p := by
      rw [ih]
      exact sumN_congr _ (fun j _ => by rw [List.getElem?_cons_succ, show i + (j + 1) = i + 1 + j by omega])
    rw [ht]
    simp only [List.getElem?_cons_zero, Option.some.injEq, Nat.add_zero]
    by_cases h : b = 47
    · rw [if_pos h, List.countP_cons]
      by_cases g : p (i : Int) = true
      · rw [if_pos g, if_pos ⟨h, g⟩]
        omega
      · rw [if_neg g, if_neg (fun e => g e.2)]
        omega
    · rw [if_neg h, if_neg (fun e => h e.1)]
      omega
theorem accFrom_len (l : List UInt8) (i : Nat) : (accFrom l i).length = sumN (fun j => if l[j]? = some 47 then 1 else 0) l.length := by
  rw [← List.countP_true, accFrom_count]
  exact sumN_congr _ (fun j _ => by simp)
theorem accFrom_in : ∀ (l : List UInt8) (i : Nat), ∀ z ∈ accFrom l i, ∃ j : Nat, z = (j : Int) ∧ i ≤ j ∧ j < i + l.length
  | [], _, z, h => by cases h
  | b :: l, i, z, h => by
    rw [accFrom] at h
    have hr : z ∈ accFrom l (i + 1) → ∃ j : Nat, z = (j : Int) ∧ i ≤ j ∧ j < i + (b :: l).length := by
      intro h
      obtain ⟨j, e, h1, h2⟩ := accFrom_in l (i + 1) z h
      exact ⟨j, e, by omega, by rw [List.length_cons]; omega⟩
    split at h
    · rcases List.mem_cons.mp h with e | h
      · exact ⟨i, e, Nat.le_refl _, by rw [List.length_cons]; omega⟩
      · exact hr h
    · exact hr h
theorem acc_sum (L : List S86) (xs : List Int) (hx : xs.length ≤ 1000) (hi : ∀ z ∈ xs, ∃ j : Nat, z = (j : Int) ∧ j < L.length) : ∀ (d i n : Nat), i + d = xs.length → n ≤ i → EvP (fun k => impl_PsalmAccents.l0 k L (n : Int) xs (xs.length : Int) (i : Int)) (· = ((n + (xs.drop i).countP (fun z => ((rd_T86 L z).f1 == 2 || (rd_T86 L z).f1 == 3)) : Nat) : Int)) := by
  intro d
  induction d with
  | zero =>
    intro i n hi' hn
    refine EvP.succ ?_
    simp only [impl_PsalmAccents.l0]
    refine EvP.no (by omega) (EvP.ret ?_)
    rw [List.drop_of_length_le (by omega)]
    simp
  | succ d ih =>
    intro i n hi' hn
    have hlt : i < xs.length := by omega
    refine EvP.succ ?_
    simp only [impl_PsalmAccents.l0]
    have hr : rd xs (i : Int) = xs[i] := by
      unfold rd
      rw [toNat_nat, List.getD_eq_getElem?_getD, List.getElem?_eq_getElem hlt]
      rfl
    obtain ⟨j, ej, hj⟩ := hi xs[i] (List.getElem_mem hlt)
    rw [hr, List.drop_eq_getElem_cons hlt, List.countP_cons]
    refine EvP.yes (by omega) (EvP.yes (by omega) (EvP.yes (by omega) (EvP.yes (by omega) (EvP.yes (by omega) ?_))))
    rw [w64 (i := (i : Int) + 1) (by omega) (by omega), show (i : Int) + 1 = ((i + 1 : Nat) : Int) by omega, w64 (by omega) (by omega), show (n : Int) + 1 = ((n + 1 : Nat) : Int) by omega]
    refine EvP.ite (fun h => ?_) (fun h => EvP.ite (fun g => ?_) (fun g => ?_))
    · refine (ih (i + 1) (n + 1) (by omega) (by omega)).mono ?_
      intro r e
      rw [e, h]
      simp
      omega
    · refine (ih (i + 1) (n + 1) (by omega) (by omega)).mono ?_
      intro r e
      rw [e, g]
      simp
      omega
    · refine (ih (i + 1) n (by omega) (by omega)).mono ?_
      intro r e
      rw [e, if_neg (by simp [h, g])]
      rfl
theorem sung_ends {ps pm pe : TL} {t : S25} {m n : Nat} (h1 : ps.length + pm.length ≤ m) (h2 : pe.length ≤ n) {z : Nat} (hz : z < m + n) : ((rd_T86 (sungOf ps t pm pe m n) (z : Int)).f1 == 2 || (rd_T86 (sungOf ps t pm pe m n) (z : Int)).f1 == 3) = decide ((m - pm.length ≤ z ∧ z < m) ∨ m + n - pe.length ≤ z) := by
  have hlen := sung_len (t := t) h1 h2
  have hr : ∀ y, (sungOf ps t pm pe m n)[z]? = some y → rd_T86 (sungOf ps t pm pe m n) (z : Int) = y := by
    intro y hy
    unfold rd_T86
    rw [toNat_nat, List.getD_eq_getElem?_getD, hy]
    rfl
  by_cases c1 : z < ps.length
  · rw [hr _ (sung_A c1), decide_eq_false (by omega)]
    rfl
  · by_cases c2 : m + n - pe.length ≤ z
    · rw [hr _ (sung_C h1 h2 (m := z - (m + n - pe.length)) (by omega) (by omega)), decide_eq_true (.inr c2)]
      rfl
    · by_cases c3 : m - pm.length ≤ z ∧ z < m
      · rw [hr _ (sung_B h1 (m := z - (m - pm.length)) (by omega) (by omega)), decide_eq_true (.inl c3)]
        rfl
      · rw [hr _ (sung_D h1 h2 (by omega) (by omega) (by omega)), decide_eq_false (by omega)]
        rfl
theorem both_at (u v : ByteArray) (i : Nat) (h : i < u.size) : (u ++ v).data.toList[i]? = u.data.toList[i]? := by
  rw [ByteArray.data_append, Array.toList_append, List.getElem?_append_left (by rw [list_len]; exact h)]
theorem both_at2 (u v : ByteArray) (i : Nat) : (u ++ v).data.toList[u.size + i]? = v.data.toList[i]? := by
  rw [ByteArray.data_append, Array.toList_append, List.getElem?_append_right (by rw [list_len]; omega), list_len, Nat.add_sub_cancel_left]
theorem acc_count {ps pm pe : TL} {t : S25} {u v : ByteArray} (h1 : ps.length + pm.length ≤ u.size) (h2 : pe.length ≤ v.size) : (accFrom (u ++ v).data.toList 0).countP (fun z => ((rd_T86 (sungOf ps t pm pe u.size v.size) z).f1 == 2 || (rd_T86 (sungOf ps t pm pe u.size v.size) z).f1 == 3)) = accN u v pm.length pe.length := by
  rw [accFrom_count, list_len, ByteArray.size_append, sumN_add]
  unfold accN
  congr 1
  · rw [sumN_split _ (show pm.length ≤ u.size by omega), sumN_zero, Nat.zero_add]
    · refine sumN_congr _ (fun j hj => ?_)
      have hlt : u.size - pm.length + j < u.size := by omega
      rw [Nat.zero_add, sung_ends h1 h2 (by omega), decide_eq_true (.inl ⟨by omega, hlt⟩), both_at u v _ hlt]
      unfold isA
      simp
    · intro j hj
      rw [Nat.zero_add, sung_ends h1 h2 (by omega), decide_eq_false (by omega)]
      simp
  · rw [sumN_split _ h2, sumN_zero, Nat.zero_add]
    · refine sumN_congr _ (fun j hj => ?_)
      rw [Nat.zero_add, sung_ends h1 h2 (by omega), decide_eq_true (.inr (by omega)), both_at2]
      unfold isA
      simp
    · intro j hj
      rw [Nat.zero_add, sung_ends h1 h2 (by omega), decide_eq_false (by omega)]
      simp
theorem impl_accents (ps : TL) (x : Int) (b : Bool) (pm pe : TL) (s : ByteArray) (hs : s.size ≤ 100000000) : EvP (fun k => impl_PsalmAccents.f k ps x b pm pe s) (· = accR pm pe (fitP ps x b pm pe s)) := by
  simp only [impl_PsalmAccents.f]
  refine EvP.bind (impl_sung ps x b pm pe s hs) (fun _ e => ?_)
  subst e
  rcases hf : fitP ps x b pm pe s with _ | ⟨u, v⟩
  · exact EvP.ret rfl
  · refine EvP.yes rfl ?_
    obtain ⟨h, hv, h1, h2⟩ := fit_some hf
    have hl := (verse_some hv).1
    have hlen := sung_len (t := ⟨x, b⟩) h1 h2
    refine EvP.bind (impl_accents_list s hs) (fun _ e => ?_)
    subst e
    rw [hv]
    have hln : (accFrom (u ++ v).data.toList 0).length ≤ u.size + v.size := by
      rw [accFrom_len, list_len, ByteArray.size_append]
      exact sumN_le _ (fun i _ => by split <;> omega)
    refine (acc_sum (sungOf ps ⟨x, b⟩ pm pe u.size v.size) (accFrom (u ++ v).data.toList 0) (by omega) ?_ _ 0 0 (by rw [Nat.zero_add]) (Nat.le_refl _)).mono ?_
    · intro z hz
      obtain ⟨j, e, _, hj⟩ := accFrom_in _ _ z hz
      rw [list_len, ByteArray.size_append] at hj
      exact ⟨j, e, by omega⟩
    · intro r e
      rw [e, List.drop_zero, acc_count h1 h2, Nat.zero_add]
      rfl
theorem spec_acc1 (v : ByteArray) (hv : v.size ≤ 1000) : ∀ (d i n : Nat), i + d = v.size → n ≤ 1000 + i → EvP (fun k => spec_PsalmAccents.l1 k v (n : Int) (i : Int)) (· = ((n + sumN (fun j => isA v (i + j)) d : Nat) : Int)) := by
  intro d
  induction d with
  | zero =>
    intro i n hi hn
    refine EvP.succ ?_
    simp only [spec_PsalmAccents.l1]
    refine EvP.no (by omega) (EvP.ret ?_)
    rfl
  | succ d ih =>
    intro i n hi hn
    have hlt : i < v.size := by omega
    refine EvP.succ ?_
    simp only [spec_PsalmAccents.l1]
    refine EvP.yes (by omega) (EvP.yes (by omega) ?_)
    rw [w64 (i := (i : Int) + 1) (by omega) (by omega), show (i : Int) + 1 = ((i + 1 : Nat) : Int) by omega, w64 (by omega) (by omega), show (n : Int) + 1 = ((n + 1 : Nat) : Int) by omega, sumN_from]
    refine EvP.ite (fun h => ?_) (fun h => ?_)
    · refine (ih (i + 1) (n + 1) (by omega) (by omega)).mono ?_
      intro r e
      rw [e, isA_yes hlt h]
      omega
    · refine (ih (i + 1) n (by omega) (by omega)).mono ?_
      intro r e
      rw [e, isA_no hlt h, Nat.zero_add]
theorem spec_acc0 (u v : ByteArray) (hu : u.size ≤ 1000) (hv : v.size ≤ 1000) (ps : TL) (x : Int) (b : Bool) (pm pe : TL) (he : pe.length ≤ v.size) : ∀ (d i n : Nat), i + d = u.size → n ≤ i → EvP (fun k => spec_PsalmAccents.l0 k u v (n : Int) (i : Int) ps x b pm pe) (· = ((n + sumN (fun j => isA u (i + j)) d + sumN (fun j => isA v (v.size - pe.length + j)) pe.length : Nat) : Int)) := by
  intro d
  induction d with
  | zero =>
    intro i n hi hn
    refine EvP.succ ?_
    simp only [spec_PsalmAccents.l0]
    refine EvP.no (by omega) ?_
    rw [w64 (by omega) (by omega), show (v.size : Int) - (pe.length : Int) = ((v.size - pe.length : Nat) : Int) by omega]
    exact spec_acc1 v hv pe.length (v.size - pe.length) n (by omega) (by omega)
  | succ d ih =>
    intro i n hi hn
    have hlt : i < u.size := by omega
    refine EvP.succ ?_
    simp only [spec_PsalmAccents.l0]
    refine EvP.yes (by omega) (EvP.yes (by omega) ?_)
    rw [w64 (i := (i : Int) + 1) (by omega) (by omega), show (i : Int) + 1 = ((i + 1 : Nat) : Int) by omega, w64 (by omega) (by omega), show (n : Int) + 1 = ((n + 1 : Nat) : Int) by omega, sumN_from]
    refine EvP.ite (fun h => ?_) (fun h => ?_)
    · refine (ih (i + 1) (n + 1) (by omega) (by omega)).mono ?_
      intro r e
      rw [e, isA_yes hlt h]
      omega
    · refine (ih (i + 1) n (by omega) (by omega)).mono ?_
      intro r e
      rw [e, isA_no hlt h, Nat.zero_add]
theorem spec_accents (ps : TL) (x : Int) (b : Bool) (pm pe : TL) (s : ByteArray) (hs : s.size ≤ 100000000) (h1 : ps.length < 9223372036854775807) (hm : pm.length < 9223372036854775807) (he : pe.length < 9223372036854775807) : EvP (fun k => spec_PsalmAccents.f k ps x b pm pe s) (· = accR pm pe (fitP ps x b pm pe s)) := by
  simp only [spec_PsalmAccents.f]
  refine EvP.bind (spec_fits ps x b pm pe s hs h1 hm he) (fun _ e => ?_)
  subst e
  rcases hf : fitP ps x b pm pe s with _ | ⟨u, v⟩
  · exact EvP.ret rfl
  · refine EvP.yes rfl ?_
    obtain ⟨h, hv, g1, g2⟩ := fit_some hf
    have hl := (verse_some hv).1
    refine EvP.bind (spec_halves s hs) (fun _ e => ?_)
    subst e
    rw [hv_of hv]
    simp only []
    rw [w64 (by omega) (by omega), show (u.size : Int) - (pm.length : Int) = ((u.size - pm.length : Nat) : Int) by omega]
    refine (spec_acc0 u v (by omega) (by omega) ps x b pm pe g2 pm.length (u.size - pm.length) 0 (by omega) (by omega)).mono ?_
    intro r e
    rw [e, Nat.zero_add]
    rfl
end Go.Proofs.YtdgmkfbmeaalpaaDoor.Pur
end
section
namespace Go.Proofs.YtdgmkfbmeaalpaaDoor.Pur
open Go.RowKit Go.Proofs.YtdgmkfbmeaalpaaDoorW.PrintWords Go.Proofs.YtdgmkfbmeaalpaaDoorW.PrintMore Go.Proofs.YtdgmkfbmeaalpaaDoor.E
def okB (B : List Int) : Prop := B.length ≤ 2000 ∧ ∀ x ∈ B, 0 ≤ x ∧ x ≤ 255
theorem byte_range {x : Int} (h : (Lit.int .u8 x).wf = true) : 0 ≤ x ∧ x ≤ 255 := by
  simp [Lit.wf, IntKind.min, IntKind.max, IntKind.signed, IntKind.bits] at h
  omega
theorem okB_rd {B : List Int} (h : okB B) (i : Int) : 0 ≤ rd B i ∧ rd B i ≤ 255 := by
  unfold rd
  rw [List.getD_eq_getElem?_getD]
  cases e : B[i.toNat]? with
  | none => simp
  | some v => simpa using h.2 v (List.mem_of_getElem? e)
theorem open_code (l : List Int) (h : ∀ x ∈ l, (Lit.int .u8 x).wf = true) : EvP (fun _ => spec_l6Open.f l) (fun r => okB r.1 ∧ r.2 = 0) := by
  unfold spec_l6Open.f
  refine EvP.ite (fun h1 => EvP.yes (by omega) (EvP.ret ⟨⟨by simp; omega, fun x hx => byte_range (h x (List.mem_of_mem_take hx))⟩, rfl⟩)) (fun h1 => EvP.ret ⟨⟨by dsimp only; omega, fun x hx => byte_range (h x hx)⟩, rfl⟩)
theorem xor_nn {x y : Int} (hx : 0 ≤ x) (hx' : x < 4611686018427387904) (hy : 0 ≤ y) (hy' : y < 4611686018427387904) : 0 ≤ Go.bits .xor .i64 x y := by
  obtain ⟨a, rfl⟩ := Int.eq_ofNat_of_zero_le hx
  obtain ⟨b, rfl⟩ := Int.eq_ofNat_of_zero_le hy
  have ha : a < 2 ^ 62 := by omega
  have hb : b < 2 ^ 62 := by omega
  have hx : a ^^^ b < 2 ^ 62 := Nat.xor_lt_two_pow ha hb
  have ea : a % 2 ^ IntKind.i64.bits = a := Nat.mod_eq_of_lt (by simp [IntKind.bits]; omega)
  have eb : b % 2 ^ IntKind.i64.bits = b := Nat.mod_eq_of_lt (by simp [IntKind.bits]; omega)
  simp only [Go.bits, BitVec.ofInt_natCast, BitVec.toNat_xor, BitVec.toNat_ofNat, ea, eb]
  rw [IntKind.wrap_i64]
  omega
theorem mix_ok (E n : Int) (h0 : 0 ≤ E) (h1 : E < 4611686018427387904) (hn : 1 ≤ n) :
    0 ≤ Int.tmod (Go.bits .xor .i64 E (wrap64 (Int.tdiv E 64))) n ∧ Int.tmod (Go.bits .xor .i64 E (wrap64 (Int.tdiv E 64))) n < n := by
  have hd : Int.tdiv E 64 = E / 64 := tdiv_pos 64 h0
  have h2 := xor_nn h0 h1 (y := wrap64 (Int.tdiv E 64)) (by rw [hd, w64 (by omega) (by omega)]; omega) (by rw [hd, w64 (by omega) (by omega)]; omega)
  exact ⟨Int.tmod_nonneg n h2, Int.tmod_lt_of_pos _ (by omega)⟩
theorem mixE (r1 r2 p q : Int) (a1 : 0 ≤ r1 ∧ r1 ≤ 255) (a2 : 0 ≤ r2 ∧ r2 ≤ 255) (hp : 0 ≤ p ∧ p ≤ 1000000000) (hq : 0 ≤ q ∧ q ≤ 1000000000) :
    (wrap64 ((wrap64 ((wrap64 ((wrap64 ((wrap64 r1) * 131)) + (wrap64 ((wrap64 r2) * 1117)))) + (wrap64 (p * 29)))) + (wrap64 ((wrap64 q) * 53)))) = r1 * 131 + r2 * 1117 + p * 29 + q * 53 := by
  rw [w64 (i := r1) (by omega) (by omega), w64 (i := r2) (by omega) (by omega), w64 (i := q) (by omega) (by omega), w64 (i := r1 * 131) (by omega) (by omega), w64 (i := r2 * 1117) (by omega) (by omega), w64 (i := p * 29) (by omega) (by omega),
    w64 (i := q * 53) (by omega) (by omega), w64 (i := r1 * 131 + r2 * 1117) (by omega) (by omega), w64 (i := r1 * 131 + r2 * 1117 + p * 29) (by omega) (by omega), w64 (by omega) (by omega)]
theorem pick_ok {B : List Int} (hB : okB B) (p n : Int) (hp : 0 ≤ p ∧ p ≤ 100000000) (hn : 1 ≤ n ∧ n ≤ 1000000) : EvP (fun k => spec_l6Rd_pick.f k B p n) (fun r => 0 ≤ r.1 ∧ r.1 < n ∧ r.2 = p + 1) := by
  unfold spec_l6Rd_pick.f
  have e1 : wrap64 (p + 1) = p + 1 := w64 (by omega) (by omega)
  have e2 : wrap64 (p + 1 - 1) = p := by rw [w64 (by omega) (by omega)]; omega
  have hl := hB.1
  rw [e1]
  refine EvP.no (by omega) ?_
  refine EvP.succ ?_
  simp only [spec_l6Rd_pick.j0, e2]
  clear e1 e2
  refine EvP.ite (fun h0 => EvP.ret ⟨by omega, by dsimp only; omega, rfl⟩) (fun h0 => ?_)
  have hpos : 0 < (B.length : Int) := by
    rw [beq_iff_eq] at h0
    omega
  refine EvP.ite (fun h1 => ?_) (fun h1 => ?_)
  · have hr := okB_rd hB p
    refine EvP.yes (by omega) (EvP.no (by omega) (EvP.ret ⟨?_, ?_, rfl⟩))
    · rw [w64 (by omega) (by omega)]; exact Int.tmod_nonneg n hr.1
    · exact Int.tmod_lt_of_pos _ (by omega)
  · refine EvP.no (by omega) ?_
    have m1 : Int.tmod p (B.length : Int) = p % (B.length : Int) := tmod_pos _ hp.1
    have hm1 : 0 ≤ Int.tmod p (B.length : Int) ∧ Int.tmod p (B.length : Int) < (B.length : Int) := by rw [m1]; exact ⟨Int.emod_nonneg _ (by omega), Int.emod_lt_of_pos _ hpos⟩
    have e3 : wrap64 ((wrap64 (p * 7)) + 3) = p * 7 + 3 := by rw [w64 (i := p * 7) (by omega) (by omega), w64 (by omega) (by omega)]
    rw [e3]
    clear e3
    have hm2 : 0 ≤ Int.tmod (p * 7 + 3) (B.length : Int) ∧ Int.tmod (p * 7 + 3) (B.length : Int) < (B.length : Int) := by rw [tmod_pos _ (by omega)]; exact ⟨Int.emod_nonneg _ (by omega), Int.emod_lt_of_pos _ hpos⟩
    have hq : 0 ≤ Int.tdiv p (B.length : Int) ∧ Int.tdiv p (B.length : Int) ≤ 1000000000 := by
      rw [tdiv_pos _ hp.1]
      have := Int.ediv_le_self (B.length : Int) hp.1
      exact ⟨Int.ediv_nonneg hp.1 (by omega), by omega⟩
    have a1 := okB_rd hB (Int.tmod p (B.length : Int))
    have a2 := okB_rd hB (Int.tmod (p * 7 + 3) (B.length : Int))
    refine EvP.yes hm1.1 (EvP.yes hm1.2 (EvP.yes hm2.1 (EvP.yes hm2.2 (EvP.no (by omega) ?_))))
    rw [mixE _ _ p _ a1 a2 (by omega) hq]
    have := mix_ok (rd B (Int.tmod p (B.length : Int)) * 131 + rd B (Int.tmod (p * 7 + 3) (B.length : Int)) * 1117 + p * 29 + Int.tdiv p (B.length : Int) * 53) n (by omega) (by omega) hn.1
    exact EvP.ret ⟨this.1, this.2, rfl⟩
end Go.Proofs.YtdgmkfbmeaalpaaDoor.Pur
end
section
namespace Go.Proofs.YtdgmkfbmeaalpaaDoor.Pur
open Go.RowKit Go.Proofs.YtdgmkfbmeaalpaaDoorW.PrintWords Go.Proofs.YtdgmkfbmeaalpaaDoorW.PrintMore Go.Proofs.YtdgmkfbmeaalpaaDoor.E
theorem of_ok {B : List Int} (hB : okB B) (p : Int) (hp : 0 ≤ p ∧ p ≤ 1000000) (l : List ByteArray) (hl : 1 ≤ l.length ∧ l.length ≤ 1000) : EvP (fun k => spec_l6Rd_of.f k B p l) (fun r => (∃ i : Nat, i < l.length ∧ r.1 = l.getD i ByteArray.empty) ∧ r.2 = p + 1) := by
  unfold spec_l6Rd_of.f
  refine EvP.bind (pick_ok hB p (l.length : Int) (by omega) (by omega)) (fun r hr => ?_)
  exact EvP.yes hr.1 (EvP.yes hr.2.1 (EvP.ret ⟨⟨r.1.toNat, by omega, rfl⟩, hr.2.2⟩))
theorem of_size {B : List Int} (hB : okB B) (p : Int) (hp : 0 ≤ p ∧ p ≤ 1000000) (l : List ByteArray) (hl : 1 ≤ l.length ∧ l.length ≤ 1000) (n : Nat) (h : ∀ t ∈ l, t.size ≤ n) : EvP (fun k => spec_l6Rd_of.f k B p l) (fun r => r.1.size ≤ n ∧ r.1 ∈ l ∧ r.2 = p + 1) := by
  refine (of_ok hB p hp l hl).mono (fun r hr => ?_)
  obtain ⟨⟨i, hi, e⟩, e2⟩ := hr
  have hm : r.1 ∈ l := by
    rw [e, List.getD_eq_getElem?_getD, List.getElem?_eq_getElem hi]
    exact List.getElem_mem hi
  exact ⟨h _ hm, hm, e2⟩
end Go.Proofs.YtdgmkfbmeaalpaaDoor.Pur
end
section
namespace Go.Proofs.YtdgmkfbmeaalpaaDoor.E
open Go.RowKit Go.Proofs.YtdgmkfbmeaalpaaDoorW.PrintWords Go.Proofs.YtdgmkfbmeaalpaaDoorW.PrintLast Go.Proofs.YtdgmkfbmeaalpaaDoorW.PrintMore
attribute [local go_sem] max2_int min2_int max_two min_two max_three min_three max_four min_four
set_option linter.unusedVariables false
set_option linter.unusedSimpArgs false
attribute [local go_sem] str_leq_ str_gtr_ str_geq_
def spec_l91Sing.f (k : Nat) (s0_0 : List Int) (s0_1 : Int) : Option ((List (S25)) × Int × Bool × (List (S25)) × (List (S25)) × ByteArray × Int) := (spec_l91Psalm.f k s0_0 s0_1).bind fun bt172 => ((spec_l91Verse.f k s0_0 bt172.2.2.2.2.2).bind fun bt185 => (some (bt172.1, bt172.2.1, bt172.2.2.1, bt172.2.2.2.1, bt172.2.2.2.2.1, bt185.1, bt185.2)))
end Go.Proofs.YtdgmkfbmeaalpaaDoor.E
end
section
namespace Go.Proofs.YtdgmkfbmeaalpaaDoor.E
open Go.RowKit Go.Proofs.YtdgmkfbmeaalpaaDoorW.PrintWords Go.Proofs.YtdgmkfbmeaalpaaDoorW.PrintLast Go.Proofs.YtdgmkfbmeaalpaaDoorW.PrintMore
attribute [local go_sem] max2_int min2_int max_two min_two max_three min_three max_four min_four
set_option linter.unusedVariables false
set_option linter.unusedSimpArgs false
attribute [local go_sem] str_leq_ str_gtr_ str_geq_
def spec_DrawPsalmAccents.f (k : Nat) (l0 : List Int) : Option ((List (S25)) × Int × Bool × (List (S25)) × (List (S25)) × ByteArray) := (spec_l6Open.f l0).bind fun bt400 => ((spec_l91Sing.f k bt400.1 bt400.2).bind fun bt403 => (some (bt403.1, bt403.2.1, bt403.2.2.1, bt403.2.2.2.1, bt403.2.2.2.2.1, bt403.2.2.2.2.2.1)))
end Go.Proofs.YtdgmkfbmeaalpaaDoor.E
end
section
namespace Go.Proofs.YtdgmkfbmeaalpaaDoor.Pur
open Go.RowKit Go.Proofs.YtdgmkfbmeaalpaaDoorW.PrintWords Go.Proofs.YtdgmkfbmeaalpaaDoor.E
theorem some_loop {B : List Int} (hB : okB B) (n : Int) (hn : 0 ≤ n ∧ n ≤ 20) : ∀ (d : Nat) (i : Int) (acc : List S25) (p : Int), 0 ≤ i → i + d = n → (acc.length : Int) = i → 0 ≤ p → p ≤ 1000000 - 10 * d → EvP (fun k => spec_l91Some.l0 k n acc i B p) (fun r => (r.1.length : Int) = n ∧ 0 ≤ r.2 ∧ r.2 ≤ p + 2 * d) := by
  intro d
  induction d with
  | zero =>
    intro i acc p h0 hi ha hp hp'
    refine EvP.succ ?_
    simp only [spec_l91Some.l0]
    exact EvP.no (by omega) (EvP.ret ⟨by simp only []; omega, by simp only []; omega, by simp only []; omega⟩)
  | succ d ih =>
    intro i acc p h0 hi ha hp hp'
    refine EvP.succ ?_
    simp only [spec_l91Some.l0]
    refine EvP.yes (by omega) ?_
    refine EvP.bind (pick_ok hB p 6 (by omega) (by omega)) (fun r1 ⟨a1, a2, a3⟩ => ?_)
    have e1 : Hd (wrap64 (i + 1) = i + 1) := ⟨w64 (by omega) (by omega)⟩
    refine EvP.bind (P := fun _ => True) (EvP.con rfl trivial) (fun _ _ => ?_)
    refine EvP.ite (fun _ => ?_) (fun _ => ?_)
    · refine EvP.bind (pick_ok hB r1.2 2 (by omega) (by omega)) (fun r2 ⟨b1, b2, b3⟩ => ?_)
      refine EvP.yes (by omega) ?_
      rw [e1.out]
      refine (ih (i + 1) _ r2.2 (by omega) (by omega) (by simp; omega) (by omega) (by omega)).mono ?_
      rintro r ⟨c1, c2, c3⟩
      exact ⟨c1, c2, by omega⟩
    · refine EvP.yes (by omega) ?_
      rw [e1.out]
      refine (ih (i + 1) _ r1.2 (by omega) (by omega) (by simp; omega) (by omega) (by omega)).mono ?_
      rintro r ⟨c1, c2, c3⟩
      exact ⟨c1, c2, by omega⟩
theorem some_ok {B : List Int} (hB : okB B) (p n : Int) (hn : 0 ≤ n ∧ n ≤ 20) (hp : 0 ≤ p ∧ p ≤ 900000) : EvP (fun k => spec_l91Some.f k B p n) (fun r => (r.1.length : Int) = n ∧ 0 ≤ r.2 ∧ r.2 ≤ p + 2 * n) := by
  simp only [spec_l91Some.f]
  refine (some_loop hB n hn n.toNat 0 [] p (by omega) (by omega) rfl (by omega) (by omega)).mono ?_
  rintro r ⟨c1, c2, c3⟩
  exact ⟨c1, c2, by omega⟩
theorem draw_psalm {B : List Int} (hB : okB B) (p : Int) (hp : 0 ≤ p ∧ p ≤ 100000) : EvP (fun k => spec_l91Psalm.f k B p) (fun r => r.1.length ≤ 10 ∧ r.2.2.2.1.length ≤ 10 ∧ r.2.2.2.2.1.length ≤ 10 ∧ 0 ≤ r.2.2.2.2.2 ∧ r.2.2.2.2.2 ≤ p + 50) := by
  simp only [spec_l91Psalm.f]
  refine EvP.bind (pick_ok hB p 4 (by omega) (by omega)) (fun r1 ⟨a1, a2, a3⟩ => ?_)
  refine EvP.bind (some_ok hB r1.2 r1.1 (by omega) (by omega)) (fun r2 ⟨b1, b2, b3⟩ => ?_)
  refine EvP.bind (pick_ok hB r2.2 4 (by omega) (by omega)) (fun r3 ⟨c1, c2, c3⟩ => ?_)
  refine EvP.bind (pick_ok hB r3.2 3 (by omega) (by omega)) (fun r4 ⟨d1, d2, d3⟩ => ?_)
  have e4 : Hd (wrap64 (1 + r4.1) = 1 + r4.1) := ⟨w64 (by omega) (by omega)⟩
  rw [e4.out]
  refine EvP.bind (some_ok hB r4.2 (1 + r4.1) (by omega) (by omega)) (fun r5 ⟨f1, f2, f3⟩ => ?_)
  refine EvP.bind (pick_ok hB r5.2 4 (by omega) (by omega)) (fun r6 ⟨g1, g2, g3⟩ => ?_)
  have e6 : Hd (wrap64 (1 + r6.1) = 1 + r6.1) := ⟨w64 (by omega) (by omega)⟩
  rw [e6.out]
  refine EvP.bind (some_ok hB r6.2 (1 + r6.1) (by omega) (by omega)) (fun r7 ⟨h1, h2, h3⟩ => ?_)
  refine EvP.bind (pick_ok hB r7.2 40 (by omega) (by omega)) (fun r8 ⟨i1, i2, i3⟩ => ?_)
  refine EvP.ite (fun _ => EvP.ret ?_) (fun _ => EvP.ite (fun _ => EvP.ret ?_) (fun _ => EvP.ite (fun _ => ?_) (fun _ => EvP.ret ?_)))
  · exact ⟨by simp only []; omega, by simp only []; omega, by simp only []; omega, by simp only []; omega, by simp only []; omega⟩
  · exact ⟨by simp only []; omega, Nat.zero_le _, by simp only []; omega, by simp only []; omega, by simp only []; omega⟩
  · refine EvP.bind (some_ok hB r8.2 5 (by omega) (by omega)) (fun r9 ⟨j1, j2, j3⟩ => EvP.ret ?_)
    exact ⟨by simp only []; omega, by simp only []; omega, by simp only []; omega, by simp only []; omega, by simp only []; omega⟩
  · exact ⟨by simp only []; omega, by simp only []; omega, by simp only []; omega, by simp only []; omega, by simp only []; omega⟩
theorem verse_end {B : List Int} (hB : okB B) (t : ByteArray) (ht : t.size ≤ 1000) (p : Int) (hp : 0 ≤ p ∧ p ≤ 200000) : EvP (fun k => spec_l91Verse.l0 k t 2 B p) (fun r => r.1.size ≤ t.size + 12 ∧ 0 ≤ r.2 ∧ r.2 ≤ p + 2) := by
  refine EvP.succ ?_
  simp only [spec_l91Verse.l0]
  refine EvP.no (by omega) ?_
  refine EvP.bind (pick_ok hB p 24 (by omega) (by omega)) (fun r1 ⟨a1, a2, a3⟩ => ?_)
  refine EvP.ite (fun _ => ?_) (fun _ => EvP.ite (fun _ => ?_) (fun _ => EvP.ite (fun _ => ?_) (fun _ => EvP.ret ?_)))
  · refine EvP.bind (of_size hB r1.2 (by omega) _ (by decide) 2 (by intro t h; simp at h; rcases h with rfl | rfl | rfl <;> decide)) (fun r2 ⟨b1, _, b3⟩ => ?_)
    refine EvP.yes (by omega) (EvP.ret ⟨?_, by simp only []; omega, by simp only []; omega⟩)
    rw [ByteArray.size_append]
    omega
  · refine EvP.bind (of_size hB r1.2 (by omega) _ (by decide) 3 (by intro t h; simp at h; rcases h with rfl | rfl | rfl | rfl | rfl | rfl <;> decide)) (fun r2 ⟨b1, _, b3⟩ => ?_)
    exact EvP.ret ⟨by simp only []; omega, by simp only []; omega, by simp only []; omega⟩
  · refine EvP.yes (by omega) (EvP.ret ⟨?_, by simp only []; omega, by simp only []; omega⟩)
    rw [ByteArray.size_append]
    exact Nat.le_refl _
  · exact ⟨by simp only []; omega, by simp only []; omega, by simp only []; omega⟩
theorem verse_half {B : List Int} (hB : okB B) (x4 : Int) (n T : Nat) (P : Int) (Q : ByteArray × Int → Prop) (hn : n ≤ 100) (hT : T ≤ 900) (hP : P ≤ 200000) (hc : ∀ (t : ByteArray) (p : Int), t.size ≤ T → 0 ≤ p → p ≤ P → EvP (fun k => spec_l91Verse.l0 k (if x4 = 0 then t ++ (⟨#[124]⟩ : ByteArray) else t) (wrap64 (x4 + 1)) B p) Q) :
    ∀ (d i : Nat) (t : ByteArray) (p : Int), i + d = n → t.size + d ≤ T → 0 ≤ p → p + d ≤ P → EvP (fun k => spec_l91Verse.l1 k t x4 (n : Int) (i : Int) B p) Q := by
  intro d
  induction d with
  | zero =>
    intro i t p hi ht hp hp'
    refine EvP.succ ?_
    simp only [spec_l91Verse.l1]
    refine EvP.no (by omega) ?_
    have h := hc t p (by omega) hp (by omega)
    by_cases hx : x4 = 0
    · rw [if_pos hx] at h
      exact EvP.yes hx (EvP.yes (by omega) h)
    · rw [if_neg hx] at h
      exact EvP.no hx h
  | succ d ih =>
    intro i t p hi ht hp hp'
    refine EvP.succ ?_
    simp only [spec_l91Verse.l1]
    refine EvP.yes (by omega) ?_
    refine EvP.bind (of_size hB p (by omega) _ (by decide) 1 (by intro t h; simp at h; rcases h with rfl | rfl | rfl <;> decide)) (fun r2 ⟨b1, _, b3⟩ => ?_)
    refine EvP.yes (by omega) ?_
    have e1 : Hd (wrap64 ((i : Int) + 1) = ((i + 1 : Nat) : Int)) := ⟨w64 (by omega) (by omega)⟩
    rw [e1.out]
    exact ih (i + 1) _ _ (by omega) (by rw [ByteArray.size_append]; omega) (by omega) (by omega)
theorem draw_verse {B : List Int} (hB : okB B) (p : Int) (hp : 0 ≤ p ∧ p ≤ 100000) : EvP (fun k => spec_l91Verse.f k B p) (fun r => r.1.size ≤ 100 ∧ 0 ≤ r.2 ∧ r.2 ≤ p + 50) := by
  simp only [spec_l91Verse.f]
  have h2 : ∀ (t : ByteArray) (p' : Int), t.size ≤ 40 → 0 ≤ p' → p' ≤ p + 40 → EvP (fun k => spec_l91Verse.l0 k (if (1 : Int) = 0 then t ++ (⟨#[124]⟩ : ByteArray) else t) (wrap64 (1 + 1)) B p') (fun r => r.1.size ≤ 100 ∧ 0 ≤ r.2 ∧ r.2 ≤ p + 50) := by
    intro t p' ht h0 h1
    rw [if_neg (by decide), show wrap64 (1 + 1) = 2 from w64 (by omega) (by omega)]
    refine (verse_end hB t (by omega) p' (by omega)).mono ?_
    rintro r ⟨a, b, c⟩
    exact ⟨by omega, b, by omega⟩
  have h1 : ∀ (t : ByteArray) (p' : Int), t.size ≤ 20 → 0 ≤ p' → p' ≤ p + 20 → EvP (fun k => spec_l91Verse.l0 k t 1 B p') (fun r => r.1.size ≤ 100 ∧ 0 ≤ r.2 ∧ r.2 ≤ p + 50) := by
    intro t p' ht h0 h1
    refine EvP.succ ?_
    simp only [spec_l91Verse.l0]
    refine EvP.yes (by omega) ?_
    refine EvP.bind (pick_ok hB p' 8 (by omega) (by omega)) (fun r1 ⟨a1, a2, a3⟩ => ?_)
    have e4 : Hd (wrap64 (1 + r1.1) = ((1 + r1.1.toNat : Nat) : Int)) := ⟨by rw [w64 (by omega) (by omega)]; omega⟩
    rw [e4.out]
    exact verse_half hB 1 (1 + r1.1.toNat) 40 (p + 40) _ (by omega) (by omega) (by omega) h2 (1 + r1.1.toNat) 0 t r1.2 (by omega) (by omega) (by omega) (by omega)
  have h1' : ∀ (t : ByteArray) (p' : Int), t.size ≤ 19 → 0 ≤ p' → p' ≤ p + 20 → EvP (fun k => spec_l91Verse.l0 k (if (0 : Int) = 0 then t ++ (⟨#[124]⟩ : ByteArray) else t) (wrap64 (0 + 1)) B p') (fun r => r.1.size ≤ 100 ∧ 0 ≤ r.2 ∧ r.2 ≤ p + 50) := by
    intro t p' ht h0 h2
    rw [if_pos rfl, show wrap64 (0 + 1) = 1 from w64 (by omega) (by omega)]
    exact h1 _ p' (by rw [ByteArray.size_append]; show t.size + 1 ≤ 20; omega) h0 h2
  refine EvP.succ ?_
  simp only [spec_l91Verse.l0]
  refine EvP.yes (by omega) ?_
  refine EvP.bind (pick_ok hB p 8 (by omega) (by omega)) (fun r1 ⟨a1, a2, a3⟩ => ?_)
  have e4 : Hd (wrap64 (1 + r1.1) = ((1 + r1.1.toNat : Nat) : Int)) := ⟨by rw [w64 (by omega) (by omega)]; omega⟩
  rw [e4.out]
  exact verse_half hB 0 (1 + r1.1.toNat) 19 (p + 20) _ (by omega) (by omega) (by omega) h1' (1 + r1.1.toNat) 0 ⟨#[]⟩ r1.2 (by omega) (by show 0 + _ ≤ 19; omega) (by omega) (by omega)
theorem draw_psalms {B : List Int} (hB : okB B) (p : Int) (hp : 0 ≤ p ∧ p ≤ 10000) : EvP (fun k => spec_l91Psalms.f k B p) (fun r => r.1.length ≤ 3 ∧ (∀ y ∈ r.1, y.f0.length ≤ 10 ∧ y.f2.length ≤ 10 ∧ y.f3.length ≤ 10) ∧ 0 ≤ r.2 ∧ r.2 ≤ p + 200) := by
  simp only [spec_l91Psalms.f]
  refine EvP.bind (pick_ok hB p 4 (by omega) (by omega)) (fun r0 ⟨a1, a2, a3⟩ => ?_)
  have hl : ∀ (d i : Nat) (acc : List S27) (q : Int), ((i + d : Nat) : Int) = r0.1 → acc.length = i → (∀ y ∈ acc, y.f0.length ≤ 10 ∧ y.f2.length ≤ 10 ∧ y.f3.length ≤ 10) → 0 ≤ q → q + 50 * d ≤ 20000 → EvP (fun k => spec_l91Psalms.l0 k acc r0.1 (i : Int) B q) (fun r => r.1.length ≤ 3 ∧ (∀ y ∈ r.1, y.f0.length ≤ 10 ∧ y.f2.length ≤ 10 ∧ y.f3.length ≤ 10) ∧ 0 ≤ r.2 ∧ r.2 ≤ q + 50 * d) := by
    intro d
    induction d with
    | zero =>
      intro i acc q hi ha hy hq hq'
      refine EvP.succ ?_
      simp only [spec_l91Psalms.l0]
      exact EvP.no (by omega) (EvP.ret ⟨by simp only []; omega, hy, hq, by simp only []; omega⟩)
    | succ d ih =>
      intro i acc q hi ha hy hq hq'
      refine EvP.succ ?_
      simp only [spec_l91Psalms.l0]
      refine EvP.yes (by omega) ?_
      refine EvP.bind (draw_psalm hB q (by omega)) (fun r1 ⟨c1, c2, c3, c4, c5⟩ => ?_)
      refine EvP.yes (by omega) ?_
      have e1 : Hd (wrap64 ((i : Int) + 1) = ((i + 1 : Nat) : Int)) := ⟨w64 (by omega) (by omega)⟩
      rw [e1.out]
      refine (ih (i + 1) _ _ (by omega) (by simp; omega) ?_ c4 (by omega)).mono ?_
      · intro y h
        rcases List.mem_append.mp h with h | h
        · exact hy y h
        · obtain rfl := List.mem_singleton.mp h
          exact ⟨c1, c2, c3⟩
      · rintro r ⟨d1, d2, d3, d4⟩
        exact ⟨d1, d2, d3, by omega⟩
  refine (hl r0.1.toNat 0 [] r0.2 (by omega) rfl (fun y h => by cases h) (by omega) (by omega)).mono ?_
  rintro r ⟨d1, d2, d3, d4⟩
  exact ⟨d1, d2, d3, by omega⟩
end Go.Proofs.YtdgmkfbmeaalpaaDoor.Pur
end
section
namespace Go.Proofs.YtdgmkfbmeaalpaaDoor.Pur
open Go.RowKit Go.Proofs.YtdgmkfbmeaalpaaDoorW.PrintWords Go.Proofs.YtdgmkfbmeaalpaaDoorW.PrintMore Go.Proofs.YtdgmkfbmeaalpaaDoor.E
abbrev PL := List S27
def okP (y : S27) : Bool := okPs y.f0 y.f1.f0 y.f1.f1 y.f2 y.f3
def shortP (y : S27) : Prop := y.f0.length ≤ 1048576 ∧ y.f2.length ≤ 1048576 ∧ y.f3.length ≤ 1048576
theorem rdP_lt {l : PL} {i : Nat} (h : i < l.length) : rd_T27 l (i : Int) = l[i] := by
  unfold rd_T27
  rw [toNat_nat, List.getD_eq_getElem?_getD, List.getElem?_eq_getElem h]
  rfl
theorem impl_all_loop (l : PL) (hl : l.length ≤ 1048576) : ∀ d i : Nat, i + d = l.length → EvP (fun k => impl_allPsalmsValid.l0 k l (l.length : Int) (i : Int)) (· = (l.drop i).all okP) := by
  intro d
  induction d with
  | zero =>
    intro i hi
    refine EvP.succ ?_
    simp only [impl_allPsalmsValid.l0]
    refine EvP.no (by omega) (EvP.ret ?_)
    rw [List.drop_of_length_le (by omega)]
    rfl
  | succ d ih =>
    intro i hi
    have hlt : i < l.length := by omega
    refine EvP.succ ?_
    simp only [impl_allPsalmsValid.l0]
    refine EvP.yes (by omega) (EvP.yes (by omega) (EvP.yes (by omega) ?_))
    rw [rdP_lt hlt, List.drop_eq_getElem_cons hlt, List.all_cons]
    refine EvP.bind (impl_psalm _ _ _ _ _) (fun _ e => ?_)
    subst e
    refine EvP.ite (fun h => ?_) (fun h => EvP.ret ?_)
    · rw [w64 (by omega) (by omega), show (i : Int) + 1 = ((i + 1 : Nat) : Int) by omega, show okP l[i] = true from h, Bool.true_and]
      exact ih (i + 1) (by omega)
    · rw [show okP l[i] = false from Bool.eq_false_iff.mpr h, Bool.false_and]
theorem impl_all (l : PL) (hl : l.length ≤ 1048576) : EvP (fun k => impl_allPsalmsValid.f k l) (· = l.all okP) := impl_all_loop l hl l.length 0 (by omega)
theorem spec_all_loop (l : PL) (hl : l.length ≤ 1048576) (hs : ∀ y ∈ l, shortP y) : ∀ d i : Nat, i + d = l.length → EvP (fun k => spec_l4All.l0 k l (i : Int)) (· = (l.drop i).all okP) := by
  intro d
  induction d with
  | zero =>
    intro i hi
    refine EvP.succ ?_
    simp only [spec_l4All.l0]
    refine EvP.no (by omega) (EvP.ret ?_)
    rw [List.drop_of_length_le (by omega)]
    rfl
  | succ d ih =>
    intro i hi
    have hlt : i < l.length := by omega
    obtain ⟨h1, h2, h3⟩ := hs _ (List.getElem_mem hlt)
    refine EvP.succ ?_
    simp only [spec_l4All.l0]
    refine EvP.yes (by omega) (EvP.yes (by omega) ?_)
    rw [rdP_lt hlt, List.drop_eq_getElem_cons hlt, List.all_cons]
    refine EvP.bind (spec_psalm _ _ _ _ _ (by omega) (by omega) (by omega)) (fun _ e => ?_)
    subst e
    refine EvP.ite (fun h => ?_) (fun h => EvP.ret ?_)
    · rw [w64 (by omega) (by omega), show (i : Int) + 1 = ((i + 1 : Nat) : Int) by omega, show okP l[i] = true from h, Bool.true_and]
      exact ih (i + 1) (by omega)
    · rw [show okP l[i] = false from Bool.eq_false_iff.mpr h, Bool.false_and]
theorem spec_all (l : PL) (hl : l.length ≤ 1048576) (hs : ∀ y ∈ l, shortP y) : EvP (fun k => spec_l4All.f k l) (· = l.all okP) := spec_all_loop l hl hs l.length 0 (by omega)
def accAt (l : PL) (s : ByteArray) (i : Nat) : Int := accR (rd_T27 l (i : Int)).f2 (rd_T27 l (i : Int)).f3 (fitP (rd_T27 l (i : Int)).f0 (rd_T27 l (i : Int)).f1.f0 (rd_T27 l (i : Int)).f1.f1 (rd_T27 l (i : Int)).f2 (rd_T27 l (i : Int)).f3 s)
theorem accAt_ge (l : PL) (s : ByteArray) (i : Nat) : -1 ≤ accAt l s i := by
  unfold accAt accR
  split <;> omega
theorem impl_acc_at (l : PL) (s : ByteArray) (hs : s.size ≤ 100000000) (i : Nat) : EvP (fun k => impl_PsalmAccents.f k ((rd_T27 l (i : Int)).f0) ((rd_T27 l (i : Int)).f1.f0) ((rd_T27 l (i : Int)).f1.f1) ((rd_T27 l (i : Int)).f2) ((rd_T27 l (i : Int)).f3) s) (· = accAt l s i) := impl_accents _ _ _ _ _ s hs
theorem spec_acc_at (l : PL) (s : ByteArray) (hs : s.size ≤ 100000000) (hl : ∀ y ∈ l, shortP y) (i : Nat) (hi : i < l.length) : EvP (fun k => spec_PsalmAccents.f k ((rd_T27 l (i : Int)).f0) ((rd_T27 l (i : Int)).f1.f0) ((rd_T27 l (i : Int)).f1.f1) ((rd_T27 l (i : Int)).f2) ((rd_T27 l (i : Int)).f3) s) (· = accAt l s i) := by
  have h := hl _ (List.getElem_mem hi)
  rw [← rdP_lt hi] at h
  obtain ⟨h1, h2, h3⟩ := h
  exact spec_accents _ _ _ _ _ s hs (by omega) (by omega) (by omega)
def bestF (A : Nat → Int) : Nat → Int × Int
  | 0 => (0, -1)
  | n + 1 => if A n > (bestF A n).2 then ((n : Int), A n) else bestF A n
theorem bestF_is {A : Nat → Int} (hA : ∀ i, -1 ≤ A i) : ∀ n : Nat, (∀ i, i < n → A i ≤ (bestF A n).2) ∧ (((bestF A n).2 = -1 ∧ (bestF A n).1 = 0) ∨ ∃ m : Nat, (bestF A n).1 = (m : Int) ∧ m < n ∧ (bestF A n).2 = A m ∧ 0 ≤ A m ∧ ∀ i, i < m → A i < A m)
  | 0 => ⟨fun i hi => by omega, .inl ⟨rfl, rfl⟩⟩
  | n + 1 => by
    obtain ⟨h1, h2⟩ := bestF_is hA n
    have hn : -1 ≤ (bestF A n).2 := by
      rcases h2 with ⟨e, _⟩ | ⟨m, _, _, e, e2, _⟩ <;> omega
    rw [bestF]
    by_cases g : A n > (bestF A n).2
    · rw [if_pos g]
      refine ⟨fun i hi => ?_, .inr ⟨n, rfl, Nat.lt_succ_self n, rfl, by omega, fun i hi => ?_⟩⟩
      · by_cases e : i = n
        · subst e; exact Int.le_refl _
        · have := h1 i (by omega)
          show A i ≤ A n
          omega
      · have := h1 i hi
        omega
    · rw [if_neg g]
      refine ⟨fun i hi => ?_, ?_⟩
      · by_cases e : i = n
        · subst e; omega
        · exact h1 i (by omega)
      · rcases h2 with h | ⟨m, a, b, c, d, e⟩
        · exact .inl h
        · exact .inr ⟨m, a, by omega, c, d, e⟩
def bestR (l : PL) (s : ByteArray) : Int × Bool := if (verse s).isSome = true ∧ l.all okP = true then ((bestF (accAt l s) l.length).1, decide ((bestF (accAt l s) l.length).2 ≥ 0)) else (0, false)
theorem impl_best_loop (l : PL) (s : ByteArray) (hl : l.length ≤ 1048576) (hs : s.size ≤ 100000000) : ∀ d i : Nat, i + d = l.length → EvP (fun k => impl_PsalmBest.l0 k s (bestF (accAt l s) i).1 (bestF (accAt l s) i).2 l (l.length : Int) (i : Int)) (· = ((bestF (accAt l s) l.length).1, decide ((bestF (accAt l s) l.length).2 ≥ 0))) := by
  intro d
  induction d with
  | zero =>
    intro i hi
    obtain rfl : i = l.length := by omega
    refine EvP.succ ?_
    simp only [impl_PsalmBest.l0]
    exact EvP.no (by omega) (EvP.ret rfl)
  | succ d ih =>
    intro i hi
    refine EvP.succ ?_
    simp only [impl_PsalmBest.l0]
    refine EvP.yes (by omega) (EvP.yes (by omega) (EvP.yes (by omega) ?_))
    refine EvP.bind (impl_acc_at l s hs i) (fun _ e => ?_)
    subst e
    have h := ih (i + 1) (by omega)
    rw [bestF] at h
    have e1 : Hd (wrap64 ((i : Int) + 1) = ((i + 1 : Nat) : Int)) := ⟨w64 (by omega) (by omega)⟩
    rw [e1.out]
    by_cases g : accAt l s i > (bestF (accAt l s) i).2
    · rw [if_pos g] at h
      exact EvP.yes g h
    · rw [if_neg g] at h
      exact EvP.no g h
theorem impl_best (l : PL) (s : ByteArray) (hl : l.length ≤ 1048576) (hs : s.size ≤ 100000000) : EvP (fun k => impl_PsalmBest.f k l s) (· = bestR l s) := by
  simp only [impl_PsalmBest.f, bestR]
  refine EvP.bind (EvP.con (impl_valid_v s hs) (P := (· = (verse s).isSome)) rfl) (fun _ e => ?_)
  subst e
  refine EvP.ite (fun h => ?_) (fun h => ?_)
  · refine EvP.bind (impl_all l hl) (fun _ e => ?_)
    subst e
    refine EvP.succ ?_
    simp only [impl_PsalmBest.j0]
    by_cases g : l.all okP = true
    · rw [if_pos ⟨h, g⟩]
      refine EvP.no (by rw [g]; decide) ?_
      exact impl_best_loop l s hl hs l.length 0 (by omega)
    · rw [if_neg (fun e => g e.2)]
      exact EvP.yes (by rw [Bool.eq_false_iff.mpr g]; rfl) (EvP.ret rfl)
  · refine EvP.succ ?_
    simp only [impl_PsalmBest.j0]
    rw [if_neg (fun e => h e.1)]
    exact EvP.yes (by trivial) (EvP.ret rfl)
def negOf (p : Int × Int) : Int := if p.2 < 0 then -1 else p.1
theorem spec_best_loop (l : PL) (s : ByteArray) (hl : l.length ≤ 1048576) (hs : s.size ≤ 100000000) (hy : ∀ y ∈ l, shortP y) : ∀ d i : Nat, i + d = l.length → EvP (fun k => spec_PsalmBest.l0 k l s (negOf (bestF (accAt l s) i)) (bestF (accAt l s) i).2 (i : Int)) (· = ((bestF (accAt l s) l.length).1, decide ((bestF (accAt l s) l.length).2 ≥ 0))) := by
  intro d
  induction d with
  | zero =>
    intro i hi
    obtain rfl : i = l.length := by omega
    refine EvP.succ ?_
    simp only [spec_PsalmBest.l0]
    refine EvP.no (by omega) ?_
    obtain ⟨_, h⟩ := bestF_is (accAt_ge l s) l.length
    rcases h with ⟨e1, e2⟩ | ⟨m, e1, e2, e3, e4, _⟩
    · refine EvP.yes (by unfold negOf; rw [if_pos (by omega)]; omega) (EvP.ret ?_)
      rw [e1, e2]
      rfl
    · have hn : negOf (bestF (accAt l s) l.length) = (m : Int) := by unfold negOf; rw [if_neg (by omega), e1]
      rw [hn]
      refine EvP.no (by omega) (EvP.ret ?_)
      rw [e1, decide_eq_true (by omega)]
  | succ d ih =>
    intro i hi
    refine EvP.succ ?_
    simp only [spec_PsalmBest.l0]
    refine EvP.yes (by omega) (EvP.yes (by omega) ?_)
    refine EvP.bind (spec_acc_at l s hs hy i (by omega)) (fun _ e => ?_)
    subst e
    have h := ih (i + 1) (by omega)
    obtain ⟨_, hb⟩ := bestF_is (accAt_ge l s) i
    have hb2 : -1 ≤ (bestF (accAt l s) i).2 := by
      rcases hb with ⟨e1, _⟩ | ⟨m, _, _, e3, e4, _⟩ <;> omega
    rw [bestF] at h
    have e1 : Hd (wrap64 ((i : Int) + 1) = ((i + 1 : Nat) : Int)) := ⟨w64 (by omega) (by omega)⟩
    rw [e1.out]
    by_cases g : accAt l s i > (bestF (accAt l s) i).2
    · rw [if_pos g] at h
      unfold negOf at h
      rw [if_neg (by simp only []; omega)] at h
      exact EvP.yes g h
    · rw [if_neg g] at h
      exact EvP.no g h
theorem spec_best (l : PL) (s : ByteArray) (hl : l.length ≤ 1048576) (hs : s.size ≤ 100000000) (hy : ∀ y ∈ l, shortP y) : EvP (fun k => spec_PsalmBest.f k l s) (· = bestR l s) := by
  simp only [spec_PsalmBest.f, bestR]
  refine EvP.bind (spec_all l hl hy) (fun _ e => ?_)
  subst e
  refine EvP.ite (fun h => ?_) (fun h => ?_)
  · refine EvP.bind (spec_valid_v s hs) (fun _ e => ?_)
    subst e
    refine EvP.succ ?_
    simp only [spec_PsalmBest.j0]
    by_cases g : (verse s).isSome = true
    · rw [if_pos ⟨g, h⟩]
      refine EvP.no (by rw [g]; decide) ?_
      exact spec_best_loop l s hl hs hy l.length 0 (by omega)
    · rw [if_neg (fun e => g e.1)]
      exact EvP.yes (by rw [Bool.eq_false_iff.mpr g]; rfl) (EvP.ret rfl)
  · refine EvP.succ ?_
    simp only [spec_PsalmBest.j0]
    rw [if_neg (fun e => h e.2)]
    exact EvP.yes (by trivial) (EvP.ret rfl)
theorem draw_best (l : List Int) (h : ∀ x ∈ l, (Lit.int .u8 x).wf = true) : EvP (fun k => spec_DrawPsalmBest.f k l) (fun r => r.1.length ≤ 3 ∧ (∀ y ∈ r.1, y.f0.length ≤ 10 ∧ y.f2.length ≤ 10 ∧ y.f3.length ≤ 10) ∧ r.2.size ≤ 100) := by
  simp only [spec_DrawPsalmBest.f]
  refine EvP.bind (open_code l h) (fun r0 ⟨hB, e0⟩ => ?_)
  refine EvP.bind (draw_psalms hB r0.2 (by omega)) (fun r1 ⟨a1, a2, a3, a4⟩ => ?_)
  refine EvP.bind (draw_verse hB r1.2 (by omega)) (fun r2 ⟨b1, b2, b3⟩ => EvP.ret ?_)
  exact ⟨a1, a2, b1⟩
theorem law_best_loop (l : PL) (s : ByteArray) (hl : l.length ≤ 1048576) (hs : s.size ≤ 100000000) (m : Nat) (hm : m < l.length) (h0 : 0 ≤ accAt l s m) (h1 : ∀ i, i < l.length → accAt l s i ≤ accAt l s m) (h2 : ∀ i, i < m → accAt l s i < accAt l s m) : ∀ d i : Nat, i + d = l.length → EvP (fun k => laws_FnPsalmBest.l0 k l s (m : Int) (accAt l s m) (i : Int)) (· = true) := by
  intro d
  induction d with
  | zero =>
    intro i hi
    refine EvP.succ ?_
    simp only [laws_FnPsalmBest.l0]
    refine EvP.no (by omega) (EvP.yes h0 (EvP.yes (by omega) (EvP.yes (by omega) ?_)))
    refine EvP.bind (impl_fits _ _ _ _ _ s hs) (fun _ e => EvP.ret ?_)
    subst e
    unfold accAt accR at h0
    split at h0
    · rename_i e
      rw [e]
      rfl
    · omega
  | succ d ih =>
    intro i hi
    refine EvP.succ ?_
    simp only [laws_FnPsalmBest.l0]
    refine EvP.yes (by omega) (EvP.yes (by omega) ?_)
    refine EvP.bind (impl_acc_at l s hs i) (fun _ e => ?_)
    subst e
    have a1 := h1 i (by omega)
    have e1 : Hd (wrap64 ((i : Int) + 1) = ((i + 1 : Nat) : Int)) := ⟨w64 (by omega) (by omega)⟩
    rw [e1.out]
    have h := ih (i + 1) (by omega)
    refine EvP.no (by omega) (EvP.ite (fun g => EvP.no (fun hc => ?_) h) (fun _ => h))
    have := h2 i (by omega)
    omega
theorem law_best (l : List Int) (_ : (l.length : Int) ≤ 9223372036854775807) (hw : ∀ x ∈ l, (Lit.int .u8 x).wf = true) : ∃ k, laws_FnPsalmBest.f k l = some true := by
  refine EvP.rounds ?_
  simp only [laws_FnPsalmBest.f]
  refine EvP.ite (fun _ => EvP.ret rfl) (fun _ => ?_)
  refine EvP.bind (draw_best l hw) (fun r ⟨a1, a2, a3⟩ => ?_)
  refine EvP.bind (impl_best _ _ (by omega) (by omega)) (fun _ e => ?_)
  subst e
  refine EvP.bind (spec_best _ _ (by omega) (by omega) (fun y hy => by obtain ⟨h1, h2, h3⟩ := a2 y hy; exact ⟨by omega, by omega, by omega⟩)) (fun _ e => ?_)
  subst e
  refine EvP.no (by simp) (EvP.yes rfl (EvP.succ ?_))
  simp only [laws_FnPsalmBest.j0]
  by_cases h : (bestR r.1 r.2).2 = true
  · refine EvP.no (by rw [h]; decide) ?_
    unfold bestR at h ⊢
    split at h
    · rename_i g
      rw [if_pos g]
      have h := of_decide_eq_true h
      obtain ⟨b1, b2⟩ := bestF_is (accAt_ge r.1 r.2) r.1.length
      rcases b2 with ⟨e1, _⟩ | ⟨m, e1, e2, e3, e4, e5⟩
      · omega
      · simp only [e1]
        refine EvP.yes (by omega) (EvP.yes (by omega) ?_)
        refine EvP.bind (impl_acc_at _ _ (by omega) m) (fun _ e => ?_)
        subst e
        exact law_best_loop r.1 r.2 (by omega) (by omega) m e2 e4 (fun i hi => by rw [← e3]; exact b1 i hi) e5 r.1.length 0 (by omega)
    · cases h
  · refine EvP.yes (by rw [Bool.eq_false_iff.mpr h]; rfl) (EvP.yes (by simp) (EvP.ret (by simp)))
end Go.Proofs.YtdgmkfbmeaalpaaDoor.Pur
end
section
namespace Go.Proofs.YtdgmkfbmeaalpaaDoor.Head
set_option maxRecDepth 100000
theorem and_t {a b : Bool} (h : a = true) (k : b = true) : (a && b) = true := by rw [h, k]; rfl
theorem mayEnter_of {P : Program} {l : List String} {W rest : List (List Char)} (h : behindMainWord (wordsSigns P.initOrder.toList) = W) (hc : ∃ c r, W = c :: r ∧ (c == "gc".toList || c == "spec".toList) = false ∧ (c == "carried".toList) = false) (hs : stripLifts liftWords W = (l, "cut".toList :: rest))
    (hl : (l.contains "finals" || !P.laysLater) = true) (hb : (l.contains "reflectrows" || !P.bearsReflect) = true) (hr : (l.contains "reflectrows" || !l.contains "leanrows") = true) (hd : P.doorFits l = true) : P.mayEnter = true := by
  obtain ⟨c, r, rfl, h1, h2⟩ := hc
  unfold Program.mayEnter
  rw [h]
  dsimp only
  rw [hs, hl, hb, hr, hd, h1, h2]
  simp
theorem headLifts_of {P : Program} {l : List String} {W rest : List (List Char)} (h : behindMainWord (wordsSigns P.initOrder.toList) = W) (hs : stripLifts liftWords W = (l, "cut".toList :: rest)) : P.headLifts = l := by
  unfold Program.headLifts
  rw [h]
  dsimp only
  rw [hs]
  simp
theorem liftsFinal_of {P : Program} {l : List String} {W rest : List (List Char)} (h : behindMainWord (wordsSigns P.initOrder.toList) = W) (hc : ∃ c r, W = c :: r ∧ (c == "gc".toList || c == "spec".toList) = false ∧ (c == "carried".toList) = false) (hs : stripLifts liftWords W = (l, "cut".toList :: rest)) : P.liftsFinal = l.contains "finals" := by
  unfold Program.liftsFinal
  rw [headLifts_of h hs, h]
  obtain ⟨c, r, rfl, h1, h2⟩ := hc
  have h3 : ((c :: r).head? == some "carried".toList) = false := by
    rw [beq_eq_false_iff_ne] at h2 ⊢
    exact fun e => h2 (Option.some.inj e)
  dsimp only
  rw [h3, Bool.false_and, Bool.false_or]
theorem make_of {P : Program} {rest : List (List Char)} (h : behindMainWord (wordsSigns P.initOrder.toList) = "cut".toList :: rest) : P.make = some .cut := by
  unfold Program.make
  rw [h]
  dsimp only
  rw [if_neg (by decide), if_pos (by simp)]
theorem mainIs_of {P : Program} {s : List Char} {rest : List (List Char)} (h : wordsSigns P.initOrder.toList = "harness".toList :: s :: rest) (hs : isSumSigns s = true) : P.mainIs = some (true, s) := by
  unfold Program.mainIs
  rw [h]
  dsimp only
  rw [hs]
  simp
def io : List Nat := [104, 97, 114, 110, 101, 115, 115, 32, 57, 53, 99, 56, 51, 49, 56, 101, 49, 51, 57, 50, 101, 98, 50, 97, 53, 100, 98, 55, 98, 56, 98, 55, 97, 57, 57, 100, 50, 56, 50, 99, 53, 54, 50, 53, 56, 101, 55, 102, 101, 54, 49, 101, 48, 100, 97, 56, 101, 52, 50, 57, 101, 54, 100, 53, 100, 51, 48, 52, 101, 52, 101, 101, 32, 99, 117, 116, 32, 97, 116, 32, 108, 111, 111, 112, 46, 101, 120, 97, 109, 112, 108, 101, 47, 110, 101, 117, 109, 101, 115, 47, 108, 97, 119, 115, 46, 70, 110, 80, 115, 97, 108, 109, 70, 105, 116, 115, 32, 108, 111, 111, 112, 46, 101, 120, 97, 109, 112, 108, 101, 47, 110, 101, 117, 109, 101, 115, 47, 108, 97, 119, 115, 46, 70, 110, 69, 120, 97, 99, 116, 80, 115, 97, 108, 109, 84, 101, 110, 111, 114, 115, 32, 108, 111, 111, 112, 46, 101, 120, 97, 109, 112, 108, 101, 47, 110, 101, 117, 109, 101, 115, 47, 108, 97, 119, 115, 46, 70, 110, 80, 115, 97, 108, 109, 65, 99, 99, 101, 110, 116, 115, 32, 108, 111, 111, 112, 46, 101, 120, 97, 109, 112, 108, 101, 47, 110, 101, 117, 109, 101, 115, 47, 108, 97, 119, 115, 46, 70, 110, 69, 120, 97, 99, 116, 80, 115, 97, 108, 109, 65, 99, 99, 101, 110, 116, 115, 32, 108, 111, 111, 112, 46, 101, 120, 97, 109, 112, 108, 101, 47, 110, 101, 117, 109, 101, 115, 47, 108, 97, 119, 115, 46, 70, 110, 80, 115, 97, 108, 109, 77, 111, 114, 101, 32, 108, 111, 111, 112, 46, 101, 120, 97, 109, 112, 108, 101, 47, 110, 101, 117, 109, 101, 115, 47, 108, 97, 119, 115, 46, 70, 110, 80, 115, 97, 108, 109, 32, 108, 111, 111, 112, 46, 101, 120, 97, 109, 112, 108, 101, 47, 110, 101, 117, 109, 101, 115, 47, 108, 97, 119, 115, 46, 70, 110, 69, 120, 97, 99, 116, 80, 115, 97, 108, 109, 83, 105, 110, 103, 32, 108, 111, 111, 112, 46, 101, 120, 97, 109, 112, 108, 101, 47, 110, 101, 117, 109, 101, 115, 47, 108, 97, 119, 115, 46, 70, 110, 80, 115, 97, 108, 109, 66, 101, 115, 116, 32, 108, 111, 111, 112, 46, 101, 120, 97, 109, 112, 108, 101, 47, 110, 101, 117, 109, 101, 115, 47, 108, 97, 119, 115, 46, 70, 110, 80, 115, 97, 108, 109, 82, 101, 97, 100, 32, 108, 111, 111, 112, 46, 101, 120, 97, 109, 112, 108, 101, 47, 110, 101, 117, 109, 101, 115, 47, 108, 97, 119, 115, 46, 70, 110, 69, 120, 97, 99, 116, 80, 115, 97, 108, 109, 82, 101, 97, 100, 32, 108, 111, 111, 112, 46, 101, 120, 97, 109, 112, 108, 101, 47, 110, 101, 117, 109, 101, 115, 47, 108, 97, 119, 115, 46, 70, 110, 69, 120, 97, 99, 116, 80, 115, 97, 108, 109, 66, 101, 115, 116, 32, 108, 111, 111, 112, 46, 101, 120, 97, 109, 112, 108, 101, 47, 110, 101, 117, 109, 101, 115, 47, 108, 97, 119, 115, 46, 70, 110, 80, 115, 97, 108, 109, 77, 111, 118, 101]
def ws : List (List Nat) := [[104, 97, 114, 110, 101, 115, 115], [57, 53, 99, 56, 51, 49, 56, 101, 49, 51, 57, 50, 101, 98, 50, 97, 53, 100, 98, 55, 98, 56, 98, 55, 97, 57, 57, 100, 50, 56, 50, 99, 53, 54, 50, 53, 56, 101, 55, 102, 101, 54, 49, 101, 48, 100, 97, 56, 101, 52, 50, 57, 101, 54, 100, 53, 100, 51, 48, 52, 101, 52, 101, 101], [99, 117, 116], [97, 116], [108, 111, 111, 112, 46, 101, 120, 97, 109, 112, 108, 101, 47, 110, 101, 117, 109, 101, 115, 47, 108, 97, 119, 115, 46, 70, 110, 80, 115, 97, 108, 109, 70, 105, 116, 115], [108, 111, 111, 112, 46, 101, 120, 97, 109, 112, 108, 101, 47, 110, 101, 117, 109, 101, 115, 47, 108, 97, 119, 115, 46, 70, 110, 69, 120, 97, 99, 116, 80, 115, 97, 108, 109, 84, 101, 110, 111, 114, 115], [108, 111, 111, 112, 46, 101, 120, 97, 109, 112, 108, 101, 47, 110, 101, 117, 109, 101, 115, 47, 108, 97, 119, 115, 46, 70, 110, 80, 115, 97, 108, 109, 65, 99, 99, 101, 110, 116, 115], [108, 111, 111, 112, 46, 101, 120, 97, 109, 112, 108, 101, 47, 110, 101, 117, 109, 101, 115, 47, 108, 97, 119, 115, 46, 70, 110, 69, 120, 97, 99, 116, 80, 115, 97, 108, 109, 65, 99, 99, 101, 110, 116, 115], [108, 111, 111, 112, 46, 101, 120, 97, 109, 112, 108, 101, 47, 110, 101, 117, 109, 101, 115, 47, 108, 97, 119, 115, 46, 70, 110, 80, 115, 97, 108, 109, 77, 111, 114, 101], [108, 111, 111, 112, 46, 101, 120, 97, 109, 112, 108, 101, 47, 110, 101, 117, 109, 101, 115, 47, 108, 97, 119, 115, 46, 70, 110, 80, 115, 97, 108, 109], [108, 111, 111, 112, 46, 101, 120, 97, 109, 112, 108, 101, 47, 110, 101, 117, 109, 101, 115, 47, 108, 97, 119, 115, 46, 70, 110, 69, 120, 97, 99, 116, 80, 115, 97, 108, 109, 83, 105, 110, 103], [108, 111, 111, 112, 46, 101, 120, 97, 109, 112, 108, 101, 47, 110, 101, 117, 109, 101, 115, 47, 108, 97, 119, 115, 46, 70, 110, 80, 115, 97, 108, 109, 66, 101, 115, 116], [108, 111, 111, 112, 46, 101, 120, 97, 109, 112, 108, 101, 47, 110, 101, 117, 109, 101, 115, 47, 108, 97, 119, 115, 46, 70, 110, 80, 115, 97, 108, 109, 82, 101, 97, 100], [108, 111, 111, 112, 46, 101, 120, 97, 109, 112, 108, 101, 47, 110, 101, 117, 109, 101, 115, 47, 108, 97, 119, 115, 46, 70, 110, 69, 120, 97, 99, 116, 80, 115, 97, 108, 109, 82, 101, 97, 100], [108, 111, 111, 112, 46, 101, 120, 97, 109, 112, 108, 101, 47, 110, 101, 117, 109, 101, 115, 47, 108, 97, 119, 115, 46, 70, 110, 69, 120, 97, 99, 116, 80, 115, 97, 108, 109, 66, 101, 115, 116], [108, 111, 111, 112, 46, 101, 120, 97, 109, 112, 108, 101, 47, 110, 101, 117, 109, 101, 115, 47, 108, 97, 119, 115, 46, 70, 110, 80, 115, 97, 108, 109, 77, 111, 118, 101]]
def ch (w : List Nat) : List Char := w.map Char.ofNat
theorem io_is : Tryd.prog.initOrder = String.ofList (ch io) := by kernel_rfl
theorem io_ws : wordsSigns (ch io) = ws.map ch := by kernel_rfl
theorem io_all : wordsSigns Tryd.prog.initOrder.toList = ws.map ch := by rw [io_is, String.toList_ofList, io_ws]
theorem be : behindMainWord (ws.map ch) = (ws.drop 2).map ch := by kernel_rfl
theorem io_be : behindMainWord (wordsSigns Tryd.prog.initOrder.toList) = (ws.drop 2).map ch := by rw [io_all, be]
theorem first : ∃ c r, (ws.drop 2).map ch = c :: r ∧ (c == "gc".toList || c == "spec".toList) = false ∧ (c == "carried".toList) = false := ⟨ch (ws.getD 2 []), (ws.drop 3).map ch, by kernel_rfl, by kernel_rfl, by kernel_rfl⟩
theorem st : stripLifts liftWords ((ws.drop 2).map ch) = ([], "cut".toList :: ((ws.drop 3).map ch)) := by kernel_rfl
theorem ll : ([].contains "finals" || !Tryd.prog.laysLater) = true := by kernel_rfl
theorem br : ([].contains "reflectrows" || !Tryd.prog.bearsReflect) = true := by kernel_rfl
theorem rr : ([].contains "reflectrows" || ![].contains "leanrows") = true := by kernel_rfl
theorem df : Tryd.prog.doorFits [] = true := by kernel_rfl
theorem mayE : Tryd.prog.mayEnter = true := mayEnter_of io_be first st ll br rr df
theorem finE : Tryd.prog.liftsFinal = [].contains "finals" := liftsFinal_of io_be first st
theorem mainE : Tryd.prog.mainIs = some (true, ch [57, 53, 99, 56, 51, 49, 56, 101, 49, 51, 57, 50, 101, 98, 50, 97, 53, 100, 98, 55, 98, 56, 98, 55, 97, 57, 57, 100, 50, 56, 50, 99, 53, 54, 50, 53, 56, 101, 55, 102, 101, 54, 49, 101, 48, 100, 97, 56, 101, 52, 50, 57, 101, 54, 100, 53, 100, 51, 48, 52, 101, 52, 101, 101]) := mainIs_of (rest := (ws.drop 2).map ch) (io_all.trans (by kernel_rfl)) (by kernel_rfl)
theorem makeE : Tryd.prog.make = some .cut := make_of (io_be.trans (by kernel_rfl : (ws.drop 2).map ch = "cut".toList :: ((ws.drop 3).map ch)))
end Go.Proofs.YtdgmkfbmeaalpaaDoor.Head
end
section
namespace Go.Proofs.YtdgmkfbmeaalpaaDoor.Pur
open Go.RowKit Go.ChangeShapes Go.Deep Go.Proofs.YtdgmkfbmeaalpaaDoorW.PrintWords Go.Proofs.YtdgmkfbmeaalpaaDoor.E
theorem open_rowP {P : Program} {H : Type} {enc : TypeId × Value → H} {W : World} {α : Type} [Inhabited α] {d : Kd α} {p : α → Prop} {t e : TypeId} {fuel : Nat} {cs : List Value} {x : DataW H × List MemPlace} (ht : P.underlying t = some (.slice e)) (hc : P.cellsOf e = d.sz)
    (o : ∀ (fuel : Nat) (cs : List Value) (x : DataW H × List MemPlace), DataW.trod enc P W 0 (fun _ => true) true fuel e cs = some x → ∃ y, d.K W y cs ∧ p y)
    (h : DataW.trod enc P W 0 (fun _ => true) true fuel t cs = some x) : ∃ (A : Option Addr) (c : Nat) (l : List α), cs = [.slice A l.length c] ∧ l.length ≤ c ∧ (l.length : Int) ≤ 9223372036854775807 ∧ d.C W A l.length l ∧ ∀ y ∈ l, p y := by
  rcases open_slice ht h with ⟨rfl, _⟩ | ⟨a, len, cap, m, n, D, Pl, rfl, _, hl, hm, hmm, _, hx⟩
  · exact ⟨none, 0, [], rfl, Nat.le_refl _, by simp, ⟨rfl, by simp, fun h => absurd h (by simp)⟩, fun y hy => by cases hy⟩
  · have hlm : len ≤ m := by rw [hmm]; simp; omega
    unfold maxLen at hm
    obtain ⟨Y, hY⟩ := choose_lt (α := α) (n := len) (p := fun i y => ∃ cs', W.cells? 0 (a.add (i * P.cellsOf e)) (P.cellsOf e) = some cs' ∧ d.K W y cs' ∧ p y) (fun i hi => by
      obtain ⟨cs', h1, h2⟩ := hx i (by omega)
      obtain ⟨y, hy, hp⟩ := o _ _ _ h2
      exact ⟨y, cs', h1, hy, hp⟩)
    have hlen : ((List.range len).map Y).length = len := by simp
    refine ⟨some a, cap, (List.range len).map Y, by rw [hlen], by rw [hlen]; exact hl, by rw [hlen]; omega, ⟨rfl, by rw [hlen]; omega, fun _ => ⟨a, rfl, fun j q hj => ?_⟩⟩, fun y hy => ?_⟩
    · obtain ⟨hj1, hj2⟩ := List.getElem?_eq_some_iff.1 hj
      rw [hlen] at hj1
      simp only [List.getElem_map, List.getElem_range] at hj2
      subst hj2
      obtain ⟨cs', h1, h2, _⟩ := hY j hj1
      obtain ⟨_, g1, g2⟩ := World.cells?_some h1
      refine ⟨cs', by rw [g1, hc], h2, fun i u hu => ?_⟩
      have := g2 i (by rw [← g1]; exact (List.getElem?_eq_some_iff.1 hu).1)
      rw [Go.Deep.add_add, hc, hu] at this
      exact this
    · obtain ⟨j, hj, rfl⟩ := List.mem_map.mp hy
      obtain ⟨_, _, _, hp⟩ := hY j (List.mem_range.mp hj)
      exact hp
theorem open_intsR {P : Program} {H : Type} {enc : TypeId × Value → H} {W : World} {k : IntKind} {t e : TypeId} {fuel : Nat} {cs : List Value} {x : DataW H × List MemPlace} (ht : P.underlying t = some (.slice e)) (he : P.underlying e = some (.int k)) (hc : P.cellsOf e = 1) (h : DataW.trod enc P W 0 (fun _ => true) true fuel t cs = some x) :
    ∃ (A : Option Addr) (c : Nat) (l : List Int), cs = [.slice A l.length c] ∧ l.length ≤ c ∧ (l.length : Int) ≤ 9223372036854775807 ∧ (Kd.int k).C W A l.length l ∧ ∀ y ∈ l, (Lit.int k y).wf = true :=
  open_rowP ht hc (fun fuel cs x h => by
    obtain ⟨s, rfl, _, hs⟩ := DataW.trod_int he h
    exact ⟨s, rfl, hs⟩) h
end Go.Proofs.YtdgmkfbmeaalpaaDoor.Pur
end
section
namespace Go.Proofs.YtdgmkfbmeaalpaaDoor.Pur
open Go
variable {H : Type} {enc : TypeId × Value → H}
theorem handed_shaped_and {a : Assume} {C : Checked} {os : Os} {f : FuncId} {fn : Func} {s : ChangeSpec} {conds : List PathCond} {apart fresh handsOn again : Bool} {X : World → Array Value → Prop}
    (hX : ∀ (w w' : World) (args : Array Value), w.heap = w'.heap → X w args → X w' args)
    (own : ownKnob C.prog.godebug = none) (started : os.Started) (noInit : C.prog.inits.idxOf? f = none) (hfn : C.prog.funcs[f]? = some fn)
    (witness : ∃ (w : World) (tape : Tape) (i : Input), w.os = os ∧ (w.forCall tape i).Shaped C.prog ∧ i.vars = [] ∧ Input.okWide C.prog (w.forCall tape i) .any w.heap.size f i ∧
      ((s.pre enc C.prog fn conds apart (w.forCall tape i).memory i.args ∧ X (w.forCall tape i).memory i.args) ∧ sizedMet enc C.prog fn (OpenSpec.ofChange s) apart (w.forCall tape i).memory i.args) ∧ a.holds C.prog (lone (Frame.enter C.prog f i.args .normal) [] (w.forCall tape i)))
    (contract : ∀ (W : World) (base : Nat) (args : Array Value) (ds gs : List (DataW H)) (before : List MemPlace),
      (∀ (j : Nat) t v, fn.params[j]? = some t → args[j]? = some v → Value.okWide C.prog W .any base t v) →
      DataW.Whole enc C.prog fn.params.toList s.vars apart W args.toList ds gs before →
      conds.all (PathCond.test C.prog ⟨fn.params.toList, ds, s.plain.varTypes C.prog, gs⟩) = true →
      (DataW.weightsEach C.prog (fn.params.toList ++ s.plain.varTypes C.prog) (ds ++ gs)).all (· ≤ reachBytes) = true → X W args → W.ShapedOpen C.prog →
      a.holds C.prog (lone (Frame.enter C.prog f args .normal) [] W) →
      Calls C.prog f args W fun e W' => ∃ v, e = .returned v ∧ s.post enc C.prog fn apart fresh handsOn again W args v W') :
    ReturnsInHanded a C os f .any (fun w args => (s.pre enc C.prog fn conds apart w args ∧ X w args) ∧ sizedMet enc C.prog fn (OpenSpec.ofChange s) apart w args) (s.post enc C.prog fn apart fresh handsOn again) := by
  refine returnsInHanded_of_calls own started noInit witness ?_
  intro w tape i _ hsh _ hok hpre hholds
  obtain ⟨_, _, _, fn', hfn', _, _, _, _, hval⟩ := hok
  have e : fn' = fn := Option.some.inj (hfn'.symm.trans hfn)
  subst e
  obtain ⟨⟨⟨ds, gs, before, hw, hc⟩, hx⟩, hz⟩ := hpre
  have hw' := DataW.Whole.of_heap (w' := w.forCall tape i) (by rfl) hw
  refine (contract (w.forCall tape i) w.heap.size i.args ds gs before hval hw' hc (hz.weights hw) (hX _ _ _ (by rfl) hx) hsh hholds).mono fun e W' ⟨v, he, hp⟩ => ?_
  subst he
  exact ChangeSpec.post_blind hp
end Go.Proofs.YtdgmkfbmeaalpaaDoor.Pur
end
section
namespace Go.Proofs.YtdgmkfbmeaalpaaDoor.Pur
open Go.Proofs.YtdgmkfbmeaalpaaDoor.E
theorem gok0 {W : World} (h : W.ShapedOpen Tryd.prog) : GOk [0] W := by
  intro n hn
  obtain rfl := List.mem_singleton.mp hn
  exact Tryd.laysCut.s1_3 W h
end Go.Proofs.YtdgmkfbmeaalpaaDoor.Pur
end
section
namespace Go.Proofs.YtdgmkfbmeaalpaaDoor.fnPsalmBest
open Go.ChangeShapes Go.WideShapes Go.ChangeAt Go.RowKit
open Go.ChangeMaps (open_string shut_string)
set_option linter.unusedVariables false
theorem own : ownKnob Tryd.prog.godebug = none := by kernel_rfl
theorem laidOut : laidOutB Tryd.prog = true := by kernel_rfl
set_option maxRecDepth 100000 in
theorem lifted (os : Os) (started : os.Started) (H : Type) (enc : TypeId × Value → H) :
    ReturnsInHanded {} Tryd.checked os 10 .any (fun w args => (Rows.fnPsalmBestSpec.pre enc Tryd.prog Tryd.f10 Rows.fnPsalmBestRow.domain false w args ∧ laidMetH Tryd.prog Rows.fnPsalmBestRow.laid w) ∧ sizedMet enc Tryd.prog Tryd.f10 (OpenSpec.ofChange Rows.fnPsalmBestSpec) false w args) (Rows.fnPsalmBestSpec.post enc Tryd.prog Tryd.f10 false true false false) := by
  refine Pur.handed_shaped_and (C := Tryd.checked) (X := fun w _ => laidMetH Tryd.prog Rows.fnPsalmBestRow.laid w) (fun _ _ _ hh h => h.of_heap hh) own started (by kernel_rfl) Tryd.func10
    (ChangeSpec.witness_shaped (enc := enc) (C := Tryd.checked) (os := os) (X := fun w _ => laidMetH Tryd.prog Rows.fnPsalmBestRow.laid w) false (World.laidAll Tryd.prog os Rows.fnPsalmBestRow.laid) #[.slice none 0 0] 8 (World.laidAll_os _ _ _) (World.shaped_of_ZipB (by kernel_rfl) (by kernel_rfl)) (by kernel_rfl) (by kernel_rfl) (by kernel_rfl) (by rw [MakeChecks.laidMetH_plain _ _ _ (by kernel_rfl)]; exact laidMet_laidAll _ (by kernel_rfl) (by kernel_rfl))) ?_
  intro W base args ds gs before hval0 hW hcnd hsz0 hL hSh _
  have hsz : (DataW.weightsEach Tryd.prog (Tryd.f10.params.toList ++ Rows.fnPsalmBestSpec.plain.varTypes Tryd.prog) (ds ++ gs)).all (· ≤ reachBytes) = true := hsz0
  have hval : ∀ (j : Nat) t v, Tryd.f10.params[j]? = some t → args[j]? = some v → Value.okWide Tryd.prog W .any base t v := hval0
  have hW' := hW
  obtain ⟨p, q, hA0, hV, rfl, hfz, hnd⟩ := hW
  have hA : DataW.TrodAll enc Tryd.prog W 0 (fun _ => true) true Tryd.f10.params.toList args.toList ds p := hA0
  rw [Tryd.params10] at hA hval hsz
  obtain ⟨v0, vs0, d0, ds0, p0, q0, hargs, rfl, rfl, h0, r0⟩ := trodAll_cons hA
  obtain ⟨rfl, rfl, rfl⟩ := trodAll_nil r0
  obtain rfl : args = #[v0] := by cases args; simp_all
  obtain ⟨rfl, rfl⟩ := trodVars_none hV
  have k0 := h0
  have lt0 : ∀ x ∈ p0, x.block < W.heap.size := by obtain ⟨m, hm⟩ := k0; exact DataW.trod_lt m _ _ _ hm
  obtain ⟨a0, len0, cap0, rfl⟩ := okWide_slice Tryd.underlying22 (hval 0 22 v0 rfl rfl)
  obtain ⟨fuel0, hf0⟩ := h0
  obtain ⟨A0, c0, l0, hcs0, hle0, hm0, hC0, hx0⟩ := Pur.open_intsR Tryd.underlying22 Tryd.underlying5 (by kernel_rfl) hf0
  simp [Value.cells] at hcs0
  obtain ⟨rfl, rfl, rfl⟩ := hcs0
  clear hA0 hval0 hsz0 hsz
  obtain ⟨k, hk⟩ := Pur.law_best l0 hm0 hx0
  refine (E.laws_FnPsalmBest.calls k _ _ l0 true W hC0 hle0 (Pur.gok0 hSh) hk).mono fun e W' ⟨he, bel⟩ => ?_
  subst he
  exact ⟨_, rfl, _, _, _, [], _, [], hW', trodAll_mk1 (shut_bool Tryd.underlying4 _), (trodAll_cons_mk (Below.trod laidOut (by kernel_rfl) (of_decide_eq_true (by kernel_rfl)) k0 bel lt0) trodAll_mk0), rfl, bel.frame _, fun h => by cases h⟩
set_option maxRecDepth 100000 in
theorem closed : joinedFacts Tryd.prog 10 Tryd.f10 Rows.fnPsalmBestSpec Rows.fnPsalmBestRow = true := by
  have hf : (Rows.fnPsalmBestRow.lifted == Tryd.prog.liftsFinal) = true := by rw [Head.finE]; kernel_rfl
  have hm : (Tryd.prog.make == some Rows.fnPsalmBestRow.make) = true := by rw [Head.makeE]; kernel_rfl
  unfold joinedFacts
  repeat' (with_reducible refine Head.and_t ?_ ?_)
  all_goals first | with_reducible exact Head.mayE | with_reducible exact hf | with_reducible exact hm | (as_aux_lemma => kernel_rfl)
theorem over : Rows.fnPsalmBestRow.holds Tryd.pinned (OpenSpec.ofChange Rows.fnPsalmBestSpec) :=
  OpenClaim.holds_of_wide 10 Tryd.f10 rfl rfl rfl rfl rfl rfl rfl ⟨rfl, rfl, rfl, rfl, rfl⟩ rfl rfl rfl rfl rfl (by kernel_rfl) Tryd.func10 closed
    (of_decide_eq_true (by kernel_rfl)) (by unfold Func.isWrapper; first | (rw [if_pos (by decide +kernel)]; kernel_rfl) | (rw [if_neg (by decide +kernel)]; exact ⟨rfl, rfl⟩))
    (fun os started H enc _ => lifted os started H enc)
theorem card_ : Rows.FnPsalmBestCardSaid :=
  Claim7.holds_tied_plain_at .later [] [.data, .pinned] true (true, "95c8318e1392eb2a5db7b8b7a99d282c56258e7fe61e0da8e429e6d5d304e4ee") false
    over (fun _ h => by cases h) (by as_aux_lemma => kernel_rfl) (fun _ h => by cases h) fnPsalmBest_row_tie rfl ⟨rfl, rfl⟩ (Head.mainE.trans (by as_aux_lemma => kernel_rfl)) rfl
    (fun f fn hf hfn => by
      obtain rfl : f = 10 := Option.some.inj ((show Tryd.prog.funcNamed "loop.example/neumes/laws.FnPsalmBest" = some 10 by kernel_rfl).symm.trans hf) |>.symm
      obtain rfl : fn = Tryd.f10 := (Option.some.inj (Tryd.func10.symm.trans hfn)).symm
      exact ⟨by kernel_rfl, fun j t ht => by
        rw [Tryd.params10] at ht
        have hm : t ∈ [22] := by simpa using Array.mem_of_getElem? ht
        have hall : ([22].all fun u => !Tryd.prog.wantsStandIn u) = true := by kernel_rfl
        exact (show Tryd.prog.wantsStandIn t = false by simpa using List.all_eq_true.1 hall t hm)⟩)
    (by kernel_rfl)
theorem proved : Rows.FnPsalmBestCardSaid := card_
#print axioms proved
end Go.Proofs.YtdgmkfbmeaalpaaDoor.fnPsalmBest
namespace Go.Proofs.YtdgmkfbmeaalpaaDoor
theorem fnPsalmBest_holds : Rows.FnPsalmBestCardSaid := fnPsalmBest.proved
end Go.Proofs.YtdgmkfbmeaalpaaDoor
end
