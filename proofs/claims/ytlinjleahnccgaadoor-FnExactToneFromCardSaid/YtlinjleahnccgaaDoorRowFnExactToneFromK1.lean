/- Proved: for all arguments the given program's laws.FnExactToneFrom returns true, and its arguments and the package-level variables that it is given read afterwards as they read before (the given constant Rows.FnExactToneFromCardSaid).
Conditions: none ahead of the given statement; the statement itself begins in a world whose listed package-level variables hold what the program's text lays there, and its card ties them to that text. -/
import Derived.Test.YtlinjleahnccgaaDoorRowFnExactToneFromK0
section
namespace Go.Proofs.YtlinjleahnccgaaDoor.Pur
open Go.RowKit Go.Proofs.YtlinjleahnccgaaDoorW.PrintWords Go.Proofs.YtlinjleahnccgaaDoor.E
abbrev Tn := S25
def lett (s : Int) : ByteArray := lnames.getD (s % 7).toNat ByteArray.empty
def dig (s : Int) : ByteArray := ⟨#[UInt8.ofNat (48 + (s / 7).toNat)]⟩
def txt (t : Tn) : ByteArray := (if t.f1 = true then ⟨#[98]⟩ else lett t.f0) ++ dig t.f0
theorem ok_parts {t : Tn} (h : okT t = true) : 0 ≤ t.f0 ∧ t.f0 ≤ 20 ∧ (t.f1 = true → t.f0 % 7 = 2) := by
  unfold okT at h
  simp only [Bool.and_eq_true, decide_eq_true_eq, Bool.or_eq_true, Bool.not_eq_true'] at h
  obtain ⟨⟨h1, h2⟩, h3⟩ := h
  refine ⟨h1, h2, fun e => ?_⟩
  rcases h3 with h3 | h3
  · rw [e] at h3; cases h3
  · exact h3
theorem lett_size (s : Int) : (lett s).size ≤ 1 := by
  unfold lett lnames
  match (s % 7).toNat with
  | 0 => decide
  | 1 => decide
  | 2 => decide
  | 3 => decide
  | 4 => decide
  | 5 => decide
  | 6 => decide
  | _ + 7 => simp
theorem oct {s : Int} (h0 : 0 ≤ s) (h1 : s ≤ 20) : wrap64 (Int.tdiv s 7) = s / 7 := by
  rw [tdiv_pos 7 h0, w64 (by omega) (by omega)]
theorem itoa_s {s : Int} (h0 : 0 ≤ s) (h1 : s ≤ 20) : strconv_Itoa.f (wrap64 (Int.tdiv s 7)) = some (dig s) := by
  rw [oct h0 h1]
  unfold strconv_Itoa.f dig
  rw [if_pos (by omega), if_pos (by omega), Go.Lib.decDigits_one (by omega)]
theorem dec_0 : strOfNums [wrap64 (48 + 0) % 256] = ⟨#[UInt8.ofNat (48 + Int.toNat 0)]⟩ := by kernel_rfl
theorem dec_1 : strOfNums [wrap64 (48 + 1) % 256] = ⟨#[UInt8.ofNat (48 + Int.toNat 1)]⟩ := by kernel_rfl
theorem dec_2 : strOfNums [wrap64 (48 + 2) % 256] = ⟨#[UInt8.ofNat (48 + Int.toNat 2)]⟩ := by kernel_rfl
theorem dec_s {s : Int} (h0 : 0 ≤ s) (h1 : s ≤ 20) : EvP (fun k => spec_l6Dec.f k (wrap64 (Int.tdiv s 7))) (· = dig s) := by
  rw [oct h0 h1]
  refine EvP.step (fun k => rfl) (EvP.no (by omega) (EvP.no (by omega) (EvP.yes (by omega) (EvP.ret ?_))))
  unfold dig
  have h : s / 7 = 0 ∨ s / 7 = 1 ∨ s / 7 = 2 := by omega
  rcases h with h | h | h <;> rw [h]
  · exact dec_0
  · exact dec_1
  · exact dec_2
theorem impl_text {t : Tn} (h : okT t = true) : impl_Tone_text.f t.f0 t.f1 = some (txt t) := by
  obtain ⟨h0, h1, h2⟩ := ok_parts h
  unfold impl_Tone_text.f impl_Tone_letter.f
  rw [if_pos h0, itoa_s h0 h1]
  have hs : (lett t.f0).size ≤ 1 := lett_size _
  unfold txt
  unfold lett at hs ⊢
  by_cases hb : t.f1 = true
  · simp only [Option.bind_some, hb, if_true]
    exact if_pos (by rw [show (dig t.f0).size = 1 from rfl]; decide)
  · have hb' := Bool.eq_false_iff.mpr hb
    simp only [Option.bind_some, hb', Bool.false_eq_true, if_false]
    refine if_pos ?_
    have : (dig t.f0).size = 1 := rfl
    omega
theorem cut_letter : ∀ m : Nat, m < 7 → (⟨#[71, 65, 66, 67, 68, 69, 70]⟩ : ByteArray).extract m (m + 1) = lnames.getD m ByteArray.empty
  | 0, _ => by kernel_rfl
  | 1, _ => by kernel_rfl
  | 2, _ => by kernel_rfl
  | 3, _ => by kernel_rfl
  | 4, _ => by kernel_rfl
  | 5, _ => by kernel_rfl
  | 6, _ => by kernel_rfl
  | _ + 7, h => absurd h (by omega)
theorem spec_letter {t : Tn} (h : okT t = true) : spec_ToneLetter.f t.f0 t.f1 = some (lett t.f0) := by
  obtain ⟨h0, h1, h2⟩ := ok_parts h
  unfold spec_ToneLetter.f spec_l1Letter.f lett
  rw [spec_valid, h]
  simp only [Option.bind_some, if_true]
  rw [tmod_pos 7 h0]
  have hm0 : 0 ≤ t.f0 % 7 := by omega
  have hm1 : t.f0 % 7 < 7 := by omega
  generalize t.f0 % 7 = m at hm0 hm1
  obtain ⟨n, rfl⟩ := Int.eq_ofNat_of_zero_le hm0
  rw [w64 (by omega) (by omega), if_pos hm0, if_pos (by omega), if_pos (by omega), toNat_nat, toNat_succ, cut_letter n (by omega)]
theorem spec_ttext (t : Tn) : EvP (fun k => spec_ToneText.f k t.f0 t.f1) (· = (if okT t = true then txt t else ⟨#[]⟩)) := by
  simp only [spec_ToneText.f]
  refine EvP.bind (P := (· = okT t)) (EvP.con (spec_valid t) rfl) (fun _ e => ?_)
  subst e
  refine EvP.ite (fun h => ?_) (fun h => EvP.ret (by rw [if_neg h]))
  obtain ⟨h0, h1, h2⟩ := ok_parts h
  rw [if_pos h]
  unfold txt
  have hd : (dig t.f0).size = 1 := rfl
  refine EvP.ite (fun hb => ?_) (fun hb => ?_)
  · refine EvP.bind (dec_s h0 h1) (fun _ e => ?_)
    subst e
    refine EvP.yes (by omega) (EvP.ret ?_)
    rw [if_pos hb]
  · refine EvP.bind (P := (· = lett t.f0)) (EvP.con (spec_letter h) rfl) (fun _ e => ?_)
    subst e
    refine EvP.bind (dec_s h0 h1) (fun _ e => ?_)
    subst e
    have := lett_size t.f0
    refine EvP.yes (by omega) (EvP.ret ?_)
    rw [if_neg hb]
def tonesFrom : Nat → Int → List Tn
  | 0, _ => []
  | d + 1, i => (if okT ⟨i, false⟩ = true then [⟨i, false⟩] else []) ++ ((if okT ⟨i, true⟩ = true then [⟨i, true⟩] else []) ++ tonesFrom d (i + 1))
def tones : List Tn := [⟨0, false⟩, ⟨1, false⟩, ⟨2, false⟩, ⟨2, true⟩, ⟨3, false⟩, ⟨4, false⟩, ⟨5, false⟩, ⟨6, false⟩, ⟨7, false⟩, ⟨8, false⟩, ⟨9, false⟩, ⟨9, true⟩, ⟨10, false⟩, ⟨11, false⟩, ⟨12, false⟩, ⟨13, false⟩, ⟨14, false⟩, ⟨15, false⟩, ⟨16, false⟩, ⟨16, true⟩, ⟨17, false⟩, ⟨18, false⟩, ⟨19, false⟩, ⟨20, false⟩]
def stones : List Tn := [⟨0, false⟩, ⟨1, false⟩, ⟨2, true⟩, ⟨2, false⟩, ⟨3, false⟩, ⟨4, false⟩, ⟨5, false⟩, ⟨6, false⟩, ⟨7, false⟩, ⟨8, false⟩, ⟨9, true⟩, ⟨9, false⟩, ⟨10, false⟩, ⟨11, false⟩, ⟨12, false⟩, ⟨13, false⟩, ⟨14, false⟩, ⟨15, false⟩, ⟨16, true⟩, ⟨16, false⟩, ⟨17, false⟩, ⟨18, false⟩, ⟨19, false⟩, ⟨20, false⟩]
theorem tones_is : tonesFrom 21 0 = tones := by kernel_rfl
def fnd (L : List UInt8) : List Tn → Int × Bool × Bool
  | [] => (0, false, false)
  | t :: ts => if (txt t).toList = L then (t.f0, t.f1, true) else fnd L ts
theorem try_is (a0 : ByteArray) (i : Int) (b : Bool) (g : Int × Bool × Bool) : tfTry a0 i b (some g) = some (if okT ⟨i, b⟩ = true then (if (txt ⟨i, b⟩).toList = a0.toList then (i, b, true) else g) else g) := by
  unfold tfTry
  rw [show impl_Tone_valid.f i b = some (okT ⟨i, b⟩) from impl_valid ⟨i, b⟩]
  by_cases h : okT ⟨i, b⟩ = true
  · simp only [Option.bind_some, h, if_true]
    rw [show impl_Tone_text.f i b = some (txt ⟨i, b⟩) from impl_text h, Option.bind_some]
    by_cases e : (txt ⟨i, b⟩).toList = a0.toList
    · rw [if_pos e, if_pos e]
    · rw [if_neg e, if_neg e]
  · simp only [Option.bind_some, h]
    rfl
theorem loop_is (a0 : ByteArray) : ∀ (d : Nat) (i : Int), tfLoop a0 d i = some (fnd a0.toList (tonesFrom d i))
  | 0, i => rfl
  | d + 1, i => by
    unfold tfLoop tonesFrom
    rw [loop_is a0 d (i + 1), try_is, try_is]
    by_cases h1 : okT ⟨i, false⟩ = true
    · rw [if_pos h1, if_pos h1, List.singleton_append]
      simp only [fnd]
      by_cases h2 : okT ⟨i, true⟩ = true
      · rw [if_pos h2, if_pos h2, List.singleton_append]
        rfl
      · rw [if_neg h2, if_neg h2, List.nil_append]
    · rw [if_neg h1, if_neg h1, List.nil_append]
      by_cases h2 : okT ⟨i, true⟩ = true
      · rw [if_pos h2, if_pos h2, List.singleton_append]
        rfl
      · rw [if_neg h2, if_neg h2, List.nil_append]
theorem impl_from (s : ByteArray) : impl_ToneFrom.f s = some (fnd s.toList tones) := by
  unfold impl_ToneFrom.f
  rw [loop_is, tones_is]
theorem l1All_is : EvP (fun k => spec_l1All.f k) (· = stones) := EvP.of (Ev.of (fun k => spec_l1All.mono k) (k := 30) (by kernel_rfl)) rfl
theorem ok_stones : ∀ t ∈ stones, okT t = true := by
  have h : stones.all okT = true := by kernel_rfl
  exact List.all_eq_true.mp h
theorem spec_from_loop (s : ByteArray) (l : List Tn) (hl : l.length ≤ 100) (hk : ∀ t ∈ l, okT t = true) : ∀ d i : Nat, i + d = l.length → EvP (fun k => spec_ToneFrom.l0 k s l (i : Int)) (· = fnd s.toList (l.drop i)) := by
  intro d
  induction d with
  | zero =>
    intro i hi
    refine EvP.step (fun k => rfl) (EvP.no (by omega) (EvP.ret ?_))
    rw [List.drop_of_length_le (by omega)]
    rfl
  | succ d ih =>
    intro i hi
    have hlt : i < l.length := by omega
    have hok : okT l[i] = true := hk _ (List.getElem_mem hlt)
    refine EvP.step (fun k => rfl) (EvP.yes (by omega) (EvP.yes (by omega) ?_))
    rw [rdT_lt hlt, List.drop_eq_getElem_cons hlt]
    refine EvP.bind (spec_ttext l[i]) (fun _ e => ?_)
    rw [if_pos hok] at e
    subst e
    simp only [fnd]
    refine EvP.ite (fun h => EvP.ret (by rw [if_pos h])) (fun h => ?_)
    rw [if_neg h, w64 (by omega) (by omega)]
    exact ih (i + 1) (by omega)
theorem fnd_miss (L : List UInt8) : ∀ (l : List Tn), (∀ t ∈ l, (txt t).toList ≠ L) → fnd L l = (0, false, false)
  | [], _ => rfl
  | t :: ts, h => by
    unfold fnd
    rw [if_neg (h t List.mem_cons_self)]
    exact fnd_miss L ts (fun u hu => h u (List.mem_cons_of_mem _ hu))
theorem fnd_hits : ∀ t ∈ tones, fnd (txt t).toList tones = (t.f0, t.f1, true) ∧ fnd (txt t).toList stones = (t.f0, t.f1, true) := by
  have h : tones.all (fun t => decide (fnd (txt t).toList tones = (t.f0, t.f1, true)) && decide (fnd (txt t).toList stones = (t.f0, t.f1, true))) = true := by kernel_rfl
  intro t ht
  have := List.all_eq_true.mp h t ht
  rw [Bool.and_eq_true, decide_eq_true_eq, decide_eq_true_eq] at this
  exact this
theorem mem_tones {t : Tn} (h : okT t = true) : t ∈ tones := by
  obtain ⟨h0, h1, h2⟩ := ok_parts h
  obtain ⟨s, b⟩ := t
  simp only at h0 h1 h2
  obtain ⟨n, rfl⟩ := Int.eq_ofNat_of_zero_le h0
  have hn : n ≤ 20 := by omega
  cases b with
  | false =>
    have : n = 0 ∨ n = 1 ∨ n = 2 ∨ n = 3 ∨ n = 4 ∨ n = 5 ∨ n = 6 ∨ n = 7 ∨ n = 8 ∨ n = 9 ∨ n = 10 ∨ n = 11 ∨ n = 12 ∨ n = 13 ∨ n = 14 ∨ n = 15 ∨ n = 16 ∨ n = 17 ∨ n = 18 ∨ n = 19 ∨ n = 20 := by omega
    rcases this with rfl | rfl | rfl | rfl | rfl | rfl | rfl | rfl | rfl | rfl | rfl | rfl | rfl | rfl | rfl | rfl | rfl | rfl | rfl | rfl | rfl <;> simp [tones]
  | true =>
    have h3 := h2 rfl
    have : n = 2 ∨ n = 9 ∨ n = 16 := by omega
    rcases this with rfl | rfl | rfl <;> simp [tones]
theorem fnd_same (L : List UInt8) : fnd L stones = fnd L tones := by
  by_cases h : ∃ t ∈ tones, (txt t).toList = L
  · obtain ⟨t, ht, rfl⟩ := h
    rw [(fnd_hits t ht).1, (fnd_hits t ht).2]
  · have h' : ∀ t ∈ tones, (txt t).toList ≠ L := fun t ht e => h ⟨t, ht, e⟩
    rw [fnd_miss L tones h', fnd_miss L stones (fun t ht => h' t (mem_tones (ok_stones t ht)))]
theorem spec_from (s : ByteArray) : EvP (fun k => spec_ToneFrom.f k s) (· = fnd s.toList tones) := by
  simp only [spec_ToneFrom.f]
  refine EvP.bind l1All_is (fun _ e => ?_)
  subst e
  rw [← fnd_same]
  exact spec_from_loop s stones (by decide) ok_stones stones.length 0 (by omega)
end Go.Proofs.YtlinjleahnccgaaDoor.Pur
end
section
namespace Go.Proofs.YtlinjleahnccgaaDoor.E
open Go.RowKit Go.Proofs.YtlinjleahnccgaaDoorW.PrintWords Go.Proofs.YtlinjleahnccgaaDoorW.PrintLast Go.Proofs.YtlinjleahnccgaaDoorW.PrintMore
attribute [local go_sem] max2_int min2_int max_two min_two max_three min_three max_four min_four
set_option linter.unusedVariables false
set_option linter.unusedSimpArgs false
attribute [local go_sem] str_leq_ str_gtr_ str_geq_
def impl_ToneAbove.j0 : Nat → Int → Bool → Bool → Int → Bool → Option (Int × Bool × Bool)
 | 0, _, _, _, _, _ => none
 | k + 1, x1, x2, x19, x209000, x209001 => if x19 = true then (some (0, false, false)) else ((impl_Tone_valid.f (wrap64 (x209000 + x1)) x2).bind fun t212 => (if t212 = true then (some (wrap64 (x209000 + x1), x2, true)) else (some (0, false, false))))
def impl_ToneAbove.f (k : Nat) (a0_0 : Int) (a0_1 : Bool) (a1 : Int) (a2 : Bool) : Option (Int × Bool × Bool) := (impl_Tone_valid.f a0_0 a0_1).bind fun t210 => (if t210 = true then (if a1 < (-20) then (impl_ToneAbove.j0 k a1 a2 true a0_0 a0_1) else (impl_ToneAbove.j0 k a1 a2 (decide (a1 > 20)) a0_0 a0_1)) else (impl_ToneAbove.j0 k a1 a2 true a0_0 a0_1))
end Go.Proofs.YtlinjleahnccgaaDoor.E
end
section
namespace Go.Proofs.YtlinjleahnccgaaDoor.Pur
open Go.RowKit Go.Proofs.YtlinjleahnccgaaDoorW.PrintWords Go.Proofs.YtlinjleahnccgaaDoor.E
def above (s k : Int) (b : Bool) : Int × Bool × Bool := if -20 ≤ k ∧ k ≤ 20 ∧ okT ⟨s + k, b⟩ = true then (s + k, b, true) else (0, false, false)
end Go.Proofs.YtlinjleahnccgaaDoor.Pur
end
section
namespace Go.Proofs.YtlinjleahnccgaaDoor.E
open Go.RowKit Go.Proofs.YtlinjleahnccgaaDoorW.PrintWords Go.Proofs.YtlinjleahnccgaaDoorW.PrintLast Go.Proofs.YtlinjleahnccgaaDoorW.PrintMore
attribute [local go_sem] max2_int min2_int max_two min_two max_three min_three max_four min_four
set_option linter.unusedVariables false
set_option linter.unusedSimpArgs false
attribute [local go_sem] str_leq_ str_gtr_ str_geq_
def IsS80 (w0 W : World) (g : Nat) (f0 : List Int) (f1 : Int) : Prop := ∃ A0 c0, W.heap[g]? = some (.cells #[.slice A0 f0.length c0, .int .i64 f1] 80 (0, 0)) ∧ w0.heap.size ≤ g ∧ Kd.C (Kd.int .u8) w0 A0 f0.length f0
def spec_l6Rd_pick.j0 : Nat → Int → Bool → List Int → Int → Option (Int × Int)
 | 0, _, _, _, _ => none
 | k + 1, x1, x24, x1000, x1001 => if x24 = true then (some (0, x1001)) else (if (wrap64 (x1001 - 1)) < (x1000.length : Int) then (if 0 ≤ (wrap64 (x1001 - 1)) then (if x1 = 0 then (none) else (some (Int.tmod (wrap64 (rd x1000 (wrap64 (x1001 - 1)))) x1, x1001))) else (none)) else (if (x1000.length : Int) = 0 then (none) else (if 0 ≤ (Int.tmod (wrap64 (x1001 - 1)) (x1000.length : Int)) then (if (Int.tmod (wrap64 (x1001 - 1)) (x1000.length : Int)) < (x1000.length : Int) then (if 0 ≤ (Int.tmod (wrap64 ((wrap64 ((wrap64 (x1001 - 1)) * 7)) + 3)) (x1000.length : Int)) then (if (Int.tmod (wrap64 ((wrap64 ((wrap64 (x1001 - 1)) * 7)) + 3)) (x1000.length : Int)) < (x1000.length : Int) then (if x1 = 0 then (none) else (some (Int.tmod (Go.bits .xor .i64 (wrap64 ((wrap64 ((wrap64 ((wrap64 ((wrap64 (rd x1000 (Int.tmod (wrap64 (x1001 - 1)) (x1000.length : Int)))) * 131)) + (wrap64 ((wrap64 (rd x1000 (Int.tmod (wrap64 ((wrap64 ((wrap64 (x1001 - 1)) * 7)) + 3)) (x1000.length : Int)))) * 1117)))) + (wrap64 ((wrap64 (x1001 - 1)) * 29)))) + (wrap64 ((wrap64 (Int.tdiv (wrap64 (x1001 - 1)) (x1000.length : Int))) * 53)))) (wrap64 (Int.tdiv (wrap64 ((wrap64 ((wrap64 ((wrap64 ((wrap64 (rd x1000 (Int.tmod (wrap64 (x1001 - 1)) (x1000.length : Int)))) * 131)) + (wrap64 ((wrap64 (rd x1000 (Int.tmod (wrap64 ((wrap64 ((wrap64 (x1001 - 1)) * 7)) + 3)) (x1000.length : Int)))) * 1117)))) + (wrap64 ((wrap64 (x1001 - 1)) * 29)))) + (wrap64 ((wrap64 (Int.tdiv (wrap64 (x1001 - 1)) (x1000.length : Int))) * 53)))) 64))) x1, x1001))) else (none)) else (none)) else (none)) else (none))))
def spec_l6Rd_pick.f (k : Nat) (s0_0 : List Int) (s0_1 : Int) (a1 : Int) : Option (Int × Int) := if a1 < 1 then (spec_l6Rd_pick.j0 k a1 true s0_0 (wrap64 (s0_1 + 1))) else (spec_l6Rd_pick.j0 k a1 ((s0_0.length : Int) == 0) s0_0 (wrap64 (s0_1 + 1)))
end Go.Proofs.YtlinjleahnccgaaDoor.E
end
section
namespace Go.Proofs.YtlinjleahnccgaaDoor.E
open Go.RowKit Go.Proofs.YtlinjleahnccgaaDoorW.PrintWords Go.Proofs.YtlinjleahnccgaaDoorW.PrintLast Go.Proofs.YtlinjleahnccgaaDoorW.PrintMore
attribute [local go_sem] max2_int min2_int max_two min_two max_three min_three max_four min_four
set_option linter.unusedVariables false
set_option linter.unusedSimpArgs false
attribute [local go_sem] str_leq_ str_gtr_ str_geq_
def spec_l6Open.f (l0 : List Int) : Option (List Int × Int) := if (l0.length : Int) > 2000 then (if 2000 ≤ (l0.length : Int) then (some (l0.take 2000, 0)) else (none)) else (some (l0, 0))
end Go.Proofs.YtlinjleahnccgaaDoor.E
end
section
namespace Go.Proofs.YtlinjleahnccgaaDoor.Pur
open Go.RowKit Go.Proofs.YtlinjleahnccgaaDoorW.PrintWords Go.Proofs.YtlinjleahnccgaaDoorW.PrintMore Go.Proofs.YtlinjleahnccgaaDoor.E
def okB (B : List Int) : Prop := B.length ≤ 2000 ∧ ∀ x ∈ B, 0 ≤ x ∧ x ≤ 255
end Go.Proofs.YtlinjleahnccgaaDoor.Pur
end
section
namespace Go.Proofs.YtlinjleahnccgaaDoor.E
open Go.RowKit Go.Proofs.YtlinjleahnccgaaDoorW.PrintWords Go.Proofs.YtlinjleahnccgaaDoorW.PrintLast Go.Proofs.YtlinjleahnccgaaDoorW.PrintMore
attribute [local go_sem] max2_int min2_int max_two min_two max_three min_three max_four min_four
set_option linter.unusedVariables false
set_option linter.unusedSimpArgs false
attribute [local go_sem] str_leq_ str_gtr_ str_geq_
def spec_l6Rd_of.f (k : Nat) (s0_0 : List Int) (s0_1 : Int) (l1 : List ByteArray) : Option (ByteArray × Int) := (spec_l6Rd_pick.f k s0_0 s0_1 (l1.length : Int)).bind fun bt229 => (if 0 ≤ bt229.1 then (if bt229.1 < (l1.length : Int) then (some (rdOf ByteArray.empty l1 bt229.1, bt229.2)) else (none)) else (none))
end Go.Proofs.YtlinjleahnccgaaDoor.E
end
section
namespace Go.Proofs.YtlinjleahnccgaaDoor.E
open Go.RowKit Go.Proofs.YtlinjleahnccgaaDoorW.PrintWords Go.Proofs.YtlinjleahnccgaaDoorW.PrintLast Go.Proofs.YtlinjleahnccgaaDoorW.PrintMore
attribute [local go_sem] max2_int min2_int max_two min_two max_three min_three max_four min_four
set_option linter.unusedVariables false
set_option linter.unusedSimpArgs false
attribute [local go_sem] str_leq_ str_gtr_ str_geq_
def laws_toTone.f (a0_0 : Int) (a0_1 : Bool) : Option (Int × Bool) := some (a0_0, a0_1)
end Go.Proofs.YtlinjleahnccgaaDoor.E
end
section
namespace Go.Proofs.YtlinjleahnccgaaDoor.E
open Go.RowKit Go.Proofs.YtlinjleahnccgaaDoorW.PrintWords Go.Proofs.YtlinjleahnccgaaDoorW.PrintLast Go.Proofs.YtlinjleahnccgaaDoorW.PrintMore
attribute [local go_sem] max2_int min2_int max_two min_two max_three min_three max_four min_four
set_option linter.unusedVariables false
set_option linter.unusedSimpArgs false
attribute [local go_sem] str_leq_ str_gtr_ str_geq_
def laws_FnExactToneLetter.f (a0_0 : Int) (a0_1 : Bool) : Option (Bool) := (laws_toTone.f a0_0 a0_1).bind fun bt115 => ((spec_ToneLetter.f bt115.1 bt115.2).bind fun t117 => ((laws_toTone.f a0_0 a0_1).bind fun bt118 => ((impl_ToneLetter.f bt118.1 bt118.2).bind fun t120 => (if t120.toList = t117.toList then (some true) else (none)))))
end Go.Proofs.YtlinjleahnccgaaDoor.E
end
section
namespace Go.Proofs.YtlinjleahnccgaaDoor.E
open Go.RowKit Go.Proofs.YtlinjleahnccgaaDoorW.PrintWords Go.Proofs.YtlinjleahnccgaaDoorW.PrintLast Go.Proofs.YtlinjleahnccgaaDoorW.PrintMore
attribute [local go_sem] max2_int min2_int max_two min_two max_three min_three max_four min_four
set_option linter.unusedVariables false
set_option linter.unusedSimpArgs false
attribute [local go_sem] str_leq_ str_gtr_ str_geq_
def laws_FnExactToneText.f (k : Nat) (a0_0 : Int) (a0_1 : Bool) : Option (Bool) := (laws_toTone.f a0_0 a0_1).bind fun bt142 => ((spec_ToneText.f k bt142.1 bt142.2).bind fun t144 => ((laws_toTone.f a0_0 a0_1).bind fun bt145 => ((impl_ToneText.f bt145.1 bt145.2).bind fun t147 => (if t147.toList = t144.toList then (some true) else (none)))))
end Go.Proofs.YtlinjleahnccgaaDoor.E
end
section
namespace Go.Proofs.YtlinjleahnccgaaDoor.E
open Go.RowKit Go.Proofs.YtlinjleahnccgaaDoorW.PrintWords Go.Proofs.YtlinjleahnccgaaDoorW.PrintLast Go.Proofs.YtlinjleahnccgaaDoorW.PrintMore
attribute [local go_sem] max2_int min2_int max_two min_two max_three min_three max_four min_four
set_option linter.unusedVariables false
set_option linter.unusedSimpArgs false
attribute [local go_sem] str_leq_ str_gtr_ str_geq_
def spec_l91Tone.f (k : Nat) (s0_0 : List Int) (s0_1 : Int) : Option (Int × Bool × Int) := (spec_l6Rd_pick.f k s0_0 s0_1 40).bind fun bt183 => (if bt183.1 = 0 then ((some (([(-1), 21, 20, 0] : List Int) : List Int)).bind fun y185 => ((spec_l6Rd_pick.f k s0_0 bt183.2 4).bind fun bt188 => (if 0 ≤ bt188.1 then (if bt188.1 < (y185.length : Int) then (some (rd y185 bt188.1, false, bt188.2)) else (none)) else (none)))) else (if bt183.1 = 1 then ((spec_l6Rd_pick.f k s0_0 bt183.2 21).bind fun bt191 => (some (bt191.1, true, bt191.2))) else ((spec_l6Rd_pick.f k s0_0 bt183.2 11).bind fun bt193 => ((spec_l1Letter.f (wrap64 (3 + bt193.1))).bind fun t195 => (if t195 = 2 then ((spec_l6Rd_pick.f k s0_0 bt193.2 2).bind fun bt196 => (some (wrap64 (3 + bt193.1), (bt196.1 == 0), bt196.2))) else (some (wrap64 (3 + bt193.1), false, bt193.2)))))))
end Go.Proofs.YtlinjleahnccgaaDoor.E
end
section
namespace Go.Proofs.YtlinjleahnccgaaDoor.E
open Go.RowKit Go.Proofs.YtlinjleahnccgaaDoorW.PrintWords Go.Proofs.YtlinjleahnccgaaDoorW.PrintLast Go.Proofs.YtlinjleahnccgaaDoorW.PrintMore
attribute [local go_sem] max2_int min2_int max_two min_two max_three min_three max_four min_four
set_option linter.unusedVariables false
set_option linter.unusedSimpArgs false
attribute [local go_sem] str_leq_ str_gtr_ str_geq_
def spec_DrawToneText.f (k : Nat) (l0 : List Int) : Option (Int × Bool) := (spec_l6Open.f l0).bind fun bt202 => ((spec_l91Tone.f k bt202.1 bt202.2).bind fun bt205 => (some (bt205.1, bt205.2.1)))
end Go.Proofs.YtlinjleahnccgaaDoor.E
end
section
namespace Go.Proofs.YtlinjleahnccgaaDoor.E
open Go.RowKit Go.Proofs.YtlinjleahnccgaaDoorW.PrintWords Go.Proofs.YtlinjleahnccgaaDoorW.PrintLast Go.Proofs.YtlinjleahnccgaaDoorW.PrintMore
attribute [local go_sem] max2_int min2_int max_two min_two max_three min_three max_four min_four
set_option linter.unusedVariables false
set_option linter.unusedSimpArgs false
attribute [local go_sem] str_leq_ str_gtr_ str_geq_
def laws_FnToneText.j0 : Nat → ByteArray → ByteArray → Bool → Int → Bool → Option (Bool)
 | 0, _, _, _, _, _ => none
 | k + 1, x4, x5, x27, x216000, x216001 => if x27 = true then (some (x4.toList == x5.toList)) else ((impl_ToneFrom.f x4).bind fun bt218 => ((impl_ToneAbove.f k x216000 x216001 7 x216001).bind fun bt222 => ((impl_ToneLetter.f x216000 x216001).bind fun t226 => (if x216001 = true then ((impl_ToneText.f bt222.1 bt222.2.1).bind fun t227 => (if bt218.2.2 = true then (if bt218.1 = x216000 then (if bt218.2.1 = x216001 then (if (x4.size : Int) = 2 then (if 0 ≤ 1 then (if 1 ≤ (x4.size : Int) then (if (x4.extract 0 1).toList = ([98] : List UInt8) then (if bt222.2.2 = true then (if 1 ≤ (t227.size : Int) then (if (t227.extract 0 1).toList = ([98] : List UInt8) then (if 1 < (t227.size : Int) then (if 1 < (x4.size : Int) then (some ((bt t227 1) == (((bt x4 1) + 1) % 256))) else (none)) else (none)) else (none)) else (none)) else (some true)) else (none)) else (none)) else (none)) else (none)) else (none)) else (none)) else (none))) else ((impl_ToneText.f bt222.1 bt222.2.1).bind fun t228 => (if bt218.2.2 = true then (if bt218.1 = x216000 then (if bt218.2.1 = x216001 then (if (x4.size : Int) = 2 then (if 0 ≤ 1 then (if 1 ≤ (x4.size : Int) then (if (x4.extract 0 1).toList = t226.toList then (if bt222.2.2 = true then (if 1 ≤ (t228.size : Int) then (if (t228.extract 0 1).toList = t226.toList then (if 1 < (t228.size : Int) then (if 1 < (x4.size : Int) then (some ((bt t228 1) == (((bt x4 1) + 1) % 256))) else (none)) else (none)) else (none)) else (none)) else (some true)) else (none)) else (none)) else (none)) else (none)) else (none)) else (none)) else (none)))))))
def laws_FnToneText.f (k : Nat) (l0 : List Int) : Option (Bool) := if (l0.length : Int) > 1048576 then (some true) else ((spec_DrawToneText.f k l0).bind fun bt213 => ((impl_ToneText.f bt213.1 bt213.2).bind fun t216 => ((spec_ToneText.f k bt213.1 bt213.2).bind fun t217 => (if t216.toList = t217.toList then (laws_FnToneText.j0 k t216 t217 (t216.toList == ([] : List UInt8)) bt213.1 bt213.2) else (laws_FnToneText.j0 k t216 t217 true bt213.1 bt213.2)))))
def laws_FnToneText.Pure : Prop := ∀ (l0 : List Int), l0.length ≤ maxLen → l0.length * 1 ≤ 140737488351232 → (∀ x ∈ l0, (Lit.int .u8 x).wf = true) → ∃ k, laws_FnToneText.f k l0 = some true
end Go.Proofs.YtlinjleahnccgaaDoor.E
end
section
namespace Go.Proofs.YtlinjleahnccgaaDoor.E
open Go.RowKit Go.Proofs.YtlinjleahnccgaaDoorW.PrintWords Go.Proofs.YtlinjleahnccgaaDoorW.PrintLast Go.Proofs.YtlinjleahnccgaaDoorW.PrintMore
attribute [local go_sem] max2_int min2_int max_two min_two max_three min_three max_four min_four
set_option linter.unusedVariables false
set_option linter.unusedSimpArgs false
attribute [local go_sem] str_leq_ str_gtr_ str_geq_
def spec_DrawToneFrom.f (k : Nat) (l0 : List Int) : Option (ByteArray) := (spec_l6Open.f l0).bind fun bt232 => ((spec_l6Rd_pick.f k bt232.1 bt232.2 4).bind fun bt235 => (if bt235.1 = 0 then ((spec_l6Rd_of.f k bt232.1 bt235.2 (([(⟨#[]⟩ : ByteArray), (⟨#[71]⟩ : ByteArray), (⟨#[71, 51]⟩ : ByteArray), (⟨#[72, 48]⟩ : ByteArray), (⟨#[98, 50]⟩ : ByteArray), (⟨#[66, 50]⟩ : ByteArray), (⟨#[99, 49]⟩ : ByteArray), (⟨#[70, 50]⟩ : ByteArray), (⟨#[71, 48, 32]⟩ : ByteArray), (⟨#[98, 48]⟩ : ByteArray)] : List ByteArray))).bind fun bt240 => (some bt240.1)) else ((spec_l91Tone.f k bt232.1 bt235.2).bind fun bt242 => ((spec_ToneText.f k bt242.1 bt242.2.1).bind fun t245 => (some t245)))))
end Go.Proofs.YtlinjleahnccgaaDoor.E
end
section
namespace Go.Proofs.YtlinjleahnccgaaDoor.E
open Go.RowKit Go.Proofs.YtlinjleahnccgaaDoorW.PrintWords Go.Proofs.YtlinjleahnccgaaDoorW.PrintLast Go.Proofs.YtlinjleahnccgaaDoorW.PrintMore
attribute [local go_sem] max2_int min2_int max_two min_two max_three min_three max_four min_four
set_option linter.unusedVariables false
set_option linter.unusedSimpArgs false
attribute [local go_sem] str_leq_ str_gtr_ str_geq_
def impl_ToneValid.f (a0_0 : Int) (a0_1 : Bool) : Option (Bool) := (impl_Tone_valid.f a0_0 a0_1).bind fun t247 => (some t247)
end Go.Proofs.YtlinjleahnccgaaDoor.E
end
section
namespace Go.Proofs.YtlinjleahnccgaaDoor.E
open Go.RowKit Go.Proofs.YtlinjleahnccgaaDoorW.PrintWords Go.Proofs.YtlinjleahnccgaaDoorW.PrintLast Go.Proofs.YtlinjleahnccgaaDoorW.PrintMore
attribute [local go_sem] max2_int min2_int max_two min_two max_three min_three max_four min_four
set_option linter.unusedVariables false
set_option linter.unusedSimpArgs false
attribute [local go_sem] str_leq_ str_gtr_ str_geq_
theorem eqA25 (d : Nat) (w : World) (x0 y0 : Int) (x1 y1 : Bool) :
  (Op.equalIn (d + 2) 25 (.agg #[.int .i64 x0, .bool x1]) (.agg #[.int .i64 y0, .bool y1])).run Tryd.prog w = .ok (x0 == y0 && (x1 == y1)) w := by
 refine eqA_of Tryd.underlying25 (by kernel_rfl) ?_
 refine eqf_cons (by rfl) (by go_simp; rfl) (by go_simp; rfl) (by go_simp) ?_
 exact eqf_last (by rfl) (by go_simp; rfl) (by go_simp; rfl) (by go_simp)
end Go.Proofs.YtlinjleahnccgaaDoor.E
end
section
namespace Go.Proofs.YtlinjleahnccgaaDoor.E
open Go.RowKit Go.Proofs.YtlinjleahnccgaaDoorW.PrintWords Go.Proofs.YtlinjleahnccgaaDoorW.PrintLast Go.Proofs.YtlinjleahnccgaaDoorW.PrintMore
attribute [local go_sem] max2_int min2_int max_two min_two max_three min_three max_four min_four
set_option linter.unusedVariables false
set_option linter.unusedSimpArgs false
attribute [local go_sem high] eqA25
attribute [local go_sem] str_leq_ str_gtr_ str_geq_
def laws_FnToneFrom.j0 : Nat → ByteArray → Bool → Bool → Bool → Int → Bool → Int → Bool → Option (Bool)
 | 0, _, _, _, _, _, _, _, _ => none
 | k + 1, x3, x5, x7, x38, x253000, x253001, x257000, x257001 => if x38 = true then (if (x5 == x7) = true then (some (x253000 == x257000 && (x253001 == x257001))) else (none)) else (if x3.size + 1 ≤ 9223372036854775807 then ((impl_ToneFrom.f (x3 ++ (⟨#[32]⟩ : ByteArray))).bind fun bt257 => (if 0 ≤ (wrap64 ((x3.size : Int) - 1)) then (if (wrap64 ((x3.size : Int) - 1)) ≤ (x3.size : Int) then ((impl_ToneFrom.f (x3.extract 0 ((wrap64 ((x3.size : Int) - 1)) : Int).toNat)).bind fun bt261 => ((impl_ToneValid.f x253000 x253001).bind fun t265 => (if t265 = true then ((impl_ToneText.f x253000 x253001).bind fun t266 => (if t266.toList = x3.toList then (if bt257.2.2 = true then (none) else (some (!bt261.2.2))) else (none))) else (none)))) else (none)) else (none))) else (none))
def laws_FnToneFrom.f (k : Nat) (l0 : List Int) : Option (Bool) := if (l0.length : Int) > 1048576 then (some true) else ((spec_DrawToneFrom.f k l0).bind fun t248 => ((impl_ToneFrom.f t248).bind fun bt249 => ((spec_ToneFrom.f k t248).bind fun bt253 => (if (bt249.2.2 != bt253.2.2) = true then (laws_FnToneFrom.j0 k t248 bt249.2.2 bt253.2.2 true bt249.1 bt249.2.1 bt253.1 bt253.2.1) else (if (!(bt249.1 == bt253.1) || (!(bt249.2.1 == bt253.2.1))) = true then (laws_FnToneFrom.j0 k t248 bt249.2.2 bt253.2.2 true bt249.1 bt249.2.1 bt253.1 bt253.2.1) else (laws_FnToneFrom.j0 k t248 bt249.2.2 bt253.2.2 (!bt249.2.2) bt249.1 bt249.2.1 bt253.1 bt253.2.1))))))
def laws_FnToneFrom.Pure : Prop := ∀ (l0 : List Int), l0.length ≤ maxLen → l0.length * 1 ≤ 140737488351232 → (∀ x ∈ l0, (Lit.int .u8 x).wf = true) → ∃ k, laws_FnToneFrom.f k l0 = some true
end Go.Proofs.YtlinjleahnccgaaDoor.E
end
section
namespace Go.Proofs.YtlinjleahnccgaaDoor.Pur
open Go.RowKit Go.Proofs.YtlinjleahnccgaaDoorW.PrintWords Go.Proofs.YtlinjleahnccgaaDoorW.PrintMore Go.Proofs.YtlinjleahnccgaaDoor.E
theorem eq_tone (a : Int) (b : Bool) : laws_eqTone.f a b a b = some true := by
  unfold laws_eqTone.f
  rw [if_pos rfl, if_neg (by simp)]
theorem exact_from (s : ByteArray) (_ : s.size ≤ 140737488351232) : ∃ k, laws_FnExactToneFrom.f k s = some true := by
  refine EvP.rounds ?_
  simp only [laws_FnExactToneFrom.f]
  refine EvP.ite (fun _ => EvP.ret rfl) (fun _ => ?_)
  refine EvP.bind (spec_from s) (fun _ e => ?_)
  subst e
  refine EvP.bind (P := (· = fnd s.toList tones)) (EvP.con (impl_from s) rfl) (fun _ e => ?_)
  subst e
  refine EvP.bind (P := (· = true)) (EvP.con (eq_tone _ _) rfl) (fun _ e => ?_)
  subst e
  exact EvP.yes rfl (EvP.no (by simp) (EvP.ret rfl))
end Go.Proofs.YtlinjleahnccgaaDoor.Pur
end
section
namespace Go.Proofs.YtlinjleahnccgaaDoor.Head
set_option maxRecDepth 100000
theorem and_t {a b : Bool} (h : a = true) (k : b = true) : (a && b) = true := by rw [h, k]; rfl
theorem mayEnter_of {P : Program} {l : List String} {W rest : List (List Char)} (h : behindMainWord (wordsSigns P.initOrder.toList) = W) (hc : ∃ c r, W = c :: r ∧ (c == "gc".toList || c == "spec".toList) = false ∧ (c == "carried".toList) = false) (hs : stripLifts liftWords W = (l, "cut".toList :: rest))
    (hl : (l.contains "finals" || !P.laysLater) = true) (hb : (l.contains "reflectrows" || !P.bearsReflect) = true) (hr : (l.contains "reflectrows" || !l.contains "leanrows") = true) (hd : P.doorFits l = true) : P.mayEnter = true := by
  obtain ⟨c, r, rfl, h1, h2⟩ := hc
  unfold Program.mayEnter
  rw [h]
  dsimp only
  rw [hs, hl, hb, hr, hd, h1, h2]
  simp
theorem headLifts_of {P : Program} {l : List String} {W rest : List (List Char)} (h : behindMainWord (wordsSigns P.initOrder.toList) = W) (hs : stripLifts liftWords W = (l, "cut".toList :: rest)) : P.headLifts = l := by
  unfold Program.headLifts
  rw [h]
  dsimp only
  rw [hs]
  simp
theorem liftsFinal_of {P : Program} {l : List String} {W rest : List (List Char)} (h : behindMainWord (wordsSigns P.initOrder.toList) = W) (hc : ∃ c r, W = c :: r ∧ (c == "gc".toList || c == "spec".toList) = false ∧ (c == "carried".toList) = false) (hs : stripLifts liftWords W = (l, "cut".toList :: rest)) : P.liftsFinal = l.contains "finals" := by
  unfold Program.liftsFinal
  rw [headLifts_of h hs, h]
  obtain ⟨c, r, rfl, h1, h2⟩ := hc
  have h3 : ((c :: r).head? == some "carried".toList) = false := by
    rw [beq_eq_false_iff_ne] at h2 ⊢
    exact fun e => h2 (Option.some.inj e)
  dsimp only
  rw [h3, Bool.false_and, Bool.false_or]
theorem make_of {P : Program} {rest : List (List Char)} (h : behindMainWord (wordsSigns P.initOrder.toList) = "cut".toList :: rest) : P.make = some .cut := by
  unfold Program.make
  rw [h]
  dsimp only
  rw [if_neg (by decide), if_pos (by simp)]
theorem mainIs_of {P : Program} {s : List Char} {rest : List (List Char)} (h : wordsSigns P.initOrder.toList = "harness".toList :: s :: rest) (hs : isSumSigns s = true) : P.mainIs = some (true, s) := by
  unfold Program.mainIs
  rw [h]
  dsimp only
  rw [hs]
  simp
def io : List Nat := [104, 97, 114, 110, 101, 115, 115, 32, 98, 101, 49, 57, 49, 50, 55, 99, 99, 48, 99, 52, 52, 56, 99, 55, 56, 57, 99, 97, 98, 97, 54, 57, 98, 97, 102, 102, 51, 56, 56, 54, 56, 97, 49, 50, 102, 102, 52, 99, 54, 100, 98, 97, 50, 101, 54, 52, 99, 52, 55, 99, 49, 50, 53, 49, 98, 48, 49, 49, 55, 100, 52, 55, 32, 99, 117, 116, 32, 97, 116, 32, 108, 111, 111, 112, 46, 101, 120, 97, 109, 112, 108, 101, 47, 110, 101, 117, 109, 101, 115, 47, 108, 97, 119, 115, 46, 70, 110, 69, 120, 97, 99, 116, 84, 111, 110, 101, 76, 101, 116, 116, 101, 114, 32, 108, 111, 111, 112, 46, 101, 120, 97, 109, 112, 108, 101, 47, 110, 101, 117, 109, 101, 115, 47, 108, 97, 119, 115, 46, 70, 110, 69, 120, 97, 99, 116, 84, 111, 110, 101, 84, 101, 120, 116, 32, 108, 111, 111, 112, 46, 101, 120, 97, 109, 112, 108, 101, 47, 110, 101, 117, 109, 101, 115, 47, 108, 97, 119, 115, 46, 70, 110, 69, 120, 97, 99, 116, 84, 111, 110, 101, 70, 114, 111, 109, 32, 108, 111, 111, 112, 46, 101, 120, 97, 109, 112, 108, 101, 47, 110, 101, 117, 109, 101, 115, 47, 108, 97, 119, 115, 46, 70, 110, 84, 111, 110, 101, 84, 101, 120, 116, 32, 108, 111, 111, 112, 46, 101, 120, 97, 109, 112, 108, 101, 47, 110, 101, 117, 109, 101, 115, 47, 108, 97, 119, 115, 46, 70, 110, 84, 111, 110, 101, 70, 114, 111, 109, 32, 108, 111, 111, 112, 46, 101, 120, 97, 109, 112, 108, 101, 47, 110, 101, 117, 109, 101, 115, 47, 108, 97, 119, 115, 46, 70, 110, 69, 120, 97, 99, 116, 77, 101, 108, 111, 100, 121, 84, 101, 120, 116, 32, 108, 111, 111, 112, 46, 101, 120, 97, 109, 112, 108, 101, 47, 110, 101, 117, 109, 101, 115, 47, 108, 97, 119, 115, 46, 70, 110, 69, 120, 97, 99, 116, 77, 101, 108, 111, 100, 121, 70, 114, 111, 109, 32, 108, 111, 111, 112, 46, 101, 120, 97, 109, 112, 108, 101, 47, 110, 101, 117, 109, 101, 115, 47, 108, 97, 119, 115, 46, 70, 110, 77, 101, 108, 111, 100, 121, 77, 111, 118, 101, 79, 99, 116, 97, 118, 101]
def ws : List (List Nat) := [[104, 97, 114, 110, 101, 115, 115], [98, 101, 49, 57, 49, 50, 55, 99, 99, 48, 99, 52, 52, 56, 99, 55, 56, 57, 99, 97, 98, 97, 54, 57, 98, 97, 102, 102, 51, 56, 56, 54, 56, 97, 49, 50, 102, 102, 52, 99, 54, 100, 98, 97, 50, 101, 54, 52, 99, 52, 55, 99, 49, 50, 53, 49, 98, 48, 49, 49, 55, 100, 52, 55], [99, 117, 116], [97, 116], [108, 111, 111, 112, 46, 101, 120, 97, 109, 112, 108, 101, 47, 110, 101, 117, 109, 101, 115, 47, 108, 97, 119, 115, 46, 70, 110, 69, 120, 97, 99, 116, 84, 111, 110, 101, 76, 101, 116, 116, 101, 114], [108, 111, 111, 112, 46, 101, 120, 97, 109, 112, 108, 101, 47, 110, 101, 117, 109, 101, 115, 47, 108, 97, 119, 115, 46, 70, 110, 69, 120, 97, 99, 116, 84, 111, 110, 101, 84, 101, 120, 116], [108, 111, 111, 112, 46, 101, 120, 97, 109, 112, 108, 101, 47, 110, 101, 117, 109, 101, 115, 47, 108, 97, 119, 115, 46, 70, 110, 69, 120, 97, 99, 116, 84, 111, 110, 101, 70, 114, 111, 109], [108, 111, 111, 112, 46, 101, 120, 97, 109, 112, 108, 101, 47, 110, 101, 117, 109, 101, 115, 47, 108, 97, 119, 115, 46, 70, 110, 84, 111, 110, 101, 84, 101, 120, 116], [108, 111, 111, 112, 46, 101, 120, 97, 109, 112, 108, 101, 47, 110, 101, 117, 109, 101, 115, 47, 108, 97, 119, 115, 46, 70, 110, 84, 111, 110, 101, 70, 114, 111, 109], [108, 111, 111, 112, 46, 101, 120, 97, 109, 112, 108, 101, 47, 110, 101, 117, 109, 101, 115, 47, 108, 97, 119, 115, 46, 70, 110, 69, 120, 97, 99, 116, 77, 101, 108, 111, 100, 121, 84, 101, 120, 116], [108, 111, 111, 112, 46, 101, 120, 97, 109, 112, 108, 101, 47, 110, 101, 117, 109, 101, 115, 47, 108, 97, 119, 115, 46, 70, 110, 69, 120, 97, 99, 116, 77, 101, 108, 111, 100, 121, 70, 114, 111, 109], [108, 111, 111, 112, 46, 101, 120, 97, 109, 112, 108, 101, 47, 110, 101, 117, 109, 101, 115, 47, 108, 97, 119, 115, 46, 70, 110, 77, 101, 108, 111, 100, 121, 77, 111, 118, 101, 79, 99, 116, 97, 118, 101]]
def ch (w : List Nat) : List Char := w.map Char.ofNat
theorem io_is : Tryd.prog.initOrder = String.ofList (ch io) := by kernel_rfl
theorem io_ws : wordsSigns (ch io) = ws.map ch := by kernel_rfl
theorem io_all : wordsSigns Tryd.prog.initOrder.toList = ws.map ch := by rw [io_is, String.toList_ofList, io_ws]
theorem be : behindMainWord (ws.map ch) = (ws.drop 2).map ch := by kernel_rfl
theorem io_be : behindMainWord (wordsSigns Tryd.prog.initOrder.toList) = (ws.drop 2).map ch := by rw [io_all, be]
theorem first : ∃ c r, (ws.drop 2).map ch = c :: r ∧ (c == "gc".toList || c == "spec".toList) = false ∧ (c == "carried".toList) = false := ⟨ch (ws.getD 2 []), (ws.drop 3).map ch, by kernel_rfl, by kernel_rfl, by kernel_rfl⟩
theorem st : stripLifts liftWords ((ws.drop 2).map ch) = ([], "cut".toList :: ((ws.drop 3).map ch)) := by kernel_rfl
theorem ll : ([].contains "finals" || !Tryd.prog.laysLater) = true := by kernel_rfl
theorem br : ([].contains "reflectrows" || !Tryd.prog.bearsReflect) = true := by kernel_rfl
theorem rr : ([].contains "reflectrows" || ![].contains "leanrows") = true := by kernel_rfl
theorem df : Tryd.prog.doorFits [] = true := by kernel_rfl
theorem mayE : Tryd.prog.mayEnter = true := mayEnter_of io_be first st ll br rr df
theorem finE : Tryd.prog.liftsFinal = [].contains "finals" := liftsFinal_of io_be first st
theorem mainE : Tryd.prog.mainIs = some (true, ch [98, 101, 49, 57, 49, 50, 55, 99, 99, 48, 99, 52, 52, 56, 99, 55, 56, 57, 99, 97, 98, 97, 54, 57, 98, 97, 102, 102, 51, 56, 56, 54, 56, 97, 49, 50, 102, 102, 52, 99, 54, 100, 98, 97, 50, 101, 54, 52, 99, 52, 55, 99, 49, 50, 53, 49, 98, 48, 49, 49, 55, 100, 52, 55]) := mainIs_of (rest := (ws.drop 2).map ch) (io_all.trans (by kernel_rfl)) (by kernel_rfl)
theorem makeE : Tryd.prog.make = some .cut := make_of (io_be.trans (by kernel_rfl : (ws.drop 2).map ch = "cut".toList :: ((ws.drop 3).map ch)))
end Go.Proofs.YtlinjleahnccgaaDoor.Head
end
section
namespace Go.Proofs.YtlinjleahnccgaaDoor.Pur
open Go
variable {H : Type} {enc : TypeId × Value → H}
theorem handed_shaped_and {a : Assume} {C : Checked} {os : Os} {f : FuncId} {fn : Func} {s : ChangeSpec} {conds : List PathCond} {apart fresh handsOn again : Bool} {X : World → Array Value → Prop}
    (hX : ∀ (w w' : World) (args : Array Value), w.heap = w'.heap → X w args → X w' args)
    (own : ownKnob C.prog.godebug = none) (started : os.Started) (noInit : C.prog.inits.idxOf? f = none) (hfn : C.prog.funcs[f]? = some fn)
    (witness : ∃ (w : World) (tape : Tape) (i : Input), w.os = os ∧ (w.forCall tape i).Shaped C.prog ∧ i.vars = [] ∧ Input.okWide C.prog (w.forCall tape i) .any w.heap.size f i ∧
      ((s.pre enc C.prog fn conds apart (w.forCall tape i).memory i.args ∧ X (w.forCall tape i).memory i.args) ∧ sizedMet enc C.prog fn (OpenSpec.ofChange s) apart (w.forCall tape i).memory i.args) ∧ a.holds C.prog (lone (Frame.enter C.prog f i.args .normal) [] (w.forCall tape i)))
    (contract : ∀ (W : World) (base : Nat) (args : Array Value) (ds gs : List (DataW H)) (before : List MemPlace),
      (∀ (j : Nat) t v, fn.params[j]? = some t → args[j]? = some v → Value.okWide C.prog W .any base t v) →
      DataW.Whole enc C.prog fn.params.toList s.vars apart W args.toList ds gs before →
      conds.all (PathCond.test C.prog ⟨fn.params.toList, ds, s.plain.varTypes C.prog, gs⟩) = true →
      (DataW.weightsEach C.prog (fn.params.toList ++ s.plain.varTypes C.prog) (ds ++ gs)).all (· ≤ reachBytes) = true → X W args → W.ShapedOpen C.prog →
      a.holds C.prog (lone (Frame.enter C.prog f args .normal) [] W) →
      Calls C.prog f args W fun e W' => ∃ v, e = .returned v ∧ s.post enc C.prog fn apart fresh handsOn again W args v W') :
    ReturnsInHanded a C os f .any (fun w args => (s.pre enc C.prog fn conds apart w args ∧ X w args) ∧ sizedMet enc C.prog fn (OpenSpec.ofChange s) apart w args) (s.post enc C.prog fn apart fresh handsOn again) := by
  refine returnsInHanded_of_calls own started noInit witness ?_
  intro w tape i _ hsh _ hok hpre hholds
  obtain ⟨_, _, _, fn', hfn', _, _, _, _, hval⟩ := hok
  have e : fn' = fn := Option.some.inj (hfn'.symm.trans hfn)
  subst e
  obtain ⟨⟨⟨ds, gs, before, hw, hc⟩, hx⟩, hz⟩ := hpre
  have hw' := DataW.Whole.of_heap (w' := w.forCall tape i) (by rfl) hw
  refine (contract (w.forCall tape i) w.heap.size i.args ds gs before hval hw' hc (hz.weights hw) (hX _ _ _ (by rfl) hx) hsh hholds).mono fun e W' ⟨v, he, hp⟩ => ?_
  subst he
  exact ChangeSpec.post_blind hp
end Go.Proofs.YtlinjleahnccgaaDoor.Pur
end
section
namespace Go.Proofs.YtlinjleahnccgaaDoor.Pur
open Go.Proofs.YtlinjleahnccgaaDoor.E Go Go.RowKit
theorem laid_mem {P : Program} {W : World} {n : String} {d : DataW Unit} : ∀ {l : List (String × DataW Unit)} {ps : List MemPlace}, DataW.LaidVars P W l ps → (n, d) ∈ l →
    ∃ g t cs fuel p, P.globalNamed n = some g ∧ (P.globals[g]?).map (·.type) = some t ∧ W.var? P n = some cs ∧ DataW.trod (fun _ => ()) P W 0 (fun _ => true) false fuel t cs.toList = some (d, p)
  | [], _, _, h => by cases h
  | (n', d') :: r, ps, ⟨g, t, cs, fuel, p, q, h1, h2, h3, h4, h5, _⟩, h => by
    rcases List.mem_cons.mp h with e | e
    · cases e
      exact ⟨g, t, cs, fuel, p, h1, h2, h3, h4⟩
    · exact laid_mem h5 e
theorem vars_cons {H : Type} {enc : TypeId × Value → H} {P : Program} {w : World} {sp : Nat → Bool} {n : String} {ns : List String} {gs : List (DataW H)} {ps : List MemPlace} (h : DataW.TrodVars enc P w sp (n :: ns) gs ps) : ∃ g gs' q, gs = g :: gs' ∧ DataW.TrodVars enc P w sp ns gs' q := by
  cases gs with
  | nil => exact h.elim
  | cons g r =>
    obtain ⟨_, _, _, _, _, q, _, _, _, _, hs, _⟩ := h
    exact ⟨g, r, q, rfl, hs⟩
theorem vars_nil {H : Type} {enc : TypeId × Value → H} {P : Program} {w : World} {sp : Nat → Bool} {gs : List (DataW H)} {ps : List MemPlace} (h : DataW.TrodVars enc P w sp [] gs ps) : gs = [] := by
  cases gs with
  | nil => rfl
  | cons _ _ => exact h.elim
theorem laid_vars {P : Program} {l : List (String × DataW Unit)} {W : World} (h : laidMetH P l W) (hp : (l.all fun x => x.2.handleName?.isNone) = true) : ∃ ps, DataW.LaidVars P W l ps := by
  rw [MakeChecks.laidMetH_plain _ _ _ hp] at h
  obtain ⟨ps, h, _⟩ := h
  exact ⟨ps, h⟩
theorem ba_of_list {s : ByteArray} {l : List UInt8} (h : s.data.toList = l) : s = ⟨l.toArray⟩ := by
  obtain ⟨⟨d⟩⟩ := s
  subst h
  rfl
def names7 : Array Value := #[.string ⟨#[71]⟩, .string ⟨#[65]⟩, .string ⟨#[66]⟩, .string ⟨#[67]⟩, .string ⟨#[68]⟩, .string ⟨#[69]⟩, .string ⟨#[70]⟩]
theorem cells_s : Tryd.prog.cellsOf 9 = 1 := by kernel_rfl
theorem cells_n7 : Tryd.prog.cellsOf 78 = 7 := by kernel_rfl
theorem seven {l : List Value} (h : l.length = 7) : ∃ c0 c1 c2 c3 c4 c5 c6, l = [c0, c1, c2, c3, c4, c5, c6] := by
  match l, h with
  | [a, b, c, d, e, f, g], _ => exact ⟨a, b, c, d, e, f, g, rfl⟩
theorem names_cells {W : World} {l : List (String × DataW Unit)} {ps : List MemPlace} (h : DataW.LaidVars Tryd.prog W l ps) (hm : ("loop.example/neumes/impl.letterNames", Rows.laid_loop_example_neumes_impl_letterNames) ∈ l) :
    W.var? Tryd.prog "loop.example/neumes/impl.letterNames" = some names7 := by
  obtain ⟨g, t, cs, fuel, p, hg, ht, hvar, hd⟩ := laid_mem h hm
  obtain rfl := Option.some.inj ((show Tryd.prog.globalNamed "loop.example/neumes/impl.letterNames" = some 0 by kernel_rfl).symm.trans hg)
  obtain rfl := Option.some.inj ((show (Tryd.prog.globals[0]?).map (·.type) = some 78 by kernel_rfl).symm.trans ht)
  rw [hvar]
  congr 1
  obtain ⟨l⟩ := cs
  cases fuel with
  | zero => simp [DataW.trod] at hd
  | succ fuel =>
    simp only [DataW.trod, Tryd.underlying78, cells_n7, cells_s] at hd
    split at hd
    · rename_i hl
      obtain ⟨c0, c1, c2, c3, c4, c5, c6, rfl⟩ := seven hl
      have e : List.range 7 = [0, 1, 2, 3, 4, 5, 6] := rfl
      rw [e] at hd
      simp only [Option.map_eq_some_iff, List.mapM_cons, List.mapM_nil, Option.bind_eq_bind, Option.bind_eq_some_iff, Option.pure_def, Option.some.injEq] at hd
      obtain ⟨xs, ⟨y0, h0, _, ⟨y1, h1, _, ⟨y2, h2, _, ⟨y3, h3, _, ⟨y4, h4, _, ⟨y5, h5, _, ⟨y6, h6, _, rfl, rfl⟩, rfl⟩, rfl⟩, rfl⟩, rfl⟩, rfl⟩, rfl⟩, hx⟩ := hd
      obtain ⟨n0, e0, rfl, _⟩ := DataW.trod_string Tryd.underlying9 h0
      obtain ⟨n1, e1, rfl, _⟩ := DataW.trod_string Tryd.underlying9 h1
      obtain ⟨n2, e2, rfl, _⟩ := DataW.trod_string Tryd.underlying9 h2
      obtain ⟨n3, e3, rfl, _⟩ := DataW.trod_string Tryd.underlying9 h3
      obtain ⟨n4, e4, rfl, _⟩ := DataW.trod_string Tryd.underlying9 h4
      obtain ⟨n5, e5, rfl, _⟩ := DataW.trod_string Tryd.underlying9 h5
      obtain ⟨n6, e6, rfl, _⟩ := DataW.trod_string Tryd.underlying9 h6
      simp at e0 e1 e2 e3 e4 e5 e6
      subst e0 e1 e2 e3 e4 e5 e6
      simp [Rows.laid_loop_example_neumes_impl_letterNames] at hx
      obtain ⟨⟨e0, e1, e2, e3, e4, e5, e6⟩, _⟩ := hx
      rw [ba_of_list e0, ba_of_list e1, ba_of_list e2, ba_of_list e3, ba_of_list e4, ba_of_list e5, ba_of_list e6]
      rfl
    · cases hd
theorem gok_names {W : World} {l : List (String × DataW Unit)} (h : laidMetH Tryd.prog l W) (hp : (l.all fun x => x.2.handleName?.isNone) = true) (hm : ("loop.example/neumes/impl.letterNames", Rows.laid_loop_example_neumes_impl_letterNames) ∈ l) : GOk [0] W := by
  obtain ⟨ps, hv⟩ := laid_vars h hp
  intro n hn
  obtain rfl := List.mem_singleton.mp hn
  intro i hi
  rw [var?_cell (show Tryd.prog.globalNamed "loop.example/neumes/impl.letterNames" = some 0 by kernel_rfl) (names_cells hv hm)]
  match i, hi with
  | 0, _ => rfl
  | 1, _ => rfl
  | 2, _ => rfl
  | 3, _ => rfl
  | 4, _ => rfl
  | 5, _ => rfl
  | 6, _ => rfl
  | _ + 7, hi => exact absurd hi (by omega)
def heights7 : Array Value := #[.int .i64 0, .int .i64 2, .int .i64 4, .int .i64 5, .int .i64 7, .int .i64 9, .int .i64 10]
end Go.Proofs.YtlinjleahnccgaaDoor.Pur
end
section
namespace Go.Proofs.YtlinjleahnccgaaDoor.fnExactToneFrom
open Go.ChangeShapes Go.WideShapes Go.ChangeAt Go.RowKit
open Go.ChangeMaps (open_string shut_string)
set_option linter.unusedVariables false
theorem own : ownKnob Tryd.prog.godebug = none := by kernel_rfl
theorem laidOut : laidOutB Tryd.prog = true := by kernel_rfl
set_option maxRecDepth 100000 in
theorem lifted (os : Os) (started : os.Started) (H : Type) (enc : TypeId × Value → H) :
    ReturnsInHanded {} Tryd.checked os 5 .any (fun w args => (Rows.fnExactToneFromSpec.pre enc Tryd.prog Tryd.f5 Rows.fnExactToneFromRow.domain false w args ∧ laidMetH Tryd.prog Rows.fnExactToneFromRow.laid w) ∧ sizedMet enc Tryd.prog Tryd.f5 (OpenSpec.ofChange Rows.fnExactToneFromSpec) false w args) (Rows.fnExactToneFromSpec.post enc Tryd.prog Tryd.f5 false true false false) := by
  refine Pur.handed_shaped_and (C := Tryd.checked) (X := fun w _ => laidMetH Tryd.prog Rows.fnExactToneFromRow.laid w) (fun _ _ _ hh h => h.of_heap hh) own started (by kernel_rfl) Tryd.func5
    (ChangeSpec.witness_shaped (enc := enc) (C := Tryd.checked) (os := os) (X := fun w _ => laidMetH Tryd.prog Rows.fnExactToneFromRow.laid w) false (World.laidAll Tryd.prog os Rows.fnExactToneFromRow.laid) #[.string ByteArray.empty] 8 (World.laidAll_os _ _ _) (World.shaped_of_ZipB (by kernel_rfl) (by kernel_rfl)) (by kernel_rfl) (by kernel_rfl) (by kernel_rfl) (by rw [MakeChecks.laidMetH_plain _ _ _ (by kernel_rfl)]; exact laidMet_laidAll _ (by kernel_rfl) (by kernel_rfl))) ?_
  intro W base args ds gs before hval0 hW hcnd hsz0 hL hSh _
  have hsz : (DataW.weightsEach Tryd.prog (Tryd.f5.params.toList ++ Rows.fnExactToneFromSpec.plain.varTypes Tryd.prog) (ds ++ gs)).all (· ≤ reachBytes) = true := hsz0
  have hval : ∀ (j : Nat) t v, Tryd.f5.params[j]? = some t → args[j]? = some v → Value.okWide Tryd.prog W .any base t v := hval0
  have hW' := hW
  obtain ⟨p, q, hA0, hV, rfl, hfz, hnd⟩ := hW
  have hA : DataW.TrodAll enc Tryd.prog W 0 (fun _ => true) true Tryd.f5.params.toList args.toList ds p := hA0
  rw [Tryd.params5] at hA hval hsz
  obtain ⟨v0, vs0, d0, ds0, p0, q0, hargs, rfl, rfl, h0, r0⟩ := trodAll_cons hA
  obtain ⟨rfl, rfl, rfl⟩ := trodAll_nil r0
  obtain rfl : args = #[v0] := by cases args; simp_all
  obtain ⟨g0, gs0, vq0, rfl, hV0⟩ := Pur.vars_cons hV
  obtain rfl := Pur.vars_nil hV0
  have k0 := h0
  have lt0 : ∀ x ∈ p0, x.block < W.heap.size := by obtain ⟨m, hm⟩ := k0; exact DataW.trod_lt m _ _ _ hm
  obtain ⟨a0, rfl, rfl, rfl, y0⟩ := open_string Tryd.underlying9 (hval 0 9 v0 rfl rfl) h0
  have w0 : a0.size ≤ 140737488351232 := by
    have z := sized_string hsz (j := 0) (t := 9) rfl rfl
    rw [Array.length_toList] at z
    exact z
  clear hA0 hval0 hsz0 hsz
  obtain ⟨k, hk⟩ := Pur.exact_from a0 w0
  refine (E.laws_FnExactToneFrom.calls k a0 true W  (Pur.gok_names hL (by kernel_rfl) (by first | exact .head _ | exact .tail _ (.head _) | exact .tail _ (.tail _ (.head _)) | exact .tail _ (.tail _ (.tail _ (.head _))) | exact .tail _ (.tail _ (.tail _ (.tail _ (.head _)))) | exact .tail _ (.tail _ (.tail _ (.tail _ (.tail _ (.head _))))) | exact .tail _ (.tail _ (.tail _ (.tail _ (.tail _ (.tail _ (.head _)))))) | exact .tail _ (.tail _ (.tail _ (.tail _ (.tail _ (.tail _ (.tail _ (.head _))))))))) hk).mono fun e W' ⟨he, bel⟩ => ?_
  subst he
  exact ⟨_, rfl, _, _, _, [], _, _, hW', trodAll_mk1 (shut_bool Tryd.underlying4 _), (trodAll_cons_mk (shut_string Tryd.underlying9 y0) trodAll_mk0), (Below.trodVars laidOut bel (by kernel_rfl) hV), bel.frame _, fun h => by cases h⟩
set_option maxRecDepth 100000 in
theorem closed : joinedFacts Tryd.prog 5 Tryd.f5 Rows.fnExactToneFromSpec Rows.fnExactToneFromRow = true := by
  have hf : (Rows.fnExactToneFromRow.lifted == Tryd.prog.liftsFinal) = true := by rw [Head.finE]; kernel_rfl
  have hm : (Tryd.prog.make == some Rows.fnExactToneFromRow.make) = true := by rw [Head.makeE]; kernel_rfl
  unfold joinedFacts
  repeat' (with_reducible refine Head.and_t ?_ ?_)
  all_goals first | with_reducible exact Head.mayE | with_reducible exact hf | with_reducible exact hm | (as_aux_lemma => kernel_rfl)
theorem over : Rows.fnExactToneFromRow.holds Tryd.pinned (OpenSpec.ofChange Rows.fnExactToneFromSpec) :=
  OpenClaim.holds_of_wide 5 Tryd.f5 rfl rfl rfl rfl rfl rfl rfl ⟨rfl, rfl, rfl, rfl, rfl⟩ rfl rfl rfl rfl rfl (by kernel_rfl) Tryd.func5 closed
    (of_decide_eq_true (by kernel_rfl)) (by unfold Func.isWrapper; first | (rw [if_pos (by decide +kernel)]; kernel_rfl) | (rw [if_neg (by decide +kernel)]; exact ⟨rfl, rfl⟩))
    (fun os started H enc _ => lifted os started H enc)
theorem card_ : Rows.FnExactToneFromCardSaid :=
  Claim7.holds_tied_plain_at .later [] [.data, .data, .data, .data] true (true, "be19127cc0c448c789caba69baff38868a12ff4c6dba2e64c47c1251b0117d47") false
    over (fun _ h => by cases h) (by as_aux_lemma => kernel_rfl) (fun _ h => by cases h) fnExactToneFrom_row_tie rfl ⟨rfl, rfl⟩ (Head.mainE.trans (by as_aux_lemma => kernel_rfl)) rfl
    (fun f fn hf hfn => by
      obtain rfl : f = 5 := Option.some.inj ((show Tryd.prog.funcNamed "loop.example/neumes/laws.FnExactToneFrom" = some 5 by kernel_rfl).symm.trans hf) |>.symm
      obtain rfl : fn = Tryd.f5 := (Option.some.inj (Tryd.func5.symm.trans hfn)).symm
      exact ⟨by kernel_rfl, fun j t ht => by
        rw [Tryd.params5] at ht
        have hm : t ∈ [9] := by simpa using Array.mem_of_getElem? ht
        have hall : ([9].all fun u => !Tryd.prog.wantsStandIn u) = true := by kernel_rfl
        exact (show Tryd.prog.wantsStandIn t = false by simpa using List.all_eq_true.1 hall t hm)⟩)
    (by kernel_rfl)
theorem proved : Rows.FnExactToneFromCardSaid := card_
#print axioms proved
end Go.Proofs.YtlinjleahnccgaaDoor.fnExactToneFrom
namespace Go.Proofs.YtlinjleahnccgaaDoor
theorem fnExactToneFrom_holds : Rows.FnExactToneFromCardSaid := fnExactToneFrom.proved
end Go.Proofs.YtlinjleahnccgaaDoor
end
