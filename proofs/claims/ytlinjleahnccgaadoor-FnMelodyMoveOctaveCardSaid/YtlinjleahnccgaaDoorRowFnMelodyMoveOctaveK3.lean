/- Proved: for all arguments the given program's laws.FnMelodyMoveOctave returns true, and its arguments and the package-level variables that it is given read afterwards as they read before (the given constant Rows.FnMelodyMoveOctaveCardSaid).
Conditions: none ahead of the given statement; the statement itself begins in a world whose listed package-level variables hold what the program's text lays there, and its card ties them to that text. -/
import Derived.Test.YtlinjleahnccgaaDoorRowFnMelodyMoveOctaveK2
section
namespace Go.Proofs.YtlinjleahnccgaaDoor.E
open Go.RowKit Go.Proofs.YtlinjleahnccgaaDoorW.PrintWords Go.Proofs.YtlinjleahnccgaaDoorW.PrintLast Go.Proofs.YtlinjleahnccgaaDoorW.PrintMore
attribute [local go_sem] max2_int min2_int max_two min_two max_three min_three max_four min_four
set_option linter.unusedVariables false
set_option linter.unusedSimpArgs false
attribute [local go_sem] str_leq_ str_gtr_ str_geq_
def spec_l6Dec.f : Nat → Int → Option (ByteArray)
 | 0, _ => none
 | k + 1, a0 => if a0 < (-9223372036854775807) then (some (⟨#[45, 57, 50, 50, 51, 51, 55, 50, 48, 51, 54, 56, 53, 52, 55, 55, 53, 56, 48, 56]⟩ : ByteArray)) else (if a0 < 0 then ((spec_l6Dec.f k (wrap64 (-a0))).bind fun t121 => (if 1 + t121.size ≤ 9223372036854775807 then (some ((⟨#[45]⟩ : ByteArray) ++ t121)) else (none))) else (if a0 < 10 then (some (strOfNums (([(wrap64 (48 + a0)) % 256] : List Int)))) else ((spec_l6Dec.f k (wrap64 (Int.tdiv a0 10))).bind fun t125 => ((some (([(wrap64 (48 + (Int.tmod a0 10))) % 256] : List Int) : List Int)).bind fun y126 => (if t125.size + (strOfNums y126).size ≤ 9223372036854775807 then (some (t125 ++ (strOfNums y126))) else (none))))))
def spec_l6Dec.T7 : Bool × List (List Nat × List Nat) := (true, [([], []), ([0], [0]), ([1], [1]), ([], []), ([3], [3]), ([4], [4]), ([5], [5]), ([6], [6]), ([7], [7]), ([2, 8], [2, 8]), ([9, 2, 0, 1, 2, 3, 4, 5, 6, 7, 8, 9], [9])])
def spec_l6Dec.B7 : List Nat := [0, 1, 3, 0, 8, 24, 56, 120, 248, 511, 1023]
end Go.Proofs.YtlinjleahnccgaaDoor.E
end
section
namespace Go.Proofs.YtlinjleahnccgaaDoor.E
open Go.RowKit Go.Proofs.YtlinjleahnccgaaDoorW.PrintWords Go.Proofs.YtlinjleahnccgaaDoorW.PrintLast Go.Proofs.YtlinjleahnccgaaDoorW.PrintMore
attribute [local go_sem] max2_int min2_int max_two min_two max_three min_three max_four min_four
set_option linter.unusedVariables false
set_option linter.unusedSimpArgs false
attribute [local go_sem] str_leq_ str_gtr_ str_geq_
def spec_ToneLetter.f (a0_0 : Int) (a0_1 : Bool) : Option (ByteArray) := (spec_ToneValid.f a0_0 a0_1).bind fun t105 => (if t105 = true then ((spec_l1Letter.f a0_0).bind fun t106 => (if 0 ≤ t106 then (if t106 ≤ (wrap64 (t106 + 1)) then (if (wrap64 (t106 + 1)) ≤ 7 then (some ((⟨#[71, 65, 66, 67, 68, 69, 70]⟩ : ByteArray).extract (t106 : Int).toNat ((wrap64 (t106 + 1)) : Int).toNat)) else (none)) else (none)) else (none))) else (some (⟨#[]⟩ : ByteArray)))
end Go.Proofs.YtlinjleahnccgaaDoor.E
end
section
namespace Go.Proofs.YtlinjleahnccgaaDoor.E
open Go.RowKit Go.Proofs.YtlinjleahnccgaaDoorW.PrintWords Go.Proofs.YtlinjleahnccgaaDoorW.PrintLast Go.Proofs.YtlinjleahnccgaaDoorW.PrintMore
attribute [local go_sem] max2_int min2_int max_two min_two max_three min_three max_four min_four
set_option linter.unusedVariables false
set_option linter.unusedSimpArgs false
attribute [local go_sem] str_leq_ str_gtr_ str_geq_
def spec_ToneText.f (k : Nat) (a0_0 : Int) (a0_1 : Bool) : Option (ByteArray) := (spec_ToneValid.f a0_0 a0_1).bind fun t130 => (if t130 = true then (if a0_1 = true then ((spec_l6Dec.f k (wrap64 (Int.tdiv a0_0 7))).bind fun t131 => (if 1 + t131.size ≤ 9223372036854775807 then (some ((⟨#[98]⟩ : ByteArray) ++ t131)) else (none))) else ((spec_ToneLetter.f a0_0 a0_1).bind fun t132 => ((spec_l6Dec.f k (wrap64 (Int.tdiv a0_0 7))).bind fun t133 => (if t132.size + t133.size ≤ 9223372036854775807 then (some (t132 ++ t133)) else (none))))) else (some (⟨#[]⟩ : ByteArray)))
def spec_ToneText.T5 : Bool × List (List Nat × List Nat) := (true, [([], []), ([0], [0]), ([], []), ([2], [2]), ([3], [3]), ([4, 1], [4]), ([1, 5], [1, 5]), ([6, 5, 0, 1, 2, 3, 4, 5, 6], [6])])
def spec_ToneText.B5 : List Nat := [0, 1, 0, 4, 12, 31, 63, 127]
end Go.Proofs.YtlinjleahnccgaaDoor.E
end
section
namespace Go.Proofs.YtlinjleahnccgaaDoor.E
open Go.RowKit Go.Proofs.YtlinjleahnccgaaDoorW.PrintWords Go.Proofs.YtlinjleahnccgaaDoorW.PrintLast Go.Proofs.YtlinjleahnccgaaDoorW.PrintMore
attribute [local go_sem] max2_int min2_int max_two min_two max_three min_three max_four min_four
set_option linter.unusedVariables false
set_option linter.unusedSimpArgs false
attribute [local go_sem] str_leq_ str_gtr_ str_geq_
def impl_ToneText.f (a0_0 : Int) (a0_1 : Bool) : Option (ByteArray) := (impl_Tone_valid.f a0_0 a0_1).bind fun t139 => (if t139 = true then ((impl_Tone_text.f a0_0 a0_1).bind fun t140 => (some t140)) else (some (⟨#[]⟩ : ByteArray)))
end Go.Proofs.YtlinjleahnccgaaDoor.E
end
section
namespace Go.Proofs.YtlinjleahnccgaaDoor.E
open Go.RowKit Go.Proofs.YtlinjleahnccgaaDoorW.PrintWords Go.Proofs.YtlinjleahnccgaaDoorW.PrintLast Go.Proofs.YtlinjleahnccgaaDoorW.PrintMore
attribute [local go_sem] max2_int min2_int max_two min_two max_three min_three max_four min_four
set_option linter.unusedVariables false
set_option linter.unusedSimpArgs false
attribute [local go_sem] str_leq_ str_gtr_ str_geq_
def spec_l1All.l0 : Nat → List (S25) → Int → Option ((List (S25)))
 | 0, _, _ => none
 | k + 1, x1, x2 => if x2 ≤ 20 then ((spec_l1Letter.f x2).bind fun t151 => (if t151 = 2 then (if x1.length < 8796093022208 then ((some (x1 ++ [(⟨x2, true⟩ : S25)] : List (S25))).bind fun y152 => (if y152.length < 8796093022208 then (spec_l1All.l0 k (y152 ++ [(⟨x2, false⟩ : S25)]) (wrap64 (x2 + 1))) else (none))) else (none)) else (if x1.length < 8796093022208 then (spec_l1All.l0 k (x1 ++ [(⟨x2, false⟩ : S25)]) (wrap64 (x2 + 1))) else (none)))) else (some x1)
def spec_l1All.f (k : Nat)  : Option ((List (S25))) := spec_l1All.l0 k (([] : List (S25))) 0
end Go.Proofs.YtlinjleahnccgaaDoor.E
end
section
namespace Go.Proofs.YtlinjleahnccgaaDoor.E
open Go.RowKit Go.Proofs.YtlinjleahnccgaaDoorW.PrintWords Go.Proofs.YtlinjleahnccgaaDoorW.PrintLast Go.Proofs.YtlinjleahnccgaaDoorW.PrintMore
attribute [local go_sem] max2_int min2_int max_two min_two max_three min_three max_four min_four
set_option linter.unusedVariables false
set_option linter.unusedSimpArgs false
attribute [local go_sem] str_leq_ str_gtr_ str_geq_
def spec_ToneFrom.l0 : Nat → ByteArray → List (S25) → Int → Option (Int × Bool × Bool)
 | 0, _, _, _ => none
 | k + 1, x0, x4, x5 => if x5 < (x4.length : Int) then (if 0 ≤ x5 then ((spec_ToneText.f k ((rd_T25 x4 x5).f0) ((rd_T25 x4 x5).f1)).bind fun t166 => (if t166.toList = x0.toList then (some ((rd_T25 x4 x5).f0, (rd_T25 x4 x5).f1, true)) else (spec_ToneFrom.l0 k x0 x4 (wrap64 (x5 + 1))))) else (none)) else (some (0, false, false))
def spec_ToneFrom.f (k : Nat) (a0 : ByteArray) : Option (Int × Bool × Bool) := (spec_l1All.f k).bind fun t162 => (spec_ToneFrom.l0 k a0 t162 0)
end Go.Proofs.YtlinjleahnccgaaDoor.E
end
section
namespace Go.Proofs.YtlinjleahnccgaaDoor.E
open Go.RowKit Go.Proofs.YtlinjleahnccgaaDoorW.PrintWords Go.Proofs.YtlinjleahnccgaaDoorW.PrintLast Go.Proofs.YtlinjleahnccgaaDoorW.PrintMore
attribute [local go_sem] max2_int min2_int max_two min_two max_three min_three max_four min_four
set_option linter.unusedVariables false
set_option linter.unusedSimpArgs false
attribute [local go_sem] str_leq_ str_gtr_ str_geq_
def tfTry (s : ByteArray) (i : Int) (b : Bool) (g : Option (Int × Bool × Bool)) : Option (Int × Bool × Bool) := (impl_Tone_valid.f i b).bind fun v => (if v = true then ((impl_Tone_text.f i b).bind fun t => (if t.toList = s.toList then some (i, b, true) else g)) else g)
def tfLoop (s : ByteArray) : Nat → Int → Option (Int × Bool × Bool)
 | 0, _ => some (0, false, false)
 | d + 1, i => tfTry s i false (tfTry s i true (tfLoop s d (i + 1)))
def tfIn (s : ByteArray) (d : Nat) (i : Int) : Nat → Option (Int × Bool × Bool)
 | 0 => tfTry s i false (tfTry s i true (tfLoop s d (i + 1)))
 | 1 => tfTry s i true (tfLoop s d (i + 1))
 | _ + 2 => tfLoop s d (i + 1)
def impl_ToneFrom.f (a0 : ByteArray) : Option (Int × Bool × Bool) := tfLoop a0 21 0
theorem tf_ix0 (w : World) : (Instr.index 58 (.agg #[.bool false, .bool true]) (.int .i64 0)).run Tryd.prog w = .ok (.bool false) w := by kernel_rfl
theorem tf_ix1 (w : World) : (Instr.index 58 (.agg #[.bool false, .bool true]) (.int .i64 1)).run Tryd.prog w = .ok (.bool true) w := by kernel_rfl
attribute [local go_sem] tf_ix0 tf_ix1
end Go.Proofs.YtlinjleahnccgaaDoor.E
end
section
namespace Go.Proofs.YtlinjleahnccgaaDoor.Pur
open Go.RowKit Go.Proofs.YtlinjleahnccgaaDoorW.PrintWords Go.Proofs.YtlinjleahnccgaaDoor.E
abbrev Tn := S25
def lett (s : Int) : ByteArray := lnames.getD (s % 7).toNat ByteArray.empty
def dig (s : Int) : ByteArray := ⟨#[UInt8.ofNat (48 + (s / 7).toNat)]⟩
def txt (t : Tn) : ByteArray := (if t.f1 = true then ⟨#[98]⟩ else lett t.f0) ++ dig t.f0
theorem ok_parts {t : Tn} (h : okT t = true) : 0 ≤ t.f0 ∧ t.f0 ≤ 20 ∧ (t.f1 = true → t.f0 % 7 = 2) := by
  unfold okT at h
  simp only [Bool.and_eq_true, decide_eq_true_eq, Bool.or_eq_true, Bool.not_eq_true'] at h
  obtain ⟨⟨h1, h2⟩, h3⟩ := h
  refine ⟨h1, h2, fun e => ?_⟩
  rcases h3 with h3 | h3
  · rw [e] at h3; cases h3
  · exact h3
theorem impl_letter {t : Tn} (h : okT t = true) : impl_ToneLetter.f t.f0 t.f1 = some (lett t.f0) := by
  obtain ⟨h0, h1, h2⟩ := ok_parts h
  unfold impl_ToneLetter.f impl_Tone_letter.f lett
  rw [impl_valid, h, if_pos h0]
  rfl
def tonesFrom : Nat → Int → List Tn
  | 0, _ => []
  | d + 1, i => (if okT ⟨i, false⟩ = true then [⟨i, false⟩] else []) ++ ((if okT ⟨i, true⟩ = true then [⟨i, true⟩] else []) ++ tonesFrom d (i + 1))
def tones : List Tn := [⟨0, false⟩, ⟨1, false⟩, ⟨2, false⟩, ⟨2, true⟩, ⟨3, false⟩, ⟨4, false⟩, ⟨5, false⟩, ⟨6, false⟩, ⟨7, false⟩, ⟨8, false⟩, ⟨9, false⟩, ⟨9, true⟩, ⟨10, false⟩, ⟨11, false⟩, ⟨12, false⟩, ⟨13, false⟩, ⟨14, false⟩, ⟨15, false⟩, ⟨16, false⟩, ⟨16, true⟩, ⟨17, false⟩, ⟨18, false⟩, ⟨19, false⟩, ⟨20, false⟩]
def stones : List Tn := [⟨0, false⟩, ⟨1, false⟩, ⟨2, true⟩, ⟨2, false⟩, ⟨3, false⟩, ⟨4, false⟩, ⟨5, false⟩, ⟨6, false⟩, ⟨7, false⟩, ⟨8, false⟩, ⟨9, true⟩, ⟨9, false⟩, ⟨10, false⟩, ⟨11, false⟩, ⟨12, false⟩, ⟨13, false⟩, ⟨14, false⟩, ⟨15, false⟩, ⟨16, true⟩, ⟨16, false⟩, ⟨17, false⟩, ⟨18, false⟩, ⟨19, false⟩, ⟨20, false⟩]
def fnd (L : List UInt8) : List Tn → Int × Bool × Bool
  | [] => (0, false, false)
  | t :: ts => if (txt t).toList = L then (t.f0, t.f1, true) else fnd L ts
end Go.Proofs.YtlinjleahnccgaaDoor.Pur
end
section
namespace Go.Proofs.YtlinjleahnccgaaDoor.Pur
open Go.RowKit Go.Proofs.YtlinjleahnccgaaDoorW.PrintWords Go.Proofs.YtlinjleahnccgaaDoorW.PrintMore Go.Proofs.YtlinjleahnccgaaDoor.E
def okB (B : List Int) : Prop := B.length ≤ 2000 ∧ ∀ x ∈ B, 0 ≤ x ∧ x ≤ 255
theorem byte_range {x : Int} (h : (Lit.int .u8 x).wf = true) : 0 ≤ x ∧ x ≤ 255 := by
  simp [Lit.wf, IntKind.min, IntKind.max, IntKind.signed, IntKind.bits] at h
  omega
theorem okB_rd {B : List Int} (h : okB B) (i : Int) : 0 ≤ rd B i ∧ rd B i ≤ 255 := by
  unfold rd
  rw [List.getD_eq_getElem?_getD]
  cases e : B[i.toNat]? with
  | none => simp
  | some v => simpa using h.2 v (List.mem_of_getElem? e)
theorem open_code (l : List Int) (h : ∀ x ∈ l, (Lit.int .u8 x).wf = true) : EvP (fun _ => spec_l6Open.f l) (fun r => okB r.1 ∧ r.2 = 0) := by
  unfold spec_l6Open.f
  refine EvP.ite (fun h1 => EvP.yes (by omega) (EvP.ret ⟨⟨by simp; omega, fun x hx => byte_range (h x (List.mem_of_mem_take hx))⟩, rfl⟩)) (fun h1 => EvP.ret ⟨⟨by dsimp only; omega, fun x hx => byte_range (h x hx)⟩, rfl⟩)
theorem xor_nn {x y : Int} (hx : 0 ≤ x) (hx' : x < 4611686018427387904) (hy : 0 ≤ y) (hy' : y < 4611686018427387904) : 0 ≤ Go.bits .xor .i64 x y := by
  obtain ⟨a, rfl⟩ := Int.eq_ofNat_of_zero_le hx
  obtain ⟨b, rfl⟩ := Int.eq_ofNat_of_zero_le hy
  have ha : a < 2 ^ 62 := by omega
  have hb : b < 2 ^ 62 := by omega
  have hx : a ^^^ b < 2 ^ 62 := Nat.xor_lt_two_pow ha hb
  have ea : a % 2 ^ IntKind.i64.bits = a := Nat.mod_eq_of_lt (by simp [IntKind.bits]; omega)
  have eb : b % 2 ^ IntKind.i64.bits = b := Nat.mod_eq_of_lt (by simp [IntKind.bits]; omega)
  simp only [Go.bits, BitVec.ofInt_natCast, BitVec.toNat_xor, BitVec.toNat_ofNat, ea, eb]
  rw [IntKind.wrap_i64]
  omega
theorem mix_ok (E n : Int) (h0 : 0 ≤ E) (h1 : E < 4611686018427387904) (hn : 1 ≤ n) :
    0 ≤ Int.tmod (Go.bits .xor .i64 E (wrap64 (Int.tdiv E 64))) n ∧ Int.tmod (Go.bits .xor .i64 E (wrap64 (Int.tdiv E 64))) n < n := by
  have hd : Int.tdiv E 64 = E / 64 := tdiv_pos 64 h0
  have h2 := xor_nn h0 h1 (y := wrap64 (Int.tdiv E 64)) (by rw [hd, w64 (by omega) (by omega)]; omega) (by rw [hd, w64 (by omega) (by omega)]; omega)
  exact ⟨Int.tmod_nonneg n h2, Int.tmod_lt_of_pos _ (by omega)⟩
theorem mixE (r1 r2 p q : Int) (a1 : 0 ≤ r1 ∧ r1 ≤ 255) (a2 : 0 ≤ r2 ∧ r2 ≤ 255) (hp : 0 ≤ p ∧ p ≤ 1000000000) (hq : 0 ≤ q ∧ q ≤ 1000000000) :
    (wrap64 ((wrap64 ((wrap64 ((wrap64 ((wrap64 r1) * 131)) + (wrap64 ((wrap64 r2) * 1117)))) + (wrap64 (p * 29)))) + (wrap64 ((wrap64 q) * 53)))) = r1 * 131 + r2 * 1117 + p * 29 + q * 53 := by
  rw [w64 (i := r1) (by omega) (by omega), w64 (i := r2) (by omega) (by omega), w64 (i := q) (by omega) (by omega), w64 (i := r1 * 131) (by omega) (by omega), w64 (i := r2 * 1117) (by omega) (by omega), w64 (i := p * 29) (by omega) (by omega),
    w64 (i := q * 53) (by omega) (by omega), w64 (i := r1 * 131 + r2 * 1117) (by omega) (by omega), w64 (i := r1 * 131 + r2 * 1117 + p * 29) (by omega) (by omega), w64 (by omega) (by omega)]
theorem pick_ok {B : List Int} (hB : okB B) (p n : Int) (hp : 0 ≤ p ∧ p ≤ 100000000) (hn : 1 ≤ n ∧ n ≤ 1000000) : EvP (fun k => spec_l6Rd_pick.f k B p n) (fun r => 0 ≤ r.1 ∧ r.1 < n ∧ r.2 = p + 1) := by
  unfold spec_l6Rd_pick.f
  have e1 : wrap64 (p + 1) = p + 1 := w64 (by omega) (by omega)
  have e2 : wrap64 (p + 1 - 1) = p := by rw [w64 (by omega) (by omega)]; omega
  have hl := hB.1
  rw [e1]
  refine EvP.no (by omega) ?_
  refine EvP.succ ?_
  simp only [spec_l6Rd_pick.j0, e2]
  clear e1 e2
  refine EvP.ite (fun h0 => EvP.ret ⟨by omega, by dsimp only; omega, rfl⟩) (fun h0 => ?_)
  have hpos : 0 < (B.length : Int) := by
    rw [beq_iff_eq] at h0
    omega
  refine EvP.ite (fun h1 => ?_) (fun h1 => ?_)
  · have hr := okB_rd hB p
    refine EvP.yes (by omega) (EvP.no (by omega) (EvP.ret ⟨?_, ?_, rfl⟩))
    · rw [w64 (by omega) (by omega)]; exact Int.tmod_nonneg n hr.1
    · exact Int.tmod_lt_of_pos _ (by omega)
  · refine EvP.no (by omega) ?_
    have m1 : Int.tmod p (B.length : Int) = p % (B.length : Int) := tmod_pos _ hp.1
    have hm1 : 0 ≤ Int.tmod p (B.length : Int) ∧ Int.tmod p (B.length : Int) < (B.length : Int) := by rw [m1]; exact ⟨Int.emod_nonneg _ (by omega), Int.emod_lt_of_pos _ hpos⟩
    have e3 : wrap64 ((wrap64 (p * 7)) + 3) = p * 7 + 3 := by rw [w64 (i := p * 7) (by omega) (by omega), w64 (by omega) (by omega)]
    rw [e3]
    clear e3
    have hm2 : 0 ≤ Int.tmod (p * 7 + 3) (B.length : Int) ∧ Int.tmod (p * 7 + 3) (B.length : Int) < (B.length : Int) := by rw [tmod_pos _ (by omega)]; exact ⟨Int.emod_nonneg _ (by omega), Int.emod_lt_of_pos _ hpos⟩
    have hq : 0 ≤ Int.tdiv p (B.length : Int) ∧ Int.tdiv p (B.length : Int) ≤ 1000000000 := by
      rw [tdiv_pos _ hp.1]
      have := Int.ediv_le_self (B.length : Int) hp.1
      exact ⟨Int.ediv_nonneg hp.1 (by omega), by omega⟩
    have a1 := okB_rd hB (Int.tmod p (B.length : Int))
    have a2 := okB_rd hB (Int.tmod (p * 7 + 3) (B.length : Int))
    refine EvP.yes hm1.1 (EvP.yes hm1.2 (EvP.yes hm2.1 (EvP.yes hm2.2 (EvP.no (by omega) ?_))))
    rw [mixE _ _ p _ a1 a2 (by omega) hq]
    have := mix_ok (rd B (Int.tmod p (B.length : Int)) * 131 + rd B (Int.tmod (p * 7 + 3) (B.length : Int)) * 1117 + p * 29 + Int.tdiv p (B.length : Int) * 53) n (by omega) (by omega) hn.1
    exact EvP.ret ⟨this.1, this.2, rfl⟩
end Go.Proofs.YtlinjleahnccgaaDoor.Pur
end
section
namespace Go.Proofs.YtlinjleahnccgaaDoor.Pur
open Go.RowKit Go.Proofs.YtlinjleahnccgaaDoorW.PrintWords Go.Proofs.YtlinjleahnccgaaDoorW.PrintMore Go.Proofs.YtlinjleahnccgaaDoor.E
theorem step_in {v : Int} : 1 ≤ mx 1 (mn 15 v) ∧ mx 1 (mn 15 v) ≤ 15 := by unfold mx mn; omega
theorem melody_loop {B : List Int} (hB : okB B) (n : Int) (hn : 0 ≤ n ∧ n ≤ 200) : ∀ (d : Nat) (i : Int) (acc : List S25) (s p : Int), 0 ≤ i → i + d = n → (acc.length : Int) = i → 1 ≤ s → s ≤ 15 → 0 ≤ p → p ≤ 1000000 - 10 * d →
    EvP (fun k => spec_l91Melody.l0 k acc n s i B p) (fun r => (r.1.length : Int) = n ∧ 0 ≤ r.2 ∧ r.2 ≤ p + 2 * d + 2) := by
  intro d
  induction d with
  | zero =>
    intro i acc s p hi hd ha hs0 hs1 hp0 hp1
    refine EvP.succ ?_
    simp only [spec_l91Melody.l0]
    refine EvP.no (by omega) ?_
    refine EvP.ite (fun hpos => ?_) (fun _ => EvP.ret ⟨by dsimp only; omega, hp0, by dsimp only; omega⟩)
    refine EvP.bind (pick_ok hB p 50 (by omega) (by omega)) (fun r hr => ?_)
    refine EvP.ite (fun _ => ?_) (fun _ => EvP.ite (fun _ => ?_) (fun _ => EvP.ret ⟨by dsimp only; omega, by dsimp only; omega, by dsimp only; omega⟩))
    · refine EvP.bind (P := (· = [(-1), 21, 20])) (EvP.con rfl rfl) (fun _ e => ?_)
      subst e
      refine EvP.bind (pick_ok hB r.2 3 (by omega) (by omega)) (fun q hq => ?_)
      have h3 : (([(-1), 21, 20] : List Int).length : Int) = 3 := rfl
      exact EvP.yes hq.1 (EvP.yes (by omega) (EvP.yes (by omega) (EvP.ret ⟨by simp; omega, by dsimp only; omega, by dsimp only; omega⟩)))
    · rw [w64 (by omega) (by omega)]
      exact EvP.yes (by omega) (EvP.yes (by omega) (EvP.ret ⟨by simp; omega, by dsimp only; omega, by dsimp only; omega⟩))
  | succ d ih =>
    intro i acc s p hi hd ha hs0 hs1 hp0 hp1
    refine EvP.succ ?_
    simp only [spec_l91Melody.l0]
    refine EvP.yes (by omega) ?_
    refine EvP.bind (P := (· = Int.tmod s 7)) (EvP.con rfl rfl) (fun _ e => ?_)
    subst e
    have ei : Hd (wrap64 (i + 1) = i + 1) := ⟨w64 (by omega) (by omega)⟩
    refine EvP.ite (fun _ => ?_) (fun _ => ?_)
    · refine EvP.bind (pick_ok hB p 3 (by omega) (by omega)) (fun r hr => ?_)
      refine EvP.yes (by omega) ?_
      refine EvP.bind (pick_ok hB r.2 5 (by omega) (by omega)) (fun q hq => ?_)
      rw [ei.out]
      have sn := step_in (v := wrap64 ((wrap64 (s + q.1)) - 2))
      refine (ih (i + 1) _ _ q.2 (by omega) (by omega) (by simp; omega) sn.1 sn.2 (by omega) (by omega)).mono (fun r' h => ⟨h.1, h.2.1, by omega⟩)
    · refine EvP.yes (by omega) ?_
      refine EvP.bind (pick_ok hB p 5 (by omega) (by omega)) (fun q hq => ?_)
      rw [ei.out]
      have sn := step_in (v := wrap64 ((wrap64 (s + q.1)) - 2))
      refine (ih (i + 1) _ _ q.2 (by omega) (by omega) (by simp; omega) sn.1 sn.2 (by omega) (by omega)).mono (fun r' h => ⟨h.1, h.2.1, by omega⟩)
theorem melody_ok {B : List Int} (hB : okB B) (p most : Int) (hp : 0 ≤ p ∧ p ≤ 100000) (hm : 0 ≤ most ∧ most ≤ 100) :
    EvP (fun k => spec_l91Melody.f k B p most) (fun r => (r.1.length : Int) ≤ most ∧ 0 ≤ r.2 ∧ r.2 ≤ p + 2 * most + 4) := by
  unfold spec_l91Melody.f
  rw [w64 (by omega) (by omega)]
  refine EvP.bind (pick_ok hB p (most + 1) (by omega) (by omega)) (fun r hr => ?_)
  refine EvP.bind (pick_ok hB r.2 5 (by omega) (by omega)) (fun q hq => ?_)
  rw [w64 (by omega) (by omega)]
  obtain ⟨d, hd⟩ := Int.eq_ofNat_of_zero_le hr.1
  refine (melody_loop hB r.1 (by omega) d 0 [] _ q.2 (by omega) (by omega) rfl (by omega) (by omega) (by omega) (by omega)).mono (fun r' h => ⟨by omega, h.2.1, by omega⟩)
end Go.Proofs.YtlinjleahnccgaaDoor.Pur
end
section
namespace Go.Proofs.YtlinjleahnccgaaDoor.Pur
open Go.RowKit Go.Proofs.YtlinjleahnccgaaDoorW.PrintWords Go.Proofs.YtlinjleahnccgaaDoorW.PrintMore Go.Proofs.YtlinjleahnccgaaDoor.E
theorem same_refl_loop (l : List TnM) (hl : l.length ≤ 1048576) : ∀ d i : Nat, i + d = l.length → EvP (fun k => laws_sameTones.l0 k l l (i : Int)) (· = true) := by
  intro d
  induction d with
  | zero =>
    intro i hi
    refine EvP.succ ?_
    simp only [laws_sameTones.l0]
    exact EvP.no (by omega) (EvP.ret rfl)
  | succ d ih =>
    intro i hi
    refine EvP.succ ?_
    simp only [laws_sameTones.l0]
    refine EvP.yes (by omega) (EvP.yes (by omega) (EvP.yes (by omega) (EvP.no (by simp) ?_)))
    rw [w64 (by omega) (by omega)]
    exact ih (i + 1) (by omega)
theorem same_refl (l : List TnM) (hl : l.length ≤ 1048576) : EvP (fun k => laws_sameTones.f k l l) (· = true) := by
  simp only [laws_sameTones.f]
  refine EvP.congr_ (fun _ => if_pos trivial) ?_
  exact same_refl_loop l hl l.length 0 (by omega)
theorem range_spec : ∀ (l : List TnM) (a b : Int), b ≤ (rgLoop l a b).2 ∧ (∀ t ∈ l, t.f0 ≤ (rgLoop l a b).2) ∧ ((rgLoop l a b).2 = b ∨ ∃ t ∈ l, t.f0 = (rgLoop l a b).2)
  | [], a, b => ⟨Int.le_refl _, (fun _ h => by cases h), Or.inl rfl⟩
  | t :: ts, a, b => by
    obtain ⟨h1, h2, h3⟩ := range_spec ts (mn a t.f0) (mx b t.f0)
    have hm : b ≤ mx b t.f0 ∧ t.f0 ≤ mx b t.f0 ∧ (mx b t.f0 = b ∨ mx b t.f0 = t.f0) := by unfold mx; omega
    simp only [rgLoop]
    refine ⟨by omega, fun u hu => ?_, ?_⟩
    · rcases List.mem_cons.mp hu with rfl | hu
      · omega
      · exact h2 u hu
    · rcases h3 with h3 | ⟨u, hu, h3⟩
      · rcases hm.2.2 with h4 | h4
        · exact .inl (by omega)
        · exact .inr ⟨t, List.mem_cons_self, by omega⟩
      · exact .inr ⟨u, List.mem_cons_of_mem _ hu, h3⟩
def up7 (t : TnM) : TnM := ⟨t.f0 + 7, t.f1⟩
theorem hgt7 (s : Int) (b : Bool) : hgt ⟨s + 7, b⟩ = heights.getD (s % 7).toNat 0 + 12 * (s / 7) + 12 - (if b = true then 1 else 0) := by
  have e1 : (s + 7) % 7 = s % 7 := by omega
  have e2 : (s + 7) / 7 = s / 7 + 1 := by omega
  simp only [hgt, e1, e2]
  omega
theorem diff7 (t : TnM) (b : Bool) : hgt ⟨t.f0 + 7, b⟩ - hgt t = 12 - (if b = true then 1 else 0) + (if t.f1 = true then 1 else 0) := by
  rw [hgt7]
  unfold hgt
  omega
theorem ok_iff (s : Int) (b : Bool) : okT ⟨s, b⟩ = true ↔ 0 ≤ s ∧ s ≤ 20 ∧ (b = true → s % 7 = 2) := by
  unfold okT
  cases b <;> simp [and_assoc]
theorem mv1_out {t : TnM} (h : 13 < t.f0) (m : Int) : mv1 7 m t = none := by
  unfold mv1
  rw [if_neg (fun q => by have := (ok_iff _ _).mp q.1; omega), if_neg (fun q => by have := (ok_iff _ _).mp q.1; omega)]
theorem mv1_12 {t : TnM} (ht : okT t = true) (h : t.f0 ≤ 13) : mv1 7 12 t = some (up7 t) := by
  have hk := (ok_iff t.f0 t.f1).mp ht
  unfold mv1 up7
  rw [diff7, diff7]
  cases hb : t.f1 with
  | false => rw [if_pos ⟨(ok_iff _ _).mpr ⟨by omega, by omega, by simp⟩, by simp⟩]
  | true =>
    rw [if_neg (fun q => by have := q.2; simp at this), if_pos ⟨(ok_iff _ _).mpr ⟨by omega, by omega, fun _ => by have := hk.2.2 hb; omega⟩, by simp⟩]
theorem mv1_13 {t : TnM} (ht : okT t = true) (h : t.f0 % 7 ≠ 2) : mv1 7 13 t = none := by
  have hk := (ok_iff t.f0 t.f1).mp ht
  have hb : t.f1 = false := by
    cases e : t.f1 with
    | false => rfl
    | true => exact absurd (hk.2.2 e) h
  unfold mv1
  rw [diff7, diff7, hb]
  rw [if_neg (fun q => by have := q.2; simp at this), if_neg (fun q => by have := q.2; simp at this)]
theorem all_none {k m : Int} : ∀ {l : List TnM}, (∃ t ∈ l, mv1 k m t = none) → mvAll k m l = none
  | [], h => by obtain ⟨_, h, _⟩ := h; cases h
  | t :: ts, ⟨u, hu, h⟩ => by
    simp only [mvAll]
    rcases List.mem_cons.mp hu with rfl | hu
    · rw [h]
    · rw [all_none ⟨u, hu, h⟩]
      cases mv1 k m t <;> rfl
theorem all_12 : ∀ {l : List TnM}, l.all okT = true → (∀ t ∈ l, t.f0 ≤ 13) → mvAll 7 12 l = some (l.map up7)
  | [], _, _ => rfl
  | t :: ts, h, h2 => by
    rw [List.all_cons, Bool.and_eq_true] at h
    simp only [mvAll]
    rw [mv1_12 h.1 (h2 t List.mem_cons_self), all_12 h.2 (fun u hu => h2 u (List.mem_cons_of_mem _ hu))]
    rfl
theorem oct_out {l : List TnM} (h : ∃ t ∈ l, 13 < t.f0) : (mvM l 7).2 = false := by
  obtain ⟨u, hu, h⟩ := h
  cases l with
  | nil => cases hu
  | cons t ts =>
    have hn : ∀ m, mvAll 7 m (t :: ts) = none := fun m => all_none ⟨u, hu, mv1_out h m⟩
    unfold mvM mvTryP
    simp only [hn]
    split
    · split
      · split <;> rfl
      · split <;> rfl
    · rfl
theorem oct_in {t : TnM} {ts : List TnM} (h : okM (t :: ts) = true) (h2 : ∀ u ∈ t :: ts, u.f0 ≤ 13) : (mvM (t :: ts) 7).2 = true ∧ ((∃ u ∈ t :: ts, u.f0 % 7 ≠ 2) → (mvM (t :: ts) 7).1 = (t :: ts).map up7) := by
  have hm : (t :: ts).all okT = true := by
    unfold okM at h
    rw [Bool.and_eq_true] at h
    exact h.1
  have ht : okT t = true := List.all_eq_true.mp hm t List.mem_cons_self
  have hk := (ok_iff t.f0 t.f1).mp ht
  have hle := h2 t List.mem_cons_self
  have h12 := all_12 hm h2
  have hf : okT ⟨t.f0 + 7, false⟩ = true := (ok_iff _ _).mpr ⟨by omega, by omega, by simp⟩
  unfold mvM
  simp only
  rw [if_pos ⟨h, by decide, by decide⟩]
  unfold mvTryP
  rw [if_pos hf, diff7, diff7]
  cases hb : t.f1 with
  | false =>
    simp only [Bool.false_eq_true, if_false, Int.sub_zero, Int.add_zero, h12]
    exact ⟨by first | rfl | trivial, fun _ => by first | rfl | trivial⟩
  | true =>
    have hs : okT ⟨t.f0 + 7, true⟩ = true := (ok_iff _ _).mpr ⟨by omega, by omega, fun _ => by have := hk.2.2 hb; omega⟩
    have e13 : (12 : Int) - (if false = true then 1 else 0) + (if true = true then 1 else 0) = 13 := by decide
    have e12 : (12 : Int) - (if true = true then 1 else 0) + (if true = true then 1 else 0) = 12 := by decide
    rw [if_pos hs, e13, e12, h12]
    refine ⟨?_, fun ⟨u, hu, h7⟩ => ?_⟩
    · cases mvAll 7 13 (t :: ts) <;> rfl
    · rw [all_none ⟨u, hu, mv1_13 (List.all_eq_true.mp hm u hu) h7⟩]
theorem letter_b {s : Int} (h : s % 7 = 2) : ((lett s).toList != ([66] : List UInt8)) = false := by
  unfold lett
  rw [h]
  decide +kernel
section
variable {m X : List TnM} (hm : m.length ≤ 24) (hok : m.all okT = true)
theorem soft_loop (hX : X = m.map up7) (hm : m.length ≤ 24) : ∀ d i : Nat, i + d = m.length → EvP (fun k => laws_FnMelodyMoveOctave.l1 k m X true true (i : Int)) (· = true) := by
  intro d
  induction d with
  | zero =>
    intro i hi
    refine EvP.succ ?_
    simp only [laws_FnMelodyMoveOctave.l1]
    refine EvP.no (by omega) (EvP.succ ?_)
    simp only [laws_FnMelodyMoveOctave.j3]
    exact EvP.no (by simp) (EvP.ret rfl)
  | succ d ih =>
    intro i hi
    have hlt : i < m.length := by omega
    have hlx : X.length = m.length := by rw [hX, List.length_map]
    refine EvP.succ ?_
    simp only [laws_FnMelodyMoveOctave.l1]
    refine EvP.yes (by omega) (EvP.succ ?_)
    simp only [laws_FnMelodyMoveOctave.j3]
    refine EvP.congr_ (fun _ => if_pos trivial) (EvP.yes (by omega) (EvP.yes (by omega) (EvP.yes (by omega) (EvP.yes (by omega) ?_))))
    rw [rdT_lt hlt, rdT_lt (l := X) (by omega)]
    have e : X[i]'(by omega) = up7 m[i] := by
      subst hX
      rw [List.getElem_map]
    rw [e]
    refine EvP.no (by simp [up7]) ?_
    rw [w64 (by omega) (by omega)]
    exact ih (i + 1) (by omega)
theorem no_loop : EvP (fun k => laws_FnMelodyMoveOctave.l1 k m X true false 0) (· = true) := by
  refine EvP.succ ?_
  simp only [laws_FnMelodyMoveOctave.l1]
  refine EvP.ite (fun _ => ?_) (fun _ => ?_)
  all_goals
    refine EvP.succ ?_
    simp only [laws_FnMelodyMoveOctave.j3]
    exact EvP.no (by simp) (EvP.ret rfl)
theorem other_loop (hm : m.length ≤ 24) (hok : m.all okT = true) (hX : (∃ u ∈ m, u.f0 % 7 ≠ 2) → X = m.map up7) : ∀ (d i : Nat) (o : Bool), i + d = m.length → (o = true → ∃ u ∈ m, u.f0 % 7 ≠ 2) → EvP (fun k => laws_FnMelodyMoveOctave.l0 k m X true o (i : Int)) (· = true) := by
  intro d
  induction d with
  | zero =>
    intro i o hi ho
    refine EvP.succ ?_
    simp only [laws_FnMelodyMoveOctave.l0]
    refine EvP.no (by omega) ?_
    cases o with
    | false => exact no_loop
    | true => exact soft_loop (hX (ho rfl)) hm m.length 0 (by omega)
  | succ d ih =>
    intro i o hi ho
    have hlt : i < m.length := by omega
    have hk : okT m[i] = true := List.all_eq_true.mp hok _ (List.getElem_mem hlt)
    have e1 : Hd (wrap64 ((i : Int) + 1) = ((i + 1 : Nat) : Int)) := ⟨w64 (by omega) (by omega)⟩
    refine EvP.succ ?_
    simp only [laws_FnMelodyMoveOctave.l0]
    rw [e1.out]
    refine EvP.yes (by omega) (EvP.ite (fun h => ih (i + 1) true (by omega) (fun _ => ho h)) (fun h => EvP.yes (by omega) ?_))
    rw [rdT_lt hlt]
    refine EvP.bind (P := (· = lett m[i].f0)) (EvP.con (impl_letter hk) rfl) (fun _ e => ?_)
    subst e
    refine ih (i + 1) _ (by omega) (fun hb => ⟨m[i], List.getElem_mem hlt, fun e7 => ?_⟩)
    rw [letter_b e7] at hb
    cases hb
end
theorem draw_move (l : List Int) (h : ∀ x ∈ l, (Lit.int .u8 x).wf = true) : EvP (fun k => spec_DrawMelodyMove.f k l) (fun r => r.1.length ≤ 1000) := by
  simp only [spec_DrawMelodyMove.f]
  refine EvP.bind (open_code l h) (fun r hr => ?_)
  refine EvP.bind (melody_ok hr.1 r.2 5 (by omega) (by omega)) (fun q hq => ?_)
  refine EvP.bind (pick_ok hr.1 q.2 20 ⟨by omega, by omega⟩ (by omega)) (fun p hp => ?_)
  refine EvP.ite (fun _ => ?_) (fun _ => ?_)
  · refine EvP.bind (P := (· = [9223372036854775807, (-9223372036854775808), 0])) (EvP.con rfl rfl) (fun _ e => ?_)
    subst e
    refine EvP.bind (pick_ok hr.1 p.2 3 ⟨by omega, by omega⟩ (by omega)) (fun s hs => ?_)
    exact EvP.yes hs.1 (EvP.yes (by simp; omega) (EvP.ret (by simp only; omega)))
  · refine EvP.bind (P := (· = [(-7), (-4), (-3), 0, 3, 4, 7, 1, (-1), 2])) (EvP.con rfl rfl) (fun _ e => ?_)
    subst e
    refine EvP.bind (pick_ok hr.1 p.2 10 ⟨by omega, by omega⟩ (by omega)) (fun s hs => ?_)
    exact EvP.yes hs.1 (EvP.yes (by simp; omega) (EvP.ret (by simp only; omega)))
theorem mvM_len : ∀ (l : List TnM) (k : Int), (mvM l k).1.length ≤ l.length := by
  have hl : ∀ (k m : Int) (l r : List TnM), mvAll k m l = some r → r.length = l.length := by
    intro k m l
    induction l with
    | nil => intro r h; cases h; rfl
    | cons t ts ih =>
      intro r h
      simp only [mvAll] at h
      cases h1 : mv1 k m t with
      | none => rw [h1] at h; cases h
      | some x =>
        rw [h1] at h
        cases h2 : mvAll k m ts with
        | none => rw [h2] at h; cases h
        | some r' =>
          rw [h2] at h
          obtain rfl := Option.some.inj h
          simp [ih r' h2]
  have ht : ∀ (l : List TnM) (k : Int) (t : TnM) (b : Bool) (d : List TnM × Bool), d.1.length ≤ l.length → (mvTryP l k t b d).1.length ≤ l.length := by
    intro l k t b d hd
    unfold mvTryP
    split
    · cases h : mvAll k (hgt ⟨t.f0 + k, b⟩ - hgt t) l with
      | none => exact hd
      | some r => exact Nat.le_of_eq (hl _ _ _ _ h)
    · exact hd
  intro l k
  unfold mvM
  cases l with
  | nil => exact Nat.le_refl _
  | cons t ts =>
    simp only
    split
    · exact ht _ _ _ _ _ (ht _ _ _ _ _ (Nat.zero_le _))
    · exact Nat.zero_le _
theorem law_octave (l : List Int) (_ : (l.length : Int) ≤ 9223372036854775807) (h : ∀ x ∈ l, (Lit.int .u8 x).wf = true) : ∃ k, laws_FnMelodyMoveOctave.f k l = some true := by
  refine EvP.rounds ?_
  simp only [laws_FnMelodyMoveOctave.f]
  refine EvP.ite (fun _ => EvP.ret rfl) (fun _ => ?_)
  refine EvP.bind (draw_move l h) (fun r hr => ?_)
  obtain ⟨m, k⟩ := r
  simp only at hr ⊢
  have hlen := mvM_len m k
  refine EvP.bind (impl_mv m k (by omega)) (fun _ e => ?_)
  subst e
  refine EvP.bind (spec_mv m k (by omega)) (fun _ e => ?_)
  subst e
  have hsame := same_refl (mvM m k).1 (by omega)
  refine EvP.no (by simp) ?_
  refine EvP.bind hsame (fun _ e => ?_)
  subst e
  refine EvP.yes rfl ?_
  refine EvP.succ ?_
  simp only [laws_FnMelodyMoveOctave.j0]
  cases hM : (mvM m k).2 with
  | false =>
    refine EvP.yes rfl (EvP.yes (by rw [beq_self_eq_true]) ?_)
    refine EvP.bind hsame (fun _ e => ?_)
    subst e
    exact EvP.ret rfl
  | true =>
    refine EvP.no (by simp) ?_
    cases m with
    | nil =>
      refine EvP.bind (P := (· = (0, 0, false))) ?_ (fun _ e => ?_)
      · simp only [impl_MelodyRange.f]
        refine EvP.yes (by simp) ?_
        refine EvP.bind (impl_melody []) (fun _ e => ?_)
        subst e
        exact EvP.yes rfl (EvP.yes rfl (EvP.ret rfl))
      · subst e
        exact EvP.no (by simp) (EvP.yes rfl (EvP.ret rfl))
    | cons t ts =>
      have hok : okM (t :: ts) = true := by
        unfold mvM at hM
        simp only at hM
        split at hM
        · rename_i q
          exact q.1
        · cases hM
      have hp : (t :: ts).all okT = true ∧ (t :: ts).length ≤ 24 := by
        unfold okM at hok
        rw [Bool.and_eq_true, decide_eq_true_eq] at hok
        exact hok
      have h0 : rd_T25 (t :: ts) 0 = t := rdT_lt (l := t :: ts) (i := 0) (by simp)
      have ht := ok_range (List.all_eq_true.mp hp.1 t List.mem_cons_self)
      obtain ⟨r1, r2, r3⟩ := range_spec (t :: ts) t.f0 t.f0
      have r4 : (rgLoop (t :: ts) t.f0 t.f0).2 ≤ 20 := by
        rcases r3 with r3 | ⟨u, hu, r3⟩
        · omega
        · have := ok_range (List.all_eq_true.mp hp.1 u hu)
          omega
      refine EvP.bind (P := (· = ((rgLoop (t :: ts) t.f0 t.f0).1, (rgLoop (t :: ts) t.f0 t.f0).2, true))) ?_ (fun _ e => ?_)
      · simp only [impl_MelodyRange.f]
        refine EvP.yes (by omega) ?_
        refine EvP.bind (impl_melody _) (fun _ e => ?_)
        subst e
        rw [h0]
        exact EvP.yes hok (EvP.no (by simp) (EvP.ret rfl))
      subst e
      refine EvP.yes rfl ?_
      refine EvP.bind (impl_mv (t :: ts) 7 (by omega)) (fun _ e => ?_)
      subst e
      dsimp only
      rw [w64 (by omega) (by omega)]
      refine EvP.ite (fun h20 => ?_) (fun h20 => ?_)
      · refine EvP.ret ?_
        rw [oct_out]
        · rfl
        · rcases r3 with r3 | ⟨u, hu, r3⟩
          · exact ⟨t, List.mem_cons_self, by omega⟩
          · exact ⟨u, hu, by omega⟩
      · obtain ⟨o1, o2⟩ := oct_in hok (fun u hu => by have := r2 u hu; omega)
        rw [o1]
        exact other_loop hp.2 hp.1 o2 _ 0 false (Nat.zero_add _) (fun e => by cases e)
end Go.Proofs.YtlinjleahnccgaaDoor.Pur
end
section
namespace Go.Proofs.YtlinjleahnccgaaDoor.Head
set_option maxRecDepth 100000
theorem and_t {a b : Bool} (h : a = true) (k : b = true) : (a && b) = true := by rw [h, k]; rfl
theorem mayEnter_of {P : Program} {l : List String} {W rest : List (List Char)} (h : behindMainWord (wordsSigns P.initOrder.toList) = W) (hc : ∃ c r, W = c :: r ∧ (c == "gc".toList || c == "spec".toList) = false ∧ (c == "carried".toList) = false) (hs : stripLifts liftWords W = (l, "cut".toList :: rest))
    (hl : (l.contains "finals" || !P.laysLater) = true) (hb : (l.contains "reflectrows" || !P.bearsReflect) = true) (hr : (l.contains "reflectrows" || !l.contains "leanrows") = true) (hd : P.doorFits l = true) : P.mayEnter = true := by
  obtain ⟨c, r, rfl, h1, h2⟩ := hc
  unfold Program.mayEnter
  rw [h]
  dsimp only
  rw [hs, hl, hb, hr, hd, h1, h2]
  simp
theorem headLifts_of {P : Program} {l : List String} {W rest : List (List Char)} (h : behindMainWord (wordsSigns P.initOrder.toList) = W) (hs : stripLifts liftWords W = (l, "cut".toList :: rest)) : P.headLifts = l := by
  unfold Program.headLifts
  rw [h]
  dsimp only
  rw [hs]
  simp
theorem liftsFinal_of {P : Program} {l : List String} {W rest : List (List Char)} (h : behindMainWord (wordsSigns P.initOrder.toList) = W) (hc : ∃ c r, W = c :: r ∧ (c == "gc".toList || c == "spec".toList) = false ∧ (c == "carried".toList) = false) (hs : stripLifts liftWords W = (l, "cut".toList :: rest)) : P.liftsFinal = l.contains "finals" := by
  unfold Program.liftsFinal
  rw [headLifts_of h hs, h]
  obtain ⟨c, r, rfl, h1, h2⟩ := hc
  have h3 : ((c :: r).head? == some "carried".toList) = false := by
    rw [beq_eq_false_iff_ne] at h2 ⊢
    exact fun e => h2 (Option.some.inj e)
  dsimp only
  rw [h3, Bool.false_and, Bool.false_or]
theorem make_of {P : Program} {rest : List (List Char)} (h : behindMainWord (wordsSigns P.initOrder.toList) = "cut".toList :: rest) : P.make = some .cut := by
  unfold Program.make
  rw [h]
  dsimp only
  rw [if_neg (by decide), if_pos (by simp)]
theorem mainIs_of {P : Program} {s : List Char} {rest : List (List Char)} (h : wordsSigns P.initOrder.toList = "harness".toList :: s :: rest) (hs : isSumSigns s = true) : P.mainIs = some (true, s) := by
  unfold Program.mainIs
  rw [h]
  dsimp only
  rw [hs]
  simp
def io : List Nat := [104, 97, 114, 110, 101, 115, 115, 32, 98, 101, 49, 57, 49, 50, 55, 99, 99, 48, 99, 52, 52, 56, 99, 55, 56, 57, 99, 97, 98, 97, 54, 57, 98, 97, 102, 102, 51, 56, 56, 54, 56, 97, 49, 50, 102, 102, 52, 99, 54, 100, 98, 97, 50, 101, 54, 52, 99, 52, 55, 99, 49, 50, 53, 49, 98, 48, 49, 49, 55, 100, 52, 55, 32, 99, 117, 116, 32, 97, 116, 32, 108, 111, 111, 112, 46, 101, 120, 97, 109, 112, 108, 101, 47, 110, 101, 117, 109, 101, 115, 47, 108, 97, 119, 115, 46, 70, 110, 69, 120, 97, 99, 116, 84, 111, 110, 101, 76, 101, 116, 116, 101, 114, 32, 108, 111, 111, 112, 46, 101, 120, 97, 109, 112, 108, 101, 47, 110, 101, 117, 109, 101, 115, 47, 108, 97, 119, 115, 46, 70, 110, 69, 120, 97, 99, 116, 84, 111, 110, 101, 84, 101, 120, 116, 32, 108, 111, 111, 112, 46, 101, 120, 97, 109, 112, 108, 101, 47, 110, 101, 117, 109, 101, 115, 47, 108, 97, 119, 115, 46, 70, 110, 69, 120, 97, 99, 116, 84, 111, 110, 101, 70, 114, 111, 109, 32, 108, 111, 111, 112, 46, 101, 120, 97, 109, 112, 108, 101, 47, 110, 101, 117, 109, 101, 115, 47, 108, 97, 119, 115, 46, 70, 110, 84, 111, 110, 101, 84, 101, 120, 116, 32, 108, 111, 111, 112, 46, 101, 120, 97, 109, 112, 108, 101, 47, 110, 101, 117, 109, 101, 115, 47, 108, 97, 119, 115, 46, 70, 110, 84, 111, 110, 101, 70, 114, 111, 109, 32, 108, 111, 111, 112, 46, 101, 120, 97, 109, 112, 108, 101, 47, 110, 101, 117, 109, 101, 115, 47, 108, 97, 119, 115, 46, 70, 110, 69, 120, 97, 99, 116, 77, 101, 108, 111, 100, 121, 84, 101, 120, 116, 32, 108, 111, 111, 112, 46, 101, 120, 97, 109, 112, 108, 101, 47, 110, 101, 117, 109, 101, 115, 47, 108, 97, 119, 115, 46, 70, 110, 69, 120, 97, 99, 116, 77, 101, 108, 111, 100, 121, 70, 114, 111, 109, 32, 108, 111, 111, 112, 46, 101, 120, 97, 109, 112, 108, 101, 47, 110, 101, 117, 109, 101, 115, 47, 108, 97, 119, 115, 46, 70, 110, 77, 101, 108, 111, 100, 121, 77, 111, 118, 101, 79, 99, 116, 97, 118, 101]
def ws : List (List Nat) := [[104, 97, 114, 110, 101, 115, 115], [98, 101, 49, 57, 49, 50, 55, 99, 99, 48, 99, 52, 52, 56, 99, 55, 56, 57, 99, 97, 98, 97, 54, 57, 98, 97, 102, 102, 51, 56, 56, 54, 56, 97, 49, 50, 102, 102, 52, 99, 54, 100, 98, 97, 50, 101, 54, 52, 99, 52, 55, 99, 49, 50, 53, 49, 98, 48, 49, 49, 55, 100, 52, 55], [99, 117, 116], [97, 116], [108, 111, 111, 112, 46, 101, 120, 97, 109, 112, 108, 101, 47, 110, 101, 117, 109, 101, 115, 47, 108, 97, 119, 115, 46, 70, 110, 69, 120, 97, 99, 116, 84, 111, 110, 101, 76, 101, 116, 116, 101, 114], [108, 111, 111, 112, 46, 101, 120, 97, 109, 112, 108, 101, 47, 110, 101, 117, 109, 101, 115, 47, 108, 97, 119, 115, 46, 70, 110, 69, 120, 97, 99, 116, 84, 111, 110, 101, 84, 101, 120, 116], [108, 111, 111, 112, 46, 101, 120, 97, 109, 112, 108, 101, 47, 110, 101, 117, 109, 101, 115, 47, 108, 97, 119, 115, 46, 70, 110, 69, 120, 97, 99, 116, 84, 111, 110, 101, 70, 114, 111, 109], [108, 111, 111, 112, 46, 101, 120, 97, 109, 112, 108, 101, 47, 110, 101, 117, 109, 101, 115, 47, 108, 97, 119, 115, 46, 70, 110, 84, 111, 110, 101, 84, 101, 120, 116], [108, 111, 111, 112, 46, 101, 120, 97, 109, 112, 108, 101, 47, 110, 101, 117, 109, 101, 115, 47, 108, 97, 119, 115, 46, 70, 110, 84, 111, 110, 101, 70, 114, 111, 109], [108, 111, 111, 112, 46, 101, 120, 97, 109, 112, 108, 101, 47, 110, 101, 117, 109, 101, 115, 47, 108, 97, 119, 115, 46, 70, 110, 69, 120, 97, 99, 116, 77, 101, 108, 111, 100, 121, 84, 101, 120, 116], [108, 111, 111, 112, 46, 101, 120, 97, 109, 112, 108, 101, 47, 110, 101, 117, 109, 101, 115, 47, 108, 97, 119, 115, 46, 70, 110, 69, 120, 97, 99, 116, 77, 101, 108, 111, 100, 121, 70, 114, 111, 109], [108, 111, 111, 112, 46, 101, 120, 97, 109, 112, 108, 101, 47, 110, 101, 117, 109, 101, 115, 47, 108, 97, 119, 115, 46, 70, 110, 77, 101, 108, 111, 100, 121, 77, 111, 118, 101, 79, 99, 116, 97, 118, 101]]
def ch (w : List Nat) : List Char := w.map Char.ofNat
theorem io_is : Tryd.prog.initOrder = String.ofList (ch io) := by kernel_rfl
theorem io_ws : wordsSigns (ch io) = ws.map ch := by kernel_rfl
theorem io_all : wordsSigns Tryd.prog.initOrder.toList = ws.map ch := by rw [io_is, String.toList_ofList, io_ws]
theorem be : behindMainWord (ws.map ch) = (ws.drop 2).map ch := by kernel_rfl
theorem io_be : behindMainWord (wordsSigns Tryd.prog.initOrder.toList) = (ws.drop 2).map ch := by rw [io_all, be]
theorem first : ∃ c r, (ws.drop 2).map ch = c :: r ∧ (c == "gc".toList || c == "spec".toList) = false ∧ (c == "carried".toList) = false := ⟨ch (ws.getD 2 []), (ws.drop 3).map ch, by kernel_rfl, by kernel_rfl, by kernel_rfl⟩
theorem st : stripLifts liftWords ((ws.drop 2).map ch) = ([], "cut".toList :: ((ws.drop 3).map ch)) := by kernel_rfl
theorem ll : ([].contains "finals" || !Tryd.prog.laysLater) = true := by kernel_rfl
theorem br : ([].contains "reflectrows" || !Tryd.prog.bearsReflect) = true := by kernel_rfl
theorem rr : ([].contains "reflectrows" || ![].contains "leanrows") = true := by kernel_rfl
theorem df : Tryd.prog.doorFits [] = true := by kernel_rfl
theorem mayE : Tryd.prog.mayEnter = true := mayEnter_of io_be first st ll br rr df
theorem finE : Tryd.prog.liftsFinal = [].contains "finals" := liftsFinal_of io_be first st
theorem mainE : Tryd.prog.mainIs = some (true, ch [98, 101, 49, 57, 49, 50, 55, 99, 99, 48, 99, 52, 52, 56, 99, 55, 56, 57, 99, 97, 98, 97, 54, 57, 98, 97, 102, 102, 51, 56, 56, 54, 56, 97, 49, 50, 102, 102, 52, 99, 54, 100, 98, 97, 50, 101, 54, 52, 99, 52, 55, 99, 49, 50, 53, 49, 98, 48, 49, 49, 55, 100, 52, 55]) := mainIs_of (rest := (ws.drop 2).map ch) (io_all.trans (by kernel_rfl)) (by kernel_rfl)
theorem makeE : Tryd.prog.make = some .cut := make_of (io_be.trans (by kernel_rfl : (ws.drop 2).map ch = "cut".toList :: ((ws.drop 3).map ch)))
end Go.Proofs.YtlinjleahnccgaaDoor.Head
end
section
namespace Go.Proofs.YtlinjleahnccgaaDoor.Pur
open Go.RowKit Go.ChangeShapes Go.Deep Go.Proofs.YtlinjleahnccgaaDoorW.PrintWords Go.Proofs.YtlinjleahnccgaaDoor.E
theorem open_rowP {P : Program} {H : Type} {enc : TypeId × Value → H} {W : World} {α : Type} [Inhabited α] {d : Kd α} {p : α → Prop} {t e : TypeId} {fuel : Nat} {cs : List Value} {x : DataW H × List MemPlace} (ht : P.underlying t = some (.slice e)) (hc : P.cellsOf e = d.sz)
    (o : ∀ (fuel : Nat) (cs : List Value) (x : DataW H × List MemPlace), DataW.trod enc P W 0 (fun _ => true) true fuel e cs = some x → ∃ y, d.K W y cs ∧ p y)
    (h : DataW.trod enc P W 0 (fun _ => true) true fuel t cs = some x) : ∃ (A : Option Addr) (c : Nat) (l : List α), cs = [.slice A l.length c] ∧ l.length ≤ c ∧ (l.length : Int) ≤ 9223372036854775807 ∧ d.C W A l.length l ∧ ∀ y ∈ l, p y := by
  rcases open_slice ht h with ⟨rfl, _⟩ | ⟨a, len, cap, m, n, D, Pl, rfl, _, hl, hm, hmm, _, hx⟩
  · exact ⟨none, 0, [], rfl, Nat.le_refl _, by simp, ⟨rfl, by simp, fun h => absurd h (by simp)⟩, fun y hy => by cases hy⟩
  · have hlm : len ≤ m := by rw [hmm]; simp; omega
    unfold maxLen at hm
    obtain ⟨Y, hY⟩ := choose_lt (α := α) (n := len) (p := fun i y => ∃ cs', W.cells? 0 (a.add (i * P.cellsOf e)) (P.cellsOf e) = some cs' ∧ d.K W y cs' ∧ p y) (fun i hi => by
      obtain ⟨cs', h1, h2⟩ := hx i (by omega)
      obtain ⟨y, hy, hp⟩ := o _ _ _ h2
      exact ⟨y, cs', h1, hy, hp⟩)
    have hlen : ((List.range len).map Y).length = len := by simp
    refine ⟨some a, cap, (List.range len).map Y, by rw [hlen], by rw [hlen]; exact hl, by rw [hlen]; omega, ⟨rfl, by rw [hlen]; omega, fun _ => ⟨a, rfl, fun j q hj => ?_⟩⟩, fun y hy => ?_⟩
    · obtain ⟨hj1, hj2⟩ := List.getElem?_eq_some_iff.1 hj
      rw [hlen] at hj1
      simp only [List.getElem_map, List.getElem_range] at hj2
      subst hj2
      obtain ⟨cs', h1, h2, _⟩ := hY j hj1
      obtain ⟨_, g1, g2⟩ := World.cells?_some h1
      refine ⟨cs', by rw [g1, hc], h2, fun i u hu => ?_⟩
      have := g2 i (by rw [← g1]; exact (List.getElem?_eq_some_iff.1 hu).1)
      rw [Go.Deep.add_add, hc, hu] at this
      exact this
    · obtain ⟨j, hj, rfl⟩ := List.mem_map.mp hy
      obtain ⟨_, _, _, hp⟩ := hY j (List.mem_range.mp hj)
      exact hp
theorem open_intsR {P : Program} {H : Type} {enc : TypeId × Value → H} {W : World} {k : IntKind} {t e : TypeId} {fuel : Nat} {cs : List Value} {x : DataW H × List MemPlace} (ht : P.underlying t = some (.slice e)) (he : P.underlying e = some (.int k)) (hc : P.cellsOf e = 1) (h : DataW.trod enc P W 0 (fun _ => true) true fuel t cs = some x) :
    ∃ (A : Option Addr) (c : Nat) (l : List Int), cs = [.slice A l.length c] ∧ l.length ≤ c ∧ (l.length : Int) ≤ 9223372036854775807 ∧ (Kd.int k).C W A l.length l ∧ ∀ y ∈ l, (Lit.int k y).wf = true :=
  open_rowP ht hc (fun fuel cs x h => by
    obtain ⟨s, rfl, _, hs⟩ := DataW.trod_int he h
    exact ⟨s, rfl, hs⟩) h
end Go.Proofs.YtlinjleahnccgaaDoor.Pur
end
section
namespace Go.Proofs.YtlinjleahnccgaaDoor.Pur
open Go
variable {H : Type} {enc : TypeId × Value → H}
theorem handed_shaped_and {a : Assume} {C : Checked} {os : Os} {f : FuncId} {fn : Func} {s : ChangeSpec} {conds : List PathCond} {apart fresh handsOn again : Bool} {X : World → Array Value → Prop}
    (hX : ∀ (w w' : World) (args : Array Value), w.heap = w'.heap → X w args → X w' args)
    (own : ownKnob C.prog.godebug = none) (started : os.Started) (noInit : C.prog.inits.idxOf? f = none) (hfn : C.prog.funcs[f]? = some fn)
    (witness : ∃ (w : World) (tape : Tape) (i : Input), w.os = os ∧ (w.forCall tape i).Shaped C.prog ∧ i.vars = [] ∧ Input.okWide C.prog (w.forCall tape i) .any w.heap.size f i ∧
      ((s.pre enc C.prog fn conds apart (w.forCall tape i).memory i.args ∧ X (w.forCall tape i).memory i.args) ∧ sizedMet enc C.prog fn (OpenSpec.ofChange s) apart (w.forCall tape i).memory i.args) ∧ a.holds C.prog (lone (Frame.enter C.prog f i.args .normal) [] (w.forCall tape i)))
    (contract : ∀ (W : World) (base : Nat) (args : Array Value) (ds gs : List (DataW H)) (before : List MemPlace),
      (∀ (j : Nat) t v, fn.params[j]? = some t → args[j]? = some v → Value.okWide C.prog W .any base t v) →
      DataW.Whole enc C.prog fn.params.toList s.vars apart W args.toList ds gs before →
      conds.all (PathCond.test C.prog ⟨fn.params.toList, ds, s.plain.varTypes C.prog, gs⟩) = true →
      (DataW.weightsEach C.prog (fn.params.toList ++ s.plain.varTypes C.prog) (ds ++ gs)).all (· ≤ reachBytes) = true → X W args → W.ShapedOpen C.prog →
      a.holds C.prog (lone (Frame.enter C.prog f args .normal) [] W) →
      Calls C.prog f args W fun e W' => ∃ v, e = .returned v ∧ s.post enc C.prog fn apart fresh handsOn again W args v W') :
    ReturnsInHanded a C os f .any (fun w args => (s.pre enc C.prog fn conds apart w args ∧ X w args) ∧ sizedMet enc C.prog fn (OpenSpec.ofChange s) apart w args) (s.post enc C.prog fn apart fresh handsOn again) := by
  refine returnsInHanded_of_calls own started noInit witness ?_
  intro w tape i _ hsh _ hok hpre hholds
  obtain ⟨_, _, _, fn', hfn', _, _, _, _, hval⟩ := hok
  have e : fn' = fn := Option.some.inj (hfn'.symm.trans hfn)
  subst e
  obtain ⟨⟨⟨ds, gs, before, hw, hc⟩, hx⟩, hz⟩ := hpre
  have hw' := DataW.Whole.of_heap (w' := w.forCall tape i) (by rfl) hw
  refine (contract (w.forCall tape i) w.heap.size i.args ds gs before hval hw' hc (hz.weights hw) (hX _ _ _ (by rfl) hx) hsh hholds).mono fun e W' ⟨v, he, hp⟩ => ?_
  subst he
  exact ChangeSpec.post_blind hp
end Go.Proofs.YtlinjleahnccgaaDoor.Pur
end
section
namespace Go.Proofs.YtlinjleahnccgaaDoor.Pur
open Go.Proofs.YtlinjleahnccgaaDoor.E Go Go.RowKit
theorem laid_mem {P : Program} {W : World} {n : String} {d : DataW Unit} : ∀ {l : List (String × DataW Unit)} {ps : List MemPlace}, DataW.LaidVars P W l ps → (n, d) ∈ l →
    ∃ g t cs fuel p, P.globalNamed n = some g ∧ (P.globals[g]?).map (·.type) = some t ∧ W.var? P n = some cs ∧ DataW.trod (fun _ => ()) P W 0 (fun _ => true) false fuel t cs.toList = some (d, p)
  | [], _, _, h => by cases h
  | (n', d') :: r, ps, ⟨g, t, cs, fuel, p, q, h1, h2, h3, h4, h5, _⟩, h => by
    rcases List.mem_cons.mp h with e | e
    · cases e
      exact ⟨g, t, cs, fuel, p, h1, h2, h3, h4⟩
    · exact laid_mem h5 e
theorem vars_cons {H : Type} {enc : TypeId × Value → H} {P : Program} {w : World} {sp : Nat → Bool} {n : String} {ns : List String} {gs : List (DataW H)} {ps : List MemPlace} (h : DataW.TrodVars enc P w sp (n :: ns) gs ps) : ∃ g gs' q, gs = g :: gs' ∧ DataW.TrodVars enc P w sp ns gs' q := by
  cases gs with
  | nil => exact h.elim
  | cons g r =>
    obtain ⟨_, _, _, _, _, q, _, _, _, _, hs, _⟩ := h
    exact ⟨g, r, q, rfl, hs⟩
theorem vars_nil {H : Type} {enc : TypeId × Value → H} {P : Program} {w : World} {sp : Nat → Bool} {gs : List (DataW H)} {ps : List MemPlace} (h : DataW.TrodVars enc P w sp [] gs ps) : gs = [] := by
  cases gs with
  | nil => rfl
  | cons _ _ => exact h.elim
theorem laid_vars {P : Program} {l : List (String × DataW Unit)} {W : World} (h : laidMetH P l W) (hp : (l.all fun x => x.2.handleName?.isNone) = true) : ∃ ps, DataW.LaidVars P W l ps := by
  rw [MakeChecks.laidMetH_plain _ _ _ hp] at h
  obtain ⟨ps, h, _⟩ := h
  exact ⟨ps, h⟩
theorem ba_of_list {s : ByteArray} {l : List UInt8} (h : s.data.toList = l) : s = ⟨l.toArray⟩ := by
  obtain ⟨⟨d⟩⟩ := s
  subst h
  rfl
def names7 : Array Value := #[.string ⟨#[71]⟩, .string ⟨#[65]⟩, .string ⟨#[66]⟩, .string ⟨#[67]⟩, .string ⟨#[68]⟩, .string ⟨#[69]⟩, .string ⟨#[70]⟩]
theorem cells_s : Tryd.prog.cellsOf 9 = 1 := by kernel_rfl
theorem cells_n7 : Tryd.prog.cellsOf 78 = 7 := by kernel_rfl
theorem seven {l : List Value} (h : l.length = 7) : ∃ c0 c1 c2 c3 c4 c5 c6, l = [c0, c1, c2, c3, c4, c5, c6] := by
  match l, h with
  | [a, b, c, d, e, f, g], _ => exact ⟨a, b, c, d, e, f, g, rfl⟩
theorem names_cells {W : World} {l : List (String × DataW Unit)} {ps : List MemPlace} (h : DataW.LaidVars Tryd.prog W l ps) (hm : ("loop.example/neumes/impl.letterNames", Rows.laid_loop_example_neumes_impl_letterNames) ∈ l) :
    W.var? Tryd.prog "loop.example/neumes/impl.letterNames" = some names7 := by
  obtain ⟨g, t, cs, fuel, p, hg, ht, hvar, hd⟩ := laid_mem h hm
  obtain rfl := Option.some.inj ((show Tryd.prog.globalNamed "loop.example/neumes/impl.letterNames" = some 0 by kernel_rfl).symm.trans hg)
  obtain rfl := Option.some.inj ((show (Tryd.prog.globals[0]?).map (·.type) = some 78 by kernel_rfl).symm.trans ht)
  rw [hvar]
  congr 1
  obtain ⟨l⟩ := cs
  cases fuel with
  | zero => simp [DataW.trod] at hd
  | succ fuel =>
    simp only [DataW.trod, Tryd.underlying78, cells_n7, cells_s] at hd
    split at hd
    · rename_i hl
      obtain ⟨c0, c1, c2, c3, c4, c5, c6, rfl⟩ := seven hl
      have e : List.range 7 = [0, 1, 2, 3, 4, 5, 6] := rfl
      rw [e] at hd
      simp only [Option.map_eq_some_iff, List.mapM_cons, List.mapM_nil, Option.bind_eq_bind, Option.bind_eq_some_iff, Option.pure_def, Option.some.injEq] at hd
      obtain ⟨xs, ⟨y0, h0, _, ⟨y1, h1, _, ⟨y2, h2, _, ⟨y3, h3, _, ⟨y4, h4, _, ⟨y5, h5, _, ⟨y6, h6, _, rfl, rfl⟩, rfl⟩, rfl⟩, rfl⟩, rfl⟩, rfl⟩, rfl⟩, hx⟩ := hd
      obtain ⟨n0, e0, rfl, _⟩ := DataW.trod_string Tryd.underlying9 h0
      obtain ⟨n1, e1, rfl, _⟩ := DataW.trod_string Tryd.underlying9 h1
      obtain ⟨n2, e2, rfl, _⟩ := DataW.trod_string Tryd.underlying9 h2
      obtain ⟨n3, e3, rfl, _⟩ := DataW.trod_string Tryd.underlying9 h3
      obtain ⟨n4, e4, rfl, _⟩ := DataW.trod_string Tryd.underlying9 h4
      obtain ⟨n5, e5, rfl, _⟩ := DataW.trod_string Tryd.underlying9 h5
      obtain ⟨n6, e6, rfl, _⟩ := DataW.trod_string Tryd.underlying9 h6
      simp at e0 e1 e2 e3 e4 e5 e6
      subst e0 e1 e2 e3 e4 e5 e6
      simp [Rows.laid_loop_example_neumes_impl_letterNames] at hx
      obtain ⟨⟨e0, e1, e2, e3, e4, e5, e6⟩, _⟩ := hx
      rw [ba_of_list e0, ba_of_list e1, ba_of_list e2, ba_of_list e3, ba_of_list e4, ba_of_list e5, ba_of_list e6]
      rfl
    · cases hd
theorem gok_names {W : World} {l : List (String × DataW Unit)} (h : laidMetH Tryd.prog l W) (hp : (l.all fun x => x.2.handleName?.isNone) = true) (hm : ("loop.example/neumes/impl.letterNames", Rows.laid_loop_example_neumes_impl_letterNames) ∈ l) : GOk [0] W := by
  obtain ⟨ps, hv⟩ := laid_vars h hp
  intro n hn
  obtain rfl := List.mem_singleton.mp hn
  intro i hi
  rw [var?_cell (show Tryd.prog.globalNamed "loop.example/neumes/impl.letterNames" = some 0 by kernel_rfl) (names_cells hv hm)]
  match i, hi with
  | 0, _ => rfl
  | 1, _ => rfl
  | 2, _ => rfl
  | 3, _ => rfl
  | 4, _ => rfl
  | 5, _ => rfl
  | 6, _ => rfl
  | _ + 7, hi => exact absurd hi (by omega)
theorem cells_i : Tryd.prog.cellsOf 3 = 1 := by kernel_rfl
theorem cells_i7 : Tryd.prog.cellsOf 90 = 7 := by kernel_rfl
def heights7 : Array Value := #[.int .i64 0, .int .i64 2, .int .i64 4, .int .i64 5, .int .i64 7, .int .i64 9, .int .i64 10]
theorem heights_cells {W : World} {l : List (String × DataW Unit)} {ps : List MemPlace} (h : DataW.LaidVars Tryd.prog W l ps) (hm : ("loop.example/neumes/impl.letterHeights", Rows.laid_loop_example_neumes_impl_letterHeights) ∈ l) :
    W.var? Tryd.prog "loop.example/neumes/impl.letterHeights" = some heights7 := by
  obtain ⟨g, t, cs, fuel, p, hg, ht, hvar, hd⟩ := laid_mem h hm
  obtain rfl := Option.some.inj ((show Tryd.prog.globalNamed "loop.example/neumes/impl.letterHeights" = some 1 by kernel_rfl).symm.trans hg)
  obtain rfl := Option.some.inj ((show (Tryd.prog.globals[1]?).map (·.type) = some 90 by kernel_rfl).symm.trans ht)
  rw [hvar]
  congr 1
  obtain ⟨l⟩ := cs
  cases fuel with
  | zero => simp [DataW.trod] at hd
  | succ fuel =>
    simp only [DataW.trod, Tryd.underlying90, cells_i7, cells_i] at hd
    split at hd
    · rename_i hl
      obtain ⟨c0, c1, c2, c3, c4, c5, c6, rfl⟩ := seven hl
      have e : List.range 7 = [0, 1, 2, 3, 4, 5, 6] := rfl
      rw [e] at hd
      simp only [Option.map_eq_some_iff, List.mapM_cons, List.mapM_nil, Option.bind_eq_bind, Option.bind_eq_some_iff, Option.pure_def, Option.some.injEq] at hd
      obtain ⟨xs, ⟨y0, h0, _, ⟨y1, h1, _, ⟨y2, h2, _, ⟨y3, h3, _, ⟨y4, h4, _, ⟨y5, h5, _, ⟨y6, h6, _, rfl, rfl⟩, rfl⟩, rfl⟩, rfl⟩, rfl⟩, rfl⟩, rfl⟩, hx⟩ := hd
      obtain ⟨n0, e0, rfl, _⟩ := DataW.trod_int Tryd.underlying3 h0
      obtain ⟨n1, e1, rfl, _⟩ := DataW.trod_int Tryd.underlying3 h1
      obtain ⟨n2, e2, rfl, _⟩ := DataW.trod_int Tryd.underlying3 h2
      obtain ⟨n3, e3, rfl, _⟩ := DataW.trod_int Tryd.underlying3 h3
      obtain ⟨n4, e4, rfl, _⟩ := DataW.trod_int Tryd.underlying3 h4
      obtain ⟨n5, e5, rfl, _⟩ := DataW.trod_int Tryd.underlying3 h5
      obtain ⟨n6, e6, rfl, _⟩ := DataW.trod_int Tryd.underlying3 h6
      simp at e0 e1 e2 e3 e4 e5 e6
      subst e0 e1 e2 e3 e4 e5 e6
      simp [Rows.laid_loop_example_neumes_impl_letterHeights] at hx
      obtain ⟨⟨rfl, rfl, rfl, rfl, rfl, rfl, rfl⟩, _⟩ := hx
      rfl
    · cases hd
theorem gok_heights {W : World} {l : List (String × DataW Unit)} (h : laidMetH Tryd.prog l W) (hp : (l.all fun x => x.2.handleName?.isNone) = true) (hm : ("loop.example/neumes/impl.letterHeights", Rows.laid_loop_example_neumes_impl_letterHeights) ∈ l) : GOk [1] W := by
  obtain ⟨ps, hv⟩ := laid_vars h hp
  intro n hn
  obtain rfl := List.mem_singleton.mp hn
  intro i hi
  rw [var?_cell (show Tryd.prog.globalNamed "loop.example/neumes/impl.letterHeights" = some 1 by kernel_rfl) (heights_cells hv hm)]
  match i, hi with
  | 0, _ => rfl
  | 1, _ => rfl
  | 2, _ => rfl
  | 3, _ => rfl
  | 4, _ => rfl
  | 5, _ => rfl
  | 6, _ => rfl
  | _ + 7, hi => exact absurd hi (by omega)
theorem gok_and {S T : List Nat} {W : World} (h : GOk S W) (k : GOk T W) : GOk (S ++ T) W := by
  intro n hn
  rcases List.mem_append.mp hn with e | e
  · exact h n e
  · exact k n e
end Go.Proofs.YtlinjleahnccgaaDoor.Pur
end
section
namespace Go.Proofs.YtlinjleahnccgaaDoor.fnMelodyMoveOctave
open Go.ChangeShapes Go.WideShapes Go.ChangeAt Go.RowKit
open Go.ChangeMaps (open_string shut_string)
set_option linter.unusedVariables false
theorem own : ownKnob Tryd.prog.godebug = none := by kernel_rfl
theorem laidOut : laidOutB Tryd.prog = true := by kernel_rfl
set_option maxRecDepth 100000 in
theorem lifted (os : Os) (started : os.Started) (H : Type) (enc : TypeId × Value → H) :
    ReturnsInHanded {} Tryd.checked os 10 .any (fun w args => (Rows.fnMelodyMoveOctaveSpec.pre enc Tryd.prog Tryd.f10 Rows.fnMelodyMoveOctaveRow.domain false w args ∧ laidMetH Tryd.prog Rows.fnMelodyMoveOctaveRow.laid w) ∧ sizedMet enc Tryd.prog Tryd.f10 (OpenSpec.ofChange Rows.fnMelodyMoveOctaveSpec) false w args) (Rows.fnMelodyMoveOctaveSpec.post enc Tryd.prog Tryd.f10 false true false false) := by
  refine Pur.handed_shaped_and (C := Tryd.checked) (X := fun w _ => laidMetH Tryd.prog Rows.fnMelodyMoveOctaveRow.laid w) (fun _ _ _ hh h => h.of_heap hh) own started (by kernel_rfl) Tryd.func10
    (ChangeSpec.witness_shaped (enc := enc) (C := Tryd.checked) (os := os) (X := fun w _ => laidMetH Tryd.prog Rows.fnMelodyMoveOctaveRow.laid w) false (World.laidAll Tryd.prog os Rows.fnMelodyMoveOctaveRow.laid) #[.slice none 0 0] 8 (World.laidAll_os _ _ _) (World.shaped_of_ZipB (by kernel_rfl) (by kernel_rfl)) (by kernel_rfl) (by kernel_rfl) (by kernel_rfl) (by rw [MakeChecks.laidMetH_plain _ _ _ (by kernel_rfl)]; exact laidMet_laidAll _ (by kernel_rfl) (by kernel_rfl))) ?_
  intro W base args ds gs before hval0 hW hcnd hsz0 hL hSh _
  have hsz : (DataW.weightsEach Tryd.prog (Tryd.f10.params.toList ++ Rows.fnMelodyMoveOctaveSpec.plain.varTypes Tryd.prog) (ds ++ gs)).all (· ≤ reachBytes) = true := hsz0
  have hval : ∀ (j : Nat) t v, Tryd.f10.params[j]? = some t → args[j]? = some v → Value.okWide Tryd.prog W .any base t v := hval0
  have hW' := hW
  obtain ⟨p, q, hA0, hV, rfl, hfz, hnd⟩ := hW
  have hA : DataW.TrodAll enc Tryd.prog W 0 (fun _ => true) true Tryd.f10.params.toList args.toList ds p := hA0
  rw [Tryd.params10] at hA hval hsz
  obtain ⟨v0, vs0, d0, ds0, p0, q0, hargs, rfl, rfl, h0, r0⟩ := trodAll_cons hA
  obtain ⟨rfl, rfl, rfl⟩ := trodAll_nil r0
  obtain rfl : args = #[v0] := by cases args; simp_all
  obtain ⟨g0, gs0, vq0, rfl, hV0⟩ := Pur.vars_cons hV
  obtain ⟨g1, gs1, vq1, rfl, hV1⟩ := Pur.vars_cons hV0
  obtain rfl := Pur.vars_nil hV1
  have k0 := h0
  have lt0 : ∀ x ∈ p0, x.block < W.heap.size := by obtain ⟨m, hm⟩ := k0; exact DataW.trod_lt m _ _ _ hm
  obtain ⟨a0, len0, cap0, rfl⟩ := okWide_slice Tryd.underlying32 (hval 0 32 v0 rfl rfl)
  obtain ⟨fuel0, hf0⟩ := h0
  obtain ⟨A0, c0, l0, hcs0, hle0, hm0, hC0, hx0⟩ := Pur.open_intsR Tryd.underlying32 Tryd.underlying5 (by kernel_rfl) hf0
  simp [Value.cells] at hcs0
  obtain ⟨rfl, rfl, rfl⟩ := hcs0
  clear hA0 hval0 hsz0 hsz
  obtain ⟨k, hk⟩ := Pur.law_octave l0 hm0 hx0
  refine (E.laws_FnMelodyMoveOctave.calls k _ _ l0 true W hC0 hle0 (Pur.gok_and (Pur.gok_names hL (by kernel_rfl) (by first | exact .head _ | exact .tail _ (.head _) | exact .tail _ (.tail _ (.head _)) | exact .tail _ (.tail _ (.tail _ (.head _))) | exact .tail _ (.tail _ (.tail _ (.tail _ (.head _)))) | exact .tail _ (.tail _ (.tail _ (.tail _ (.tail _ (.head _))))) | exact .tail _ (.tail _ (.tail _ (.tail _ (.tail _ (.tail _ (.head _)))))) | exact .tail _ (.tail _ (.tail _ (.tail _ (.tail _ (.tail _ (.tail _ (.head _))))))))) (Pur.gok_heights hL (by kernel_rfl) (by first | exact .head _ | exact .tail _ (.head _) | exact .tail _ (.tail _ (.head _))))) hk).mono fun e W' ⟨he, bel⟩ => ?_
  subst he
  exact ⟨_, rfl, _, _, _, [], _, _, hW', trodAll_mk1 (shut_bool Tryd.underlying4 _), (trodAll_cons_mk (Below.trod laidOut (by kernel_rfl) (of_decide_eq_true (by kernel_rfl)) k0 bel lt0) trodAll_mk0), (Below.trodVars laidOut bel (by kernel_rfl) hV), bel.frame _, fun h => by cases h⟩
set_option maxRecDepth 100000 in
theorem closed : joinedFacts Tryd.prog 10 Tryd.f10 Rows.fnMelodyMoveOctaveSpec Rows.fnMelodyMoveOctaveRow = true := by
  have hf : (Rows.fnMelodyMoveOctaveRow.lifted == Tryd.prog.liftsFinal) = true := by rw [Head.finE]; kernel_rfl
  have hm : (Tryd.prog.make == some Rows.fnMelodyMoveOctaveRow.make) = true := by rw [Head.makeE]; kernel_rfl
  unfold joinedFacts
  repeat' (with_reducible refine Head.and_t ?_ ?_)
  all_goals first | with_reducible exact Head.mayE | with_reducible exact hf | with_reducible exact hm | (as_aux_lemma => kernel_rfl)
theorem over : Rows.fnMelodyMoveOctaveRow.holds Tryd.pinned (OpenSpec.ofChange Rows.fnMelodyMoveOctaveSpec) :=
  OpenClaim.holds_of_wide 10 Tryd.f10 rfl rfl rfl rfl rfl rfl rfl ⟨rfl, rfl, rfl, rfl, rfl⟩ rfl rfl rfl rfl rfl (by kernel_rfl) Tryd.func10 closed
    (of_decide_eq_true (by kernel_rfl)) (by unfold Func.isWrapper; first | (rw [if_pos (by decide +kernel)]; kernel_rfl) | (rw [if_neg (by decide +kernel)]; exact ⟨rfl, rfl⟩))
    (fun os started H enc _ => lifted os started H enc)
theorem card_ : Rows.FnMelodyMoveOctaveCardSaid :=
  Claim7.holds_tied_plain_at .later [] [.data, .data] true (true, "be19127cc0c448c789caba69baff38868a12ff4c6dba2e64c47c1251b0117d47") false
    over (fun _ h => by cases h) (by as_aux_lemma => kernel_rfl) (fun _ h => by cases h) fnMelodyMoveOctave_row_tie rfl ⟨rfl, rfl⟩ (Head.mainE.trans (by as_aux_lemma => kernel_rfl)) rfl
    (fun f fn hf hfn => by
      obtain rfl : f = 10 := Option.some.inj ((show Tryd.prog.funcNamed "loop.example/neumes/laws.FnMelodyMoveOctave" = some 10 by kernel_rfl).symm.trans hf) |>.symm
      obtain rfl : fn = Tryd.f10 := (Option.some.inj (Tryd.func10.symm.trans hfn)).symm
      exact ⟨by kernel_rfl, fun j t ht => by
        rw [Tryd.params10] at ht
        have hm : t ∈ [32] := by simpa using Array.mem_of_getElem? ht
        have hall : ([32].all fun u => !Tryd.prog.wantsStandIn u) = true := by kernel_rfl
        exact (show Tryd.prog.wantsStandIn t = false by simpa using List.all_eq_true.1 hall t hm)⟩)
    (by kernel_rfl)
theorem proved : Rows.FnMelodyMoveOctaveCardSaid := card_
#print axioms proved
end Go.Proofs.YtlinjleahnccgaaDoor.fnMelodyMoveOctave
namespace Go.Proofs.YtlinjleahnccgaaDoor
theorem fnMelodyMoveOctave_holds : Rows.FnMelodyMoveOctaveCardSaid := fnMelodyMoveOctave.proved
end Go.Proofs.YtlinjleahnccgaaDoor
end
