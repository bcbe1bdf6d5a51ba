/- Contracts and plain lemmas of the functions that the law reaches, part 19. -/
import Derived.Laws.MathBits
import Derived.Laws.Bits64
import Derived.Test.YtpdhoghkoakojaaGreatDoorAV18
namespace Go.Proofs.YtpdhoghkoakojaaGreatDoor.E
set_option linter.unusedSimpArgs false
set_option linter.unusedVariables false
open Go.RowKit Go.Proofs.YtpdhoghkoakojaaGreatDoorW.PrintWords Go.Proofs.YtpdhoghkoakojaaGreatDoorW.PrintLast Go.Proofs.YtpdhoghkoakojaaGreatDoorW.PrintMore
def in64 (n : Int) : Prop := -9223372036854775808 ≤ n ∧ n ≤ 9223372036854775807
theorem wrap64_r (n : Int) : wrap64 n = (n + 9223372036854775808) % 18446744073709551616 - 9223372036854775808 := by rw [← i64_w, IntKind.wrap_i64]
theorem wrap64_in (n : Int) : in64 (wrap64 n) := by rw [wrap64_r]; unfold in64; omega
theorem sizeU_abs {a : Int} (h : in64 a) : sizeU a = (a.natAbs : Int) := by
  unfold sizeU in64 at *
  simp only [IntKind.wrap_u64]
  split <;> omega
theorem mulHL_f {a b : Int} (ha : in64 a) (hb : in64 b) : mulHL a b = ((a.natAbs * b.natAbs : Int) / 18446744073709551616, (a.natAbs * b.natAbs : Int) % 18446744073709551616) := by
  have hx := sizeU_abs ha
  have hy := sizeU_abs hb
  unfold mulHL
  rw [hx, hy]
  unfold in64 at ha hb
  have hx1 : (0 : Int) ≤ (a.natAbs : Int) := by omega
  have hx2 : (a.natAbs : Int) < 18446744073709551616 := by omega
  have hy1 : (0 : Int) ≤ (b.natAbs : Int) := by omega
  have hy2 : (b.natAbs : Int) < 18446744073709551616 := by omega
  have h := mul64_arith _ _ hx1 hx2 hy1 hy2
  unfold bits_Mul64.f
  rw [and_low32 _ hx1 hx2, and_low32 _ hy1 hy2]
  simp only [IntKind.wrap_u64, Option.getD_some]
  rw [and_low32 _ (Int.emod_nonneg _ (by decide)) (Int.emod_lt_of_pos _ (by decide))]
  rw [h]
theorem abs_mul_sign (a b : Int) : ((a.natAbs : Int) * (b.natAbs : Int)) = if decide (a < 0) = decide (b < 0) then a * b else -(a * b) := by
  by_cases h1 : a < 0
  · have e1 : (a.natAbs : Int) = -a := by omega
    by_cases h2 : b < 0
    · have e2 : (b.natAbs : Int) = -b := by omega
      rw [e1, e2, if_pos (by simp [h1, h2]), Int.neg_mul_neg]
    · have e2 : (b.natAbs : Int) = b := by omega
      rw [e1, e2, if_neg (by simp [h1, h2]), Int.neg_mul]
  · have e1 : (a.natAbs : Int) = a := by omega
    by_cases h2 : b < 0
    · have e2 : (b.natAbs : Int) = -b := by omega
      rw [e1, e2, if_neg (by simp [h1, h2]), Int.mul_neg]
    · have e2 : (b.natAbs : Int) = b := by omega
      rw [e1, e2, if_pos (by simp [h1, h2])]
theorem abs_mul_nonneg (a b : Int) : (0 : Int) ≤ (a.natAbs : Int) * (b.natAbs : Int) := Int.mul_nonneg (by omega) (by omega)
theorem abs_mul_le {a b : Int} (ha : in64 a) (hb : in64 b) : (a.natAbs : Int) * (b.natAbs : Int) ≤ 85070591730234615865843651857942052864 := by
  unfold in64 at ha hb
  have h := Int.mul_le_mul (show (a.natAbs : Int) ≤ 9223372036854775808 by omega) (show (b.natAbs : Int) ≤ 9223372036854775808 by omega) (by omega) (by decide)
  simpa using h
def mulP (p : Int) : Va × Int := if p < -9223372036854775808 ∨ 9223372036854775807 < p then (zeroV, 3) else (numV p, 0)
theorem mulR_p {a b : Int} (ha : in64 a) (hb : in64 b) : mulR a b = mulP (a * b) := by
  have hs := abs_mul_sign a b
  have h0 := abs_mul_nonneg a b
  have h1 := abs_mul_le ha hb
  unfold mulR mulP
  rw [mulHL_f ha hb]
  generalize (a.natAbs : Int) * (b.natAbs : Int) = m at *
  generalize a * b = p at *
  simp only [IntKind.wrap_u64, wrap64_r]
  by_cases hd : decide (a < 0) = decide (b < 0)
  · rw [if_pos hd] at hs
    subst hs
    simp only [hd, if_true, and_true]
    repeat' split
    all_goals first | rfl | (exfalso; omega) | (unfold numV; congr 2; omega)
  · rw [if_neg hd] at hs
    obtain rfl : p = -m := by omega
    simp only [hd, if_false, and_false]
    repeat' split
    all_goals first | rfl | (exfalso; omega) | (unfold numV; congr 2; omega)
end Go.Proofs.YtpdhoghkoakojaaGreatDoor.E
