/- Contracts and plain lemmas of the functions that the law reaches, part 16. -/
import Derived.Test.YtoffpegppdmkdaaGreatDoorRows
import Derived.Test.YtoffpegppdmkdaaGreatDoorCP4
import Derived.Test.YtoffpegppdmkdaaGreatDoorCP5
import Derived.Test.YtoffpegppdmkdaaGreatDoorCP15
namespace Go.Proofs.YtoffpegppdmkdaaGreatDoor.E
set_option linter.unusedSimpArgs false
set_option linter.unusedVariables false
open Go.RowKit Go.Proofs.YtoffpegppdmkdaaGreatDoorW.PrintWords Go.Proofs.YtoffpegppdmkdaaGreatDoorW.PrintLast Go.Proofs.YtoffpegppdmkdaaGreatDoorW.PrintMore
theorem gPow : Tryz.prog.globalNamed "internal/strconv.uint64pow10" = some 1 := by kernel_rfl
theorem gPowType : (Tryz.prog.globals[1]?).map (·.type) = some 167 := by kernel_rfl
theorem cellsPow : Tryz.prog.cellsOf 167 = 20 := by kernel_rfl
theorem cellsU64 : Tryz.prog.cellsOf 107 = 1 := by kernel_rfl
theorem tabW_of {w : World} {l : List (String × DataW Unit)} (hl : l = [("math/bits.deBruijn32tab", Rows.laid_math_bits_deBruijn32tab), ("math/bits.deBruijn64tab", Rows.laid_math_bits_deBruijn64tab), ("internal/strconv.uint64pow10", Rows.laid_internal_strconv_uint64pow10)]) (h : laidMetH Tryz.prog l w) : TabW w := by
  subst hl
  rw [MakeChecks.laidMetH_plain _ _ _ (by kernel_rfl)] at h
  exact Lib.tabIs_of_head (rest := []) gPow gPowType Tryz.underlying167 Tryz.underlying107 cellsU64 cellsPow (Op.laid_tail (Op.laid_tail h))
theorem in64_of {z : Int} (h : (Lit.int .i64 z).wf = true) : -9223372036854775808 ≤ z ∧ z ≤ 9223372036854775807 := by
  have := h
  simp only [Lit.wf] at this
  have h1 : IntKind.i64.min = -9223372036854775808 := by decide
  have h2 : IntKind.i64.max = 9223372036854775807 := by decide
  rw [h1, h2] at this
  simp at this
  exact ⟨by omega, by omega⟩
mutual
theorem rngF_of : (e : Ex) → wf26 e → rngF e = true
  | ⟨f0, f1, f2, f3, f4, f5, f6⟩, h => by
    cases h with
    | mk _ h0 h1 h2 h3 h4 h5 hl h6 =>
      rw [rngF, rngL_wf f6 h6]
      have := in64_of h1.2.1
      simp [this.1, this.2]
theorem rngL_wf : (l : List Ex) → (∀ y ∈ l, wf26 y) → rngL l = true
  | [], h => by rw [rngL]
  | x :: xs, h => by
    rw [rngL, rngF_of x (h x (by simp)), rngL_wf xs (fun y hy => h y (by simp [hy]))]; rfl
end
end Go.Proofs.YtoffpegppdmkdaaGreatDoor.E
