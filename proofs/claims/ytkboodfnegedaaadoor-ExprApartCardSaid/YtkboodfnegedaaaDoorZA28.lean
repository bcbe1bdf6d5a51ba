/- Contracts and plain lemmas of the functions that the law reaches, part 28. -/
import Derived.Test.YtkboodfnegedaaaDoorZA27
namespace Go.Proofs.YtkboodfnegedaaaDoor.E
set_option linter.unusedSimpArgs false
set_option linter.unusedVariables false
open Go.RowKit Go.Proofs.YtkboodfnegedaaaDoorW.PrintWords Go.Proofs.YtkboodfnegedaaaDoorW.PrintLast Go.Proofs.YtkboodfnegedaaaDoorW.PrintMore
def sameB (a b : Ex) : Bool := rightB a && (rightB b && ((textRes a).1.toList == (textRes b).1.toList))
theorem text_f (a : Ex) (h : rngF a = true) : expr_Text.f a.f0 a.f1.f0 a.f1.f1 a.f1.f2 a.f2 a.f3 a.f4 a.f5 a.f6 = some (textRes a) := by
  have he : (⟨a.f0, ⟨a.f1.f0, a.f1.f1, a.f1.f2⟩, a.f2, a.f3, a.f4, a.f5, a.f6⟩ : Ex) = a := by cases a; rfl
  unfold expr_Text.f
  rw [he, if_pos h]
theorem right_f (a : Ex) : expr_Right.f a.f0 a.f1.f0 a.f1.f1 a.f1.f2 a.f2 a.f3 a.f4 a.f5 a.f6 = some (rightB a) := by
  have he : (⟨a.f0, ⟨a.f1.f0, a.f1.f1, a.f1.f2⟩, a.f2, a.f3, a.f4, a.f5, a.f6⟩ : Ex) = a := by cases a; rfl
  unfold expr_Right.f
  rw [he]
theorem text_err (a : Ex) : (textRes a).2 = if rightB a = true then 0 else 1 := by
  unfold textRes; split <;> rfl
theorem same_f (a b : Ex) (ha : rngF a = true) (hb : rngF b = true) : expr_Same.f a.f0 a.f1.f0 a.f1.f1 a.f1.f2 a.f2 a.f3 a.f4 a.f5 a.f6 b.f0 b.f1.f0 b.f1.f1 b.f1.f2 b.f2 b.f3 b.f4 b.f5 b.f6 = some (sameB a b) := by
  unfold expr_Same.f
  rw [text_f a ha, text_f b hb]
  simp only [Option.bind_some]
  rw [text_err a, text_err b]
  unfold sameB
  by_cases h1 : rightB a = true
  · by_cases h2 : rightB b = true
    · simp [h1, h2]
    · simp [h1, h2]
  · simp [h1]
theorem ExprApart_true (a b : Ex) (ha : rngF a = true) (hb : rngF b = true) : ∃ k, w08_ExprApart.f k a.f0 a.f1.f0 a.f1.f1 a.f1.f2 a.f2 a.f3 a.f4 a.f5 a.f6 b.f0 b.f1.f0 b.f1.f1 b.f1.f2 b.f2 b.f3 b.f4 b.f5 b.f6 = some true := by
  refine ⟨1, ?_⟩
  unfold w08_ExprApart.f w08_examples.f
  rw [text_f a ha, text_f b hb]
  simp only [Option.bind_some, w08_ExprApart.j0]
  rw [same_f a b ha hb, same_f b a hb ha, same_f a a ha ha, right_f a, right_f b]
  simp only [Option.bind_some]
  rw [text_err a, text_err b]
  unfold sameB
  by_cases h1 : rightB a = true
  · by_cases h2 : rightB b = true
    · simp [h1, h2, Bool.beq_comm]
    · simp [h1, h2]
  · cases h2 : rightB b <;> simp [h1, h2]
end Go.Proofs.YtkboodfnegedaaaDoor.E
