/- Contracts and plain lemmas of the functions that the law reaches, part 20. -/
import Derived.Test.YtkboodfnegedaaaDoorZB6
import Derived.Test.YtkboodfnegedaaaDoorZB19
namespace Go.Proofs.YtkboodfnegedaaaDoor.E
set_option linter.unusedSimpArgs false
set_option linter.unusedVariables false
open Go.RowKit Go.Proofs.YtkboodfnegedaaaDoorW.PrintWords Go.Proofs.YtkboodfnegedaaaDoorW.PrintLast Go.Proofs.YtkboodfnegedaaaDoorW.PrintMore
theorem right_of_meas {e : Ex} {p : Nat × Nat} (h : meas e = some p) (h1 : p.1 ≤ 20) (h2 : p.2 ≤ 200) : rightB e = true := by
  rw [right_meas, h]; simp [h1, h2]
theorem meas_of_right {e : Ex} (h : rightB e = true) : ∃ p, meas e = some p ∧ p.1 ≤ 20 ∧ p.2 ≤ 200 := by
  obtain ⟨p, hp⟩ := right_some_meas h
  rw [right_meas, hp] at h
  exact ⟨p, hp, by simpa using h⟩
theorem built_p1 (a : Ex) (h : rightB (notE a) = true) : rightB a = true := by
  obtain ⟨p, hp, h1, h2⟩ := meas_of_right h
  rw [meas_eq] at hp
  split at hp
  · obtain ⟨q, hq, rfl⟩ := Option.map_eq_some_iff.1 hp
    have hq : measL [a] = some q := hq
    rw [measL] at hq
    obtain ⟨r, hr, hq⟩ := Option.bind_eq_some_iff.1 hq
    rw [measL] at hq
    simp only [Option.map_some, Option.some.injEq] at hq
    subst hq
    simp only [] at h1 h2
    exact right_of_meas hr (by omega) (by omega)
  · cases hp
theorem built_p2 (a b : Ex) (h : rightB (twoE 15 a b) = true) : rightB a = true ∧ rightB b = true := by
  obtain ⟨p, hp, h1, h2⟩ := meas_of_right h
  rw [meas_eq] at hp
  split at hp
  · obtain ⟨q, hq, rfl⟩ := Option.map_eq_some_iff.1 hp
    have hq : measL [a, b] = some q := hq
    rw [measL] at hq
    obtain ⟨r, hr, hq⟩ := Option.bind_eq_some_iff.1 hq
    obtain ⟨s, hs, rfl⟩ := Option.map_eq_some_iff.1 hq
    rw [measL] at hs
    obtain ⟨t, ht, hs⟩ := Option.bind_eq_some_iff.1 hs
    rw [measL] at hs
    simp only [Option.map_some, Option.some.injEq] at hs
    subst hs
    simp only [] at h1 h2
    exact ⟨right_of_meas hr (by omega) (by omega), right_of_meas ht (by omega) (by omega)⟩
  · cases hp
theorem not_own {e : Ex} (h : ¬ ownP e) : rightB e = false := by
  cases hr : rightB e with
  | false => rfl
  | true =>
    obtain ⟨p, hp, _, _⟩ := meas_of_right hr
    exact absurd ((own_iff e).1 (meas_own hp).1) h
theorem built_p3 (a : Ex) : rightB (fewE a) = false := not_own (fun h => by
  have h2 : ((1 : Nat) : Int) = wantsI 15 := h.2.1
  revert h2; decide)
theorem built_p4 (a b : Ex) : rightB (manyE a b) = false := not_own (fun h => by
  have h2 : ((2 : Nat) : Int) = wantsI 17 := h.2.1
  revert h2; decide)
theorem built_p5 (a b : Ex) : rightB (oddE a b) = false := not_own (fun h => by
  have h3 := h.2.2
  unfold oddE at h3
  simp at h3)
theorem built_p6 (a b : Ex) (h : rightB (twoE 15 a b) = true) : safeB (twoE 15 a b) = (safeB a && safeB b) := by
  obtain ⟨ha, hb⟩ := built_p2 a b h
  unfold safeB
  rw [h, ha, hb, someF_any, someF_any, someF_any]
  unfold twoE
  rw [anyE, anyL, anyL, anyL]
  have : (safeStep (⟨15, zeroV, 0, 0, 0, ⟨#[]⟩, [a, b]⟩ : Ex) ()).1 = false := by unfold safeStep; simp
  rw [this]
  simp
end Go.Proofs.YtkboodfnegedaaaDoor.E
