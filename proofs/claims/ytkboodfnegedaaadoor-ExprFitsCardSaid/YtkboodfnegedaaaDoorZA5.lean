/- Contracts and plain lemmas of the functions that the law reaches, part 5. -/
import Derived.Test.YtkboodfnegedaaaDoorZA3
import Derived.Test.YtkboodfnegedaaaDoorZA4
namespace Go.Proofs.YtkboodfnegedaaaDoor.E
set_option linter.unusedSimpArgs false
set_option linter.unusedVariables false
open Go.RowKit Go.Proofs.YtkboodfnegedaaaDoorW.PrintWords Go.Proofs.YtkboodfnegedaaaDoorW.PrintLast Go.Proofs.YtkboodfnegedaaaDoorW.PrintMore
mutual
/-- How deep, and how many operations; none: an operation's own fields are not right. -/
def meas : Ex → Option (Nat × Nat)
  | ⟨f0, f1, f2, f3, f4, f5, f6⟩ => if ownB ⟨f0, f1, f2, f3, f4, f5, f6⟩ = true then (measL f6).map fun p => (p.1 + 1, p.2 + 1) else none
def measL : List Ex → Option (Nat × Nat)
  | [] => some (0, 0)
  | x :: xs => (meas x).bind fun p => (measL xs).map fun q => (max p.1 q.1, p.2 + q.2)
end
theorem meas_eq (e : Ex) : meas e = if ownB e = true then (measL e.f6).map fun p => (p.1 + 1, p.2 + 1) else none := by cases e; rw [meas]
mutual
theorem cnt_meas : (e : Ex) → ∀ deep many : Nat, cnt e deep many = (meas e).bind fun p => if deep + p.1 ≤ 21 ∧ many + p.2 ≤ 200 then some (many + p.2) else none
  | ⟨f0, f1, f2, f3, f4, f5, f6⟩ => fun deep many => by
    have ih := cntL_meas f6 (deep + 1) (many + 1)
    rw [cnt, meas]
    by_cases h1 : many + 1 > 200
    · rw [if_pos h1]
      by_cases h3 : ownB ⟨f0, f1, f2, f3, f4, f5, f6⟩ = true
      · rw [if_pos h3]
        cases hm : measL f6 with
        | none => rfl
        | some p => simp only [Option.map_some, Option.bind_some]; rw [if_neg (by omega)]
      · rw [if_neg h3]; rfl
    · rw [if_neg h1]
      by_cases h2 : deep > 20
      · rw [if_pos h2]
        by_cases h3 : ownB ⟨f0, f1, f2, f3, f4, f5, f6⟩ = true
        · rw [if_pos h3]
          cases hm : measL f6 with
          | none => rfl
          | some p => simp only [Option.map_some, Option.bind_some]; rw [if_neg (by omega)]
        · rw [if_neg h3]; rfl
      · rw [if_neg h2]
        by_cases h3 : ownB ⟨f0, f1, f2, f3, f4, f5, f6⟩ = true
        · rw [if_pos h3, if_pos h3, ih (by omega) (by omega)]
          cases hm : measL f6 with
          | none => rfl
          | some p =>
            simp only [Option.map_some, Option.bind_some]
            by_cases hc : deep + 1 + p.1 ≤ 21 ∧ many + 1 + p.2 ≤ 200
            · rw [if_pos hc, if_pos (by omega)]; congr 1; omega
            · rw [if_neg hc, if_neg (by omega)]
        · rw [if_neg h3, if_neg h3]; rfl
theorem cntL_meas : (l : List Ex) → ∀ deep many : Nat, deep ≤ 21 → many ≤ 200 → cntL l deep many = (measL l).bind fun p => if deep + p.1 ≤ 21 ∧ many + p.2 ≤ 200 then some (many + p.2) else none
  | [] => fun deep many hd hm => by
    rw [cntL, measL]; simp only [Option.bind_some]; rw [if_pos (by omega)]; rfl
  | x :: xs => fun deep many hd hm => by
    rw [cntL, measL, cnt_meas x deep many]
    cases hx : meas x with
    | none => rfl
    | some p =>
      simp only [Option.bind_some]
      by_cases hc : deep + p.1 ≤ 21 ∧ many + p.2 ≤ 200
      · rw [if_pos hc]
        simp only [Option.bind_some]
        rw [cntL_meas xs deep (many + p.2) hd (by omega)]
        cases hxs : measL xs with
        | none => rfl
        | some q =>
          simp only [Option.map_some, Option.bind_some]
          by_cases h2 : deep + q.1 ≤ 21 ∧ many + p.2 + q.2 ≤ 200
          · rw [if_pos h2, if_pos (by omega)]; congr 1; omega
          · rw [if_neg h2, if_neg (by omega)]
      · rw [if_neg hc]
        cases hxs : measL xs with
        | none => rfl
        | some q => simp only [Option.map_some, Option.bind_some, Option.bind_none]; rw [if_neg (by omega)]
end
theorem right_meas (e : Ex) : rightB e = match meas e with | some p => decide (p.1 ≤ 20 ∧ p.2 ≤ 200) | none => false := by
  unfold rightB
  rw [cnt_meas]
  cases meas e with
  | none => rfl
  | some p =>
    simp only [Option.bind_some]
    by_cases h : p.1 ≤ 20 ∧ p.2 ≤ 200
    · rw [if_pos (by omega)]; simp [h]
    · rw [if_neg (by omega)]; simp [h]
def V0 (v : Va) : Prop := v.f0 = 0 ∧ v.f1 = 0 ∧ v.f2.toList = []
def ownP (e : Ex) : Prop := e.f5.toList = [] ∧ (e.f6.length : Int) = wantsI e.f0 ∧
  (if e.f0 = 1 then rightV e.f1 = true ∧ e.f2 = 0 ∧ e.f3 = 0 ∧ e.f4 = 0
   else if e.f0 = 2 then 0 ≤ e.f2 ∧ e.f2 ≤ 15 ∧ 0 ≤ e.f3 ∧ e.f3 < 6 ∧ e.f4 = 0 ∧ V0 e.f1
   else if e.f0 = 3 then 1 ≤ e.f4 ∧ e.f4 ≤ 4 ∧ e.f2 = 0 ∧ e.f3 = 0 ∧ V0 e.f1
   else e.f2 = 0 ∧ e.f3 = 0 ∧ e.f4 = 0 ∧ V0 e.f1)
theorem own_iff (e : Ex) : ownB e = true ↔ ownP e := by
  unfold ownB ownP expr_own.f expr_wants.f V0
  have hv := right_some e.f1
  by_cases h5 : e.f5.toList = []
  · rw [if_pos h5]
    simp only [Option.bind_some]
    by_cases h6 : (e.f6.length : Int) = wantsI e.f0
    · have : ((e.f6.length : Int) != wantsI e.f0) = false := by simp [h6]
      rw [this]
      simp only [expr_own.j0, hv, Option.bind_some]
      by_cases c1 : e.f0 = 1
      · simp [c1, h5, h6]
        cases rightV e.f1 <;> simp
        by_cases d2 : e.f2 = 0 <;> by_cases d3 : e.f3 = 0 <;> by_cases d4 : e.f4 = 0 <;> simp [d2, d3, d4, h6, c1] <;> omega
      · by_cases c2 : e.f0 = 2
        · simp [c2, h5, h6]
          by_cases d2 : 0 ≤ e.f2 <;> by_cases d3 : e.f2 ≤ 15 <;> by_cases d4 : 0 ≤ e.f3 <;> by_cases d5 : e.f3 < 6 <;> by_cases d6 : e.f4 = 0 <;> simp [d2, d3, d4, d5, d6, h6, c2]
        · by_cases c3 : e.f0 = 3
          · simp [c3, h5, h6]
            by_cases d2 : 1 ≤ e.f4 <;> by_cases d3 : e.f4 ≤ 4 <;> by_cases d4 : e.f2 = 0 <;> by_cases d5 : e.f3 = 0 <;> simp [d2, d3, d4, d5, h6, c3]
          · simp [c1, c2, c3, h5, h6]
            by_cases d2 : e.f2 = 0 <;> by_cases d3 : e.f3 = 0 <;> by_cases d4 : e.f4 = 0 <;> simp [d2, d3, d4]
    · have : ((e.f6.length : Int) != wantsI e.f0) = true := by simp [h6]
      rw [this]
      simp [expr_own.j0, h6]
  · rw [if_neg h5]
    simp [expr_own.j0, h5]
end Go.Proofs.YtkboodfnegedaaaDoor.E
namespace Go.Proofs.YtkboodfnegedaaaDoor.E
set_option linter.unusedSimpArgs false
set_option linter.unusedVariables false
open Go.RowKit Go.Proofs.YtkboodfnegedaaaDoorW.PrintWords Go.Proofs.YtkboodfnegedaaaDoorW.PrintLast Go.Proofs.YtkboodfnegedaaaDoorW.PrintMore
theorem wants_case (op : Int) (h1 : 1 ≤ op) (h2 : op ≤ 18) : op = 1 ∨ op = 2 ∨ op = 3 ∨ op = 4 ∨ op = 5 ∨ op = 6 ∨ op = 7 ∨ op = 8 ∨ op = 9 ∨ op = 10 ∨ op = 11 ∨ op = 12 ∨ op = 13 ∨ op = 14 ∨ op = 15 ∨ op = 16 ∨ op = 17 ∨ op = 18 := by omega
theorem rightV_zero {v : Va} (h : V0 v) : rightV v = true := by
  have h1 := right_some v
  unfold value_Right.f at h1
  obtain ⟨a, b, c⟩ := h
  simp [a, b, c] at h1
  exact h1
end Go.Proofs.YtkboodfnegedaaaDoor.E
namespace Go.Proofs.YtkboodfnegedaaaDoor.E
set_option linter.unusedSimpArgs false
set_option linter.unusedVariables false
open Go.RowKit Go.Proofs.YtkboodfnegedaaaDoorW.PrintWords Go.Proofs.YtkboodfnegedaaaDoorW.PrintLast Go.Proofs.YtkboodfnegedaaaDoorW.PrintMore
theorem wrap64_of {x : Int} (h0 : -9223372036854775808 ≤ x) (h1 : x ≤ 9223372036854775807) : wrap64 x = x := by
  unfold wrap64; omega
theorem rd_drop {L xs : List Ex} {x : Ex} {j : Nat} (h : L.drop j = x :: xs) : rd_T26 L (j : Int) = x ∧ j < L.length ∧ L.drop (j + 1) = xs := by
  have hl : j < L.length := by
    have := congrArg List.length h
    simp at this; omega
  have h2 := List.drop_eq_getElem_cons hl
  rw [h] at h2
  injection h2 with h3 h4
  refine ⟨?_, hl, h4.symm⟩
  unfold rd_T26
  simp [List.getD_eq_getElem?_getD, hl, h3]
theorem Ev.const {α : Type} {g : Nat → Option α} {r : α} (c : Nat) (h : ∀ k, g (k + c) = some r) : Ev g r := ⟨c, fun k hk => by
  obtain ⟨m, rfl⟩ : ∃ m, k = m + c := ⟨k - c, by omega⟩
  exact h m⟩
theorem Ev.steps {α : Type} {g f : Nat → Option α} {r : α} (c : Nat) (h : ∀ k, g (k + c) = f k) (k : Ev f r) : Ev g r := by
  obtain ⟨K, hK⟩ := k
  exact ⟨K + c, fun k hk => by
    obtain ⟨m, rfl⟩ : ∃ m, k = m + c := ⟨k - c, by omega⟩
    rw [h]; exact hK m (by omega)⟩
theorem meas_pos {e : Ex} {p : Nat × Nat} (h : meas e = some p) : 1 ≤ p.1 ∧ 1 ≤ p.2 := by
  rw [meas_eq] at h
  split at h
  · obtain ⟨q, _, rfl⟩ := Option.map_eq_some_iff.1 h
    exact ⟨by simp, by simp⟩
  · cases h
end Go.Proofs.YtkboodfnegedaaaDoor.E
