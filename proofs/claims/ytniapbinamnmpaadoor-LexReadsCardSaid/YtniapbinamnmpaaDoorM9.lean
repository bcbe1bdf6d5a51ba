/- Contracts and plain lemmas of the functions that the law reaches, part 9. -/
import Derived.Test.YtniapbinamnmpaaDoorM2
import Derived.Test.YtniapbinamnmpaaDoorM8
namespace Go.Proofs.YtniapbinamnmpaaDoor.L
set_option linter.unusedVariables false
set_option linter.unusedSimpArgs false
open Go.RowKit Go.Proofs.YtniapbinamnmpaaDoorW.PrintWords Go.Proofs.YtniapbinamnmpaaDoorW.PrintLast Go.Proofs.YtniapbinamnmpaaDoorW.PrintMore
def wordsB : List ByteArray := wordsL.map fun l => ⟨l.toArray⟩
theorem wordsB_f : q05_Words.f = some wordsB := by kernel_rfl
theorem wordsB_len : wordsB.length = 25 := by decide +kernel
theorem word_get (q : Nat) (hq : q < 25) (d : ByteArray) : rdOf d wordsB (q : Int) = ⟨(wordsL.getD q []).toArray⟩ := by
  have hl : q < wordsL.length := by rw [words_len]; exact hq
  have h2 : wordsB[q]? = some ⟨(wordsL[q]).toArray⟩ := by unfold wordsB; rw [List.getElem?_map, List.getElem?_eq_getElem hl]; rfl
  have h3 : wordsL.getD q [] = wordsL[q] := by rw [List.getD_eq_getElem?_getD, List.getElem?_eq_getElem hl]; rfl
  rw [h3]
  simp [rdOf, h2]
theorem word_row {w : World} {base tb : Nat} {v : Value} (h : Kd.R Kd.string 9 w base (fun _ => True) v wordsB) (hb : tb < base) : Kd.R Kd.string 9 w (tb + 1) (fun k => k ≠ tb) v wordsB :=
  Kd.R_lower (Kd.R_mono (Kd.R_bound h) (fun k hk => by have := hk.2.1; show k ≠ tb; omega)) hb
theorem word_cell {w : World} {base tb g cap : Nat} (h : Kd.R Kd.string 9 w base (fun k => k ≠ tb) (.slice (some ⟨g, 0, none⟩) 25 cap) wordsB) (q : Nat) (hq : q < 25) :
    w.cell? ⟨g, q, none⟩ = some (.string ⟨(wordsL.getD q []).toArray⟩) ∧ w.frozen? ⟨g, q, none⟩ = false := by
  have h1 := Kd.R_cell (g := g) (cap := cap) (⟨#[]⟩ : ByteArray) (by rw [wordsB_len]; exact h) (q : Int) (by omega) (by rw [wordsB_len]; omega)
  rw [word_get q hq, Int.toNat_natCast] at h1
  exact h1
theorem word_take (q : Nat) (hq : q < 25) (tx : List UInt8) : tx ∈ wordsL.take (q + 1) ↔ tx ∈ wordsL.take q ∨ tx = wordsL.getD q [] := by
  have hl : q < wordsL.length := by rw [words_len]; exact hq
  rw [List.take_succ_eq_append_getElem hl, List.mem_append, List.mem_singleton, List.getD_eq_getElem?_getD, List.getElem?_eq_getElem hl]; rfl
theorem word_yes (q : Nat) (hq : q < 25) {tx : List UInt8} (h : wordsL.getD q [] = tx) : (1 : Int) = if tx ∈ wordsL.take (q + 1) then 1 else 2 := by
  rw [if_pos ((word_take q hq tx).2 (.inr h.symm))]
theorem word_no (q : Nat) (hq : q < 25) {tx : List UInt8} (h : ¬ wordsL.getD q [] = tx) : (if tx ∈ wordsL.take q then (1 : Int) else 2) = if tx ∈ wordsL.take (q + 1) then 1 else 2 := by
  by_cases h1 : tx ∈ wordsL.take q
  · rw [if_pos h1, if_pos ((word_take q hq tx).2 (.inl h1))]
  · rw [if_neg h1, if_neg (fun h2 => ((word_take q hq tx).1 h2).elim h1 (fun h3 => h h3.symm))]
theorem word_end (q : Nat) (hq : 25 ≤ q) {tx : List UInt8} : (if tx ∈ wordsL.take q then (1 : Int) else 2) = if isWord tx = true then 1 else 2 := by
  rw [List.take_of_length_le (by rw [words_len]; exact hq)]
  unfold isWord
  by_cases h : tx ∈ wordsL
  · rw [if_pos h, if_pos (decide_eq_true h)]
  · rw [if_neg h, if_neg (by simp [h])]
theorem quot_step {c : UInt8} (h : ¬ c = 39) : ∀ l : List UInt8, quotL (c :: l) = (quotL l).map (fun p => (c :: p.1, p.2 + 1))
  | [] => by simp [quotL, h]
  | d :: l => by rw [quotL, if_neg h]
def txB (ll : List (List UInt8)) : List ByteArray := ll.map fun l => ⟨l.toArray⟩
def twosL : List (List UInt8) := [[60, 61], [62, 61], [60, 62]]
def singlesL : List UInt8 := [60, 62, 61, 43, 45, 42, 47, 40, 41, 44, 46]
theorem txt_row {ll : List (List UInt8)} {w : World} {base tb : Nat} {v : Value} (h : Kd.R Kd.string 9 w base (fun _ => True) v (txB ll)) (hb : tb < base) : Kd.R Kd.string 9 w (tb + 1) (fun k => k ≠ tb) v (txB ll) :=
  Kd.R_lower (Kd.R_mono (Kd.R_bound h) (fun k hk => by have := hk.2.1; show k ≠ tb; omega)) hb
theorem txt_cell {ll : List (List UInt8)} {w : World} {base tb g cap : Nat} (h : Kd.R Kd.string 9 w base (fun k => k ≠ tb) (.slice (some ⟨g, 0, none⟩) ll.length cap) (txB ll)) (q : Nat) (hq : q < ll.length) :
    w.cell? ⟨g, q, none⟩ = some (.string ⟨(ll.getD q []).toArray⟩) ∧ w.frozen? ⟨g, q, none⟩ = false := by
  have hl : (txB ll).length = ll.length := by unfold txB; rw [List.length_map]
  have h1 := Kd.R_cell (g := g) (cap := cap) (⟨#[]⟩ : ByteArray) (by rw [hl]; exact h) (q : Int) (by omega) (by rw [hl]; omega)
  have h2 : (txB ll)[q]? = some ⟨(ll[q]).toArray⟩ := by unfold txB; rw [List.getElem?_map, List.getElem?_eq_getElem hq]; rfl
  have h3 : ll.getD q [] = ll[q] := by rw [List.getD_eq_getElem?_getD, List.getElem?_eq_getElem hq]; rfl
  have h4 : rdOf ⟨#[]⟩ (txB ll) (q : Int) = ⟨(ll.getD q []).toArray⟩ := by rw [h3]; simp [rdOf, h2]
  rw [h4, Int.toNat_natCast] at h1
  exact h1
theorem mem_next {α : Type} (ll : List (List α)) (q : Nat) (hq : q < ll.length) (tx : List α) : tx ∈ ll.take (q + 1) ↔ tx ∈ ll.take q ∨ tx = ll.getD q [] := by
  rw [List.take_succ_eq_append_getElem hq, List.mem_append, List.mem_singleton, List.getD_eq_getElem?_getD, List.getElem?_eq_getElem hq]; rfl
theorem two_no (ll : List (List UInt8)) (q : Nat) (hq : q < ll.length) {tx : List UInt8} (h : ¬ ll.getD q [] = tx) : (if tx ∈ ll.take q then tx else []) = if tx ∈ ll.take (q + 1) then tx else [] := by
  by_cases h1 : tx ∈ ll.take q
  · rw [if_pos h1, if_pos ((mem_next ll q hq tx).2 (.inl h1))]
  · rw [if_neg h1, if_neg (fun h2 => ((mem_next ll q hq tx).1 h2).elim h1 (fun h3 => h h3.symm))]
theorem two_len (q : Nat) (hq : q < 3) : (twosL.getD q []).length = 2 := (by decide : ∀ q : Fin 3, (twosL.getD q.val []).length = 2) ⟨q, hq⟩
theorem mem_next0 (q : Nat) (hq : q < 11) (c : UInt8) : c ∈ singlesL.take (q + 1) ↔ c ∈ singlesL.take q ∨ c = singlesL.getD q 0 := by
  have hq' : q < singlesL.length := hq
  rw [List.take_succ_eq_append_getElem hq', List.mem_append, List.mem_singleton, List.getD_eq_getElem?_getD, List.getElem?_eq_getElem hq']; rfl
theorem one_no (q : Nat) (hq : q < 11) {c : UInt8} (h : ¬ singlesL.getD q 0 = c) : (if c ∈ singlesL.take q then [c] else []) = if c ∈ singlesL.take (q + 1) then [c] else [] := by
  by_cases h1 : c ∈ singlesL.take q
  · rw [if_pos h1, if_pos ((mem_next0 q hq c).2 (.inl h1))]
  · rw [if_neg h1, if_neg (fun h2 => ((mem_next0 q hq c).1 h2).elim h1 (fun h3 => h h3.symm))]
theorem sign_of (c : UInt8) (r : List UInt8) : signL (c :: r) = if (c :: r).take 2 ∈ twosL then some ((c :: r).take 2) else if c ∈ singlesL then some [c] else none := by
  have hp1 : ∀ a : UInt8, [a].isPrefixOf (c :: r) = (a == c) := fun a => by simp [List.isPrefixOf]
  have hp2 : ∀ a b : UInt8, [a, b].isPrefixOf (c :: r) = decide ((c :: r).take 2 = [a, b]) := fun a b => by
    cases r with
    | nil => simp [List.isPrefixOf]
    | cons e l => simp only [List.isPrefixOf, List.take_succ_cons, List.take_zero, Bool.and_true]; rw [Bool.eq_iff_iff]; simp only [Bool.and_eq_true, beq_iff_eq, decide_eq_true_eq, List.cons.injEq, and_true]; exact ⟨fun h => ⟨h.1.symm, h.2.symm⟩, fun h => ⟨h.1.symm, h.2.symm⟩⟩
  unfold signL signsL
  simp only [List.find?, hp1, hp2]
  by_cases h1 : (c :: r).take 2 = [60, 61]
  · simp [h1, twosL]
  by_cases h2 : (c :: r).take 2 = [62, 61]
  · simp [h2, twosL]
  by_cases h3 : (c :: r).take 2 = [60, 62]
  · simp [h3, twosL]
  have h4 : ¬ (c :: r).take 2 ∈ twosL := by simp [twosL]; exact ⟨by simpa using h1, by simpa using h2, by simpa using h3⟩
  rw [if_neg h4]
  simp only [h1, h2, h3, decide_false]
  by_cases hc : c ∈ singlesL
  · rw [if_pos hc]
    simp only [singlesL, List.mem_cons, List.not_mem_nil, or_false] at hc
    rcases hc with rfl | rfl | rfl | rfl | rfl | rfl | rfl | rfl | rfl | rfl | rfl <;> rfl
  · rw [if_neg hc]
    have hn : ∀ a ∈ singlesL, (a == c) = false := fun a ha => beq_eq_false_iff_ne.mpr (fun h => hc (h ▸ ha))
    simp only [hn 60 (by decide), hn 62 (by decide), hn 61 (by decide), hn 43 (by decide), hn 45 (by decide), hn 42 (by decide), hn 47 (by decide), hn 40 (by decide), hn 41 (by decide), hn 44 (by decide), hn 46 (by decide)]
theorem sign_cases (c : UInt8) (r : List UInt8) (i : Nat) : (match signL (c :: r) with | some g => (.inr (6, 0, g, i + g.length) : (Int × Int) ⊕ (Int × Int × List UInt8 × Nat)) | none => .inl (6, (i : Int))) = if (c :: r).take 2 ∈ twosL then .inr (6, 0, (c :: r).take 2, i + 2) else if c ∈ singlesL then .inr (6, 0, [c], i + 1) else .inl (6, (i : Int)) := by
  rw [sign_of]
  by_cases h1 : (c :: r).take 2 ∈ twosL
  · have h2 : ((c :: r).take 2).length = 2 := (by decide : ∀ x ∈ twosL, x.length = 2) _ h1
    rw [if_pos h1, if_pos h1]
    simp only [h2]
  · rw [if_neg h1, if_neg h1]
    by_cases h2 : c ∈ singlesL
    · rw [if_pos h2, if_pos h2]; rfl
    · rw [if_neg h2, if_neg h2]
end Go.Proofs.YtniapbinamnmpaaDoor.L
