/- Plain: a token in a longer text. -/
import Derived.Test.YtniapbinamnmpaaDoorLp0
namespace Go.Proofs.YtniapbinamnmpaaDoor.L
set_option linter.unusedSimpArgs false
set_option linter.unusedVariables false
open Go.RowKit Go.Proofs.YtniapbinamnmpaaDoorW.PrintWords Go.Proofs.YtniapbinamnmpaaDoorW.PrintLast Go.Proofs.YtniapbinamnmpaaDoorW.PrintMore

/-- The token that begins with c, r behind it. -/
def oneC (c : UInt8) (r : List UInt8) (i len : Nat) : (Int × Int) ⊕ (Int × Int × List UInt8 × Nat) :=
    if letB c = true then (if spanL wrdB (c :: r) > 20 then .inl (5, (i : Int)) else .inr (if isWord (lowL ((c :: r).take (spanL wrdB (c :: r)))) = true then 1 else 2, 0, lowL ((c :: r).take (spanL wrdB (c :: r))), i + spanL wrdB (c :: r)))
    else if digB c = true then (match numL 0 ((c :: r).take (spanL digB (c :: r))) with | none => .inl (5, (i : Int)) | some v => .inr (3, v, [], i + spanL digB (c :: r)))
    else if c = 39 then (match quotL r with | none => .inl (6, (len : Int)) | some p => if p.1.length > 40 then .inl (5, (i : Int)) else .inr (4, 0, p.1, i + 1 + p.2))
    else if c = 36 then (if spanL digB r = 0 then .inl (6, (i : Int)) else match numL 0 (r.take (spanL digB r)) with | none => .inl (5, (i : Int)) | some v => if v < 1 ∨ v > 4 then .inl (5, (i : Int)) else .inr (5, v, [], i + 1 + spanL digB r))
    else (match signL (c :: r) with | some g => .inr (6, 0, g, i + g.length) | none => .inl (6, (i : Int)))
theorem oneL_C {l : List UInt8} {i : Nat} {c : UInt8} {r : List UInt8} (h : l.drop i = c :: r) : oneL l i = oneC c r i l.length := by
  unfold oneL; rw [h]; rfl
/-- What stands behind a text: nothing, or a blank first. -/
def Behind (x : List UInt8) : Prop := x = [] ∨ ∃ b y, x = b :: y ∧ blankB b = true
theorem blank_is {b : UInt8} (h : blankB b = true) : b = 32 ∨ b = 9 ∨ b = 10 ∨ b = 13 := by
  unfold blankB at h
  simpa only [Bool.or_eq_true, beq_iff_eq] using h
theorem span_app (p : UInt8 → Bool) (hp : ∀ b, blankB b = true → p b = false) {x : List UInt8} (hx : Behind x) : ∀ d, spanL p (d ++ x) = spanL p d
  | [] => by
    rcases hx with rfl | ⟨b, y, rfl, hb⟩
    · rfl
    · simp [spanL, hp b hb]
  | c :: d => by
    have ih := span_app p hp hx d
    unfold spanL at ih ⊢
    rw [List.cons_append, List.takeWhile_cons, List.takeWhile_cons]
    split
    · simp [ih]
    · rfl
theorem wrd_blank (b : UInt8) (h : blankB b = true) : wrdB b = false := by
  rcases blank_is h with rfl | rfl | rfl | rfl <;> decide
theorem dig_blank (b : UInt8) (h : blankB b = true) : digB b = false := by
  rcases blank_is h with rfl | rfl | rfl | rfl <;> decide
theorem take_span (p : UInt8 → Bool) (d x : List UInt8) : (d ++ x).take (spanL p d) = d.take (spanL p d) :=
  List.take_append_of_le_length (span_le p d)
theorem quot_some {x : List UInt8} (hx : Behind x) : ∀ (r : List UInt8) (p : List UInt8 × Nat), quotL r = some p → quotL (r ++ x) = some p
  | [], p, h => by simp [quotL] at h
  | [c], p, h => by
    rw [quotL] at h
    by_cases hc : c = 39
    · rw [if_pos hc] at h
      rcases hx with rfl | ⟨b, y, rfl, hb⟩
      · simpa [quotL, hc] using h
      · have hb39 : ¬ b = 39 := by rcases blank_is hb with rfl | rfl | rfl | rfl <;> decide
        rw [List.singleton_append, quotL, if_pos hc, if_neg hb39]; exact h
    · rw [if_neg hc] at h; cases h
  | c :: d :: l, p, h => by
    rw [List.cons_append, List.cons_append]
    rw [quotL] at h ⊢
    by_cases hc : c = 39
    · rw [if_pos hc] at h ⊢
      by_cases hd : d = 39
      · rw [if_pos hd] at h ⊢
        obtain ⟨q, h1, h2⟩ := Option.map_eq_some_iff.1 h
        rw [quot_some hx l q h1, ← h2]; rfl
      · rw [if_neg hd] at h ⊢; exact h
    · rw [if_neg hc] at h ⊢
      obtain ⟨q, h1, h2⟩ := Option.map_eq_some_iff.1 h
      have := quot_some hx (d :: l) q h1
      rw [List.cons_append] at this
      rw [this, ← h2]; rfl
theorem quot_no : ∀ (x : List UInt8), (∀ c ∈ x, ¬ c = 39) → quotL x = none
  | [], _ => by simp [quotL]
  | [c], h => by rw [quotL, if_neg (h c (by simp))]
  | c :: d :: l, h => by rw [quotL, if_neg (h c (by simp)), quot_no (d :: l) (fun e he => h e (by simp [he]))]; rfl
theorem quot_none {x : List UInt8} (hx : ∀ c ∈ x, ¬ c = 39) : ∀ (r : List UInt8), quotL r = none → quotL (r ++ x) = none
  | [], _ => quot_no x hx
  | [c], h => by
    rw [quotL] at h
    by_cases hc : c = 39
    · rw [if_pos hc] at h; cases h
    · exact quot_no _ (fun e he => by
        rcases List.mem_append.1 he with h2 | h2
        · rw [List.mem_singleton.1 h2]; exact hc
        · exact hx e h2)
  | c :: d :: l, h => by
    rw [List.cons_append, List.cons_append]
    rw [quotL] at h ⊢
    by_cases hc : c = 39
    · rw [if_pos hc] at h ⊢
      by_cases hd : d = 39
      · rw [if_pos hd] at h ⊢
        rw [quot_none hx l (Option.map_eq_none_iff.1 h)]; rfl
      · rw [if_neg hd] at h; cases h
    · rw [if_neg hc] at h ⊢
      have := quot_none hx (d :: l) (Option.map_eq_none_iff.1 h)
      rw [List.cons_append] at this
      rw [this]; rfl
theorem sign_app {x : List UInt8} (hx : Behind x) (c : UInt8) : ∀ r, signL (c :: (r ++ x)) = signL (c :: r)
  | e :: r => rfl
  | [] => by
    rcases hx with rfl | ⟨b, y, rfl, hb⟩
    · rfl
    · have h1 : ((61 : UInt8) == b) = false := by rcases blank_is hb with rfl | rfl | rfl | rfl <;> decide
      have h2 : ((62 : UInt8) == b) = false := by rcases blank_is hb with rfl | rfl | rfl | rfl <;> decide
      simp [signL, signsL, List.find?, List.isPrefixOf, h1, h2]
theorem oneC_inr {x : List UInt8} (hx : Behind x) (c : UInt8) (r : List UInt8) (i len len' m : Nat) {k n : Int} {t : List UInt8} {E : Nat} (h : oneC c r i len = .inr (k, n, t, E)) : oneC c (r ++ x) (m + i) len' = .inr (k, n, t, E + m) := by
  have s1 : spanL wrdB (c :: (r ++ x)) = spanL wrdB (c :: r) := span_app wrdB wrd_blank hx (c :: r)
  have s2 : spanL digB (c :: (r ++ x)) = spanL digB (c :: r) := span_app digB dig_blank hx (c :: r)
  have s3 := span_app digB dig_blank hx r
  have t1 : (c :: (r ++ x)).take (spanL wrdB (c :: r)) = (c :: r).take (spanL wrdB (c :: r)) := take_span wrdB (c :: r) x
  have t2 : (c :: (r ++ x)).take (spanL digB (c :: r)) = (c :: r).take (spanL digB (c :: r)) := take_span digB (c :: r) x
  have t3 := take_span digB r x
  unfold oneC at h ⊢
  rw [s1, s2, s3, t1, t2, t3, sign_app hx]
  by_cases h1 : letB c = true
  · rw [if_pos h1] at h ⊢
    split at h
    · cases h
    · rename_i hq
      rw [if_neg hq]
      simp only [Sum.inr.injEq, Prod.mk.injEq] at h ⊢
      exact ⟨h.1, h.2.1, h.2.2.1, by omega⟩
  · rw [if_neg h1] at h ⊢
    by_cases h2 : digB c = true
    · rw [if_pos h2] at h ⊢
      split at h
      · cases h
      · simp only [Sum.inr.injEq, Prod.mk.injEq] at h ⊢
        exact ⟨h.1, h.2.1, h.2.2.1, by omega⟩
    · rw [if_neg h2] at h ⊢
      by_cases h3 : c = 39
      · rw [if_pos h3] at h ⊢
        cases hq : quotL r with
        | none => rw [hq] at h; cases h
        | some p =>
          rw [hq] at h
          rw [quot_some hx r p hq]
          simp only at h ⊢
          split at h
          · cases h
          · rename_i hq
            rw [if_neg hq]
            simp only [Sum.inr.injEq, Prod.mk.injEq] at h ⊢
            exact ⟨h.1, h.2.1, h.2.2.1, by omega⟩
      · rw [if_neg h3] at h ⊢
        by_cases h4 : c = 36
        · rw [if_pos h4] at h ⊢
          split at h
          · cases h
          · rename_i hq
            rw [if_neg hq]
            split at h
            · cases h
            · rename_i v hv
              split at h
              · cases h
              · rename_i hq2
                rw [if_neg hq2]
                simp only [Sum.inr.injEq, Prod.mk.injEq] at h ⊢
                exact ⟨h.1, h.2.1, h.2.2.1, by omega⟩
        · rw [if_neg h4] at h ⊢
          split at h
          · simp only [Sum.inr.injEq, Prod.mk.injEq] at h ⊢
            exact ⟨h.1, h.2.1, h.2.2.1, by omega⟩
          · cases h
theorem behind_of {x : List UInt8} (hx : ∀ c ∈ x, blankB c = true) : Behind x := by
  cases x with
  | nil => exact .inl rfl
  | cons b y => exact .inr ⟨b, y, rfl, hx b (by simp)⟩
theorem oneC_inl {x : List UInt8} (hx : ∀ c ∈ x, blankB c = true) (c : UInt8) (r : List UInt8) (i len m : Nat) {e p : Int} (h : oneC c r i len = .inl (e, p)) : ∃ p', oneC c (r ++ x) (m + i) (m + (len + x.length)) = .inl (e, p') ∧ (p' = p + m ∨ (p = len ∧ p' = m + (len + x.length : Nat))) := by
  have hb := behind_of hx
  have h39 : ∀ c ∈ x, ¬ c = 39 := fun c hc => by rcases blank_is (hx c hc) with rfl | rfl | rfl | rfl <;> decide
  have s1 : spanL wrdB (c :: (r ++ x)) = spanL wrdB (c :: r) := span_app wrdB wrd_blank hb (c :: r)
  have s2 : spanL digB (c :: (r ++ x)) = spanL digB (c :: r) := span_app digB dig_blank hb (c :: r)
  have s3 := span_app digB dig_blank hb r
  have t1 : (c :: (r ++ x)).take (spanL wrdB (c :: r)) = (c :: r).take (spanL wrdB (c :: r)) := take_span wrdB (c :: r) x
  have t2 : (c :: (r ++ x)).take (spanL digB (c :: r)) = (c :: r).take (spanL digB (c :: r)) := take_span digB (c :: r) x
  have t3 := take_span digB r x
  unfold oneC at h ⊢
  rw [s1, s2, s3, t1, t2, t3, sign_app hb]
  by_cases h1 : letB c = true
  · rw [if_pos h1] at h ⊢
    split at h
    · rename_i hq
      rw [if_pos hq]
      cases h; exact ⟨_, rfl, .inl (by omega)⟩
    · cases h
  · rw [if_neg h1] at h ⊢
    by_cases h2 : digB c = true
    · rw [if_pos h2] at h ⊢
      split at h
      · cases h; exact ⟨_, rfl, .inl (by omega)⟩
      · cases h
    · rw [if_neg h2] at h ⊢
      by_cases h3 : c = 39
      · rw [if_pos h3] at h ⊢
        cases hq : quotL r with
        | none =>
          rw [hq] at h
          rw [quot_none h39 r hq]
          cases h; exact ⟨_, rfl, .inr ⟨rfl, by omega⟩⟩
        | some p =>
          rw [hq] at h
          rw [quot_some hb r p hq]
          simp only at h ⊢
          split at h
          · rename_i hq
            rw [if_pos hq]
            cases h; exact ⟨_, rfl, .inl (by omega)⟩
          · cases h
      · rw [if_neg h3] at h ⊢
        by_cases h4 : c = 36
        · rw [if_pos h4] at h ⊢
          split at h
          · rename_i hq
            rw [if_pos hq]
            cases h; exact ⟨_, rfl, .inl (by omega)⟩
          · rename_i hq
            rw [if_neg hq]
            split at h
            · cases h; exact ⟨_, rfl, .inl (by omega)⟩
            · rename_i v hv
              split at h
              · rename_i hq2
                rw [if_pos hq2]
                cases h; exact ⟨_, rfl, .inl (by omega)⟩
              · cases h
        · rw [if_neg h4] at h ⊢
          split at h
          · cases h
          · cases h; exact ⟨_, rfl, .inl (by omega)⟩
theorem big_get (pre l x : List UInt8) (i : Nat) (c : UInt8) (h : l[i]? = some c) : (pre ++ (l ++ x))[pre.length + i]? = some c := by
  have := (List.getElem?_eq_some_iff.1 h).1
  rw [List.getElem?_append_right (by omega), show pre.length + i - pre.length = i by omega, List.getElem?_append_left this, h]
theorem big_drop (pre l x : List UInt8) (i : Nat) (c : UInt8) (r : List UInt8) (h : l.drop i = c :: r) : (pre ++ (l ++ x)).drop (pre.length + i) = c :: (r ++ x) := by
  have := drop_lt h
  rw [List.drop_append, List.drop_of_length_le (by omega), List.nil_append, show pre.length + i - pre.length = i by omega, List.drop_append_of_le_length (by omega), h]; rfl
theorem one_in_r {pre l x : List UInt8} (hx : Behind x) {i : Nat} {c : UInt8} (hc : l[i]? = some c) {k n : Int} {t : List UInt8} {E : Nat} (h : oneL l i = .inr (k, n, t, E)) : oneL (pre ++ (l ++ x)) (pre.length + i) = .inr (k, n, t, E + pre.length) := by
  obtain ⟨h1, h2⟩ := List.getElem?_eq_some_iff.1 hc
  have hd : l.drop i = c :: l.drop (i + 1) := by rw [List.drop_eq_getElem_cons h1, h2]
  rw [oneL_C hd] at h
  rw [oneL_C (big_drop pre l x i c _ hd)]
  exact oneC_inr hx c _ i _ _ _ h
theorem one_in_l {pre l x : List UInt8} (hx : ∀ c ∈ x, blankB c = true) {i : Nat} {c : UInt8} (hc : l[i]? = some c) {e p : Int} (h : oneL l i = .inl (e, p)) : ∃ p', oneL (pre ++ (l ++ x)) (pre.length + i) = .inl (e, p') ∧ (p' = p + pre.length ∨ (p = l.length ∧ p' = pre.length + (l.length + x.length : Nat))) := by
  obtain ⟨h1, h2⟩ := List.getElem?_eq_some_iff.1 hc
  have hd : l.drop i = c :: l.drop (i + 1) := by rw [List.drop_eq_getElem_cons h1, h2]
  rw [oneL_C hd] at h
  rw [oneL_C (big_drop pre l x i c _ hd), List.length_append, List.length_append]
  exact oneC_inl hx c _ i _ _ h
/-- A token, m bytes later. -/
def sh (m : Nat) (t : Tk) : Tk := ⟨t.f0, t.f1, t.f2 + (m : Int), t.f3⟩
end Go.Proofs.YtniapbinamnmpaaDoor.L
