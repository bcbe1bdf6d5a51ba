/- Plain: great letters and small ones give the same tokens. -/
import Derived.Test.YtniapbinamnmpaaDoorLp3
namespace Go.Proofs.YtniapbinamnmpaaDoor.L
set_option linter.unusedSimpArgs false
set_option linter.unusedVariables false
open Go.RowKit Go.Proofs.YtniapbinamnmpaaDoorW.PrintWords Go.Proofs.YtniapbinamnmpaaDoorW.PrintLast Go.Proofs.YtniapbinamnmpaaDoorW.PrintMore

/-- A small letter made great. -/
def upB (c : UInt8) : UInt8 := if 97 ≤ c.toNat ∧ c.toNat ≤ 122 then c - 32 else c
theorem up_all : ∀ n : Fin 256, (fun c : UInt8 => letB (upB c) = letB c ∧ digB (upB c) = digB c ∧ wrdB (upB c) = wrdB c ∧ (upB c == 39) = (c == 39) ∧ (upB c == 36) = (c == 36) ∧ blankB (upB c) = blankB c ∧ lowL [upB c] = lowL [c] ∧ (digB c = true → upB c = c) ∧ (∀ a ∈ ([60, 61, 62, 43, 45, 42, 47, 40, 41, 44, 46] : List UInt8), (a == upB c) = (a == c))) (UInt8.ofNat n.val) := by decide +kernel
theorem up_at (c : UInt8) : letB (upB c) = letB c ∧ digB (upB c) = digB c ∧ wrdB (upB c) = wrdB c ∧ (upB c == 39) = (c == 39) ∧ (upB c == 36) = (c == 36) ∧ blankB (upB c) = blankB c ∧ lowL [upB c] = lowL [c] ∧ (digB c = true → upB c = c) ∧ (∀ a ∈ ([60, 61, 62, 43, 45, 42, 47, 40, 41, 44, 46] : List UInt8), (a == upB c) = (a == c)) := by
  have h := up_all ⟨c.toNat, c.toNat_lt⟩
  have e : UInt8.ofNat c.toNat = c := by simp
  simp only [e] at h
  exact h
theorem span_map (p : UInt8 → Bool) (hp : ∀ c, p (upB c) = p c) : ∀ d, spanL p (d.map upB) = spanL p d
  | [] => rfl
  | c :: d => by
    have ih := span_map p hp d
    unfold spanL at ih ⊢
    rw [List.map_cons, List.takeWhile_cons, List.takeWhile_cons, hp]
    split
    · simp [ih]
    · rfl
theorem low_cons (c : UInt8) (d : List UInt8) : lowL (c :: d) = lowL [c] ++ lowL d := by simp [lowL]
theorem low_map : ∀ d, lowL (d.map upB) = lowL d
  | [] => rfl
  | c :: d => by rw [List.map_cons, low_cons, low_cons c, (up_at c).2.2.2.2.2.2.1, low_map d]
theorem dig_map : ∀ d : List UInt8, (d.take (spanL digB d)).map upB = d.take (spanL digB d) := by
  intro d
  have : ∀ c ∈ d.take (spanL digB d), upB c = id c := fun c hc => (up_at c).2.2.2.2.2.2.2.1 (take_all digB d c hc)
  rw [List.map_congr_left this, List.map_id]
theorem sign_map (c : UInt8) (r : List UInt8) : signL (upB c :: r.map upB) = signL (c :: r) := by
  have h := (up_at c).2.2.2.2.2.2.2.2
  cases r with
  | nil => simp [signL, signsL, List.find?, List.isPrefixOf, h]
  | cons d r =>
    have h2 := (up_at d).2.2.2.2.2.2.2.2
    simp [signL, signsL, List.find?, List.isPrefixOf, h, h2]
theorem oneC_map (c : UInt8) (r : List UInt8) (i len : Nat) (hc : ¬ c = 39) : oneC (upB c) (r.map upB) i len = oneC c r i len := by
  obtain ⟨u1, u2, u3, u4, u5, u6, u7, u8, u9⟩ := up_at c
  have s1 : spanL wrdB (upB c :: r.map upB) = spanL wrdB (c :: r) := span_map wrdB (fun c => (up_at c).2.2.1) (c :: r)
  have s2 : spanL digB (upB c :: r.map upB) = spanL digB (c :: r) := span_map digB (fun c => (up_at c).2.1) (c :: r)
  have s3 := span_map digB (fun c => (up_at c).2.1) r
  have t1 : lowL ((upB c :: r.map upB).take (spanL wrdB (c :: r))) = lowL ((c :: r).take (spanL wrdB (c :: r))) := by
    have : (upB c :: r.map upB) = (c :: r).map upB := rfl
    rw [this, ← List.map_take, low_map]
  have t2 : (upB c :: r.map upB).take (spanL digB (c :: r)) = (c :: r).take (spanL digB (c :: r)) := by
    have : (upB c :: r.map upB) = (c :: r).map upB := rfl
    rw [this, ← List.map_take, dig_map]
  have t3 : (r.map upB).take (spanL digB r) = r.take (spanL digB r) := by rw [← List.map_take, dig_map]
  have h39 : ¬ upB c = 39 := fun h => hc (by
    have : (c == 39) = true := by rw [← u4, h]; rfl
    exact beq_iff_eq.1 this)
  have h36 : (upB c = 36) ↔ (c = 36) := by rw [← beq_iff_eq, ← beq_iff_eq (a := c), u5]
  unfold oneC
  rw [s1, s2, s3, t1, t2, t3, u1, u2, sign_map, if_neg hc, if_neg h39]
  by_cases h4 : c = 36
  · rw [if_pos h4, if_pos (h36.2 h4)]
  · rw [if_neg h4, if_neg (fun h => h4 (h36.1 h))]
theorem one_map (l : List UInt8) (i : Nat) (c : UInt8) (hc : l[i]? = some c) (h39 : ¬ c = 39) : oneL (l.map upB) i = oneL l i := by
  obtain ⟨h1, h2⟩ := List.getElem?_eq_some_iff.1 hc
  have hd : l.drop i = c :: l.drop (i + 1) := by rw [List.drop_eq_getElem_cons h1, h2]
  have hd2 : (l.map upB).drop i = upB c :: (l.drop (i + 1)).map upB := by rw [← List.map_drop, hd]; rfl
  rw [oneL_C hd, oneL_C hd2, List.length_map]
  exact oneC_map c _ i _ h39
theorem lexGo_map (l : List UInt8) (h39 : ∀ c ∈ l, ¬ c = 39) : ∀ (k : Nat) (acc : List Tk) (i : Nat), lexGo k (l.map upB) acc i = lexGo k l acc i
  | 0, acc, i => rfl
  | k + 1, acc, i => by
    cases hc : l[i]? with
    | none =>
      have := List.getElem?_eq_none_iff.1 hc
      rw [lexGo_end _ _ this, lexGo_end _ _ (by rw [List.length_map]; exact this)]
    | some c =>
      have hm : (l.map upB)[i]? = some (upB c) := by rw [List.getElem?_map, hc]; rfl
      have hbl : blankB (upB c) = blankB c := (up_at c).2.2.2.2.2.1
      have ho := one_map l i c hc (h39 c (List.mem_of_getElem? hc))
      by_cases hb : blankB c = true
      · rw [lexGo_blank hc hb, lexGo_blank hm (hbl.trans hb), lexGo_map l h39 k]
      · replace hb : blankB c = false := by simpa using hb
        cases h1 : oneL l i with
        | inl q =>
          obtain ⟨e, p⟩ := q
          rw [lexGo_inl hc hb h1, lexGo_inl hm (hbl.trans hb) (ho.trans h1)]
        | inr q =>
          obtain ⟨kd, n, t, E⟩ := q
          rw [lexGo_inr hc hb h1, lexGo_inr hm (hbl.trans hb) (ho.trans h1), lexGo_map l h39 k]
theorem lexL_map (s : ByteArray) (l : List UInt8) (hl : s.data.toList = l) (h39 : ∀ c ∈ l, ¬ c = 39) : lexL ⟨(l.map upB).toArray⟩ = lexL s := by
  unfold lexL
  rw [ba_size, List.length_map, ba_mk, sz_list s, hl, lexGo_map l h39]
theorem lexGo_len (l : List UInt8) : ∀ (k : Nat) (acc : List Tk) (i : Nat) (r : List Tk) (e p : Int), acc.length ≤ 400 → lexGo k l acc i = (r, e, p) → r.length ≤ 400
  | 0, acc, i, r, e, p, ha, h => by cases h; exact ha
  | k + 1, acc, i, r, e, p, ha, h => by
    cases hc : l[i]? with
    | none => rw [lexGo_end _ _ (List.getElem?_eq_none_iff.1 hc)] at h; cases h; exact ha
    | some c =>
      by_cases hb : blankB c = true
      · rw [lexGo_blank hc hb] at h
        exact lexGo_len l k acc (i + 1) r e p ha h
      · replace hb : blankB c = false := by simpa using hb
        cases ho : oneL l i with
        | inl q => rw [lexGo_inl hc hb ho] at h; cases h; simp
        | inr q =>
          rw [lexGo_inr hc hb ho] at h
          by_cases h4 : acc.length = 400
          · rw [if_pos h4] at h; cases h; simp
          · rw [if_neg h4] at h
            exact lexGo_len l k _ _ r e p (by simp; omega) h
theorem lexL_len (s : ByteArray) {r : List Tk} {e p : Int} (h : lexL s = (r, e, p)) : r.length ≤ 400 := by
  unfold lexL at h
  split at h
  · cases h; simp
  · exact lexGo_len _ _ _ _ _ _ _ (by simp) h
end Go.Proofs.YtniapbinamnmpaaDoor.L
