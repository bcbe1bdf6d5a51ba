/- Plain: LexBlanks. -/
import Derived.Test.YtniapbinamnmpaaDoorLp2
import Derived.Test.YtniapbinamnmpaaDoorLp3
import Derived.Test.YtniapbinamnmpaaDoorLx11
namespace Go.Proofs.YtniapbinamnmpaaDoor.L
set_option linter.unusedSimpArgs false
set_option linter.unusedVariables false
open Go.RowKit Go.Proofs.YtniapbinamnmpaaDoorW.PrintWords Go.Proofs.YtniapbinamnmpaaDoorW.PrintLast Go.Proofs.YtniapbinamnmpaaDoorW.PrintMore

theorem lexGo_blanks (l : List UInt8) : ∀ (k : Nat) (acc : List Tk) (i : Nat), (∀ (j : Nat) (c : UInt8), i ≤ j → l[j]? = some c → blankB c = true) → l.length < i + k → lexGo k l acc i = (acc, 0, 0)
  | 0, acc, i, _, _ => rfl
  | k + 1, acc, i, h, hk => by
    cases hc : l[i]? with
    | none => exact lexGo_end _ _ (List.getElem?_eq_none_iff.1 hc)
    | some c =>
      rw [lexGo_blank hc (h i c (Nat.le_refl _) hc)]
      exact lexGo_blanks l k acc (i + 1) (fun j c hj => h j c (by omega)) (by omega)
theorem lexGo_skip (l : List UInt8) (k : Nat) (acc : List Tk) : ∀ (d i : Nat), (∀ (j : Nat), i ≤ j → j < i + d → ∃ c, l[j]? = some c ∧ blankB c = true) → lexGo (k + d) l acc i = lexGo k l acc (i + d)
  | 0, i, _ => rfl
  | d + 1, i, h => by
    obtain ⟨c, hc, hb⟩ := h i (Nat.le_refl _) (by omega)
    have : lexGo (k + d + 1) l acc i = lexGo (k + d) l acc (i + 1) := lexGo_blank hc hb
    rw [← Nat.add_assoc, this, lexGo_skip l k acc d (i + 1) (fun j h1 h2 => h j (by omega) (by omega))]
    congr 1; omega
theorem lex_in {pre l x : List UInt8} (hx : ∀ c ∈ x, blankB c = true) : ∀ (k : Nat) (acc : List Tk) (i : Nat) (r : List Tk) (e p : Int) (K : Nat), l.length < i + k → (pre ++ (l ++ x)).length < pre.length + i + K → lexGo k l acc i = (r, e, p) →
    ∃ p', lexGo K (pre ++ (l ++ x)) (acc.map (sh pre.length)) (pre.length + i) = (r.map (sh pre.length), e, p') ∧ (e ≠ 0 → p' = p + pre.length ∨ (p = l.length ∧ p' = pre.length + (l.length + x.length : Nat))) := by
  have hend : ∀ (i : Nat) (acc : List Tk) (K : Nat), l.length ≤ i → (pre ++ (l ++ x)).length < pre.length + i + K → lexGo K (pre ++ (l ++ x)) (acc.map (sh pre.length)) (pre.length + i) = (acc.map (sh pre.length), 0, 0) := by
    intro i acc K hi hK
    refine lexGo_blanks _ _ _ _ (fun j c hj hc => ?_) hK
    rw [List.getElem?_append_right (by omega), List.getElem?_append_right (by omega)] at hc
    exact hx c (List.mem_of_getElem? hc)
  intro k
  induction k with
  | zero =>
    intro acc i r e p K hk hK h
    cases h
    exact ⟨0, hend i _ K (by omega) hK, fun h => absurd rfl h⟩
  | succ k ih =>
    intro acc i r e p K hk hK h
    cases hc : l[i]? with
    | none =>
      rw [lexGo_end _ _ (List.getElem?_eq_none_iff.1 hc)] at h
      cases h
      exact ⟨0, hend i _ K (List.getElem?_eq_none_iff.1 hc) hK, fun h => absurd rfl h⟩
    | some c =>
      have hi := (List.getElem?_eq_some_iff.1 hc).1
      have hg := big_get pre l x i c hc
      have hlen : (pre ++ (l ++ x)).length = pre.length + (l.length + x.length) := by simp
      obtain ⟨K, rfl⟩ : ∃ j, K = j + 1 := ⟨K - 1, by omega⟩
      by_cases hb : blankB c = true
      · rw [lexGo_blank hc hb] at h
        rw [lexGo_blank hg hb]
        exact ih acc (i + 1) r e p K (by omega) (by omega) h
      · replace hb : blankB c = false := by simpa using hb
        have hr := one_right l i
        cases ho : oneL l i with
        | inl q =>
          obtain ⟨e', pl⟩ := q
          obtain ⟨p', h1, h2⟩ := one_in_l (pre := pre) hx hc ho
          rw [lexGo_inl hc hb ho] at h
          cases h
          exact ⟨p', lexGo_inl hg hb h1, fun _ => h2⟩
        | inr q =>
          obtain ⟨kd, n, t, E⟩ := q
          rw [ho] at hr
          have hE : i < E := hr
          have h1 := one_in_r (pre := pre) (behind_of hx) hc ho
          rw [lexGo_inr hc hb ho] at h
          rw [lexGo_inr hg hb h1, List.length_map]
          by_cases h4 : acc.length = 400
          · rw [if_pos h4] at h ⊢
            cases h
            exact ⟨_, rfl, fun _ => .inl (by omega)⟩
          · rw [if_neg h4] at h ⊢
            obtain ⟨p', g1, g2⟩ := ih _ E r e p K (by omega) (by omega) h
            refine ⟨p', ?_, g2⟩
            rw [← g1, List.map_append, List.map_singleton, Nat.add_comm E]
            have e1 : ((pre.length + i : Nat) : Int) = (i : Int) + (pre.length : Nat) := by omega
            rw [e1]; rfl

/-- What stands ahead: blanks by turns. -/
def ahead : Nat → List UInt8
  | 0 => []
  | n + 1 => ahead n ++ [if n % 2 = 0 then 32 else 10]
theorem ahead_len : ∀ n, (ahead n).length = n
  | 0 => rfl
  | n + 1 => by rw [ahead, List.length_append, ahead_len n]; rfl
theorem ahead_blank : ∀ n, ∀ c ∈ ahead n, blankB c = true
  | 0, c, h => by simp [ahead] at h
  | n + 1, c, h => by
    rw [ahead] at h
    rcases List.mem_append.1 h with h | h
    · exact ahead_blank n c h
    · rw [List.mem_singleton.1 h]; split <;> decide
theorem lexL_ahead (s : ByteArray) (l : List UInt8) (hl : s.data.toList = l) (m : Nat) (hs : l.length + 2 * m ≤ 2000) (r : List Tk) (e p : Int) (h : lexL s = (r, e, p)) :
    ∃ p', lexL ⟨(ahead m ++ (l ++ ahead m)).toArray⟩ = (r.map (sh m), e, p') ∧ (e ≠ 0 → p' = p + m ∨ (p = l.length ∧ p' = m + (l.length + m : Nat))) := by
  have hal := ahead_len m
  have hlen : (ahead m ++ (l ++ ahead m)).length = m + (l.length + m) := by simp [hal]
  rw [ba_eta s l hl, lexL_mk l (by omega)] at h
  rw [lexL_mk _ (by omega)]
  obtain ⟨p', h1, h2⟩ := lex_in (pre := ahead m) (ahead_blank m) _ _ _ _ _ _ ((l.length + m) + 1) (by omega) (by omega) h
  rw [hal] at h1 h2
  refine ⟨p', ?_, h2⟩
  have e1 : (ahead m ++ (l ++ ahead m)).length + 1 = (l.length + m + 1) + m := by omega
  rw [e1, lexGo_skip _ _ _ m 0 (fun j _ hj => by
    have hj2 : j < (ahead m).length := by omega
    exact ⟨(ahead m)[j], by rw [List.getElem?_append_left hj2, List.getElem?_eq_getElem hj2], ahead_blank m _ (List.getElem_mem hj2)⟩), Nat.add_comm 0 m]
  exact h1
theorem blanks_l1 (m : Nat) (hm : m ≤ 50) (l : List UInt8) (hl : l.length ≤ 2000) (r : List Tk) (hT : Toks l 0 r) (hr : r.length ≤ 100000) : ∀ (d n : Nat), r.length - n ≤ d → n ≤ r.length → Ev (fun k => weathercocklaw07_LexBlanks.l1 k (m : Int) true r (r.map (sh m)) (n : Int)) true := by
  have hend : Ev (fun k => weathercocklaw07_LexBlanks.l1 k (m : Int) true r (r.map (sh m)) (r.length : Int)) true := by
    refine Ev.const 1 (fun k => ?_)
    rw [weathercocklaw07_LexBlanks.l1, if_neg (by omega)]
  intro d
  induction d with
  | zero =>
    intro n hd hn
    obtain rfl : n = r.length := by omega
    exact hend
  | succ d ih =>
    intro n hd hn
    by_cases hnl : n = r.length
    · subst hnl; exact hend
    · have hlt : n < r.length := by omega
      obtain ⟨t, ht⟩ : ∃ t, r[n]? = some t := ⟨_, List.getElem?_eq_getElem hlt⟩
      obtain ⟨a, c, h1, h2, h3, h4⟩ := toks_at hT n t ht
      have hal := (List.getElem?_eq_some_iff.1 h3).1
      have hr1 := rd_at ht
      have ht2 : (r.map (sh m))[n]? = some (sh m t) := by rw [List.getElem?_map, ht]; rfl
      have hr2 := rd_at ht2
      have HW : Hid (wrap64 ((n : Int) + 1) = ((n + 1 : Nat) : Int)) := Lib.hid (wrap64_of (by omega) (by omega))
      have HW2 : Hid (wrap64 (t.f2 + (m : Int)) = t.f2 + (m : Int)) := Lib.hid (wrap64_of (by omega) (by omega))
      refine Ev.steps 1 (f := fun k => weathercocklaw07_LexBlanks.l1 k (m : Int) true r (r.map (sh m)) ((n + 1 : Nat) : Int)) (fun k => ?_) (ih (n + 1) (by omega) (by omega))
      rw [weathercocklaw07_LexBlanks.l1, if_pos (by omega), if_pos (by omega), if_pos (by rw [List.length_map]; omega), hr1, hr2, HW.out, HW2.out]
      rw [if_neg (by simp [sh])]
theorem ba_pat0 : ((⟨#[32, 10]⟩ : ByteArray).extract 0 1).data.toList = [32] := by decide
theorem ba_pat1 : ((⟨#[32, 10]⟩ : ByteArray).extract 1 2).data.toList = [10] := by decide
theorem blanks_l0 (s : ByteArray) (l : List UInt8) (hl : s.data.toList = l) (hs : l.length ≤ 1900) (m : Nat) (hm : m < 50) : ∀ (d n : Nat), m - n ≤ d → n ≤ m → Ev (fun k => weathercocklaw07_LexBlanks.l0 k s (m : Int) true ⟨(ahead n).toArray⟩ (n : Int)) true := by
  have hsz : s.size = l.length := by rw [sz_list, hl]
  have hend : Ev (fun k => weathercocklaw07_LexBlanks.l0 k s (m : Int) true ⟨(ahead m).toArray⟩ (m : Int)) true := by
    obtain ⟨r, e, p, hL, h0, h1⟩ := lexL_some s
    rw [hl] at h0
    obtain ⟨p', g1, g2⟩ := lexL_ahead s l hl m (by omega) r e p hL
    have hf : lex_Lex.f s = some (r, e, p) := by rw [← hL]; rfl
    have hx : ((⟨(ahead m).toArray⟩ : ByteArray) ++ s) ++ ⟨(ahead m).toArray⟩ = ⟨(ahead m ++ (l ++ ahead m)).toArray⟩ := by
      rw [ba_app _ s _ l (ba_mk _) hl, ba_app _ _ _ _ (ba_mk _) (ba_mk _), List.append_assoc]
    have hf2 : lex_Lex.f (((⟨(ahead m).toArray⟩ : ByteArray) ++ s) ++ ⟨(ahead m).toArray⟩) = some (r.map (sh m), e, p') := by rw [hx, ← g1]; rfl
    have hsa : ((⟨(ahead m).toArray⟩ : ByteArray) ++ s).size = m + l.length := by rw [ByteArray.size_append, ba_size, ahead_len, hsz]
    have hst : ∀ k, weathercocklaw07_LexBlanks.l0 (k + 1) s (m : Int) true ⟨(ahead m).toArray⟩ (m : Int) = weathercocklaw07_LexBlanks.j2 k s (m : Int) true r e p (r.map (sh m)) p' false := fun k => by
      rw [weathercocklaw07_LexBlanks.l0, if_neg (by omega), hf, Option.bind_some, hf2, hsa, ba_size, ahead_len, if_pos (by omega), if_pos (by omega), Option.bind_some]
      dsimp only
      rw [if_pos (by rw [List.length_map])]
      congr 1
      exact bne_self_eq_false e
    by_cases he : e = 0
    · obtain ⟨_, hn, hT⟩ := h0 he
      refine Ev.steps 2 (f := fun k => weathercocklaw07_LexBlanks.l1 k (m : Int) true r (r.map (sh m)) ((0 : Nat) : Int)) (fun k => ?_) (blanks_l1 m (by omega) l (by omega) r hT (by omega) r.length 0 (by omega) (by omega))
      rw [hst, weathercocklaw07_LexBlanks.j2, if_neg (by decide), if_pos he]; rfl
    · obtain ⟨rfl, q1, q2, q3⟩ := h1 he
      refine Ev.const 2 (fun k => ?_)
      rw [hst, weathercocklaw07_LexBlanks.j2, if_neg (by decide), if_neg he, if_pos rfl]
      rcases g2 he with h | ⟨h, h'⟩
      · rw [if_pos (by rw [wrap64_of (by omega) (by omega), h])]
      · by_cases hh : p' = wrap64 (p + (m : Int))
        · rw [if_pos hh]
        · rw [if_neg hh, if_pos (by rw [h, hsz]), wrap64_of (x := 2 * (m : Int)) (by omega) (by omega), wrap64_of (by omega) (by omega)]
          have : (p' == (s.size : Int) + 2 * (m : Int)) = true := beq_iff_eq.mpr (by omega)
          rw [this]
  intro d
  induction d with
  | zero =>
    intro n hd hn
    obtain rfl : n = m := by omega
    exact hend
  | succ d ih =>
    intro n hd hn
    by_cases hnl : n = m
    · subst hnl; exact hend
    · have HW : Hid (wrap64 ((n : Int) + 1) = ((n + 1 : Nat) : Int)) := Lib.hid (wrap64_of (by omega) (by omega))
      refine Ev.steps 1 (f := fun k => weathercocklaw07_LexBlanks.l0 k s (m : Int) true ⟨(ahead (n + 1)).toArray⟩ ((n + 1 : Nat) : Int)) (fun k => ?_) (ih (n + 1) (by omega) (by omega))
      rw [weathercocklaw07_LexBlanks.l0, if_pos (by omega), HW.out]
      have hal := ahead_len n
      rcases Nat.mod_two_eq_zero_or_one n with h2 | h2
      · have ht : Int.tmod (n : Int) 2 = 0 := by rw [Int.tmod_eq_emod_of_nonneg (by omega)]; omega
        have hw0 : wrap64 ((0 : Int) + 1) = 1 := wrap64_of (by omega) (by omega)
        have e0 : ((0 : Int)).toNat = 0 := rfl
        have e1 : ((1 : Int)).toNat = 1 := rfl
        have hx1 : ((⟨#[32, 10]⟩ : ByteArray).extract 0 1).size = 1 := by rw [sz_list, ba_pat0]; rfl
        rw [ht, hw0, e0, e1, hx1, ba_size, if_pos (by omega), if_pos (by omega), if_pos (by omega), if_pos (by omega), ba_app _ _ _ _ (ba_mk _) ba_pat0]
        rw [ahead, if_pos h2]
      · have ht : Int.tmod (n : Int) 2 = 1 := by rw [Int.tmod_eq_emod_of_nonneg (by omega)]; omega
        have hw0 : wrap64 ((1 : Int) + 1) = 2 := wrap64_of (by omega) (by omega)
        have e0 : ((2 : Int)).toNat = 2 := rfl
        have e1 : ((1 : Int)).toNat = 1 := rfl
        have hx1 : ((⟨#[32, 10]⟩ : ByteArray).extract 1 2).size = 1 := by rw [sz_list, ba_pat1]; rfl
        rw [ht, hw0, e0, e1, hx1, ba_size, if_pos (by omega), if_pos (by omega), if_pos (by omega), if_pos (by omega), ba_app _ _ _ _ (ba_mk _) ba_pat1]
        rw [ahead, if_neg (by omega)]
theorem blanks_j0 (s : ByteArray) (hs : s.size ≤ 1900) (y : Int) (h0 : 0 ≤ y) : Ev (fun k => weathercocklaw07_LexBlanks.j0 k s y true) true := by
  have hy : Int.tmod y 50 = ((y.toNat % 50 : Nat) : Int) := by rw [Int.tmod_eq_emod_of_nonneg h0]; omega
  refine Ev.steps 1 (f := fun k => weathercocklaw07_LexBlanks.l0 k s ((y.toNat % 50 : Nat) : Int) true ⟨(ahead 0).toArray⟩ ((0 : Nat) : Int)) (fun k => ?_) (blanks_l0 s _ rfl (by rw [← sz_list]; omega) (y.toNat % 50) (by omega) (y.toNat % 50) 0 (by omega) (by omega))
  rw [weathercocklaw07_LexBlanks.j0, hy]; rfl
theorem LexBlanks_true (s : ByteArray) (a : Int) (ha : -9223372036854775808 ≤ a ∧ a ≤ 9223372036854775807) : ∃ k, weathercocklaw07_LexBlanks.f k s a = some true := by
  by_cases h : (s.size : Int) > 1900
  · exact ⟨0, by unfold weathercocklaw07_LexBlanks.f; rw [ex_true, Option.bind_some, if_pos h]⟩
  · by_cases hn : a < 0
    · have e1 : wrap64 (-(wrap64 (a + 1))) = -(a + 1) := by rw [wrap64_of (x := a + 1) (by omega) (by omega), wrap64_of (by omega) (by omega)]
      obtain ⟨k, hk⟩ := (blanks_j0 s (by omega) (-(a + 1)) (by omega)).rounds
      exact ⟨k, by unfold weathercocklaw07_LexBlanks.f; rw [ex_true, Option.bind_some, if_neg h, if_pos hn, e1]; exact hk⟩
    · obtain ⟨k, hk⟩ := (blanks_j0 s (by omega) a (by omega)).rounds
      exact ⟨k, by unfold weathercocklaw07_LexBlanks.f; rw [ex_true, Option.bind_some, if_neg h, if_neg hn]; exact hk⟩
theorem in64_of {z : Int} (h : (Lit.int .i64 z).wf = true) : -9223372036854775808 ≤ z ∧ z ≤ 9223372036854775807 := by
  have := h
  simp only [Lit.wf] at this
  have h1 : IntKind.i64.min = -9223372036854775808 := by decide
  have h2 : IntKind.i64.max = 9223372036854775807 := by decide
  rw [h1, h2] at this
  simp at this
  exact ⟨by omega, by omega⟩
end Go.Proofs.YtniapbinamnmpaaDoor.L
