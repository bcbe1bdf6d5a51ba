/- Plain: LexTwo. -/
import Derived.Test.YtniapbinamnmpaaDoorLp2
import Derived.Test.YtniapbinamnmpaaDoorLp3
import Derived.Test.YtniapbinamnmpaaDoorLx13
namespace Go.Proofs.YtniapbinamnmpaaDoor.L
set_option linter.unusedSimpArgs false
set_option linter.unusedVariables false
open Go.RowKit Go.Proofs.YtniapbinamnmpaaDoorW.PrintWords Go.Proofs.YtniapbinamnmpaaDoorW.PrintLast Go.Proofs.YtniapbinamnmpaaDoorW.PrintMore

theorem quot_le : ∀ (r : List UInt8) (p : List UInt8 × Nat), quotL r = some p → p.2 ≤ r.length
  | [], p, h => by simp [quotL] at h
  | [c], p, h => by
    rw [quotL] at h
    split at h
    · cases h; simp
    · cases h
  | c :: d :: l, p, h => by
    rw [quotL] at h
    simp only [List.length_cons]
    split at h
    · split at h
      · obtain ⟨q, h1, h2⟩ := Option.map_eq_some_iff.1 h
        have := quot_le l q h1
        rw [← h2]; simp only; omega
      · cases h; simp only; omega
    · obtain ⟨q, h1, h2⟩ := Option.map_eq_some_iff.1 h
      have := quot_le (d :: l) q h1
      rw [← h2]; simp only [List.length_cons] at this ⊢; omega
theorem one_end {l : List UInt8} {i : Nat} {k n : Int} {t : List UInt8} {E : Nat} (h : oneL l i = .inr (k, n, t, E)) : E ≤ l.length := by
  unfold oneL at h
  split at h
  · cases h
  · rename_i c r hd
    have hlen := congrArg List.length hd
    rw [List.length_drop, List.length_cons] at hlen
    have hw := span_le wrdB (c :: r)
    have hg := span_le digB (c :: r)
    have hg2 := span_le digB r
    simp only [List.length_cons] at hw hg
    by_cases h1 : letB c = true
    · rw [if_pos h1] at h
      split at h
      · cases h
      · simp only [Sum.inr.injEq, Prod.mk.injEq] at h; omega
    · rw [if_neg h1] at h
      by_cases h2 : digB c = true
      · rw [if_pos h2] at h
        split at h
        · cases h
        · simp only [Sum.inr.injEq, Prod.mk.injEq] at h; omega
      · rw [if_neg h2] at h
        by_cases h3 : c = 39
        · rw [if_pos h3] at h
          split at h
          · cases h
          · rename_i p hp
            have := quot_le r p hp
            split at h
            · cases h
            · simp only [Sum.inr.injEq, Prod.mk.injEq] at h; omega
        · rw [if_neg h3] at h
          by_cases h4 : c = 36
          · rw [if_pos h4] at h
            split at h
            · cases h
            · split at h
              · cases h
              · split at h
                · cases h
                · simp only [Sum.inr.injEq, Prod.mk.injEq] at h; omega
          · rw [if_neg h4] at h
            split at h
            · rename_i g hg3
              have hp := List.find?_some hg3
              have := (List.isPrefixOf_iff_prefix.1 hp).length_le
              simp only [List.length_cons] at this
              simp only [Sum.inr.injEq, Prod.mk.injEq] at h; omega
            · cases h
theorem lexGo_le (l : List UInt8) : ∀ (k : Nat) (acc : List Tk) (i : Nat) (r : List Tk) (e p : Int), acc.length ≤ 400 → lexGo k l acc i = (r, e, p) → r.length ≤ 400
  | 0, acc, i, r, e, p, ha, h => by cases h; exact ha
  | k + 1, acc, i, r, e, p, ha, h => by
    cases hc : l[i]? with
    | none => rw [lexGo_end _ _ (List.getElem?_eq_none_iff.1 hc)] at h; cases h; exact ha
    | some c =>
      by_cases hb : blankB c = true
      · rw [lexGo_blank hc hb] at h
        exact lexGo_le l k acc (i + 1) r e p ha h
      · replace hb : blankB c = false := by simpa using hb
        cases ho : oneL l i with
        | inl q => rw [lexGo_inl hc hb ho] at h; cases h; simp
        | inr q =>
          rw [lexGo_inr hc hb ho] at h
          by_cases h4 : acc.length = 400
          · rw [if_pos h4] at h; cases h; simp
          · rw [if_neg h4] at h
            exact lexGo_le l k _ _ r e p (by simp; omega) h
theorem two_first (l x : List UInt8) : ∀ (k : Nat) (acc : List Tk) (i : Nat) (r : List Tk) (p : Int) (K : Nat), i ≤ l.length → l.length < i + k → (l ++ 32 :: x).length < i + K → lexGo k l acc i = (r, 0, p) →
    ∃ K', (l ++ 32 :: x).length < l.length + 1 + K' ∧ lexGo K (l ++ 32 :: x) acc i = lexGo K' (l ++ 32 :: x) r (l.length + 1) := by
  have hx : Behind (32 :: x) := .inr ⟨32, x, rfl, by decide⟩
  have hlen : (l ++ 32 :: x).length = l.length + (x.length + 1) := by simp
  intro k
  induction k with
  | zero => intro acc i r p K hi hk; omega
  | succ k ih =>
    intro acc i r p K hi hk hK h
    obtain ⟨K, rfl⟩ : ∃ j, K = j + 1 := ⟨K - 1, by omega⟩
    cases hc : l[i]? with
    | none =>
      have hil := List.getElem?_eq_none_iff.1 hc
      obtain rfl : i = l.length := by omega
      rw [lexGo_end _ _ hil] at h
      cases h
      refine ⟨K, by omega, lexGo_blank ?_ (show blankB 32 = true by decide)⟩
      rw [List.getElem?_append_right (by omega)]; simp
    | some c =>
      have hil := (List.getElem?_eq_some_iff.1 hc).1
      have hg : (l ++ 32 :: x)[i]? = some c := by rw [List.getElem?_append_left hil, hc]
      by_cases hb : blankB c = true
      · rw [lexGo_blank hc hb] at h
        rw [lexGo_blank hg hb]
        exact ih acc (i + 1) r p K (by omega) (by omega) (by omega) h
      · replace hb : blankB c = false := by simpa using hb
        have hr := one_right l i
        cases ho : oneL l i with
        | inl q =>
          obtain ⟨e', pl⟩ := q
          rw [ho] at hr
          rw [lexGo_inl hc hb ho] at h
          simp only [Prod.mk.injEq] at h
          have hr' : e' = 5 ∨ e' = 6 := hr
          omega
        | inr q =>
          obtain ⟨kd, n, t, E⟩ := q
          rw [ho] at hr
          have hE : i < E := hr
          have hE2 := one_end ho
          have h1 := one_in_r (pre := []) hx hc ho
          simp only [List.nil_append, List.length_nil, Nat.zero_add, Nat.add_zero] at h1
          rw [lexGo_inr hc hb ho] at h
          rw [lexGo_inr hg hb h1]
          by_cases h4 : acc.length = 400
          · rw [if_pos h4] at h
            simp only [Prod.mk.injEq] at h
            omega
          · rw [if_neg h4] at h ⊢
            exact ih _ E r p K hE2 (by omega) (by omega) h
theorem two_second (pre l : List UInt8) : ∀ (k : Nat) (acc2 : List Tk) (i : Nat) (r : List Tk) (p : Int), l.length < i + k → lexGo k l acc2 i = (r, 0, p) →
    ∃ ts, r = acc2 ++ ts ∧ ∀ (acc : List Tk) (K : Nat), acc.length ≤ 400 → (pre ++ l).length < pre.length + i + K → ∃ p', lexGo K (pre ++ l) acc (pre.length + i) = if acc.length + ts.length ≤ 400 then (acc ++ ts.map (sh pre.length), 0, 0) else ([], 5, p') := by
  have hlen : (pre ++ l).length = pre.length + l.length := by simp
  have hend : ∀ (i : Nat), l.length ≤ i → ∀ (acc : List Tk) (K : Nat), acc.length ≤ 400 → ∃ p' : Int, lexGo K (pre ++ l) acc (pre.length + i) = if acc.length + ([] : List Tk).length ≤ 400 then (acc ++ ([] : List Tk).map (sh pre.length), 0, 0) else ([], 5, p') := by
    intro i hi acc K ha
    refine ⟨0, ?_⟩
    rw [lexGo_end _ _ (by omega), if_pos (by simpa using ha)]; simp
  intro k
  induction k with
  | zero =>
    intro acc2 i r p hk h
    cases h
    exact ⟨[], by simp, fun acc K ha _ => hend i (by omega) acc K ha⟩
  | succ k ih =>
    intro acc2 i r p hk h
    cases hc : l[i]? with
    | none =>
      have hil := List.getElem?_eq_none_iff.1 hc
      rw [lexGo_end _ _ hil] at h
      cases h
      exact ⟨[], by simp, fun acc K ha _ => hend i hil acc K ha⟩
    | some c =>
      have hil := (List.getElem?_eq_some_iff.1 hc).1
      have hg := big_get pre l [] i c hc
      rw [List.append_nil] at hg
      by_cases hb : blankB c = true
      · rw [lexGo_blank hc hb] at h
        obtain ⟨ts, h1, h2⟩ := ih acc2 (i + 1) r p (by omega) h
        refine ⟨ts, h1, fun acc K ha hK => ?_⟩
        obtain ⟨K, rfl⟩ : ∃ j, K = j + 1 := ⟨K - 1, by omega⟩
        rw [lexGo_blank hg hb]
        exact h2 acc K ha (by omega)
      · replace hb : blankB c = false := by simpa using hb
        have hr := one_right l i
        cases ho : oneL l i with
        | inl q =>
          obtain ⟨e', pl⟩ := q
          rw [ho] at hr
          rw [lexGo_inl hc hb ho] at h
          simp only [Prod.mk.injEq] at h
          have hr' : e' = 5 ∨ e' = 6 := hr
          omega
        | inr q =>
          obtain ⟨kd, n, t, E⟩ := q
          rw [ho] at hr
          have hE : i < E := hr
          have g1 := one_in_r (pre := pre) (x := []) (.inl rfl) hc ho
          rw [List.append_nil] at g1
          rw [lexGo_inr hc hb ho] at h
          by_cases h4 : acc2.length = 400
          · rw [if_pos h4] at h
            simp only [Prod.mk.injEq] at h
            omega
          · rw [if_neg h4] at h
            obtain ⟨ts, h1, h2⟩ := ih _ E r p (by omega) h
            refine ⟨(⟨kd, n, (i : Int), ⟨t.toArray⟩⟩ : Tk) :: ts, by rw [h1, List.append_assoc]; rfl, fun acc K ha hK => ?_⟩
            obtain ⟨K, rfl⟩ : ∃ j, K = j + 1 := ⟨K - 1, by omega⟩
            rw [lexGo_inr hg hb g1]
            by_cases h5 : acc.length = 400
            · rw [if_pos h5]
              exact ⟨_, by rw [if_neg (by simp only [List.length_cons]; omega)]⟩
            · rw [if_neg h5, Nat.add_comm E]
              obtain ⟨p', h6⟩ := h2 (acc ++ [⟨kd, n, ((pre.length + i : Nat) : Int), ⟨t.toArray⟩⟩]) K (by simp; omega) (by omega)
              refine ⟨p', ?_⟩
              rw [h6]
              have e1 : ((pre.length + i : Nat) : Int) = (i : Int) + (pre.length : Nat) := by omega
              by_cases h7 : acc.length + (ts.length + 1) ≤ 400
              · rw [if_pos (by simp; omega), if_pos (by simp only [List.length_cons]; omega), e1, List.append_assoc]; rfl
              · rw [if_neg (by simp; omega), if_neg (by simp only [List.length_cons]; omega)]
theorem lexL_two (s t : ByteArray) (ls lt : List UInt8) (hs : s.data.toList = ls) (ht : t.data.toList = lt) (h1 : ls.length ≤ 900) (h2 : lt.length ≤ 900) (a b : List Tk) (p q : Int) (ha : lexL s = (a, 0, p)) (hb : lexL t = (b, 0, q)) :
    a.length ≤ 400 ∧ ∃ p', lexL ⟨(ls ++ 32 :: lt).toArray⟩ = if a.length + b.length ≤ 400 then (a ++ b.map (sh (ls.length + 1)), 0, 0) else ([], 5, p') := by
  have hlen : (ls ++ 32 :: lt).length = ls.length + (lt.length + 1) := by simp
  rw [ba_eta s ls hs, lexL_mk ls (by omega)] at ha
  rw [ba_eta t lt ht, lexL_mk lt (by omega)] at hb
  have hal := lexGo_le _ _ _ _ _ _ _ (by simp) ha
  rw [lexL_mk _ (by omega)]
  obtain ⟨K', g1, g2⟩ := two_first ls lt _ _ 0 _ _ ((ls ++ 32 :: lt).length + 1) (Nat.zero_le _) (by omega) (by omega) ha
  obtain ⟨ts, g3, g4⟩ := two_second (ls ++ [32]) lt _ _ 0 _ _ (by omega) hb
  obtain rfl : b = ts := by rw [g3]; rfl
  have e1 : ls ++ [32] ++ lt = ls ++ 32 :: lt := by simp
  have e2 : (ls ++ [32]).length = ls.length + 1 := by simp
  rw [e1, e2] at g4
  obtain ⟨p', g5⟩ := g4 a K' hal (by omega)
  exact ⟨hal, p', by rw [g2]; exact g5⟩
theorem two_l0 (s : ByteArray) (lt : List UInt8) (h2 : lt.length ≤ 900) (m : Nat) (hm : s.size = m) (hm9 : m ≤ 900) (a b : List Tk) (hT : Toks lt 0 b) (hab : a.length + b.length ≤ 400) :
    ∀ (d n : Nat), a.length + b.length - n ≤ d → n ≤ a.length + b.length → Ev (fun k => weathercocklaw07_LexTwo.l0 k s true a b (a ++ b.map (sh (m + 1))) (n : Int)) true := by
  have hlen : (a ++ b.map (sh (m + 1))).length = a.length + b.length := by simp
  have hend : ∀ n, n = a.length + b.length → Ev (fun k => weathercocklaw07_LexTwo.l0 k s true a b (a ++ b.map (sh (m + 1))) (n : Int)) true := fun n hn => by
    refine Ev.const 1 (fun k => ?_)
    rw [weathercocklaw07_LexTwo.l0, if_neg (by omega)]
  intro d
  induction d with
  | zero => intro n hd hn; exact hend n (by omega)
  | succ d ih =>
    intro n hd hn
    by_cases hnl : n = a.length + b.length
    · exact hend n hnl
    · have HW : Hid (wrap64 ((n : Int) + 1) = ((n + 1 : Nat) : Int)) := Lib.hid (wrap64_of (by omega) (by omega))
      refine Ev.steps 2 (f := fun k => weathercocklaw07_LexTwo.l0 k s true a b (a ++ b.map (sh (m + 1))) ((n + 1 : Nat) : Int)) (fun k => ?_) (ih (n + 1) (by omega) (by omega))
      by_cases hna : n < a.length
      · obtain ⟨t, ht⟩ : ∃ t, a[n]? = some t := ⟨_, List.getElem?_eq_getElem hna⟩
        have hr := rd_at ht
        have hr2 : rd_T32 (a ++ b.map (sh (m + 1))) (n : Int) = t := rd_at (by rw [List.getElem?_append_left hna, ht])
        rw [weathercocklaw07_LexTwo.l0, if_pos (by omega), if_pos (by omega), if_pos (by omega), hr, hr2]
        rw [weathercocklaw07_LexTwo.j4, if_neg (by simp), if_neg (by omega), HW.out]
      · have hnb : n - a.length < b.length := by omega
        obtain ⟨t, ht⟩ : ∃ t, b[n - a.length]? = some t := ⟨_, List.getElem?_eq_getElem hnb⟩
        obtain ⟨x, c, g1, g2, g3, g4⟩ := toks_at hT _ t ht
        have hxl := (List.getElem?_eq_some_iff.1 g3).1
        have hr := rd_at ht
        have hr2 : rd_T32 (a ++ b.map (sh (m + 1))) (n : Int) = sh (m + 1) t := rd_at (by rw [List.getElem?_append_right (by omega), List.getElem?_map, ht]; rfl)
        have HW2 : Hid (wrap64 ((n : Int) - (a.length : Int)) = ((n - a.length : Nat) : Int)) := Lib.hid (by rw [wrap64_of (by omega) (by omega)]; omega)
        have e1 : (sh (m + 1) t).f2 = (x : Int) + ((m + 1 : Nat) : Int) := by rw [sh, g1]
        have HW3 : Hid (wrap64 ((sh (m + 1) t).f2 - (s.size : Int)) = (x : Int) + 1) := Lib.hid (by rw [e1, wrap64_of (by omega) (by omega)]; omega)
        have HW4 : Hid (wrap64 ((x : Int) + 1 - 1) = (x : Int)) := Lib.hid (by rw [wrap64_of (by omega) (by omega)]; omega)
        rw [weathercocklaw07_LexTwo.l0, if_pos (by omega), if_pos (by omega), if_neg (by omega), hr2]
        rw [weathercocklaw07_LexTwo.j4, if_neg (by decide), if_pos (by omega), HW2.out, if_pos (by omega), if_pos (by omega), hr, HW3.out, HW4.out, g1, if_neg (by simp [sh]), HW.out]
theorem LexTwo_true (s t : ByteArray) : ∃ k, weathercocklaw07_LexTwo.f k s t = some true := by
  have hj0 : ∀ k, weathercocklaw07_LexTwo.j0 (k + 1) s t true true = some true := fun k => by rw [weathercocklaw07_LexTwo.j0, if_pos rfl]
  by_cases h1 : (s.size : Int) > 900
  · exact ⟨1, by unfold weathercocklaw07_LexTwo.f; rw [ex_true, Option.bind_some, if_pos h1]; exact hj0 0⟩
  by_cases h2 : (t.size : Int) > 900
  · exact ⟨1, by unfold weathercocklaw07_LexTwo.f; rw [ex_true, Option.bind_some, if_neg h1, decide_eq_true h2]; exact hj0 0⟩
  obtain ⟨a, e, p, hA, a0, a1⟩ := lexL_some s
  obtain ⟨b, f, q, hB, b0, b1⟩ := lexL_some t
  obtain ⟨⟨cc, g, p3⟩, hC⟩ : ∃ y, lexL ((s ++ (⟨#[32]⟩ : ByteArray)) ++ t) = y := ⟨_, rfl⟩
  have hfa : lex_Lex.f s = some (a, e, p) := by rw [← hA]; rfl
  have hfb : lex_Lex.f t = some (b, f, q) := by rw [← hB]; rfl
  have hfc : lex_Lex.f ((s ++ (⟨#[32]⟩ : ByteArray)) ++ t) = some (cc, g, p3) := by rw [← hC]; rfl
  have hsz : (s ++ (⟨#[32]⟩ : ByteArray)).size = s.size + 1 := by rw [ByteArray.size_append]; rfl
  have hst : ∀ k, weathercocklaw07_LexTwo.j0 (k + 1) s t true false = (if e = 0 then weathercocklaw07_LexTwo.j1 k s true a e b cc g (f != 0) else weathercocklaw07_LexTwo.j1 k s true a e b cc g true) := fun k => by
    rw [weathercocklaw07_LexTwo.j0, if_neg (by decide), hfa, Option.bind_some, hfb, Option.bind_some, if_pos (by omega), hsz, if_pos (by omega), hfc, Option.bind_some]
  have hgo : ∀ k, weathercocklaw07_LexTwo.j0 k s t true false = some true → ∃ k, weathercocklaw07_LexTwo.f k s t = some true := fun k hk => ⟨k, by unfold weathercocklaw07_LexTwo.f; rw [ex_true, Option.bind_some, if_neg h1, decide_eq_false h2]; exact hk⟩
  by_cases he : e = 0
  · by_cases hf : f = 0
    · subst he; subst hf
      obtain ⟨_, _, hT⟩ := b0 rfl
      have hs2 := sz_list s
      have ht2 := sz_list t
      obtain ⟨hal, p', hL⟩ := lexL_two s t _ _ rfl rfl (by omega) (by omega) a b p q hA hB
      have hx : (s ++ (⟨#[32]⟩ : ByteArray)) ++ t = ⟨(s.data.toList ++ 32 :: t.data.toList).toArray⟩ := by
        rw [ba_app _ _ _ _ rfl (ba_mk [32]), ba_app _ _ _ _ (ba_mk _) rfl, List.append_assoc]; rfl
      rw [hx, hL] at hC
      have hbl : b.length ≤ 400 := by
        have hB2 := hB
        rw [ba_eta t _ rfl, lexL_mk _ (by omega)] at hB2
        exact lexGo_le _ _ _ _ _ _ _ (by simp) hB2
      have hw : wrap64 ((a.length : Int) + (b.length : Int)) = (a.length : Int) + (b.length : Int) := wrap64_of (by omega) (by omega)
      by_cases h4 : a.length + b.length ≤ 400
      · rw [if_pos h4] at hC
        cases hC
        obtain ⟨k, hk⟩ := (two_l0 s _ (by omega) s.data.toList.length hs2 (by omega) a b hT h4 (a.length + b.length) 0 (by omega) (by omega)).rounds
        refine hgo (k + 3) ?_
        rw [hst, if_pos rfl, weathercocklaw07_LexTwo.j1, if_neg (by decide), hw, if_neg (by omega), if_pos rfl, weathercocklaw07_LexTwo.j2]
        rw [if_neg (by rw [List.length_append, List.length_map]; simp)]
        exact hk
      · rw [if_neg h4] at hC
        cases hC
        refine hgo 2 ?_
        rw [hst, if_pos rfl, weathercocklaw07_LexTwo.j1, if_neg (by decide), hw, if_pos (by omega), if_pos rfl]; rfl
    · refine hgo 2 ?_
      have hb : (f != 0) = true := bne_iff_ne.mpr hf
      rw [hst, if_pos he, hb, weathercocklaw07_LexTwo.j1, if_pos rfl, if_pos rfl, if_pos he]
  · have hpos : (s.size : Int) > 0 := by
      by_cases h0 : s.size = 0
      · have hs2 := sz_list s
        have hn : s.data.toList = [] := List.length_eq_zero_iff.1 (by omega)
        have : lexL s = ([], 0, 0) := by rw [ba_eta s _ hn]; rfl
        rw [this] at hA
        cases hA; exact absurd rfl he
      · omega
    refine hgo 2 ?_
    rw [hst, if_neg he, weathercocklaw07_LexTwo.j1, if_pos rfl, if_pos rfl, if_neg he]
    by_cases hg : g = 0
    · rw [if_pos hg, decide_eq_true hpos]
    · rw [if_neg hg]
end Go.Proofs.YtniapbinamnmpaaDoor.L
