/- Plain: LexPlaces. -/
import Derived.Test.YtniapbinamnmpaaDoorLp0
import Derived.Test.YtniapbinamnmpaaDoorLx10
namespace Go.Proofs.YtniapbinamnmpaaDoor.L
set_option linter.unusedSimpArgs false
set_option linter.unusedVariables false
open Go.RowKit Go.Proofs.YtniapbinamnmpaaDoorW.PrintWords Go.Proofs.YtniapbinamnmpaaDoorW.PrintLast Go.Proofs.YtniapbinamnmpaaDoorW.PrintMore

theorem one_place (l : List UInt8) (i : Nat) (e p : Int) (h : oneL l i = .inl (e, p)) : p = i ∨ p = l.length := by
  unfold oneL at h
  split at h
  · cases h; exact .inl rfl
  · rename_i c r hd
    by_cases h1 : letB c = true
    · rw [if_pos h1] at h
      split at h
      · cases h; exact .inl rfl
      · cases h
    · rw [if_neg h1] at h
      by_cases h2 : digB c = true
      · rw [if_pos h2] at h
        split at h
        · cases h; exact .inl rfl
        · cases h
      · rw [if_neg h2] at h
        by_cases h3 : c = 39
        · rw [if_pos h3] at h
          split at h
          · cases h; exact .inr rfl
          · split at h
            · cases h; exact .inl rfl
            · cases h
        · rw [if_neg h3] at h
          by_cases h4 : c = 36
          · rw [if_pos h4] at h
            split at h
            · cases h; exact .inl rfl
            · split at h
              · cases h; exact .inl rfl
              · split at h
                · cases h; exact .inl rfl
                · cases h
          · rw [if_neg h4] at h
            split at h
            · cases h
            · cases h; exact .inl rfl
/-- Tokens from a place on: each at the first byte that is no blank. -/
def Toks (l : List UInt8) : Nat → List Tk → Prop
  | i, [] => ∀ (j : Nat) (c : UInt8), i ≤ j → l[j]? = some c → blankB c = true
  | i, t :: ts => ∃ (a E : Nat) (c : UInt8), t.f2 = (a : Int) ∧ i ≤ a ∧ l[a]? = some c ∧ blankB c = false ∧ (∀ (j : Nat) (d : UInt8), i ≤ j → j < a → l[j]? = some d → blankB d = true) ∧ a < E ∧ Toks l E ts
theorem toks_blank {l : List UInt8} {i : Nat} {c : UInt8} (h : l[i]? = some c) (hb : blankB c = true) : ∀ {ts : List Tk}, Toks l (i + 1) ts → Toks l i ts
  | [], ht => fun j d hj hd => by
    by_cases hji : j = i
    · subst hji; rw [h] at hd; cases hd; exact hb
    · exact ht j d (by omega) hd
  | t :: ts, ⟨a, E, e, h1, h2, h3, h4, h5, h6, h7⟩ => ⟨a, E, e, h1, by omega, h3, h4, fun j d hj hja hd => by
    by_cases hji : j = i
    · subst hji; rw [h] at hd; cases hd; exact hb
    · exact h5 j d (by omega) hja hd, h6, h7⟩
theorem lexGo_toks (l : List UInt8) : ∀ (k : Nat) (acc : List Tk) (i : Nat) (r : List Tk) (p : Int), l.length < i + k → lexGo k l acc i = (r, 0, p) → ∃ ts, r = acc ++ ts ∧ Toks l i ts
  | 0, acc, i, r, p, hk, h => by
    cases h
    refine ⟨[], by simp, fun j c hj hc => ?_⟩
    have := (List.getElem?_eq_some_iff.1 hc).1; omega
  | k + 1, acc, i, r, p, hk, h => by
    cases hc : l[i]? with
    | none =>
      rw [lexGo_end _ _ (List.getElem?_eq_none_iff.1 hc)] at h
      cases h
      refine ⟨[], by simp, fun j c hj hc2 => ?_⟩
      have := (List.getElem?_eq_some_iff.1 hc2).1
      have := List.getElem?_eq_none_iff.1 hc; omega
    | some c =>
      by_cases hb : blankB c = true
      · rw [lexGo_blank hc hb] at h
        obtain ⟨ts, h1, h2⟩ := lexGo_toks l k acc (i + 1) r p (by omega) h
        exact ⟨ts, h1, toks_blank hc hb h2⟩
      · replace hb : blankB c = false := by simpa using hb
        have hr := one_right l i
        cases ho : oneL l i with
        | inl q =>
          obtain ⟨e, pl⟩ := q
          rw [ho] at hr
          rw [lexGo_inl hc hb ho] at h
          simp only [Prod.mk.injEq] at h
          have hr' : e = 5 ∨ e = 6 := hr
          omega
        | inr q =>
          obtain ⟨kd, n, x, E⟩ := q
          rw [ho] at hr
          have hE : i < E := hr
          rw [lexGo_inr hc hb ho] at h
          by_cases h4 : acc.length = 400
          · rw [if_pos h4] at h
            simp only [Prod.mk.injEq] at h
            omega
          · rw [if_neg h4] at h
            obtain ⟨ts, h1, h2⟩ := lexGo_toks l k _ E r p (by omega) h
            refine ⟨(⟨kd, n, (i : Int), ⟨x.toArray⟩⟩ : Tk) :: ts, ?_, i, E, c, rfl, Nat.le_refl _, hc, hb, fun j d h3 h4 => by omega, hE, h2⟩
            rw [h1, List.append_assoc]; rfl
theorem lexGo_err (l : List UInt8) : ∀ (k : Nat) (acc : List Tk) (i : Nat) (r : List Tk) (e p : Int), lexGo k l acc i = (r, e, p) → e ≠ 0 → r = [] ∧ (e = 5 ∨ e = 6) ∧ 0 ≤ p ∧ p ≤ l.length
  | 0, acc, i, r, e, p, h, he => by cases h; exact absurd rfl he
  | k + 1, acc, i, r, e, p, h, he => by
    cases hc : l[i]? with
    | none =>
      rw [lexGo_end _ _ (List.getElem?_eq_none_iff.1 hc)] at h
      cases h; exact absurd rfl he
    | some c =>
      have hi := (List.getElem?_eq_some_iff.1 hc).1
      by_cases hb : blankB c = true
      · rw [lexGo_blank hc hb] at h
        exact lexGo_err l k acc (i + 1) r e p h he
      · replace hb : blankB c = false := by simpa using hb
        have hr := one_right l i
        cases ho : oneL l i with
        | inl q =>
          obtain ⟨e', pl⟩ := q
          rw [ho] at hr
          have hp := one_place l i e' pl ho
          rw [lexGo_inl hc hb ho] at h
          cases h
          exact ⟨rfl, hr, by omega, by omega⟩
        | inr q =>
          obtain ⟨kd, n, x, E⟩ := q
          rw [lexGo_inr hc hb ho] at h
          by_cases h4 : acc.length = 400
          · rw [if_pos h4] at h
            cases h
            exact ⟨rfl, .inl rfl, by omega, by omega⟩
          · rw [if_neg h4] at h
            exact lexGo_err l k _ E r e p h he
theorem toks_at {l : List UInt8} : ∀ {ts : List Tk} {i : Nat}, Toks l i ts → ∀ (n : Nat) (t : Tk), ts[n]? = some t → ∃ (a : Nat) (c : UInt8), t.f2 = (a : Int) ∧ i ≤ a ∧ l[a]? = some c ∧ blankB c = false
  | [], _, _, n, t, h => by simp at h
  | u :: ts, i, ⟨a, E, c, h1, h2, h3, h4, h5, h6, h7⟩, 0, t, h => by cases h; exact ⟨a, c, h1, h2, h3, h4⟩
  | u :: ts, i, ⟨a, E, c, h1, h2, h3, h4, h5, h6, h7⟩, n + 1, t, h => by
    obtain ⟨b, d, e1, e2, e3⟩ := toks_at h7 n t h
    exact ⟨b, d, e1, by omega, e3⟩
theorem toks_lt {l : List UInt8} : ∀ {ts : List Tk} {i : Nat}, Toks l i ts → ∀ (n : Nat) (t u : Tk), ts[n]? = some t → ts[n + 1]? = some u → t.f2 < u.f2
  | [], _, _, n, t, u, h, _ => by simp at h
  | v :: ts, i, ⟨a, E, c, h1, h2, h3, h4, h5, h6, h7⟩, 0, t, u, h, g => by
    cases h
    obtain ⟨b, d, e1, e2, e3⟩ := toks_at h7 0 u g
    omega
  | v :: ts, i, ⟨a, E, c, h1, h2, h3, h4, h5, h6, h7⟩, n + 1, t, u, h, g => toks_lt h7 n t u h g
theorem bt_get (s : ByteArray) (l : List UInt8) (hl : s.data.toList = l) (a : Nat) (c : UInt8) (h : l[a]? = some c) : bt s (a : Int) = (c.toNat : Int) := by
  obtain ⟨h1, h2⟩ := List.getElem?_eq_some_iff.1 h
  refine bt_list s l hl a c (l.drop (a + 1)) ?_
  rw [List.drop_eq_getElem_cons h1, h2]
theorem blank_iff {c : UInt8} : blankB c = false → ¬ (c.toNat : Int) = 32 ∧ ¬ (c.toNat : Int) = 9 ∧ ¬ (c.toNat : Int) = 10 ∧ ¬ (c.toNat : Int) = 13 := by
  intro h
  unfold blankB at h
  simp only [Bool.or_eq_false_iff, beq_eq_false_iff_ne] at h
  exact ⟨u8_ne (n := 32) h.1 (by decide), u8_ne (n := 9) h.2.1 (by decide), u8_ne (n := 10) h.2.2.1 (by decide), u8_ne (n := 13) h.2.2.2 (by decide)⟩
theorem blank_of {c : UInt8} : blankB c = true → (c.toNat : Int) = 32 ∨ (c.toNat : Int) = 9 ∨ (c.toNat : Int) = 10 ∨ (c.toNat : Int) = 13 := by
  intro h
  unfold blankB at h
  simp only [Bool.or_eq_true, beq_iff_eq] at h
  rcases h with h | h | h | h <;> subst h <;> decide
theorem rd_at {ts : List Tk} {n : Nat} {t : Tk} (h : ts[n]? = some t) : rd_T32 ts (n : Int) = t := by
  unfold rd_T32
  rw [List.getD_eq_getElem?_getD]
  have : ((n : Int)).toNat = n := by omega
  rw [this, h]; rfl

/-- The first place that is no blank. -/
def FirstAt (l : List UInt8) (ts : List Tk) (F : Nat) : Prop := F ≤ l.length ∧ (∀ (j : Nat) (d : UInt8), j < F → l[j]? = some d → blankB d = true) ∧ ((ts = [] ∧ F = l.length) ∨ (∃ t c, ts[0]? = some t ∧ t.f2 = (F : Int) ∧ l[F]? = some c ∧ blankB c = false))
theorem first_of {l : List UInt8} : ∀ {ts : List Tk}, Toks l 0 ts → ∃ F, FirstAt l ts F
  | [], h => ⟨l.length, Nat.le_refl _, fun j d _ hd => h j d (Nat.zero_le _) hd, .inl ⟨rfl, rfl⟩⟩
  | t :: ts, ⟨a, E, c, h1, h2, h3, h4, h5, h6, h7⟩ => ⟨a, by have := (List.getElem?_eq_some_iff.1 h3).1; omega, fun j d hj hd => h5 j d (Nat.zero_le _) hj hd, .inr ⟨t, c, rfl, h1, h3, h4⟩⟩

theorem places_l1 (s : ByteArray) (l : List UInt8) (hl : s.data.toList = l) (hs : l.length ≤ 100000) (ts : List Tk) (F : Nat) (hF : FirstAt l ts F) : ∀ (d j : Nat), F - j ≤ d → j ≤ F →
    Ev (fun k => weathercocklaw07_LexPlaces.l1 k s true ts (j : Int)) true := by
  have hsz : s.size = l.length := by rw [sz_list, hl]
  obtain ⟨hF1, hF2, hF3⟩ := hF
  have hend : Ev (fun k => weathercocklaw07_LexPlaces.l1 k s true ts (F : Int)) true := by
    refine Ev.const 1 (fun k => ?_)
    rcases hF3 with ⟨rfl, h2⟩ | ⟨t, c, h1, h2, h3, h4⟩
    · rw [weathercocklaw07_LexPlaces.l1, if_neg (by omega), if_pos rfl, if_pos (by simp [hsz, h2])]; rfl
    · have hlt := (List.getElem?_eq_some_iff.1 h3).1
      have hb := bt_get s l hl F c h3
      obtain ⟨n1, n2, n3, n4⟩ := blank_iff h4
      have hr := rd_at h1
      have hln := (List.getElem?_eq_some_iff.1 h1).1
      rw [weathercocklaw07_LexPlaces.l1, if_pos (by omega), if_pos (by omega), hb, if_neg n1, if_neg n2, if_neg n3, if_neg n4, if_pos rfl]
      have e1 : ((ts.length : Int) == 0) = false := beq_eq_false_iff_ne.mpr (by omega)
      have e2 : ((F : Int) == (s.size : Int)) = false := beq_eq_false_iff_ne.mpr (by omega)
      rw [e1, e2, if_pos (by decide), if_neg (by omega), if_pos (by omega)]
      have e3 : (rd_T32 ts 0).f2 = (F : Int) := by
        have : rd_T32 ts 0 = t := hr
        rw [this, h2]
      rw [e3, beq_self_eq_true]
  intro d
  induction d with
  | zero =>
    intro j hd hj
    obtain rfl : j = F := by omega
    exact hend
  | succ d ih =>
    intro j hd hj
    by_cases hjF : j = F
    · subst hjF; exact hend
    · have hjl : j < l.length := by omega
      obtain ⟨c, hc⟩ : ∃ c, l[j]? = some c := ⟨_, List.getElem?_eq_getElem hjl⟩
      have hb := bt_get s l hl j c hc
      have HW : Hid (wrap64 ((j : Int) + 1) = ((j + 1 : Nat) : Int)) := Lib.hid (wrap64_of (by omega) (by omega))
      refine Ev.steps 1 (f := fun k => weathercocklaw07_LexPlaces.l1 k s true ts ((j + 1 : Nat) : Int)) (fun k => ?_) (ih (j + 1) (by omega) (by omega))
      rw [weathercocklaw07_LexPlaces.l1, if_pos (by omega), if_pos (by omega), hb, HW.out]
      rcases blank_of (hF2 j c (by omega) hc) with h | h | h | h
      · rw [if_pos h]
      · rw [if_neg (by omega), if_pos h]
      · rw [if_neg (by omega), if_neg (by omega), if_pos h]
      · rw [if_neg (by omega), if_neg (by omega), if_neg (by omega), if_pos h]

theorem places_l0 (s : ByteArray) (l : List UInt8) (hl : s.data.toList = l) (hs : l.length ≤ 100000) (ts : List Tk) (hT : Toks l 0 ts) (hts : ts.length ≤ 100000) : ∀ (d n : Nat) (last : Int), ts.length - n ≤ d → n ≤ ts.length → (∀ t, ts[n]? = some t → last ≤ t.f2) →
    Ev (fun k => weathercocklaw07_LexPlaces.l0 k s true ts last (n : Int)) true := by
  have hsz : s.size = l.length := by rw [sz_list, hl]
  obtain ⟨F, hF⟩ := first_of hT
  have hend : ∀ last, Ev (fun k => weathercocklaw07_LexPlaces.l0 k s true ts last (ts.length : Int)) true := fun last => by
    refine Ev.steps 1 (f := fun k => weathercocklaw07_LexPlaces.l1 k s true ts ((0 : Nat) : Int)) (fun k => ?_) (places_l1 s l hl hs ts F hF F 0 (by omega) (by omega))
    rw [weathercocklaw07_LexPlaces.l0, if_neg (by omega)]; rfl
  intro d
  induction d with
  | zero =>
    intro n last hd hn _
    obtain rfl : n = ts.length := by omega
    exact hend last
  | succ d ih =>
    intro n last hd hn hlast
    by_cases hnl : n = ts.length
    · subst hnl; exact hend last
    · have hlt : n < ts.length := by omega
      obtain ⟨t, ht⟩ : ∃ t, ts[n]? = some t := ⟨_, List.getElem?_eq_getElem hlt⟩
      obtain ⟨a, c, h1, h2, h3, h4⟩ := toks_at hT n t ht
      have hal := (List.getElem?_eq_some_iff.1 h3).1
      have hr := rd_at ht
      have hb := bt_get s l hl a c h3
      obtain ⟨n1, n2, n3, n4⟩ := blank_iff h4
      have hla := hlast t ht
      have HW : Hid (wrap64 ((n : Int) + 1) = ((n + 1 : Nat) : Int)) := Lib.hid (wrap64_of (by omega) (by omega))
      refine Ev.steps 3 (f := fun k => weathercocklaw07_LexPlaces.l0 k s true ts t.f2 ((n + 1 : Nat) : Int)) (fun k => ?_) (ih (n + 1) t.f2 (by omega) (by omega) (fun u hu => by have := toks_lt hT n t u ht hu; omega))
      rw [weathercocklaw07_LexPlaces.l0, if_pos (by omega), if_pos (by omega), hr, if_neg (by omega)]
      have e1 : decide (t.f2 ≥ (s.size : Int)) = false := decide_eq_false (by omega)
      rw [e1, weathercocklaw07_LexPlaces.j1, if_neg (by decide)]
      have hj2 : ∀ b, b = false → weathercocklaw07_LexPlaces.j2 (k + 1) s true ts (n : Int) b = weathercocklaw07_LexPlaces.l0 k s true ts t.f2 ((n + 1 : Nat) : Int) := by
        rintro b rfl
        rw [weathercocklaw07_LexPlaces.j2, if_neg (by decide), if_pos (by omega), if_pos (by omega), hr, h1, if_pos (by omega), if_pos (by omega), hb, if_neg n1, if_neg n2, if_neg n3, if_neg n4, HW.out]
      by_cases h0 : n = 0
      · rw [if_neg (by omega)]
        exact hj2 _ rfl
      · have HW2 : Hid (wrap64 ((n : Int) - 1) = ((n - 1 : Nat) : Int)) := Lib.hid (by rw [wrap64_of (by omega) (by omega)]; omega)
        obtain ⟨u, hu⟩ : ∃ u, ts[n - 1]? = some u := ⟨_, List.getElem?_eq_getElem (by omega)⟩
        have hru := rd_at hu
        have hlt2 := toks_lt hT (n - 1) u t hu (by rw [Nat.sub_add_cancel (by omega)]; exact ht)
        rw [if_pos (by omega), if_pos (by omega), if_pos (by omega), HW2.out, if_pos (by omega), if_pos (by omega), hr, hru]
        exact hj2 _ (beq_eq_false_iff_ne.mpr (by omega))

theorem lexL_some (s : ByteArray) : ∃ ts e p, lexL s = (ts, e, p) ∧ (e = 0 → s.size ≤ 2000 ∧ ts.length ≤ 400 + s.size ∧ Toks s.data.toList 0 ts) ∧ (e ≠ 0 → ts = [] ∧ (e = 5 ∨ e = 6) ∧ 0 ≤ p ∧ p ≤ s.size) := by
  unfold lexL
  by_cases h : s.size > 2000
  · rw [if_pos h]
    exact ⟨[], 5, 0, rfl, fun h => by omega, fun _ => ⟨rfl, .inl rfl, by omega, by omega⟩⟩
  · rw [if_neg h]
    obtain ⟨⟨ts, e, p⟩, hg⟩ : ∃ q, lexGo (s.size + 1) s.data.toList [] 0 = q := ⟨_, rfl⟩
    rw [hg]
    have hsz := sz_list s
    refine ⟨ts, e, p, rfl, fun he => ?_, fun he => ?_⟩
    · subst he
      obtain ⟨ts', h1, h2⟩ := lexGo_toks _ _ _ _ _ _ (by omega) hg
      obtain rfl : ts = ts' := by rw [h1]; rfl
      refine ⟨by omega, ?_, h2⟩
      have : ∀ (l : List UInt8) (ts : List Tk) (i : Nat), Toks l i ts → i ≤ l.length → ts.length + i ≤ l.length := by
        intro l ts
        induction ts with
        | nil => intro i _ h; simpa using h
        | cons t ts ih =>
          rintro i ⟨a, E, c, h1, h2, h3, h4, h5, h6, h7⟩ hi
          have hal := (List.getElem?_eq_some_iff.1 h3).1
          by_cases hE : E ≤ l.length
          · have := ih E h7 hE
            simp only [List.length_cons]; omega
          · cases ts with
            | nil => simp only [List.length_cons, List.length_nil]; omega
            | cons u us =>
              obtain ⟨b, _, d, _, g2, g3, _⟩ := h7
              have := (List.getElem?_eq_some_iff.1 g3).1
              omega
      have := this _ _ _ h2 (Nat.zero_le _)
      omega
    · have := lexGo_err _ _ _ _ _ _ _ hg he
      rw [← hsz] at this
      exact this
theorem LexPlaces_true (s : ByteArray) : ∃ k, weathercocklaw07_LexPlaces.f k s = some true := by
  obtain ⟨ts, e, p, h, h0, h1⟩ := lexL_some s
  have hf : lex_Lex.f s = some (ts, e, p) := by rw [← h]; rfl
  by_cases he : e = 0
  · obtain ⟨hs, hn, hT⟩ := h0 he
    obtain ⟨k, hk⟩ := (places_l0 s _ rfl (by rw [← sz_list]; omega) ts hT (by omega) ts.length 0 0 (by omega) (by omega) (fun t ht => by obtain ⟨a, c, g, _⟩ := toks_at hT 0 t ht; omega)).rounds
    refine ⟨k, ?_⟩
    unfold weathercocklaw07_LexPlaces.f
    rw [ex_true, Option.bind_some, hf, Option.bind_some, if_pos he]
    exact hk
  · obtain ⟨rfl, h2, h3, h4⟩ := h1 he
    refine ⟨0, ?_⟩
    unfold weathercocklaw07_LexPlaces.f
    rw [ex_true, Option.bind_some, hf, Option.bind_some, if_neg he, if_pos rfl]
    dsimp only
    rw [if_pos (by rfl), if_pos h3, if_pos h4]
    rcases h2 with rfl | rfl
    · rfl
    · rfl
end Go.Proofs.YtniapbinamnmpaaDoor.L
