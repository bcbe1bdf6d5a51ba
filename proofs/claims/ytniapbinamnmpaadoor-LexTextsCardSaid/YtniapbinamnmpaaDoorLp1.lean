/- Plain: LexTexts. -/
import Derived.Test.YtniapbinamnmpaaDoorLp0
import Derived.Test.YtniapbinamnmpaaDoorLx12
namespace Go.Proofs.YtniapbinamnmpaaDoor.L
set_option linter.unusedSimpArgs false
set_option linter.unusedVariables false
open Go.RowKit Go.Proofs.YtniapbinamnmpaaDoorW.PrintWords Go.Proofs.YtniapbinamnmpaaDoorW.PrintLast Go.Proofs.YtniapbinamnmpaaDoorW.PrintMore

/-- A text with each quote doubled. -/
def dbl : List UInt8 → List UInt8
  | [] => []
  | c :: r => if c = 39 then 39 :: 39 :: dbl r else c :: dbl r
theorem dbl_len : ∀ l, (dbl l).length ≤ 2 * l.length
  | [] => by simp [dbl]
  | c :: r => by
    have := dbl_len r
    rw [dbl]; split
    · simp only [List.length_cons]; omega
    · simp only [List.length_cons]; omega
theorem dbl_snoc (c : UInt8) : ∀ l, dbl (l ++ [c]) = dbl l ++ (if c = 39 then [39, 39] else [c])
  | [] => by simp only [List.nil_append, dbl]
  | d :: r => by
    rw [List.cons_append, dbl, dbl, dbl_snoc c r]
    split <;> simp
theorem quot_dbl : ∀ l, quotL (dbl l ++ [39]) = some (l, (dbl l).length + 1)
  | [] => by simp [dbl, quotL]
  | c :: r => by
    have ih := quot_dbl r
    rw [dbl]
    by_cases h : c = 39
    · subst h
      rw [if_pos rfl, List.cons_append, List.cons_append, quotL, if_pos rfl, if_pos rfl, ih]
      simp
    · rw [if_neg h, List.cons_append]
      obtain ⟨d, t, hd⟩ : ∃ d t, dbl r ++ [39] = d :: t := by
        cases dbl r with
        | nil => exact ⟨_, _, rfl⟩
        | cons a b => exact ⟨_, _, rfl⟩
      rw [hd] at ih ⊢
      rw [quotL, if_neg h, ih]
      simp
theorem lex_quote (l : List UInt8) (h : l.length ≤ 200) : lexL ⟨(39 :: (dbl l ++ [39])).toArray⟩ = if l.length > 40 then ([], 5, 0) else ([⟨4, 0, 0, ⟨l.toArray⟩⟩], 0, 0) := by
  have hd := dbl_len l
  have hlen : (39 :: (dbl l ++ [39]) : List UInt8).length = (dbl l).length + 2 := by simp
  rw [lexL_mk _ (by rw [hlen]; omega)]
  have h0 : (39 :: (dbl l ++ [39]) : List UInt8)[0]? = some 39 := rfl
  have hO : oneL (39 :: (dbl l ++ [39])) 0 = if l.length > 40 then .inl (5, 0) else .inr (4, 0, l, 0 + 1 + ((dbl l).length + 1)) := by
    unfold oneL
    rw [List.drop_zero]
    simp only
    rw [if_neg (by decide), if_neg (by decide), if_pos trivial, quot_dbl]
    rfl
  by_cases h4 : l.length > 40
  · rw [if_pos h4] at hO ⊢
    exact lexGo_inl h0 rfl hO
  · rw [if_neg h4] at hO ⊢
    rw [lexGo_inr h0 rfl hO, if_neg (by simp), lexGo_end _ _ (by rw [hlen]; omega)]
    rfl
theorem texts_l0 (s : ByteArray) (l : List UInt8) (hl : s.data.toList = l) (hs : l.length ≤ 200) : ∀ (d j : Nat), l.length - j ≤ d → j ≤ l.length →
    Ev (fun k => weathercocklaw07_LexTexts.l0 k s true ⟨(39 :: dbl (l.take j)).toArray⟩ (j : Int)) true := by
  have hsz : s.size = l.length := by rw [sz_list, hl]
  have hend : Ev (fun k => weathercocklaw07_LexTexts.l0 k s true ⟨(39 :: dbl (l.take l.length)).toArray⟩ (l.length : Int)) true := by
    refine Ev.const 1 (fun k => ?_)
    rw [weathercocklaw07_LexTexts.l0, if_neg (by omega)]
    have hd := dbl_len l
    rw [List.take_length, ba_size, List.length_cons, if_pos (by omega), ba_app _ _ _ _ (ba_mk _) (ba_mk [39])]
    have hf : lex_Lex.f ⟨(39 :: dbl l ++ [39]).toArray⟩ = some (lexL ⟨(39 :: (dbl l ++ [39])).toArray⟩) := rfl
    rw [hf, lex_quote l hs]
    rw [Option.bind_some, hsz]
    by_cases h4 : l.length > 40
    · rw [if_pos (by omega), if_pos rfl, if_pos h4]
      rfl
    · rw [if_neg (by omega), if_pos rfl, if_neg h4, ba_eta s l hl]
      simp [rd_T32]
  intro d
  induction d with
  | zero =>
    intro j hd hj
    obtain rfl : j = l.length := by omega
    exact hend
  | succ d ih =>
    intro j hd hj
    cases hc : l.drop j with
    | nil =>
      have hle : l.length ≤ j := List.drop_eq_nil_iff.1 hc
      obtain rfl : j = l.length := by omega
      exact hend
    | cons c r =>
      have hjl := drop_lt hc
      have hb := bt_list s l hl j c r hc
      have HW : Hid (wrap64 ((j : Int) + 1) = ((j + 1 : Nat) : Int)) := Lib.hid (wrap64_of (by omega) (by omega))
      have hx := ext_one s l hl j c r hc
      have hlj := dbl_len (l.take j)
      rw [List.length_take] at hlj
      have htk : l.take (j + 1) = l.take j ++ [c] := by
        rw [List.take_succ_eq_append_getElem hjl]
        have h2 := List.drop_eq_getElem_cons hjl
        rw [hc] at h2
        injection h2 with h3 h4
        rw [← h3]
      have hx1 : (s.extract j (j + 1)).size = 1 := by rw [sz_list, hx]; rfl
      refine Ev.steps 1 (f := fun k => weathercocklaw07_LexTexts.l0 k s true ⟨(39 :: dbl (l.take (j + 1))).toArray⟩ ((j + 1 : Nat) : Int)) (fun k => ?_) (ih (j + 1) (by omega) (by omega))
      rw [weathercocklaw07_LexTexts.l0, if_pos (by omega), if_pos (by omega), HW.out, if_pos (by omega), if_pos (by omega)]
      have ej : (j : Int).toNat = j := by omega
      have ej1 : ((j + 1 : Nat) : Int).toNat = j + 1 := by omega
      rw [ej, ej1, hx1, ba_size, List.length_cons, if_pos (by omega), ba_app _ _ _ _ (ba_mk _) hx, htk, dbl_snoc]
      by_cases h39 : c = 39
      · subst h39
        rw [if_pos (by rw [hb]; rfl), ba_size, if_pos (by simp; omega), ba_app _ _ _ _ (ba_mk _) (ba_mk [39])]
        simp
      · rw [if_neg (by rw [hb]; exact u8_ne (n := 39) h39 (by decide)), if_neg h39]
        rfl
theorem LexTexts_true (s : ByteArray) : ∃ k, weathercocklaw07_LexTexts.f k s = some true := by
  by_cases h : (s.size : Int) > 200
  · exact ⟨0, by unfold weathercocklaw07_LexTexts.f; rw [ex_true, Option.bind_some, if_pos h]⟩
  · obtain ⟨k, hk⟩ := (texts_l0 s _ rfl (by rw [← sz_list]; omega) s.size 0 (by rw [← sz_list]; omega) (by omega)).rounds
    exact ⟨k, by unfold weathercocklaw07_LexTexts.f; rw [ex_true, Option.bind_some, if_neg h]; exact hk⟩
end Go.Proofs.YtniapbinamnmpaaDoor.L
