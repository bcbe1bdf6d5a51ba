/- Contracts and plain lemmas of the functions that the law reaches, part 22. -/
import Derived.Test.YtkboodfnegedaaaDoorZA12
import Derived.Test.YtkboodfnegedaaaDoorZA21
namespace Go.Proofs.YtkboodfnegedaaaDoor.E
set_option linter.unusedSimpArgs false
set_option linter.unusedVariables false
open Go.RowKit Go.Proofs.YtkboodfnegedaaaDoorW.PrintWords Go.Proofs.YtkboodfnegedaaaDoorW.PrintLast Go.Proofs.YtkboodfnegedaaaDoorW.PrintMore
theorem rdv_drop {L xs : List Va} {x : Va} {j : Nat} (h : L.drop j = x :: xs) : rd_T23 L (j : Int) = x ∧ j < L.length ∧ L.drop (j + 1) = xs := by
  have hl : j < L.length := by
    have := congrArg List.length h
    simp at this; omega
  have h2 := List.drop_eq_getElem_cons hl
  rw [h] at h2
  injection h2 with h3 h4
  refine ⟨?_, hl, h4.symm⟩
  unfold rd_T23
  simp [List.getD_eq_getElem?_getD, hl, h3]
theorem rdl_drop {L xs : List (List Va)} {x : List Va} {j : Nat} (h : L.drop j = x :: xs) : rd_L6 L (j : Int) = x ∧ j < L.length ∧ L.drop (j + 1) = xs := by
  have hl : j < L.length := by
    have := congrArg List.length h
    simp at this; omega
  have h2 := List.drop_eq_getElem_cons hl
  rw [h] at h2
  injection h2 with h3 h4
  refine ⟨?_, hl, h4.symm⟩
  unfold rd_L6
  simp [List.getD_eq_getElem?_getD, hl, h3]
theorem rightAll_l0 (L : List Va) (hb : L.length < 17592186044416) : ∀ (l : List Va) (j : Nat), L.drop j = l → Ev (fun k => w08_right.l0 k L (j : Int)) (l.all rightV)
  | [], j, hj => by
    have hl : L.length ≤ j := List.drop_eq_nil_iff.1 hj
    refine Ev.const 1 (fun k => ?_)
    rw [w08_right.l0, if_neg (by omega)]; rfl
  | x :: xs, j, hj => by
    obtain ⟨hx, hl, hr⟩ := rdv_drop hj
    have ih := rightAll_l0 L hb xs (j + 1) hr
    refine Ev.steps 1 (f := fun k => if rightV x = true then w08_right.l0 k L ((j + 1 : Nat) : Int) else some false) (fun k => ?_) ?_
    · rw [w08_right.l0, if_pos (by omega), if_pos (by omega), hx, right_some, wrap64_of (x := (j : Int) + 1) (by omega) (by omega)]; rfl
    · rw [List.all_cons]
      by_cases h : rightV x = true
      · simp only [if_pos h]; rw [h, Bool.true_and]; exact ih
      · simp only [if_neg h]; rw [Bool.eq_false_iff.mpr h]; exact Ev.now _
theorem row_l0 (L : List Va) (hb : L.length < 17592186044416) : ∀ (l : List Va) (j : Nat) (acc : List Int), L.drop j = l → acc.length = j → Ev (fun k => w08_row.l0 k L acc (j : Int)) (acc ++ l.map (·.f0))
  | [], j, acc, hj, ha => by
    have hl : L.length ≤ j := List.drop_eq_nil_iff.1 hj
    refine Ev.const 1 (fun k => ?_)
    rw [w08_row.l0, if_neg (by omega)]; simp
  | x :: xs, j, acc, hj, ha => by
    obtain ⟨hx, hl, hr⟩ := rdv_drop hj
    have ih := row_l0 L hb xs (j + 1) (acc ++ [x.f0]) hr (by simp [ha])
    refine Ev.steps 1 (f := fun k => w08_row.l0 k L (acc ++ [x.f0]) ((j + 1 : Nat) : Int)) (fun k => ?_) (by simpa using ih)
    rw [w08_row.l0, if_pos (by omega), if_pos (by omega), if_pos (by omega), hx, wrap64_of (x := (j : Int) + 1) (by omega) (by omega)]; rfl
theorem kinds_l0 (L : List (List Va)) (hb : L.length < 5864062014805) (hb2 : ∀ r ∈ L, r.length < 17592186044416) : ∀ (l : List (List Va)) (j : Nat) (acc : List (List Int)), L.drop j = l → acc.length = j → Ev (fun k => w08_kinds.l0 k L acc (j : Int)) (acc ++ kindsOf l)
  | [], j, acc, hj, ha => by
    have hl : L.length ≤ j := List.drop_eq_nil_iff.1 hj
    refine Ev.const 1 (fun k => ?_)
    rw [w08_kinds.l0, if_neg (by omega)]; simp [kindsOf]
  | x :: xs, j, acc, hj, ha => by
    obtain ⟨hx, hl, hr⟩ := rdl_drop hj
    have hm : x ∈ L := List.mem_of_mem_drop (by rw [hj]; simp : x ∈ L.drop j)
    have ih := kinds_l0 L hb hb2 xs (j + 1) (acc ++ [x.map (·.f0)]) hr (by simp [ha])
    refine Ev.steps 1 (f := fun k => (w08_row.f k x).bind fun t => w08_kinds.l0 k L (acc ++ [t]) ((j + 1 : Nat) : Int)) (fun k => ?_) ?_
    · rw [w08_kinds.l0, if_pos (by omega), if_pos (by omega), hx, wrap64_of (x := (j : Int) + 1) (by omega) (by omega)]
      simp only [if_pos (show acc.length < 5864062014805 by omega)]
      rfl
    · have h1 : Ev (fun k => w08_row.f k x) (x.map (·.f0)) := by
        have := row_l0 x (hb2 x hm) x 0 [] rfl rfl
        simpa [w08_row.f] using this
      refine Ev.bind h1 ?_
      have e : acc ++ kindsOf (x :: xs) = acc ++ [x.map (·.f0)] ++ kindsOf xs := by simp [kindsOf]
      rw [e]; exact ih
theorem fits_j1 (e : Ex) (rows : List (List Va)) (ps : List Va) (hr : ∀ r ∈ rows, ∀ v ∈ r, rightV v = true) : Ev (fun k => w08_ExprFits.j1 k rows ps true (kindRes e (kindsOf rows) (ps.map (·.f0))).1 (if ps.all rightV = true then (kindRes e (kindsOf rows) (ps.map (·.f0))).2 != 0 else true) e.f0 e.f1.f0 e.f1.f1 e.f1.f2 e.f2 e.f3 e.f4 e.f5 e.f6) true := by
  have he : evalRes ⟨e.f0, ⟨e.f1.f0, e.f1.f1, e.f1.f2⟩, e.f2, e.f3, e.f4, e.f5, e.f6⟩ rows ps = evalRes e rows ps := by cases e; rfl
  have hs : safeB ⟨e.f0, ⟨e.f1.f0, e.f1.f1, e.f1.f2⟩, e.f2, e.f3, e.f4, e.f5, e.f6⟩ = safeB e := by cases e; rfl
  refine Ev.const 1 (fun k => ?_)
  rw [w08_ExprFits.j1]
  by_cases hp : ps.all rightV = true
  · rw [if_pos hp]
    by_cases hk : (kindRes e (kindsOf rows) (ps.map (·.f0))).2 = 0
    · rw [if_neg (by simp [hk])]
      have h := fits_law rows ps hr (List.all_eq_true.1 hp) e hk
      unfold expr_Eval.f expr_Safe.f
      rw [he, hs]
      simp only [Option.bind_some, tup4, if_true]
      rcases h with ⟨h1, h2, h3⟩ | ⟨h1, h2⟩
      · rw [if_pos h1, right_some, h2]
        simp only [Option.bind_some, if_true]
        rcases h3 with h3 | h3
        · rw [if_pos h3]
        · by_cases h4 : (evalRes e rows ps).1.f0 = (kindRes e (kindsOf rows) (ps.map (·.f0))).1
          · rw [if_pos h4]
          · rw [if_neg h4, if_pos h3]
      · rw [if_neg (by omega), h2]
        rw [if_neg (by decide)]
        rcases h1 with h1 | h1
        · rw [if_pos h1]
        · rw [if_neg (by omega), h1]; rfl
    · rw [if_pos (by simpa using hk)]
  · rw [if_neg hp, if_pos rfl]
theorem fits_l0' (e : Ex) (rows : List (List Va)) (ps : List Va) (hb : rows.length < 5864062014805) (hb2 : ∀ r ∈ rows, r.length < 17592186044416) (hb3 : ps.length < 17592186044416) : ∀ (l : List (List Va)) (j : Nat), rows.drop j = l → (∀ r ∈ rows.take j, ∀ v ∈ r, rightV v = true) →
    Ev (fun k => w08_ExprFits.l0 k rows ps true (j : Int) e.f0 e.f1.f0 e.f1.f1 e.f1.f2 e.f2 e.f3 e.f4 e.f5 e.f6) true
  | [], j, hj, ht => by
    have hl : rows.length ≤ j := List.drop_eq_nil_iff.1 hj
    have hr : ∀ r ∈ rows, ∀ v ∈ r, rightV v = true := by rw [List.take_of_length_le hl] at ht; exact ht
    refine Ev.steps 1 (f := fun k => ((w08_kinds.f k rows).bind fun t515 => ((w08_row.f k ps).bind fun t518 => ((expr_Kind.f e.f0 e.f1.f0 e.f1.f1 e.f1.f2 e.f2 e.f3 e.f4 e.f5 e.f6 t515 t518).bind fun bt521 => ((w08_right.f k ps).bind fun t523 => (if t523 = true then (w08_ExprFits.j1 k rows ps true bt521.1 (bt521.2 != 0) e.f0 e.f1.f0 e.f1.f1 e.f1.f2 e.f2 e.f3 e.f4 e.f5 e.f6) else (w08_ExprFits.j1 k rows ps true bt521.1 true e.f0 e.f1.f0 e.f1.f1 e.f1.f2 e.f2 e.f3 e.f4 e.f5 e.f6))))))) (fun k => ?_) ?_
    · rw [w08_ExprFits.l0, if_neg (by omega)]
    · have h1 : Ev (fun k => w08_kinds.f k rows) (kindsOf rows) := by
        have := kinds_l0 rows hb hb2 rows 0 [] rfl rfl
        simpa [w08_kinds.f] using this
      have h2 : Ev (fun k => w08_row.f k ps) (ps.map (·.f0)) := by
        have := row_l0 ps hb3 ps 0 [] rfl rfl
        simpa [w08_row.f] using this
      have h3 : Ev (fun k => w08_right.f k ps) (ps.all rightV) := by
        have := rightAll_l0 ps hb3 ps 0 rfl
        simpa [w08_right.f] using this
      refine Ev.bind h1 (Ev.bind h2 ?_)
      have he : kindRes ⟨e.f0, ⟨e.f1.f0, e.f1.f1, e.f1.f2⟩, e.f2, e.f3, e.f4, e.f5, e.f6⟩ (kindsOf rows) (ps.map (·.f0)) = kindRes e (kindsOf rows) (ps.map (·.f0)) := by cases e; rfl
      unfold expr_Kind.f
      rw [he]
      simp only [Option.bind_some]
      refine Ev.bind h3 ?_
      have h4 := fits_j1 e rows ps hr
      by_cases hp : ps.all rightV = true
      · rw [if_pos hp] at h4
        simp only [if_pos hp]; exact h4
      · rw [if_neg hp] at h4
        simp only [if_neg hp]; exact h4
  | x :: xs, j, hj, ht => by
    obtain ⟨hx, hl, hr⟩ := rdl_drop hj
    have hm : x ∈ rows := List.mem_of_mem_drop (by rw [hj]; simp : x ∈ rows.drop j)
    refine Ev.steps 1 (f := fun k => ((w08_right.f k x).bind fun t514 => (if t514 = true then (w08_ExprFits.l0 k rows ps true ((j + 1 : Nat) : Int) e.f0 e.f1.f0 e.f1.f1 e.f1.f2 e.f2 e.f3 e.f4 e.f5 e.f6) else (some true)))) (fun k => ?_) ?_
    · rw [w08_ExprFits.l0, if_pos (by omega), if_pos (by omega), hx, wrap64_of (x := (j : Int) + 1) (by omega) (by omega)]; rfl
    · have h3 : Ev (fun k => w08_right.f k x) (x.all rightV) := by
        have := rightAll_l0 x (hb2 x hm) x 0 rfl
        simpa [w08_right.f] using this
      refine Ev.bind h3 ?_
      by_cases hp : x.all rightV = true
      · simp only [if_pos hp]
        refine fits_l0' e rows ps hb hb2 hb3 xs (j + 1) hr (fun r hrr => ?_)
        rw [List.take_succ_eq_append_getElem hl] at hrr
        rcases List.mem_append.1 hrr with h | h
        · exact ht r h
        · have h2 := List.drop_eq_getElem_cons hl
          rw [hj] at h2
          injection h2 with h5 _
          rw [List.mem_singleton] at h
          rw [h, ← h5]
          exact List.all_eq_true.1 hp
      · simp only [if_neg hp]; exact Ev.now _
theorem ExprFits_true (e : Ex) (rows : List (List Va)) (ps : List Va) (hb : rows.length < 5864062014805) (hb2 : ∀ r ∈ rows, r.length < 17592186044416) (hb3 : ps.length < 17592186044416) : ∃ k, w08_ExprFits.f k e.f0 e.f1.f0 e.f1.f1 e.f1.f2 e.f2 e.f3 e.f4 e.f5 e.f6 rows ps = some true := by
  obtain ⟨k, hk⟩ := (fits_l0' e rows ps hb hb2 hb3 rows 0 rfl (fun r hr => by simp at hr)).rounds
  refine ⟨k, ?_⟩
  unfold w08_ExprFits.f w08_examples.f
  simp only [Option.bind_some]
  exact hk
end Go.Proofs.YtkboodfnegedaaaDoor.E
