/- Contracts and plain lemmas of the functions that the law reaches, part 12. -/
import Derived.Test.YtkboodfnegedaaaDoorZA6
import Derived.Test.YtkboodfnegedaaaDoorZA11
namespace Go.Proofs.YtkboodfnegedaaaDoor.E
set_option linter.unusedSimpArgs false
set_option linter.unusedVariables false
open Go.RowKit Go.Proofs.YtkboodfnegedaaaDoorW.PrintWords Go.Proofs.YtkboodfnegedaaaDoorW.PrintLast Go.Proofs.YtkboodfnegedaaaDoorW.PrintMore
theorem rightV_num (n : Int) : rightV (numV n) = true := by
  have := right_some (numV n)
  unfold value_Right.f numV at this
  simp at this
  simpa [numV] using this
theorem rightV_truth (b : Bool) : rightV (truthV b) = true := by
  have := right_some (truthV b)
  unfold value_Right.f truthV at this
  cases b <;> simp at this <;> simpa [truthV] using this
theorem rightV_zeroV : rightV zeroV = true := rightV_zero ⟨rfl, rfl, by simp [zeroV]⟩
def okV (k : Int) (q : Va × Int) : Prop := (q.2 = 0 ∧ rightV q.1 = true ∧ (q.1.f0 = k ∨ q.1.f0 = 0))
def okA (k : Int) (q : Va × Int) : Prop := okV k q ∨ (q.2 = 3 ∨ q.2 = 4)
theorem okV_zero (k : Int) : okV k (zeroV, 0) := ⟨rfl, rightV_zeroV, .inr rfl⟩
theorem okV_num (n : Int) : okV 1 (numV n, 0) := ⟨rfl, rightV_num n, .inl rfl⟩
theorem okV_truth (b : Bool) : okV 2 (truthV b, 0) := ⟨rfl, rightV_truth b, .inl rfl⟩
theorem null_fit {k : Int} {l : List Va} (h : ∀ v ∈ l, rightV v = true ∧ (v.f0 = k ∨ v.f0 = 0)) : nullV k l = (0, l.any (·.f0 == 0)) := by
  unfold nullV
  rw [if_pos]
  refine List.all_eq_true.2 (fun v hv => ?_)
  obtain ⟨h1, h2⟩ := h v hv
  unfold fitV
  rw [h1]
  rcases h2 with h2 | h2 <;> simp [h2]
theorem ok_orNull {k : Int} {l : List Va} {o : Va × Int} (h : ∀ v ∈ l, rightV v = true ∧ (v.f0 = k ∨ v.f0 = 0)) (j : Int) (ho : okA j o) : okA j (orNull k l o) := by
  unfold orNull
  rw [null_fit h]
  split
  · exact .inl (okV_zero j)
  · exact ho
theorem ok_orNull' {k : Int} {l : List Va} {o : Va × Int} (h : ∀ v ∈ l, rightV v = true ∧ (v.f0 = k ∨ v.f0 = 0)) (j : Int) (ho : okV j o) : okV j (orNull k l o) := by
  unfold orNull
  rw [null_fit h]
  split
  · exact okV_zero j
  · exact ho
def fitK (k : Int) (v : Va) : Prop := rightV v = true ∧ (v.f0 = k ∨ v.f0 = 0)
theorem mem2 {k : Int} {a b : Va} (ha : fitK k a) (hb : fitK k b) : ∀ v ∈ [a, b], rightV v = true ∧ (v.f0 = k ∨ v.f0 = 0) := by
  intro v hv
  simp only [List.mem_cons, List.not_mem_nil, or_false] at hv
  rcases hv with rfl | rfl
  · exact ha
  · exact hb
theorem mem1 {k : Int} {a : Va} (ha : fitK k a) : ∀ v ∈ [a], rightV v = true ∧ (v.f0 = k ∨ v.f0 = 0) := by
  intro v hv
  simp only [List.mem_cons, List.not_mem_nil, or_false] at hv
  rw [hv]; exact ha
theorem add_okA {a b : Va} (ha : fitK 1 a) (hb : fitK 1 b) : okA 1 (addV a b) := by
  refine ok_orNull (mem2 ha hb) 1 ?_
  split
  · exact .inr (.inl rfl)
  · exact .inl (okV_num _)
theorem sub_okA {a b : Va} (ha : fitK 1 a) (hb : fitK 1 b) : okA 1 (subV a b) := by
  refine ok_orNull (mem2 ha hb) 1 ?_
  split
  · exact .inr (.inl rfl)
  · exact .inl (okV_num _)
theorem div_okA {a b : Va} (ha : fitK 1 a) (hb : fitK 1 b) : okA 1 (divV a b) := by
  refine ok_orNull (mem2 ha hb) 1 ?_
  split
  · exact .inr (.inr rfl)
  · split
    · exact .inr (.inl rfl)
    · exact .inl (okV_num _)
theorem mulR_okA (a b : Int) : okA 1 (mulR a b) := by
  unfold mulR
  split
  · exact .inr (.inl rfl)
  · split
    · exact .inr (.inl rfl)
    · split
      · exact .inr (.inl rfl)
      · exact .inl (okV_num _)
theorem mul_okA {a b : Va} (ha : fitK 1 a) (hb : fitK 1 b) : okA 1 (mulV a b) := by
  have := ok_orNull (mem2 ha hb) 1 (mulR_okA a.f1 b.f1)
  exact this
theorem fit_num (n : Int) : fitK 1 (numV n) := ⟨rightV_num n, .inl rfl⟩
theorem neg_okA {a : Va} (ha : fitK 1 a) : okA 1 (negV a) := ok_orNull (mem1 ha) 1 (sub_okA (fit_num 0) ha)
theorem dec_okV {a b : Va} (o : Bool) (ha : fitK 2 a) (hb : fitK 2 b) : okV 2 (decV o a b) := by
  unfold decV
  rw [null_fit (mem2 ha hb)]
  simp only [if_true]
  split
  · exact okV_truth _
  · split
    · exact okV_zero 2
    · exact okV_truth _
theorem not_okV {a : Va} (ha : fitK 2 a) : okV 2 (notV a) := ok_orNull' (mem1 ha) 2 (okV_truth _)
theorem test_okV {op : Int} {a b : Va} (h1 : 9 ≤ op) (h2 : op ≤ 14) (ra : rightV a = true) (rb : rightV b = true) (hk : a.f0 = 0 ∨ b.f0 = 0 ∨ a.f0 = b.f0) (pa : 0 ≤ a.f0) (pb : 0 ≤ b.f0) : okV 2 (testV op a b) := by
  unfold testV
  rw [if_neg (by omega)]
  have hm : ∀ v ∈ [a, b], rightV v = true ∧ (v.f0 = (if a.f0 < b.f0 then b.f0 else a.f0) ∨ v.f0 = 0) := mem2 (k := if a.f0 < b.f0 then b.f0 else a.f0) ⟨ra, by split <;> omega⟩ ⟨rb, by split <;> omega⟩
  rw [null_fit hm]
  split
  · exact okV_zero 2
  · exact okV_truth _
theorem right_kind {v : Va} (h : rightV v = true) : 0 ≤ v.f0 ∧ v.f0 ≤ 3 := by
  have h1 := right_some v
  unfold value_Right.f at h1
  by_cases c0 : v.f0 = 0
  · omega
  · by_cases c1 : v.f0 = 1
    · omega
    · by_cases c2 : v.f0 = 2
      · omega
      · by_cases c3 : v.f0 = 3
        · omega
        · simp [c0, c1, c2, c3, h] at h1
def kindsOf (rows : List (List Va)) : List (List Int) := rows.map (List.map (·.f0))
theorem at_kinds (e : Ex) (rows : List (List Va)) (ps : List Va) : atG 0 e (kindsOf rows) (ps.map (·.f0)) = ((atG zeroV e rows ps).1.f0, (atG zeroV e rows ps).2) := by
  have h1 : ((kindsOf rows).getD e.f2.toNat []) = ((rows.getD e.f2.toNat []).map (·.f0)) := by
    unfold kindsOf
    simp only [List.getD_eq_getElem?_getD, List.getElem?_map]
    cases rows[e.f2.toNat]? <;> rfl
  have h2 : ∀ (l : List Va) (n : Nat), (l.map (·.f0)).getD n 0 = (l.getD n zeroV).f0 := by
    intro l n
    simp only [List.getD_eq_getElem?_getD, List.getElem?_map]
    cases l[n]? <;> rfl
  unfold atG
  rw [h1, h2, h2]
  simp only [kindsOf, List.length_map]
  split
  · split <;> rfl
  · split
    · split <;> rfl
    · rfl
theorem at_right (e : Ex) (rows : List (List Va)) (ps : List Va) (hr : ∀ r ∈ rows, ∀ v ∈ r, rightV v = true) (hp : ∀ v ∈ ps, rightV v = true) : rightV (atG zeroV e rows ps).1 = true := by
  have hd : ∀ (l : List Va) (n : Nat), (∀ v ∈ l, rightV v = true) → rightV (l.getD n zeroV) = true := by
    intro l n hl
    rw [List.getD_eq_getElem?_getD]
    cases h : l[n]? with
    | none => exact rightV_zeroV
    | some v => exact hl v (List.mem_of_getElem? h)
  unfold atG
  split
  · split
    · refine hd _ _ ?_
      rw [List.getD_eq_getElem?_getD]
      cases h : rows[e.f2.toNat]? with
      | none => intro v hv; simp at hv
      | some r => exact hr r (List.mem_of_getElem? h)
    · exact rightV_zeroV
  · split
    · split
      · exact hd _ _ hp
      · exact rightV_zeroV
    · exact rightV_zeroV
def unsafeP (e : Ex) : Bool := (safeStep e ()).1
inductive FitL : List Int → List Va → Prop
  | nil : FitL [] []
  | cons {k v ks vs} : fitK k v → FitL ks vs → FitL (k :: ks) (v :: vs)
theorem op_fits (op : Int) (ks : List Int) (vs : List Va) (h1 : 4 ≤ op) (h2 : op ≤ 18) (hl : (ks.length : Int) = wantsI op) (hf : FitL ks vs) (hk : (kindFin op (some (ks.filter (fun z => decide (z ≠ 0))))).2 = true) :
    (okV (kindFin op (some (ks.filter (fun z => decide (z ≠ 0))))).1 (opV op (vs.getD 0 zeroV) (vs.getD 1 zeroV))) ∨ (op ≤ 8 ∧ ((opV op (vs.getD 0 zeroV) (vs.getD 1 zeroV)).2 = 3 ∨ (opV op (vs.getD 0 zeroV) (vs.getD 1 zeroV)).2 = 4)) := by
  unfold kindFin at hk ⊢
  simp only [] at hk ⊢
  have hall : ∀ c : Int, (ks.filter (fun z => decide (z ≠ 0))).all (· == c) = true → ∀ n, ks.getD n 0 = c ∨ ks.getD n 0 = 0 := by
    intro c hc n
    rw [List.all_eq_true] at hc
    by_cases hz : ks.getD n 0 = 0
    · exact .inr hz
    · left
      have hm : ks.getD n 0 ∈ ks := by
        rw [List.getD_eq_getElem?_getD] at hz ⊢
        cases h : ks[n]? with
        | none => rw [h] at hz; simp at hz
        | some z => simpa using List.mem_of_getElem? h
      have := hc (ks.getD n 0) (List.mem_filter.2 ⟨hm, by simpa using hz⟩)
      simpa using this
  have hget : ∀ {ks : List Int} {vs : List Va}, FitL ks vs → ∀ n, fitK (ks.getD n 0) (vs.getD n zeroV) := by
    intro ks vs hf
    induction hf with
    | nil => intro n; simp only [List.getD_nil]; exact ⟨rightV_zeroV, .inl rfl⟩
    | cons h _ ih =>
      intro n
      cases n with
      | zero => simpa using h
      | succ n => simpa using ih n
  have g0 := hget hf 0
  have g1 := hget hf 1
  by_cases h8 : op ≤ 8
  · rw [if_pos h8] at hk ⊢
    have a0 : fitK 1 (vs.getD 0 zeroV) := ⟨g0.1, by have := hall 1 hk 0; have := g0.2; omega⟩
    have a1 : fitK 1 (vs.getD 1 zeroV) := ⟨g1.1, by have := hall 1 hk 1; have := g1.2; omega⟩
    have : okA 1 (opV op (vs.getD 0 zeroV) (vs.getD 1 zeroV)) := by
      unfold opV
      rcases (by omega : op = 4 ∨ op = 5 ∨ op = 6 ∨ op = 7 ∨ op = 8) with rfl | rfl | rfl | rfl | rfl
      · exact add_okA a0 a1
      · exact sub_okA a0 a1
      · exact mul_okA a0 a1
      · exact div_okA a0 a1
      · exact neg_okA a0
    rcases this with h | h
    · exact .inl h
    · exact .inr ⟨h8, h⟩
  · left
    rw [if_neg h8] at hk ⊢
    by_cases h14 : op ≤ 14
    · rw [if_pos h14] at hk ⊢
      have e1 : opV op (vs.getD 0 zeroV) (vs.getD 1 zeroV) = testV op (vs.getD 0 zeroV) (vs.getD 1 zeroV) := by
        unfold opV
        rw [if_neg (by omega), if_neg (by omega), if_neg (by omega), if_neg (by omega), if_neg (by omega), if_neg (by omega), if_neg (by omega), if_neg (by omega), if_neg (by omega)]
      rw [e1]
      refine test_okV (by omega) h14 g0.1 g1.1 ?_ (right_kind g0.1).1 (right_kind g1.1).1
      have hl2 : ks.length = 2 := by
        have : wantsI op = 2 := by
          rcases (by omega : op = 9 ∨ op = 10 ∨ op = 11 ∨ op = 12 ∨ op = 13 ∨ op = 14) with rfl | rfl | rfl | rfl | rfl | rfl <;> rfl
        omega
      match ks, hl2 with
      | [x, y], _ =>
        simp only [List.getD_cons_zero, List.getD_cons_succ] at g0 g1
        have h0 := g0.2
        have h1 := g1.2
        by_cases hx : x = 0
        · omega
        · by_cases hy : y = 0
          · omega
          · simp [hx, hy] at hk
            omega
    · rw [if_neg h14] at hk ⊢
      by_cases h18 : op = 18
      · rw [if_pos h18]
        have e1 : opV op (vs.getD 0 zeroV) (vs.getD 1 zeroV) = (truthV ((vs.getD 0 zeroV).f0 == 0), 0) := by
          unfold opV
          rw [if_neg (by omega), if_neg (by omega), if_neg (by omega), if_neg (by omega), if_neg (by omega), if_neg (by omega), if_neg (by omega), if_neg (by omega), if_pos h18]
        rw [e1]; exact okV_truth _
      · rw [if_neg h18] at hk ⊢
        have a0 : fitK 2 (vs.getD 0 zeroV) := ⟨g0.1, by have := hall 2 hk 0; have := g0.2; omega⟩
        have a1 : fitK 2 (vs.getD 1 zeroV) := ⟨g1.1, by have := hall 2 hk 1; have := g1.2; omega⟩
        unfold opV
        rcases (by omega : op = 15 ∨ op = 16 ∨ op = 17) with rfl | rfl | rfl
        · exact dec_okV false a0 a1
        · exact dec_okV true a0 a1
        · exact not_okV a0
def kindsB (cols : List (List Int)) (ps : List Int) : List Ex → Option (List Int)
  | [] => some []
  | x :: xs => if (kindF x cols ps).2 = true then (kindsB cols ps xs).map ((kindF x cols ps).1 :: ·) else none
theorem kindL_A' (cols : List (List Int)) (ps : List Int) : ∀ l, kindL l cols ps = (kindsB cols ps l).map (List.filter (fun z => decide (z ≠ 0)))
  | [] => by rw [kindL, kindsB]; rfl
  | x :: xs => by
    rw [kindL, kindsB, kindL_A' cols ps xs]
    by_cases h : (kindF x cols ps).2 = true
    · rw [if_pos h, if_pos h]
      cases kindsB cols ps xs with
      | none => rfl
      | some ks =>
        simp only [Option.map_some]
        by_cases h0 : (kindF x cols ps).1 = 0
        · rw [if_pos h0, List.filter_cons_of_neg (by simpa using h0)]
        · rw [if_neg h0, List.filter_cons_of_pos (by simpa using h0)]
    · rw [if_neg h, if_neg h]; rfl
def FitsE (k : Int × Bool) (q : Va × Int) (u : Bool) : Prop := k.2 = true → okV k.1 q ∨ ((q.2 = 3 ∨ q.2 = 4) ∧ u = true)
mutual
theorem fits_ev (rows : List (List Va)) (ps : List Va) (hr : ∀ r ∈ rows, ∀ v ∈ r, rightV v = true) (hp : ∀ v ∈ ps, rightV v = true) : (e : Ex) → (∃ p, meas e = some p) → FitsE (kindF e (kindsOf rows) (ps.map (·.f0))) (evalF e rows ps) (anyE unsafeP e)
  | ⟨f0, f1, f2, f3, f4, f5, f6⟩ => fun ⟨p, hm⟩ => by
    obtain ⟨ho, hq⟩ := meas_own hm
    rw [kindF, evalF, anyE]
    intro hk
    by_cases c1 : f0 = 1
    · rw [if_pos c1] at hk ⊢
      rw [if_pos c1]
      left
      have := ((own_iff _).1 ho).2.2
      simp only [] at this
      rw [if_pos c1] at this
      exact ⟨rfl, this.1, .inl rfl⟩
    rw [if_neg c1] at hk ⊢
    rw [if_neg c1]
    by_cases c2 : f0 = 2 ∨ f0 = 3
    · rw [if_pos c2] at hk ⊢
      rw [if_pos c2, at_kinds]
      left
      exact ⟨rfl, at_right _ rows ps hr hp, .inl rfl⟩
    rw [if_neg c2] at hk ⊢
    rw [if_neg c2]
    have hop := own_op ho
    simp only [] at hop
    have hlen := (own_true ho).2
    simp only [] at hlen
    rw [kindL_A'] at hk ⊢
    cases hA : kindsB (kindsOf rows) (ps.map (·.f0)) f6 with
    | none => rw [hA] at hk; simp [kindFin] at hk
    | some ks =>
      rw [hA] at hk
      simp only [Option.map_some] at hk ⊢
      rcases fitsL_ev rows ps hr hp f6 hq ks hA with ⟨vs, hv, hf, hl⟩ | ⟨x, hv, hx, hu⟩
      · rw [hv]
        simp only [opL]
        rcases op_fits f0 ks vs (by omega) (by omega) (by rw [hl]; exact hlen) hf hk with h | ⟨h8, h⟩
        · exact .inl h
        · refine .inr ⟨h, ?_⟩
          have : unsafeP ⟨f0, f1, f2, f3, f4, f5, f6⟩ = true := by
            unfold unsafeP safeStep
            exact decide_eq_true (show 4 ≤ f0 ∧ f0 ≤ 8 from ⟨by omega, h8⟩)
          rw [this]; rfl
      · rw [hv]
        simp only [opL]
        exact .inr ⟨hx, by rw [hu]; simp⟩
theorem fitsL_ev (rows : List (List Va)) (ps : List Va) (hr : ∀ r ∈ rows, ∀ v ∈ r, rightV v = true) (hp : ∀ v ∈ ps, rightV v = true) : (l : List Ex) → (∃ p, measL l = some p) → ∀ ks, kindsB (kindsOf rows) (ps.map (·.f0)) l = some ks →
    (∃ vs, evalL l rows ps = .ok vs ∧ FitL ks vs ∧ ks.length = l.length) ∨ (∃ x, evalL l rows ps = .error x ∧ (x = 3 ∨ x = 4) ∧ anyL unsafeP l = true)
  | [] => fun hm ks hk => by
    rw [kindsB] at hk
    obtain rfl := Option.some.inj hk
    left
    exact ⟨[], by rw [evalL], .nil, rfl⟩
  | x :: xs => fun ⟨p, hm⟩ ks hk => by
    obtain ⟨ha, hb⟩ := measL_cons hm
    rw [kindsB] at hk
    split at hk
    · rename_i hx
      obtain ⟨ks', hks, rfl⟩ := Option.map_eq_some_iff.1 hk
      have h1 := fits_ev rows ps hr hp x ha hx
      have h2 := fitsL_ev rows ps hr hp xs hb ks' hks
      rw [evalL, anyL]
      rcases h1 with ⟨g0, g1, g2⟩ | ⟨g, hu⟩
      · rw [if_pos g0]
        rcases h2 with ⟨vs, hv, hf, hl⟩ | ⟨y, hv, hy, hu⟩
        · left
          rw [hv]
          exact ⟨_, rfl, .cons ⟨g1, g2⟩ hf, by simp [hl]⟩
        · right
          rw [hv]
          exact ⟨y, rfl, hy, by rw [hu]; simp⟩
      · right
        rw [if_neg (by omega)]
        exact ⟨_, rfl, g, by rw [hu]; rfl⟩
    · cases hk
end
theorem lack_kinds (rows : List (List Va)) (ps : List Va) (e : Ex) (h : (lackK (kindsOf rows) (ps.map (·.f0)) e ()).1 = false) : (lackV rows ps e ()).1 = false := by
  unfold lackK at h
  unfold lackV
  rw [at_kinds] at h
  simp only [Bool.or_eq_false_iff] at h
  exact h.1
mutual
theorem anyE_imp {p q : Ex → Bool} (h : ∀ e, p e = false → q e = false) : (e : Ex) → anyE p e = false → anyE q e = false
  | ⟨f0, f1, f2, f3, f4, f5, f6⟩ => fun he => by
    rw [anyE, Bool.or_eq_false_iff] at he ⊢
    exact ⟨h _ he.1, anyL_imp h f6 he.2⟩
theorem anyL_imp {p q : Ex → Bool} (h : ∀ e, p e = false → q e = false) : (l : List Ex) → anyL p l = false → anyL q l = false
  | [] => fun he => by rw [anyL]
  | x :: xs => fun he => by
    rw [anyL, Bool.or_eq_false_iff] at he ⊢
    exact ⟨anyE_imp h x he.1, anyL_imp h xs he.2⟩
end
theorem fits_law (rows : List (List Va)) (ps : List Va) (hr : ∀ r ∈ rows, ∀ v ∈ r, rightV v = true) (hp : ∀ v ∈ ps, rightV v = true) (e : Ex) (hk : (kindRes e (kindsOf rows) (ps.map (·.f0))).2 = 0) :
    okV (kindRes e (kindsOf rows) (ps.map (·.f0))).1 (evalRes e rows ps) ∨ (((evalRes e rows ps).2 = 3 ∨ (evalRes e rows ps).2 = 4) ∧ safeB e = false) := by
  unfold kindRes at hk ⊢
  unfold evalRes safeB
  by_cases h1 : rightB e = true
  · rw [if_pos h1] at hk ⊢
    rw [if_pos h1, h1]
    rw [someF_any] at hk ⊢
    by_cases h2 : anyE (fun e => (lackK (kindsOf rows) (ps.map (·.f0)) e ()).1) e = true
    · rw [if_pos h2] at hk; simp at hk
    · rw [if_neg h2] at hk ⊢
      have h3 := anyE_imp (fun e he => lack_kinds rows ps e he) e (Bool.eq_false_iff.mpr h2)
      have e1 : (if (someF (lackV rows ps) e ()).1 = true then (zeroV, 1) else evalF e rows ps) = evalF e rows ps := by
        rw [someF_any, if_neg (by rw [h3]; decide)]
      rw [e1, someF_any safeStep]
      by_cases h4 : (kindF e (kindsOf rows) (ps.map (·.f0))).2 = true
      · rw [if_pos h4] at hk ⊢
        rcases fits_ev rows ps hr hp e (right_some_meas h1) h4 with h | ⟨h, hu⟩
        · exact .inl h
        · refine .inr ⟨h, ?_⟩
          have hu' : anyE (fun e => (safeStep e ()).1) e = true := hu
          rw [hu']; rfl
      · rw [if_neg h4] at hk; simp at hk
  · rw [if_neg h1] at hk; simp at hk
end Go.Proofs.YtkboodfnegedaaaDoor.E
