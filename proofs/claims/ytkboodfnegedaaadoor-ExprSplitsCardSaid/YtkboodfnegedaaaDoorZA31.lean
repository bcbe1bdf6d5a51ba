/- Contracts and plain lemmas of the functions that the law reaches, part 31. -/
import Derived.Test.YtkboodfnegedaaaDoorZA6
import Derived.Test.YtkboodfnegedaaaDoorZA12
import Derived.Test.YtkboodfnegedaaaDoorZA30
namespace Go.Proofs.YtkboodfnegedaaaDoor.E
set_option linter.unusedSimpArgs false
set_option linter.unusedVariables false
open Go.RowKit Go.Proofs.YtkboodfnegedaaaDoorW.PrintWords Go.Proofs.YtkboodfnegedaaaDoorW.PrintLast Go.Proofs.YtkboodfnegedaaaDoorW.PrintMore
mutual
theorem Ex.ind {P : Ex → Prop} (h : ∀ e : Ex, (∀ x ∈ e.f6, P x) → P e) : (e : Ex) → P e
  | ⟨f0, f1, f2, f3, f4, f5, f6⟩ => h _ (Ex.indL h f6)
theorem Ex.indL {P : Ex → Prop} (h : ∀ e : Ex, (∀ x ∈ e.f6, P x) → P e) : (l : List Ex) → ∀ x ∈ l, P x
  | [] => fun x hx => by simp at hx
  | y :: ys => fun x hx => by
    have hy := Ex.ind h y
    rcases List.mem_cons.1 hx with e | hx
    · rw [e]; exact hy
    · exact Ex.indL h ys x hx
end
mutual
/-- What is joined by AND. -/
def splitE : Ex → List Ex
  | ⟨f0, f1, f2, f3, f4, f5, f6⟩ => if f0 = 15 then splitL f6 else [⟨f0, f1, f2, f3, f4, f5, f6⟩]
def splitL : List Ex → List Ex
  | [] => []
  | x :: xs => splitE x ++ splitL xs
end
theorem splitE_eq (e : Ex) : splitE e = if e.f0 = 15 then splitL e.f6 else [e] := by cases e; rw [splitE]
def small (e : Ex) : Prop := ∃ p, meas e = some p ∧ p.1 ≤ 20 ∧ p.2 ≤ 200
theorem small_right {e : Ex} : small e ↔ rightB e = true := by
  rw [right_meas]
  unfold small
  cases meas e with
  | none => simp
  | some p => simp
theorem two_meas {e x y : Ex} {p : Nat × Nat} (h : meas e = some p) (hxy : e.f6 = [x, y]) : ∃ a b, meas x = some a ∧ meas y = some b ∧ p = (max a.1 b.1 + 1, a.2 + b.2 + 1) := by
  rw [meas_eq] at h
  split at h
  · rw [hxy, measL, measL, measL] at h
    cases hx : meas x with
    | none => rw [hx] at h; simp at h
    | some a =>
      cases hy : meas y with
      | none => rw [hx, hy] at h; simp at h
      | some b =>
        rw [hx, hy] at h
        simp only [Option.bind_some, Option.map_some, Option.some.injEq] at h
        refine ⟨a, b, rfl, rfl, ?_⟩
        rw [← h]
        simp
  · cases h
theorem exSplit_right (e : Ex) : expr_Right.f e.f0 e.f1.f0 e.f1.f1 e.f1.f2 e.f2 e.f3 e.f4 e.f5 e.f6 = some (rightB e) := by
  have he : (⟨e.f0, ⟨e.f1.f0, e.f1.f1, e.f1.f2⟩, e.f2, e.f3, e.f4, e.f5, e.f6⟩ : Ex) = e := by cases e; rfl
  unfold expr_Right.f
  rw [he]
theorem split_ev (e : Ex) : ∀ p, meas e = some p → p.1 ≤ 20 → p.2 ≤ 200 → Ev (fun k => expr_Split.f (k) e.f0 e.f1.f0 e.f1.f1 e.f1.f2 e.f2 e.f3 e.f4 e.f5 e.f6) (splitE e) ∧ (splitE e).length ≤ p.2 := by
  induction e using Ex.ind with
  | h e ih =>
    intro p hp h1 h2
    have hr : rightB e = true := small_right.1 ⟨p, hp, h1, h2⟩
    have hee : (⟨e.f0, ⟨e.f1.f0, e.f1.f1, e.f1.f2⟩, e.f2, e.f3, e.f4, e.f5, e.f6⟩ : Ex) = e := by cases e; rfl
    obtain ⟨ho, _⟩ := meas_own hp
    by_cases h15 : e.f0 = 15
    · obtain ⟨x, y, hxy⟩ := own_two ho (by omega) (by omega) (by omega)
      obtain ⟨a, b, ha, hb, rfl⟩ := two_meas hp hxy
      simp only [] at h1 h2
      obtain ⟨ex, lx⟩ := ih x (by rw [hxy]; simp) a ha (by omega) (by omega)
      obtain ⟨ey, ly⟩ := ih y (by rw [hxy]; simp) b hb (by omega) (by omega)
      have hs : splitE e = splitE x ++ splitE y := by
        rw [splitE_eq, if_pos h15, hxy, splitL, splitL, splitL, List.append_nil]
      rw [hs]
      refine ⟨Ev.steps 1 (f := fun k => (expr_Split.f (k) x.f0 x.f1.f0 x.f1.f1 x.f1.f2 x.f2 x.f3 x.f4 x.f5 x.f6).bind fun t => (expr_Split.f (k) y.f0 y.f1.f0 y.f1.f1 y.f1.f2 y.f2 y.f3 y.f4 y.f5 y.f6).bind fun u => if t.length + u.length < 1353245080339 then some (t ++ u) else none) (fun k => ?_) (Ev.bind ex (Ev.bind ey ?_)), by simp; omega⟩
      · rw [expr_Split.f, exSplit_right, hr]
        simp only [Option.bind_some, if_true, if_pos h15]
        rw [hxy]
        rfl
      · simp only [if_pos (show (splitE x).length + (splitE y).length < 1353245080339 by omega)]
        exact Ev.now _
    · have hs : splitE e = [e] := by rw [splitE_eq, if_neg h15]
      rw [hs]
      refine ⟨Ev.const 1 (fun k => ?_), by have := meas_pos hp; simp; omega⟩
      rw [expr_Split.f, exSplit_right, hr]
      simp only [Option.bind_some, if_true, if_neg h15]
      rw [hee]
theorem split_no (e : Ex) (h : ¬ rightB e = true) : Ev (fun k => expr_Split.f (k) e.f0 e.f1.f0 e.f1.f1 e.f1.f2 e.f2 e.f3 e.f4 e.f5 e.f6) [] := by
  refine Ev.const 1 (fun k => ?_)
  rw [expr_Split.f, exSplit_right, Bool.eq_false_iff.mpr h]
  rfl
def isT (v : Va) : Bool := v.f0 == 2 && (v.f1 == 1 && (v.f2.toList == ([] : List UInt8)))
theorem right_two {v : Va} (h : rightV v = true) (h2 : v.f0 = 2) : (v.f1 = 0 ∨ v.f1 = 1) ∧ v.f2.toList = [] := by
  have h1 := right_some v
  unfold value_Right.f at h1
  rw [if_neg (by omega), if_neg (by omega), if_pos h2, h] at h1
  split at h1
  · exact ⟨by omega, by simpa using h1⟩
  · simp at h1
theorem isT_truth (b : Bool) : isT (truthV b) = b := by cases b <;> simp [isT, truthV]
theorem and_T {a b : Va} (h : (andV a b).2 = 0) : isT (andV a b).1 = (isT a && isT b) := by
  have isTv : ∀ v : Va, sameV v (truthV false) = (v.f0 == 2 && (v.f1 == 0 && (v.f2.toList == ([] : List UInt8)))) := fun v => by simp [sameV, truthV]
  unfold andV decV at h ⊢
  by_cases h1 : (nullV 2 [a, b]).1 = 0
  · rw [if_pos h1] at h ⊢
    have hf : ∀ v ∈ [a, b], rightV v = true ∧ (v.f0 = 0 ∨ v.f0 = 2) := by
      unfold nullV at h1
      split at h1
      · rename_i hall
        intro v hv
        have := List.all_eq_true.1 hall v hv
        unfold fitV at this
        simpa using this
      · simp at h1
    have hn : (nullV 2 [a, b]).2 = (a.f0 == 0 || b.f0 == 0) := by
      unfold nullV
      split
      · simp
      · rename_i hall
        exfalso
        refine hall (List.all_eq_true.2 (fun v hv => ?_))
        obtain ⟨q1, q2⟩ := hf v hv
        unfold fitV
        rw [q1]
        rcases q2 with q2 | q2 <;> simp [q2]
    obtain ⟨ra, ka⟩ := hf a (by simp)
    obtain ⟨rb, kb⟩ := hf b (by simp)
    rw [isTv, isTv, hn]
    rcases ka with ka | ka
    · have e1 : isT a = false := by simp [isT, ka]
      rw [e1, Bool.false_and]
      split
      · simp [isT_truth]
      · split
        · simp [isT, zeroV]
        · rename_i hx; simp [ka] at hx
    · obtain ⟨na, sa⟩ := right_two ra ka
      rcases kb with kb | kb
      · have e1 : isT b = false := by simp [isT, kb]
        rw [e1, Bool.and_false]
        split
        · simp [isT_truth]
        · split
          · simp [isT, zeroV]
          · rename_i hx; simp [kb] at hx
      · obtain ⟨nb, sb⟩ := right_two rb kb
        rcases na with na | na <;> rcases nb with nb | nb <;> simp [isT, ka, kb, na, nb, sa, sb, truthV]
  · rw [if_neg h1] at h
    exact absurd h h1
def Good (rows : List (List Va)) (ps : List Va) (e : Ex) : Prop := small e ∧ anyE (fun e => (lackV rows ps e ()).1) e = false ∧ (evalF e rows ps).2 = 0
theorem good_res {rows : List (List Va)} {ps : List Va} {e : Ex} (h : Good rows ps e) : evalRes e rows ps = evalF e rows ps := by
  unfold evalRes
  rw [if_pos (small_right.1 h.1), someF_any, if_neg (by rw [h.2.1]; decide)]
theorem good_of {rows : List (List Va)} {ps : List Va} {e : Ex} (h : (evalRes e rows ps).2 = 0) : Good rows ps e := by
  unfold evalRes at h
  by_cases h1 : rightB e = true
  · rw [if_pos h1, someF_any] at h
    by_cases h2 : anyE (fun e => (lackV rows ps e ()).1) e = true
    · rw [if_pos h2] at h; simp at h
    · rw [if_neg h2] at h
      exact ⟨small_right.2 h1, Bool.eq_false_iff.mpr h2, h⟩
  · rw [if_neg h1] at h; simp at h
theorem good_split (rows : List (List Va)) (ps : List Va) (e : Ex) : Good rows ps e → (∀ x ∈ splitE e, Good rows ps x ∧ x.f0 ≠ 15) ∧ isT (evalF e rows ps).1 = (splitE e).all (fun x => isT (evalF x rows ps).1) ∧ 0 < (splitE e).length := by
  induction e using Ex.ind with
  | h e ih =>
    intro hg
    obtain ⟨⟨p, hp, h1, h2⟩, hl, hz⟩ := hg
    obtain ⟨ho, _⟩ := meas_own hp
    by_cases h15 : e.f0 = 15
    · obtain ⟨x, y, hxy⟩ := own_two ho (by omega) (by omega) (by omega)
      obtain ⟨a, b, ha, hb, rfl⟩ := two_meas hp hxy
      simp only [] at h1 h2
      have hs : splitE e = splitE x ++ splitE y := by
        rw [splitE_eq, if_pos h15, hxy, splitL, splitL, splitL, List.append_nil]
      rw [anyE_eq, hxy, anyL, anyL, anyL, Bool.or_false] at hl
      simp only [Bool.or_eq_false_iff] at hl
      have hev : evalF e rows ps = opL 15 (evalL [x, y] rows ps) := by
        cases e with
        | mk f0 f1 f2 f3 f4 f5 f6 =>
          simp only [] at h15 hxy
          subst h15; subst hxy
          rw [evalF, if_neg (by decide), if_neg (by decide)]
      rw [hev, evalL, evalL, evalL] at hz
      by_cases zx : (evalF x rows ps).2 = 0
      · rw [if_pos zx] at hz
        by_cases zy : (evalF y rows ps).2 = 0
        · rw [if_pos zy] at hz
          have hv : evalF e rows ps = andV (evalF x rows ps).1 (evalF y rows ps).1 := by
            rw [hev, evalL, evalL, evalL, if_pos zx, if_pos zy]
            simp [opL, opV]
          have hz' : (andV (evalF x rows ps).1 (evalF y rows ps).1).2 = 0 := by
            simpa [opL, opV] using hz
          obtain ⟨x1, x2, x3⟩ := ih x (by rw [hxy]; simp) ⟨⟨a, ha, by omega, by omega⟩, hl.2.1, zx⟩
          obtain ⟨y1, y2, y3⟩ := ih y (by rw [hxy]; simp) ⟨⟨b, hb, by omega, by omega⟩, hl.2.2, zy⟩
          rw [hs]
          refine ⟨fun z hzz => ?_, ?_, by simp; omega⟩
          · rcases List.mem_append.1 hzz with h | h
            · exact x1 z h
            · exact y1 z h
          · rw [hv, and_T hz', List.all_append, x2, y2]
        · rw [if_neg zy] at hz
          simp only [opL] at hz
          exact absurd hz zy
      · rw [if_neg zx] at hz
        simp only [opL] at hz
        exact absurd hz zx
    · have hs : splitE e = [e] := by rw [splitE_eq, if_neg h15]
      rw [hs]
      refine ⟨fun x hx => ?_, by simp, by simp⟩
      rw [List.mem_singleton] at hx
      rw [hx]
      exact ⟨⟨⟨p, hp, h1, h2⟩, hl, hz⟩, h15⟩
theorem eval_f (e : Ex) (rows : List (List Va)) (ps : List Va) : expr_Eval.f e.f0 e.f1.f0 e.f1.f1 e.f1.f2 e.f2 e.f3 e.f4 e.f5 e.f6 rows ps = some (tup4 (evalRes e rows ps)) := by
  have he : (⟨e.f0, ⟨e.f1.f0, e.f1.f1, e.f1.f2⟩, e.f2, e.f3, e.f4, e.f5, e.f6⟩ : Ex) = e := by cases e; rfl
  unfold expr_Eval.f
  rw [he]
theorem splits_l0 (rows : List (List Va)) (ps : List Va) (L : List Ex) (hL : L.length < 1000) (hg : ∀ x ∈ L, Good rows ps x ∧ x.f0 ≠ 15) (a b : Int) (c : ByteArray) (h0 : 0 < L.length) : ∀ (l : List Ex) (j : Nat) (all : Bool), L.drop j = l →
    Ev (fun k => w08_ExprSplits.l0 k rows ps true L all (j : Int) a b c) (isT ⟨a, b, c⟩ == (all && l.all (fun x => isT (evalF x rows ps).1)))
  | [], j, all, hj => by
    have hl : L.length ≤ j := List.drop_eq_nil_iff.1 hj
    refine Ev.const 1 (fun k => ?_)
    rw [w08_ExprSplits.l0, if_neg (by omega), if_pos rfl, if_pos (by omega)]
    simp [isT]
  | x :: xs, j, all, hj => by
    obtain ⟨hx, hl, hr⟩ := rd_drop hj
    obtain ⟨g, hn⟩ := hg x (List.mem_of_mem_drop (by rw [hj]; simp : x ∈ L.drop j))
    have ih := splits_l0 rows ps L hL hg a b c h0 xs (j + 1) (all && isT (evalF x rows ps).1) hr
    refine Ev.steps 1 (f := fun k => w08_ExprSplits.l0 k rows ps true L (all && isT (evalF x rows ps).1) ((j + 1 : Nat) : Int) a b c) (fun k => ?_) ?_
    · rw [w08_ExprSplits.l0, if_pos (by omega), if_pos (by omega), hx, eval_f, good_res g, wrap64_of (x := (j : Int) + 1) (by omega) (by omega)]
      simp only [Option.bind_some, tup4]
      rw [if_pos g.2.2, if_neg hn]
      cases all
      · rfl
      · rfl
    · rw [List.all_cons, ← Bool.and_assoc]; exact ih
theorem ExprSplits_true (e : Ex) (rows : List (List Va)) (ps : List Va) : ∃ k, w08_ExprSplits.f k e.f0 e.f1.f0 e.f1.f1 e.f1.f2 e.f2 e.f3 e.f4 e.f5 e.f6 rows ps = some true := by
  have h : Ev (fun k => w08_ExprSplits.f k e.f0 e.f1.f0 e.f1.f1 e.f1.f2 e.f2 e.f3 e.f4 e.f5 e.f6 rows ps) true := by
    unfold w08_ExprSplits.f w08_examples.f
    rw [eval_f, exSplit_right]
    simp only [Option.bind_some, tup4]
    by_cases hz : (evalRes e rows ps).2 = 0
    · have g := good_of hz
      obtain ⟨p, hp, h1, h2⟩ := g.1
      obtain ⟨hs, hlen⟩ := split_ev e p hp h1 h2
      obtain ⟨g1, g2, g3⟩ := good_split rows ps e g
      refine Ev.bind hs ?_
      simp only [if_pos hz]
      have := splits_l0 rows ps (splitE e) (by omega) g1 (evalRes e rows ps).1.f0 (evalRes e rows ps).1.f1 (evalRes e rows ps).1.f2 g3 (splitE e) 0 true rfl
      have ht : (isT ⟨(evalRes e rows ps).1.f0, (evalRes e rows ps).1.f1, (evalRes e rows ps).1.f2⟩ == (true && (splitE e).all (fun x => isT (evalF x rows ps).1))) = true := by
        rw [Bool.true_and, ← g2, good_res g]
        simp
      rw [ht] at this
      exact this
    · by_cases hr : rightB e = true
      · obtain ⟨p, hp, h1, h2⟩ := small_right.2 hr
        obtain ⟨hs, hlen⟩ := split_ev e p hp h1 h2
        refine Ev.bind hs ?_
        simp only [if_neg hz, if_true, hr]
        have hpos : 0 < (splitE e).length := by
          clear hs hlen hz
          have : ∀ e : Ex, (∃ p, meas e = some p) → 0 < (splitE e).length := by
            intro e
            induction e using Ex.ind with
            | h e ih =>
              intro ⟨p, hp⟩
              obtain ⟨ho, _⟩ := meas_own hp
              by_cases h15 : e.f0 = 15
              · obtain ⟨x, y, hxy⟩ := own_two ho (by omega) (by omega) (by omega)
                obtain ⟨a, b, ha, hb, _⟩ := two_meas hp hxy
                have hs : splitE e = splitE x ++ splitE y := by
                  rw [splitE_eq, if_pos h15, hxy, splitL, splitL, splitL, List.append_nil]
                have := ih x (by rw [hxy]; simp) ⟨a, ha⟩
                rw [hs]; simp; omega
              · rw [splitE_eq, if_neg h15]; simp
          exact this e ⟨p, hp⟩
        have : (decide (((splitE e).length : Int) > 0) == true) = true := by
          simp [hpos]
        rw [this]; exact Ev.now _
      · refine Ev.bind (split_no e hr) ?_
        simp only [if_neg hz, if_true, Bool.eq_false_iff.mpr hr]
        exact Ev.now _
  exact h.rounds
end Go.Proofs.YtkboodfnegedaaaDoor.E
