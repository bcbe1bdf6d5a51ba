/- Contracts and plain lemmas of the functions that the law reaches, part 30. -/
import Derived.Test.YtpdhoghkoakojaaGreatDoorAV11
import Derived.Test.YtpdhoghkoakojaaGreatDoorAV18
import Derived.Test.YtpdhoghkoakojaaGreatDoorAV20
import Derived.Test.YtpdhoghkoakojaaGreatDoorAV28
import Derived.Test.YtpdhoghkoakojaaGreatDoorAV29
namespace Go.Proofs.YtpdhoghkoakojaaGreatDoor.E
set_option linter.unusedSimpArgs false
set_option linter.unusedVariables false
open Go.RowKit Go.Proofs.YtpdhoghkoakojaaGreatDoorW.PrintWords Go.Proofs.YtpdhoghkoakojaaGreatDoorW.PrintLast Go.Proofs.YtpdhoghkoakojaaGreatDoorW.PrintMore
theorem null_swap (k : Int) (a b : Va) : nullV k [b, a] = nullV k [a, b] := by
  unfold nullV
  simp only [List.all_cons, List.all_nil, List.any_cons, List.any_nil, Bool.and_true, Bool.or_false]
  rw [Bool.and_comm (fitV k b), Bool.or_comm (b.f0 == 0)]
theorem orNull_swap (k : Int) (a b : Va) (o : Va × Int) : orNull k [b, a] o = orNull k [a, b] o := by unfold orNull; rw [null_swap]
theorem band_comm (x y : Int) : Go.bits .and .i64 x y = Go.bits .and .i64 y x := by
  show IntKind.i64.wrap ((BitVec.ofInt 64 x &&& BitVec.ofInt 64 y).toNat : Int) = IntKind.i64.wrap ((BitVec.ofInt 64 y &&& BitVec.ofInt 64 x).toNat : Int)
  rw [BitVec.and_comm]
theorem add_swap (a b : Va) : addV b a = addV a b := by
  unfold addV
  rw [orNull_swap, Int.add_comm b.f1 a.f1, band_comm]
theorem mul_swap {a b : Va} (ha : in64 a.f1) (hb : in64 b.f1) : mulV b a = mulV a b := by
  unfold mulV
  rw [null_swap, mulR_p hb ha, mulR_p ha hb, Int.mul_comm]
theorem dec_swap (o : Bool) (a b : Va) : decV o b a = decV o a b := by
  unfold decV
  rw [null_swap, Bool.or_comm (sameV b _)]
theorem lessL : ∀ a b : List UInt8, Op.bytesLess a b = decide (a < b)
  | [], [] => by rw [Op.bytesLess]; exact (decide_eq_false (l_irrefl _)).symm
  | [], y :: b => by rw [Op.bytesLess]; exact (decide_eq_true (List.nil_lt_cons y b)).symm
  | x :: a, [] => by rw [Op.bytesLess]; exact (decide_eq_false (List.not_lt_nil _)).symm
  | x :: a, y :: b => by
    rw [Op.bytesLess, lessL a b, Bool.eq_iff_iff]
    simp only [Bool.or_eq_true, Bool.and_eq_true, decide_eq_true_eq, beq_iff_eq]
    rw [List.cons_lt_cons_iff]
theorem cmpI_swap (a b : Int) : cmpI b a = - cmpI a b := by unfold cmpI; repeat' split <;> omega
theorem cmpS_swap (a b : ByteArray) : cmpS b a = - cmpS a b := by
  unfold cmpS
  rw [lessL, lessL]
  simp only [decide_eq_true_eq, beq_iff_eq]
  by_cases h1 : a.toList < b.toList
  · have h2 : ¬ b.toList < a.toList := fun h => l_irrefl _ (l_trans h1 h)
    have h3 : ¬ b.toList = a.toList := fun h => by rw [h] at h1; exact l_irrefl _ h1
    rw [if_pos h1, if_neg h2, if_neg h3]; rfl
  · by_cases h2 : b.toList < a.toList
    · have h3 : ¬ a.toList = b.toList := fun h => by rw [h] at h2; exact l_irrefl _ h2
      rw [if_neg h1, if_pos h2, if_neg h3]
    · have h3 := l_tot h1 h2
      rw [if_neg h1, if_neg h2, if_pos h3, if_pos h3.symm]; rfl
theorem cmpV_swap (a b : Va) : cmpV b a = - cmpV a b := by
  unfold cmpV
  rw [cmpI_swap a.f0 b.f0, cmpI_swap a.f1 b.f1, cmpS_swap a.f2 b.f2]
  generalize cmpI a.f0 b.f0 = p
  generalize cmpI a.f1 b.f1 = q
  generalize cmpS a.f2 b.f2 = r
  repeat' split
  all_goals omega
theorem test_swap {op p : Int} (hp : ¬ (p < 9 ∨ p > 14)) (ho : ¬ (op < 9 ∨ op > 14)) (h : ∀ c, holdV p (-c) = holdV op c) (a b : Va) : testV p b a = testV op a b := by
  unfold testV
  rw [if_neg hp, if_neg ho, cmpV_swap, h]
  have hm : (if b.f0 < a.f0 then a.f0 else b.f0) = (if a.f0 < b.f0 then b.f0 else a.f0) := by
    by_cases h1 : a.f0 < b.f0
    · rw [if_neg (by omega), if_pos h1]
    · by_cases h2 : b.f0 < a.f0
      · rw [if_pos h2, if_neg h1]
      · rw [if_neg h2, if_neg h1]; omega
  rw [hm, null_swap]
theorem op_swap {op : Int} (hz : ¬ turnV op = 0) {a b : Va} (ha : in64 a.f1) (hb : in64 b.f1) : opV (turnV op) b a = opV op a b := by
  have hn : ∀ c : Int, decide (-c < 0) = decide (c > 0) := fun c => by rw [decide_eq_decide]; omega
  have hl : ∀ c : Int, decide (-c ≤ 0) = decide (c ≥ 0) := fun c => by rw [decide_eq_decide]; omega
  have he : ∀ c : Int, ((-c) == 0) = (c == 0) := fun c => by rw [Bool.eq_iff_iff]; simp only [beq_iff_eq]; omega
  rcases turnV_op op hz with ⟨h0, h1⟩ | ⟨h0, h1⟩ | ⟨h0, h1⟩
  · rw [h1, h0]
    show testV 11 b a = testV 13 a b
    exact test_swap (by decide) (by decide) (fun c => by simp [holdV, hn]) a b
  · rw [h1, h0]
    show testV 12 b a = testV 14 a b
    exact test_swap (by decide) (by decide) (fun c => by simp [holdV, hl]) a b
  · rw [h1]
    rcases h0 with h0 | h0 | h0 | h0 | h0 | h0 <;> rw [h0]
    · exact add_swap a b
    · exact mul_swap ha hb
    · show testV 9 b a = testV 9 a b
      exact test_swap (by decide) (by decide) (fun c => by simp [holdV, he]) a b
    · show testV 10 b a = testV 10 a b
      exact test_swap (by decide) (by decide) (fun c => by simp [holdV, he, bne]) a b
    · exact dec_swap false a b
    · exact dec_swap true a b
def Rel (p q : Va × Int) : Prop := (p.2 = 0 ∧ q = p) ∨ (p.2 ≠ 0 ∧ q.2 ≠ 0)
def RelL (p q : Except Int (List Va)) : Prop := (∃ l, p = .ok l ∧ q = .ok l) ∨ (∃ x y, p = .error x ∧ q = .error y ∧ x ≠ 0 ∧ y ≠ 0)
theorem Rel.rfl' (p : Va × Int) : Rel p p := by
  by_cases h : p.2 = 0
  · exact .inl ⟨h, rfl⟩
  · exact .inr ⟨h, h⟩
theorem evalL_rel {rows : List (List Va)} {ps : List Va} (G : Ex → Ex) : ∀ l : List Ex, (∀ x ∈ l, Rel (evalF x rows ps) (evalF (G x) rows ps)) → RelL (evalL l rows ps) (evalL (l.map G) rows ps)
  | [], _ => .inl ⟨[], by rw [evalL], by rw [List.map_nil, evalL]⟩
  | x :: l, h => by
    have ih := evalL_rel G l (fun y hy => h y (.tail _ hy))
    rw [List.map_cons, evalL, evalL]
    rcases h x (.head _) with ⟨h1, h2⟩ | ⟨h1, h2⟩
    · rw [h2, if_pos h1, if_pos h1]
      rcases ih with ⟨vs, e1, e2⟩ | ⟨y, z, e1, e2, hy, hz⟩
      · rw [e1, e2]; exact .inl ⟨_, rfl, rfl⟩
      · rw [e1, e2]; exact .inr ⟨_, _, rfl, rfl, hy, hz⟩
    · rw [if_neg h1, if_neg h2]
      exact .inr ⟨_, _, rfl, rfl, h1, h2⟩
theorem opL_rel (op : Int) {p q : Except Int (List Va)} (h : RelL p q) : Rel (opL op p) (opL op q) := by
  rcases h with ⟨l, rfl, rfl⟩ | ⟨x, y, rfl, rfl, hx, hy⟩
  · exact Rel.rfl' _
  · exact .inr ⟨hx, hy⟩
theorem evalL_two (x y : Ex) (rows : List (List Va)) (ps : List Va) : evalL [x, y] rows ps = if (evalF x rows ps).2 = 0 then (if (evalF y rows ps).2 = 0 then .ok [(evalF x rows ps).1, (evalF y rows ps).1] else .error (evalF y rows ps).2) else .error (evalF x rows ps).2 := by
  rw [evalL, evalL, evalL]
  by_cases h1 : (evalF x rows ps).2 = 0
  · rw [if_pos h1, if_pos h1]
    by_cases h2 : (evalF y rows ps).2 = 0
    · rw [if_pos h2, if_pos h2]
    · rw [if_neg h2, if_neg h2]
  · rw [if_neg h1, if_neg h1]
theorem swap_rel {op : Int} (hz : ¬ turnV op = 0) (x y u v : Ex) {rows : List (List Va)} {ps : List Va} (hx : Rel (evalF x rows ps) (evalF u rows ps)) (hy : Rel (evalF y rows ps) (evalF v rows ps)) (hxi : in64 (evalF x rows ps).1.f1) (hyi : in64 (evalF y rows ps).1.f1) :
    Rel (opL op (evalL [x, y] rows ps)) (opL (turnV op) (evalL [v, u] rows ps)) := by
  rw [evalL_two, evalL_two]
  rcases hx with ⟨h1, h2⟩ | ⟨h1, h2⟩
  · rw [h2, if_pos h1]
    rcases hy with ⟨h3, h4⟩ | ⟨h3, h4⟩
    · rw [h4, if_pos h3, if_pos h3, if_pos h1]
      show Rel (opV op _ _) (opV (turnV op) _ _)
      have h := op_swap hz hxi hyi
      simp only [List.getD_cons_zero, List.getD_cons_succ]
      rw [h]
      exact Rel.rfl' _
    · rw [if_neg h3, if_neg h4]
      exact .inr ⟨h3, h4⟩
  · rw [if_neg h1]
    rcases hy with ⟨h3, h4⟩ | ⟨h3, h4⟩
    · rw [h4, if_pos h3, if_neg h2]
      exact .inr ⟨h1, h2⟩
    · rw [if_neg h4]
      exact .inr ⟨h1, h4⟩
theorem turnV_kind {op : Int} (hz : ¬ turnV op = 0) : op ≠ 1 ∧ op ≠ 2 ∧ op ≠ 3 ∧ turnV op ≠ 1 ∧ turnV op ≠ 2 ∧ turnV op ≠ 3 := by
  rcases turnV_op op hz with ⟨h0, h1⟩ | ⟨h0, h1⟩ | ⟨h0, h1⟩ <;> omega
theorem turnF_two {op : Int} (hz : ¬ turnV op = 0) (u v : Ex) : turnF op [u, v] = (turnV op, [v, u]) ∨ (turnF op [u, v] = (op, [u, v])) := by
  unfold turnF
  rw [if_neg hz]
  by_cases h : turnV op = op
  · rw [if_pos h]
    split
    · exact .inl (by rw [h]; rfl)
    · exact .inr rfl
  · rw [if_neg h]; exact .inl rfl
theorem eval_norm {rows : List (List Va)} {ps : List Va} (hR : InR rows ps) (e : Ex) : Rt e → rngF e = true → Rel (evalF e rows ps) (evalF (normF e) rows ps) := by
  induction e using Ex.ind with
  | h e ih =>
    intro hr hg
    have hg6 : rngL e.f6 = true := by rw [rngF_eq, Bool.and_eq_true] at hg; exact hg.2
    have hk : ∀ x ∈ e.f6, Rel (evalF x rows ps) (evalF (normF x) rows ps) := fun x hx => ih x hx (hr.kid hx) (rngL_mem hg6 hx)
    have hin : ∀ x ∈ e.f6, in64 (evalF x rows ps).1.f1 := fun x hx => inV_eval hR (fun _ => by
      have h := rngL_mem hg6 hx
      rw [rngF_eq, Bool.and_eq_true, decide_eq_true_eq] at h
      exact h.1)
    rw [normF_eq, evalF_eq e, evalF_eq]
    by_cases hz : turnV e.f0 = 0
    · have ht : turnF e.f0 (e.f6.map normF) = (e.f0, e.f6.map normF) := by unfold turnF; rw [if_pos hz]
      rw [ht]
      simp only []
      by_cases h1 : e.f0 = 1
      · rw [if_pos h1, if_pos h1]; exact Rel.rfl' _
      · rw [if_neg h1, if_neg h1]
        by_cases h2 : e.f0 = 2 ∨ e.f0 = 3
        · rw [if_pos h2, if_pos h2]
          exact Rel.rfl' _
        · rw [if_neg h2, if_neg h2]
          exact opL_rel _ (evalL_rel normF e.f6 hk)
    · obtain ⟨k1, k2, k3, k4, k5, k6⟩ := turnV_kind hz
      obtain ⟨x, y, hxy⟩ := list_two (l := e.f6) (turnV_two hr hz)
      rw [if_neg k1, if_neg (by omega)]
      have hx := hk x (by rw [hxy]; simp)
      have hy := hk y (by rw [hxy]; simp)
      have hxi := hin x (by rw [hxy]; simp)
      have hyi := hin y (by rw [hxy]; simp)
      rw [hxy, show List.map normF [x, y] = [normF x, normF y] from rfl]
      rcases turnF_two hz (normF x) (normF y) with ht | ht
      · rw [ht]
        simp only []
        rw [if_neg k4, if_neg (by omega)]
        exact swap_rel hz x y (normF x) (normF y) hx hy hxi hyi
      · rw [ht]
        simp only []
        rw [if_neg k1, if_neg (by omega)]
        have h := opL_rel e.f0 (evalL_rel normF [x, y] (fun z hz2 => hk z (by rw [hxy]; exact hz2)))
        exact h
theorem turnF_fst (op : Int) (l : List Ex) : (turnF op l).1 = op ∨ (¬ turnV op = 0 ∧ (turnF op l).1 = turnV op) := by
  unfold turnF
  by_cases hz : turnV op = 0
  · rw [if_pos hz]; exact .inl rfl
  · rw [if_neg hz]
    by_cases h : turnV op = op
    · rw [if_pos h]; split <;> exact .inl rfl
    · rw [if_neg h]; exact .inr ⟨hz, rfl⟩
theorem turnF_any (op : Int) (l : List Ex) (q : Ex → Bool) : (turnF op l).2.any q = l.any q := by
  unfold turnF
  split
  · rfl
  · split
    · split
      · exact List.any_reverse
      · rfl
    · exact List.any_reverse
theorem anyL_any (p : Ex → Bool) : ∀ l : List Ex, anyL p l = l.any (anyE p)
  | [] => by rw [anyL]; rfl
  | x :: l => by rw [anyL, anyL_any p l]; rfl
theorem anyE_norm (p : Ex → Bool) (hp : ∀ e, p (normF e) = p e) (e : Ex) : anyE p (normF e) = anyE p e := by
  induction e using Ex.ind with
  | h e ih =>
    have h6 : (normF e).f6 = (turnF e.f0 (e.f6.map normF)).2 := by rw [normF_eq]
    rw [anyE_eq, anyE_eq p e, hp e, h6, anyL_any, anyL_any, turnF_any, List.any_map]
    congr 1
    rw [Bool.eq_iff_iff]
    simp only [List.any_eq_true, Function.comp]
    constructor
    · rintro ⟨x, hx, h⟩; exact ⟨x, hx, by rw [← ih x hx]; exact h⟩
    · rintro ⟨x, hx, h⟩; exact ⟨x, hx, by rw [ih x hx]; exact h⟩
theorem lack_norm (rows : List (List Va)) (ps : List Va) (e : Ex) : (someF (lackV rows ps) (normF e) ()).1 = (someF (lackV rows ps) e ()).1 := by
  rw [someF_any, someF_any]
  refine anyE_norm _ (fun e => ?_) e
  have hq : ∀ op : Int, op ≠ 2 → op ≠ 3 → ∀ (a : S23) (b c d : Int) (s : ByteArray) (l : List Ex), (atG zeroV (⟨op, a, b, c, d, s, l⟩ : Ex) rows ps).2 = true := fun op h2 h3 a b c d s l => by
    unfold atG; rw [if_neg h2, if_neg h3]
  unfold lackV
  simp only []
  rcases turnF_fst e.f0 (e.f6.map normF) with h | ⟨hz, h⟩
  · have h0 : (normF e).f0 = e.f0 := by rw [normF_eq]; exact h
    have h2 : (normF e).f2 = e.f2 := by rw [normF_eq]
    have h3 : (normF e).f3 = e.f3 := by rw [normF_eq]
    have h4 : (normF e).f4 = e.f4 := by rw [normF_eq]
    unfold atG
    rw [h0, h2, h3, h4]
  · obtain ⟨k1, k2, k3, k4, k5, k6⟩ := turnV_kind hz
    have e1 : (atG zeroV (normF e) rows ps).2 = true := by rw [normF_eq, h]; exact hq _ k5 k6 _ _ _ _ _ _
    have e2 : (atG zeroV e rows ps).2 = true := by unfold atG; rw [if_neg k2, if_neg k3]
    rw [e1, e2]
theorem safe_norm {e : Ex} (hr : rightB e = true) : safeB (normF e) = safeB e := by
  unfold safeB
  rw [hr, right_norm hr, someF_any, someF_any]
  congr 1
  congr 1
  refine anyE_norm _ (fun e => ?_) e
  unfold safeStep
  simp only []
  have h0 : (normF e).f0 = (turnF e.f0 (e.f6.map normF)).1 := by rw [normF_eq]
  rw [h0]
  rcases turnF_fst e.f0 (e.f6.map normF) with h | ⟨hz, h⟩
  · rw [h]
  · rw [h, decide_eq_decide]
    rcases turnV_op e.f0 hz with ⟨h0, h1⟩ | ⟨h0, h1⟩ | ⟨h0, h1⟩
    · rw [h1, h0]; decide
    · rw [h1, h0]; decide
    · rw [h1]
theorem res_norm {rows : List (List Va)} {ps : List Va} (hR : InR rows ps) {e : Ex} (hr : rightB e = true) (hg : rngF e = true) : Rel (evalRes e rows ps) (evalRes (normF e) rows ps) := by
  unfold evalRes
  rw [if_pos hr, if_pos (right_norm hr), lack_norm]
  by_cases h : (someF (lackV rows ps) e ()).1 = true
  · rw [if_pos h, if_pos h]; exact Rel.rfl' _
  · rw [if_neg h, if_neg h]; exact eval_norm hR e (Rt.of hr) hg
theorem msk_norm (e : Ex) : Rt e → mskE (normF e) = mskE e := by
  induction e using Ex.ind with
  | h e ih =>
    intro hr
    have hm : ∀ l : List Ex, (∀ x ∈ l, x ∈ e.f6) → mskL (l.map normF) = mskL l := fun l hl => by
      induction l with
      | nil => rfl
      | cons x l ihl => rw [List.map_cons, mskL, mskL, ih x (hl x (.head _)) (hr.kid (hl x (.head _))), ihl (fun y hy => hl y (.tail _ hy))]
    rw [mskE_eq, mskE_eq e]
    have h6 : (normF e).f6 = (turnF e.f0 (e.f6.map normF)).2 := by rw [normF_eq]
    have h0 : (normF e).f0 = (turnF e.f0 (e.f6.map normF)).1 := by rw [normF_eq]
    have h2 : (normF e).f2 = e.f2 := by rw [normF_eq]
    rw [h6, h0, h2]
    by_cases hz : turnV e.f0 = 0
    · have ht : turnF e.f0 (e.f6.map normF) = (e.f0, e.f6.map normF) := by unfold turnF; rw [if_pos hz]
      rw [ht]
      simp only []
      rw [hm e.f6 (fun x hx => hx)]
    · obtain ⟨k1, k2, k3, k4, k5, k6⟩ := turnV_kind hz
      obtain ⟨x, y, hxy⟩ := list_two (l := e.f6) (turnV_two hr hz)
      have hl := hm e.f6 (fun x hx => hx)
      rw [hxy, show List.map normF [x, y] = [normF x, normF y] from rfl] at hl ⊢
      rcases turnF_two hz (normF x) (normF y) with ht | ht
      · rw [ht]
        simp only []
        rw [if_neg k5, if_neg k2, ← hl]
        simp only [mskL]
        rw [Nat.or_zero, Nat.or_zero, Nat.or_comm (mskE (normF y))]
      · rw [ht]
        simp only []
        rw [hl]
theorem tab_norm {e : Ex} (hr : rightB e = true) : tabN (normF e) = tabN e := by rw [tabN_msk (right_norm hr), tabN_msk hr, msk_norm e (Rt.of hr)]
end Go.Proofs.YtpdhoghkoakojaaGreatDoor.E
namespace Go.Proofs.YtpdhoghkoakojaaGreatDoor.E
open Go.RowKit Go.Proofs.YtpdhoghkoakojaaGreatDoorW.PrintWords Go.Proofs.YtpdhoghkoakojaaGreatDoorW.PrintLast Go.Proofs.YtpdhoghkoakojaaGreatDoorW.PrintMore
set_option linter.unusedVariables false
set_option linter.unusedSimpArgs false
theorem normal_v (e y : Ex) (er : Int) (hy : normalRes e = (y, er)) (A : Option Addr) (c : Nat) (w : World) (hT : TabW w) (hRg : rngF e = true) (hC : Kd.C KX w A e.f6.length e.f6) (hc : e.f6.length ≤ c) :
    Calls Tryz.prog 5 #[.agg (exC e A c)] w fun r w' => ∃ D k, r = .returned (.tuple #[.agg (exC y D k), .int .i64 er]) ∧ y.f6.length ≤ k ∧ Kd.C KX w' D y.f6.length y.f6 ∧ Below w.heap.size w w' := by
  refine Calls.mono (Normal_ok e A c w hT hRg hC hc) ?_
  rintro r w' ⟨D, k, h1, h3, h4, h5⟩
  rw [hy] at h1 h3 h4
  exact ⟨D, k, h1, h3, Kd.F_now h4, h5⟩
def valR.T : Bool × List (List Nat × List Nat) := (true, [([], []), ([0], [0]), ([1], [1]), ([2, 1], [1, 2]), ([1], [1]), ([4, 1], [1, 4]), ([3, 5, 1], [1, 3, 5]), ([1, 6], [1, 6]), ([7, 1], [7]), ([8], [8]), ([9, 8], [8, 9]), ([10, 8, 8], [8, 10]), ([11], [11]), ([11], [11]), ([12, 13, 11], [11, 12, 13]), ([11, 14, 8], [8, 11, 14]), ([8, 15], [8, 15]), ([16, 11], [16]), ([17], [17]), ([18, 17, 17], [17, 18]), ([17], [17]), ([20, 19, 17], [17, 20]), ([19, 21, 17], [17, 19, 21]), ([17, 22], [17, 22]), ([23, 21], [23]), ([24], [24]), ([25, 24, 24], [24, 25]), ([24], [24]), ([27, 26, 24], [24, 27]), ([26, 28, 24], [24, 26, 28]), ([24, 29], [24, 29]), ([30, 28, 0, 1, 2, 3, 4, 5, 6, 7, 8, 9, 10, 11, 12, 13, 14, 15, 16, 17, 18, 19, 20, 21, 22, 23, 24, 25, 26, 27, 28, 29, 30], [30])])
def valR.B : List Nat := [0, 1, 3, 7, 3, 19, 63, 127, 255, 511, 1023, 2047, 4095, 4095, 16383, 32767, 65535, 131071, 262143, 524287, 262143, 2097151, 4194303, 8388607, 16777215, 33554431, 67108863, 33554431, 268435455, 536870911, 1073741823, 2147483647]
theorem valR.tab : rtab .any (opsOf Tryz.f3 7) = valR.T := by kernel_rfl
theorem valR.bits : waitsOk valR.T.2 valR.B = true := by kernel_rfl
def HV (g : Nat) (e : Ex) (A : Option Addr) (c : Nat) (g8 : Nat) (y : Ex) (D : Option Addr) (k : Nat) (ga : Nat) (v : Va) (gb : Nat) (u : Va) (w' : World) : Prop := w'.cell? ⟨g, 0, none⟩ = some (.int .i64 e.f0) ∧ w'.cell? ⟨g, 1, none⟩ = some (.int .i64 e.f1.f0) ∧ w'.cell? ⟨g, 2, none⟩ = some (.int .i64 e.f1.f1) ∧ w'.cell? ⟨g, 3, none⟩ = some (.string e.f1.f2) ∧ w'.cell? ⟨g, 4, none⟩ = some (.int .i64 e.f2) ∧ w'.cell? ⟨g, 5, none⟩ = some (.int .i64 e.f3) ∧ w'.cell? ⟨g, 6, none⟩ = some (.int .i64 e.f4) ∧ w'.cell? ⟨g, 7, none⟩ = some (.string e.f5) ∧ w'.cell? ⟨g, 8, none⟩ = some (.slice A e.f6.length c) ∧ w'.cell? ⟨g8, 0, none⟩ = some (.int .i64 y.f0) ∧ w'.cell? ⟨g8, 1, none⟩ = some (.int .i64 y.f1.f0) ∧ w'.cell? ⟨g8, 2, none⟩ = some (.int .i64 y.f1.f1) ∧ w'.cell? ⟨g8, 3, none⟩ = some (.string y.f1.f2) ∧ w'.cell? ⟨g8, 4, none⟩ = some (.int .i64 y.f2) ∧ w'.cell? ⟨g8, 5, none⟩ = some (.int .i64 y.f3) ∧ w'.cell? ⟨g8, 6, none⟩ = some (.int .i64 y.f4) ∧ w'.cell? ⟨g8, 7, none⟩ = some (.string y.f5) ∧ w'.cell? ⟨g8, 8, none⟩ = some (.slice D y.f6.length k) ∧ w'.cell? ⟨ga, 0, none⟩ = some (.int .i64 v.f0) ∧ w'.cell? ⟨ga, 1, none⟩ = some (.int .i64 v.f1) ∧ w'.cell? ⟨ga, 2, none⟩ = some (.string v.f2) ∧ w'.cell? ⟨gb, 0, none⟩ = some (.int .i64 u.f0) ∧ w'.cell? ⟨gb, 1, none⟩ = some (.int .i64 u.f1) ∧ w'.cell? ⟨gb, 2, none⟩ = some (.string u.f2)
theorem HV.below {g : Nat} {e : Ex} {A : Option Addr} {c g8 : Nat} {y : Ex} {D : Option Addr} {k ga : Nat} {v : Va} {gb : Nat} {u : Va} {w w1 : World} (h : HV g e A c g8 y D k ga v gb u w) (hb : Below w.heap.size w w1) : HV g e A c g8 y D k ga v gb u w1 := by
  obtain ⟨s0, s1, s2, s3, s4, s5, s6, s7, s8, s9, s10, s11, s12, s13, s14, s15, s16, s17, s18, s19, s20, s21, s22, s23⟩ := h
  exact ⟨pw_cell_below hb s0, pw_cell_below hb s1, pw_cell_below hb s2, pw_cell_below hb s3, pw_cell_below hb s4, pw_cell_below hb s5, pw_cell_below hb s6, pw_cell_below hb s7, pw_cell_below hb s8, pw_cell_below hb s9, pw_cell_below hb s10, pw_cell_below hb s11, pw_cell_below hb s12, pw_cell_below hb s13, pw_cell_below hb s14, pw_cell_below hb s15, pw_cell_below hb s16, pw_cell_below hb s17, pw_cell_below hb s18, pw_cell_below hb s19, pw_cell_below hb s20, pw_cell_below hb s21, pw_cell_below hb s22, pw_cell_below hb s23⟩
set_option maxHeartbeats 8000000 in
set_option maxRecDepth 100000 in
theorem values_ok (e : Ex) (rows : List (List Va)) (ps : List Va) (A A1 A2 : Option Addr) (c c1 c2 : Nat) (w : World) (hT : TabW w) (hg : rngF e = true) (hR : InR rows ps) (hc : e.f6.length ≤ c) (hC : Kd.C KX w A e.f6.length e.f6) (hc1 : rows.length ≤ c1) (hC1 : Kd.C (Kd.slice 23 k23) w A1 rows.length rows) (hc2 : ps.length ≤ c2) (hC2 : Kd.C k23 w A2 ps.length ps) :
    Calls Tryz.prog 3 #[.agg (exC e A c), .slice A1 rows.length c1, .slice A2 ps.length c2] w fun r w' => r = .returned (.bool true) ∧ Below w.heap.size w w' := by
  have HT := Lib.hid hT; have HG := Lib.hid hg; have HIR := Lib.hid hR; have HC := Lib.hid hC; have HC1 := Lib.hid hC1; have HC2 := Lib.hid hC2; clear hT hg hR hC hC1 hC2
  obtain ⟨⟨y, er⟩, hy⟩ : ∃ q, normalRes e = q := ⟨_, rfl⟩
  have HY := Lib.hid hy; clear hy
  unfold exC
  go_enter Tryz.func3, Tryz.ntmps3
  go_upto_region 1 with (first | ((with_reducible refine gate_dst (N := 3) rfl ?_); refine box_event rfl (N := 3) rfl (cs := exC e A c) (t := 26) (by first | rfl | (go_simp; done) | (go_simp; rfl)) ?_; intro g hgg w1 hbg hBg;  have HG1 := Lib.hid hbg; have HB1 := Lib.hid hBg; have hgw : w.heap.size ≤ g := (by omega); clear hgg hbg hBg))
  have HEX := Lib.hid (examples_ok w1 (tab_at HT.out HB1.out))
  go_upto_region 2 with (go_at_call 4; refine HEX.out.mono ?_; rintro rr w2 ⟨rfl, hB2⟩; have HG2 := Lib.hid ((hB2.block g (blk_lt HG1.out)).trans HG1.out); have HB2 := Lib.hid (HB1.out.trans (hB2.mono HB1.out.size)); clear hB2)
  clear HEX HG1 HB1
  obtain ⟨hz0, hz1, hz2, hz3, hz4, hz5, hz6, hz7, hz8⟩ := bkC9 HG2.out
  have HNO := Lib.hid (normal_v e y er HY.out A c w2 (tab_at HT.out HB2.out) HG.out (Kd.C_below HC.out HB2.out) hc)
  unfold exC at HNO
  go_upto_region 3 with (first | (go_at_call 5; refine HNO.out.mono ?_; rintro rr w3 ⟨D, k, rfl, hk, hCD, hB3⟩; have HB3 := Lib.hid hB3; have HCD := Lib.hid hCD; clear hB3 hCD) | ((with_reducible refine gate_dst (N := 8) rfl ?_); refine box_event rfl (N := 8) rfl (cs := zerosE) (t := 26) (by first | rfl | (go_simp; done) | (go_simp; rfl)) ?_; intro g8 hgg w4 hbg8 hBg8;  have HB4 := Lib.hid hBg8; have hg8w : w3.heap.size ≤ g8 := (by omega); clear hgg) | ((with_reducible refine gate_store (p := 8) (v := .tmp 18) rfl ?_); refine wpList_store_row rfl 26 (.tmp 8) (.tmp 18) rfl g8 (exC y D k) rfl rfl 26 zerosE hbg8 (info_ex _ _ _) rfl (one_ex _ _ _) ?_))
  have hx5 := setRow_at w4 g8 _ zerosE (exC y D k) hbg8
  have hB35 : Below w3.heap.size w3 (w4.setRow g8 (exC y D k)) := below_setRow' HB4.out (by omega) _
  clear hbg8 hBg8
  generalize w4.setRow g8 (exC y D k) = w5 at hx5 hB35 ⊢
  have hB25 := HB3.out.trans (hB35.mono HB3.out.size)
  have HCD5 := Lib.hid (Kd.C_below HCD.out hB35)
  have HB5 := Lib.hid (HB2.out.trans (hB25.mono HB2.out.size))
  have HX5 := Lib.hid hx5
  have HG5 := Lib.hid ((hB25.block g (blk_lt HG2.out)).trans HG2.out)
  clear hx5 hB35 hB25 HCD HB4 HB3 HNO hz0 hz1 hz2 hz3 hz4 hz5 hz6 hz7 hz8 HG2 HB2
  cases hr : rightB e with
  | false =>
    have her : er = 1 := by have h := HY.out; unfold normalRes at h; rw [if_neg (by rw [hr]; decide)] at h; exact (congrArg Prod.snd h).symm
    subst her
    clear hr
    go_wp2_with fail
    go_ret
    exact ⟨rfl, HB5.out⟩
  | true =>
    have her : er = 0 := by have h := HY.out; unfold normalRes at h; rw [if_pos hr] at h; exact (congrArg Prod.snd h).symm
    have hye : normF e = y := by have h := HY.out; unfold normalRes at h; rw [if_pos hr] at h; exact congrArg Prod.fst h
    subst her
    have HREL := Lib.hid (res_norm HIR.out hr HG.out)
    have HTAB := Lib.hid (tab_norm hr)
    have HSAF := Lib.hid (safe_norm hr)
    rw [hye] at HREL HTAB HSAF
    clear hye hr
    obtain ⟨⟨v, er1⟩, hv⟩ : ∃ q, evalRes e rows ps = q := ⟨_, rfl⟩
    obtain ⟨⟨u, er2⟩, hu⟩ : ∃ q, evalRes y rows ps = q := ⟨_, rfl⟩
    rw [hv, hu] at HREL
    have HE1 := Eval_ok e A A1 A2 c c1 c2 rows ps w5 (Kd.C_below HC.out HB5.out) hc (Kd.C_below HC1.out HB5.out) hc1 (Kd.C_below HC2.out HB5.out) hc2
    rw [hv] at HE1
    have HE1 := Lib.hid HE1
    have HU := Lib.hid hu
    clear hv hu
    unfold exC at HE1
    obtain ⟨hz0, hz1, hz2, hz3, hz4, hz5, hz6, hz7, hz8⟩ := bkC9 HG5.out
    go_upto_region 6 with (first | (go_at_call 6; refine HE1.out.mono ?_; rintro rr w6 ⟨rfl, hB6⟩; have HB6 := Lib.hid hB6; clear hB6) | ((with_reducible refine gate_dst (N := 10) rfl ?_); refine box_event rfl (N := 10) rfl (cs := vaC zeroV) (t := 23) (by first | rfl | (go_simp; done) | (go_simp; rfl)) ?_; intro g10 hgg w7 hbg10 hBg10;  have HB7 := Lib.hid hBg10; have hg10w : w6.heap.size ≤ g10 := (by omega); clear hgg) | ((with_reducible refine gate_store (p := 10) (v := .tmp 28) rfl ?_); refine wpList_store_row rfl 23 (.tmp 10) (.tmp 28) rfl g10 (vaC v) rfl rfl 23 (vaC zeroV) hbg10 info_va rfl (by simp [vaC, Value.oneCell']) ?_))
    have hx8 := setRow_at w7 g10 _ (vaC zeroV) (vaC v) hbg10
    have hB68 : Below w6.heap.size w6 (w7.setRow g10 (vaC v)) := below_setRow' HB7.out (by omega) _
    clear hbg10 hBg10
    generalize w7.setRow g10 (vaC v) = w8 at hx8 hB68 ⊢
    have hB58 := HB6.out.trans (hB68.mono HB6.out.size)
    have HB8 := Lib.hid (HB5.out.trans (hB58.mono HB5.out.size))
    have HX8 := Lib.hid hx8
    have HY8 := Lib.hid ((hB58.block g8 (blk_lt HX5.out)).trans HX5.out)
    have HG8 := Lib.hid ((hB58.block g (blk_lt HG5.out)).trans HG5.out)
    have HCD8 := Lib.hid (Kd.C_below HCD5.out hB58)
    clear hx8 hB68 hB58 HB6 HB7 HB5 HX5 HG5 HCD5 HE1 hz0 hz1 hz2 hz3 hz4 hz5 hz6 hz7 hz8
    have HE2 := Eval_ok y D A1 A2 k c1 c2 rows ps w8 HCD8.out hk (Kd.C_below HC1.out HB8.out) hc1 (Kd.C_below HC2.out HB8.out) hc2
    rw [HU.out] at HE2
    have HE2 := Lib.hid HE2
    unfold exC at HE2
    obtain ⟨hz0, hz1, hz2, hz3, hz4, hz5, hz6, hz7, hz8⟩ := bkC9 HY8.out
    go_upto_region 7 with (first | (go_at_call 6; refine HE2.out.mono ?_; rintro rr w9 ⟨rfl, hB9⟩; have HB9 := Lib.hid hB9; clear hB9) | ((with_reducible refine gate_dst (N := 12) rfl ?_); refine box_event rfl (N := 12) rfl (cs := vaC zeroV) (t := 23) (by first | rfl | (go_simp; done) | (go_simp; rfl)) ?_; intro g12 hgg w10 hbg12 hBg12;  have HB10 := Lib.hid hBg12; have hg12w : w9.heap.size ≤ g12 := (by omega); clear hgg) | ((with_reducible refine gate_store (p := 12) (v := .tmp 35) rfl ?_); refine wpList_store_row rfl 23 (.tmp 12) (.tmp 35) rfl g12 (vaC u) rfl rfl 23 (vaC zeroV) hbg12 info_va rfl (by simp [vaC, Value.oneCell']) ?_))
    have hx11 := setRow_at w10 g12 _ (vaC zeroV) (vaC u) hbg12
    have hB911 : Below w9.heap.size w9 (w10.setRow g12 (vaC u)) := below_setRow' HB10.out (by omega) _
    clear hbg12 hBg12
    generalize w10.setRow g12 (vaC u) = w11 at hx11 hB911 ⊢
    have hB811 := HB9.out.trans (hB911.mono HB9.out.size)
    have HB11 := Lib.hid (HB8.out.trans (hB811.mono HB8.out.size))
    have hy11 := (hB811.block g8 (blk_lt HY8.out)).trans HY8.out
    have hg11 := (hB811.block g (blk_lt HG8.out)).trans HG8.out
    have hv11 := (hB811.block g10 (blk_lt HX8.out)).trans HX8.out
    have HH : Hid (HV g e A c g8 y D k g10 v g12 u w11.drew) := Lib.hid ⟨(bkC hg11 0).trans rfl, (bkC hg11 1).trans rfl, (bkC hg11 2).trans rfl, (bkC hg11 3).trans rfl, (bkC hg11 4).trans rfl, (bkC hg11 5).trans rfl, (bkC hg11 6).trans rfl, (bkC hg11 7).trans rfl, (bkC hg11 8).trans rfl, (bkC hy11 0).trans rfl, (bkC hy11 1).trans rfl, (bkC hy11 2).trans rfl, (bkC hy11 3).trans rfl, (bkC hy11 4).trans rfl, (bkC hy11 5).trans rfl, (bkC hy11 6).trans rfl, (bkC hy11 7).trans rfl, (bkC hy11 8).trans rfl, (bkC hv11 0).trans rfl, (bkC hv11 1).trans rfl, (bkC hv11 2).trans rfl, (bkC hx11 0).trans rfl, (bkC hx11 1).trans rfl, (bkC hx11 2).trans rfl⟩
    have HCD11 := Lib.hid (Kd.C_below HCD8.out hB811)
    clear hx11 hB911 hB811 hy11 hg11 hv11 HB9 HB10 HB8 HX8 HY8 HG8 HCD8 HE2 hz0 hz1 hz2 hz3 hz4 hz5 hz6 hz7 hz8
    have HTY : Hid (∀ W2, Below w11.heap.size w11 W2 → Calls Tryz.prog 7 #[.agg #[.int .i64 y.f0, .int .i64 y.f1.f0, .int .i64 y.f1.f1, .string y.f1.f2, .int .i64 y.f2, .int .i64 y.f3, .int .i64 y.f4, .string y.f5, .slice D y.f6.length k]] W2 fun r w' => r = .returned (.int .i64 (tabN e)) ∧ Below W2.heap.size W2 w') := Lib.hid (fun W2 hW => by have h := tables_ok y D k W2 (Kd.C_below HCD11.out hW) hk; rw [HTAB.out] at h; exact h)
    have HTE : Hid (∀ W2, Below w11.heap.size w11 W2 → Calls Tryz.prog 7 #[.agg #[.int .i64 e.f0, .int .i64 e.f1.f0, .int .i64 e.f1.f1, .string e.f1.f2, .int .i64 e.f2, .int .i64 e.f3, .int .i64 e.f4, .string e.f5, .slice A e.f6.length c]] W2 fun r w' => r = .returned (.int .i64 (tabN e)) ∧ Below W2.heap.size W2 w') := Lib.hid (fun W2 hW => tables_ok e A c W2 (Kd.C_below HC.out (HB11.out.trans (hW.mono HB11.out.size))) hc)
    have HSY : Hid (∀ W2, Below w11.heap.size w11 W2 → Calls Tryz.prog 8 #[.agg #[.int .i64 y.f0, .int .i64 y.f1.f0, .int .i64 y.f1.f1, .string y.f1.f2, .int .i64 y.f2, .int .i64 y.f3, .int .i64 y.f4, .string y.f5, .slice D y.f6.length k]] W2 fun r w' => r = .returned (.bool (safeB e)) ∧ Below W2.heap.size W2 w') := Lib.hid (fun W2 hW => by have h := safe_ok y D k W2 (Kd.C_below HCD11.out hW) hk; rw [HSAF.out] at h; exact h)
    have HSE : Hid (∀ W2, Below w11.heap.size w11 W2 → Calls Tryz.prog 8 #[.agg #[.int .i64 e.f0, .int .i64 e.f1.f0, .int .i64 e.f1.f1, .string e.f1.f2, .int .i64 e.f2, .int .i64 e.f3, .int .i64 e.f4, .string e.f5, .slice A e.f6.length c]] W2 fun r w' => r = .returned (.bool (safeB e)) ∧ Below W2.heap.size W2 w') := Lib.hid (fun W2 hW => safe_ok e A c W2 (Kd.C_below HC.out (HB11.out.trans (hW.mono HB11.out.size))) hc)
    have HBc := Lib.hid (below_drew (Below.refl w11.heap.size w11))
    have hrel := HREL.out
    clear HREL HTAB HSAF HCD11
    generalize tabN e = tn at HTY HTE
    generalize safeB e = sb at HSY HSE
    rcases hrel with ⟨h1, h2⟩ | ⟨h1, h2⟩
    · obtain ⟨rfl, rfl⟩ : v = u ∧ er1 = er2 := by injection h2 with a b; exact ⟨a.symm, b.symm⟩
      have h1 : er1 = 0 := h1
      subst h1
      clear h2
      refine start_ (n := 32) (S := HV g e A c g8 y D k g10 v g12 v) (ds := []) #[false, false, false, false, false, false, false, false, false, false, false, false, false, false, false, false, false, false, false, false, false, false, false, false, false, false, false, false, false, false, false, false] (by kernel_rfl) rfl rfl (HH.out) (fun hHeld => ?_); refine with_tabW valR.tab valR.bits (fun HT_ HW_ => ?_)
      generalize w11.drew = vs at HBc hHeld ⊢
      refine pure_ (i := 0) (N := (some 37)) (v := ?_) (a' := ?_) #[true, false, false, false, false, false, false, false, false, false, false, false, false, false, false, false, false, false, false, false, false, false, false, false, false, false, false, false, false, false, false, false] rfl rfl (any_of HT_.out (by kernel_rfl)) (fun _ _ _ h => h) (Or.inl ⟨by rfl, ?_⟩) ?_ ?_
      rotate_left
      · intro w'
        go_simp
        with_reducible rfl
      rotate_left
      · simp only [Act.put, List.setIfInBounds_toArray, List.set_cons_zero, List.set_cons_succ]
        rfl
      refine pure_ (i := 1) (N := (some 38)) (v := ?_) (a' := ?_) #[true, true, false, false, false, false, false, false, false, false, false, false, false, false, false, false, false, false, false, false, false, false, false, false, false, false, false, false, false, false, false, false] rfl rfl (any_of HT_.out (by kernel_rfl)) (fun _ _ _ h => h) (Or.inl ⟨by rfl, ?_⟩) ?_ ?_
      rotate_left
      · intro w'
        go_simp
        with_reducible rfl
      rotate_left
      · simp only [Act.put, List.setIfInBounds_toArray, List.set_cons_zero, List.set_cons_succ]
        rfl
      refine pure_ (i := 2) (N := (some 39)) (v := ?_) (a' := ?_) #[true, true, true, false, false, false, false, false, false, false, false, false, false, false, false, false, false, false, false, false, false, false, false, false, false, false, false, false, false, false, false, false] rfl rfl (any_of HT_.out (by kernel_rfl)) (fun _ _ _ h => h) (Or.inl ⟨by rfl, ?_⟩) ?_ ?_
      rotate_left
      · intro w'
        go_simp
        with_reducible rfl
      rotate_left
      · simp only [Act.put, List.setIfInBounds_toArray, List.set_cons_zero, List.set_cons_succ]
        rfl
      refine pure_ (i := 3) (N := (some 40)) (v := ?_) (a' := ?_) #[true, true, true, true, false, false, false, false, false, false, false, false, false, false, false, false, false, false, false, false, false, false, false, false, false, false, false, false, false, false, false, false] rfl rfl (any_of HT_.out (by kernel_rfl)) (fun _ _ _ h => h) (Or.inl ⟨by rfl, ?_⟩) ?_ ?_
      rotate_left
      · intro w'
        go_simp
        with_reducible rfl
      rotate_left
      · simp only [Act.put, List.setIfInBounds_toArray, List.set_cons_zero, List.set_cons_succ]
        rfl
      refine pure_ (i := 4) (N := (some 41)) (v := ?_) (a' := ?_) #[true, true, true, true, true, false, false, false, false, false, false, false, false, false, false, false, false, false, false, false, false, false, false, false, false, false, false, false, false, false, false, false] rfl rfl (any_of HT_.out (by kernel_rfl)) (fun _ _ _ h => h) (Or.inl ⟨by rfl, ?_⟩) ?_ ?_
      rotate_left
      · intro w'
        go_simp
        with_reducible rfl
      rotate_left
      · simp only [Act.put, List.setIfInBounds_toArray, List.set_cons_zero, List.set_cons_succ]
        rfl
      refine pure_ (i := 5) (N := (some 42)) (v := ?_) (a' := ?_) #[true, true, true, true, true, true, false, false, false, false, false, false, false, false, false, false, false, false, false, false, false, false, false, false, false, false, false, false, false, false, false, false] rfl rfl (any_of HT_.out (by kernel_rfl)) (fun _ _ _ h => h) (Or.inl ⟨by rfl, ?_⟩) ?_ ?_
      rotate_left
      · intro w'
        go_simp
        with_reducible rfl
      rotate_left
      · simp only [Act.put, List.setIfInBounds_toArray, List.set_cons_zero, List.set_cons_succ]
        rfl
      refine pure_ (i := 6) (N := (some 43)) (v := ?_) (a' := ?_) #[true, true, true, true, true, true, true, false, false, false, false, false, false, false, false, false, false, false, false, false, false, false, false, false, false, false, false, false, false, false, false, false] rfl rfl (any_of HT_.out (by kernel_rfl)) (fun _ _ _ h => h) (Or.inl ⟨by rfl, ?_⟩) ?_ ?_
      rotate_left
      · intro w'
        go_simp
        with_reducible rfl
      rotate_left
      · simp only [Act.put, List.setIfInBounds_toArray, List.set_cons_zero, List.set_cons_succ]
        rfl
      refine pure_ (i := 7) (N := (some 44)) (v := ?_) (a' := ?_) #[true, true, true, true, true, true, true, true, false, false, false, false, false, false, false, false, false, false, false, false, false, false, false, false, false, false, false, false, false, false, false, false] rfl rfl (any_of HT_.out (by kernel_rfl)) (fun _ _ _ h => h) (Or.inl ⟨by rfl, ?_⟩) ?_ ?_
      rotate_left
      · intro w'
        go_simp
        with_reducible rfl
      rotate_left
      · simp only [Act.put, List.setIfInBounds_toArray, List.set_cons_zero, List.set_cons_succ]
        rfl
      refine pure_ (i := 8) (N := (some 45)) (v := ?_) (a' := ?_) #[true, true, true, true, true, true, true, true, true, false, false, false, false, false, false, false, false, false, false, false, false, false, false, false, false, false, false, false, false, false, false, false] rfl rfl (any_of HT_.out (by kernel_rfl)) (fun _ _ _ h => h) (Or.inl ⟨by rfl, ?_⟩) ?_ ?_
      rotate_left
      · intro w'
        go_simp
        with_reducible rfl
      rotate_left
      · simp only [Act.put, List.setIfInBounds_toArray, List.set_cons_zero, List.set_cons_succ]
        rfl
      refine pure_ (i := 9) (N := (some 46)) (v := ?_) (a' := ?_) #[true, true, true, true, true, true, true, true, true, true, false, false, false, false, false, false, false, false, false, false, false, false, false, false, false, false, false, false, false, false, false, false] rfl rfl (any_of HT_.out (by kernel_rfl)) (fun _ _ _ h => h) (Or.inl ⟨by rfl, ?_⟩) ?_ ?_
      rotate_left
      · intro w'
        go_simp
        with_reducible rfl
      rotate_left
      · simp only [Act.put, List.setIfInBounds_toArray, List.set_cons_zero, List.set_cons_succ]
        rfl
      refine pure_ (i := 10) (N := (some 47)) (v := ?_) (a' := ?_) #[true, true, true, true, true, true, true, true, true, true, true, false, false, false, false, false, false, false, false, false, false, false, false, false, false, false, false, false, false, false, false, false] rfl rfl (any_of HT_.out (by kernel_rfl)) (fun _ _ _ h => h) (Or.inl ⟨by rfl, ?_⟩) ?_ ?_
      rotate_left
      · intro w'
        go_simp
        with_reducible rfl
      rotate_left
      · simp only [Act.put, List.setIfInBounds_toArray, List.set_cons_zero, List.set_cons_succ]
        rfl
      refine pure_ (i := 11) (N := (some 48)) (v := ?_) (a' := ?_) #[true, true, true, true, true, true, true, true, true, true, true, true, false, false, false, false, false, false, false, false, false, false, false, false, false, false, false, false, false, false, false, false] rfl rfl (any_of HT_.out (by kernel_rfl)) (fun _ _ _ h => h) (Or.inl ⟨by rfl, ?_⟩) ?_ ?_
      rotate_left
      · intro w'
        go_simp
        with_reducible rfl
      rotate_left
      · simp only [Act.put, List.setIfInBounds_toArray, List.set_cons_zero, List.set_cons_succ]
        rfl
      refine take_ (i := 12) (N := (some 49)) (v := ?_) (a' := ?_) #[true, true, true, true, true, true, true, true, true, true, true, true, true, false, false, false, false, false, false, false, false, false, false, false, false, false, false, false, false, false, false, false] rfl rfl (take_ofW HT_.out HW_.out (by kernel_rfl)) (fun _ _ _ h => h) (Or.inl ⟨by rfl, ?_⟩) hHeld ?_ ?_
      rotate_left
      · rintro w' ⟨s0, s1, s2, s3, s4, s5, s6, s7, s8, s9, s10, s11, s12, s13, s14, s15, s16, s17, s18, s19, s20, s21, s22, s23⟩
        go_simp
        with_reducible rfl
      rotate_left
      · simp only [Act.put, List.setIfInBounds_toArray, List.set_cons_zero, List.set_cons_succ]
        rfl
      refine take_ (i := 13) (N := (some 50)) (v := ?_) (a' := ?_) #[true, true, true, true, true, true, true, true, true, true, true, true, true, true, false, false, false, false, false, false, false, false, false, false, false, false, false, false, false, false, false, false] rfl rfl (take_ofW HT_.out HW_.out (by kernel_rfl)) (fun _ _ _ h => h) (Or.inl ⟨by rfl, ?_⟩) hHeld ?_ ?_
      rotate_left
      · rintro w' ⟨s0, s1, s2, s3, s4, s5, s6, s7, s8, s9, s10, s11, s12, s13, s14, s15, s16, s17, s18, s19, s20, s21, s22, s23⟩
        go_simp
        with_reducible rfl
      rotate_left
      · simp only [Act.put, List.setIfInBounds_toArray, List.set_cons_zero, List.set_cons_succ]
        rfl
      refine pure_ (i := 14) (N := (some 51)) (v := ?_) (a' := ?_) #[true, true, true, true, true, true, true, true, true, true, true, true, true, true, true, false, false, false, false, false, false, false, false, false, false, false, false, false, false, false, false, false] rfl rfl (any_of HT_.out (by kernel_rfl)) (fun _ _ _ h => h) (Or.inl ⟨by rfl, ?_⟩) ?_ ?_
      rotate_left
      · intro w'
        go_simp
        with_reducible rfl
      rotate_left
      · simp only [Act.put, List.setIfInBounds_toArray, List.set_cons_zero, List.set_cons_succ]
        rfl
      refine pure_ (i := 15) (N := (some 52)) (v := ?_) (a' := ?_) #[true, true, true, true, true, true, true, true, true, true, true, true, true, true, true, true, false, false, false, false, false, false, false, false, false, false, false, false, false, false, false, false] rfl rfl (any_of HT_.out (by kernel_rfl)) (fun _ _ _ h => h) (Or.inl ⟨by rfl, ?_⟩) ?_ ?_
      rotate_left
      · intro w'
        go_simp
        with_reducible rfl
      rotate_left
      · simp only [Act.put, List.setIfInBounds_toArray, List.set_cons_zero, List.set_cons_succ]
        rfl
      refine pure_ (i := 16) (N := (some 53)) (v := ?_) (a' := ?_) #[true, true, true, true, true, true, true, true, true, true, true, true, true, true, true, true, true, false, false, false, false, false, false, false, false, false, false, false, false, false, false, false] rfl rfl (any_of HT_.out (by kernel_rfl)) (fun _ _ _ h => h) (Or.inl ⟨by rfl, ?_⟩) ?_ ?_
      rotate_left
      · intro w'
        go_simp
        with_reducible rfl
      rotate_left
      · simp only [Act.put, List.setIfInBounds_toArray, List.set_cons_zero, List.set_cons_succ]
        rfl
      refine pure_ (i := 17) (N := (some 54)) (v := ?_) (a' := ?_) #[true, true, true, true, true, true, true, true, true, true, true, true, true, true, true, true, true, true, false, false, false, false, false, false, false, false, false, false, false, false, false, false] rfl rfl (any_of HT_.out (by kernel_rfl)) (fun _ _ _ h => h) (Or.inl ⟨by rfl, ?_⟩) ?_ ?_
      rotate_left
      · intro w'
        go_simp
        with_reducible rfl
      rotate_left
      · simp only [Act.put, List.setIfInBounds_toArray, List.set_cons_zero, List.set_cons_succ]
        rfl
      refine take_ (i := 18) (N := (some 55)) (v := ?_) (a' := ?_) #[true, true, true, true, true, true, true, true, true, true, true, true, true, true, true, true, true, true, true, false, false, false, false, false, false, false, false, false, false, false, false, false] rfl rfl (take_ofW HT_.out HW_.out (by kernel_rfl)) (fun _ _ _ h => h) (Or.inl ⟨by rfl, ?_⟩) hHeld ?_ ?_
      rotate_left
      · rintro w' ⟨s0, s1, s2, s3, s4, s5, s6, s7, s8, s9, s10, s11, s12, s13, s14, s15, s16, s17, s18, s19, s20, s21, s22, s23⟩
        go_simp
        with_reducible rfl
      rotate_left
      · simp only [Act.put, List.setIfInBounds_toArray, List.set_cons_zero, List.set_cons_succ]
        rfl
      refine take_ (i := 20) (N := (some 57)) (v := ?_) (a' := ?_) #[true, true, true, true, true, true, true, true, true, true, true, true, true, true, true, true, true, true, true, false, true, false, false, false, false, false, false, false, false, false, false, false] rfl rfl (take_ofW HT_.out HW_.out (by kernel_rfl)) (fun _ _ _ h => h) (Or.inl ⟨by rfl, ?_⟩) hHeld ?_ ?_
      rotate_left
      · rintro w' ⟨s0, s1, s2, s3, s4, s5, s6, s7, s8, s9, s10, s11, s12, s13, s14, s15, s16, s17, s18, s19, s20, s21, s22, s23⟩
        go_simp
        with_reducible rfl
      rotate_left
      · simp only [Act.put, List.setIfInBounds_toArray, List.set_cons_zero, List.set_cons_succ]
        rfl
      refine one_ (i := 19) (N := (some 56)) #[true, true, true, true, true, true, true, true, true, true, true, true, true, true, true, true, true, true, true, true, true, false, false, false, false, false, false, false, false, false, false, false] rfl rfl (one_of HT_.out (by kernel_rfl)) (by decide) (fun K hK => ?_)
      refine goes_ Tryz.func7 (by kernel_rfl) rfl #[.agg #[.int .i64 y.f0, .int .i64 y.f1.f0, .int .i64 y.f1.f1, .string y.f1.f2, .int .i64 y.f2, .int .i64 y.f3, .int .i64 y.f4, .string y.f5, .slice D y.f6.length k]] (by rfl) rfl rfl (by (try simp only [List.map_toArray, List.map_cons, List.map_nil]); first | done | rfl) ?_
      refine (HTY.out _ HBc.out).mono ?_
      rintro rr vn ⟨rfl, hN⟩
      refine ⟨_, rfl, ?_⟩
      have hNN := hN
      replace HBc := Lib.hid (HBc.out.trans (hN.mono HBc.out.size))
      clear hN
      refine hK.out _ _ (hHeld.below hNN) (fun hHeld => ?_)
      clear hK K
      refine norm_ (a' := ?_) ?_ ?_
      rotate_left
      · show Act.put _ (some 56) _ = _
        simp only [Act.put, List.setIfInBounds_toArray, List.set_cons_zero, List.set_cons_succ]
        rfl
      refine one_ (i := 21) (N := (some 58)) #[true, true, true, true, true, true, true, true, true, true, true, true, true, true, true, true, true, true, true, true, true, true, false, false, false, false, false, false, false, false, false, false] rfl rfl (one_of HT_.out (by kernel_rfl)) (by decide) (fun K hK => ?_)
      refine goes_ Tryz.func7 (by kernel_rfl) rfl #[.agg #[.int .i64 e.f0, .int .i64 e.f1.f0, .int .i64 e.f1.f1, .string e.f1.f2, .int .i64 e.f2, .int .i64 e.f3, .int .i64 e.f4, .string e.f5, .slice A e.f6.length c]] (by rfl) rfl rfl (by (try simp only [List.map_toArray, List.map_cons, List.map_nil]); first | done | rfl) ?_
      refine (HTE.out _ HBc.out).mono ?_
      rintro rr vn ⟨rfl, hN⟩
      refine ⟨_, rfl, ?_⟩
      have hNN := hN
      replace HBc := Lib.hid (HBc.out.trans (hN.mono HBc.out.size))
      clear hN
      refine hK.out _ _ (hHeld.below hNN) (fun hHeld => ?_)
      clear hK K
      refine norm_ (a' := ?_) ?_ ?_
      rotate_left
      · show Act.put _ (some 58) _ = _
        simp only [Act.put, List.setIfInBounds_toArray, List.set_cons_zero, List.set_cons_succ]
        rfl
      refine pure_ (i := 22) (N := (some 59)) (v := ?_) (a' := ?_) #[true, true, true, true, true, true, true, true, true, true, true, true, true, true, true, true, true, true, true, true, true, true, true, false, false, false, false, false, false, false, false, false] rfl rfl (any_of HT_.out (by kernel_rfl)) (fun _ _ _ h => h) (Or.inl ⟨by rfl, ?_⟩) ?_ ?_
      rotate_left
      · intro w'
        go_simp
        with_reducible rfl
      rotate_left
      · simp only [Act.put, List.setIfInBounds_toArray, List.set_cons_zero, List.set_cons_succ]
        rfl
      refine pure_ (i := 23) (N := (some 60)) (v := ?_) (a' := ?_) #[true, true, true, true, true, true, true, true, true, true, true, true, true, true, true, true, true, true, true, true, true, true, true, true, false, false, false, false, false, false, false, false] rfl rfl (any_of HT_.out (by kernel_rfl)) (fun _ _ _ h => h) (Or.inl ⟨by rfl, ?_⟩) ?_ ?_
      rotate_left
      · intro w'
        go_simp
        with_reducible rfl
      rotate_left
      · simp only [Act.put, List.setIfInBounds_toArray, List.set_cons_zero, List.set_cons_succ]
        rfl
      refine pure_ (i := 24) (N := (some 61)) (v := ?_) (a' := ?_) #[true, true, true, true, true, true, true, true, true, true, true, true, true, true, true, true, true, true, true, true, true, true, true, true, true, false, false, false, false, false, false, false] rfl rfl (any_of HT_.out (by kernel_rfl)) (fun _ _ _ h => h) (Or.inl ⟨by rfl, ?_⟩) ?_ ?_
      rotate_left
      · intro w'
        go_simp
        with_reducible rfl
      rotate_left
      · simp only [Act.put, List.setIfInBounds_toArray, List.set_cons_zero, List.set_cons_succ]
        rfl
      refine take_ (i := 25) (N := (some 62)) (v := ?_) (a' := ?_) #[true, true, true, true, true, true, true, true, true, true, true, true, true, true, true, true, true, true, true, true, true, true, true, true, true, true, false, false, false, false, false, false] rfl rfl (take_ofW HT_.out HW_.out (by kernel_rfl)) (fun _ _ _ h => h) (Or.inl ⟨by rfl, ?_⟩) hHeld ?_ ?_
      rotate_left
      · rintro w' ⟨s0, s1, s2, s3, s4, s5, s6, s7, s8, s9, s10, s11, s12, s13, s14, s15, s16, s17, s18, s19, s20, s21, s22, s23⟩
        go_simp
        with_reducible rfl
      rotate_left
      · simp only [Act.put, List.setIfInBounds_toArray, List.set_cons_zero, List.set_cons_succ]
        rfl
      refine take_ (i := 27) (N := (some 64)) (v := ?_) (a' := ?_) #[true, true, true, true, true, true, true, true, true, true, true, true, true, true, true, true, true, true, true, true, true, true, true, true, true, true, false, true, false, false, false, false] rfl rfl (take_ofW HT_.out HW_.out (by kernel_rfl)) (fun _ _ _ h => h) (Or.inl ⟨by rfl, ?_⟩) hHeld ?_ ?_
      rotate_left
      · rintro w' ⟨s0, s1, s2, s3, s4, s5, s6, s7, s8, s9, s10, s11, s12, s13, s14, s15, s16, s17, s18, s19, s20, s21, s22, s23⟩
        go_simp
        with_reducible rfl
      rotate_left
      · simp only [Act.put, List.setIfInBounds_toArray, List.set_cons_zero, List.set_cons_succ]
        rfl
      refine one_ (i := 26) (N := (some 63)) #[true, true, true, true, true, true, true, true, true, true, true, true, true, true, true, true, true, true, true, true, true, true, true, true, true, true, true, true, false, false, false, false] rfl rfl (one_of HT_.out (by kernel_rfl)) (by decide) (fun K hK => ?_)
      refine goes_ Tryz.func8 (by kernel_rfl) rfl #[.agg #[.int .i64 y.f0, .int .i64 y.f1.f0, .int .i64 y.f1.f1, .string y.f1.f2, .int .i64 y.f2, .int .i64 y.f3, .int .i64 y.f4, .string y.f5, .slice D y.f6.length k]] (by rfl) rfl rfl (by (try simp only [List.map_toArray, List.map_cons, List.map_nil]); first | done | rfl) ?_
      refine (HSY.out _ HBc.out).mono ?_
      rintro rr vn ⟨rfl, hN⟩
      refine ⟨_, rfl, ?_⟩
      have hNN := hN
      replace HBc := Lib.hid (HBc.out.trans (hN.mono HBc.out.size))
      clear hN
      refine hK.out _ _ (hHeld.below hNN) (fun hHeld => ?_)
      clear hK K
      refine norm_ (a' := ?_) ?_ ?_
      rotate_left
      · show Act.put _ (some 63) _ = _
        simp only [Act.put, List.setIfInBounds_toArray, List.set_cons_zero, List.set_cons_succ]
        rfl
      refine one_ (i := 28) (N := (some 65)) #[true, true, true, true, true, true, true, true, true, true, true, true, true, true, true, true, true, true, true, true, true, true, true, true, true, true, true, true, true, false, false, false] rfl rfl (one_of HT_.out (by kernel_rfl)) (by decide) (fun K hK => ?_)
      refine goes_ Tryz.func8 (by kernel_rfl) rfl #[.agg #[.int .i64 e.f0, .int .i64 e.f1.f0, .int .i64 e.f1.f1, .string e.f1.f2, .int .i64 e.f2, .int .i64 e.f3, .int .i64 e.f4, .string e.f5, .slice A e.f6.length c]] (by rfl) rfl rfl (by (try simp only [List.map_toArray, List.map_cons, List.map_nil]); first | done | rfl) ?_
      refine (HSE.out _ HBc.out).mono ?_
      rintro rr vn ⟨rfl, hN⟩
      refine ⟨_, rfl, ?_⟩
      have hNN := hN
      replace HBc := Lib.hid (HBc.out.trans (hN.mono HBc.out.size))
      clear hN
      refine hK.out _ _ (hHeld.below hNN) (fun hHeld => ?_)
      clear hK K
      refine norm_ (a' := ?_) ?_ ?_
      rotate_left
      · show Act.put _ (some 65) _ = _
        simp only [Act.put, List.setIfInBounds_toArray, List.set_cons_zero, List.set_cons_succ]
        rfl
      refine pure_ (i := 29) (N := (some 66)) (v := ?_) (a' := ?_) #[true, true, true, true, true, true, true, true, true, true, true, true, true, true, true, true, true, true, true, true, true, true, true, true, true, true, true, true, true, true, false, false] rfl rfl (any_of HT_.out (by kernel_rfl)) (fun _ _ _ h => h) (Or.inl ⟨by rfl, ?_⟩) ?_ ?_
      rotate_left
      · intro w'
        go_simp
        with_reducible rfl
      rotate_left
      · simp only [Act.put, List.setIfInBounds_toArray, List.set_cons_zero, List.set_cons_succ]
        rfl
      refine pure_ (i := 30) (N := (some 67)) (v := ?_) (a' := ?_) #[true, true, true, true, true, true, true, true, true, true, true, true, true, true, true, true, true, true, true, true, true, true, true, true, true, true, true, true, true, true, true, false] rfl rfl (any_of HT_.out (by kernel_rfl)) (fun _ _ _ h => h) (Or.inl ⟨by rfl, ?_⟩) ?_ ?_
      rotate_left
      · intro w'
        go_simp
        with_reducible rfl
      rotate_left
      · simp only [Act.put, List.setIfInBounds_toArray, List.set_cons_zero, List.set_cons_succ]
        rfl
      refine pure_ (i := 31) (N := (some 6)) (v := ?_) (a' := ?_) #[true, true, true, true, true, true, true, true, true, true, true, true, true, true, true, true, true, true, true, true, true, true, true, true, true, true, true, true, true, true, true, true] rfl rfl (any_of HT_.out (by kernel_rfl)) (fun _ _ _ h => h) (Or.inl ⟨by rfl, ?_⟩) ?_ ?_
      rotate_left
      · intro w'
        go_simp
        with_reducible rfl
      rotate_left
      · simp only [Act.put, List.setIfInBounds_toArray, List.set_cons_zero, List.set_cons_succ]
        rfl
      refine done_ (done_of HT_.out (by kernel_rfl)) ?_
      try go_wp2_with fail
      go_ret; exact ⟨rfl, HB11.out.trans (HBc.out.mono HB11.out.size)⟩
    · have b1 : (er1 == 0) = false := beq_eq_false_iff_ne.mpr h1
      have b2 : (er2 == 0) = false := beq_eq_false_iff_ne.mpr h2
      have b3 : (er1 != 0) = true := bne_iff_ne.mpr h1
      clear h1 h2
      refine start_ (n := 32) (S := HV g e A c g8 y D k g10 v g12 u) (ds := []) #[false, false, false, false, false, false, false, false, false, false, false, false, false, false, false, false, false, false, false, false, false, false, false, false, false, false, false, false, false, false, false, false] (by kernel_rfl) rfl rfl (HH.out) (fun hHeld => ?_); refine with_tabW valR.tab valR.bits (fun HT_ HW_ => ?_)
      generalize w11.drew = vs at HBc hHeld ⊢
      refine pure_ (i := 0) (N := (some 37)) (v := ?_) (a' := ?_) #[true, false, false, false, false, false, false, false, false, false, false, false, false, false, false, false, false, false, false, false, false, false, false, false, false, false, false, false, false, false, false, false] rfl rfl (any_of HT_.out (by kernel_rfl)) (fun _ _ _ h => h) (Or.inl ⟨by rfl, ?_⟩) ?_ ?_
      rotate_left
      · intro w'
        go_simp
        with_reducible rfl
      rotate_left
      · simp only [Act.put, List.setIfInBounds_toArray, List.set_cons_zero, List.set_cons_succ]
        rfl
      refine pure_ (i := 1) (N := (some 38)) (v := ?_) (a' := ?_) #[true, true, false, false, false, false, false, false, false, false, false, false, false, false, false, false, false, false, false, false, false, false, false, false, false, false, false, false, false, false, false, false] rfl rfl (any_of HT_.out (by kernel_rfl)) (fun _ _ _ h => h) (Or.inl ⟨by rfl, ?_⟩) ?_ ?_
      rotate_left
      · intro w'
        go_simp
        with_reducible rfl
      rotate_left
      · simp only [Act.put, List.setIfInBounds_toArray, List.set_cons_zero, List.set_cons_succ]
        rfl
      refine pure_ (i := 2) (N := (some 39)) (v := ?_) (a' := ?_) #[true, true, true, false, false, false, false, false, false, false, false, false, false, false, false, false, false, false, false, false, false, false, false, false, false, false, false, false, false, false, false, false] rfl rfl (any_of HT_.out (by kernel_rfl)) (fun _ _ _ h => h) (Or.inl ⟨by rfl, ?_⟩) ?_ ?_
      rotate_left
      · intro w'
        go_simp
        with_reducible rfl
      rotate_left
      · simp only [Act.put, List.setIfInBounds_toArray, List.set_cons_zero, List.set_cons_succ]
        rfl
      refine pure_ (i := 3) (N := (some 40)) (v := ?_) (a' := ?_) #[true, true, true, true, false, false, false, false, false, false, false, false, false, false, false, false, false, false, false, false, false, false, false, false, false, false, false, false, false, false, false, false] rfl rfl (any_of HT_.out (by kernel_rfl)) (fun _ _ _ h => h) (Or.inl ⟨by rfl, ?_⟩) ?_ ?_
      rotate_left
      · intro w'
        go_simp
        with_reducible rfl
      rotate_left
      · simp only [Act.put, List.setIfInBounds_toArray, List.set_cons_zero, List.set_cons_succ]
        rfl
      refine pure_ (i := 4) (N := (some 41)) (v := ?_) (a' := ?_) #[true, true, true, true, true, false, false, false, false, false, false, false, false, false, false, false, false, false, false, false, false, false, false, false, false, false, false, false, false, false, false, false] rfl rfl (any_of HT_.out (by kernel_rfl)) (fun _ _ _ h => h) (Or.inl ⟨by rfl, ?_⟩) ?_ ?_
      rotate_left
      · intro w'
        go_simp
        with_reducible rfl
      rotate_left
      · simp only [Act.put, List.setIfInBounds_toArray, List.set_cons_zero, List.set_cons_succ]
        rfl
      refine pure_ (i := 5) (N := (some 42)) (v := ?_) (a' := ?_) #[true, true, true, true, true, true, false, false, false, false, false, false, false, false, false, false, false, false, false, false, false, false, false, false, false, false, false, false, false, false, false, false] rfl rfl (any_of HT_.out (by kernel_rfl)) (fun _ _ _ h => h) (Or.inl ⟨by rfl, ?_⟩) ?_ ?_
      rotate_left
      · intro w'
        go_simp
        with_reducible rfl
      rotate_left
      · simp only [Act.put, List.setIfInBounds_toArray, List.set_cons_zero, List.set_cons_succ]
        rfl
      refine pure_ (i := 6) (N := (some 43)) (v := ?_) (a' := ?_) #[true, true, true, true, true, true, true, false, false, false, false, false, false, false, false, false, false, false, false, false, false, false, false, false, false, false, false, false, false, false, false, false] rfl rfl (any_of HT_.out (by kernel_rfl)) (fun _ _ _ h => h) (Or.inl ⟨by rfl, ?_⟩) ?_ ?_
      rotate_left
      · intro w'
        go_simp
        with_reducible rfl
      rotate_left
      · simp only [Act.put, List.setIfInBounds_toArray, List.set_cons_zero, List.set_cons_succ]
        rfl
      refine pure_ (i := 7) (N := (some 44)) (v := ?_) (a' := ?_) #[true, true, true, true, true, true, true, true, false, false, false, false, false, false, false, false, false, false, false, false, false, false, false, false, false, false, false, false, false, false, false, false] rfl rfl (any_of HT_.out (by kernel_rfl)) (fun _ _ _ h => h) (Or.inl ⟨by rfl, ?_⟩) ?_ ?_
      rotate_left
      · intro w'
        go_simp
        with_reducible rfl
      rotate_left
      · simp only [Act.put, List.setIfInBounds_toArray, List.set_cons_zero, List.set_cons_succ]
        rfl
      refine pure_ (i := 8) (N := (some 45)) (v := ?_) (a' := ?_) #[true, true, true, true, true, true, true, true, true, false, false, false, false, false, false, false, false, false, false, false, false, false, false, false, false, false, false, false, false, false, false, false] rfl rfl (any_of HT_.out (by kernel_rfl)) (fun _ _ _ h => h) (Or.inl ⟨by rfl, ?_⟩) ?_ ?_
      rotate_left
      · intro w'
        go_simp
        with_reducible rfl
      rotate_left
      · simp only [Act.put, List.setIfInBounds_toArray, List.set_cons_zero, List.set_cons_succ]
        rfl
      refine pure_ (i := 9) (N := (some 46)) (v := ?_) (a' := ?_) #[true, true, true, true, true, true, true, true, true, true, false, false, false, false, false, false, false, false, false, false, false, false, false, false, false, false, false, false, false, false, false, false] rfl rfl (any_of HT_.out (by kernel_rfl)) (fun _ _ _ h => h) (Or.inl ⟨by rfl, ?_⟩) ?_ ?_
      rotate_left
      · intro w'
        go_simp
        with_reducible rfl
      rotate_left
      · simp only [Act.put, List.setIfInBounds_toArray, List.set_cons_zero, List.set_cons_succ]
        rfl
      refine pure_ (i := 10) (N := (some 47)) (v := ?_) (a' := ?_) #[true, true, true, true, true, true, true, true, true, true, true, false, false, false, false, false, false, false, false, false, false, false, false, false, false, false, false, false, false, false, false, false] rfl rfl (any_of HT_.out (by kernel_rfl)) (fun _ _ _ h => h) (Or.inl ⟨by rfl, ?_⟩) ?_ ?_
      rotate_left
      · intro w'
        go_simp
        with_reducible rfl
      rotate_left
      · simp only [Act.put, List.setIfInBounds_toArray, List.set_cons_zero, List.set_cons_succ]
        rfl
      refine pure_ (i := 11) (N := (some 48)) (v := ?_) (a' := ?_) #[true, true, true, true, true, true, true, true, true, true, true, true, false, false, false, false, false, false, false, false, false, false, false, false, false, false, false, false, false, false, false, false] rfl rfl (any_of HT_.out (by kernel_rfl)) (fun _ _ _ h => h) (Or.inl ⟨by rfl, ?_⟩) ?_ ?_
      rotate_left
      · intro w'
        go_simp
        with_reducible rfl
      rotate_left
      · simp only [Act.put, List.setIfInBounds_toArray, List.set_cons_zero, List.set_cons_succ]
        rfl
      refine pure_ (i := 12) (N := (some 49)) (v := undef) (a' := ?_) #[true, true, true, true, true, true, true, true, true, true, true, true, true, false, false, false, false, false, false, false, false, false, false, false, false, false, false, false, false, false, false, false] rfl rfl (any_of HT_.out (by kernel_rfl)) (fun _ _ _ h => h) (Or.inr ⟨by rfl, rfl⟩) ?_ ?_
      rotate_left
      · simp only [Act.put, List.setIfInBounds_toArray, List.set_cons_zero, List.set_cons_succ]
        rfl
      refine pure_ (i := 13) (N := (some 50)) (v := undef) (a' := ?_) #[true, true, true, true, true, true, true, true, true, true, true, true, true, true, false, false, false, false, false, false, false, false, false, false, false, false, false, false, false, false, false, false] rfl rfl (any_of HT_.out (by kernel_rfl)) (fun _ _ _ h => h) (Or.inr ⟨by rfl, rfl⟩) ?_ ?_
      rotate_left
      · simp only [Act.put, List.setIfInBounds_toArray, List.set_cons_zero, List.set_cons_succ]
        rfl
      refine pure_ (i := 14) (N := (some 51)) (v := undef) (a' := ?_) #[true, true, true, true, true, true, true, true, true, true, true, true, true, true, true, false, false, false, false, false, false, false, false, false, false, false, false, false, false, false, false, false] rfl rfl (any_of HT_.out (by kernel_rfl)) (fun _ _ _ h => h) (Or.inr ⟨by rfl, rfl⟩) ?_ ?_
      rotate_left
      · simp only [Act.put, List.setIfInBounds_toArray, List.set_cons_zero, List.set_cons_succ]
        rfl
      refine pure_ (i := 15) (N := (some 52)) (v := ?_) (a' := ?_) #[true, true, true, true, true, true, true, true, true, true, true, true, true, true, true, true, false, false, false, false, false, false, false, false, false, false, false, false, false, false, false, false] rfl rfl (any_of HT_.out (by kernel_rfl)) (fun _ _ _ h => h) (Or.inl ⟨by rfl, ?_⟩) ?_ ?_
      rotate_left
      · intro w'
        go_simp
        with_reducible rfl
      rotate_left
      · simp only [Act.put, List.setIfInBounds_toArray, List.set_cons_zero, List.set_cons_succ]
        rfl
      refine pure_ (i := 16) (N := (some 53)) (v := ?_) (a' := ?_) #[true, true, true, true, true, true, true, true, true, true, true, true, true, true, true, true, true, false, false, false, false, false, false, false, false, false, false, false, false, false, false, false] rfl rfl (any_of HT_.out (by kernel_rfl)) (fun _ _ _ h => h) (Or.inl ⟨by rfl, ?_⟩) ?_ ?_
      rotate_left
      · intro w'
        go_simp
        with_reducible rfl
      rotate_left
      · simp only [Act.put, List.setIfInBounds_toArray, List.set_cons_zero, List.set_cons_succ]
        rfl
      refine pure_ (i := 17) (N := (some 54)) (v := ?_) (a' := ?_) #[true, true, true, true, true, true, true, true, true, true, true, true, true, true, true, true, true, true, false, false, false, false, false, false, false, false, false, false, false, false, false, false] rfl rfl (any_of HT_.out (by kernel_rfl)) (fun _ _ _ h => h) (Or.inl ⟨by rfl, ?_⟩) ?_ ?_
      rotate_left
      · intro w'
        go_simp
        with_reducible rfl
      rotate_left
      · simp only [Act.put, List.setIfInBounds_toArray, List.set_cons_zero, List.set_cons_succ]
        rfl
      refine take_ (i := 18) (N := (some 55)) (v := ?_) (a' := ?_) #[true, true, true, true, true, true, true, true, true, true, true, true, true, true, true, true, true, true, true, false, false, false, false, false, false, false, false, false, false, false, false, false] rfl rfl (take_ofW HT_.out HW_.out (by kernel_rfl)) (fun _ _ _ h => h) (Or.inl ⟨by rfl, ?_⟩) hHeld ?_ ?_
      rotate_left
      · rintro w' ⟨s0, s1, s2, s3, s4, s5, s6, s7, s8, s9, s10, s11, s12, s13, s14, s15, s16, s17, s18, s19, s20, s21, s22, s23⟩
        go_simp
        with_reducible rfl
      rotate_left
      · simp only [Act.put, List.setIfInBounds_toArray, List.set_cons_zero, List.set_cons_succ]
        rfl
      refine take_ (i := 20) (N := (some 57)) (v := ?_) (a' := ?_) #[true, true, true, true, true, true, true, true, true, true, true, true, true, true, true, true, true, true, true, false, true, false, false, false, false, false, false, false, false, false, false, false] rfl rfl (take_ofW HT_.out HW_.out (by kernel_rfl)) (fun _ _ _ h => h) (Or.inl ⟨by rfl, ?_⟩) hHeld ?_ ?_
      rotate_left
      · rintro w' ⟨s0, s1, s2, s3, s4, s5, s6, s7, s8, s9, s10, s11, s12, s13, s14, s15, s16, s17, s18, s19, s20, s21, s22, s23⟩
        go_simp
        with_reducible rfl
      rotate_left
      · simp only [Act.put, List.setIfInBounds_toArray, List.set_cons_zero, List.set_cons_succ]
        rfl
      refine one_ (i := 19) (N := (some 56)) #[true, true, true, true, true, true, true, true, true, true, true, true, true, true, true, true, true, true, true, true, true, false, false, false, false, false, false, false, false, false, false, false] rfl rfl (one_of HT_.out (by kernel_rfl)) (by decide) (fun K hK => ?_)
      refine goes_ Tryz.func7 (by kernel_rfl) rfl #[.agg #[.int .i64 y.f0, .int .i64 y.f1.f0, .int .i64 y.f1.f1, .string y.f1.f2, .int .i64 y.f2, .int .i64 y.f3, .int .i64 y.f4, .string y.f5, .slice D y.f6.length k]] (by rfl) rfl rfl (by (try simp only [List.map_toArray, List.map_cons, List.map_nil]); first | done | rfl) ?_
      refine (HTY.out _ HBc.out).mono ?_
      rintro rr vn ⟨rfl, hN⟩
      refine ⟨_, rfl, ?_⟩
      have hNN := hN
      replace HBc := Lib.hid (HBc.out.trans (hN.mono HBc.out.size))
      clear hN
      refine hK.out _ _ (hHeld.below hNN) (fun hHeld => ?_)
      clear hK K
      refine norm_ (a' := ?_) ?_ ?_
      rotate_left
      · show Act.put _ (some 56) _ = _
        simp only [Act.put, List.setIfInBounds_toArray, List.set_cons_zero, List.set_cons_succ]
        rfl
      refine one_ (i := 21) (N := (some 58)) #[true, true, true, true, true, true, true, true, true, true, true, true, true, true, true, true, true, true, true, true, true, true, false, false, false, false, false, false, false, false, false, false] rfl rfl (one_of HT_.out (by kernel_rfl)) (by decide) (fun K hK => ?_)
      refine goes_ Tryz.func7 (by kernel_rfl) rfl #[.agg #[.int .i64 e.f0, .int .i64 e.f1.f0, .int .i64 e.f1.f1, .string e.f1.f2, .int .i64 e.f2, .int .i64 e.f3, .int .i64 e.f4, .string e.f5, .slice A e.f6.length c]] (by rfl) rfl rfl (by (try simp only [List.map_toArray, List.map_cons, List.map_nil]); first | done | rfl) ?_
      refine (HTE.out _ HBc.out).mono ?_
      rintro rr vn ⟨rfl, hN⟩
      refine ⟨_, rfl, ?_⟩
      have hNN := hN
      replace HBc := Lib.hid (HBc.out.trans (hN.mono HBc.out.size))
      clear hN
      refine hK.out _ _ (hHeld.below hNN) (fun hHeld => ?_)
      clear hK K
      refine norm_ (a' := ?_) ?_ ?_
      rotate_left
      · show Act.put _ (some 58) _ = _
        simp only [Act.put, List.setIfInBounds_toArray, List.set_cons_zero, List.set_cons_succ]
        rfl
      refine pure_ (i := 22) (N := (some 59)) (v := ?_) (a' := ?_) #[true, true, true, true, true, true, true, true, true, true, true, true, true, true, true, true, true, true, true, true, true, true, true, false, false, false, false, false, false, false, false, false] rfl rfl (any_of HT_.out (by kernel_rfl)) (fun _ _ _ h => h) (Or.inl ⟨by rfl, ?_⟩) ?_ ?_
      rotate_left
      · intro w'
        go_simp
        with_reducible rfl
      rotate_left
      · simp only [Act.put, List.setIfInBounds_toArray, List.set_cons_zero, List.set_cons_succ]
        rfl
      refine pure_ (i := 23) (N := (some 60)) (v := ?_) (a' := ?_) #[true, true, true, true, true, true, true, true, true, true, true, true, true, true, true, true, true, true, true, true, true, true, true, true, false, false, false, false, false, false, false, false] rfl rfl (any_of HT_.out (by kernel_rfl)) (fun _ _ _ h => h) (Or.inl ⟨by rfl, ?_⟩) ?_ ?_
      rotate_left
      · intro w'
        go_simp
        with_reducible rfl
      rotate_left
      · simp only [Act.put, List.setIfInBounds_toArray, List.set_cons_zero, List.set_cons_succ]
        rfl
      refine pure_ (i := 24) (N := (some 61)) (v := ?_) (a' := ?_) #[true, true, true, true, true, true, true, true, true, true, true, true, true, true, true, true, true, true, true, true, true, true, true, true, true, false, false, false, false, false, false, false] rfl rfl (any_of HT_.out (by kernel_rfl)) (fun _ _ _ h => h) (Or.inl ⟨by rfl, ?_⟩) ?_ ?_
      rotate_left
      · intro w'
        go_simp
        with_reducible rfl
      rotate_left
      · simp only [Act.put, List.setIfInBounds_toArray, List.set_cons_zero, List.set_cons_succ]
        rfl
      refine take_ (i := 25) (N := (some 62)) (v := ?_) (a' := ?_) #[true, true, true, true, true, true, true, true, true, true, true, true, true, true, true, true, true, true, true, true, true, true, true, true, true, true, false, false, false, false, false, false] rfl rfl (take_ofW HT_.out HW_.out (by kernel_rfl)) (fun _ _ _ h => h) (Or.inl ⟨by rfl, ?_⟩) hHeld ?_ ?_
      rotate_left
      · rintro w' ⟨s0, s1, s2, s3, s4, s5, s6, s7, s8, s9, s10, s11, s12, s13, s14, s15, s16, s17, s18, s19, s20, s21, s22, s23⟩
        go_simp
        with_reducible rfl
      rotate_left
      · simp only [Act.put, List.setIfInBounds_toArray, List.set_cons_zero, List.set_cons_succ]
        rfl
      refine take_ (i := 27) (N := (some 64)) (v := ?_) (a' := ?_) #[true, true, true, true, true, true, true, true, true, true, true, true, true, true, true, true, true, true, true, true, true, true, true, true, true, true, false, true, false, false, false, false] rfl rfl (take_ofW HT_.out HW_.out (by kernel_rfl)) (fun _ _ _ h => h) (Or.inl ⟨by rfl, ?_⟩) hHeld ?_ ?_
      rotate_left
      · rintro w' ⟨s0, s1, s2, s3, s4, s5, s6, s7, s8, s9, s10, s11, s12, s13, s14, s15, s16, s17, s18, s19, s20, s21, s22, s23⟩
        go_simp
        with_reducible rfl
      rotate_left
      · simp only [Act.put, List.setIfInBounds_toArray, List.set_cons_zero, List.set_cons_succ]
        rfl
      refine one_ (i := 26) (N := (some 63)) #[true, true, true, true, true, true, true, true, true, true, true, true, true, true, true, true, true, true, true, true, true, true, true, true, true, true, true, true, false, false, false, false] rfl rfl (one_of HT_.out (by kernel_rfl)) (by decide) (fun K hK => ?_)
      refine goes_ Tryz.func8 (by kernel_rfl) rfl #[.agg #[.int .i64 y.f0, .int .i64 y.f1.f0, .int .i64 y.f1.f1, .string y.f1.f2, .int .i64 y.f2, .int .i64 y.f3, .int .i64 y.f4, .string y.f5, .slice D y.f6.length k]] (by rfl) rfl rfl (by (try simp only [List.map_toArray, List.map_cons, List.map_nil]); first | done | rfl) ?_
      refine (HSY.out _ HBc.out).mono ?_
      rintro rr vn ⟨rfl, hN⟩
      refine ⟨_, rfl, ?_⟩
      have hNN := hN
      replace HBc := Lib.hid (HBc.out.trans (hN.mono HBc.out.size))
      clear hN
      refine hK.out _ _ (hHeld.below hNN) (fun hHeld => ?_)
      clear hK K
      refine norm_ (a' := ?_) ?_ ?_
      rotate_left
      · show Act.put _ (some 63) _ = _
        simp only [Act.put, List.setIfInBounds_toArray, List.set_cons_zero, List.set_cons_succ]
        rfl
      refine one_ (i := 28) (N := (some 65)) #[true, true, true, true, true, true, true, true, true, true, true, true, true, true, true, true, true, true, true, true, true, true, true, true, true, true, true, true, true, false, false, false] rfl rfl (one_of HT_.out (by kernel_rfl)) (by decide) (fun K hK => ?_)
      refine goes_ Tryz.func8 (by kernel_rfl) rfl #[.agg #[.int .i64 e.f0, .int .i64 e.f1.f0, .int .i64 e.f1.f1, .string e.f1.f2, .int .i64 e.f2, .int .i64 e.f3, .int .i64 e.f4, .string e.f5, .slice A e.f6.length c]] (by rfl) rfl rfl (by (try simp only [List.map_toArray, List.map_cons, List.map_nil]); first | done | rfl) ?_
      refine (HSE.out _ HBc.out).mono ?_
      rintro rr vn ⟨rfl, hN⟩
      refine ⟨_, rfl, ?_⟩
      have hNN := hN
      replace HBc := Lib.hid (HBc.out.trans (hN.mono HBc.out.size))
      clear hN
      refine hK.out _ _ (hHeld.below hNN) (fun hHeld => ?_)
      clear hK K
      refine norm_ (a' := ?_) ?_ ?_
      rotate_left
      · show Act.put _ (some 65) _ = _
        simp only [Act.put, List.setIfInBounds_toArray, List.set_cons_zero, List.set_cons_succ]
        rfl
      refine pure_ (i := 29) (N := (some 66)) (v := ?_) (a' := ?_) #[true, true, true, true, true, true, true, true, true, true, true, true, true, true, true, true, true, true, true, true, true, true, true, true, true, true, true, true, true, true, false, false] rfl rfl (any_of HT_.out (by kernel_rfl)) (fun _ _ _ h => h) (Or.inl ⟨by rfl, ?_⟩) ?_ ?_
      rotate_left
      · intro w'
        go_simp
        with_reducible rfl
      rotate_left
      · simp only [Act.put, List.setIfInBounds_toArray, List.set_cons_zero, List.set_cons_succ]
        rfl
      refine pure_ (i := 30) (N := (some 67)) (v := ?_) (a' := ?_) #[true, true, true, true, true, true, true, true, true, true, true, true, true, true, true, true, true, true, true, true, true, true, true, true, true, true, true, true, true, true, true, false] rfl rfl (any_of HT_.out (by kernel_rfl)) (fun _ _ _ h => h) (Or.inl ⟨by rfl, ?_⟩) ?_ ?_
      rotate_left
      · intro w'
        go_simp
        with_reducible rfl
      rotate_left
      · simp only [Act.put, List.setIfInBounds_toArray, List.set_cons_zero, List.set_cons_succ]
        rfl
      refine pure_ (i := 31) (N := (some 6)) (v := ?_) (a' := ?_) #[true, true, true, true, true, true, true, true, true, true, true, true, true, true, true, true, true, true, true, true, true, true, true, true, true, true, true, true, true, true, true, true] rfl rfl (any_of HT_.out (by kernel_rfl)) (fun _ _ _ h => h) (Or.inl ⟨by rfl, ?_⟩) ?_ ?_
      rotate_left
      · intro w'
        go_simp
        with_reducible rfl
      rotate_left
      · simp only [Act.put, List.setIfInBounds_toArray, List.set_cons_zero, List.set_cons_succ]
        rfl
      refine done_ (done_of HT_.out (by kernel_rfl)) ?_
      try go_wp2_with fail
      go_ret; exact ⟨rfl, HB11.out.trans (HBc.out.mono HB11.out.size)⟩
end Go.Proofs.YtpdhoghkoakojaaGreatDoor.E
