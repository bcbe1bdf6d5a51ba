/- Contracts and plain lemmas of the functions that the law reaches, part 15. -/
import Derived.Laws.MathBits
import Derived.Laws.Bits64
import Derived.Test.YtkboodfnegedaaaDoorZV13
import Derived.Test.YtkboodfnegedaaaDoorZV14
namespace Go.Proofs.YtkboodfnegedaaaDoor.E
set_option linter.unusedSimpArgs false
set_option linter.unusedVariables false
open Go.RowKit Go.Proofs.YtkboodfnegedaaaDoorW.PrintWords Go.Proofs.YtkboodfnegedaaaDoorW.PrintLast Go.Proofs.YtkboodfnegedaaaDoorW.PrintMore
theorem sizeU_abs {a : Int} (h : in64 a) : sizeU a = (a.natAbs : Int) := by
  unfold sizeU in64 at *
  simp only [IntKind.wrap_u64]
  split <;> omega
theorem mulHL_f {a b : Int} (ha : in64 a) (hb : in64 b) : mulHL a b = ((a.natAbs * b.natAbs : Int) / 18446744073709551616, (a.natAbs * b.natAbs : Int) % 18446744073709551616) := by
  have hx := sizeU_abs ha
  have hy := sizeU_abs hb
  unfold mulHL
  rw [hx, hy]
  unfold in64 at ha hb
  have hx1 : (0 : Int) ≤ (a.natAbs : Int) := by omega
  have hx2 : (a.natAbs : Int) < 18446744073709551616 := by omega
  have hy1 : (0 : Int) ≤ (b.natAbs : Int) := by omega
  have hy2 : (b.natAbs : Int) < 18446744073709551616 := by omega
  have h := mul64_arith _ _ hx1 hx2 hy1 hy2
  unfold bits_Mul64.f
  rw [and_low32 _ hx1 hx2, and_low32 _ hy1 hy2]
  simp only [IntKind.wrap_u64, Option.getD_some]
  rw [and_low32 _ (Int.emod_nonneg _ (by decide)) (Int.emod_lt_of_pos _ (by decide))]
  rw [h]
theorem abs_mul_sign (a b : Int) : ((a.natAbs : Int) * (b.natAbs : Int)) = if decide (a < 0) = decide (b < 0) then a * b else -(a * b) := by
  by_cases h1 : a < 0
  · have e1 : (a.natAbs : Int) = -a := by omega
    by_cases h2 : b < 0
    · have e2 : (b.natAbs : Int) = -b := by omega
      rw [e1, e2, if_pos (by simp [h1, h2]), Int.neg_mul_neg]
    · have e2 : (b.natAbs : Int) = b := by omega
      rw [e1, e2, if_neg (by simp [h1, h2]), Int.neg_mul]
  · have e1 : (a.natAbs : Int) = a := by omega
    by_cases h2 : b < 0
    · have e2 : (b.natAbs : Int) = -b := by omega
      rw [e1, e2, if_neg (by simp [h1, h2]), Int.mul_neg]
    · have e2 : (b.natAbs : Int) = b := by omega
      rw [e1, e2, if_pos (by simp [h1, h2])]
theorem abs_mul_nonneg (a b : Int) : (0 : Int) ≤ (a.natAbs : Int) * (b.natAbs : Int) := Int.mul_nonneg (by omega) (by omega)
theorem abs_mul_le {a b : Int} (ha : in64 a) (hb : in64 b) : (a.natAbs : Int) * (b.natAbs : Int) ≤ 85070591730234615865843651857942052864 := by
  unfold in64 at ha hb
  have h := Int.mul_le_mul (show (a.natAbs : Int) ≤ 9223372036854775808 by omega) (show (b.natAbs : Int) ≤ 9223372036854775808 by omega) (by omega) (by decide)
  simpa using h
def mulP (p : Int) : Va × Int := if p < -9223372036854775808 ∨ 9223372036854775807 < p then (zeroV, 3) else (numV p, 0)
theorem mulR_p {a b : Int} (ha : in64 a) (hb : in64 b) : mulR a b = mulP (a * b) := by
  have hs := abs_mul_sign a b
  have h0 := abs_mul_nonneg a b
  have h1 := abs_mul_le ha hb
  unfold mulR mulP
  rw [mulHL_f ha hb]
  generalize (a.natAbs : Int) * (b.natAbs : Int) = m at *
  generalize a * b = p at *
  simp only [IntKind.wrap_u64, wrap64_r]
  by_cases hd : decide (a < 0) = decide (b < 0)
  · rw [if_pos hd] at hs
    subst hs
    simp only [hd, if_true, and_true]
    repeat' split
    all_goals first | rfl | (exfalso; omega) | (unfold numV; congr 2; omega)
  · rw [if_neg hd] at hs
    obtain rfl : p = -m := by omega
    simp only [hd, if_false, and_false]
    repeat' split
    all_goals first | rfl | (exfalso; omega) | (unfold numV; congr 2; omega)
theorem mulQ_p {a b : Int} (ha : in64 a) (hb : in64 b) (h0 : a ≠ 0) : (if wrap64 (Int.tdiv (wrap64 (a * b)) a) = b then (if a = -1 then (if b = -9223372036854775808 then (zeroV, (3 : Int)) else (numV (wrap64 (a * b)), 0)) else (numV (wrap64 (a * b)), 0)) else (zeroV, 3)) = mulP (a * b) := by
  unfold mulP
  by_cases hp : a * b < -9223372036854775808 ∨ 9223372036854775807 < a * b
  · rw [if_pos hp]
    by_cases hq : wrap64 (Int.tdiv (wrap64 (a * b)) a) = b
    · rw [if_pos hq]
      have h1 := Int.mul_tdiv_add_tmod (wrap64 (a * b)) a
      have h2 := Int.natAbs_tmod (wrap64 (a * b)) a
      have h3 : ((wrap64 (a * b)).tmod a).natAbs < a.natAbs := by rw [h2]; exact Nat.mod_lt _ (by omega)
      have hn := wrap64_in (a * b)
      have hnr := wrap64_r (a * b)
      generalize hN : wrap64 (a * b) = n at *
      have h4 : (n.tdiv a).natAbs ≤ n.natAbs := by rw [Int.natAbs_tdiv]; exact Nat.div_le_self _ _
      rw [wrap64_r] at hq
      by_cases hb0 : n.tdiv a = b
      · exfalso
        rw [hb0] at h1
        unfold in64 at *
        generalize a * b = p at *
        omega
      · have h5 : n.tdiv a = 9223372036854775808 := by unfold in64 at *; omega
        have h6 : b = -9223372036854775808 := by unfold in64 at *; omega
        have h7 : a = -1 := by
          rw [h5] at h1
          unfold in64 at *
          omega
        rw [if_pos h7, if_pos h6]
    · rw [if_neg hq]
  · rw [if_neg hp]
    have hn : wrap64 (a * b) = a * b := by rw [wrap64_r]; omega
    have hd : Int.tdiv (a * b) a = b := Int.mul_tdiv_cancel_left b h0
    have hb' : wrap64 b = b := by unfold in64 at hb; rw [wrap64_r]; omega
    rw [hn, hd, hb', if_pos rfl]
    by_cases h1 : a = -1
    · rw [if_pos h1, if_neg (by intro h2; apply hp; right; rw [h1, h2]; decide)]
    · rw [if_neg h1]
theorem mulR_f (a b : Va) (ha : in64 a.f1) (hb : in64 b.f1) : q01_Mul.f 9 a.f0 a.f1 a.f2 b.f0 b.f1 b.f2 = some (tup4 (mulV a b)) := by
  unfold q01_Mul.f mulV
  rw [of_f, Option.bind_some, null_2]
  split
  · have hj : (if a.f0 = 0 then q01_Mul.j0 9 true a.f0 a.f1 a.f2 b.f0 b.f1 b.f2 else q01_Mul.j0 9 (b.f0 == 0) a.f0 a.f1 a.f2 b.f0 b.f1 b.f2) = q01_Mul.j0 9 (a.f0 == 0 || b.f0 == 0) a.f0 a.f1 a.f2 b.f0 b.f1 b.f2 := by
      by_cases h : a.f0 = 0
      · simp [h]
      · rw [if_neg h, beq_eq_false_iff_ne.mpr h, Bool.false_or]
    rw [hj, mulR_p ha hb]
    simp only [q01_Mul.j0, q01_one.f, Option.bind_some]
    split
    · rfl
    · by_cases h0 : a.f1 = 0
      · rw [if_pos h0, h0, Int.zero_mul, show wrap64 0 = 0 by rw [wrap64_r]; rfl]; unfold mulP; rw [if_neg (by omega)]; rfl
      · rw [if_neg h0, ← mulQ_p ha hb h0]
        repeat' split
        all_goals rfl
  · rfl
theorem andR_f (a b : Va) : q01_And.f 9 a.f0 a.f1 a.f2 b.f0 b.f1 b.f2 = some (tup4 (andV a b)) := by
  unfold q01_And.f andV decV
  rw [of_f, Option.bind_some, null_2]
  by_cases hf : [a, b].all (fitV 2) = true
  · rw [if_pos hf, if_pos hf]
    have ht : q01_Truth.f false = some (2, 0, ⟨#[]⟩) := rfl
    have ht1 : q01_Truth.f true = some (2, 1, ⟨#[]⟩) := rfl
    have hs : ∀ v : Va, (v.f0 == 2 && (v.f1 == 0 && (v.f2.toList == (⟨#[]⟩ : ByteArray).toList))) = sameV v (truthV false) := fun v => rfl
    simp only [ht, ht1, Option.bind_some, hs]
    rw [if_pos trivial]
    have hj : (if sameV a (truthV false) = true then q01_And.j0 9 true a.f0 a.f1 a.f2 b.f0 b.f1 b.f2 else q01_And.j0 9 (sameV b (truthV false)) a.f0 a.f1 a.f2 b.f0 b.f1 b.f2) = q01_And.j0 9 (sameV a (truthV false) || sameV b (truthV false)) a.f0 a.f1 a.f2 b.f0 b.f1 b.f2 := by
      cases sameV a (truthV false) <;> rfl
    rw [hj]
    simp only [q01_And.j0, ht, ht1, Option.bind_some]
    split
    · rfl
    · by_cases h0 : a.f0 = 0
      · simp [h0]; rfl
      · by_cases h1 : b.f0 = 0
        · simp [h1]; rfl
        · simp [h0, h1]; rfl
  · rw [if_neg hf, if_neg hf]; rfl
theorem orR_f (a b : Va) : q01_Or.f 9 a.f0 a.f1 a.f2 b.f0 b.f1 b.f2 = some (tup4 (orV a b)) := by
  unfold q01_Or.f orV decV
  rw [of_f, Option.bind_some, null_2]
  by_cases hf : [a, b].all (fitV 2) = true
  · rw [if_pos hf, if_pos hf]
    have ht : q01_Truth.f false = some (2, 0, ⟨#[]⟩) := rfl
    have ht1 : q01_Truth.f true = some (2, 1, ⟨#[]⟩) := rfl
    have hs : ∀ v : Va, (v.f0 == 2 && (v.f1 == 1 && (v.f2.toList == (⟨#[]⟩ : ByteArray).toList))) = sameV v (truthV true) := fun v => rfl
    simp only [ht, ht1, Option.bind_some, hs]
    rw [if_pos trivial]
    have hj : (if sameV a (truthV true) = true then q01_Or.j0 9 true a.f0 a.f1 a.f2 b.f0 b.f1 b.f2 else q01_Or.j0 9 (sameV b (truthV true)) a.f0 a.f1 a.f2 b.f0 b.f1 b.f2) = q01_Or.j0 9 (sameV a (truthV true) || sameV b (truthV true)) a.f0 a.f1 a.f2 b.f0 b.f1 b.f2 := by
      cases sameV a (truthV true) <;> rfl
    rw [hj]
    simp only [q01_Or.j0, ht, ht1, Option.bind_some]
    split
    · rfl
    · by_cases h0 : a.f0 = 0
      · simp [h0]; rfl
      · by_cases h1 : b.f0 = 0
        · simp [h1]; rfl
        · simp [h0, h1]; rfl
  · rw [if_neg hf, if_neg hf]; rfl
theorem less_irr (l : List UInt8) : Op.bytesLess l l = false := by
  induction l with
  | nil => rfl
  | cons x l ih => simp [Op.bytesLess, ih]
theorem compareR_f (a b : Va) : q01_Compare.f a.f0 a.f1 a.f2 b.f0 b.f1 b.f2 = some (cmpV a b) := by
  unfold q01_Compare.f q01_sign.f
  by_cases h0 : a.f0 = b.f0
  · have e0 : cmpI a.f0 b.f0 = 0 := by unfold cmpI; rw [if_neg (by omega), if_neg (by omega)]
    rw [if_pos h0]
    by_cases h1 : a.f1 = b.f1
    · have e1 : cmpI a.f1 b.f1 = 0 := by unfold cmpI; rw [if_neg (by omega), if_neg (by omega)]
      have hc : cmpV a b = cmpS a.f2 b.f2 := by unfold cmpV; rw [e0, e1]; rfl
      rw [if_pos h1, hc]
      unfold cmpS
      by_cases h2 : a.f2.toList = b.f2.toList
      · rw [if_pos h2, h2, less_irr]; simp
      · rw [if_neg h2]
        cases hb : Op.bytesLess a.f2.toList b.f2.toList <;> simp [h2]
    · rw [if_neg h1]
      have hc : cmpV a b = cmpI a.f1 b.f1 := by
        unfold cmpV
        rw [e0]
        have : cmpI a.f1 b.f1 ≠ 0 := by (unfold cmpI; (repeat' split) <;> omega)
        simp [this]
      rw [hc]
      unfold cmpI
      by_cases h2 : a.f1 < b.f1
      · simp [h2]
      · simp [h2, show b.f1 < a.f1 by omega]
  · rw [if_neg h0]
    have hc : cmpV a b = cmpI a.f0 b.f0 := by
      unfold cmpV
      have : cmpI a.f0 b.f0 ≠ 0 := by (unfold cmpI; (repeat' split) <;> omega)
      simp [this]
    rw [hc]
    unfold cmpI
    by_cases h2 : a.f0 < b.f0
    · simp [h2]
    · simp [h2, show b.f0 < a.f0 by omega]
theorem right_low {v : Va} (h : rightV v = true) : 0 ≤ v.f0 := by
  have h2 := right_some v
  rw [h] at h2
  unfold value_Right.f at h2
  repeat' split at h2
  all_goals first | omega | (simp at h2)
theorem truthR_f (b : Bool) : q01_Truth.f b = some (2, (if b = true then 1 else 0), ⟨#[]⟩) := by
  cases b <;> rfl
theorem holdR (op c : Int) (h1 : 9 ≤ op) (h2 : op ≤ 14) : (if op = 9 then some (tup4 (truthV (c == 0), 0)) else if op = 10 then some (tup4 (truthV (c != 0), 0)) else if op = 11 then some (tup4 (truthV (decide (c < 0)), 0)) else if op = 12 then some (tup4 (truthV (decide (c ≤ 0)), 0)) else if op = 13 then some (tup4 (truthV (decide (c > 0)), 0)) else some (tup4 (truthV (decide (c ≥ 0)), 0))) = some (tup4 (truthV (holdV op c), 0)) := by
  unfold holdV
  repeat' split
  all_goals rfl
theorem testJ1 (k : Nat) (op : Int) (x : Bool) (a b : Va) (h1 : 9 ≤ op) (h2 : op ≤ 14) : q01_Test.j1 (k + 1) op x a.f0 a.f1 a.f2 b.f0 b.f1 b.f2 = some (tup4 (if x = true then (zeroV, 0) else (truthV (holdV op (cmpV a b)), 0))) := by
  simp only [q01_Test.j1, compareR_f, Option.bind_some, truthR_f]
  cases x with
  | true => rfl
  | false =>
    have hf : ¬ (false = true) := by decide
    rw [if_neg hf, if_neg hf]
    exact holdR op (cmpV a b) h1 h2
theorem testR_f (op : Int) (a b : Va) : q01_Test.f 9 op a.f0 a.f1 a.f2 b.f0 b.f1 b.f2 = some (tup4 (testV op a b)) := by
  unfold q01_Test.f testV
  rw [refRight_f, refRight_f, Option.bind_some, Option.bind_some]
  have hjt : q01_Test.j0 9 op true a.f0 a.f1 a.f2 b.f0 b.f1 b.f2 = some (0, 0, ⟨#[]⟩, 1) := by simp [q01_Test.j0]
  by_cases h9 : op < 9
  · rw [if_pos h9, if_pos (.inl h9), hjt]; rfl
  · by_cases h14 : op > 14
    · rw [if_neg h9, if_pos h14, if_pos (.inr h14), hjt]; rfl
    · have hr : ¬ (op < 9 ∨ op > 14) := by omega
      rw [if_neg h9, if_neg h14, if_neg hr, null_2]
      generalize hm : (if a.f0 < b.f0 then b.f0 else a.f0) = m
      cases ra : rightV a with
      | false =>
        have : [a, b].all (fitV m) = false := by simp [fitV, ra]
        simp only [this, hjt, Bool.false_eq_true, if_false, if_true]; rfl
      | true =>
        cases rb : rightV b with
        | false =>
          have : [a, b].all (fitV m) = false := by simp [fitV, rb]
          simp only [this, hjt, Bool.false_eq_true, if_false, if_true]; rfl
        | true =>
          have la := right_low ra
          have lb := right_low rb
          have hfit : [a, b].all (fitV m) = decide (a.f0 = 0 ∨ b.f0 = 0 ∨ a.f0 = b.f0) := by
            rw [Bool.eq_iff_iff]
            simp only [List.all_cons, List.all_nil, Bool.and_true, fitV, ra, rb, Bool.true_and, Bool.and_eq_true, Bool.or_eq_true, beq_iff_eq, decide_eq_true_eq]
            subst hm
            split <;> omega
          have hjf : q01_Test.j0 9 op false a.f0 a.f1 a.f2 b.f0 b.f1 b.f2 = some (tup4 (if (a.f0 == 0 || b.f0 == 0) = true then (zeroV, 0) else (truthV (holdV op (cmpV a b)), 0))) := by
            rw [← testJ1 7 op (a.f0 == 0 || b.f0 == 0) a b (by omega) (by omega)]
            simp only [q01_Test.j0]
            by_cases h : a.f0 = 0
            · simp [h]
            · rw [beq_eq_false_iff_ne.mpr h, Bool.false_or]; simp [h]
          by_cases hk : a.f0 = 0 ∨ b.f0 = 0 ∨ a.f0 = b.f0
          · have hl : (if a.f0 = 0 then q01_Test.j0 9 op false a.f0 a.f1 a.f2 b.f0 b.f1 b.f2 else if b.f0 = 0 then q01_Test.j0 9 op false a.f0 a.f1 a.f2 b.f0 b.f1 b.f2 else q01_Test.j0 9 op (a.f0 != b.f0) a.f0 a.f1 a.f2 b.f0 b.f1 b.f2) = q01_Test.j0 9 op false a.f0 a.f1 a.f2 b.f0 b.f1 b.f2 := by
              by_cases h1 : a.f0 = 0
              · rw [if_pos h1]
              · rw [if_neg h1]
                by_cases h2 : b.f0 = 0
                · rw [if_pos h2]
                · rw [if_neg h2]
                  have : (a.f0 != b.f0) = false := bne_eq_false_iff_eq.mpr (by omega)
                  rw [this]
            have hd : decide (a.f0 = 0 ∨ b.f0 = 0 ∨ a.f0 = b.f0) = true := decide_eq_true hk
            rw [hfit, hd]
            simp only [if_true]
            rw [hl, hjf]
            rfl
          · have h1 : ¬ a.f0 = 0 := fun h => hk (.inl h)
            have h2 : ¬ b.f0 = 0 := fun h => hk (.inr (.inl h))
            have h3 : (a.f0 != b.f0) = true := bne_iff_ne.mpr (fun h => hk (.inr (.inr h)))
            have hd : decide (a.f0 = 0 ∨ b.f0 = 0 ∨ a.f0 = b.f0) = false := decide_eq_false hk
            rw [hfit, hd]
            simp only [if_true, h1, h2, h3, if_false, hjt, Bool.false_eq_true]
            rfl
end Go.Proofs.YtkboodfnegedaaaDoor.E
