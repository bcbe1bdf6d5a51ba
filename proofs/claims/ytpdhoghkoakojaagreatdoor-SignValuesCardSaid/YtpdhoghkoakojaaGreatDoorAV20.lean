/- Contracts and plain lemmas of the functions that the law reaches, part 20. -/
import Derived.Test.YtpdhoghkoakojaaGreatDoorAV12
import Derived.Test.YtpdhoghkoakojaaGreatDoorAV18
import Derived.Test.YtpdhoghkoakojaaGreatDoorAV19
namespace Go.Proofs.YtpdhoghkoakojaaGreatDoor.E
set_option linter.unusedSimpArgs false
set_option linter.unusedVariables false
open Go.RowKit Go.Proofs.YtpdhoghkoakojaaGreatDoorW.PrintWords Go.Proofs.YtpdhoghkoakojaaGreatDoorW.PrintLast Go.Proofs.YtpdhoghkoakojaaGreatDoorW.PrintMore
def inV (q : Va × Int) : Prop := in64 q.1.f1
theorem in64_0 : in64 0 := by unfold in64; omega
theorem in64_1 : in64 1 := by unfold in64; omega
theorem inV_zero (c : Int) : inV (zeroV, c) := in64_0
theorem inV_num (n c : Int) : inV (numV (wrap64 n), c) := wrap64_in n
theorem inV_truth (b : Bool) (c : Int) : inV (truthV b, c) := by cases b; exact in64_0; exact in64_1
theorem inV_ite {c : Prop} [Decidable c] {x y : Va × Int} (hx : inV x) (hy : inV y) : inV (if c then x else y) := by split; exact hx; exact hy
theorem inV_orNull {k : Int} {l : List Va} {o : Va × Int} (h : inV o) : inV (orNull k l o) := by
  unfold orNull; split
  · exact inV_zero _
  · exact h
theorem inV_add (a b : Va) : inV (addV a b) := inV_orNull (by split; exact inV_zero _; exact inV_num _ _)
theorem inV_sub (a b : Va) : inV (subV a b) := inV_orNull (by split; exact inV_zero _; exact inV_num _ _)
theorem inV_div (a b : Va) : inV (divV a b) := inV_orNull (by
  split
  · exact inV_zero _
  · split
    · exact inV_zero _
    · exact inV_num _ _)
theorem inV_neg (a : Va) : inV (negV a) := inV_orNull (inV_sub _ _)
theorem inV_not (a : Va) : inV (notV a) := inV_orNull (inV_truth _ _)
theorem inV_dec (o : Bool) (a b : Va) : inV (decV o a b) := by
  unfold decV
  repeat' split
  all_goals first | exact inV_truth _ _ | exact inV_zero _
theorem inV_mulR (a b : Int) : inV (mulR a b) := by
  unfold mulR
  repeat' split
  all_goals first | exact inV_zero _ | exact wrap64_in _
theorem inV_mul (a b : Va) : inV (mulV a b) := by
  unfold mulV; split
  · exact inV_zero _
  · exact inV_mulR _ _
theorem inV_test (op : Int) (a b : Va) : inV (testV op a b) := by
  unfold testV
  refine inV_ite (inV_zero _) (inV_ite (inV_zero _) ?_)
  exact inV_truth (holdV op (cmpV a b)) 0
theorem inV_op (op : Int) (a b : Va) : inV (opV op a b) := by
  unfold opV
  exact inV_ite (inV_add _ _) (inV_ite (inV_sub _ _) (inV_ite (inV_mul _ _) (inV_ite (inV_div _ _) (inV_ite (inV_neg _) (inV_ite (inV_dec _ _ _) (inV_ite (inV_dec _ _ _) (inV_ite (inV_not _) (inV_ite (inV_truth _ _) (inV_test _ _ _)))))))))
def InR (rows : List (List Va)) (ps : List Va) : Prop := (∀ r ∈ rows, ∀ v ∈ r, in64 v.f1) ∧ ∀ v ∈ ps, in64 v.f1
theorem inV_get {l : List Va} (h : ∀ v ∈ l, in64 v.f1) (n : Nat) : in64 (l.getD n zeroV).f1 := by
  rw [List.getD_eq_getElem?_getD]
  cases hl : l[n]? with
  | none => exact in64_0
  | some v => exact h v (List.mem_of_getElem? hl)
theorem inV_at {e : Ex} {rows : List (List Va)} {ps : List Va} (h : InR rows ps) (he : e.f0 = 2 ∨ e.f0 = 3) : in64 (atG zeroV e rows ps).1.f1 := by
  unfold atG
  by_cases h2 : e.f0 = 2
  · rw [if_pos h2]
    split
    · refine inV_get (fun v hv => ?_) _
      rw [List.getD_eq_getElem?_getD] at hv
      cases hl : rows[e.f2.toNat]? with
      | none => rw [hl] at hv; simp at hv
      | some r => rw [hl] at hv; exact h.1 r (List.mem_of_getElem? hl) v hv
    · exact in64_0
  · rw [if_neg h2, if_pos (he.resolve_left h2)]
    split
    · exact inV_get h.2 _
    · exact in64_0
theorem inV_eval {e : Ex} {rows : List (List Va)} {ps : List Va} (h : InR rows ps) (he : e.f0 = 1 → in64 e.f1.f1) : in64 (evalF e rows ps).1.f1 := by
  rw [evalF_eq]
  by_cases h1 : e.f0 = 1
  · rw [if_pos h1]; exact he h1
  · rw [if_neg h1]
    by_cases h23 : e.f0 = 2 ∨ e.f0 = 3
    · rw [if_pos h23]; exact inV_at h h23
    · rw [if_neg h23]
      cases evalL e.f6 rows ps with
      | error x => exact in64_0
      | ok l => exact inV_op _ _ _
end Go.Proofs.YtpdhoghkoakojaaGreatDoor.E
