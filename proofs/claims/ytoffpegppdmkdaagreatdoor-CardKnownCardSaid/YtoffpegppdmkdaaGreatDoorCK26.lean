/- Contracts and plain lemmas of the functions that the law reaches, part 26. -/
import Derived.Test.YtoffpegppdmkdaaGreatDoorCK11
import Derived.Test.YtoffpegppdmkdaaGreatDoorCK21
namespace Go.Proofs.YtoffpegppdmkdaaGreatDoor.E
open Go.RowKit Go.Proofs.YtoffpegppdmkdaaGreatDoorW.PrintWords Go.Proofs.YtoffpegppdmkdaaGreatDoorW.PrintLast Go.Proofs.YtoffpegppdmkdaaGreatDoorW.PrintMore
set_option linter.unusedVariables false
set_option linter.unusedSimpArgs false
def condsR (l : List Ex) : List Ex × Int := if l.all rightB = true then (condsF l, 0) else ([], 1)
def condsG (l : List Ex) : Prop := (∀ x ∈ l, rngF x = true) ∧ l.length ≤ 1048576
instance (l : List Ex) : Decidable (condsG l) := by unfold condsG; infer_instance
def sign_Conds.f (l0 : List Ex) : Option (List Ex × Int) := if condsG l0 then some (condsR l0) else none
theorem sign_Conds.calls (A0 : Option Addr) (c0 : Nat) (l0 : List Ex) (r1 : List Ex) (r2 : Int) (w : World) (hr0 : Kd.C KX w A0 l0.length l0) (hc0 : l0.length ≤ c0) (h : sign_Conds.f l0 = some (r1, r2)) (hT : TabW w) :
    Calls Tryz.prog 35 #[.slice A0 l0.length c0] w fun e w' => ∃ v0_ : Value, e = .returned (.tuple #[v0_, .int .i64 r2]) ∧ Kd.N KX TX w' w.heap.size (fun k_ => (w.heap.size ≤ k_)) v0_ r1 ∧ Below w.heap.size w w' := by
  unfold sign_Conds.f at h
  by_cases hg : condsG l0
  · rw [if_pos hg] at h
    have h2 := Option.some.inj h
    refine (Conds_ok l0 A0 c0 w hT hg.1 hr0 (by have := hg.2; omega)).mono ?_
    rintro r w' (⟨hb, rfl, hB⟩ | ⟨hb, v, ys, hs, rfl, hN, hB⟩)
    · unfold condsR at h2
      rw [hb, if_neg (by decide)] at h2
      obtain ⟨rfl, rfl⟩ := Prod.mk.inj h2
      exact ⟨_, rfl, Kd.N_nil _ _ _ _ _, hB⟩
    · unfold condsR at h2
      rw [hb, if_pos rfl] at h2
      obtain ⟨rfl, rfl⟩ := Prod.mk.inj h2
      rw [comp_conds (List.all_eq_true.1 hb) hs] at hN
      exact ⟨v, rfl, hN, hB⟩
  · rw [if_neg hg] at h; cases h
def in64A (l : List Int) : Prop := ∀ x ∈ l, -9223372036854775808 ≤ x ∧ x ≤ 9223372036854775807
def ofG (sz : List Int) (m : Int) (cs : List Ex) : Prop := condsG cs ∧ m < 2 ^ 63 ∧ in64A sz
instance (sz : List Int) (m : Int) (cs : List Ex) : Decidable (ofG sz m cs) := by unfold ofG in64A; infer_instance
def sign_Of.f (l0_0 : List Int) (a0_1 : Int) (l0_2 : List Int) (l0_3 l0_4 l0_5 l0_6 : List Ex) (a0_7 : Bool) (l0_8 : List Ex) (l0_9 : List (S187)) (a0_10 : Bool) (a1 : Int) : Option (ByteArray × Int) := if ofG l0_0 a1 l0_4 then some (ofRes l0_0 a0_1 a1 l0_4) else none
theorem sign_Of.calls (A0_0 : Option Addr) (c0_0 : Nat) (l0_0 : List Int) (a0_1 : Int) (A0_2 : Option Addr) (c0_2 : Nat) (l0_2 : List Int) (A0_3 : Option Addr) (c0_3 : Nat) (l0_3 : List Ex) (A0_4 : Option Addr) (c0_4 : Nat) (l0_4 : List Ex) (A0_5 : Option Addr) (c0_5 : Nat) (l0_5 : List Ex) (A0_6 : Option Addr) (c0_6 : Nat) (l0_6 : List Ex) (a0_7 : Bool) (A0_8 : Option Addr) (c0_8 : Nat) (l0_8 : List Ex) (A0_9 : Option Addr) (c0_9 : Nat) (l0_9 : List (S187)) (a0_10 : Bool) (a1 : Int) (r1 : ByteArray) (r2 : Int) (w : World)
    (hr0_0 : Kd.C (Kd.int .i64) w A0_0 l0_0.length l0_0) (hc0_0 : l0_0.length ≤ c0_0) (hr0_2 : Kd.C (Kd.int .i64) w A0_2 l0_2.length l0_2) (hc0_2 : l0_2.length ≤ c0_2) (hr0_3 : Kd.C KX w A0_3 l0_3.length l0_3) (hc0_3 : l0_3.length ≤ c0_3) (hr0_4 : Kd.C KX w A0_4 l0_4.length l0_4) (hc0_4 : l0_4.length ≤ c0_4) (hr0_5 : Kd.C KX w A0_5 l0_5.length l0_5) (hc0_5 : l0_5.length ≤ c0_5) (hr0_6 : Kd.C KX w A0_6 l0_6.length l0_6) (hc0_6 : l0_6.length ≤ c0_6) (hr0_8 : Kd.C KX w A0_8 l0_8.length l0_8) (hc0_8 : l0_8.length ≤ c0_8) (hr0_9 : Kd.C k187 w A0_9 l0_9.length l0_9) (hc0_9 : l0_9.length ≤ c0_9)
    (h : sign_Of.f l0_0 a0_1 l0_2 l0_3 l0_4 l0_5 l0_6 a0_7 l0_8 l0_9 a0_10 a1 = some (r1, r2)) (hT : TabW w) :
    Calls Tryz.prog 17 #[.agg #[.slice A0_0 l0_0.length c0_0, .int .i64 a0_1, .slice A0_2 l0_2.length c0_2, .slice A0_3 l0_3.length c0_3, .slice A0_4 l0_4.length c0_4, .slice A0_5 l0_5.length c0_5, .slice A0_6 l0_6.length c0_6, .bool a0_7, .slice A0_8 l0_8.length c0_8, .slice A0_9 l0_9.length c0_9, .bool a0_10], .int .i64 a1] w fun e w' => e = .returned (.tuple #[.string r1, .int .i64 r2]) ∧ Below w.heap.size w w' := by
  unfold sign_Of.f at h
  by_cases hg : ofG l0_0 a1 l0_4
  · rw [if_pos hg] at h
    have h2 := Option.some.inj h
    have h3 := Of_ok l0_0 l0_2 a0_1 a1 l0_3 l0_4 l0_5 l0_6 l0_8 (List.replicate l0_9.length z26) A0_0 A0_2 A0_3 A0_4 A0_5 A0_6 A0_8 A0_9 c0_0 c0_2 c0_3 c0_4 c0_5 c0_6 c0_8 c0_9 a0_7 a0_10 w hg.2.1 hT hg.1.1 hr0_4 hg.1.2 hc0_4 (fun i hi => by
      have e : rd l0_0 (i : Int) = l0_0[i] := by unfold rd; simp [List.getElem?_eq_getElem hi]
      rw [e]; exact hg.2.2 _ (List.getElem_mem hi)) hr0_0
    rw [List.length_replicate, h2] at h3
    exact h3
  · rw [if_neg hg] at h; cases h
end Go.Proofs.YtoffpegppdmkdaaGreatDoor.E
namespace Go.Proofs.YtoffpegppdmkdaaGreatDoor.E
set_option linter.unusedSimpArgs false
set_option linter.unusedVariables false
open Go.RowKit Go.Proofs.YtoffpegppdmkdaaGreatDoorW.PrintWords Go.Proofs.YtoffpegppdmkdaaGreatDoorW.PrintLast Go.Proofs.YtoffpegppdmkdaaGreatDoorW.PrintMore
theorem less_asymm {a b : Ex} (h : lessT a b = true) : lessT b a = false := by
  unfold lessT at h ⊢
  rw [decide_eq_true_eq] at h
  rw [decide_eq_false_iff_not]
  exact fun h2 => l_irrefl _ (l_trans h h2)
def opT (op : Int) : Int := if op = 11 then 13 else if op = 12 then 14 else if op = 13 then 11 else if op = 14 then 12 else op
def turnE (e : Ex) : Ex := if e.f6.length = 2 ∧ 9 ≤ e.f0 ∧ e.f0 ≤ 14 then ⟨opT e.f0, e.f1, e.f2, e.f3, e.f4, e.f5, e.f6.reverse⟩ else e
theorem op_six {op : Int} (h : 9 ≤ op ∧ op ≤ 14) : op = 9 ∨ op = 10 ∨ op = 11 ∨ op = 12 ∨ op = 13 ∨ op = 14 := by omega
theorem opT_six {op : Int} (h : 9 ≤ op ∧ op ≤ 14) : 9 ≤ opT op ∧ opT op ≤ 14 ∧ wantsI op = 2 ∧ wantsI (opT op) = 2 := by
  rcases op_six h with rfl | rfl | rfl | rfl | rfl | rfl <;> decide
theorem turnE_eq {e : Ex} (h : e.f6.length = 2 ∧ 9 ≤ e.f0 ∧ e.f0 ≤ 14) : turnE e = ⟨opT e.f0, e.f1, e.f2, e.f3, e.f4, e.f5, e.f6.reverse⟩ := by unfold turnE; rw [if_pos h]
theorem turnE_no {e : Ex} (h : ¬ (e.f6.length = 2 ∧ 9 ≤ e.f0 ∧ e.f0 ≤ 14)) : turnE e = e := by unfold turnE; rw [if_neg h]
theorem own_turn (e : Ex) : ownB (turnE e) = ownB e := by
  by_cases h : e.f6.length = 2 ∧ 9 ≤ e.f0 ∧ e.f0 ≤ 14
  · rw [turnE_eq h, Bool.eq_iff_iff, own_iff, own_iff]
    obtain ⟨a, b, c, d⟩ := opT_six h.2
    unfold ownP
    simp only [List.length_reverse]
    rw [if_neg (by omega), if_neg (by omega), if_neg (by omega), if_neg (by omega), if_neg (by omega), if_neg (by omega), c, d]
  · rw [turnE_no h]
theorem meas_turn (e : Ex) : meas (turnE e) = meas e := by
  rw [meas_eq, meas_eq e, own_turn]
  by_cases h : e.f6.length = 2 ∧ 9 ≤ e.f0 ∧ e.f0 ≤ 14
  · rw [turnE_eq h]
    obtain ⟨x, y, hxy⟩ := list_two h.1
    simp only [hxy, List.reverse_cons, List.reverse_nil, List.nil_append, List.cons_append]
    rw [measL_swap]
  · rw [turnE_no h]
theorem right_turn (e : Ex) : rightB (turnE e) = rightB e := by rw [right_meas, right_meas, meas_turn]
theorem turn_two (op : Int) (h : 9 ≤ op ∧ op ≤ 14) (x y : Ex) (hx : rightB x = true) (hy : rightB y = true) : turnF (opT op) [y, x] = turnF op [x, y] := by
  rcases op_six h with rfl | rfl | rfl | rfl | rfl | rfl
  · have g : ∀ a b : Ex, turnF 9 [a, b] = if lessT b a = true then (9, [b, a]) else (9, [a, b]) := fun a b => rfl
    show turnF 9 [y, x] = _
    rw [g, g]
    by_cases h1 : lessT y x = true
    · rw [if_pos h1, if_neg (by rw [less_asymm h1]; decide)]
    · rw [if_neg h1]
      by_cases h2 : lessT x y = true
      · rw [if_pos h2]
      · rw [if_neg h2]
        unfold lessT at h1 h2
        rw [decide_eq_true_eq] at h1 h2
        rw [tl_eq hx hy (l_tot h2 h1)]
  · have g : ∀ a b : Ex, turnF 10 [a, b] = if lessT b a = true then (10, [b, a]) else (10, [a, b]) := fun a b => rfl
    show turnF 10 [y, x] = _
    rw [g, g]
    by_cases h1 : lessT y x = true
    · rw [if_pos h1, if_neg (by rw [less_asymm h1]; decide)]
    · rw [if_neg h1]
      by_cases h2 : lessT x y = true
      · rw [if_pos h2]
      · rw [if_neg h2]
        unfold lessT at h1 h2
        rw [decide_eq_true_eq] at h1 h2
        rw [tl_eq hx hy (l_tot h2 h1)]
  · rfl
  · rfl
  · rfl
  · rfl
theorem norm_turn {e : Ex} (hr : rightB e = true) : normF (turnE e) = normF e := by
  by_cases h : e.f6.length = 2 ∧ 9 ≤ e.f0 ∧ e.f0 ≤ 14
  · rw [turnE_eq h, normF_eq, normF_eq e]
    obtain ⟨x, y, hxy⟩ := list_two h.1
    have hx := right_norm (right_kid hr (x := x) (by rw [hxy]; simp))
    have hy := right_norm (right_kid hr (x := y) (by rw [hxy]; simp))
    simp only [hxy, List.reverse_cons, List.reverse_nil, List.nil_append, List.cons_append, List.map_cons, List.map_nil]
    rw [turn_two e.f0 h.2 _ _ hx hy]
  · rw [turnE_no h]
end Go.Proofs.YtoffpegppdmkdaaGreatDoor.E
