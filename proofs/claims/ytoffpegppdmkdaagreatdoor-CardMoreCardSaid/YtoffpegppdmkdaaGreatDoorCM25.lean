/- Contracts and plain lemmas of the functions that the law reaches, part 25. -/
import Derived.Test.YtoffpegppdmkdaaGreatDoorCM20
namespace Go.Proofs.YtoffpegppdmkdaaGreatDoor.E
open Go.RowKit Go.Proofs.YtoffpegppdmkdaaGreatDoorW.PrintWords Go.Proofs.YtoffpegppdmkdaaGreatDoorW.PrintLast Go.Proofs.YtoffpegppdmkdaaGreatDoorW.PrintMore
set_option linter.unusedVariables false
set_option linter.unusedSimpArgs false
def condsR (l : List Ex) : List Ex × Int := if l.all rightB = true then (condsF l, 0) else ([], 1)
def condsG (l : List Ex) : Prop := (∀ x ∈ l, rngF x = true) ∧ l.length ≤ 1048576
instance (l : List Ex) : Decidable (condsG l) := by unfold condsG; infer_instance
def sign_Conds.f (l0 : List Ex) : Option (List Ex × Int) := if condsG l0 then some (condsR l0) else none
theorem sign_Conds.calls (A0 : Option Addr) (c0 : Nat) (l0 : List Ex) (r1 : List Ex) (r2 : Int) (w : World) (hr0 : Kd.C KX w A0 l0.length l0) (hc0 : l0.length ≤ c0) (h : sign_Conds.f l0 = some (r1, r2)) (hT : TabW w) :
    Calls Tryz.prog 35 #[.slice A0 l0.length c0] w fun e w' => ∃ v0_ : Value, e = .returned (.tuple #[v0_, .int .i64 r2]) ∧ Kd.N KX TX w' w.heap.size (fun k_ => (w.heap.size ≤ k_)) v0_ r1 ∧ Below w.heap.size w w' := by
  unfold sign_Conds.f at h
  by_cases hg : condsG l0
  · rw [if_pos hg] at h
    have h2 := Option.some.inj h
    refine (Conds_ok l0 A0 c0 w hT hg.1 hr0 (by have := hg.2; omega)).mono ?_
    rintro r w' (⟨hb, rfl, hB⟩ | ⟨hb, v, ys, hs, rfl, hN, hB⟩)
    · unfold condsR at h2
      rw [hb, if_neg (by decide)] at h2
      obtain ⟨rfl, rfl⟩ := Prod.mk.inj h2
      exact ⟨_, rfl, Kd.N_nil _ _ _ _ _, hB⟩
    · unfold condsR at h2
      rw [hb, if_pos rfl] at h2
      obtain ⟨rfl, rfl⟩ := Prod.mk.inj h2
      rw [comp_conds (List.all_eq_true.1 hb) hs] at hN
      exact ⟨v, rfl, hN, hB⟩
  · rw [if_neg hg] at h; cases h
def in64A (l : List Int) : Prop := ∀ x ∈ l, -9223372036854775808 ≤ x ∧ x ≤ 9223372036854775807
def ofG (sz : List Int) (m : Int) (cs : List Ex) : Prop := condsG cs ∧ m < 2 ^ 63 ∧ in64A sz
instance (sz : List Int) (m : Int) (cs : List Ex) : Decidable (ofG sz m cs) := by unfold ofG in64A; infer_instance
def sign_Of.f (l0_0 : List Int) (a0_1 : Int) (l0_2 : List Int) (l0_3 l0_4 l0_5 l0_6 : List Ex) (a0_7 : Bool) (l0_8 : List Ex) (l0_9 : List (S187)) (a0_10 : Bool) (a1 : Int) : Option (ByteArray × Int) := if ofG l0_0 a1 l0_4 then some (ofRes l0_0 a0_1 a1 l0_4) else none
theorem sign_Of.calls (A0_0 : Option Addr) (c0_0 : Nat) (l0_0 : List Int) (a0_1 : Int) (A0_2 : Option Addr) (c0_2 : Nat) (l0_2 : List Int) (A0_3 : Option Addr) (c0_3 : Nat) (l0_3 : List Ex) (A0_4 : Option Addr) (c0_4 : Nat) (l0_4 : List Ex) (A0_5 : Option Addr) (c0_5 : Nat) (l0_5 : List Ex) (A0_6 : Option Addr) (c0_6 : Nat) (l0_6 : List Ex) (a0_7 : Bool) (A0_8 : Option Addr) (c0_8 : Nat) (l0_8 : List Ex) (A0_9 : Option Addr) (c0_9 : Nat) (l0_9 : List (S187)) (a0_10 : Bool) (a1 : Int) (r1 : ByteArray) (r2 : Int) (w : World)
    (hr0_0 : Kd.C (Kd.int .i64) w A0_0 l0_0.length l0_0) (hc0_0 : l0_0.length ≤ c0_0) (hr0_2 : Kd.C (Kd.int .i64) w A0_2 l0_2.length l0_2) (hc0_2 : l0_2.length ≤ c0_2) (hr0_3 : Kd.C KX w A0_3 l0_3.length l0_3) (hc0_3 : l0_3.length ≤ c0_3) (hr0_4 : Kd.C KX w A0_4 l0_4.length l0_4) (hc0_4 : l0_4.length ≤ c0_4) (hr0_5 : Kd.C KX w A0_5 l0_5.length l0_5) (hc0_5 : l0_5.length ≤ c0_5) (hr0_6 : Kd.C KX w A0_6 l0_6.length l0_6) (hc0_6 : l0_6.length ≤ c0_6) (hr0_8 : Kd.C KX w A0_8 l0_8.length l0_8) (hc0_8 : l0_8.length ≤ c0_8) (hr0_9 : Kd.C k187 w A0_9 l0_9.length l0_9) (hc0_9 : l0_9.length ≤ c0_9)
    (h : sign_Of.f l0_0 a0_1 l0_2 l0_3 l0_4 l0_5 l0_6 a0_7 l0_8 l0_9 a0_10 a1 = some (r1, r2)) (hT : TabW w) :
    Calls Tryz.prog 17 #[.agg #[.slice A0_0 l0_0.length c0_0, .int .i64 a0_1, .slice A0_2 l0_2.length c0_2, .slice A0_3 l0_3.length c0_3, .slice A0_4 l0_4.length c0_4, .slice A0_5 l0_5.length c0_5, .slice A0_6 l0_6.length c0_6, .bool a0_7, .slice A0_8 l0_8.length c0_8, .slice A0_9 l0_9.length c0_9, .bool a0_10], .int .i64 a1] w fun e w' => e = .returned (.tuple #[.string r1, .int .i64 r2]) ∧ Below w.heap.size w w' := by
  unfold sign_Of.f at h
  by_cases hg : ofG l0_0 a1 l0_4
  · rw [if_pos hg] at h
    have h2 := Option.some.inj h
    have h3 := Of_ok l0_0 l0_2 a0_1 a1 l0_3 l0_4 l0_5 l0_6 l0_8 (List.replicate l0_9.length z26) A0_0 A0_2 A0_3 A0_4 A0_5 A0_6 A0_8 A0_9 c0_0 c0_2 c0_3 c0_4 c0_5 c0_6 c0_8 c0_9 a0_7 a0_10 w hg.2.1 hT hg.1.1 hr0_4 hg.1.2 hc0_4 (fun i hi => by
      have e : rd l0_0 (i : Int) = l0_0[i] := by unfold rd; simp [List.getElem?_eq_getElem hi]
      rw [e]; exact hg.2.2 _ (List.getElem_mem hi)) hr0_0
    rw [List.length_replicate, h2] at h3
    exact h3
  · rw [if_neg hg] at h; cases h
end Go.Proofs.YtoffpegppdmkdaaGreatDoor.E
