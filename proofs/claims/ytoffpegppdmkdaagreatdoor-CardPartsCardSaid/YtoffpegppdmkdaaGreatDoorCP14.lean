/- Contracts and plain lemmas of the functions that the law reaches, part 14. -/
import Derived.Lib.SmallJoins
import Derived.Test.YtoffpegppdmkdaaGreatDoorCP8
import Derived.Test.YtoffpegppdmkdaaGreatDoorCP10
import Derived.Test.YtoffpegppdmkdaaGreatDoorCP13
namespace Go.Proofs.YtoffpegppdmkdaaGreatDoor.E
set_option linter.unusedSimpArgs false
set_option linter.unusedVariables false
open Go.RowKit Go.Proofs.YtoffpegppdmkdaaGreatDoorW.PrintWords Go.Proofs.YtoffpegppdmkdaaGreatDoorW.PrintLast Go.Proofs.YtoffpegppdmkdaaGreatDoorW.PrintMore
theorem ba_ext {a b : ByteArray} (h : a.data.toList = b.data.toList) : a = b := by
  rw [← Joins.bytes_eta a, ← Joins.bytes_eta b, h]
theorem ba_mk (l : List UInt8) : (⟨l.toArray⟩ : ByteArray).data.toList = l := by simp
theorem ba_app (a : ByteArray) (l m : List UInt8) (h : a.data.toList = l) : a ++ (⟨m.toArray⟩ : ByteArray) = ⟨(l ++ m).toArray⟩ := by
  refine ba_ext ?_
  rw [Joins.data_append, ba_mk, ba_mk, h]
def u8s (l : List Int) : List UInt8 := l.map fun n => UInt8.ofNat n.toNat
theorem sn_app (l : List UInt8) (m : List Int) : (⟨l.toArray⟩ : ByteArray) ++ strOfNums m = ⟨(l ++ u8s m).toArray⟩ := ba_app _ _ _ (ba_mk l)
theorem u8s_len (l : List Int) : (u8s l).length = l.length := by simp [u8s]
theorem sn_size (m : List Int) : (strOfNums m).size = m.length := by simp [strOfNums, ByteArray.size]
theorem ba_size (l : List UInt8) : (⟨l.toArray⟩ : ByteArray).size = l.length := by simp [ByteArray.size]
theorem digL1_ev (xs : List Int) (hx : xs.length ≤ 1000) : ∀ (j : Nat) (l : List UInt8), j ≤ xs.length → l.length + j ≤ 2000 → Ev (fun k => q08_Digits.l1 k xs ⟨l.toArray⟩ ((j : Int) - 1)) ⟨(l ++ u8s (xs.take j).reverse).toArray⟩ := by
  intro j
  induction j with
  | zero =>
    intro l h hl
    refine Ev.const 1 (fun k => ?_)
    rw [q08_Digits.l1, if_neg (by omega)]
    simp [u8s]
  | succ j ih =>
    intro l h hl
    have hj : j < xs.length := by omega
    refine Ev.steps 1 (f := fun k => q08_Digits.l1 k xs ⟨(l ++ u8s [xs[j]]).toArray⟩ ((j : Int) - 1)) (fun k => ?_) ?_
    · rw [q08_Digits.l1]
      have e1 : ((j + 1 : Nat) : Int) - 1 = j := by omega
      rw [e1, if_pos (by omega), if_pos (by omega), wrap64_of (x := (j : Int) + 1) (by omega) (by omega), if_pos (by omega), if_pos (by omega)]
      have e2 : ((j : Int) + 1).toNat = j + 1 := by omega
      have e3 : (j : Int).toNat = j := by omega
      have e4 : (xs.take (j + 1)).drop j = [xs[j]] := by
        rw [List.take_succ_eq_append_getElem hj, List.drop_append_of_le_length (by simp; omega), List.drop_of_length_le (by simp; omega), List.nil_append]
      rw [e2, e3, e4]
      simp only [Option.bind_some]
      rw [sn_app, sn_size, ba_size, if_pos (by simp only [List.length_cons, List.length_nil]; omega), wrap64_of (x := (j : Int) - 1) (by omega) (by omega)]
    · have := ih (l ++ u8s [xs[j]]) (by omega) (by rw [List.length_append, u8s_len]; simp only [List.length_cons, List.length_nil]; omega)
      rw [List.append_assoc] at this
      have e5 : u8s [xs[j]] ++ u8s (xs.take j).reverse = u8s (xs.take (j + 1)).reverse := by
        rw [List.take_succ_eq_append_getElem hj, List.reverse_append]; simp [u8s]
      rw [e5] at this
      exact this
def dgs : Nat → Nat → List Int
  | 0, _ => []
  | d + 1, u => if u = 0 then [] else ((48 + u % 10 : Nat) : Int) :: dgs d (u / 10)
theorem dgs_len : ∀ d u, (dgs d u).length ≤ d
  | 0, _ => by simp [dgs]
  | d + 1, u => by
    rw [dgs]; split
    · simp
    · have := dgs_len d (u / 10); simp only [List.length_cons]; omega
theorem dgs_dec : ∀ (d u : Nat), 0 < u → u < 10 ^ d → u8s (dgs d u).reverse = Lib.decDigits u
  | 0, u, h0, h => by simp at h; omega
  | d + 1, u, h0, h => by
    rw [dgs, if_neg (by omega), List.reverse_cons]
    have e : ∀ (l : List Int) (a : Nat), u8s (l ++ [(a : Int)]) = u8s l ++ [UInt8.ofNat a] := fun l a => by simp [u8s]
    rw [e]
    by_cases hu : u < 10
    · rw [Lib.decDigits, dif_pos hu]
      have h2 : u / 10 = 0 := by omega
      have h3 : u % 10 = u := by omega
      rw [h2, h3]
      cases d with
      | zero => simp [dgs, u8s]
      | succ d => simp [dgs, u8s]
    · rw [Lib.decDigits, dif_neg hu, dgs_dec d (u / 10) (by omega) (by rw [Nat.pow_succ] at h; omega)]
theorem tmod_abs (m : Int) (u : Nat) (h : m.natAbs = u) : Int.tmod m 10 = (if m < 0 then -((u % 10 : Nat) : Int) else ((u % 10 : Nat) : Int)) ∧ Int.tdiv m 10 = (if m < 0 then -((u / 10 : Nat) : Int) else ((u / 10 : Nat) : Int)) := by
  by_cases hm : m < 0
  · obtain rfl : m = -(u : Int) := by omega
    rw [if_pos hm, if_pos hm, Int.neg_tmod, Int.neg_tdiv]
    exact ⟨by rw [Int.natCast_emod]; rfl, by rw [Int.natCast_ediv]; rfl⟩
  · obtain rfl : m = (u : Int) := by omega
    rw [if_neg hm, if_neg hm]
    exact ⟨by rw [Int.natCast_emod]; rfl, by rw [Int.natCast_ediv]; rfl⟩
theorem digL0_ev (n : Int) (R : ByteArray) : ∀ (d u : Nat) (m : Int) (xs : List Int), u < 10 ^ d → m.natAbs = u → -9223372036854775808 ≤ m → m ≤ 9223372036854775807 → xs.length + d ≤ 100 →
    Ev (fun k => q08_Digits.l1 k (xs ++ dgs d u) (if n < 0 then ⟨#[45]⟩ else ⟨#[]⟩) (((xs ++ dgs d u).length : Int) - 1)) R → Ev (fun k => q08_Digits.l0 k n xs m) R := by
  have fin : ∀ (m : Int) (xs : List Int), m = 0 → xs.length ≤ 100 → Ev (fun k => q08_Digits.l1 k xs (if n < 0 then ⟨#[45]⟩ else ⟨#[]⟩) ((xs.length : Int) - 1)) R → Ev (fun k => q08_Digits.l0 k n xs m) R := by
    intro m xs hm hx h
    refine Ev.steps 2 (f := fun k => q08_Digits.l1 k xs (if n < 0 then ⟨#[45]⟩ else ⟨#[]⟩) ((xs.length : Int) - 1)) (fun k => ?_) h
    rw [q08_Digits.l0, if_pos hm]
    by_cases hn : n < 0
    · rw [if_pos hn, if_pos hn, q08_Digits.j1, wrap64_of (by omega) (by omega)]
    · rw [if_neg hn, if_neg hn, q08_Digits.j1, wrap64_of (by omega) (by omega)]
  intro d
  induction d with
  | zero =>
    intro u m xs hu hm h0 h1 hx h
    refine fin m xs (by simp at hu; omega) (by omega) ?_
    simpa [dgs] using h
  | succ d ih =>
    intro u m xs hu hm h0 h1 hx h
    by_cases hz : u = 0
    · refine fin m xs (by omega) (by omega) ?_
      rw [dgs, if_pos hz] at h
      simpa using h
    · rw [dgs, if_neg hz] at h
      obtain ⟨t1, t2⟩ := tmod_abs m u hm
      have hb : u ≤ 9223372036854775808 := by omega
      refine Ev.steps 1 (f := fun k => q08_Digits.l0 k n (xs ++ [((48 + u % 10 : Nat) : Int)]) (if m < 0 then -((u / 10 : Nat) : Int) else ((u / 10 : Nat) : Int))) (fun k => ?_) (ih (u / 10) _ _ (by rw [Nat.pow_succ] at hu; omega) (by split <;> omega) (by split <;> omega) (by split <;> omega) (by simp only [List.length_append, List.length_cons, List.length_nil]; omega) (by simpa [List.append_assoc] using h))
      rw [q08_Digits.l0, if_neg (by omega), t1, t2]
      have hw : wrap64 (if m < 0 then -((u / 10 : Nat) : Int) else ((u / 10 : Nat) : Int)) = (if m < 0 then -((u / 10 : Nat) : Int) else ((u / 10 : Nat) : Int)) := wrap64_of (by split <;> omega) (by split <;> omega)
      rw [hw]
      have hl : u % 10 < 10 := Nat.mod_lt _ (by omega)
      generalize u % 10 = q at hl ⊢
      have hq : ∀ x : Int, x = q → (wrap64 (48 + x)) % 256 = ((48 + q : Nat) : Int) := fun x hx => by
        rw [wrap64_of (by omega) (by omega)]; omega
      by_cases hm0 : m < 0
      · simp only [if_pos hm0]
        by_cases hq0 : -(q : Int) < 0
        · rw [if_pos hq0, if_pos (by omega), wrap64_of (x := -(-(q : Int))) (by omega) (by omega), hq _ (by omega)]
        · rw [if_neg hq0, if_pos (by omega), hq _ (by omega)]
      · simp only [if_neg hm0]
        rw [if_neg (by omega), if_pos (by omega), hq _ rfl]
theorem digits_ev (n : Int) (h0 : -9223372036854775808 ≤ n) (h1 : n ≤ 9223372036854775807) : Ev (fun k => q08_Digits.f k n) ⟨(Lib.itoa n).toArray⟩ := by
  unfold q08_Digits.f
  by_cases hz : n = 0
  · simp only [if_pos hz]
    subst hz
    have : Lib.itoa 0 = [48] := by unfold Lib.itoa; rw [if_neg (by omega)]; exact Lib.decDigits_one (i := 0) (by omega)
    rw [this]
    exact Ev.now _
  · simp only [if_neg hz]
    have hu : n.natAbs < 10 ^ 19 := by
      have : (10 : Nat) ^ 19 = 10000000000000000000 := by decide
      omega
    refine digL0_ev n _ 19 n.natAbs n [] hu rfl h0 h1 (by simp) ?_
    rw [List.nil_append]
    have hd := dgs_len 19 n.natAbs
    have hr : ∀ l : List UInt8, l.length ≤ 100 → Ev (fun k => q08_Digits.l1 k (dgs 19 n.natAbs) ⟨l.toArray⟩ (((dgs 19 n.natAbs).length : Int) - 1)) ⟨(l ++ Lib.decDigits n.natAbs).toArray⟩ := by
      intro l hl
      have := digL1_ev (dgs 19 n.natAbs) (by omega) (dgs 19 n.natAbs).length l (Nat.le_refl _) (by omega)
      rw [List.take_length, dgs_dec 19 n.natAbs (by omega) hu] at this
      exact this
    unfold Lib.itoa
    by_cases hn : n < 0
    · rw [if_pos hn, if_pos hn]
      exact hr [45] (by simp)
    · rw [if_neg hn, if_neg hn]
      have e : n.toNat = n.natAbs := by omega
      rw [e]
      exact hr [] (by simp)
theorem digits_ok (n : Int) (h0 : -9223372036854775808 ≤ n) (h1 : n ≤ 9223372036854775807) (w : World) :
    Calls Tryz.prog 79 #[.int .i64 n] w fun e w' => e = .returned (.string ⟨(Lib.itoa n).toArray⟩) ∧ Below w.heap.size w w' := by
  obtain ⟨k, hk⟩ := (digits_ev n h0 h1).rounds
  exact q08_Digits.calls k n _ w hk
end Go.Proofs.YtoffpegppdmkdaaGreatDoor.E
