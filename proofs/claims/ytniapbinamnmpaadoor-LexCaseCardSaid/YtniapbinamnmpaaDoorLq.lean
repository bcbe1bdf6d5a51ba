/- lex.quoted, reckoned. -/
import Derived.Test.YtniapbinamnmpaaDoorLn
import Derived.Test.YtniapbinamnmpaaDoorLx4
namespace Go.Proofs.YtniapbinamnmpaaDoor.L
set_option linter.unusedVariables false
set_option linter.unusedSimpArgs false
open Go.RowKit Go.Proofs.YtniapbinamnmpaaDoorW.PrintWords Go.Proofs.YtniapbinamnmpaaDoorW.PrintLast Go.Proofs.YtniapbinamnmpaaDoorW.PrintMore

theorem wrap64_of {x : Int} (h0 : -9223372036854775808 ≤ x) (h1 : x ≤ 9223372036854775807) : wrap64 x = x := by
  unfold wrap64; omega
theorem Ev.const {α : Type} {g : Nat → Option α} {r : α} (c : Nat) (h : ∀ k, g (k + c) = some r) : Ev g r := ⟨c, fun k hk => by
  obtain ⟨m, rfl⟩ : ∃ m, k = m + c := ⟨k - c, by omega⟩
  exact h m⟩
theorem Ev.steps {α : Type} {g f : Nat → Option α} {r : α} (c : Nat) (h : ∀ k, g (k + c) = f k) (k : Ev f r) : Ev g r := by
  obtain ⟨K, hK⟩ := k
  exact ⟨K + c, fun k hk => by
    obtain ⟨m, rfl⟩ : ∃ m, k = m + c := ⟨k - c, by omega⟩
    rw [h]; exact hK m (by omega)⟩
/-- What stands between quotes, and how many bytes that takes, the last quote too. -/
def quotL : List UInt8 → Option (List UInt8 × Nat)
  | [] => none
  | [c] => if c = 39 then some ([], 1) else none
  | c :: d :: l => if c = 39 then (if d = 39 then (quotL l).map (fun p => (39 :: p.1, p.2 + 2)) else some ([], 1)) else (quotL (d :: l)).map (fun p => (c :: p.1, p.2 + 1))
def quotR (acc l : List UInt8) (j : Nat) : ByteArray × Int × Bool := match quotL l with | none => (⟨#[]⟩, 0, false) | some p => (⟨(acc ++ p.1).toArray⟩, ((j + p.2 : Nat) : Int), true)
def intsOf (l : List UInt8) : List Int := l.map fun c => (c.toNat : Int)
theorem strOf_ints (l : List UInt8) : strOfNums (intsOf l) = ⟨l.toArray⟩ := by
  unfold strOfNums intsOf
  congr 2
  rw [List.map_map]
  conv => rhs; rw [← List.map_id l]
  apply List.map_congr_left
  intro c _
  simp
theorem intsOf_snoc (l : List UInt8) (c : UInt8) : intsOf l ++ [(c.toNat : Int)] = intsOf (l ++ [c]) := by simp [intsOf]
theorem intsOf_len (l : List UInt8) : (intsOf l).length = l.length := by simp [intsOf]
theorem bt_list (s : ByteArray) (l : List UInt8) (hl : s.data.toList = l) (j : Nat) (c : UInt8) (r : List UInt8) (h : l.drop j = c :: r) : bt s (j : Int) = (c.toNat : Int) := by
  have hj : j < l.length := by
    have := congrArg List.length h
    simp at this; omega
  have hjs : j < s.size := by rw [sz_list, hl]; exact hj
  unfold bt
  rw [dif_pos (show ((j : Int)).toNat < s.size by omega)]
  have h2 := List.drop_eq_getElem_cons hj
  rw [h] at h2
  injection h2 with h3 h4
  have h5 := byte_at s l hl j hjs
  rw [List.getD_eq_getElem?_getD, List.getElem?_eq_getElem hj] at h5
  have h6 : s[((j : Int)).toNat] = s[j] := rfl
  rw [h6, h5, h3]; rfl
theorem drop_next {l r : List UInt8} {c : UInt8} {j : Nat} (h : l.drop j = c :: r) : l.drop (j + 1) = r := by
  rw [← List.drop_drop, h]; rfl
theorem drop_lt {l r : List UInt8} {c : UInt8} {j : Nat} (h : l.drop j = c :: r) : j < l.length := by
  have := congrArg List.length h
  simp at this; omega
theorem quot_l0 (s : ByteArray) (l : List UInt8) (hl : s.data.toList = l) (hs : l.length ≤ 100000) : ∀ (d j : Nat) (acc : List UInt8), l.length - j ≤ d → acc.length ≤ j → j ≤ l.length + 1 →
    Ev (fun k => lex_quoted.l0 k s (intsOf acc) (j : Int)) (quotR acc (l.drop j) j) := by
  have hsz : s.size = l.length := by rw [sz_list, hl]
  intro d
  induction d with
  | zero =>
    intro j acc hd ha hj
    refine Ev.const 1 (fun k => ?_)
    rw [lex_quoted.l0, if_neg (by omega), List.drop_of_length_le (by omega)]
    rfl
  | succ d ih =>
    intro j acc hd ha hj
    cases hc : l.drop j with
    | nil =>
      have hle : l.length ≤ j := List.drop_eq_nil_iff.1 hc
      refine Ev.const 1 (fun k => ?_)
      rw [lex_quoted.l0, if_neg (by omega)]
      rfl
    | cons c r =>
      have hjl := drop_lt hc
      have hb := bt_list s l hl j c r hc
      have HW : Hid (wrap64 ((j : Int) + 1) = ((j + 1 : Nat) : Int)) := Lib.hid (wrap64_of (by omega) (by omega))
      have hnx := drop_next hc
      by_cases h39 : c = 39
      · subst h39
        have hb39 : bt s (j : Int) = 39 := by rw [hb]; rfl
        cases r with
        | nil =>
          have hle : l.length ≤ j + 1 := List.drop_eq_nil_iff.1 hnx
          refine Ev.const 1 (fun k => ?_)
          rw [lex_quoted.l0, if_pos (by omega), if_pos (by omega), if_pos hb39, HW.out, if_pos (by omega), strOf_ints]
          simp [quotR, quotL]
        | cons e r =>
          have hjl2 := drop_lt hnx
          have hb2 := bt_list s l hl (j + 1) e r hnx
          have HW2 : Hid (wrap64 (((j + 1 : Nat) : Int) + 1) = ((j + 2 : Nat) : Int)) := Lib.hid (by rw [wrap64_of (by omega) (by omega)]; omega)
          by_cases he : e = 39
          · subst he
            have hb239 : bt s ((j + 1 : Nat) : Int) = 39 := by rw [hb2]; rfl
            have hnx2 : l.drop (j + 2) = r := drop_next hnx
            refine Ev.steps 1 (f := fun k => lex_quoted.l0 k s (intsOf (acc ++ [39])) ((j + 2 : Nat) : Int)) (fun k => ?_) ?_
            · rw [lex_quoted.l0, if_pos (by omega), if_pos (by omega), if_pos hb39, HW.out, if_neg (by omega), if_pos (by omega), if_pos (by omega), if_pos hb239, if_pos (by rw [intsOf_len]; omega), HW2.out, hb239, ← intsOf_snoc]; rfl
            · have := ih (j + 2) (acc ++ [39]) (by omega) (by simp; omega) (by omega)
              rw [hnx2] at this
              have e1 : quotR (acc ++ [39]) r (j + 2) = quotR acc (39 :: 39 :: r) j := by
                unfold quotR
                rw [quotL, if_pos rfl, if_pos rfl]
                cases quotL r with
                | none => rfl
                | some p => simp only [Option.map_some, List.append_assoc]; congr 3; omega
              rw [e1] at this
              exact this
          · have hbe : ¬ bt s ((j + 1 : Nat) : Int) = 39 := by
              rw [hb2]; intro h
              exact he (UInt8.toNat_inj.1 (by show e.toNat = 39; omega))
            refine Ev.const 1 (fun k => ?_)
            rw [lex_quoted.l0, if_pos (by omega), if_pos (by omega), if_pos hb39, HW.out, if_neg (by omega), if_pos (by omega), if_pos (by omega), if_neg hbe, strOf_ints]
            unfold quotR
            rw [quotL, if_pos rfl, if_neg he]
            simp
      · have hbc : ¬ bt s (j : Int) = 39 := by
          rw [hb]; intro h
          exact h39 (UInt8.toNat_inj.1 (by show c.toNat = 39; omega))
        refine Ev.steps 1 (f := fun k => lex_quoted.l0 k s (intsOf (acc ++ [c])) ((j + 1 : Nat) : Int)) (fun k => ?_) ?_
        · rw [lex_quoted.l0, if_pos (by omega), if_pos (by omega), if_neg hbc, if_pos (by rw [intsOf_len]; omega), HW.out, hb, ← intsOf_snoc]
        · have := ih (j + 1) (acc ++ [c]) (by omega) (by simp; omega) (by omega)
          rw [hnx] at this
          have e1 : quotR (acc ++ [c]) r (j + 1) = quotR acc (c :: r) j := by
            unfold quotR
            cases r with
            | nil => rw [quotL, quotL, if_neg h39]
            | cons e r =>
              rw [quotL, if_neg h39]
              cases quotL (e :: r) with
              | none => rfl
              | some p => simp only [Option.map_some, List.append_assoc]; congr 3; omega
          rw [e1] at this
          exact this
theorem quoted_ok (s : ByteArray) (i : Nat) (w : World) (hs : s.size ≤ 100000) (hi : i < s.size) :
    Calls Tryd.prog 21 #[.string s, .int .i64 i] w fun e w' => e = .returned (.tuple #[.string (quotR [] (s.data.toList.drop (i + 1)) (i + 1)).1, .int .i64 (quotR [] (s.data.toList.drop (i + 1)) (i + 1)).2.1, .bool (quotR [] (s.data.toList.drop (i + 1)) (i + 1)).2.2]) ∧ Below w.heap.size w w' := by
  have hsz := sz_list s
  obtain ⟨k, hk⟩ := (quot_l0 s _ rfl (by omega) s.data.toList.length (i + 1) [] (by omega) (by simp) (by omega)).rounds
  refine lex_quoted.calls k s i _ _ _ w ?_
  unfold lex_quoted.f
  rw [wrap64_of (by omega) (by omega)]
  exact hk
end Go.Proofs.YtniapbinamnmpaaDoor.L
