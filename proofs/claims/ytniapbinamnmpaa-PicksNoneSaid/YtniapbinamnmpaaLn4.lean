/- The walk of chapter 04's PicksNone. -/
import Derived.Test.YtniapbinamnmpaaLw4
namespace Go.Proofs.Ytniapbinamnmpaa
open Go.Conc Go.RowKit

theorem shufGo_none : ∀ (d : Nat) (rest : List Int), rest.length = d → shufGo d [] rest = (rest, []) := by
  intro d
  induction d with
  | zero => intro rest h; obtain rfl := List.eq_nil_of_length_eq_zero h; rfl
  | succ d ih =>
    intro rest h
    obtain ⟨y, r, rfl⟩ : ∃ y r, rest = y :: r := by cases rest with | nil => simp at h | cons y r => exact ⟨y, r, rfl⟩
    have hn : nextVal [] ((d + 1 : Nat) : Int) = 0 := by unfold nextVal; split <;> rfl
    have hr : nextRest [] ((d + 1 : Nat) : Int) = [] := by unfold nextRest; split <;> rfl
    simp only [shufGo, hn, hr, Int.toNat_zero]
    rw [List.eraseIdx_cons_zero, ih r (by simpa using h)]
    simp

theorem range_getD (m k : Nat) (h : k < m) : ((List.range m).map Int.ofNat).getD k 0 = (k : Int) := by simp [h]

set_option maxRecDepth 100000 in
theorem none_walk (n m : Int) (w : World) (hn : In64 n) (hm : In64 m) :
    Calls Try.prog 6 #[.int .i64 n, .int .i64 m] w fun e w' => e = .returned (.bool true) ∧ Below w.heap.size w w' := by
  obtain ⟨hn1, hn2⟩ := hn
  obtain ⟨nn, hnn⟩ : ∃ nn, nn = if 200 < n then n % 201 else n := ⟨_, rfl⟩
  have hle : nn ≤ 200 := by split at hnn <;> omega
  have hlo : -9223372036854775808 ≤ nn := by split at hnn <;> omega
  obtain ⟨q, hq⟩ : ∃ q : Nat, (max 0 (min nn 1000)).toNat = q := ⟨_, rfl⟩
  have hmax : (if 0 < nn then nn else 0) = (q : Int) := by split <;> omega
  have hq200 : q ≤ 200 := by omega
  have HQ := Lib.hid hq
  clear hq
  by_cases h200 : 200 < n
  · rw [if_pos h200] at hnn
    have hmod : n % 201 = nn := hnn.symm
    clear hnn
    go_enter Try.func6, Try.ntmps6
    go_wp2_with fail
    refine (examples_any w).mono ?_
    rintro e w1 ⟨rfl, hB1⟩
    go_wp2_with fail
    refine (new_firsts (A := none) (l := []) rfl (Nat.le_refl _) rfl).mono ?_
    rintro e w2 ⟨b, c, rfl, hp2, hb2, hg, hg'⟩
    have hB2 : Below w.heap.size w w2 := hB1.trans (hb2.mono hB1.size)
    have hcw : w.heap.size ≤ c := Nat.le_trans hB1.size hg'
    clear hB1 hb2 hg hg'
    go_wp2_with fail
    refine (shuffle_any b c [] nn q w2 hp2 (by simp) HQ.out).mono ?_
    rintro e w3 ⟨rfl, hr3, hq3, hk3⟩
    have hB3 : Below w.heap.size w w3 := hk3.below hB2 hcw hB2.size
    rw [shufGo_none q _ (by simp)] at hr3 hq3
    clear hp2 hB2 hk3
    obtain ⟨N, hN⟩ : ∃ N, w2.heap.size = N := ⟨_, rfl⟩
    rw [hN] at hr3 ⊢
    clear hN
    go_wp2_with fail
    go_loop [8] (fun v => ∃ k : Nat, k ≤ q ∧ v = .int .i64 k) (fun i => q - (intOf i).toNat)
    case atStart => exact ⟨0, Nat.zero_le _, rfl⟩
    case round =>
      obtain ⟨k, hk, rfl⟩ := hrel
      by_cases hlt : k < q
      · have hc := hr3.cell (i := k) (by simpa using hlt)
        rw [range_getD q k hlt] at hc
        have hlt' : (k : Int) < q := by omega
        go_wp2_with fail
        go_round
        case rel => exact ⟨k + 1, by omega, by go_num⟩
        case measure => simp [intOf]; omega
      · have hlt' : ¬ (k : Int) < q := by omega
        go_wp2_with fail
        refine (next_out hq3 (by simp) hm (v := 0) (l' := []) (by unfold nextVal; split <;> rfl) (by unfold nextRest; split <;> rfl)).mono ?_
        rintro e w4 ⟨rfl, hp4, hk4⟩
        have hB4 : Below w.heap.size w w4 := hk4.below hB3 hcw
        go_wp2_with fail
        refine (left_at hp4 (m := 0) rfl).mono ?_
        rintro e w5 ⟨rfl, rfl⟩
        go_wp2_with fail
        go_ret
        exact ⟨rfl, hB4⟩
  · rw [if_neg h200] at hnn
    obtain rfl : n = nn := hnn.symm
    have h200' : n ≤ 200 := by omega
    clear hnn
    go_enter Try.func6, Try.ntmps6
    go_wp2_with fail
    refine (examples_any w).mono ?_
    rintro e w1 ⟨rfl, hB1⟩
    go_wp2_with fail
    refine (new_firsts (A := none) (l := []) rfl (Nat.le_refl _) rfl).mono ?_
    rintro e w2 ⟨b, c, rfl, hp2, hb2, hg, hg'⟩
    have hB2 : Below w.heap.size w w2 := hB1.trans (hb2.mono hB1.size)
    have hcw : w.heap.size ≤ c := Nat.le_trans hB1.size hg'
    clear hB1 hb2 hg hg'
    go_wp2_with fail
    refine (shuffle_any b c [] n q w2 hp2 (by simp) HQ.out).mono ?_
    rintro e w3 ⟨rfl, hr3, hq3, hk3⟩
    have hB3 : Below w.heap.size w w3 := hk3.below hB2 hcw hB2.size
    rw [shufGo_none q _ (by simp)] at hr3 hq3
    clear hp2 hB2 hk3
    obtain ⟨N, hN⟩ : ∃ N, w2.heap.size = N := ⟨_, rfl⟩
    rw [hN] at hr3 ⊢
    clear hN
    go_wp2_with fail
    go_loop [8] (fun v => ∃ k : Nat, k ≤ q ∧ v = .int .i64 k) (fun i => q - (intOf i).toNat)
    case atStart => exact ⟨0, Nat.zero_le _, rfl⟩
    case round =>
      obtain ⟨k, hk, rfl⟩ := hrel
      by_cases hlt : k < q
      · have hc := hr3.cell (i := k) (by simpa using hlt)
        rw [range_getD q k hlt] at hc
        have hlt' : (k : Int) < q := by omega
        go_wp2_with fail
        go_round
        case rel => exact ⟨k + 1, by omega, by go_num⟩
        case measure => simp [intOf]; omega
      · have hlt' : ¬ (k : Int) < q := by omega
        go_wp2_with fail
        refine (next_out hq3 (by simp) hm (v := 0) (l' := []) (by unfold nextVal; split <;> rfl) (by unfold nextRest; split <;> rfl)).mono ?_
        rintro e w4 ⟨rfl, hp4, hk4⟩
        have hB4 : Below w.heap.size w w4 := hk4.below hB3 hcw
        go_wp2_with fail
        refine (left_at hp4 (m := 0) rfl).mono ?_
        rintro e w5 ⟨rfl, rfl⟩
        go_wp2_with fail
        go_ret
        exact ⟨rfl, hB4⟩
end Go.Proofs.Ytniapbinamnmpaa
