/- The walks of chapter 04's laws. -/
import Derived.Test.YtniapbinamnmpaaNu
namespace Go.Proofs.Ytniapbinamnmpaa
open Go.Conc Go.RowKit

theorem row_ints {w : World} {a : Option Addr} {len cap : Nat} {zs : List Int}
    (h : (a = none ∧ len = 0 ∧ cap = 0 ∧ zs = []) ∨ ∃ x, a = some x ∧ len ≤ cap ∧ cap ≤ maxLen ∧ zs.length = cap ∧ (∀ i, i < zs.length → w.cell? (x.add i) = some (.int .i64 (zs.getD i 0))) ∧ ∀ n ∈ zs, (Lit.int .i64 n).wf = true) :
    ∃ l : List Int, l.length = len ∧ len ≤ cap ∧ len ≤ 9223372036854775807 ∧ IntsAt w a l ∧ ∀ x ∈ l, In64 x := by
  rcases h with ⟨rfl, rfl, rfl, rfl⟩ | ⟨x, rfl, h1, h2, h3, h4, h5⟩
  · exact ⟨[], rfl, Nat.le_refl _, by omega, rfl, by simp⟩
  · refine ⟨zs.take len, by simp; omega, h1, by unfold maxLen at h2; omega, ?_, ?_⟩
    · intro i hi
      rw [List.length_take] at hi
      have hc := h4 i (by omega)
      have hg : (zs.take len).getD i 0 = zs.getD i 0 := by simp [show i < len by omega]
      rw [hg]
      have hs : x.spot = none := by
        have h0 := h4 0 (by omega)
        cases hx : x.spot with
        | none => rfl
        | some s =>
          exfalso
          unfold World.cell? Addr.add at h0
          simp only [if_true] at h0
          split at h0 <;> simp_all
      refine ⟨hs, ?_⟩
      rw [← hc]
      cases x
      simp only at hs
      subst hs
      unfold Addr.add
      by_cases h0 : i = 0
      · simp [h0]
      · simp [h0]
    · intro x hx
      have := h5 x (List.mem_of_mem_take hx)
      simp only [Lit.wf, Bool.and_eq_true, decide_eq_true_eq] at this
      exact this

theorem wf_in {x : Int} (h : (Lit.int .i64 x).wf = true) : In64 x := by
  simp only [Lit.wf, Bool.and_eq_true, decide_eq_true_eq] at h
  exact h
theorem left_at {w : World} {b c : Nat} {l : List Int} {m : Nat} (hp : PkAt w b c l) (hm : l.length = m) :
    Calls Try.prog 16 #[.pointer (some ⟨b, 0, none⟩)] w (fun e w' => e = .returned (.int .i64 m) ∧ w = w') := by
  subst hm; exact left_any b c l w hp
/-- The first thousand. -/
def firsts (l : List Int) : List Int := l.take 1000
theorem new_firsts {A : Option Addr} {n c : Nat} {l : List Int} {w : World} (hn : l.length = n) (hc : n ≤ c) (hz : IntsAt w A l) : Calls Try.prog 9 #[.slice A n c] w (NewIs w (firsts l)) := new_is hn hc hz
theorem firsts_in {l : List Int} (h : ∀ x ∈ l, In64 x) : ∀ x ∈ firsts l, In64 x := fun x hx => h x (List.mem_of_mem_take hx)
theorem firsts_min {l : List Int} {n : Nat} (h : l.length = n) : ∃ m : Nat, (firsts l).length = m ∧ (if (1000 : Int) < (n : Int) then (1000 : Int) else (n : Int)) = (m : Int) :=
  ⟨(firsts l).length, rfl, by unfold firsts; rw [List.length_take]; split <;> omega⟩

theorem in_getD {l : List Int} (h : ∀ x ∈ l, In64 x) {k : Nat} (hk : k < l.length) : In64 (l.getD k 0) := by
  have : l.getD k 0 = l[k] := by simp [hk]
  rw [this]; exact h _ (List.getElem_mem _)
theorem firsts_le (l : List Int) : (firsts l).length ≤ 1000 := by unfold firsts; rw [List.length_take]; omega
theorem nextRest_le {l : List Int} {n : Int} {m : Nat} (h : l.length ≤ m) : (nextRest l n).length ≤ m := by
  unfold nextRest; split
  · exact h
  · rw [List.length_tail]; omega
/-- A choice among x ≥ 1 things. -/
theorem next_pos (l : List Int) (x : Int) (hx : 1 ≤ x) : 0 ≤ nextVal l x ∧ nextVal l x < x ∧ (if (1 : Int) < (l.length : Int) then (l.length : Int) - 1 else 0) = ((nextRest l x).length : Int) := by
  have h1 : ¬ x < 1 := by omega
  cases l with
  | nil => simp [nextVal, nextRest, h1]; omega
  | cons y l =>
    simp only [nextVal, nextRest, if_neg h1, pickNo, List.tail_cons, List.length_cons]
    exact ⟨Int.emod_nonneg _ (by omega), Int.emod_lt_of_pos _ (by omega), by split <;> omega⟩
theorem next_none (l : List Int) (x : Int) (hx : x < 1) : nextVal l x = 0 ∧ nextRest l x = l := by simp [nextVal, nextRest, hx]
theorem next_out {w : World} {b c : Nat} {l : List Int} {n : Int} (hp : PkAt w b c l) (hl : ∀ x ∈ l, In64 x) (hn : In64 n) {v : Int} {l' : List Int} (hv : nextVal l n = v) (hr : nextRest l n = l') :
    Calls Try.prog 11 #[.pointer (some ⟨b, 0, none⟩), .int .i64 n] w fun e w' => e = .returned (.int .i64 v) ∧ PkAt w' b c l' ∧ Keep c w w' := next_at hp v l' hl hn hv hr

set_option maxRecDepth 100000 in
theorem within_walk (A B : Option Addr) (na ca nb cb : Nat) (l ch : List Int) (w : World) (hl : l.length = na) (hca : na ≤ ca) (ha : IntsAt w A l) (hli : ∀ x ∈ l, In64 x) (hc : ch.length = nb) (hb : IntsAt w B ch) (hci : ∀ x ∈ ch, In64 x) :
    Calls Try.prog 4 #[.slice A na ca, .slice B nb cb] w fun e w' => e = .returned (.bool true) ∧ Below w.heap.size w w' := by
  have HL := Lib.hid hl; clear hl
  have HC := Lib.hid hc; clear hc
  go_enter Try.func4, Try.ntmps4
  go_wp2_with fail
  refine (examples_any w).mono ?_
  rintro e w1 ⟨rfl, hB1⟩
  go_wp2_with fail
  refine (new_firsts HL.out hca (ha.below hB1)).mono ?_
  rintro e w2 ⟨b, c, rfl, hp2, hb2, hg, hg'⟩
  have hB2 : Below w.heap.size w w2 := hB1.trans (hb2.mono hB1.size)
  have hcw : w.heap.size ≤ c := Nat.le_trans hB1.size hg'
  clear hB1 hb2 hg hg'
  obtain ⟨m, hm, hmin⟩ := firsts_min HL.out
  have HM := Lib.hid hm; clear hm
  go_wp2_with fail
  refine (left_at hp2 HM.out).mono ?_
  rintro e w3 ⟨rfl, rfl⟩
  go_wp2_with fail
  go_loopw [7, 8, 9] (fun v7 _ _ wr => ∃ k : Nat, k ≤ nb ∧ v7 = .int .i64 k ∧ Below w.heap.size w wr ∧ ∃ rest, PkAt wr b c rest ∧ Hid (∀ x ∈ rest, In64 x) ∧ Hid (rest.length ≤ 1000)) (fun i _ _ _ => nb - (intOf i).toNat)
  case atStart => exact ⟨0, Nat.zero_le _, rfl, hB2, _, hp2, firsts_in hli, firsts_le l⟩
  case round =>
    obtain ⟨k, hk, rfl, hB, rest, hp, HI, HLE⟩ := hrel
    by_cases hlt : k < nb
    · by_cases h100 : k < 100
      · obtain ⟨bb, oo, rfl, hce⟩ := hb.at k (by rw [HC.out]; exact hlt)
        obtain ⟨x, hx⟩ : ∃ x, x = ch.getD k 0 := ⟨_, rfl⟩
        have hxi : In64 x := by
          exact hx ▸ in_getD hci (by rw [HC.out]; exact hlt)
        rw [← hx] at hce
        clear hx
        have HCE := Lib.hid hce
        rw [← hB.cell (cell_lt hce)] at hce
        obtain ⟨m1, hm1⟩ : ∃ m1, rest.length = m1 := ⟨_, rfl⟩
        have HM1 := Lib.hid hm1; clear hm1
        obtain ⟨v, hv⟩ : ∃ v, nextVal rest x = v := ⟨_, rfl⟩
        obtain ⟨rest', hr'⟩ : ∃ r, nextRest rest x = r := ⟨_, rfl⟩
        obtain ⟨m2, hm2⟩ : ∃ m2, rest'.length = m2 := ⟨_, rfl⟩
        have HI' : Hid (∀ x ∈ rest', In64 x) := by rw [← hr']; exact nextRest_in HI.out
        have HV := Lib.hid hv; have HR := Lib.hid hr'; have HM2 := Lib.hid hm2
        have HLE' : Hid (rest'.length ≤ 1000) := by rw [← hr']; exact nextRest_le HLE.out
        have hm1 : m1 ≤ 1000 := by have := HLE.out; have := HM1.out; omega
        have hk1 : (k : Int) < nb := by omega
        have hk2 : (k : Int) < 100 := by omega
        by_cases hx1 : 1 ≤ x
        · have hpos := next_pos rest x hx1
          rw [hv, hr', hm2, HM1.out] at hpos
          obtain ⟨hv0, hvx, hmx⟩ := hpos
          clear hv hr' hm2
          go_wp2_with fail
          refine (left_at hp HM1.out).mono ?_
          rintro e w3 ⟨rfl, rfl⟩
          go_wp2_with fail
          refine (next_out hp HI.out hxi HV.out HR.out).mono ?_
          rintro e w4 ⟨rfl, hp4, hk4⟩
          have hB4 : Below w.heap.size w w4 := hk4.below hB hcw
          have hce4 : w4.cell? ⟨bb, oo + k, none⟩ = some (.int .i64 x) := by rw [hB4.cell (cell_lt HCE.out), HCE.out]
          go_wp2_with (go_at_call 16; refine (left_at hp4 HM2.out).mono ?_; rintro e w5 ⟨rfl, rfl⟩)
          go_roundw
          case rel => exact ⟨k + 1, by omega, by go_num, hB4, rest', hp4, HI', HLE'⟩
          case measure => simp [intOf]; omega
        · have hx2 : x < 1 := by omega
          obtain ⟨h1, h2⟩ := next_none rest x hx2
          have hv0 : v = 0 := by rw [← hv, h1]
          have hmm : m2 = m1 := by rw [← hm2, ← hr', h2, HM1.out]
          clear hv hr' hm2
          subst hv0 hmm
          go_wp2_with fail
          refine (left_at hp HM1.out).mono ?_
          rintro e w3 ⟨rfl, rfl⟩
          go_wp2_with fail
          refine (next_out hp HI.out hxi HV.out HR.out).mono ?_
          rintro e w4 ⟨rfl, hp4, hk4⟩
          have hB4 : Below w.heap.size w w4 := hk4.below hB hcw
          have hce4 : w4.cell? ⟨bb, oo + k, none⟩ = some (.int .i64 x) := by rw [hB4.cell (cell_lt HCE.out), HCE.out]
          go_wp2_with (go_at_call 16; refine (left_at hp4 HM2.out).mono ?_; rintro e w5 ⟨rfl, rfl⟩)
          go_roundw
          case rel => exact ⟨k + 1, by omega, by go_num, hB4, rest', hp4, HI', HLE'⟩
          case measure => simp [intOf]; omega
      · have hk1 : (k : Int) < nb := by omega
        have hk2 : ¬ (k : Int) < 100 := by omega
        go_wp2_with fail
        go_ret
        exact ⟨rfl, hB⟩
    · have hk1 : ¬ (k : Int) < nb := by omega
      go_wp2_with fail
      go_ret
      exact ⟨rfl, hB⟩
end Go.Proofs.Ytniapbinamnmpaa
