/- Contracts of the document's picks: New, Next. -/
import Derived.Test.YtniapbinamnmpaaLw4
import Derived.Deep.AppendLies
import Derived.Maps.AppendAt
import Derived.Laws.AppendOwn
namespace Go.Proofs.Ytniapbinamnmpaa
set_option linter.unusedVariables false
open Go.Conc Go.RowKit

/-- The document's picks at block b: the numbers l, which lie where they lay in w0. -/
def RAt (w0 w : World) (b : Nat) (l : List Int) : Prop :=
  ∃ A n c, w.heap[b]? = some (.cells #[.slice A n c] 33 (0, 0)) ∧ l.length = n ∧ n ≤ c ∧ c ≤ 9223372036854775807 ∧ IntsAt w0 A l
theorem RAt.of {w0 w w' : World} {b : Nat} {l : List Int} (h : RAt w0 w b l) (hb : w'.heap[b]? = w.heap[b]?) : RAt w0 w' b l := by
  obtain ⟨A, n, c, h1, h2⟩ := h
  exact ⟨A, n, c, hb.trans h1, h2⟩
theorem RAt.lt {w0 w : World} {b : Nat} {l : List Int} (h : RAt w0 w b l) : b < w.heap.size := by
  obtain ⟨A, n, c, h1, h2⟩ := h
  exact (Array.getElem?_eq_some_iff.1 h1).1
theorem RAt.keep {w0 w w' : World} {b d : Nat} {l : List Int} (h : RAt w0 w b l) (hk : Keep d w w') (hb : b ≠ d) : RAt w0 w' b l := h.of (hk.block _ hb)
theorem RAt.only {w0 w w' : World} {b d : Nat} {l : List Int} (h : RAt w0 w b l) (hk : Only d w w') (hb : b ≠ d) : RAt w0 w' b l := h.of (hk.block _ h.lt hb)
theorem RAt.below {w0 w w' : World} {b : Nat} {l : List Int} (h : RAt w0 w b l) (hb : Below w.heap.size w w') : RAt w0 w' b l := h.of (hb.block _ h.lt)

def RNew (w0 w : World) (l : List Int) (e : Ending) (w' : World) : Prop :=
  ∃ b, e = .returned (.pointer (some ⟨b, 0, none⟩)) ∧ RAt w0 w' b l ∧ Below w.heap.size w w' ∧ w.heap.size ≤ b
set_option maxRecDepth 100000 in
theorem rnew_min (A : Option Addr) (n0 n c : Nat) (l : List Int) (w0 w : World) (hn : n ≤ c) (hc63 : c ≤ 9223372036854775807) (hmin : (if (1000 : Int) < (n0 : Int) then (1000 : Int) else (n0 : Int)) = (n : Int)) (hz : IntsAt w0 A l) (hl : l.length = n) :
    Calls Try.prog 10 #[.slice A n0 c] w (RNew w0 w l) := by
  have h1 : n ≤ 1000 := by split at hmin <;> omega
  have hc : (n : Int) ≤ c := by omega
  have h0 : (0 : Int) ≤ n := by omega
  have HL : Hid (l.length = n) := hl
  have HZ := Lib.hid hz
  clear hl hz
  go_enter Try.func10, Try.ntmps10
  go_wp2
  go_ret
  refine ⟨w.heap.size, rfl, ⟨A, n, c, ?_, HL.out, hn, hc63, HZ.out⟩, below_alloc _ _, Nat.le_refl _⟩
  exact heap_alloc_new _ _
theorem rnew_any (A : Option Addr) (c n : Nat) (l : List Int) (w0 w : World) (hln : l.length = n) (hn : n ≤ c) (hc63 : c ≤ 9223372036854775807) (hz : IntsAt w0 A l) :
    Calls Try.prog 10 #[.slice A n c] w (RNew w0 w (firsts l)) := by
  subst hln
  exact rnew_min A l.length (min l.length 1000) c (firsts l) w0 w (by omega) hc63 (by split <;> omega) (hz.take 1000) (by unfold firsts; simp; omega)

theorem IntsAt.tail {w : World} {b o : Nat} {x : Int} {l : List Int} (h : IntsAt w (some ⟨b, o, none⟩) (x :: l)) : IntsAt w (some ⟨b, o + 1, none⟩) l := by
  intro i hi
  obtain ⟨h1, h2⟩ := h (i + 1) (by simp; omega)
  refine ⟨rfl, ?_⟩
  rw [show o + 1 + i = o + (i + 1) by omega]
  simpa using h2
def RNext (w0 w : World) (b : Nat) (l : List Int) (n : Int) (e : Ending) (w' : World) : Prop :=
  e = .returned (.int .i64 (nextVal l n)) ∧ RAt w0 w' b (nextRest l n) ∧ Keep b w w'
theorem rat_set {w0 w : World} {b n c : Nat} {A : Option Addr} {l : List Int} {B : Option Addr} {m d : Nat} (h : w.heap[b]? = some (.cells #[.slice B m d] 33 (0, 0))) (h1 : l.length = n) (h2 : n ≤ c) (h3 : c ≤ 9223372036854775807) (h4 : IntsAt w0 A l) :
    RAt w0 (w.setCell ⟨b, 0, none⟩ (.slice A n c)) b l := by
  refine ⟨A, n, c, ?_, h1, h2, h3, h4⟩
  simp [World.setCell, Array.getElem?_modify, h]

set_option maxRecDepth 100000 in
theorem rnext_any (b : Nat) (l : List Int) (n : Int) (w0 w : World) (hB : Below w0.heap.size w0 w) (hp : RAt w0 w b l) (hl : ∀ x ∈ l, In64 x) (hn : In64 n) :
    Calls Try.prog 12 #[.pointer (some ⟨b, 0, none⟩), .int .i64 n] w (RNext w0 w b l n) := by
  obtain ⟨A, m, c, hb, hm, hmc, hc63, hz⟩ := hp
  have hcl : w.cell? ⟨b, 0, none⟩ = some (.slice A m c) := by unfold World.cell?; rw [hb]; simp
  have hfz : w.frozen? ⟨b, 0, none⟩ = false := by unfold World.frozen?; rw [hb]; simp
  by_cases h1 : n < 1
  · have HP : Hid (RAt w0 w b l) := ⟨A, m, c, hb, hm, hmc, hc63, hz⟩
    have HV : Hid (nextVal l n = 0) := by simp [Hid, nextVal, h1]
    have HR : Hid (nextRest l n = l) := by simp [Hid, nextRest, h1]
    clear hm hz
    go_enter Try.func12, Try.ntmps12
    go_wp2
    go_ret
    exact ⟨by rw [HV.out]; rfl, by rw [HR.out]; exact HP.out, Keep.refl _ _⟩
  · cases l with
    | nil =>
      obtain rfl : m = 0 := by simpa using hm.symm
      have HP : Hid (RAt w0 w b []) := ⟨A, 0, c, hb, rfl, hmc, hc63, hz⟩
      clear hm hz
      go_enter Try.func12, Try.ntmps12
      go_wp2
      go_ret
      refine ⟨by simp [nextVal], ?_, Keep.refl _ _⟩
      have : nextRest [] n = [] := by unfold nextRest; split <;> rfl
      rw [this]; exact HP.out
    | cons x l =>
      have hx := hl x (by simp)
      obtain ⟨hx1, hx2⟩ := hx
      obtain ⟨hn1, hn2⟩ := hn
      obtain ⟨m, rfl⟩ : ∃ k, m = k + 1 := ⟨m - 1, by simp at hm; omega⟩
      have HM : Hid (l.length = m) := by show _ = _; simpa using hm
      have HV : Hid (nextVal (x :: l) n = pickNo x n) := by simp [Hid, nextVal, h1]
      have HR : Hid (nextRest (x :: l) n = l) := by simp [Hid, nextRest, h1]
      obtain ⟨bb, oo, rfl, hce⟩ := hz.at 0 (by simp)
      have hce2 : w.cell? ⟨bb, oo, none⟩ = some (.int .i64 x) := by
        have h := hB.cell (cell_lt hce)
        exact h.trans hce
      have HZ := Lib.hid hz; have HB := Lib.hid hb
      clear hce hz hm hb
      have hm1 : (1 : Int) ≤ (m : Int) + 1 := by omega
      have hm2 : (m : Int) + 1 ≤ c := by omega
      have hm3 : ¬ ((m : Int) + 1 = 0) := by omega
      have hm4 : ((m : Int) + 1 == 0) = false := beq_eq_false_iff_ne.mpr (by omega)
      have HC : Hid (m ≤ c - 1) := by show _ ≤ _; omega
      have HE : ∀ W : World, Hid (W = w.setCell ⟨b, 0, none⟩ (.slice (if c = 1 then some ⟨bb, oo, none⟩ else some ⟨bb, oo + 1, none⟩) m (c - 1)) → RAt w0 W b l ∧ Keep b w W) := by
        intro W hW
        subst hW
        refine ⟨rat_set HB.out HM.out HC.out (by omega) ?_, keep_setCell _ _ _ _⟩
        by_cases hc1 : c = 1
        · rw [if_pos hc1]
          obtain rfl : l = [] := by have := HM.out; exact List.eq_nil_of_length_eq_zero (by omega)
          intro i hi; simp at hi
        · rw [if_neg hc1]; exact HZ.out.tail
      by_cases hc1 : c = 1
      all_goals
        go_enter Try.func12, Try.ntmps12
        go_wp2
        all_goals
          go_ret
          refine ⟨?_, by rw [HR.out]; exact (HE _ (by show _ = _; first | rw [if_neg hc1] | (subst hc1; rfl))).1, (HE _ (by show _ = _; first | rw [if_neg hc1] | (subst hc1; rfl))).2⟩
          rw [HV.out]
          refine ret_int ?_
          unfold pickNo
          first
            | (have hx0 : x < 0 := by assumption
               rw [if_pos hx0, ← Int.neg_tmod]; exact Int.tmod_eq_emod_of_nonneg (by omega))
            | rw [if_neg (by omega)]
end Go.Proofs.Ytniapbinamnmpaa
