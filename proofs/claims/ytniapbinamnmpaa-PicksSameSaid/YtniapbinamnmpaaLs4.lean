/- The walk of chapter 04's PicksSame. -/
import Derived.Test.YtniapbinamnmpaaLw4
import Derived.Deep.RegionWith
namespace Go.Proofs.Ytniapbinamnmpaa
open Go.Conc Go.RowKit

set_option maxHeartbeats 1000000 in
set_option maxRecDepth 100000 in
theorem same_walk (A B : Option Addr) (na ca nb cb : Nat) (l ch : List Int) (w : World) (hl : l.length = na) (hca : na ≤ ca) (ha : IntsAt w A l) (hli : ∀ x ∈ l, In64 x) (hc : ch.length = nb) (hb : IntsAt w B ch) (hci : ∀ x ∈ ch, In64 x) :
    Calls Try.prog 7 #[.slice A na ca, .slice B nb cb] w fun e w' => e = .returned (.bool true) ∧ Below w.heap.size w w' := by
  have HL := Lib.hid hl; clear hl
  have HC := Lib.hid hc; clear hc
  go_enter Try.func7, Try.ntmps7
  go_wp2_with fail
  refine (examples_any w).mono ?_
  rintro e w1 ⟨rfl, hB1⟩
  go_wp2_with fail
  refine (new_firsts HL.out hca (ha.below hB1)).mono ?_
  rintro e w2 ⟨b1, c1, rfl, hp2, hb2, hg, hg'⟩
  have hB2 : Below w.heap.size w w2 := hB1.trans (hb2.mono hB1.size)
  have hcw1 : w.heap.size ≤ c1 := Nat.le_trans hB1.size hg'
  have hb1 := hp2.ltb
  have hc1 := hp2.ltc
  clear hB1 hb2 hg hg'
  go_wp2_with fail
  refine (new_firsts HL.out hca (ha.below hB2)).mono ?_
  rintro e w3 ⟨b2, c2, rfl, hq3, hb3, hg, hg'⟩
  have hB3 : Below w.heap.size w w3 := hB2.trans (hb3.mono hB2.size)
  have hcw2 : w.heap.size ≤ c2 := Nat.le_trans hB2.size hg'
  have hp3 := hp2.below hb3
  have hb2 := hq3.ltb
  have hc2 := hq3.ltc
  have hn1 : b1 ≠ c2 := by omega
  have hn2 : c1 ≠ c2 := by omega
  have hn3 : b2 ≠ c1 := by omega
  clear hB2 hb3 hg hg' hp2 hb1 hc1
  go_wp2_with fail
  refine (new_lit 1 1 [3] rfl (by omega) (by omega) (heap_alloc_new _ _)).mono ?_
  rintro e w4 ⟨b3, c3, rfl, ho4, hb4, hg, hg'⟩
  have hB4' : Below w3.heap.size w3 w4 := (below_alloc w3 _).trans (hb4.mono (by simp))
  have hB4 : Below w.heap.size w w4 := hB3.trans (hB4'.mono hB3.size)
  have hp4 := hp3.below hB4'
  have hq4 := hq3.below hB4'
  have hl1 := hp3.ltb
  have hl2 := hp3.ltc
  have hgb : w3.heap.size ≤ b3 := by simp at hg; omega
  have hgc : w3.heap.size ≤ c3 := by simp at hg'; omega
  have hcw3 : w.heap.size ≤ c3 := Nat.le_trans hB3.size hgc
  have hn4 : b1 ≠ c3 := by omega
  have hn5 : c1 ≠ c3 := by omega
  have hn6 : b2 ≠ c3 := by omega
  have hn7 : c2 ≠ c3 := by omega
  have hn8 : b3 ≠ c1 := by omega
  have hn9 : b3 ≠ c2 := by omega
  clear hg hg' hB4' hb4 hp3 hq3 hB3 hl1 hl2 hb2 hc2 hgb hgc
  go_wp2_with fail
  go_loopw [9, 10] (fun v7 _ wr => ∃ k : Nat, k ≤ nb ∧ v7 = .int .i64 k ∧ Below w.heap.size w wr ∧ ∃ rest os, PkAt wr b1 c1 rest ∧ PkAt wr b2 c2 rest ∧ PkAt wr b3 c3 os ∧ Hid (∀ x ∈ rest, In64 x) ∧ Hid (∀ x ∈ os, In64 x)) (fun i _ _ => nb - (intOf i).toNat)
  case atStart => exact ⟨0, Nat.zero_le _, rfl, hB4, _, _, hp4, hq4, ho4, firsts_in hli, by show ∀ _ ∈ _, _; decide⟩
  case round =>
    obtain ⟨k, hk, rfl, hB, rest, os, hp, hq, ho, HI, HJ⟩ := hrel
    by_cases hlt : k < nb
    · by_cases h60 : k < 60
      · obtain ⟨bb, oo, rfl, hce⟩ := hb.at k (by rw [HC.out]; exact hlt)
        obtain ⟨x, hx⟩ : ∃ x, x = ch.getD k 0 := ⟨_, rfl⟩
        have hxi : In64 x := by
          exact hx ▸ in_getD hci (by rw [HC.out]; exact hlt)
        rw [← hx] at hce
        clear hx
        have HCE := Lib.hid hce
        rw [← hB.cell (cell_lt hce)] at hce
        obtain ⟨v, hv⟩ : ∃ v, nextVal rest x = v := ⟨_, rfl⟩
        obtain ⟨rest', hr'⟩ : ∃ r, nextRest rest x = r := ⟨_, rfl⟩
        obtain ⟨m2, hm2⟩ : ∃ m2, rest'.length = m2 := ⟨_, rfl⟩
        have HI' : Hid (∀ x ∈ rest', In64 x) := by rw [← hr']; exact nextRest_in HI.out
        have HV := Lib.hid hv; have HR := Lib.hid hr'; have HM2 := Lib.hid hm2
        clear hv hr' hm2
        have hk1 : (k : Int) < nb := by omega
        have hk2 : (k : Int) < 60 := by omega
        go_wp2_with fail
        refine (next_out hp HI.out hxi HV.out HR.out).mono ?_
        rintro e w5 ⟨rfl, hp5, hk5⟩
        have hB5 : Below w.heap.size w w5 := hk5.below hB hcw1
        have hq5 := hq.keep hk5 hn3 (Ne.symm hn2)
        have ho5 := ho.keep hk5 hn8 (Ne.symm hn5)
        clear hp hq ho hB hce hk5
        go_wp2_with fail
        refine (next_any b3 c3 os 7 w5 ho5 HJ.out (by decide)).mono ?_
        rintro e w6 ⟨rfl, ho6, hk6⟩
        have hB6 : Below w.heap.size w w6 := hk6.below hB5 hcw3
        have hp6 := hp5.keep hk6 hn4 hn5
        have hq6 := hq5.keep hk6 hn6 hn7
        have hce6 : w6.cell? ⟨bb, oo + k, none⟩ = some (.int .i64 x) := by rw [hB6.cell (cell_lt HCE.out), HCE.out]
        clear hB5 hp5 hq5 ho5 hk6
        go_wp2_with fail
        refine (next_out hq6 HI.out hxi HV.out HR.out).mono ?_
        rintro e w7 ⟨rfl, hq7, hk7⟩
        have hB7 : Below w.heap.size w w7 := hk7.below hB6 hcw2
        have hp7 := hp6.keep hk7 hn1 hn2
        have ho7 := ho6.keep hk7 hn9 (Ne.symm hn7)
        clear hB6 hp6 hq6 ho6 hk7 hce6
        go_wp2_with fail
        refine (left_at hp7 HM2.out).mono ?_
        rintro e w8 ⟨rfl, rfl⟩
        go_wp2_with fail
        refine (left_at hq7 HM2.out).mono ?_
        rintro e w9 ⟨rfl, rfl⟩
        go_wp2_with fail
        go_roundw
        case rel => exact ⟨k + 1, by omega, by go_num, hB7, rest', _, hp7, hq7, ho7, HI', nextRest_in HJ.out⟩
        case measure => simp [intOf]; omega
      · have hk1 : (k : Int) < nb := by omega
        have hk2 : ¬ (k : Int) < 60 := by omega
        go_wp2_with fail
        go_ret
        exact ⟨rfl, hB⟩
    · have hk1 : ¬ (k : Int) < nb := by omega
      go_wp2_with fail
      go_ret
      exact ⟨rfl, hB⟩
end Go.Proofs.Ytniapbinamnmpaa
