/- The contract of (*Picks).Shuffle. -/
import Derived.Test.YtniapbinamnmpaaPk
import Derived.Laws.MakeOwn
import Derived.Laws.CopyOwn
import Derived.Laws.CopyRow
import Derived.StillTailTactics
import Derived.Lib.Hide
import Derived.IntWalk
namespace Go.Proofs.Ytniapbinamnmpaa
open Go.Conc Go.RowKit

theorem mk_row (m : Nat) (hm : m ≤ 1000) (w : World) : (Instr.makeSlice 22 (.int .i64 m) (.int .i64 m)).run Try.prog w = .ok (.slice (some ⟨w.heap.size, 0, none⟩) m m) (w.alloc (.cells (bufOf (List.replicate m 0)) 3)) := by
  have h : (Try.prog.info? 3).map (fun i => (i.zero, i.size, i.bytes)) = some (some (.int .i64 0), 1, 8) := by kernel_rfl
  obtain ⟨i, hi, hb⟩ := Option.map_eq_some_iff.1 h
  simp only [Prod.mk.injEq] at hb
  obtain ⟨h1, h2, h3⟩ := hb
  have := run_make (P := Try.prog) w 22 3 i (.int .i64 0) Try.underlying22 hi h1 .i64 .i64 m m (by omega) (by omega) (by rw [h3]; omega) (by omega)
  rw [this, h2]
  congr 3
  apply Array.ext
  · simp [madeCells, bufOf]
  · intro j h1 h2
    simp [madeCells, bufOf, Value.cells, Nat.mod_one]

theorem mk_rowB (m : Nat) (w : World) : (w.alloc (.cells (bufOf (List.replicate m 0)) 3)).heap[w.heap.size]? = some (.cells (bufOf (List.replicate m 0)) 3 (0, 0)) := heap_alloc_new _ _

/-- Block N is a row of these numbers. -/
def RowAt (w : World) (N : Nat) (zs : List Int) : Prop := w.heap[N]? = some (.cells (bufOf zs) 3 (0, 0))
theorem bufOf_get (zs : List Int) (i : Nat) (h : i < zs.length) : (bufOf zs)[i]? = some (.int .i64 (zs.getD i 0)) := by
  simp [bufOf, h]
theorem RowAt.cell {w : World} {N : Nat} {zs : List Int} (h : RowAt w N zs) {i : Nat} (hi : i < zs.length) : w.cell? ⟨N, i, none⟩ = some (.int .i64 (zs.getD i 0)) := by
  unfold World.cell?; rw [h]; simpa using bufOf_get zs i hi
theorem RowAt.frozen {w : World} {N : Nat} {zs : List Int} (h : RowAt w N zs) (i : Nat) : w.frozen? ⟨N, i, none⟩ = false := by
  unfold World.frozen?; rw [h]; simp
theorem bufOf_set (zs : List Int) (i : Nat) (x : Int) : (bufOf zs).setIfInBounds i (.int .i64 x) = bufOf (zs.set i x) := by
  simp [bufOf, List.map_set]
theorem RowAt.lt {w : World} {N : Nat} {zs : List Int} (h : RowAt w N zs) : N < w.heap.size := (Array.getElem?_eq_some_iff.1 h).1
theorem keep_setCell (w : World) (N i : Nat) (u : Value) : Keep N w (w.setCell ⟨N, i, none⟩ u) :=
  ⟨rfl, rfl, rfl, by simp [World.setCell], fun k hk => Below.heap_setCell _ _ _ _ hk⟩

theorem RowAt.setCell {w : World} {N : Nat} {zs : List Int} (h : RowAt w N zs) (i : Nat) (x : Int) : RowAt (w.setCell ⟨N, i, none⟩ (.int .i64 x)) N (zs.set i x) := by
  unfold RowAt at h ⊢
  rw [← bufOf_set]
  simp [World.setCell, Array.getElem?_modify, h]

def fillRow (m k : Nat) : List Int := (List.range k).map Int.ofNat ++ List.replicate (m - k) 0
theorem fillRow_length (m k : Nat) (h : k ≤ m) : (fillRow m k).length = m := by simp [fillRow]; omega
theorem fillRow_set (m k : Nat) (h : k < m) : (fillRow m k).set k (k : Int) = fillRow m (k + 1) := by
  unfold fillRow
  rw [List.set_append_right _ _ (by simp), List.range_succ, List.map_append]
  simp only [List.length_map, List.length_range, Nat.sub_self]
  obtain ⟨d, hd⟩ : ∃ d, m - k = d + 1 := ⟨m - k - 1, by omega⟩
  rw [hd, List.replicate_succ, show m - (k + 1) = d by omega]
  simp
/-- The order that the numbers l make of 'rest' (d of them): what comes, and the numbers that are left. -/
def shufGo : Nat → List Int → List Int → List Int × List Int
  | 0, l, _ => ([], l)
  | d + 1, l, rest =>
    let j := (nextVal l (d + 1 : Nat)).toNat
    let r := shufGo d (nextRest l (d + 1 : Nat)) (rest.eraseIdx j)
    (rest.getD j 0 :: r.1, r.2)

theorem nextVal_range (l : List Int) (d : Nat) : ∃ j : Nat, nextVal l (d + 1 : Nat) = (j : Int) ∧ j < d + 1 := by
  have h : 0 ≤ nextVal l (d + 1 : Nat) ∧ nextVal l (d + 1 : Nat) < (d + 1 : Nat) := by
    unfold nextVal
    rw [if_neg (by omega)]
    cases l with
    | nil => simp only; omega
    | cons x l =>
      simp only [pickNo]
      exact ⟨Int.emod_nonneg _ (by omega), Int.emod_lt_of_pos _ (by omega)⟩
  exact ⟨(nextVal l (d + 1 : Nat)).toNat, by omega, by omega⟩

theorem nextRest_in {l : List Int} {n : Int} (h : ∀ x ∈ l, In64 x) : ∀ x ∈ nextRest l n, In64 x := by
  unfold nextRest
  split
  · exact h
  · exact fun x hx => h x (List.mem_of_mem_tail hx)

theorem getD_append_at (out rest : List Int) (k j : Nat) (hk : out.length = k) : (out ++ rest).getD (k + j) 0 = rest.getD j 0 := by
  subst hk
  simp [List.getElem?_append_right]

theorem turn_row (out rest : List Int) (j : Nat) (hj : j < rest.length) :
    (splice (out ++ rest) (out.length + 1) (rest.take j)).set out.length (rest.getD j 0) = (out ++ [rest.getD j 0]) ++ rest.eraseIdx j := by
  unfold splice
  rw [List.eraseIdx_eq_take_drop_succ, List.length_take, Nat.min_eq_left (by omega)]
  obtain ⟨y, rest', rfl⟩ : ∃ y r, rest = y :: r := by cases rest with | nil => simp at hj | cons y r => exact ⟨y, r, rfl⟩
  rw [List.take_length_add_append, show out.length + 1 + j = out.length + (j + 1) by omega, List.drop_length_add_append]
  rw [List.set_append_left _ _ (by simp), List.set_append_right _ _ (by simp)]
  simp

theorem info_one : (Try.prog.info? 3).map (·.size) = some 1 := by kernel_rfl
theorem map_splice (zs cs : List Int) (k : Nat) : splice (zs.map (Value.int .i64)) k (cs.map (Value.int .i64)) = (splice zs k cs).map (Value.int .i64) := by
  simp [splice, List.map_take, List.map_drop]
theorem shuf_src {w : World} {N : Nat} {out rest : List Int} {k : Nat} (hk : out.length = k) (h : RowAt w N (out ++ rest)) (j : Nat) :
    ∀ i v, ((rest.take j).map (Value.int .i64))[i]? = some v → w.cell? ((⟨N, k, none⟩ : Addr).add i) = some v := by
  intro i v hv
  rw [List.getElem?_map, List.getElem?_take] at hv
  split at hv
  · rw [Option.map_eq_some_iff] at hv
    obtain ⟨x, hx, rfl⟩ := hv
    have hi : i < rest.length := (List.getElem?_eq_some_iff.1 hx).1
    have := h.cell (i := k + i) (by rw [List.length_append]; omega)
    rw [getD_append_at out rest k i hk] at this
    by_cases h0 : i = 0
    · subst h0; simpa [Addr.add, hx] using this
    · simpa [Addr.add, hx, h0] using this
  · simp at hv

/-- What Shuffle tells, and what it leaves. -/
def ShufPost (w : World) (b c : Nat) (l : List Int) (m : Nat) (e : Ending) (w' : World) : Prop :=
  e = .returned (.slice (some ⟨w.heap.size, 0, none⟩) m m) ∧ RowAt w' w.heap.size (shufGo m l ((List.range m).map Int.ofNat)).1 ∧ PkAt w' b c (shufGo m l ((List.range m).map Int.ofNat)).2 ∧ Only c w w'

theorem PkAt.of {w w' : World} {b c : Nat} {l : List Int} (h : PkAt w b c l) (hb : w'.heap[b]? = w.heap[b]?) (hc : w'.heap[c]? = w.heap[c]?) : PkAt w' b c l := by
  obtain ⟨h1, h2, cap, s, r, h3⟩ := h
  exact ⟨hb.trans h1, h2, cap, s, r, hc.trans h3⟩
theorem PkAt.ltb {w : World} {b c : Nat} {l : List Int} (h : PkAt w b c l) : b < w.heap.size := (Array.getElem?_eq_some_iff.1 h.1).1
theorem PkAt.ltc {w : World} {b c : Nat} {l : List Int} (h : PkAt w b c l) : c < w.heap.size := by
  obtain ⟨h1, h2, cap, s, r, h3⟩ := h
  exact (Array.getElem?_eq_some_iff.1 h3).1
theorem fillRow_all (m : Nat) : fillRow m m = (List.range m).map Int.ofNat := by simp [fillRow]

set_option maxRecDepth 100000 in
theorem shuffle_min (b c : Nat) (l : List Int) (n : Int) (w : World) (hp : PkAt w b c l) (hl : ∀ x ∈ l, In64 x) (v : Int) (hv : (if (1000 : Int) < n then (1000 : Int) else n) = v) (m : Nat) (hv2 : (if 0 < v then v else 0) = (m : Int)) :
    Calls Try.prog 14 #[.pointer (some ⟨b, 0, none⟩), .int .i64 n] w (ShufPost w b c l m) := by
  have hm : m ≤ 1000 := by split at hv <;> split at hv2 <;> omega
  have hmk := mk_row m hm
  go_enter Try.func14, Try.ntmps14
  go_wp2
  go_loopw [6, 16] (fun _ v16 wr => ∃ k : Nat, k ≤ m ∧ v16 = .int .i64 k ∧ RowAt wr w.heap.size (fillRow m k) ∧ Below w.heap.size w wr) (fun _ i _ => m - (intOf i).toNat)
  case atStart => exact ⟨0, Nat.zero_le _, rfl, mk_rowB m w, (Below.refl _ w).alloc (Nat.le_refl _) _⟩
  case round =>
    obtain ⟨k, hk, rfl, hrow, hbl⟩ := hrel
    by_cases hlt : k < m
    · have hcell := hrow.cell (i := k) (by rw [fillRow_length m k hk]; exact hlt)
      have hfz := hrow.frozen k
      have hset := hrow.setCell k (k : Int)
      rw [fillRow_set m k hlt] at hset
      have HS := Lib.hid hset; clear hset
      go_wp2
      go_roundw
      case rel =>
        refine ⟨k + 1, by omega, by go_num, HS.out, hbl.setCell (Nat.le_refl _) _⟩
      case measure => simp [intOf]; omega
    · go_wp2
      obtain ⟨wo, rfl⟩ : ∃ wo : World, wo = wr := ⟨_, rfl⟩
      obtain rfl : m = k := by omega
      go_loopw [7, 8, 9, 26] (fun _ _ _ v26 wr => ∃ k d : Nat, k + d = m ∧ v26 = .int .i64 k ∧ ∃ (out rest lk : List Int), out.length = k ∧ rest.length = d ∧ RowAt wr w.heap.size (out ++ rest) ∧ PkAt wr b c lk ∧
          Hid (∀ x ∈ lk, In64 x) ∧ Hid ((out ++ (shufGo d lk rest).1, (shufGo d lk rest).2) = shufGo m l ((List.range m).map Int.ofNat)) ∧
          Only c w wr) (fun _ _ _ i _ => m - (intOf i).toNat)
      case atStart =>
        refine ⟨0, m, by omega, rfl, [], (List.range m).map Int.ofNat, l, rfl, by simp, ?_, hp.of (hbl.block _ hp.ltb) (hbl.block _ hp.ltc), hl, ?_, only_of_below hbl⟩
        · rw [← fillRow_all]; simpa using hrow
        · show _ = _
          simp
      case round =>
        obtain ⟨k, d, hkd, rfl, out, rest, lk, ho, hr, hrow2, hpk, HIN, HSH, HK⟩ := hrel
        have HO : Hid (out.length = k) := ho
        have HR : Hid (rest.length = d) := hr
        clear ho hr
        have HKD : Hid (k + d = m) := hkd
        clear hkd
        have hbN : b ≠ w.heap.size := by have := hp.ltb; omega
        have hcN : c ≠ w.heap.size := by have := hp.ltc; omega
        cases d with
        | zero =>
          obtain rfl : m = k := by have := HKD.out; omega
          go_wp2
          go_ret
          have hsh := HSH.out
          simp only [shufGo, List.append_nil] at hsh
          obtain rfl : rest = [] := List.eq_nil_of_length_eq_zero HR.out
          rw [List.append_nil] at hrow2
          refine ⟨rfl, ?_, ?_, HK⟩
          · rw [← hsh]; exact hrow2
          · rw [← hsh]; exact hpk
        | succ d =>
          obtain ⟨j, hj, hjd⟩ := nextVal_range lk d
          have hlt : k < m := by have := HKD.out; omega
          have hkj : k + j < m := by have := HKD.out; omega
          have HX0 : rest.getD j 0 = (out ++ rest).getD (k + j) 0 := by
            rw [getD_append_at out rest k j HO.out]
          obtain ⟨X, hX⟩ : ∃ X, X = rest.getD j 0 := ⟨_, rfl⟩
          have HX : Hid (X = rest.getD j 0) := hX
          rw [← hX] at HX0
          have HX1 := Lib.hid HX0
          clear hX HX0
          have HC : Hid (∀ W, PkAt W b c lk → RowAt W w.heap.size (out ++ rest) → Calls Try.prog 11 #[.pointer (some ⟨b, 0, none⟩), .int .i64 ((m : Int) - (k : Int))] W
              (fun e w' => e = .returned (.int .i64 (j : Int)) ∧ PkAt w' b c (nextRest lk (d + 1 : Nat)) ∧ Keep c W w' ∧ RowAt w' w.heap.size (out ++ rest) ∧ w'.cell? ⟨w.heap.size, k + j, none⟩ = some (.int .i64 X))) := by
            intro W hW hRW
            have e1 : (m : Int) - k = ((d + 1 : Nat) : Int) := by have := HKD.out; omega
            rw [e1]
            refine (next_any b c lk _ W hW HIN.out ⟨by omega, by omega⟩).mono ?_
            rintro e w' ⟨rfl, h1, h2⟩
            have h3 : RowAt w' w.heap.size (out ++ rest) := (h2.block _ (Ne.symm hcN)).trans hRW
            refine ⟨by rw [hj], h1, h2, h3, ?_⟩
            rw [h3.cell (by rw [List.length_append, HO.out, HR.out]; omega), HX1.out]
          have HJ : Hid (nextVal lk (d + 1 : Nat) = (j : Int)) := hj
          clear hj
          go_upto_region 12 with (go_at_call 11; refine (HC.out _ hpk hrow2).mono ?_; rintro e w2 ⟨rfl, hpk2, hkeep2, hrow3, hcell⟩)
          have hw1 : IntKind.i64.wrap ((k : Int) + 1) = (k : Int) + 1 := IntWalk.i64_in _ (by omega)
          have hw2 : IntKind.i64.wrap ((k : Int) + j + 1) = (k : Int) + j + 1 := IntWalk.i64_in _ (by omega)
          have hi1 : ((k : Int) + 1 ≤ k + j + 1) = True := eq_true (by omega)
          have hi2 : ((k : Int) + j + 1 ≤ m) = True := eq_true (by omega)
          have hi3 : ((0 : Int) ≤ k + 1) = True := eq_true (by omega)
          have hi3' : ((0 : Int) ≤ k + j + 1) = True := eq_true (by omega)
          have hi4 : ((k : Int) + j ≤ m) = True := eq_true (by omega)
          have hi5 : ((k : Int) ≤ k + j) = True := eq_true (by omega)
          have hi5' : ((0 : Int) ≤ k + j) = True := eq_true (by omega)
          have hi6 : (m = k) = False := eq_false (by omega)
          have ht1 : ((k : Int) + 1).toNat = k + 1 := by omega
          have ht2 : ((k : Int) + j + 1).toNat = k + j + 1 := by omega
          have ht3 : ((k : Int) + j).toNat = k + j := by omega
          have hx1 : max ((k : Int) + j + 1) 0 = (k : Int) + j + 1 := by omega
          have hx2 : max ((k : Int) + j) 0 = (k : Int) + j := by omega
          rcases (Classical.em (m = k + 1)).imp eq_true eq_false with hq | hq
          all_goals
            go_still_tail 10, (by kernel_rfl)
            change wpList _ _ _ _ _ w2.drew
            have hkeep4 : Keep c wr w2.drew := hkeep2.drew
            have hrow4 : RowAt w2.drew w.heap.size (out ++ rest) := hrow3
            have hpk4 : PkAt w2.drew b c (nextRest lk (d + 1 : Nat)) := hpk2
            have HLEN : Hid ((rest.take j).length = j) := by have := HR.out; simp [Hid]; omega
            have hsrc : Hid (∀ i v, ((rest.take j).map (Value.int .i64))[i]? = some v → w2.drew.cell? ((⟨w.heap.size, k, none⟩ : Addr).add i) = some v) := shuf_src HO.out hrow4 j
            refine wpList_copy_splice rfl (.tmp 46) (.tmp 50) 22 22 rfl 3 Try.underlying22 info_one _ _ j _ j _ rfl rfl w.heap.size (k + 1) ((out ++ rest).map (Value.int .i64)) 3 hrow4 ((rest.take j).map (Value.int .i64)) ?_ ?_ ?_ ?_ w.heap.size w2.drew (Below.refl _ _) (Nat.le_refl _) ?_
            · rw [List.length_map, HLEN.out]; simp
            · intro h0
              rw [List.length_map, HLEN.out] at h0
              refine ⟨by first | rfl | (exfalso; have := HKD.out; have hq := of_eq_true hq; omega), _, rfl, hsrc.out⟩
            · rw [List.length_map, HLEN.out, List.length_map, List.length_append, HO.out, HR.out]; omega
            · intro x hx
              obtain ⟨y, _, rfl⟩ := List.mem_map.1 hx
              rfl
            intro w3 hg3 hb3
            have HT := turn_row out rest j (by rw [HR.out]; exact hjd)
            rw [HO.out, ← HX.out] at HT
            have hrow5 : RowAt w3 w.heap.size (splice (out ++ rest) (k + 1) (rest.take j)) := by
              rw [map_splice] at hg3
              exact hg3.out
            have HT := Lib.hid HT
            clear hg3
            have hzl : Hid (k < (splice (out ++ rest) (k + 1) (rest.take j)).length) := by
              show _ < _
              rw [length_splice _ _ _ (by rw [HLEN.out, List.length_append, HO.out, HR.out]; omega), List.length_append, HO.out, HR.out]; omega
            have hcell5 := hrow5.cell hzl.out
            have hfz5 := hrow5.frozen k
            have hrow6 := hrow5.setCell k X
            go_wp2
            go_roundw
            case rel =>
              have hold : ∀ q, q < w.heap.size → (w3.setCell ⟨w.heap.size, k, none⟩ (.int .i64 X)).heap[q]? = w2.drew.heap[q]? := fun q hq => ((keep_setCell w3 w.heap.size k _).block q (by omega)).trans (hb3.block q hq)
              refine ⟨k + 1, d, by have := HKD.out; omega, by go_num, out ++ [X], rest.eraseIdx j, nextRest lk (d + 1 : Nat), by rw [List.length_append, HO.out]; rfl, ?_, by rw [← HT.out]; exact hrow6,
                hpk4.of (hold _ hp.ltb) (hold _ hp.ltc), nextRest_in HIN.out, ?_, ?_⟩
              · rw [List.length_eraseIdx, if_pos (by rw [HR.out]; exact hjd), HR.out]; rfl
              · have hsh := HSH.out
                show _ = _
                rw [← hsh, shufGo, HJ.out, Int.toNat_natCast, ← HX.out]
                simp
              · refine (HK.trans hkeep4.only).step hb3.os hb3.tape hb3.output ?_ (fun q hq _ => hold q hq)
                have h1 : (w3.setCell ⟨w.heap.size, k, none⟩ (.int .i64 X)).heap.size = w3.heap.size := by simp [World.setCell]
                rw [h1]; exact hb3.size
            case measure => simp [intOf]; omega

theorem shuffle_any (b c : Nat) (l : List Int) (n : Int) (m : Nat) (w : World) (hp : PkAt w b c l) (hl : ∀ x ∈ l, In64 x) (hm : (max 0 (min n 1000)).toNat = m) :
    Calls Try.prog 14 #[.pointer (some ⟨b, 0, none⟩), .int .i64 n] w (ShufPost w b c l m) := by
  refine shuffle_min b c l n w hp hl _ rfl _ ?_
  split <;> split <;> omega
end Go.Proofs.Ytniapbinamnmpaa
