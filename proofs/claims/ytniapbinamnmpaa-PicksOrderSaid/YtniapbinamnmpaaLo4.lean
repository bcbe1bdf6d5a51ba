/- The walk of chapter 04's PicksOrder. -/
import Derived.Test.YtniapbinamnmpaaLw4
namespace Go.Proofs.Ytniapbinamnmpaa
open Go.Conc Go.RowKit

theorem shufGo_perm : ∀ (d : Nat) (l rest : List Int), rest.length = d → (shufGo d l rest).1.Perm rest := by
  intro d
  induction d with
  | zero => intro l rest h; obtain rfl := List.eq_nil_of_length_eq_zero h; exact List.Perm.refl _
  | succ d ih =>
    intro l rest h
    obtain ⟨j, hj, hjd⟩ := nextVal_range l d
    simp only [shufGo, hj, Int.toNat_natCast]
    have hjr : j < rest.length := by omega
    have h1 := ih (nextRest l (d + 1 : Nat)) (rest.eraseIdx j) (by rw [List.length_eraseIdx, if_pos hjr]; omega)
    have h2 : rest.getD j 0 = rest[j] := by simp [hjr]
    rw [h2]
    refine (h1.cons _).trans ?_
    rw [List.eraseIdx_eq_take_drop_succ]
    have h3 : rest = rest.take j ++ rest[j] :: rest.drop (j + 1) := by rw [← List.drop_eq_getElem_cons hjr, List.take_append_drop]
    exact (List.perm_middle.symm).trans (List.Perm.of_eq h3.symm)

theorem range_nodup (q : Nat) : ((List.range q).map Int.ofNat).Nodup :=
  List.Pairwise.map _ (fun a b h => by simp only [Int.ofNat_eq_natCast]; omega) List.nodup_range

/-- 'met' behind k rounds. -/
def metRow (out : List Int) (k q : Nat) : Array Value := ((List.range q).map fun j : Nat => Value.bool (decide ((j : Int) ∈ out.take k))).toArray
theorem mk_rowb (out : List Int) (m : Nat) (hm : m ≤ 1000) (w : World) : (Instr.makeSlice 35 (.int .i64 m) (.int .i64 m)).run Try.prog w = .ok (.slice (some ⟨w.heap.size, 0, none⟩) m m) (w.alloc (.cells (metRow out 0 m) 4)) := by
  have h : (Try.prog.info? 4).map (fun i => (i.zero, i.size, i.bytes)) = some (some (.bool false), 1, 1) := by kernel_rfl
  obtain ⟨i, hi, hb⟩ := Option.map_eq_some_iff.1 h
  simp only [Prod.mk.injEq] at hb
  obtain ⟨h1, h2, h3⟩ := hb
  have := run_make (P := Try.prog) w 35 4 i (.bool false) Try.underlying35 hi h1 .i64 .i64 m m (by omega) (by omega) (by rw [h3]; omega) (by omega)
  rw [this, h2]
  congr 3
  apply Array.ext
  · simp [madeCells, metRow]
  · intro j h1 h2
    simp [madeCells, metRow, Value.cells, Nat.mod_one]
theorem metRow_get (out : List Int) (k q j : Nat) (h : j < q) : (metRow out k q)[j]? = some (.bool (decide ((j : Int) ∈ out.take k))) := by simp [metRow, h]
theorem metRow_set (out : List Int) (k q j : Nat) (hk : k < out.length) (hj : out.getD k 0 = (j : Int)) : (metRow out k q).setIfInBounds j (.bool true) = metRow out (k + 1) q := by
  apply Array.ext
  · simp [metRow]
  · intro i h1 h2
    have hg : out[k] = (j : Int) := by simpa [hk] using hj
    rw [Array.getElem_setIfInBounds (by simpa using h1)]
    simp only [metRow, List.getElem_toArray, List.getElem_map, List.getElem_range]
    rw [List.take_succ_eq_append_getElem hk, hg]
    split
    · rename_i h; subst h; simp
    · rename_i h
      have : ¬ (i : Int) = (j : Int) := by omega
      simp [this]

theorem bool_cell {w : World} {M j : Nat} {arr : Array Value} {t : TypeId} {v : Value} (h : w.heap[M]? = some (.cells arr t (0, 0))) (hj : arr[j]? = some v) : w.cell? ⟨M, j, none⟩ = some v ∧ w.frozen? ⟨M, j, none⟩ = false := by
  unfold World.cell? World.frozen?; rw [h]; simp [hj]
theorem row_set {w : World} {M j : Nat} {arr : Array Value} {t : TypeId} (v : Value) (h : w.heap[M]? = some (.cells arr t (0, 0))) : (w.setCell ⟨M, j, none⟩ v).heap[M]? = some (.cells (arr.setIfInBounds j v) t (0, 0)) := by
  simp [World.setCell, Array.getElem?_modify, h]
theorem getD_mem {out : List Int} {k : Nat} (hk : k < out.length) : out.getD k 0 ∈ out := by
  have : out.getD k 0 = out[k] := by simp [hk]
  rw [this]; exact List.getElem_mem _
theorem not_met {out : List Int} {k : Nat} (hnd : out.Nodup) (hk : k < out.length) : out.getD k 0 ∉ out.take k := by
  have h3 : out = out.take k ++ out[k] :: out.drop (k + 1) := by rw [← List.drop_eq_getElem_cons hk, List.take_append_drop]
  have hg : out.getD k 0 = out[k] := by simp [hk]
  rw [hg]
  rw [h3, List.nodup_append] at hnd
  intro hm
  exact hnd.2.2 _ hm _ (List.mem_cons_self ..) rfl

set_option maxHeartbeats 1000000 in
set_option maxRecDepth 100000 in
theorem order_walk (A : Option Addr) (na ca : Nat) (l : List Int) (n : Int) (w : World) (hl : l.length = na) (hca : na ≤ ca) (ha : IntsAt w A l) (hli : ∀ x ∈ l, In64 x) (hn : In64 n) :
    Calls Try.prog 5 #[.slice A na ca, .int .i64 n] w fun e w' => e = .returned (.bool true) ∧ Below w.heap.size w w' := by
  obtain ⟨hn1, hn2⟩ := hn
  have HL := Lib.hid hl; clear hl
  obtain ⟨nn, hnn⟩ : ∃ nn, nn = if 200 < n then n % 201 else n := ⟨_, rfl⟩
  have hle : nn ≤ 200 := by split at hnn <;> omega
  have hlo : -9223372036854775808 ≤ nn := by split at hnn <;> omega
  obtain ⟨q, hq⟩ : ∃ q : Nat, (max 0 (min nn 1000)).toNat = q := ⟨_, rfl⟩
  have hmax : (if 0 < nn then nn else 0) = (q : Int) := by split <;> omega
  have hq200 : q ≤ 200 := by omega
  have hqn : Hid (0 < q → (q : Int) = nn) := by show _ → _; omega
  have HQ := Lib.hid hq
  clear hq
  obtain ⟨out, hout⟩ : ∃ out, (shufGo q (firsts l) ((List.range q).map Int.ofNat)).1 = out := ⟨_, rfl⟩
  have hperm : out.Perm ((List.range q).map Int.ofNat) := hout ▸ shufGo_perm q (firsts l) _ (by simp)
  have HO := Lib.hid hout
  clear hout
  have HLEN : Hid (out.length = q) := by have := hperm.length_eq; simpa [Hid] using this
  have HND : Hid (out.Nodup) := hperm.nodup_iff.2 (range_nodup q)
  have HIN : Hid (∀ x ∈ out, ∃ j : Nat, x = (j : Int) ∧ j < q) := fun x hx => by
    obtain ⟨j, hj, rfl⟩ := List.mem_map.1 (hperm.mem_iff.1 hx)
    exact ⟨j, rfl, List.mem_range.1 hj⟩
  have hmk := mk_rowb out q (by omega)
  clear hperm
  by_cases h200 : 200 < n
  · rw [if_pos h200] at hnn
    have hmod : n % 201 = nn := hnn.symm
    clear hnn
    go_enter Try.func5, Try.ntmps5
    go_wp2_with fail
    refine (examples_any w).mono ?_
    rintro e w1 ⟨rfl, hB1⟩
    go_wp2_with fail
    refine (new_firsts HL.out hca (ha.below hB1)).mono ?_
    rintro e w2 ⟨b, c, rfl, hp2, hb2, hg, hg'⟩
    have hB2 : Below w.heap.size w w2 := hB1.trans (hb2.mono hB1.size)
    have hcw : w.heap.size ≤ c := Nat.le_trans hB1.size hg'
    clear hB1 hb2 hg hg'
    go_wp2_with fail
    refine (shuffle_any b c (firsts l) nn q w2 hp2 (firsts_in hli) HQ.out).mono ?_
    rintro e w3 ⟨rfl, hr3, hq3, hk3⟩
    have hB3 : Below w.heap.size w w3 := hk3.below hB2 hcw hB2.size
    rw [HO.out] at hr3
    clear hp2 hB2 hk3 hq3
    obtain ⟨N, hN⟩ : ∃ N, w2.heap.size = N := ⟨_, rfl⟩
    rw [hN] at hr3 ⊢
    clear hN
    go_wp2_with fail
    obtain ⟨M, hM⟩ : ∃ M, w3.heap.size = M := ⟨_, rfl⟩
    have hNM : N < M := by rw [← hM]; exact hr3.lt
    have hwM : w.heap.size ≤ M := by rw [← hM]; exact hB3.size
    have hal : (w3.alloc (.cells (metRow out 0 q) 4)).heap[M]? = some (.cells (metRow out 0 q) 4 (0, 0)) := by rw [← hM]; exact heap_alloc_new _ _
    have hrN : RowAt (w3.alloc (.cells (metRow out 0 q) 4)) N out := (Below.heap_alloc _ _ _ hr3.lt).trans hr3
    have hBa : Below w.heap.size w (w3.alloc (.cells (metRow out 0 q) 4)) := hB3.alloc hB3.size _
    rw [hM]
    clear hM hr3 hB3
    go_loopw [9] (fun v wr => ∃ k : Nat, k ≤ q ∧ v = .int .i64 k ∧ RowAt wr N out ∧ Hid (wr.heap[M]? = some (.cells (metRow out k q) 4 (0, 0))) ∧ Below w.heap.size w wr) (fun i _ => q - (intOf i).toNat)
    case atStart => exact ⟨0, Nat.zero_le _, rfl, hrN, hal, hBa⟩
    case round =>
      obtain ⟨k, hk, rfl, hr, HM, hB⟩ := hrel
      by_cases hlt : k < q
      · have hko : k < out.length := by rw [HLEN.out]; exact hlt
        have hc := hr.cell (i := k) hko
        obtain ⟨j, hj, hjq⟩ := HIN.out (out.getD k 0) (getD_mem hko)
        rw [hj] at hc
        have hnm := not_met HND.out hko
        rw [hj] at hnm
        obtain ⟨hcm, hfm⟩ := bool_cell HM.out (metRow_get out k q j hjq)
        rw [decide_eq_false hnm] at hcm
        have hset := row_set (j := j) (.bool true) HM.out
        rw [metRow_set out k q j hko hj] at hset
        have HS := Lib.hid hset
        clear hset hj hnm
        have hjn : (j : Int) < nn := by have := hqn.out (by omega); omega
        have hlt' : (k : Int) < q := by omega
        have hjq' : (j : Int) < q := by omega
        go_wp2_with fail
        go_roundw
        case rel => exact ⟨k + 1, by omega, by go_num, ((keep_setCell _ M j _).block N (by omega)).trans hr, HS.out, hB.setCell hwM _⟩
        case measure => simp [intOf]; omega
      · have hlt' : ¬ (k : Int) < q := by omega
        go_wp2_with fail
        go_ret
        exact ⟨rfl, hB⟩
  · rw [if_neg h200] at hnn
    obtain rfl : n = nn := hnn.symm
    have h200' : n ≤ 200 := by omega
    clear hnn
    go_enter Try.func5, Try.ntmps5
    go_wp2_with fail
    refine (examples_any w).mono ?_
    rintro e w1 ⟨rfl, hB1⟩
    go_wp2_with fail
    refine (new_firsts HL.out hca (ha.below hB1)).mono ?_
    rintro e w2 ⟨b, c, rfl, hp2, hb2, hg, hg'⟩
    have hB2 : Below w.heap.size w w2 := hB1.trans (hb2.mono hB1.size)
    have hcw : w.heap.size ≤ c := Nat.le_trans hB1.size hg'
    clear hB1 hb2 hg hg'
    go_wp2_with fail
    refine (shuffle_any b c (firsts l) n q w2 hp2 (firsts_in hli) HQ.out).mono ?_
    rintro e w3 ⟨rfl, hr3, hq3, hk3⟩
    have hB3 : Below w.heap.size w w3 := hk3.below hB2 hcw hB2.size
    rw [HO.out] at hr3
    clear hp2 hB2 hk3 hq3
    obtain ⟨N, hN⟩ : ∃ N, w2.heap.size = N := ⟨_, rfl⟩
    rw [hN] at hr3 ⊢
    clear hN
    go_wp2_with fail
    obtain ⟨M, hM⟩ : ∃ M, w3.heap.size = M := ⟨_, rfl⟩
    have hNM : N < M := by rw [← hM]; exact hr3.lt
    have hwM : w.heap.size ≤ M := by rw [← hM]; exact hB3.size
    have hal : (w3.alloc (.cells (metRow out 0 q) 4)).heap[M]? = some (.cells (metRow out 0 q) 4 (0, 0)) := by rw [← hM]; exact heap_alloc_new _ _
    have hrN : RowAt (w3.alloc (.cells (metRow out 0 q) 4)) N out := (Below.heap_alloc _ _ _ hr3.lt).trans hr3
    have hBa : Below w.heap.size w (w3.alloc (.cells (metRow out 0 q) 4)) := hB3.alloc hB3.size _
    rw [hM]
    clear hM hr3 hB3
    go_loopw [9] (fun v wr => ∃ k : Nat, k ≤ q ∧ v = .int .i64 k ∧ RowAt wr N out ∧ Hid (wr.heap[M]? = some (.cells (metRow out k q) 4 (0, 0))) ∧ Below w.heap.size w wr) (fun i _ => q - (intOf i).toNat)
    case atStart => exact ⟨0, Nat.zero_le _, rfl, hrN, hal, hBa⟩
    case round =>
      obtain ⟨k, hk, rfl, hr, HM, hB⟩ := hrel
      by_cases hlt : k < q
      · have hko : k < out.length := by rw [HLEN.out]; exact hlt
        have hc := hr.cell (i := k) hko
        obtain ⟨j, hj, hjq⟩ := HIN.out (out.getD k 0) (getD_mem hko)
        rw [hj] at hc
        have hnm := not_met HND.out hko
        rw [hj] at hnm
        obtain ⟨hcm, hfm⟩ := bool_cell HM.out (metRow_get out k q j hjq)
        rw [decide_eq_false hnm] at hcm
        have hset := row_set (j := j) (.bool true) HM.out
        rw [metRow_set out k q j hko hj] at hset
        have HS := Lib.hid hset
        clear hset hj hnm
        have hjn : (j : Int) < n := by have := hqn.out (by omega); omega
        have hlt' : (k : Int) < q := by omega
        have hjq' : (j : Int) < q := by omega
        go_wp2_with fail
        go_roundw
        case rel => exact ⟨k + 1, by omega, by go_num, ((keep_setCell _ M j _).block N (by omega)).trans hr, HS.out, hB.setCell hwM _⟩
        case measure => simp [intOf]; omega
      · have hlt' : ¬ (k : Int) < q := by omega
        go_wp2_with fail
        go_ret
        exact ⟨rfl, hB⟩
end Go.Proofs.Ytniapbinamnmpaa
