/- Contracts and plain lemmas of the functions that the law reaches, part 20. -/
import Derived.Deep.RegionHeld3
import Derived.Test.YtoffpegppdmkdaaGreatDoorCP15
import Derived.Test.YtoffpegppdmkdaaGreatDoorCP18
import Derived.Test.YtoffpegppdmkdaaGreatDoorCP19
namespace Go.Proofs.YtoffpegppdmkdaaGreatDoor.E
open Go.RowKit Go.Proofs.YtoffpegppdmkdaaGreatDoorW.PrintWords Go.Proofs.YtoffpegppdmkdaaGreatDoorW.PrintLast Go.Proofs.YtoffpegppdmkdaaGreatDoorW.PrintMore
open Go.Sort (SWO PermIn SortedIn Holds HoldsK putRow putRowK flatK size_flatK get_flatK mapBlock putCells grow)
set_option linter.unusedVariables false
abbrev KX := k26
abbrev TX : Nat := 26
structure RowA (w : World) (ok : Nat → Prop) where
  ex : Ex
  cs : List Value
  fk : Kd.FK KX w ok ex cs
  rg : rngF ex = true
section
variable {w w0 : World} {ok : Nat → Prop} {base g cap n : Nat} {xs : List Ex}
def encA (p : RowA w ok) : List Value := p.cs
theorem encA_len (p : RowA w ok) : (encA p).length = 9 := KX.K_len (Kd.FK_now p.fk)
theorem encA_one (p : RowA w ok) : ∀ v ∈ encA p, v.oneCell' = true := KX.K_one (Kd.FK_now p.fk)
instance : Inhabited (RowA w ok) := ⟨⟨z26, _, k26_mkF w ok z26 (A8 := none) (c8 := 0) (Nat.le_refl 0) (Kd.F_nil _ _ _), by decide⟩⟩
def rowsA (xs : List Ex) (rows : List (List Value)) (hl : rows.length = xs.length) (h : ∀ (j : Nat) (hj : j < rows.length), Kd.FK KX w ok (xs[j]'(hl ▸ hj)) rows[j]) (hg : ∀ x ∈ xs, rngF x = true) : Array (RowA w ok) :=
  Array.ofFn (fun j : Fin rows.length => (⟨xs[j.val]'(hl ▸ j.isLt), rows[j.val], h j.val j.isLt, hg _ (List.getElem_mem _)⟩ : RowA w ok))
theorem rowsA_size (xs : List Ex) (rows : List (List Value)) (hl : rows.length = xs.length) (h : ∀ (j : Nat) (hj : j < rows.length), Kd.FK KX w ok (xs[j]'(hl ▸ hj)) rows[j]) (hg : ∀ x ∈ xs, rngF x = true) : (rowsA xs rows hl h hg).size = rows.length := Array.size_ofFn
theorem rowsA_get (xs : List Ex) (rows : List (List Value)) (hl : rows.length = xs.length) (h : ∀ (j : Nat) (hj : j < rows.length), Kd.FK KX w ok (xs[j]'(hl ▸ hj)) rows[j]) (hg : ∀ x ∈ xs, rngF x = true) (j : Nat) (hj : j < rows.length) : (rowsA xs rows hl h hg)[j]! = ⟨xs[j]'(hl ▸ hj), rows[j], h j hj, hg _ (List.getElem_mem _)⟩ := by
  rw [getElem!_pos _ j (by rw [rowsA_size]; exact hj)]
  unfold rowsA
  rw [Array.getElem_ofFn]
theorem rowsA_ex (xs : List Ex) (rows : List (List Value)) (hl : rows.length = xs.length) (h : ∀ (j : Nat) (hj : j < rows.length), Kd.FK KX w ok (xs[j]'(hl ▸ hj)) rows[j]) (hg : ∀ x ∈ xs, rngF x = true) : (rowsA xs rows hl h hg).toList.map RowA.ex = xs := by
  apply List.ext_getElem
  · rw [List.length_map, Array.length_toList, rowsA_size, hl]
  · intro j h1 h2
    rw [List.getElem_map, Array.getElem_toList]
    unfold rowsA
    rw [Array.getElem_ofFn]
theorem open_N (h : Kd.N KX TX w base ok (.slice (some ⟨g, 0, none⟩) n cap) xs) (hrg : ∀ x ∈ xs, rngF x = true) :
    xs.length = n ∧ g < w.heap.size ∧ base ≤ g ∧ ∃ d : Array (RowA w (fun k => ok k ∧ k ≠ g)), d.size = n ∧ d.toList.map RowA.ex = xs ∧ HoldsK encA 9 w g 0 d := by
  obtain ⟨h0, rows, hl, ⟨_, inner, ho, hr⟩, hf⟩ := h
  obtain ⟨hil, ho⟩ := ho
  rcases ho with ⟨he, _⟩ | ⟨g', cap', cur, he, hg, hh, hn, hm, hs, ht⟩
  · cases he
  injection he with h1 h2 h3
  injection h1 with h1
  injection h1 with h1 _ _
  subst h1 h2 h3
  have hgs : g < w.heap.size := by
    rcases Nat.lt_or_ge g w.heap.size with h | h
    · exact h
    · rw [Array.getElem?_eq_none h] at hh; cases hh
  refine ⟨hl.symm, hgs, hg, ?_⟩
  have hfx : ∀ (j : Nat) (hj : j < rows.length), Kd.FK KX w (fun k => ok k ∧ k ≠ g) (xs[j]'(hl ▸ hj)) rows[j] := fun j hj =>
    Kd.FK_mono (hf j _ _ (List.getElem?_eq_getElem (hl ▸ hj)) (List.getElem?_eq_getElem hj)) (fun k hk => ⟨hk.1, fun h => hk.2 (by rw [h]; rfl)⟩)
  refine ⟨rowsA xs rows hl hfx hrg, rowsA_size _ _ _ _ _, rowsA_ex _ _ _ _ _, ?_⟩
  intro t ht2
  rw [size_flatK, rowsA_size] at ht2
  have hj : t / 9 < rows.length := by omega
  have hc : t % 9 < 9 := Nat.mod_lt _ (by decide)
  obtain ⟨hrow, hlen, _⟩ := hr.2 (t / 9) rows[t / 9] (List.getElem?_eq_getElem hj)
  have hrl : t % 9 < rows[t / 9].length := by rw [← hrow, hlen]; exact hc
  have hcell : cur[t]? = some ((rows[t / 9])[t % 9]) := by
    have h1 : (rows[t / 9])[t % 9]? = inner[t]? := by
      rw [← hrow]
      show (List.take 9 (List.drop (t / 9 * 9) inner))[t % 9]? = inner[t]?
      rw [List.getElem?_take_of_lt hc, List.getElem?_drop]
      congr 1
      omega
    have h2 : inner[t]? = cur[t]? := by
      rw [← ht]
      show (List.take (rows.length * 9) cur.toList)[t]? = cur[t]?
      rw [List.getElem?_take_of_lt ht2, Array.getElem?_toList]
    rw [← h2, ← h1]
    exact List.getElem?_eq_getElem _
  constructor
  · rw [Nat.zero_add]
    have h3 := get_flatK encA 9 (rowsA xs rows hl hfx hrg) t (by rw [rowsA_size]; exact ht2)
    rw [h3, rowsA_get _ _ _ _ _ _ hj]
    show _ = some (rows[t / 9])[t % 9]!
    rw [getElem!_pos (rows[t / 9]) (t % 9) hrl, ← hcell]
    unfold World.cell?
    simp only [hh]
    rfl
  · exact bkF hh _
theorem heap_put (d : Array (RowA w0 ok)) (q : Nat) (os : Array Obj) (k : Nat) (hk : k < w.heap.size) (hne : k ≠ g) : (grow (putRowK encA 9 (Go.Sort.ahead w q) g 0 d) os).heap[k]? = w.heap[k]? := by
  have hs : (putRowK encA 9 (Go.Sort.ahead w q) g 0 d).heap.size = w.heap.size := Go.Sort.size_putRow _ _ _ _ _
  show ((putRowK encA 9 (Go.Sort.ahead w q) g 0 d).heap ++ os)[k]? = _
  rw [Array.getElem?_append_left (by rw [hs]; exact hk)]
  show ((Go.Sort.ahead w q).heap.modify g _)[k]? = _
  rw [Array.getElem?_modify, if_neg (Ne.symm hne)]
  rfl
theorem heap_put_g (d : Array (RowA w0 ok)) (q : Nat) (os : Array Obj) {cur : Array Value} {ty : TypeId} {fr : Nat × Nat} (hh : w.heap[g]? = some (.cells cur ty fr)) :
    (grow (putRowK encA 9 (Go.Sort.ahead w q) g 0 d) os).heap[g]? = some (.cells (putCells id 0 (flatK encA 9 d) cur) ty fr) := by
  have hs : (putRowK encA 9 (Go.Sort.ahead w q) g 0 d).heap.size = w.heap.size := Go.Sort.size_putRow _ _ _ _ _
  have hg : g < w.heap.size := by
    rcases Nat.lt_or_ge g w.heap.size with h | h
    · exact h
    · rw [Array.getElem?_eq_none h] at hh; cases hh
  show ((putRowK encA 9 (Go.Sort.ahead w q) g 0 d).heap ++ os)[g]? = _
  rw [Array.getElem?_append_left (by rw [hs]; exact hg)]
  show ((Go.Sort.ahead w q).heap.modify g _)[g]? = _
  rw [Array.getElem?_modify, if_pos rfl]
  show Option.map _ w.heap[g]? = _
  rw [hh]
  rfl
theorem put_below {B : Nat} (h : Below B w0 w) (hB : B ≤ g) (hw : B ≤ w.heap.size) {w1 : World} {ok1 : Nat → Prop} (d : Array (RowA w1 ok1)) (q : Nat) (os : Array Obj) : Below B w0 (grow (putRowK encA 9 (Go.Sort.ahead w q) g 0 d) os) := by
  refine ⟨h.os, h.tape, h.output, ?_, fun k hk => ?_⟩
  · have hs : (putRowK encA 9 (Go.Sort.ahead w q) g 0 d).heap.size = w.heap.size := Go.Sort.size_putRow _ _ _ _ _
    show w0.heap.size ≤ ((putRowK encA 9 (Go.Sort.ahead w q) g 0 d).heap ++ os).size
    rw [Array.size_append, hs]
    have := h.size; omega
  · rw [heap_put d q os k (by omega) (by omega)]
    exact h.block k hk
theorem shut_N (h : Kd.N KX TX w base ok (.slice (some ⟨g, 0, none⟩) n cap) xs) (d : Array (RowA w (fun k => ok k ∧ k ≠ g))) (hd : d.size = n) (q : Nat) (os : Array Obj) :
    Kd.N KX TX (grow (putRowK encA 9 (Go.Sort.ahead w q) g 0 d) os) base ok (.slice (some ⟨g, 0, none⟩) n cap) (d.toList.map RowA.ex) := by
  obtain ⟨h0, rows, hl, ⟨hR1, inner, ho, hr⟩, hf⟩ := h
  obtain ⟨hil, ho⟩ := ho
  rcases ho with ⟨he, _⟩ | ⟨g', cap', cur, he, hg, hh, hn, hm, hs, ht⟩
  · cases he
  injection he with h1 h2 h3
  injection h1 with h1
  injection h1 with h1 _ _
  subst h1 h2 h3
  have hlen : (d.toList.map encA).length = rows.length := by rw [List.length_map, Array.length_toList, hd]
  have hff : ((flatK encA 9 d).toList).length = rows.length * 9 := by rw [Array.length_toList, size_flatK, hd]
  have hkx : (Kd.raw KX.sz).sz = 9 := rfl
  refine ⟨h0, d.toList.map encA, by rw [List.length_map, List.length_map], ⟨hR1, (flatK encA 9 d).toList, ⟨by rw [hlen]; exact hff, .inr ⟨g, cap, _, by rw [hlen], hg, heap_put_g d q os hh, by rw [hlen]; exact hn, hm, ?_, ?_⟩⟩, by rw [hlen]; exact hff, fun j p hj => ?_⟩, fun j x c hx hc => ?_⟩
  · rw [show (putCells id 0 (flatK encA 9 d) cur).size = cur.size by simp [putCells]]; exact hs
  · rw [hlen]
    show List.take (rows.length * 9) _ = _
    have hcs : rows.length * 9 ≤ cur.size := by rw [hs]; exact Nat.mul_le_mul_right 9 hn
    apply List.ext_getElem
    · have hps : (putCells id 0 (flatK encA 9 d) cur).toList.length = cur.size := by rw [Array.length_toList]; simp [putCells]
      rw [List.length_take, hps, hff]; show min (rows.length * 9) cur.size = rows.length * 9; omega
    · intro t ht1 ht2
      rw [hff] at ht2
      rw [List.getElem_take, Array.getElem_toList, Array.getElem_toList]
      have h3 : (putCells id 0 (flatK encA 9 d) cur)[t]? = some ((flatK encA 9 d)[t]'(by rw [size_flatK, hd]; exact ht2)) := by
        unfold putCells
        rw [Array.getElem?_mapIdx, Array.getElem?_eq_getElem (show t < cur.size by omega), Option.map_some, if_pos ⟨Nat.zero_le _, by rw [size_flatK, hd]; omega⟩]
        simp only [Nat.sub_zero, id]
        rw [getElem!_pos _ t (by rw [size_flatK, hd]; exact ht2)]
      exact Option.some.inj ((Array.getElem?_eq_getElem _).symm.trans h3)
  · have hjl : j < d.size := by have := (List.getElem?_eq_some_iff.1 hj).1; rw [List.length_map, Array.length_toList] at this; exact this
    have hp : p = encA d[j] := by
      rw [List.getElem?_map, Array.getElem?_toList, Array.getElem?_eq_getElem hjl] at hj
      exact (Option.some.inj hj).symm
    have hrow : List.take 9 (List.drop (j * 9) (flatK encA 9 d).toList) = p := by
      rw [hp]
      apply List.ext_getElem
      · rw [List.length_take, List.length_drop, hff, encA_len]
        have := Nat.mul_le_mul_right 9 (show j + 1 ≤ rows.length by omega)
        omega
      · intro c hc1 hc2
        have hc9 : c < 9 := by rw [encA_len] at hc2; exact hc2
        rw [List.getElem_take, List.getElem_drop, Array.getElem_toList]
        have h4 := get_flatK encA 9 d (j * 9 + c) (by omega)
        rw [getElem!_pos _ _ (by rw [size_flatK]; omega)] at h4
        rw [h4, show (j * 9 + c) / 9 = j by omega, show (j * 9 + c) % 9 = c by omega, getElem!_pos d j hjl, getElem!_pos (encA d[j]) c hc2]
    refine ⟨hrow, ?_, ?_⟩
    · show (List.take 9 (List.drop (j * 9) (flatK encA 9 d).toList)).length = 9
      rw [hrow, hp]; exact encA_len _
    · intro u hu
      have hu' : u ∈ List.take 9 (List.drop (j * 9) (flatK encA 9 d).toList) := hu
      rw [hrow, hp] at hu'
      exact encA_one _ u hu'
  · have hjl : j < d.size := by have := (List.getElem?_eq_some_iff.1 hc).1; rw [List.length_map, Array.length_toList] at this; exact this
    rw [List.getElem?_map, Array.getElem?_toList, Array.getElem?_eq_getElem hjl] at hx hc
    obtain rfl := Option.some.inj hx
    obtain rfl := Option.some.inj hc
    refine Kd.FK_mono (Kd.FK_step d[j].fk (fun k hk hlt => heap_put d q os k hlt hk.2)) (fun k hk => ⟨hk.1, fun h => hk.2 (by injection h)⟩)
end
end Go.Proofs.YtoffpegppdmkdaaGreatDoor.E
namespace Go.Proofs.YtoffpegppdmkdaaGreatDoor.E
open Go.RowKit Go.Proofs.YtoffpegppdmkdaaGreatDoorW.PrintWords Go.Proofs.YtoffpegppdmkdaaGreatDoorW.PrintLast Go.Proofs.YtoffpegppdmkdaaGreatDoorW.PrintMore
set_option linter.unusedVariables false
set_option linter.unusedSimpArgs false
def txt (e : Ex) : ByteArray := (textRes e).1
set_option maxHeartbeats 1000000 in
set_option maxRecDepth 100000 in
theorem text_ok (e : Ex) (A : Option Addr) (c : Nat) (w : World) (hT : TabW w) (hRg : rngF e = true) (hC : Kd.C KX w A e.f6.length e.f6) (hc : e.f6.length ≤ c) :
    Calls Tryz.prog 43 #[.agg (exC e A c)] w fun r w' => r = .returned (.string (txt e)) ∧ Below w.heap.size w w' := by
  have HC := Lib.hid hC; have HT := Lib.hid hT
  clear hC hT
  obtain ⟨q, hq⟩ : ∃ q, textRes e = q := ⟨_, rfl⟩
  have hqt : txt e = q.1 := by unfold txt; rw [hq]
  rw [hqt]
  obtain ⟨q1, q2⟩ := q
  have HQ := Lib.hid hq; clear hq hqt
  unfold exC
  go_enter Tryz.func43, Tryz.ntmps43
  go_upto_region 1 with (first | ((with_reducible refine gate_dst (N := 1) rfl ?_); refine box_event rfl (N := 1) rfl (cs := exC e A c) (t := 26) (by first | rfl | (go_simp; done) | (go_simp; rfl)) ?_; intro g hgg w1 hbg hBg;  clear hgg))
  obtain ⟨hz0, hz1, hz2, hz3, hz4, hz5, hz6, hz7, hz8⟩ := bkC9 hbg
  have HTX := Lib.hid (Text_ok e A c w1 (tab_at HT.out hBg) hRg (Kd.C_below HC.out hBg) hc)
  rw [HQ.out] at HTX
  unfold exC at HTX
  have HB := Lib.hid hBg
  clear hRg
  go_wp2_with (go_at_call 78; refine HTX.out.mono ?_; rintro r w2 ⟨rfl, hB2⟩; have HB2 := Lib.hid hB2; clear hB2)
  go_ret
  exact ⟨rfl, HB.out.trans (HB2.out.mono HB.out.size)⟩
def sameT (a b : Ex) : Bool := decide ((textRes a).2 = 0) && (decide ((textRes b).2 = 0) && (txt a).toList == (txt b).toList)
set_option maxHeartbeats 1000000 in
set_option maxRecDepth 100000 in
theorem cmp_ok (e d : Ex) (A D : Option Addr) (c k : Nat) (w : World) (hT : TabW w) (hRg : rngF e = true) (hRd : rngF d = true) (hC : Kd.C KX w A e.f6.length e.f6) (hc : e.f6.length ≤ c) (hD : Kd.C KX w D d.f6.length d.f6) (hd : d.f6.length ≤ k) :
    Calls Tryz.prog 70 #[.agg (exC e A c), .agg (exC d D k)] w fun r w' => r = .returned (.int .i64 (Lib.compareBytes (txt e).data.toList (txt d).data.toList)) ∧ Below w.heap.size w w' := by
  have HT : Hid (∀ W, Below w.heap.size w W → Calls Tryz.prog 43 #[.agg (exC e A c)] W fun r w' => r = .returned (.string (txt e)) ∧ Below W.heap.size W w') := Lib.hid (fun W hW => text_ok e A c W (tab_at hT hW) hRg (Kd.C_below hC hW) hc)
  have HS : Hid (∀ W, Below w.heap.size w W → Calls Tryz.prog 43 #[.agg (exC d D k)] W fun r w' => r = .returned (.string (txt d)) ∧ Below W.heap.size W w') := Lib.hid (fun W hW => text_ok d D k W (tab_at hT hW) hRd (Kd.C_below hD hW) hd)
  have HCM : Hid (∀ W, Calls Tryz.prog 71 #[.string (txt e), .string (txt d)] W fun r w' => r = .returned (.int .i64 (Lib.compareBytes (txt e).data.toList (txt d).data.toList)) ∧ w' = W) := Lib.hid (fun W => Tryz.strings_Compare (txt e) (txt d) W)
  generalize Lib.compareBytes (txt e).data.toList (txt d).data.toList = q at HCM ⊢
  generalize txt e = te at HT HCM
  generalize txt d = td at HS HCM
  clear hT hRg hRd hC hD
  unfold exC at HT HS ⊢
  go_enter Tryz.func70, Tryz.ntmps70
  go_upto_region 1 with (first | ((with_reducible refine gate_dst (N := 2) rfl ?_); refine box_event rfl (N := 2) rfl (cs := exC e A c) (t := 26) (by first | rfl | (go_simp; done) | (go_simp; rfl)) ?_; intro g hgg w1 hbg hBg;  have HG1 := Lib.hid hbg; have HB1 := Lib.hid hBg; clear hgg hbg hBg) | ((with_reducible refine gate_dst (N := 3) rfl ?_); refine box_event rfl (N := 3) rfl (cs := exC d D k) (t := 26) (by first | rfl | (go_simp; done) | (go_simp; rfl)) ?_; intro h hgg w2 hbh hBh;  have HG2 := Lib.hid hbh; have HB2 := Lib.hid hBh; clear hgg hbh hBh))
  have hg2 := (HB2.out.block g (blk_lt HG1.out)).trans HG1.out
  have hh2 := HG2.out
  have hz0 : w2.cell? ⟨g, 0, none⟩ = some (.int .i64 e.f0) := (bkC hg2 0).trans rfl; have hz1 : w2.cell? ⟨g, 1, none⟩ = some (.int .i64 e.f1.f0) := (bkC hg2 1).trans rfl; have hz2 : w2.cell? ⟨g, 2, none⟩ = some (.int .i64 e.f1.f1) := (bkC hg2 2).trans rfl; have hz3 : w2.cell? ⟨g, 3, none⟩ = some (.string e.f1.f2) := (bkC hg2 3).trans rfl; have hz4 : w2.cell? ⟨g, 4, none⟩ = some (.int .i64 e.f2) := (bkC hg2 4).trans rfl; have hz5 : w2.cell? ⟨g, 5, none⟩ = some (.int .i64 e.f3) := (bkC hg2 5).trans rfl; have hz6 : w2.cell? ⟨g, 6, none⟩ = some (.int .i64 e.f4) := (bkC hg2 6).trans rfl; have hz7 : w2.cell? ⟨g, 7, none⟩ = some (.string e.f5) := (bkC hg2 7).trans rfl; have hz8 : w2.cell? ⟨g, 8, none⟩ = some (.slice A e.f6.length c) := (bkC hg2 8).trans rfl
  have hy0 : w2.cell? ⟨h, 0, none⟩ = some (.int .i64 d.f0) := (bkC hh2 0).trans rfl; have hy1 : w2.cell? ⟨h, 1, none⟩ = some (.int .i64 d.f1.f0) := (bkC hh2 1).trans rfl; have hy2 : w2.cell? ⟨h, 2, none⟩ = some (.int .i64 d.f1.f1) := (bkC hh2 2).trans rfl; have hy3 : w2.cell? ⟨h, 3, none⟩ = some (.string d.f1.f2) := (bkC hh2 3).trans rfl; have hy4 : w2.cell? ⟨h, 4, none⟩ = some (.int .i64 d.f2) := (bkC hh2 4).trans rfl; have hy5 : w2.cell? ⟨h, 5, none⟩ = some (.int .i64 d.f3) := (bkC hh2 5).trans rfl; have hy6 : w2.cell? ⟨h, 6, none⟩ = some (.int .i64 d.f4) := (bkC hh2 6).trans rfl; have hy7 : w2.cell? ⟨h, 7, none⟩ = some (.string d.f5) := (bkC hh2 7).trans rfl; have hy8 : w2.cell? ⟨h, 8, none⟩ = some (.slice D d.f6.length k) := (bkC hh2 8).trans rfl
  have HBB : Hid (Below w.heap.size w w2) := Lib.hid (HB1.out.trans (HB2.out.mono HB1.out.size))
  have HG := Lib.hid hg2; have HH := Lib.hid hh2
  clear hg2 hh2 HG1 HG2 HB1 HB2
  have HTg : Hid (∀ W, Below w2.heap.size w2 W → Calls Tryz.prog 43 #[.agg #[.int .i64 e.f0, .int .i64 e.f1.f0, .int .i64 e.f1.f1, .string e.f1.f2, .int .i64 e.f2, .int .i64 e.f3, .int .i64 e.f4, .string e.f5, .slice A e.f6.length c]] W fun r w'' => r = .returned (.string te) ∧ Below W.heap.size W w'') := Lib.hid (fun W hW => HT.out W (HBB.out.trans (hW.mono HBB.out.size)))
  have HTh : Hid (∀ W, Below w2.heap.size w2 W → Calls Tryz.prog 43 #[.agg #[.int .i64 d.f0, .int .i64 d.f1.f0, .int .i64 d.f1.f1, .string d.f1.f2, .int .i64 d.f2, .int .i64 d.f3, .int .i64 d.f4, .string d.f5, .slice D d.f6.length k]] W fun r w'' => r = .returned (.string td) ∧ Below W.heap.size W w'') := Lib.hid (fun W hW => HS.out W (HBB.out.trans (hW.mono HBB.out.size)))
  have HT1 : Hid (∀ R : Ending → World → Prop, (∀ r w'', r = .returned (.string te) ∧ Below w2.drew.heap.size w2.drew w'' → R r w'') → Calls Tryz.prog 43 #[.agg #[.int .i64 e.f0, .int .i64 e.f1.f0, .int .i64 e.f1.f1, .string e.f1.f2, .int .i64 e.f2, .int .i64 e.f3, .int .i64 e.f4, .string e.f5, .slice A e.f6.length c]] w2.drew R) := Lib.hid (fun R hR => (HTg.out w2.drew ⟨rfl, rfl, rfl, Nat.le_refl _, fun _ _ => rfl⟩).mono hR)
  have HGD : Hid (w2.drew.heap[g]? = some (.cells (exC e A c) 26 (0, 0))) := Lib.hid HG.out
  have HHD : Hid (w2.drew.heap[h]? = some (.cells (exC d D k) 26 (0, 0))) := Lib.hid HH.out
  clear HT HS
  go_region_held3 (fun w' => w'.cell? ⟨g, 0, none⟩ = some (.int .i64 e.f0) ∧ w'.cell? ⟨g, 1, none⟩ = some (.int .i64 e.f1.f0) ∧ w'.cell? ⟨g, 2, none⟩ = some (.int .i64 e.f1.f1) ∧ w'.cell? ⟨g, 3, none⟩ = some (.string e.f1.f2) ∧ w'.cell? ⟨g, 4, none⟩ = some (.int .i64 e.f2) ∧ w'.cell? ⟨g, 5, none⟩ = some (.int .i64 e.f3) ∧ w'.cell? ⟨g, 6, none⟩ = some (.int .i64 e.f4) ∧ w'.cell? ⟨g, 7, none⟩ = some (.string e.f5) ∧ w'.cell? ⟨g, 8, none⟩ = some (.slice A e.f6.length c) ∧ w'.cell? ⟨h, 0, none⟩ = some (.int .i64 d.f0) ∧ w'.cell? ⟨h, 1, none⟩ = some (.int .i64 d.f1.f0) ∧ w'.cell? ⟨h, 2, none⟩ = some (.int .i64 d.f1.f1) ∧ w'.cell? ⟨h, 3, none⟩ = some (.string d.f1.f2) ∧ w'.cell? ⟨h, 4, none⟩ = some (.int .i64 d.f2) ∧ w'.cell? ⟨h, 5, none⟩ = some (.int .i64 d.f3) ∧ w'.cell? ⟨h, 6, none⟩ = some (.int .i64 d.f4) ∧ w'.cell? ⟨h, 7, none⟩ = some (.string d.f5) ∧ w'.cell? ⟨h, 8, none⟩ = some (.slice D d.f6.length k)) (go_keep) (first
    | (go_at_call 43; with_reducible refine HT1.out _ ?_; rintro r w3 ⟨rfl, hB3⟩; have hg3 := (hB3.block g (blk_lt HGD.out)).trans HGD.out; have hh3 := (hB3.block h (blk_lt HHD.out)).trans HHD.out; have hu0 : w3.cell? ⟨g, 0, none⟩ = some (.int .i64 e.f0) := (bkC hg3 0).trans rfl; have hu1 : w3.cell? ⟨g, 1, none⟩ = some (.int .i64 e.f1.f0) := (bkC hg3 1).trans rfl; have hu2 : w3.cell? ⟨g, 2, none⟩ = some (.int .i64 e.f1.f1) := (bkC hg3 2).trans rfl; have hu3 : w3.cell? ⟨g, 3, none⟩ = some (.string e.f1.f2) := (bkC hg3 3).trans rfl; have hu4 : w3.cell? ⟨g, 4, none⟩ = some (.int .i64 e.f2) := (bkC hg3 4).trans rfl; have hu5 : w3.cell? ⟨g, 5, none⟩ = some (.int .i64 e.f3) := (bkC hg3 5).trans rfl; have hu6 : w3.cell? ⟨g, 6, none⟩ = some (.int .i64 e.f4) := (bkC hg3 6).trans rfl; have hu7 : w3.cell? ⟨g, 7, none⟩ = some (.string e.f5) := (bkC hg3 7).trans rfl; have hu8 : w3.cell? ⟨g, 8, none⟩ = some (.slice A e.f6.length c) := (bkC hg3 8).trans rfl; have hv0 : w3.cell? ⟨h, 0, none⟩ = some (.int .i64 d.f0) := (bkC hh3 0).trans rfl; have hv1 : w3.cell? ⟨h, 1, none⟩ = some (.int .i64 d.f1.f0) := (bkC hh3 1).trans rfl; have hv2 : w3.cell? ⟨h, 2, none⟩ = some (.int .i64 d.f1.f1) := (bkC hh3 2).trans rfl; have hv3 : w3.cell? ⟨h, 3, none⟩ = some (.string d.f1.f2) := (bkC hh3 3).trans rfl; have hv4 : w3.cell? ⟨h, 4, none⟩ = some (.int .i64 d.f2) := (bkC hh3 4).trans rfl; have hv5 : w3.cell? ⟨h, 5, none⟩ = some (.int .i64 d.f3) := (bkC hh3 5).trans rfl; have hv6 : w3.cell? ⟨h, 6, none⟩ = some (.int .i64 d.f4) := (bkC hh3 6).trans rfl; have hv7 : w3.cell? ⟨h, 7, none⟩ = some (.string d.f5) := (bkC hh3 7).trans rfl; have hv8 : w3.cell? ⟨h, 8, none⟩ = some (.slice D d.f6.length k) := (bkC hh3 8).trans rfl)
    | (go_at_call 43; have HX := HTh.out w3 (⟨hB3.os, hB3.tape, hB3.output, hB3.size, hB3.block⟩ : Below w2.heap.size w2 w3); with_reducible refine HX.mono ?_; rintro r w4 ⟨rfl, hB4⟩; have hg4 := (hB4.block g (blk_lt hg3)).trans hg3; have hh4 := (hB4.block h (blk_lt hh3)).trans hh3; have hp0 : w4.cell? ⟨g, 0, none⟩ = some (.int .i64 e.f0) := (bkC hg4 0).trans rfl; have hp1 : w4.cell? ⟨g, 1, none⟩ = some (.int .i64 e.f1.f0) := (bkC hg4 1).trans rfl; have hp2 : w4.cell? ⟨g, 2, none⟩ = some (.int .i64 e.f1.f1) := (bkC hg4 2).trans rfl; have hp3 : w4.cell? ⟨g, 3, none⟩ = some (.string e.f1.f2) := (bkC hg4 3).trans rfl; have hp4 : w4.cell? ⟨g, 4, none⟩ = some (.int .i64 e.f2) := (bkC hg4 4).trans rfl; have hp5 : w4.cell? ⟨g, 5, none⟩ = some (.int .i64 e.f3) := (bkC hg4 5).trans rfl; have hp6 : w4.cell? ⟨g, 6, none⟩ = some (.int .i64 e.f4) := (bkC hg4 6).trans rfl; have hp7 : w4.cell? ⟨g, 7, none⟩ = some (.string e.f5) := (bkC hg4 7).trans rfl; have hp8 : w4.cell? ⟨g, 8, none⟩ = some (.slice A e.f6.length c) := (bkC hg4 8).trans rfl; have hq0 : w4.cell? ⟨h, 0, none⟩ = some (.int .i64 d.f0) := (bkC hh4 0).trans rfl; have hq1 : w4.cell? ⟨h, 1, none⟩ = some (.int .i64 d.f1.f0) := (bkC hh4 1).trans rfl; have hq2 : w4.cell? ⟨h, 2, none⟩ = some (.int .i64 d.f1.f1) := (bkC hh4 2).trans rfl; have hq3 : w4.cell? ⟨h, 3, none⟩ = some (.string d.f1.f2) := (bkC hh4 3).trans rfl; have hq4 : w4.cell? ⟨h, 4, none⟩ = some (.int .i64 d.f2) := (bkC hh4 4).trans rfl; have hq5 : w4.cell? ⟨h, 5, none⟩ = some (.int .i64 d.f3) := (bkC hh4 5).trans rfl; have hq6 : w4.cell? ⟨h, 6, none⟩ = some (.int .i64 d.f4) := (bkC hh4 6).trans rfl; have hq7 : w4.cell? ⟨h, 7, none⟩ = some (.string d.f5) := (bkC hh4 7).trans rfl; have hq8 : w4.cell? ⟨h, 8, none⟩ = some (.slice D d.f6.length k) := (bkC hh4 8).trans rfl)
    | (go_at_call 71; refine (HCM.out _).mono ?_; rintro r w5 ⟨rfl, rfl⟩))
  go_wp2_with fail
  go_ret
  exact ⟨rfl, HBB.out.trans (((⟨hB3.os, hB3.tape, hB3.output, hB3.size, hB3.block⟩ : Below w2.heap.size w2 w3).trans (hB4.mono hB3.size)).mono HBB.out.size)⟩
end Go.Proofs.YtoffpegppdmkdaaGreatDoor.E
