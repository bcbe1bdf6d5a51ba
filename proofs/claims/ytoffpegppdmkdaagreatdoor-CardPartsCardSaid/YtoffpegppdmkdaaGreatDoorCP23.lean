/- Contracts and plain lemmas of the functions that the law reaches, part 23. -/
import Derived.Sort.Walk0
import Derived.Lib.Bytealg
import Derived.Test.YtoffpegppdmkdaaGreatDoorCP20
namespace Go.Proofs.YtoffpegppdmkdaaGreatDoor.E
open Go.RowKit Go.Proofs.YtoffpegppdmkdaaGreatDoorW.PrintWords Go.Proofs.YtoffpegppdmkdaaGreatDoorW.PrintLast Go.Proofs.YtoffpegppdmkdaaGreatDoorW.PrintMore
open Go.Sort (SWO PermIn SortedIn Holds HoldsK putRow putRowK flatK size_flatK get_flatK mapBlock putCells grow)
set_option linter.unusedVariables false
theorem cb_lt : ∀ (a b : List UInt8), Lib.compareBytes a b < 0 ↔ a < b
  | [], [] => by simp [Lib.compareBytes]
  | [], b :: y => by simp [Lib.compareBytes]
  | a :: x, [] => by simp [Lib.compareBytes]
  | a :: x, b :: y => by
    rw [List.cons_lt_cons_iff]
    unfold Lib.compareBytes
    have := cb_lt x y
    by_cases h1 : a < b
    · simp [h1]
    · by_cases h2 : b < a
      · have h3 : a ≠ b := fun h => by rw [h] at h2; exact absurd h2 (UInt8.lt_irrefl _)
        simp [h1, h2, h3]
      · have h3 : a = b := UInt8.le_antisymm (UInt8.not_lt.1 h2) (UInt8.not_lt.1 h1)
        subst h3
        simp [this, UInt8.lt_irrefl]
theorem l_irrefl (a : List UInt8) : ¬ a < a := List.lt_irrefl a
theorem l_trans {a b c : List UInt8} (h : a < b) (h2 : b < c) : a < c := List.lt_trans h h2
theorem l_ntrans {a b c : List UInt8} (h : ¬ a < b) (h2 : ¬ b < c) : ¬ a < c := by
  rw [List.not_lt] at *
  exact List.le_trans h2 h
theorem l_tot {a b : List UInt8} (h : ¬ a < b) (h2 : ¬ b < a) : a = b := by
  rw [List.not_lt] at *
  exact List.le_antisymm h2 h
def tl (e : Ex) : List UInt8 := (txt e).data.toList
section
variable {w w0 : World} {ok : Nat → Prop} {base g cap n : Nat} {xs : List Ex}
def cfA (x y : RowA w ok) : Int := Lib.compareBytes (tl x.ex) (tl y.ex)
theorem ltA (x y : RowA w ok) : ltOf cfA x y = decide (tl x.ex < tl y.ex) := by
  unfold ltOf cfA
  rw [Bool.eq_iff_iff, decide_eq_true_eq, decide_eq_true_eq]
  exact cb_lt _ _
theorem swoA : SWO (ltOf (cfA (w := w) (ok := ok))) where
  irrefl x := by rw [ltA]; exact decide_eq_false (l_irrefl _)
  trans x y z h1 h2 := by rw [ltA] at *; exact decide_eq_true (l_trans (of_decide_eq_true h1) (of_decide_eq_true h2))
  ntrans x y z h1 h2 := by rw [ltA] at *; exact decide_eq_false (l_ntrans (of_decide_eq_false h1) (of_decide_eq_false h2))
theorem read_put (p : RowA w (fun k => ok k ∧ k ≠ g)) {w1 : World} {ok1 : Nat → Prop} (dk : Array (RowA w1 ok1)) (m : Nat) (os : Array Obj) :
    ∃ A c, (encA p).toArray = exC p.ex A c ∧ p.ex.f6.length ≤ c ∧ Kd.C KX (grow (putRowK encA 9 (Go.Sort.ahead w m) g 0 dk) os) A p.ex.f6.length p.ex.f6 := by
  obtain ⟨A, c, he, hc, hC⟩ := k26_open (p.fk (grow (putRowK encA 9 (Go.Sort.ahead w m) g 0 dk) os) (fun k hk hlt => heap_put dk m os k hlt hk.2))
  exact ⟨A, c, by unfold encA; rw [he]; rfl, hc, hC⟩
theorem hcfS : ∀ (args : Array Value) (W : World), (callFunc 70 args).run Tryz.prog W = .ok (.enter 70 args) W := fun args W => by go_simp
theorem cmp_lays (hT : TabW w0) (hB : Below w0.heap.size w0 w) (hg : w0.heap.size ≤ g) (size : Nat) :
    CmpLays Tryz.prog 70 #[] (encA (w := w) (ok := fun k => ok k ∧ k ≠ g)) 9 cfA g 0 size w := by
  intro m os dk hdk x y
  obtain ⟨A, c, hx, hc, hC⟩ := read_put x dk m os
  obtain ⟨D, k, hy, hd, hD⟩ := read_put y dk m os
  have hBW : Below w0.heap.size w0 (grow (putRowK encA 9 (Go.Sort.ahead w m) g 0 dk) os) := put_below hB hg hB.size dk m os
  have h := cmp_ok x.ex y.ex A D c k _ (tab_at hT hBW) x.rg y.rg hC hc hD hd
  have h2 := calls_drawn h (fun w' h => by cases h.1)
  have ha : (#[.agg (encA x).toArray, .agg (encA y).toArray] ++ #[] : Array Value) = #[.agg (exC x.ex A c), .agg (exC y.ex D k)] := by rw [hx, hy]; rfl
  rw [ha]
  refine h2.mono ?_
  rintro e w' ⟨⟨he, hb⟩, hdr⟩
  exact ⟨he, grow_of hb hdr⟩
theorem sort_ok (hT : TabW w0) (hB : Below w0.heap.size w0 w) (hb : w0.heap.size ≤ base) (hrg : ∀ x ∈ xs, rngF x = true) (hsz : n < 4611686018427387904)
    (hN : Kd.N KX TX w base ok (.slice (some ⟨g, 0, none⟩) n cap) xs) :
    Calls Tryz.prog 69 #[.slice (some ⟨g, 0, none⟩) n cap, .func (.func 70) #[] #[]] w fun e w' =>
      e = .returned (.tuple #[]) ∧ ∃ ys : List Ex, ys.Perm xs ∧ ys.Pairwise (fun a b => ¬ tl b < tl a) ∧ Kd.N KX TX w' base ok (.slice (some ⟨g, 0, none⟩) n cap) ys ∧ (∀ B, B ≤ base → B ≤ w.heap.size → Below B w w') := by
  obtain ⟨hxl, hgs, hbg, d, hd, hdx, hH⟩ := open_N hN hrg
  have hcon := AnyQ.slices_SortFunc Tryz.sortEx 9 (fun w => Tryz.isAgg26 w) (fun w => Tryz.sizeOf26 w) encA encA_len encA_one cfA swoA 70 #[] g 0 cap d w hcfS (cmp_lays hT hB (Nat.le_trans hb hbg) d.size) hH hgs (by rw [hd]; exact hsz)
  change Calls Tryz.prog 69 _ _ _ at hcon
  rw [hd] at hcon
  refine hcon.mono ?_
  rintro e w' ⟨he, d', m, os, hp, hs, rfl⟩
  have hds : d'.size = n := hp.1.trans hd
  refine ⟨he, d'.toList.map RowA.ex, ?_, ?_, shut_N hN d' hds m os, fun B hBb hBw => put_below (Below.refl B w) (Nat.le_trans hBb hbg) hBw d' m os⟩
  · rw [← hdx]
    have h2 := hp.2.2
    rw [show d'.extract 0 n = d' by rw [← hds]; exact Array.extract_size, show d.extract 0 n = d by rw [← hd]; exact Array.extract_size] at h2
    exact h2.map _
  · rw [List.pairwise_iff_getElem]
    intro i j hi hj hij
    rw [List.length_map, Array.length_toList] at hi hj
    have h3 := hs i j (Nat.zero_le _) hij (by rw [← hds]; exact hj)
    rw [getElem!_pos d' j hj, getElem!_pos d' i hi, ltA] at h3
    rw [List.getElem_map, List.getElem_map, Array.getElem_toList, Array.getElem_toList]
    exact of_decide_eq_false h3
theorem rev_ok (hrg : ∀ x ∈ xs, rngF x = true) (hsz : n ≤ 9223372036854775807) (hN : Kd.N KX TX w base ok (.slice (some ⟨g, 0, none⟩) n cap) xs) :
    Calls Tryz.prog 87 #[.slice (some ⟨g, 0, none⟩) n cap] w fun e w' =>
      e = .returned (.tuple #[]) ∧ Kd.N KX TX w' base ok (.slice (some ⟨g, 0, none⟩) n cap) xs.reverse ∧ (∀ B, B ≤ base → B ≤ w.heap.size → Below B w w') ∧ (∀ k, k ≠ g → k < w.heap.size → w'.heap[k]? = w.heap[k]?) := by
  obtain ⟨hxl, hgs, hbg, d, hd, hdx, hH⟩ := open_N hN hrg
  have hcon := AnyQ.slices_Reverse Tryz.revEx 9 (fun w => Tryz.isAgg26 w) (fun w => Tryz.sizeOf26 w) encA encA_len encA_one g 0 cap d w hH (by rw [hd]; exact hsz)
  change Calls Tryz.prog 87 _ _ _ at hcon
  rw [hd] at hcon
  refine hcon.mono ?_
  rintro e w' ⟨he, m, hw⟩
  have hw' : w' = grow (putRowK encA 9 (Go.Sort.ahead w m) g 0 d.reverse) #[] := by rw [hw, Go.Sort.grow_empty]
  subst hw'
  have hN2 := shut_N hN d.reverse (by rw [Array.size_reverse, hd]) m #[]
  rw [Array.toList_reverse, List.map_reverse, hdx] at hN2
  exact ⟨he, hN2, fun B hBb hBw => put_below (Below.refl B w) (Nat.le_trans hBb hbg) hBw _ m #[], fun k hne hk => heap_put _ m #[] k hk hne⟩
end
end Go.Proofs.YtoffpegppdmkdaaGreatDoor.E
