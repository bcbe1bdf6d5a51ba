/- Contracts and plain lemmas of the functions that the law reaches, part 30. -/
import Derived.Deep.RegionHeld3
import Derived.Test.YtoffpegppdmkdaaGreatDoorCP13
import Derived.Test.YtoffpegppdmkdaaGreatDoorCP29
namespace Go.Proofs.YtoffpegppdmkdaaGreatDoor.E
open Go.RowKit Go.Proofs.YtoffpegppdmkdaaGreatDoorW.PrintWords Go.Proofs.YtoffpegppdmkdaaGreatDoorW.PrintLast Go.Proofs.YtoffpegppdmkdaaGreatDoorW.PrintMore
set_option linter.unusedVariables false
set_option linter.unusedSimpArgs false
def eqE : Ex := twoE 9 (refE 0 0) (refE 1 0)
def litB (sz : List Int) (n : Int) (cs : List Ex) : Bl := ⟨sz, n, [], [], cs, [], [], false, [], [], false⟩
def litA (A0 : Option Addr) (c0 : Nat) (A4 : Option Addr) (c4 : Nat) : BA := ⟨A0, none, none, A4, none, none, none, none, c0, 0, 0, c4, 0, 0, 0, 0⟩
theorem litR {sz : List Int} {n : Int} {cs : List Ex} {A0 : Option Addr} {c0 : Nat} {A4 : Option Addr} {c4 : Nat} {w : World} (h0 : (Kd.int .i64).C w A0 sz.length sz) (l0 : sz.length ≤ c0) (h4 : Kd.C KX w A4 cs.length cs) (l4 : cs.length ≤ c4) : BR (litB sz n cs) (litA A0 c0 A4 c4) w :=
  ⟨h0, l0, Kd.C_nil _ _, Nat.le_refl _, Kd.C_nil _ _, Nat.le_refl _, h4, l4, Kd.C_nil _ _, Nat.le_refl _, Kd.C_nil _ _, Nat.le_refl _, Kd.C_nil _ _, Nat.le_refl _, Kd.C_nil _ _, Nat.le_refl _⟩
theorem eq_right : rightB eqE = true := by kernel_rfl
theorem less10 : lessT (refE 1 0) (refE 0 0) = false := by
  unfold lessT
  rw [tl_right (by kernel_rfl), tl_right (by kernel_rfl), textF_eq, textF_eq]
  have h0 : Lib.itoa 0 = [48] := itoa_one 0 (by decide)
  have h1 : Lib.itoa 1 = [49] := itoa_one 1 (by decide)
  show decide ((82 :: (Lib.itoa 1 ++ 46 :: Lib.itoa 0)) < (82 :: (Lib.itoa 0 ++ 46 :: Lib.itoa 0))) = false
  rw [h0, h1]
  decide
theorem eq_norm : normF eqE = eqE := by
  unfold eqE
  rw [normF_eq]
  have h1 : normF (refE 1 0) = refE 1 0 := norm_leaf rfl rfl
  have h2 : normF (refE 0 0) = refE 0 0 := norm_leaf rfl rfl
  have e : (twoE 9 (refE 0 0) (refE 1 0)).f6.map normF = [refE 0 0, refE 1 0] := by show [normF (refE 0 0), normF (refE 1 0)] = _; rw [h1, h2]
  rw [e]
  have ht : turnF 9 [refE 0 0, refE 1 0] = (9, [refE 0 0, refE 1 0]) := by
    unfold turnF
    rw [if_neg (by decide), if_pos (by decide), if_neg (by show ¬ lessT (refE 1 0) (refE 0 0) = true; rw [less10]; decide)]
  show (⟨(turnF 9 _).1, _, _, _, _, _, (turnF 9 _).2⟩ : Ex) = _
  rw [ht]; rfl
def st0 : List Sta := [⟨100, [⟨50, 0, []⟩]⟩, ⟨100, [⟨20, 0, []⟩]⟩]
theorem ex_of : (ofRes [0, 1] 2 3 [eqE]).2 = 0 := by
  unfold ofRes
  rw [if_neg]
  rintro (h | h)
  · exact absurd h (by decide)
  · rw [List.all_cons, eq_right] at h; cases h
theorem ex_sel : sel 3 (condsF [eqE]) = [eqE] := by
  have h : condsF [eqE] = [eqE] := by show [normF eqE] = _; rw [eq_norm]
  have hs : inSet 3 eqE = true := by kernel_rfl
  rw [h, sel, List.filter_cons, if_pos hs]; rfl
theorem ex_part (st : List Sta) : partF (litB [0, 1] 2 [eqE]) st eqE = partQ (litB [0, 1] 2 [eqE]) st 9 (refE 0 0) (refE 1 0) := by
  unfold partF
  rw [if_pos eq_right, eq_norm]; rfl
theorem ex_a : estF (litB [0, 1] 2 [eqE]) 3 st0 [] = (200, 0) := by
  unfold estF guessF
  show (if (ofRes [0, 1] 2 3 [eqE]).2 = 0 then _ else _) = _
  rw [if_pos ex_of]
  show (partsF _ st0 (sel 3 (condsF [eqE])) _, (0 : Int)) = _
  rw [ex_sel]
  show (timesI _ (partF _ st0 eqE).1 (partF _ st0 eqE).2, (0 : Int)) = _
  rw [ex_part]
  kernel_rfl
theorem ex_b : estF (litB [0, 1] 2 [eqE]) 3 [] [] = (100, 0) := by
  unfold estF guessF
  show (if (ofRes [0, 1] 2 3 [eqE]).2 = 0 then _ else _) = _
  rw [if_pos ex_of]
  show (partsF _ [] (sel 3 (condsF [eqE])) _, (0 : Int)) = _
  rw [ex_sel]
  show (timesI _ (partF _ [] eqE).1 (partF _ [] eqE).2, (0 : Int)) = _
  rw [ex_part]
  kernel_rfl
theorem eq_rng : rngF eqE = true := by kernel_rfl
theorem ex_G : ofG [0, 1] 3 [eqE] := ⟨⟨fun x hx => by obtain rfl := List.mem_singleton.1 hx; exact eq_rng, by decide⟩, by decide, fun x hx => by
  simp only [List.mem_cons, List.not_mem_nil, or_false] at hx
  rcases hx with rfl | rfl <;> decide⟩
theorem equal_ok (w : World) : Calls Tryz.prog 21 #[] w fun e w' => ∃ A c, e = .returned (.agg (exC eqE A c)) ∧ 2 ≤ c ∧ Kd.C KX w' A 2 [refE 0 0, refE 1 0] ∧ Below w.heap.size w w' := by
  refine (w14_equal.calls _ _ _ _ _ _ _ _ _ w rfl).mono ?_
  rintro e w' ⟨v, rfl, hR, hB⟩
  obtain ⟨A, c, rfl, hc, hC⟩ := Kd.R_reads hR
  exact ⟨A, c, rfl, hc, hC, hB⟩
theorem hist1_C {w : World} {g : Nat} {n m : Int} (h : w.heap[g]? = some (.cells #[.int .i64 n, .int .i64 m, .slice none 0 0] 64 (0, 0))) : Kd.C k64 w (some ⟨g, 0, none⟩) 1 [⟨n, m, []⟩] := by
  refine ⟨rfl, by simp, fun _ => ⟨_, rfl, ?_⟩⟩
  intro j p hp
  match j, hp with
  | 0, hp =>
    obtain rfl := Option.some.inj hp
    refine ⟨_, rfl, k64_mk w _ (Nat.le_refl _) (Kd.C_nil _ _), ?_⟩
    intro i u hu
    have hi : i < 3 := by
      have := (List.getElem?_eq_some_iff.1 hu).1; simpa using this
    obtain rfl | rfl | rfl : i = 0 ∨ i = 1 ∨ i = 2 := by omega
    all_goals (have hu' := Option.some.inj hu; subst hu'; rw [add_plain])
    · exact (bkC h 0).trans rfl
    · exact (bkC h 1).trans rfl
    · exact (bkC h 2).trans rfl
theorem stat2_C {w : World} {g : Nat} {n m : Int} {l1 l2 : List Hi} {A1 A2 : Option Addr} {c1 c2 : Nat} (h : w.heap[g]? = some (.cells #[.int .i64 n, .slice A1 l1.length c1, .int .i64 m, .slice A2 l2.length c2] 51 (0, 0))) (h1 : l1.length ≤ c1) (h2 : l2.length ≤ c2) (hC1 : Kd.C k64 w A1 l1.length l1) (hC2 : Kd.C k64 w A2 l2.length l2) : Kd.C k51 w (some ⟨g, 0, none⟩) 2 [⟨n, l1⟩, ⟨m, l2⟩] := by
  refine ⟨rfl, by simp, fun _ => ⟨_, rfl, ?_⟩⟩
  intro j p hp
  match j, hp with
  | 0, hp =>
    obtain rfl := Option.some.inj hp
    refine ⟨_, rfl, k51_mk w _ h1 hC1, ?_⟩
    intro i u hu
    have hi : i < 2 := by
      have := (List.getElem?_eq_some_iff.1 hu).1; simpa using this
    obtain rfl | rfl : i = 0 ∨ i = 1 := by omega
    all_goals (have hu' := Option.some.inj hu; subst hu'; rw [add_plain])
    · exact (bkC h 0).trans rfl
    · exact (bkC h 1).trans rfl
  | 1, hp =>
    obtain rfl := Option.some.inj hp
    refine ⟨_, rfl, k51_mk w _ h2 hC2, ?_⟩
    intro i u hu
    have hi : i < 2 := by
      have := (List.getElem?_eq_some_iff.1 hu).1; simpa using this
    obtain rfl | rfl : i = 0 ∨ i = 1 := by omega
    all_goals (have hu' := Option.some.inj hu; subst hu'; rw [add_plain])
    · exact (bkC h 2).trans rfl
    · exact (bkC h 3).trans rfl
theorem alloc2 (w : World) (X Y : Obj) : ((w.alloc X).alloc Y).heap[w.heap.size]? = some X ∧ ((w.alloc X).alloc Y).heap[w.heap.size + 1]? = some Y ∧ Below w.heap.size w ((w.alloc X).alloc Y) := by
  have h := heap_alloc_new (w.alloc X) Y
  rw [show (w.alloc X).heap.size = w.heap.size + 1 from by simp] at h
  exact ⟨bkA (heap_alloc_new w X) Y, h, blA (blA (Below.refl _ _) _) _⟩
theorem alloc3 (w : World) (X Y Z : Obj) : (((w.alloc X).alloc Y).alloc Z).heap[w.heap.size]? = some X ∧ (((w.alloc X).alloc Y).alloc Z).heap[w.heap.size + 1]? = some Y ∧ (((w.alloc X).alloc Y).alloc Z).heap[w.heap.size + 2]? = some Z ∧ Below w.heap.size w (((w.alloc X).alloc Y).alloc Z) := by
  have h2 := alloc2 w X Y
  have h := heap_alloc_new ((w.alloc X).alloc Y) Z
  rw [show ((w.alloc X).alloc Y).heap.size = w.heap.size + 2 from by simp] at h
  exact ⟨bkA h2.1 Z, bkA h2.2.1 Z, h, blA h2.2.2 _⟩
set_option maxHeartbeats 4000000 in
set_option maxRecDepth 100000 in
theorem examples_ok (w : World) (hT : TabW w) : Calls Tryz.prog 10 #[] w fun r w' => r = .returned (.bool true) ∧ Below w.heap.size w w' := by
  have HT := Lib.hid hT; clear hT
  go_enter Tryz.func10, Tryz.ntmps10
  go_upto_region 2 with (go_at_call 21; refine (equal_ok _).mono ?_; rintro rr w2 ⟨A, c, rfl, hc, hC, hB2⟩; have HB2 := Lib.hid hB2; have HC := Lib.hid hC; clear hC hB2; unfold exC)
  have ha2 := alloc2 w2 (.cells (exC eqE A c) 26 (0, 0)) (.cells (blC (litB [0, 1] 2 [eqE]) (litA (some ⟨w.heap.size, 0, none⟩) 2 (some ⟨w2.heap.size, 0, none⟩) 1)) 30 (0, 0))
  have hI : w2.heap[w.heap.size]? = some (.cells (([0, 1] : List Int).map (Value.int .i64)).toArray 3 (0, 0)) := (HB2.out.block w.heap.size (blk_lt (heap_alloc_new w _))).trans (heap_alloc_new w _)
  have HI := Lib.hid ((ha2.2.2.block _ (blk_lt hI)).trans hI)
  have HBw2 : Below w.heap.size w w2 := (blA (Below.refl w.heap.size w) _).trans (HB2.out.mono (by simp))
  have HB3 : Hid (Below w.heap.size w ((w2.alloc (.cells (exC eqE A c) 26 (0, 0))).alloc (.cells (blC (litB [0, 1] 2 [eqE]) (litA (some ⟨w.heap.size, 0, none⟩) 2 (some ⟨w2.heap.size, 0, none⟩) 1)) 30 (0, 0)))) := Lib.hid (HBw2.trans (ha2.2.2.mono HBw2.size))
  have HE := Lib.hid ha2.1
  have HG := Lib.hid ha2.2.1
  have HC3 := Lib.hid (Kd.C_below HC.out ha2.2.2)
  clear ha2 hI HBw2 HB2 HC
  change Code.wp _ _ _ _ ((w2.alloc (.cells (exC eqE A c) 26 (0, 0))).alloc (.cells (blC (litB [0, 1] 2 [eqE]) (litA (some ⟨w.heap.size, 0, none⟩) 2 (some ⟨w2.heap.size, 0, none⟩) 1)) 30 (0, 0)))
  generalize ((w2.alloc (.cells (exC eqE A c) 26 (0, 0))).alloc (.cells (blC (litB [0, 1] 2 [eqE]) (litA (some ⟨w.heap.size, 0, none⟩) 2 (some ⟨w2.heap.size, 0, none⟩) 1)) 30 (0, 0))) = w3 at HI HB3 HE HG HC3 ⊢
  obtain ⟨gb, hgb⟩ : ∃ gb, w2.heap.size + 1 = gb := ⟨_, rfl⟩
  rw [hgb] at HG ⊢
  obtain ⟨eb, heb⟩ : ∃ eb, w2.heap.size = eb := ⟨_, rfl⟩
  rw [heb] at HE HG ⊢
  obtain ⟨ib, hib⟩ : ∃ ib, w.heap.size = ib := ⟨_, rfl⟩
  replace HI : Hid (w3.heap[ib]? = some (.cells (([0, 1] : List Int).map (Value.int .i64)).toArray 3 (0, 0))) := Lib.hid (by rw [← hib]; exact HI.out)
  replace HG : Hid (w3.heap[gb]? = some (.cells (blC (litB [0, 1] 2 [eqE]) (litA (some ⟨ib, 0, none⟩) 2 (some ⟨eb, 0, none⟩) 1)) 30 (0, 0))) := Lib.hid (by rw [← hib]; exact HG.out)
  have HIB := Lib.hid hib
  clear hgb heb hib
  go_upto_region 3 with fail
  have ha3 := alloc3 w3 (.cells #[.int .i64 50, .int .i64 0, .slice none 0 0] 64 (0, 0)) (.cells #[.int .i64 20, .int .i64 0, .slice none 0 0] 64 (0, 0)) (.cells #[.int .i64 100, .slice (some ⟨w3.heap.size, 0, none⟩) 1 1, .int .i64 100, .slice (some ⟨w3.heap.size + 1, 0, none⟩) 1 1] 51 (0, 0))
  have HS := Lib.hid (stat2_C (l1 := [⟨50, 0, []⟩]) (l2 := [⟨20, 0, []⟩]) ha3.2.2.1 (Nat.le_refl _) (Nat.le_refl _) (hist1_C ha3.1) (hist1_C ha3.2.1))
  have hB4 := ha3.2.2.2
  have h2 : w3.heap.size + 1 + 1 = w3.heap.size + 2 := by omega
  rw [h2]
  clear ha3 h2
  generalize ((w3.alloc (.cells #[.int .i64 50, .int .i64 0, .slice none 0 0] 64 (0, 0))).alloc (.cells #[.int .i64 20, .int .i64 0, .slice none 0 0] 64 (0, 0))).alloc (.cells #[.int .i64 100, .slice (some ⟨w3.heap.size, 0, none⟩) 1 1, .int .i64 100, .slice (some ⟨w3.heap.size + 1, 0, none⟩) 1 1] 51 (0, 0)) = w4 at HS hB4 ⊢
  generalize w3.heap.size + 2 = sb at HS ⊢
  have HB4 := Lib.hid (HB3.out.trans (hB4.mono HB3.out.size))
  have HR := Lib.hid (fun (W : World) (hW : Below w3.heap.size w3 W) => BR.later (litR (n := 2) (ints_C [0, 1] HI.out (by decide)) (Nat.le_refl 2) (ex1_C HE.out hc (Kd.C_below HC3.out (Below.refl _ _))) (Nat.le_refl 1)) hW)
  have HG4 := Lib.hid ((hB4.block gb (blk_lt HG.out)).trans HG.out)
  have h1 := est_ok (litB [0, 1] 2 [eqE]) (litA (some ⟨ib, 0, none⟩) 2 (some ⟨eb, 0, none⟩) 1) 3 st0 (some ⟨sb, 0, none⟩) 2 [] none 0 w4 (tab_at HT.out HB4.out) ex_G (HR.out w4 hB4) HS.out (Nat.le_refl 2) (Kd.C_nil _ _) (by decide)
  rw [ex_a] at h1
  have H1 := Lib.hid h1
  have H2 := Lib.hid (fun (W : World) (hW : Below w4.heap.size w4 W) => est_ok (litB [0, 1] 2 [eqE]) (litA (some ⟨ib, 0, none⟩) 2 (some ⟨eb, 0, none⟩) 1) 3 [] none 0 [] none 0 W (tab_at HT.out (HB4.out.trans (hW.mono HB4.out.size))) ex_G (HR.out W (hB4.trans (hW.mono hB4.size))) (Kd.C_nil _ _) (Nat.le_refl 0) (Kd.C_nil _ _) (by decide))
  rw [ex_b] at H2
  clear h1 HS HR HI HE HC3 HB3 HG hB4
  have bx0 : w4.cell? ⟨gb, 0, none⟩ = some (.slice (some ⟨ib, 0, none⟩) 2 2) := (bkC HG4.out 0).trans rfl; have bx1 : w4.cell? ⟨gb, 1, none⟩ = some (.int .i64 2) := (bkC HG4.out 1).trans rfl; have bx2 : w4.cell? ⟨gb, 2, none⟩ = some (.slice none 0 0) := (bkC HG4.out 2).trans rfl; have bx3 : w4.cell? ⟨gb, 3, none⟩ = some (.slice none 0 0) := (bkC HG4.out 3).trans rfl; have bx4 : w4.cell? ⟨gb, 4, none⟩ = some (.slice (some ⟨eb, 0, none⟩) 1 1) := (bkC HG4.out 4).trans rfl; have bx5 : w4.cell? ⟨gb, 5, none⟩ = some (.slice none 0 0) := (bkC HG4.out 5).trans rfl; have bx6 : w4.cell? ⟨gb, 6, none⟩ = some (.slice none 0 0) := (bkC HG4.out 6).trans rfl; have bx7 : w4.cell? ⟨gb, 7, none⟩ = some (.bool false) := (bkC HG4.out 7).trans rfl; have bx8 : w4.cell? ⟨gb, 8, none⟩ = some (.slice none 0 0) := (bkC HG4.out 8).trans rfl; have bx9 : w4.cell? ⟨gb, 9, none⟩ = some (.slice none 0 0) := (bkC HG4.out 9).trans rfl; have bx10 : w4.cell? ⟨gb, 10, none⟩ = some (.bool false) := (bkC HG4.out 10).trans rfl
  go_upto_region 4 with (go_at_call 16; refine H1.out.mono ?_; rintro rr w5 ⟨rfl, hB5⟩; have HB5 := Lib.hid hB5; clear hB5)
  clear bx0 bx1 bx2 bx3 bx4 bx5 bx6 bx7 bx8 bx9 bx10 H1
  have HG5 := Lib.hid ((HB5.out.block gb (blk_lt HG4.out)).trans HG4.out)
  have bx0 : w5.cell? ⟨gb, 0, none⟩ = some (.slice (some ⟨ib, 0, none⟩) 2 2) := (bkC HG5.out 0).trans rfl; have bx1 : w5.cell? ⟨gb, 1, none⟩ = some (.int .i64 2) := (bkC HG5.out 1).trans rfl; have bx2 : w5.cell? ⟨gb, 2, none⟩ = some (.slice none 0 0) := (bkC HG5.out 2).trans rfl; have bx3 : w5.cell? ⟨gb, 3, none⟩ = some (.slice none 0 0) := (bkC HG5.out 3).trans rfl; have bx4 : w5.cell? ⟨gb, 4, none⟩ = some (.slice (some ⟨eb, 0, none⟩) 1 1) := (bkC HG5.out 4).trans rfl; have bx5 : w5.cell? ⟨gb, 5, none⟩ = some (.slice none 0 0) := (bkC HG5.out 5).trans rfl; have bx6 : w5.cell? ⟨gb, 6, none⟩ = some (.slice none 0 0) := (bkC HG5.out 6).trans rfl; have bx7 : w5.cell? ⟨gb, 7, none⟩ = some (.bool false) := (bkC HG5.out 7).trans rfl; have bx8 : w5.cell? ⟨gb, 8, none⟩ = some (.slice none 0 0) := (bkC HG5.out 8).trans rfl; have bx9 : w5.cell? ⟨gb, 9, none⟩ = some (.slice none 0 0) := (bkC HG5.out 9).trans rfl; have bx10 : w5.cell? ⟨gb, 10, none⟩ = some (.bool false) := (bkC HG5.out 10).trans rfl
  have H3 := Lib.hid (H2.out w5 HB5.out)
  clear H2
  go_wp2_with (go_at_call 16; refine H3.out.mono ?_; rintro rr w6 ⟨rfl, hB6⟩; have HB6 := Lib.hid (HB4.out.trans ((HB5.out.trans (hB6.mono HB5.out.size)).mono HB4.out.size)); clear hB6)
  go_ret
  exact ⟨rfl, HB6.out⟩
end Go.Proofs.YtoffpegppdmkdaaGreatDoor.E
namespace Go.Proofs.YtoffpegppdmkdaaGreatDoor.E
open Go.RowKit Go.Proofs.YtoffpegppdmkdaaGreatDoorW.PrintWords Go.Proofs.YtoffpegppdmkdaaGreatDoorW.PrintLast Go.Proofs.YtoffpegppdmkdaaGreatDoorW.PrintMore
attribute [local go_sem] max2_int min2_int max_two min_two max_three min_three max_four min_four
set_option linter.unusedVariables false
set_option linter.unusedSimpArgs false
theorem numbers_l0 (l : List Int) (hl : l.length ≤ 9223372036854775807) : ∀ (n i : Nat), i + n = l.length → w14_numbers.l0 (n + 1) l l (i : Int) = some true
  | 0, i, h => by rw [w14_numbers.l0, if_neg (by omega)]
  | n + 1, i, h => by
    rw [w14_numbers.l0, if_pos (by omega), if_pos (by omega), if_pos (by omega), if_pos rfl, wrap64_of (by omega) (by omega)]
    exact numbers_l0 l hl n (i + 1) (by omega)
theorem numbers_f (l : List Int) (hl : l.length ≤ 9223372036854775807) : w14_numbers.f (l.length + 1) l l = some true := by
  unfold w14_numbers.f
  rw [if_pos rfl]
  exact numbers_l0 l hl l.length 0 (by omega)
@[reducible] def ListAt (f : Nat) (b : Bl) (a : BA) (A1 : Option Addr) (n c1 m : Nat) (L : List Int) (W : World) : Prop := ∀ Q : Ending → World → Prop, (∀ e_ w'', (∃ A c, e_ = .returned (.slice A m c) ∧ m ≤ c ∧ (Kd.int .i64).C w'' A m L ∧ Below W.heap.size W w'') → Q e_ w'') → Calls Tryz.prog f #[.agg #[.slice a.A0 b.f0.length a.c0, .int .i64 b.f1, .slice a.A2 b.f2.length a.c2, .slice a.A3 b.f3.length a.c3, .slice a.A4 b.f4.length a.c4, .slice a.A5 b.f5.length a.c5, .slice a.A6 b.f6.length a.c6, .bool b.f7, .slice a.A8 b.f8.length a.c8, .slice a.A9 b.f9.length a.c9, .bool b.f10], .slice A1 n c1] W Q
set_option maxHeartbeats 8000000 in
set_option maxRecDepth 100000 in
theorem parts_ok (e : Ex) (A8 : Option Addr) (c8 : Nat) (b : Bl) (a : BA) (st : List Sta) (A1 : Option Addr) (c1 : Nat) (w : World) (hT : TabW w) (hRg : rngF e = true) (hC : Kd.C KX w A8 e.f6.length e.f6) (hc8 : e.f6.length ≤ c8) (hb : BR b a w) (hS : Kd.C k51 w A1 st.length st) (hc1 : st.length ≤ c1) :
    Calls Tryz.prog 3 #[.agg (exC e A8 c8), .agg (blC b a), .slice A1 st.length c1] w fun r w' => r = .returned (.bool true) ∧ Below w.heap.size w w' := by
  have HP1 := Lib.hid (fun (W : World) (hW : Below w.heap.size w W) => part_ok e A8 c8 b a st A1 c1 W (tab_at hT hW) hRg (Kd.C_below hC hW) hc8 (hb.later hW) (Kd.C_below hS hW) hc1)
  have HP2 := Lib.hid (fun (W : World) (hW : Below w.heap.size w W) => rpart14_ok e A8 c8 b a st A1 c1 W hRg (Kd.C_below hC hW) hc8 (hb.later hW) (Kd.C_below hS hW) hc1)
  obtain ⟨n, hn⟩ : ∃ n, st.length = n := ⟨_, rfl⟩
  obtain ⟨m, hm⟩ : ∃ m, (baseF b st).length = m := ⟨_, rfl⟩
  have HL1 : Hid (∀ (W : World), Below w.heap.size w W → ListAt 14 b a A1 n c1 m (baseF b st) W) := Lib.hid (fun W hW Q hQ => (by
    have h := base_okL b a st A1 c1 W (hb.later hW) (Kd.C_below hS hW) hc1
    rw [hn] at h
    exact h.mono (fun e_ w'' => by
      rintro ⟨A, c, rfl, hc, hC, hB⟩
      rw [hm] at hc hC ⊢
      exact hQ _ _ ⟨A, c, rfl, hc, hC, hB⟩)))
  have HL2 : Hid (∀ (W : World), Below w.heap.size w W → ListAt 15 b a A1 n c1 m (baseF b st) W) := Lib.hid (fun W hW Q hQ => (by
    have h := rbase_ok (fun k => k < w.heap.size) b a st A1 c1 W (hb.later hW) ((SV.of hS hc1).later hW)
    rw [hn] at h
    exact h.mono (fun e_ w'' => by
      rintro ⟨v, rfl, hR, hB⟩
      obtain ⟨A, c, rfl, hc, hC⟩ := Kd.R_reads hR
      rw [hm] at hc hC ⊢
      exact hQ _ _ ⟨A, c, rfl, hc, hC, hB⟩)))
  have HNU : Hid (∀ (W : World) (A B : Option Addr) (c d : Nat), (Kd.int .i64).C W A m (baseF b st) → (Kd.int .i64).C W B m (baseF b st) → m ≤ c → m ≤ d → Calls Tryz.prog 13 #[.slice A m c, .slice B m d] W fun e_ w'' => e_ = .returned (.bool true) ∧ Below W.heap.size W w'') := Lib.hid (fun W A B c d h1 h2 h3 h4 => (by
    subst hm
    exact (w14_numbers.calls _ A c (baseF b st) B d (baseF b st) true W h1 h3 h2 h4 (numbers_f _ (by have := h1.2.1; omega))).mono (fun e_ w'' h => ⟨h.1, h.2.below⟩)))
  have HT := Lib.hid hT
  generalize baseF b st = L at HL1 HL2 HNU
  generalize partF b st e = pp at HP1 HP2
  obtain ⟨p1, hp1⟩ : ∃ p1, pp.1 = p1 := ⟨_, rfl⟩
  obtain ⟨p2, hp2⟩ : ∃ p2, pp.2 = p2 := ⟨_, rfl⟩
  rw [hp1, hp2] at HP1 HP2
  rw [hn] at HP1 HP2 ⊢
  unfold exC blC at HP1 HP2
  unfold exC blC
  clear hT hRg hC hc8 hb hS hc1 hn hm hp1 hp2
  go_enter Tryz.func3, Tryz.ntmps3
  go_upto_region 1 with (first | ((with_reducible refine gate_dst (N := 3) rfl ?_); refine box_event rfl (N := 3) rfl (cs := exC e A8 c8) (t := 26) (by first | rfl | (go_simp; done) | (go_simp; rfl)) ?_; intro g3 hgg w1 hbg3 hBg3;  have HG := Lib.hid hbg3; have HB1 := Lib.hid hBg3; clear hgg hbg3 hBg3) | ((with_reducible refine gate_dst (N := 4) rfl ?_); refine box_event rfl (N := 4) rfl (cs := blC b a) (t := 30) (by first | rfl | (go_simp; done) | (go_simp; rfl)) ?_; intro g4 hgg w2 hbg4 hBg4;  have HG4 := Lib.hid hbg4; have HB2 := Lib.hid hBg4; clear hgg hbg4 hBg4))
  have HB : Hid (Below w.heap.size w w2) := Lib.hid (HB1.out.trans (HB2.out.mono HB1.out.size))
  replace HG := Lib.hid ((HB2.out.block g3 (blk_lt HG.out)).trans HG.out)
  clear HB1 HB2
  go_upto_region 2 with (go_at_call 10; refine (examples_ok w2 (tab_at HT.out HB.out)).mono ?_; rintro rr w3 ⟨rfl, hB3⟩; have HB3 := Lib.hid hB3; clear hB3)
  replace HG := Lib.hid ((HB3.out.block g3 (blk_lt HG.out)).trans HG.out)
  replace HG4 := Lib.hid ((HB3.out.block g4 (blk_lt HG4.out)).trans HG4.out)
  replace HB : Hid (Below w.heap.size w w3) := Lib.hid (HB.out.trans (HB3.out.mono HB.out.size))
  clear HB3
  obtain ⟨e_0, e_1, e_2, e_3, e_4, e_5, e_6, e_7, e_8⟩ := cX HG.out
  obtain ⟨bx0, bx1, bx2, bx3, bx4, bx5, bx6, bx7, bx8, bx9, bx10⟩ := cB HG4.out
  go_upto_region 4 with (first | (go_at_call 11; refine (HP1.out _ HB.out).mono ?_; rintro rr w4 ⟨rfl, hB4⟩; have f_0 := pw_cell_below hB4 e_0; have f_1 := pw_cell_below hB4 e_1; have f_2 := pw_cell_below hB4 e_2; have f_3 := pw_cell_below hB4 e_3; have f_4 := pw_cell_below hB4 e_4; have f_5 := pw_cell_below hB4 e_5; have f_6 := pw_cell_below hB4 e_6; have f_7 := pw_cell_below hB4 e_7; have f_8 := pw_cell_below hB4 e_8; have by0 := pw_cell_below hB4 bx0; have by1 := pw_cell_below hB4 bx1; have by2 := pw_cell_below hB4 bx2; have by3 := pw_cell_below hB4 bx3; have by4 := pw_cell_below hB4 bx4; have by5 := pw_cell_below hB4 bx5; have by6 := pw_cell_below hB4 bx6; have by7 := pw_cell_below hB4 bx7; have by8 := pw_cell_below hB4 bx8; have by9 := pw_cell_below hB4 bx9; have by10 := pw_cell_below hB4 bx10; replace HG4 := Lib.hid ((hB4.block g4 (blk_lt HG4.out)).trans HG4.out); replace HB : Hid (Below w.heap.size w w4) := Lib.hid (HB.out.trans (hB4.mono HB.out.size)); clear hB4) | (go_at_call 12; refine (HP2.out _ HB.out).mono ?_; rintro rr w5 ⟨rfl, hB5⟩; replace HG4 := Lib.hid ((hB5.block g4 (blk_lt HG4.out)).trans HG4.out); replace HB : Hid (Below w.heap.size w w5) := Lib.hid (HB.out.trans (hB5.mono HB.out.size)); clear hB5))
  clear HP1 HP2 HG HT e_0 e_1 e_2 e_3 e_4 e_5 e_6 e_7 e_8 f_0 f_1 f_2 f_3 f_4 f_5 f_6 f_7 f_8 bx0 bx1 bx2 bx3 bx4 bx5 bx6 bx7 bx8 bx9 bx10 by0 by1 by2 by3 by4 by5 by6 by7 by8 by9 by10
  have HCR := Lib.hid (HL1.out w5.drew (below_drew HB.out))
  have bx : CBw w5.drew g4 b a := cB HG4.out
  go_region_held3 (fun w' => CBw w' g4 b a) (assumption) (first | (go_at_call 14; with_reducible refine HCR.out _ ?_; rintro rr w6 ⟨A, c, rfl, hc, hC, hB6⟩; have by_ := bx.mv hB6; have HB6 : Hid (Below w.heap.size w w6) := Lib.hid (HB.out.trans ((below_undrew' hB6).mono HB.out.size)); have HC := Lib.hid (And.intro hc hC); have HX := HL2.out w6 HB6.out; clear hB6 hc hC) | (go_at_call 15; with_reducible refine HX _ ?_; rintro rr w7 ⟨B, d, rfl, hd, hD, hB7⟩; have bz := by_.mv hB7; have HY := HNU.out w7 A B c d (Kd.C_below HC.out.2 hB7) hD HC.out.1 hd; have HB7 : Hid (Below w.heap.size w w7) := Lib.hid (HB6.out.trans (hB7.mono HB6.out.size)); clear hB7 hd hD) | (go_at_call 13; with_reducible refine Calls.mono HY ?_; rintro rr w8 ⟨rfl, hB8⟩; have bw := bz.mv hB8; have HB8 : Hid (Below w.heap.size w w8) := Lib.hid (HB7.out.trans (hB8.mono HB7.out.size)); clear hB8))
  clear HL1 HL2 HNU HG4 HCR HC bx by_ bz bw
  go_wp2_with fail
  go_ret
  exact ⟨rfl, HB8.out⟩
end Go.Proofs.YtoffpegppdmkdaaGreatDoor.E
