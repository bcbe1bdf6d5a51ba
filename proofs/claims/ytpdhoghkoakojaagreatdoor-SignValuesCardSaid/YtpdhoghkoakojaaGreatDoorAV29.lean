/- Contracts and plain lemmas of the functions that the law reaches, part 29. -/
import Derived.Test.YtpdhoghkoakojaaGreatDoorAV28
namespace Go.Proofs.YtpdhoghkoakojaaGreatDoor.E
open Go.RowKit Go.Proofs.YtpdhoghkoakojaaGreatDoorW.PrintWords Go.Proofs.YtpdhoghkoakojaaGreatDoorW.PrintLast Go.Proofs.YtpdhoghkoakojaaGreatDoorW.PrintMore
set_option linter.unusedVariables false
set_option linter.unusedSimpArgs false
def ex2 (a b : Ex) (Aa Ab : Option Addr) (ca cb : Nat) : Array Value := #[.int .i64 a.f0, .int .i64 a.f1.f0, .int .i64 a.f1.f1, .string a.f1.f2, .int .i64 a.f2, .int .i64 a.f3, .int .i64 a.f4, .string a.f5, .slice Aa a.f6.length ca, .int .i64 b.f0, .int .i64 b.f1.f0, .int .i64 b.f1.f1, .string b.f1.f2, .int .i64 b.f2, .int .i64 b.f3, .int .i64 b.f4, .string b.f5, .slice Ab b.f6.length cb]
theorem ex2_C {w : World} {g : Nat} {a b : Ex} {Aa Ab : Option Addr} {ca cb : Nat} (h : w.heap[g]? = some (.cells (ex2 a b Aa Ab ca cb) 26 (0, 0))) (ha : a.f6.length ≤ ca) (hb : b.f6.length ≤ cb) (hA : Kd.C k26 w Aa a.f6.length a.f6) (hB : Kd.C k26 w Ab b.f6.length b.f6) :
    Kd.C k26 w (some ⟨g, 0, none⟩) 2 [a, b] := by
  refine ⟨rfl, by omega, fun _ => ⟨_, rfl, ?_⟩⟩
  intro j p hp
  match j, hp with
  | 0, hp =>
    obtain rfl := Option.some.inj hp
    refine ⟨_, rfl, k26_mk w a ha hA, ?_⟩
    intro i u hu
    have hi : i < 9 := by
      have := (List.getElem?_eq_some_iff.1 hu).1; simpa using this
    obtain rfl | rfl | rfl | rfl | rfl | rfl | rfl | rfl | rfl : i = 0 ∨ i = 1 ∨ i = 2 ∨ i = 3 ∨ i = 4 ∨ i = 5 ∨ i = 6 ∨ i = 7 ∨ i = 8 := by omega
    · have hu' := Option.some.inj hu; subst hu'; rw [add_plain]; exact (bkC h 0).trans rfl
    · have hu' := Option.some.inj hu; subst hu'; rw [add_plain]; exact (bkC h 1).trans rfl
    · have hu' := Option.some.inj hu; subst hu'; rw [add_plain]; exact (bkC h 2).trans rfl
    · have hu' := Option.some.inj hu; subst hu'; rw [add_plain]; exact (bkC h 3).trans rfl
    · have hu' := Option.some.inj hu; subst hu'; rw [add_plain]; exact (bkC h 4).trans rfl
    · have hu' := Option.some.inj hu; subst hu'; rw [add_plain]; exact (bkC h 5).trans rfl
    · have hu' := Option.some.inj hu; subst hu'; rw [add_plain]; exact (bkC h 6).trans rfl
    · have hu' := Option.some.inj hu; subst hu'; rw [add_plain]; exact (bkC h 7).trans rfl
    · have hu' := Option.some.inj hu; subst hu'; rw [add_plain]; exact (bkC h 8).trans rfl
  | 1, hp =>
    obtain rfl := Option.some.inj hp
    refine ⟨_, rfl, k26_mk w b hb hB, ?_⟩
    intro i u hu
    have hi : i < 9 := by
      have := (List.getElem?_eq_some_iff.1 hu).1; simpa using this
    obtain rfl | rfl | rfl | rfl | rfl | rfl | rfl | rfl | rfl : i = 0 ∨ i = 1 ∨ i = 2 ∨ i = 3 ∨ i = 4 ∨ i = 5 ∨ i = 6 ∨ i = 7 ∨ i = 8 := by omega
    · have hu' := Option.some.inj hu; subst hu'; rw [add_plain]; exact (bkC h 9).trans rfl
    · have hu' := Option.some.inj hu; subst hu'; rw [add_plain]; exact (bkC h 10).trans rfl
    · have hu' := Option.some.inj hu; subst hu'; rw [add_plain]; exact (bkC h 11).trans rfl
    · have hu' := Option.some.inj hu; subst hu'; rw [add_plain]; exact (bkC h 12).trans rfl
    · have hu' := Option.some.inj hu; subst hu'; rw [add_plain]; exact (bkC h 13).trans rfl
    · have hu' := Option.some.inj hu; subst hu'; rw [add_plain]; exact (bkC h 14).trans rfl
    · have hu' := Option.some.inj hu; subst hu'; rw [add_plain]; exact (bkC h 15).trans rfl
    · have hu' := Option.some.inj hu; subst hu'; rw [add_plain]; exact (bkC h 16).trans rfl
    · have hu' := Option.some.inj hu; subst hu'; rw [add_plain]; exact (bkC h 17).trans rfl
def refE (a b : Int) : Ex := ⟨2, zeroV, a, b, 0, ⟨#[]⟩, []⟩
def numE (n : Int) : Ex := ⟨1, ⟨1, n, ⟨#[]⟩⟩, 0, 0, 0, ⟨#[]⟩, []⟩
def twoE (op : Int) (a b : Ex) : Ex := ⟨op, zeroV, 0, 0, 0, ⟨#[]⟩, [a, b]⟩
theorem itoa_one (n : Nat) (h : n < 10) : Lib.itoa n = [UInt8.ofNat (48 + n)] := by
  unfold Lib.itoa
  rw [if_neg (by omega), Int.toNat_natCast]
  exact Lib.decDigits_one (i := n) (by omega)
theorem norm_leaf {e : Ex} (h : turnV e.f0 = 0) (h6 : e.f6 = []) : normF e = e := by
  rw [normF_eq, h6]
  unfold turnF
  rw [if_pos h]
  cases e
  simp at h6
  subst h6
  rfl
theorem ex1 : normalRes (twoE 13 (refE 1 0) (numE 5)) = (twoE 11 (numE 5) (refE 1 0), 0) := by kernel_rfl
theorem less01 : lessT (refE 0 0) (refE 1 0) = true := by
  unfold lessT
  rw [tl_right (by kernel_rfl), tl_right (by kernel_rfl), textF_eq, textF_eq]
  have h0 : Lib.itoa 0 = [48] := itoa_one 0 (by decide)
  have h1 : Lib.itoa 1 = [49] := itoa_one 1 (by decide)
  show decide ((82 :: (Lib.itoa 0 ++ 46 :: Lib.itoa 0)) < (82 :: (Lib.itoa 1 ++ 46 :: Lib.itoa 0))) = true
  rw [h0, h1]
  decide
theorem ex2r : normalRes (twoE 9 (refE 1 0) (refE 0 0)) = (twoE 9 (refE 0 0) (refE 1 0), 0) := by
  have hr : rightB (twoE 9 (refE 1 0) (refE 0 0)) = true := by kernel_rfl
  unfold normalRes
  rw [if_pos hr, normF_eq]
  have h1 : normF (refE 1 0) = refE 1 0 := norm_leaf rfl rfl
  have h2 : normF (refE 0 0) = refE 0 0 := norm_leaf rfl rfl
  have e : (twoE 9 (refE 1 0) (refE 0 0)).f6.map normF = [refE 1 0, refE 0 0] := by show [normF (refE 1 0), normF (refE 0 0)] = _; rw [h1, h2]
  rw [e]
  have ht : turnF 9 [refE 1 0, refE 0 0] = (9, [refE 0 0, refE 1 0]) := by
    unfold turnF
    rw [if_neg (by decide), if_pos (by decide), if_pos (show lessT ([refE 1 0, refE 0 0].getD 1 z26) ([refE 1 0, refE 0 0].getD 0 z26) = true from less01)]; rfl
  show ((⟨(turnF 9 _).1, _, _, _, _, _, (turnF 9 _).2⟩ : Ex), (0 : Int)) = _
  rw [ht]; rfl
theorem ex3 : ofRes [3] 1 1 [] = (⟨#[83, 51, 32]⟩, 0) := by
  have h3 : Lib.itoa 3 = [51] := itoa_one 3 (by decide)
  unfold ofRes
  rw [if_neg (by decide)]
  have e : ofT [3] 1 (1 : Int).toNat [] = [83, 51, 32] := by
    show headL [3] 1 1 ++ [] = _
    rw [headL, headL]
    have hb : bitB 1 0 = true := by kernel_rfl
    rw [hb, if_pos rfl]
    show [83] ++ (Lib.itoa 3 ++ [32]) ++ [] = _
    rw [h3]; rfl
  rw [e]
theorem ints_C {w : World} {g : Nat} {fz : Nat × Nat} (xs : List Int) (h : w.heap[g]? = some (.cells (xs.map (Value.int .i64)).toArray 3 fz)) (hl : xs.length ≤ 4611686018427387904) : (Kd.int .i64).C w (some ⟨g, 0, none⟩) xs.length xs := by
  refine ⟨rfl, by omega, fun _ => ⟨_, rfl, ?_⟩⟩
  intro j p hp
  refine ⟨[.int .i64 p], rfl, rfl, fun i u hu => ?_⟩
  have hi : i = 0 := by
    have := (List.getElem?_eq_some_iff.1 hu).1
    simpa using this
  subst hi
  have hu' := Option.some.inj hu
  subst hu'
  rw [add_plain]
  show w.cell? ⟨g, j * 1 + 0, none⟩ = _
  simp only [Nat.mul_one, Nat.add_zero]
  simp [World.cell?, h, hp]
theorem ad_block (a : Addr) (k : Nat) : (a.add k).block = a.block := by unfold Addr.add; split <;> rfl
theorem ad_off (a : Addr) (k : Nat) : (a.add k).off = a.off + k := by unfold Addr.add; split <;> simp_all
theorem rng3 : ∀ i : Nat, i < ([3] : List Int).length → -9223372036854775808 ≤ rd [3] i ∧ rd [3] i ≤ 9223372036854775807 := by
  intro i hi
  have e : i = 0 := by simpa using hi
  subst e
  decide
theorem norm_two {op p : Int} {x y a b : Ex} (hn : normalRes (twoE op x y) = (twoE p a b, 0)) (hg : rngF (twoE op x y) = true) (A : Option Addr) (W : World) (hT : TabW W) (hC : Kd.C KX W A 2 [x, y]) :
    Calls Tryz.prog 5 #[.agg #[.int .i64 op, .int .i64 0, .int .i64 0, .string ⟨#[]⟩, .int .i64 0, .int .i64 0, .int .i64 0, .string ⟨#[]⟩, .slice A 2 2]] W fun r w' => ∃ ad k, r = .returned (.tuple #[.agg (exC (twoE p a b) (some ad) k), .int .i64 0]) ∧ 2 ≤ k ∧ Kd.F KX w' (fun q => W.heap.size ≤ q) (some ad) 2 [a, b] ∧ Below W.heap.size W w' := by
  have h := Normal_ok (twoE op x y) A 2 W hT hg hC (Nat.le_refl 2)
  refine Calls.mono h ?_
  rintro r w' ⟨D, k, h1, h2, h3, h4⟩
  rw [hn] at h1 h2 h3
  obtain ⟨ad, had, _⟩ := (Kd.F_now h3).2.2 (show 0 < 2 by omega)
  subst had
  exact ⟨ad, k, h1, h2, h3, h4⟩
set_option maxHeartbeats 4000000 in
set_option maxRecDepth 100000 in
theorem examples_ok (w : World) (hT : TabW w) : Calls Tryz.prog 4 #[] w fun r w' => r = .returned (.bool true) ∧ Below w.heap.size w w' := by
  have HT := Lib.hid hT; clear hT
  have HN1 := Lib.hid (norm_two ex1 (by kernel_rfl))
  have HN2 := Lib.hid (norm_two ex2r (by kernel_rfl))
  go_enter Tryz.func4, Tryz.ntmps4
  go_upto_region 2 with (first | ((with_reducible refine gate_dst (N := 1) rfl ?_); refine box_event rfl (N := 1) rfl (cs := zerosE) (t := 26) (by first | rfl | (go_simp; done) | (go_simp; rfl)) ?_; intro g1 hgg w1 hbg1 hBg1;  have hg1w : w.heap.size ≤ g1 := (by omega); clear hgg) | ((with_reducible refine gate_store (p := 1) (v := .tmp 9) rfl ?_); refine wpList_store_row rfl 26 (.tmp 1) (.tmp 9) rfl g1 (exC (numE 5) none 0) rfl rfl 26 zerosE hbg1 (info_ex _ _ _) rfl (one_ex _ _ _) ?_))
  have hx2 := setRow_at w1 g1 _ zerosE (exC (numE 5) none 0) hbg1
  have hB2 : Below w.heap.size w (w1.setRow g1 (exC (numE 5) none 0)) := below_setRow' hBg1 hg1w _
  clear hbg1 hBg1
  generalize w1.setRow g1 (exC (numE 5) none 0) = w2 at hx2 hB2 ⊢
  obtain ⟨hz0, hz1, hz2, hz3, hz4, hz5, hz6, hz7, hz8⟩ := bkC9 hx2
  have HB2 := Lib.hid hB2; have HX2 := Lib.hid hx2; clear hB2 hx2
  go_upto_region 3 with (first | ((with_reducible refine gate_dst (N := 2) rfl ?_); refine box_event rfl (N := 2) rfl (cs := zerosE) (t := 26) (by first | rfl | (go_simp; done) | (go_simp; rfl)) ?_; intro g2 hgg w4 hbg2 hBg2;  clear hgg))
  have hl3 : (w2.alloc (.cells (ex2 (refE 1 0) (numE 5) none none 0 0) 26 (0, 0))).heap[w2.heap.size]? = some (.cells (ex2 (refE 1 0) (numE 5) none none 0 0) 26 (0, 0)) := heap_alloc_new w2 _
  have HB3 : Hid (Below w.heap.size w (w2.alloc (.cells (ex2 (refE 1 0) (numE 5) none none 0 0) 26 (0, 0)))) := Lib.hid (blA HB2.out _)
  refine (HN1.out _ _ (tab_at HT.out HB3.out) (ex2_C hl3 (Nat.le_refl 0) (Nat.le_refl 0) (Kd.C_nil _ _) (Kd.C_nil _ _))).mono ?_
  rintro rr w5 ⟨ad, k1, rfl, hk1, hF1, hB5⟩
  have HB5 : Hid (Below w.heap.size w w5) := Lib.hid (HB3.out.trans (hB5.mono HB3.out.size))
  have HC1 := Lib.hid (Kd.F_now hF1)
  clear hl3 HB3 hF1 hB5 HB2 hz0 hz1 hz2 hz3 hz4 hz5 hz6 hz7 hz8 HX2 HN1
  unfold exC
  go_upto_region 3 with (first | ((with_reducible refine gate_dst (N := 2) rfl ?_); refine box_event rfl (N := 2) rfl (cs := zerosE) (t := 26) (by first | rfl | (go_simp; done) | (go_simp; rfl)) ?_; intro g2 hgg w6 hbg2 hBg2;  have hg2w : w.heap.size ≤ g2 := (by have := HB5.out.size; omega); have hgg2 : w5.heap.size ≤ g2 := (by omega); clear hgg) | ((with_reducible refine gate_store (p := 2) (v := .tmp 16) rfl ?_); refine wpList_store_row rfl 26 (.tmp 2) (.tmp 16) rfl g2 (exC (twoE 11 (numE 5) (refE 1 0)) (some ad) k1) rfl rfl 26 zerosE hbg2 (info_ex _ _ _) rfl (one_ex _ _ _) ?_))
  have hx7 := setRow_at w6 g2 _ zerosE (exC (twoE 11 (numE 5) (refE 1 0)) (some ad) k1) hbg2
  have hB7 : Below w5.heap.size w5 (w6.setRow g2 (exC (twoE 11 (numE 5) (refE 1 0)) (some ad) k1)) := below_setRow' hBg2 hgg2 _
  clear hbg2 hBg2 hgg2
  generalize w6.setRow g2 (exC (twoE 11 (numE 5) (refE 1 0)) (some ad) k1) = w7 at hx7 hB7 ⊢
  replace HC1 := Lib.hid (Kd.C_below HC1.out hB7)
  have HB7 := Lib.hid (HB5.out.trans (hB7.mono HB5.out.size))
  have HX7 := Lib.hid hx7
  clear hx7 hB7 HB5
  go_wp2_with fail
  have hl8 : (w7.alloc (.cells (ex2 (refE 1 0) (refE 0 0) none none 0 0) 26 (0, 0))).heap[w7.heap.size]? = some (.cells (ex2 (refE 1 0) (refE 0 0) none none 0 0) 26 (0, 0)) := heap_alloc_new w7 _
  have hB8 : Below w7.heap.size w7 (w7.alloc (.cells (ex2 (refE 1 0) (refE 0 0) none none 0 0) 26 (0, 0))) := blA (Below.refl _ _) _
  have HB8 := Lib.hid (HB7.out.trans (hB8.mono HB7.out.size))
  refine (HN2.out _ _ (tab_at HT.out HB8.out) (ex2_C hl8 (Nat.le_refl 0) (Nat.le_refl 0) (Kd.C_nil _ _) (Kd.C_nil _ _))).mono ?_
  rintro rr w9 ⟨ae, k2, rfl, hk2, hF2, hB9⟩
  have HB9 : Hid (Below w.heap.size w w9) := Lib.hid (HB8.out.trans (hB9.mono HB8.out.size))
  have hB79 : Below w7.heap.size w7 w9 := hB8.trans (hB9.mono hB8.size)
  replace HC1 := Lib.hid (Kd.C_below HC1.out hB79)
  have HX9 := Lib.hid ((hB79.block g2 (blk_lt HX7.out)).trans HX7.out)
  have HC2 := Lib.hid (Kd.F_now hF2)
  clear hl8 hB8 HB8 hF2 hB9 hB79 HX7 HB7 HN2
  unfold exC
  go_upto_region 4 with (first | ((with_reducible refine gate_dst (N := 4) rfl ?_); refine box_event rfl (N := 4) rfl (cs := zerosE) (t := 26) (by first | rfl | (go_simp; done) | (go_simp; rfl)) ?_; intro g4 hgg w10 hbg4 hBg4;  have hg4w : w.heap.size ≤ g4 := (by have := HB9.out.size; omega); have hg4n : w9.heap.size ≤ g4 := (by omega); clear hgg) | ((with_reducible refine gate_store (p := 4) (v := .tmp 24) rfl ?_); refine wpList_store_row rfl 26 (.tmp 4) (.tmp 24) rfl g4 (exC (twoE 9 (refE 0 0) (refE 1 0)) (some ae) k2) rfl rfl 26 zerosE hbg4 (info_ex _ _ _) rfl (one_ex _ _ _) ?_))
  have hx11 := setRow_at w10 g4 _ zerosE (exC (twoE 9 (refE 0 0) (refE 1 0)) (some ae) k2) hbg4
  have hB11 : Below w9.heap.size w9 (w10.setRow g4 (exC (twoE 9 (refE 0 0) (refE 1 0)) (some ae) k2)) := below_setRow' hBg4 hg4n _
  clear hbg4 hBg4 hg4n
  generalize w10.setRow g4 (exC (twoE 9 (refE 0 0) (refE 1 0)) (some ae) k2) = w11 at hx11 hB11 ⊢
  have HB11 := Lib.hid (HB9.out.trans (hB11.mono HB9.out.size))
  have hC1 := Kd.C_below HC1.out hB11
  have hC2 := Kd.C_below HC2.out hB11
  have HX11 := Lib.hid hx11
  have HX2 := Lib.hid ((hB11.block g2 (blk_lt HX9.out)).trans HX9.out)
  clear hB11 HB9 HX9 HC1 HC2 hx11
  have hq8 : w11.cell? ⟨g2, 8, none⟩ = some (.slice (some ad) 2 k1) := (bkC HX2.out 8).trans rfl
  have hr8 : w11.cell? ⟨g4, 8, none⟩ = some (.slice (some ae) 2 k2) := (bkC HX11.out 8).trans rfl
  go_upto_region 6 with fail
  go_wp2_with fail
  have hl12 : (w11.alloc (.cells #[.int .i64 3] 3 (0, 0))).heap[w11.heap.size]? = some (.cells (([3] : List Int).map (Value.int .i64)).toArray 3 (0, 0)) := heap_alloc_new w11 _
  have hB12 : Below w11.heap.size w11 (w11.alloc (.cells #[.int .i64 3] 3 (0, 0))) := blA (Below.refl _ _) _
  have HB12 := Lib.hid (HB11.out.trans (hB12.mono HB11.out.size))
  have HOF := Lib.hid (Of_ok [3] [] 1 1 [] [] [] [] [] [] (some ⟨w11.heap.size, 0, none⟩) none none none none none none none 1 0 0 0 0 0 0 0 false false _ (by decide) (tab_at HT.out HB12.out) (fun x hx => by cases hx) (Kd.C_nil _ _) (by decide) (by decide) rng3 (ints_C [3] hl12 (by decide)))
  rw [ex3] at HOF
  have hC1b := Lib.hid (Kd.C_below hC1 hB12); have hC2b := Lib.hid (Kd.C_below hC2 hB12)
  clear hC1 hC2 hl12
  refine HOF.out.mono ?_
  rintro rr w13 ⟨rfl, hB13⟩
  have hX2 := (hB13.block g2 (by have := blk_lt HX2.out; have := hB12.size; omega)).trans ((hB12.block g2 (blk_lt HX2.out)).trans HX2.out)
  have hX4 := (hB13.block g4 (by have := blk_lt HX11.out; have := hB12.size; omega)).trans ((hB12.block g4 (blk_lt HX11.out)).trans HX11.out)
  have HBE := Lib.hid (HB12.out.trans (hB13.mono HB12.out.size))
  obtain ⟨_, _, _, x1, e1, hx1, _, _, _, _, f4, _, _, _, _, _, _⟩ := at_ex (Kd.C_below hC1b.out hB13) rfl 1 (by decide)
  obtain ⟨_, _, _, x2, e2, hx2, _, _, _, _, d4, _, _, _, _, _, _⟩ := at_ex (Kd.C_below hC2b.out hB13) rfl 0 (by decide)
  cases e1; cases e2
  obtain rfl := Option.some.inj hx1
  obtain rfl := Option.some.inj hx2
  have hq0 : w13.cell? ⟨g2, 0, none⟩ = some (.int .i64 11) := (bkC hX2 0).trans rfl
  have hq8' : w13.cell? ⟨g2, 8, none⟩ = some (.slice (some ad) 2 k1) := (bkC hX2 8).trans rfl
  have hr8' : w13.cell? ⟨g4, 8, none⟩ = some (.slice (some ae) 2 k2) := (bkC hX4 8).trans rfl
  have f4' : w13.cell? ⟨ad.block, ad.off + 9 + 4, none⟩ = some (.int .i64 1) := by rw [ad_block, ad_off] at f4; exact f4
  have d4' : w13.cell? ⟨ae.block, ae.off + 4, none⟩ = some (.int .i64 0) := by rw [ad_block, ad_off, Nat.add_zero] at d4; exact d4
  clear f4 d4
  clear hX2 hX4 hB12 hB13 hx1 hx2
  go_wp2_with fail
  go_ret
  exact ⟨rfl, HBE.out⟩
end Go.Proofs.YtpdhoghkoakojaaGreatDoor.E
