/- Contracts and plain lemmas of the functions that the law reaches, part 23. -/
import Derived.Test.YtpdhoghkoakojaaDoorAG14
import Derived.Test.YtpdhoghkoakojaaDoorAG22
namespace Go.Proofs.YtpdhoghkoakojaaDoor.E
open Go.RowKit Go.Proofs.YtpdhoghkoakojaaDoorW.PrintWords Go.Proofs.YtpdhoghkoakojaaDoorW.PrintLast Go.Proofs.YtpdhoghkoakojaaDoorW.PrintMore
set_option linter.unusedVariables false
set_option linter.unusedSimpArgs false
def ex2 (a b : Ex) (Aa Ab : Option Addr) (ca cb : Nat) : Array Value := #[.int .i64 a.f0, .int .i64 a.f1.f0, .int .i64 a.f1.f1, .string a.f1.f2, .int .i64 a.f2, .int .i64 a.f3, .int .i64 a.f4, .string a.f5, .slice Aa a.f6.length ca, .int .i64 b.f0, .int .i64 b.f1.f0, .int .i64 b.f1.f1, .string b.f1.f2, .int .i64 b.f2, .int .i64 b.f3, .int .i64 b.f4, .string b.f5, .slice Ab b.f6.length cb]
theorem ex2_C {w : World} {g : Nat} {a b : Ex} {Aa Ab : Option Addr} {ca cb : Nat} (h : w.heap[g]? = some (.cells (ex2 a b Aa Ab ca cb) 26 (0, 0))) (ha : a.f6.length ≤ ca) (hb : b.f6.length ≤ cb) (hA : Kd.C k26 w Aa a.f6.length a.f6) (hB : Kd.C k26 w Ab b.f6.length b.f6) :
    Kd.C k26 w (some ⟨g, 0, none⟩) 2 [a, b] := by
  refine ⟨rfl, by omega, fun _ => ⟨_, rfl, ?_⟩⟩
  intro j p hp
  match j, hp with
  | 0, hp =>
    obtain rfl := Option.some.inj hp
    refine ⟨_, rfl, k26_mk w a ha hA, ?_⟩
    intro i u hu
    have hi : i < 9 := by
      have := (List.getElem?_eq_some_iff.1 hu).1; simpa using this
    obtain rfl | rfl | rfl | rfl | rfl | rfl | rfl | rfl | rfl : i = 0 ∨ i = 1 ∨ i = 2 ∨ i = 3 ∨ i = 4 ∨ i = 5 ∨ i = 6 ∨ i = 7 ∨ i = 8 := by omega
    · have hu' := Option.some.inj hu; subst hu'; rw [add_plain]; exact (bkC h 0).trans rfl
    · have hu' := Option.some.inj hu; subst hu'; rw [add_plain]; exact (bkC h 1).trans rfl
    · have hu' := Option.some.inj hu; subst hu'; rw [add_plain]; exact (bkC h 2).trans rfl
    · have hu' := Option.some.inj hu; subst hu'; rw [add_plain]; exact (bkC h 3).trans rfl
    · have hu' := Option.some.inj hu; subst hu'; rw [add_plain]; exact (bkC h 4).trans rfl
    · have hu' := Option.some.inj hu; subst hu'; rw [add_plain]; exact (bkC h 5).trans rfl
    · have hu' := Option.some.inj hu; subst hu'; rw [add_plain]; exact (bkC h 6).trans rfl
    · have hu' := Option.some.inj hu; subst hu'; rw [add_plain]; exact (bkC h 7).trans rfl
    · have hu' := Option.some.inj hu; subst hu'; rw [add_plain]; exact (bkC h 8).trans rfl
  | 1, hp =>
    obtain rfl := Option.some.inj hp
    refine ⟨_, rfl, k26_mk w b hb hB, ?_⟩
    intro i u hu
    have hi : i < 9 := by
      have := (List.getElem?_eq_some_iff.1 hu).1; simpa using this
    obtain rfl | rfl | rfl | rfl | rfl | rfl | rfl | rfl | rfl : i = 0 ∨ i = 1 ∨ i = 2 ∨ i = 3 ∨ i = 4 ∨ i = 5 ∨ i = 6 ∨ i = 7 ∨ i = 8 := by omega
    · have hu' := Option.some.inj hu; subst hu'; rw [add_plain]; exact (bkC h 9).trans rfl
    · have hu' := Option.some.inj hu; subst hu'; rw [add_plain]; exact (bkC h 10).trans rfl
    · have hu' := Option.some.inj hu; subst hu'; rw [add_plain]; exact (bkC h 11).trans rfl
    · have hu' := Option.some.inj hu; subst hu'; rw [add_plain]; exact (bkC h 12).trans rfl
    · have hu' := Option.some.inj hu; subst hu'; rw [add_plain]; exact (bkC h 13).trans rfl
    · have hu' := Option.some.inj hu; subst hu'; rw [add_plain]; exact (bkC h 14).trans rfl
    · have hu' := Option.some.inj hu; subst hu'; rw [add_plain]; exact (bkC h 15).trans rfl
    · have hu' := Option.some.inj hu; subst hu'; rw [add_plain]; exact (bkC h 16).trans rfl
    · have hu' := Option.some.inj hu; subst hu'; rw [add_plain]; exact (bkC h 17).trans rfl
def refE (a b : Int) : Ex := ⟨2, zeroV, a, b, 0, ⟨#[]⟩, []⟩
def numE (n : Int) : Ex := ⟨1, ⟨1, n, ⟨#[]⟩⟩, 0, 0, 0, ⟨#[]⟩, []⟩
def twoE (op : Int) (a b : Ex) : Ex := ⟨op, zeroV, 0, 0, 0, ⟨#[]⟩, [a, b]⟩
theorem itoa_one (n : Nat) (h : n < 10) : Lib.itoa n = [UInt8.ofNat (48 + n)] := by
  unfold Lib.itoa
  rw [if_neg (by omega), Int.toNat_natCast]
  exact Lib.decDigits_one (i := n) (by omega)
theorem norm_leaf {e : Ex} (h : turnV e.f0 = 0) (h6 : e.f6 = []) : normF e = e := by
  rw [normF_eq, h6]
  unfold turnF
  rw [if_pos h]
  cases e
  simp at h6
  subst h6
  rfl
theorem ex1 : normalRes (twoE 13 (refE 1 0) (numE 5)) = (twoE 11 (numE 5) (refE 1 0), 0) := by kernel_rfl
theorem less01 : lessT (refE 0 0) (refE 1 0) = true := by
  unfold lessT
  rw [tl_right (by kernel_rfl), tl_right (by kernel_rfl), textF_eq, textF_eq]
  have h0 : Lib.itoa 0 = [48] := itoa_one 0 (by decide)
  have h1 : Lib.itoa 1 = [49] := itoa_one 1 (by decide)
  show decide ((82 :: (Lib.itoa 0 ++ 46 :: Lib.itoa 0)) < (82 :: (Lib.itoa 1 ++ 46 :: Lib.itoa 0))) = true
  rw [h0, h1]
  decide
theorem ex2r : normalRes (twoE 9 (refE 1 0) (refE 0 0)) = (twoE 9 (refE 0 0) (refE 1 0), 0) := by
  have hr : rightB (twoE 9 (refE 1 0) (refE 0 0)) = true := by kernel_rfl
  unfold normalRes
  rw [if_pos hr, normF_eq]
  have h1 : normF (refE 1 0) = refE 1 0 := norm_leaf rfl rfl
  have h2 : normF (refE 0 0) = refE 0 0 := norm_leaf rfl rfl
  have e : (twoE 9 (refE 1 0) (refE 0 0)).f6.map normF = [refE 1 0, refE 0 0] := by show [normF (refE 1 0), normF (refE 0 0)] = _; rw [h1, h2]
  rw [e]
  have ht : turnF 9 [refE 1 0, refE 0 0] = (9, [refE 0 0, refE 1 0]) := by
    unfold turnF
    rw [if_neg (by decide), if_pos (by decide), if_pos (show lessT ([refE 1 0, refE 0 0].getD 1 z26) ([refE 1 0, refE 0 0].getD 0 z26) = true from less01)]; rfl
  show ((⟨(turnF 9 _).1, _, _, _, _, _, (turnF 9 _).2⟩ : Ex), (0 : Int)) = _
  rw [ht]; rfl
theorem ex3 : ofRes [3] 1 1 [] = (⟨#[83, 51, 32]⟩, 0) := by
  have h3 : Lib.itoa 3 = [51] := itoa_one 3 (by decide)
  unfold ofRes
  rw [if_neg (by decide)]
  have e : ofT [3] 1 (1 : Int).toNat [] = [83, 51, 32] := by
    show headL [3] 1 1 ++ [] = _
    rw [headL, headL]
    have hb : bitB 1 0 = true := by kernel_rfl
    rw [hb, if_pos rfl]
    show [83] ++ (Lib.itoa 3 ++ [32]) ++ [] = _
    rw [h3]; rfl
  rw [e]
theorem ints_C {w : World} {g : Nat} {fz : Nat × Nat} (xs : List Int) (h : w.heap[g]? = some (.cells (xs.map (Value.int .i64)).toArray 3 fz)) (hl : xs.length ≤ 4611686018427387904) : (Kd.int .i64).C w (some ⟨g, 0, none⟩) xs.length xs := by
  refine ⟨rfl, by omega, fun _ => ⟨_, rfl, ?_⟩⟩
  intro j p hp
  refine ⟨[.int .i64 p], rfl, rfl, fun i u hu => ?_⟩
  have hi : i = 0 := by
    have := (List.getElem?_eq_some_iff.1 hu).1
    simpa using this
  subst hi
  have hu' := Option.some.inj hu
  subst hu'
  rw [add_plain]
  show w.cell? ⟨g, j * 1 + 0, none⟩ = _
  simp only [Nat.mul_one, Nat.add_zero]
  simp [World.cell?, h, hp]
theorem ad_block (a : Addr) (k : Nat) : (a.add k).block = a.block := by unfold Addr.add; split <;> rfl
theorem ad_off (a : Addr) (k : Nat) : (a.add k).off = a.off + k := by unfold Addr.add; split <;> simp_all
theorem rng3 : ∀ i : Nat, i < ([3] : List Int).length → -9223372036854775808 ≤ rd [3] i ∧ rd [3] i ≤ 9223372036854775807 := by
  intro i hi
  have e : i = 0 := by simpa using hi
  subst e
  decide
theorem norm_two {op p : Int} {x y a b : Ex} (hn : normalRes (twoE op x y) = (twoE p a b, 0)) (hg : rngF (twoE op x y) = true) (A : Option Addr) (W : World) (hT : TabW W) (hC : Kd.C KX W A 2 [x, y]) :
    Calls Tryd.prog 10 #[.agg #[.int .i64 op, .int .i64 0, .int .i64 0, .string ⟨#[]⟩, .int .i64 0, .int .i64 0, .int .i64 0, .string ⟨#[]⟩, .slice A 2 2]] W fun r w' => ∃ ad k, r = .returned (.tuple #[.agg (exC (twoE p a b) (some ad) k), .int .i64 0]) ∧ 2 ≤ k ∧ Kd.F KX w' (fun q => W.heap.size ≤ q) (some ad) 2 [a, b] ∧ Below W.heap.size W w' := by
  have h := Normal_ok (twoE op x y) A 2 W hT hg hC (Nat.le_refl 2)
  refine Calls.mono h ?_
  rintro r w' ⟨D, k, h1, h2, h3, h4⟩
  rw [hn] at h1 h2 h3
  obtain ⟨ad, had, _⟩ := (Kd.F_now h3).2.2 (show 0 < 2 by omega)
  subst had
  exact ⟨ad, k, h1, h2, h3, h4⟩
set_option maxHeartbeats 4000000 in
set_option maxRecDepth 100000 in
theorem examples_ok (w : World) (hT : TabW w) : Calls Tryd.prog 8 #[] w fun r w' => r = .returned (.bool true) ∧ Below w.heap.size w w' := by
  have HT := Lib.hid hT; clear hT
  have HN1 := Lib.hid (norm_two ex1 (by kernel_rfl))
  have HN2 := Lib.hid (norm_two ex2r (by kernel_rfl))
  go_enter Tryd.func8, Tryd.ntmps8
  go_upto_region 2 with (first | ((with_reducible refine gate_dst (N := 1) rfl ?_); refine box_event rfl (N := 1) rfl (cs := zerosE) (t := 26) (by first | rfl | (go_simp; done) | (go_simp; rfl)) ?_; intro g1 hgg w1 hbg1 hBg1;  have hg1w : w.heap.size ≤ g1 := (by omega); clear hgg) | ((with_reducible refine gate_store (p := 1) (v := .tmp 9) rfl ?_); refine wpList_store_row rfl 26 (.tmp 1) (.tmp 9) rfl g1 (exC (numE 5) none 0) rfl rfl 26 zerosE hbg1 (info_ex _ _ _) rfl (one_ex _ _ _) ?_))
  have hx2 := setRow_at w1 g1 _ zerosE (exC (numE 5) none 0) hbg1
  have hB2 : Below w.heap.size w (w1.setRow g1 (exC (numE 5) none 0)) := below_setRow' hBg1 hg1w _
  clear hbg1 hBg1
  generalize w1.setRow g1 (exC (numE 5) none 0) = w2 at hx2 hB2 ⊢
  obtain ⟨hz0, hz1, hz2, hz3, hz4, hz5, hz6, hz7, hz8⟩ := bkC9 hx2
  have HB2 := Lib.hid hB2; have HX2 := Lib.hid hx2; clear hB2 hx2
  go_upto_region 3 with (first | ((with_reducible refine gate_dst (N := 2) rfl ?_); refine box_event rfl (N := 2) rfl (cs := zerosE) (t := 26) (by first | rfl | (go_simp; done) | (go_simp; rfl)) ?_; intro g2 hgg w4 hbg2 hBg2;  clear hgg))
  have hl3 : (w2.alloc (.cells (ex2 (refE 1 0) (numE 5) none none 0 0) 26 (0, 0))).heap[w2.heap.size]? = some (.cells (ex2 (refE 1 0) (numE 5) none none 0 0) 26 (0, 0)) := heap_alloc_new w2 _
  have HB3 : Hid (Below w.heap.size w (w2.alloc (.cells (ex2 (refE 1 0) (numE 5) none none 0 0) 26 (0, 0)))) := Lib.hid (blA HB2.out _)
  refine (HN1.out _ _ (tab_at HT.out HB3.out) (ex2_C hl3 (Nat.le_refl 0) (Nat.le_refl 0) (Kd.C_nil _ _) (Kd.C_nil _ _))).mono ?_
  rintro rr w5 ⟨ad, k1, rfl, hk1, hF1, hB5⟩
  have HB5 : Hid (Below w.heap.size w w5) := Lib.hid (HB3.out.trans (hB5.mono HB3.out.size))
  have HC1 := Lib.hid (Kd.F_now hF1)
  clear hl3 HB3 hF1 hB5 HB2 hz0 hz1 hz2 hz3 hz4 hz5 hz6 hz7 hz8 HX2 HN1
  unfold exC
  go_upto_region 3 with (first | ((with_reducible refine gate_dst (N := 2) rfl ?_); refine box_event rfl (N := 2) rfl (cs := zerosE) (t := 26) (by first | rfl | (go_simp; done) | (go_simp; rfl)) ?_; intro g2 hgg w6 hbg2 hBg2;  have hg2w : w.heap.size ≤ g2 := (by have := HB5.out.size; omega); have hgg2 : w5.heap.size ≤ g2 := (by omega); clear hgg) | ((with_reducible refine gate_store (p := 2) (v := .tmp 16) rfl ?_); refine wpList_store_row rfl 26 (.tmp 2) (.tmp 16) rfl g2 (exC (twoE 11 (numE 5) (refE 1 0)) (some ad) k1) rfl rfl 26 zerosE hbg2 (info_ex _ _ _) rfl (one_ex _ _ _) ?_))
  have hx7 := setRow_at w6 g2 _ zerosE (exC (twoE 11 (numE 5) (refE 1 0)) (some ad) k1) hbg2
  have hB7 : Below w5.heap.size w5 (w6.setRow g2 (exC (twoE 11 (numE 5) (refE 1 0)) (some ad) k1)) := below_setRow' hBg2 hgg2 _
  clear hbg2 hBg2 hgg2
  generalize w6.setRow g2 (exC (twoE 11 (numE 5) (refE 1 0)) (some ad) k1) = w7 at hx7 hB7 ⊢
  replace HC1 := Lib.hid (Kd.C_below HC1.out hB7)
  have HB7 := Lib.hid (HB5.out.trans (hB7.mono HB5.out.size))
  have HX7 := Lib.hid hx7
  clear hx7 hB7 HB5
  go_wp2_with fail
  have hl8 : (w7.alloc (.cells (ex2 (refE 1 0) (refE 0 0) none none 0 0) 26 (0, 0))).heap[w7.heap.size]? = some (.cells (ex2 (refE 1 0) (refE 0 0) none none 0 0) 26 (0, 0)) := heap_alloc_new w7 _
  have hB8 : Below w7.heap.size w7 (w7.alloc (.cells (ex2 (refE 1 0) (refE 0 0) none none 0 0) 26 (0, 0))) := blA (Below.refl _ _) _
  have HB8 := Lib.hid (HB7.out.trans (hB8.mono HB7.out.size))
  refine (HN2.out _ _ (tab_at HT.out HB8.out) (ex2_C hl8 (Nat.le_refl 0) (Nat.le_refl 0) (Kd.C_nil _ _) (Kd.C_nil _ _))).mono ?_
  rintro rr w9 ⟨ae, k2, rfl, hk2, hF2, hB9⟩
  have HB9 : Hid (Below w.heap.size w w9) := Lib.hid (HB8.out.trans (hB9.mono HB8.out.size))
  have hB79 : Below w7.heap.size w7 w9 := hB8.trans (hB9.mono hB8.size)
  replace HC1 := Lib.hid (Kd.C_below HC1.out hB79)
  have HX9 := Lib.hid ((hB79.block g2 (blk_lt HX7.out)).trans HX7.out)
  have HC2 := Lib.hid (Kd.F_now hF2)
  clear hl8 hB8 HB8 hF2 hB9 hB79 HX7 HB7 HN2
  unfold exC
  go_upto_region 4 with (first | ((with_reducible refine gate_dst (N := 4) rfl ?_); refine box_event rfl (N := 4) rfl (cs := zerosE) (t := 26) (by first | rfl | (go_simp; done) | (go_simp; rfl)) ?_; intro g4 hgg w10 hbg4 hBg4;  have hg4w : w.heap.size ≤ g4 := (by have := HB9.out.size; omega); have hg4n : w9.heap.size ≤ g4 := (by omega); clear hgg) | ((with_reducible refine gate_store (p := 4) (v := .tmp 24) rfl ?_); refine wpList_store_row rfl 26 (.tmp 4) (.tmp 24) rfl g4 (exC (twoE 9 (refE 0 0) (refE 1 0)) (some ae) k2) rfl rfl 26 zerosE hbg4 (info_ex _ _ _) rfl (one_ex _ _ _) ?_))
  have hx11 := setRow_at w10 g4 _ zerosE (exC (twoE 9 (refE 0 0) (refE 1 0)) (some ae) k2) hbg4
  have hB11 : Below w9.heap.size w9 (w10.setRow g4 (exC (twoE 9 (refE 0 0) (refE 1 0)) (some ae) k2)) := below_setRow' hBg4 hg4n _
  clear hbg4 hBg4 hg4n
  generalize w10.setRow g4 (exC (twoE 9 (refE 0 0) (refE 1 0)) (some ae) k2) = w11 at hx11 hB11 ⊢
  have HB11 := Lib.hid (HB9.out.trans (hB11.mono HB9.out.size))
  have hC1 := Kd.C_below HC1.out hB11
  have hC2 := Kd.C_below HC2.out hB11
  have HX11 := Lib.hid hx11
  have HX2 := Lib.hid ((hB11.block g2 (blk_lt HX9.out)).trans HX9.out)
  clear hB11 HB9 HX9 HC1 HC2 hx11
  have hq8 : w11.cell? ⟨g2, 8, none⟩ = some (.slice (some ad) 2 k1) := (bkC HX2.out 8).trans rfl
  have hr8 : w11.cell? ⟨g4, 8, none⟩ = some (.slice (some ae) 2 k2) := (bkC HX11.out 8).trans rfl
  go_upto_region 6 with fail
  go_wp2_with fail
  have hl12 : (w11.alloc (.cells #[.int .i64 3] 3 (0, 0))).heap[w11.heap.size]? = some (.cells (([3] : List Int).map (Value.int .i64)).toArray 3 (0, 0)) := heap_alloc_new w11 _
  have hB12 : Below w11.heap.size w11 (w11.alloc (.cells #[.int .i64 3] 3 (0, 0))) := blA (Below.refl _ _) _
  have HB12 := Lib.hid (HB11.out.trans (hB12.mono HB11.out.size))
  have HOF := Lib.hid (Of_ok [3] [] 1 1 [] [] [] [] [] [] (some ⟨w11.heap.size, 0, none⟩) none none none none none none none 1 0 0 0 0 0 0 0 false false _ (by decide) (tab_at HT.out HB12.out) (fun x hx => by cases hx) (Kd.C_nil _ _) (by decide) (by decide) rng3 (ints_C [3] hl12 (by decide)))
  rw [ex3] at HOF
  have hC1b := Lib.hid (Kd.C_below hC1 hB12); have hC2b := Lib.hid (Kd.C_below hC2 hB12)
  clear hC1 hC2 hl12
  refine HOF.out.mono ?_
  rintro rr w13 ⟨rfl, hB13⟩
  have hX2 := (hB13.block g2 (by have := blk_lt HX2.out; have := hB12.size; omega)).trans ((hB12.block g2 (blk_lt HX2.out)).trans HX2.out)
  have hX4 := (hB13.block g4 (by have := blk_lt HX11.out; have := hB12.size; omega)).trans ((hB12.block g4 (blk_lt HX11.out)).trans HX11.out)
  have HBE := Lib.hid (HB12.out.trans (hB13.mono HB12.out.size))
  obtain ⟨_, _, _, x1, e1, hx1, _, _, _, _, f4, _, _, _, _, _, _⟩ := at_ex (Kd.C_below hC1b.out hB13) rfl 1 (by decide)
  obtain ⟨_, _, _, x2, e2, hx2, _, _, _, _, d4, _, _, _, _, _, _⟩ := at_ex (Kd.C_below hC2b.out hB13) rfl 0 (by decide)
  cases e1; cases e2
  obtain rfl := Option.some.inj hx1
  obtain rfl := Option.some.inj hx2
  have hq0 : w13.cell? ⟨g2, 0, none⟩ = some (.int .i64 11) := (bkC hX2 0).trans rfl
  have hq8' : w13.cell? ⟨g2, 8, none⟩ = some (.slice (some ad) 2 k1) := (bkC hX2 8).trans rfl
  have hr8' : w13.cell? ⟨g4, 8, none⟩ = some (.slice (some ae) 2 k2) := (bkC hX4 8).trans rfl
  have f4' : w13.cell? ⟨ad.block, ad.off + 9 + 4, none⟩ = some (.int .i64 1) := by rw [ad_block, ad_off] at f4; exact f4
  have d4' : w13.cell? ⟨ae.block, ae.off + 4, none⟩ = some (.int .i64 0) := by rw [ad_block, ad_off, Nat.add_zero] at d4; exact d4
  clear f4 d4
  clear hX2 hX4 hB12 hB13 hx1 hx2
  go_wp2_with fail
  go_ret
  exact ⟨rfl, HBE.out⟩
end Go.Proofs.YtpdhoghkoakojaaDoor.E
namespace Go.Proofs.YtpdhoghkoakojaaDoor.E
set_option linter.unusedSimpArgs false
set_option linter.unusedVariables false
open Go.RowKit Go.Proofs.YtpdhoghkoakojaaDoorW.PrintWords Go.Proofs.YtpdhoghkoakojaaDoorW.PrintLast Go.Proofs.YtpdhoghkoakojaaDoorW.PrintMore
theorem less_asymm {a b : Ex} (h : lessT a b = true) : lessT b a = false := by
  unfold lessT at h ⊢
  rw [decide_eq_true_eq] at h
  rw [decide_eq_false_iff_not]
  exact fun h2 => l_irrefl _ (l_trans h h2)
theorem turn_turn (op : Int) (x y : Ex) : turnF (turnF op [x, y]).1 (turnF op [x, y]).2 = turnF op [x, y] := by
  by_cases h : turnV op = 0
  · have e : turnF op [x, y] = (op, [x, y]) := by unfold turnF; rw [if_pos h]
    rw [e]; exact e
  · rcases turnV_op op h with ⟨rfl, _⟩ | ⟨rfl, _⟩ | ⟨_, h2⟩
    · rfl
    · rfl
    · have g : ∀ a b : Ex, turnF op [a, b] = if lessT b a = true then (op, [b, a]) else (op, [a, b]) := fun a b => by
        unfold turnF; rw [if_neg h, if_pos h2]; rfl
      rw [g x y]
      by_cases hl : lessT y x = true
      · rw [if_pos hl]
        show turnF op [y, x] = _
        rw [g y x, less_asymm hl, if_neg (by decide)]
      · rw [if_neg hl]
        show turnF op [x, y] = _
        rw [g x y, if_neg hl]
theorem norm_norm (e : Ex) : (∃ p, meas e = some p) → normF (normF e) = normF e := by
  induction e using Ex.ind with
  | h e ih =>
    rintro ⟨p, hp⟩
    obtain ⟨ho, q, hq⟩ := meas_own hp
    have hk : ∀ x ∈ e.f6.map normF, normF x = x := fun x hx => by
      obtain ⟨y, hy, rfl⟩ := List.mem_map.1 hx
      obtain ⟨a, ha, _⟩ := measL_mem e.f6 q hq hy
      exact ih y hy ⟨a, ha⟩
    have hm : ∀ l : List Ex, (∀ x ∈ l, x ∈ e.f6.map normF) → l.map normF = l := fun l hl => by
      induction l with
      | nil => rfl
      | cons x l ihl => rw [List.map_cons, hk x (hl x (.head _)), ihl (fun y hy => hl y (.tail _ hy))]
    rw [normF_eq (normF e)]
    have h6 : (normF e).f6 = (turnF e.f0 (e.f6.map normF)).2 := by rw [normF_eq]
    have h0 : (normF e).f0 = (turnF e.f0 (e.f6.map normF)).1 := by rw [normF_eq]
    rw [h6, h0, hm _ (fun x hx => turnF_mem _ _ _ hx)]
    have ht : turnF (turnF e.f0 (e.f6.map normF)).1 (turnF e.f0 (e.f6.map normF)).2 = turnF e.f0 (e.f6.map normF) := by
      by_cases hz : turnV e.f0 = 0
      · have e1 : turnF e.f0 (e.f6.map normF) = (e.f0, e.f6.map normF) := by unfold turnF; rw [if_pos hz]
        rw [e1]; exact e1
      · have hw := (own_true ho).2
        obtain ⟨x, y, hxy⟩ := list_two (l := e.f6.map normF) (by rw [List.length_map]; have := (turnV_wants _ hz).1; omega)
        rw [hxy]; exact turn_turn _ _ _
    rw [ht, normF_eq e]
theorem conds_conds {xs : List Ex} (hx : ∀ x ∈ xs, rightB x = true) : condsF (condsF xs) = condsF xs := by
  obtain ⟨a, b⟩ := condsF_asc hx
  obtain ⟨c, d⟩ := condsF_asc (conds_right hx)
  refine asc_unique _ _ c a (fun z => ?_)
  have hn : ∀ y ∈ condsF xs, normF y = y := fun y hy => by
    obtain ⟨x, hx2, rfl⟩ := List.mem_map.1 ((b y).1 hy)
    exact norm_norm x (right_some_meas (hx x hx2))
  rw [d z]
  constructor
  · intro h
    obtain ⟨y, hy, rfl⟩ := List.mem_map.1 h
    rw [hn y hy]; exact hy
  · intro h
    exact List.mem_map.2 ⟨z, h, hn z h⟩
theorem exprs_l0 (L : List Ex) (hL : L.length ≤ 4611686018427387904) (h : ∀ x ∈ L, prB x = true) : ∀ (l : List Ex) (j : Nat), L.drop j = l → Ev (fun k => w12_exprs.l0 k L L (j : Int)) true
  | [], j, hj => by
    have hl : L.length ≤ j := List.drop_eq_nil_iff.1 hj
    refine Ev.const 1 (fun k => ?_)
    rw [w12_exprs.l0, if_neg (by omega)]
  | x :: xs, j, hj => by
    obtain ⟨hx, hl, hr⟩ := rd_drop hj
    have hm : x ∈ L := List.mem_of_mem_drop (i := j) (by rw [hj]; exact .head _)
    refine Ev.steps 1 (f := fun k => w12_exprs.l0 k L L ((j + 1 : Nat) : Int)) (fun k => ?_) (exprs_l0 L hL h xs (j + 1) hr)
    rw [w12_exprs.l0, if_pos (by omega), if_pos (by omega), hx, print_f (h x hm), wrap64_of (x := (j : Int) + 1) (by omega) (by omega)]
    simp only [Option.bind_some]
    rw [if_pos (by omega)]; simp only [if_true]; rfl
theorem exprs_ev (L : List Ex) (hL : L.length ≤ 4611686018427387904) (h : ∀ x ∈ L, prB x = true) : Ev (fun k => w12_exprs.f k L L) true := by
  unfold w12_exprs.f
  simp only [if_true]
  exact exprs_l0 L hL h L 0 rfl
theorem exprs_ok (L : List Ex) (A B : Option Addr) (c d : Nat) (w : World) (hL : L.length ≤ 4611686018427387904) (h : ∀ x ∈ L, rightB x = true ∧ rngF x = true) (hA : Kd.C KX w A L.length L) (hc : L.length ≤ c) (hB : Kd.C KX w B L.length L) (hd : L.length ≤ d) :
    Calls Tryd.prog 14 #[.slice A L.length c, .slice B L.length d] w fun e w' => e = .returned (.bool true) ∧ Below w.heap.size w w' := by
  obtain ⟨k, hk⟩ := (exprs_ev L hL (fun x hx => prB_of (h x hx).1 (h x hx).2)).rounds
  exact w12_exprs.calls k A c L B d L true w hA hc hB hd hk
end Go.Proofs.YtpdhoghkoakojaaDoor.E
namespace Go.Proofs.YtpdhoghkoakojaaDoor.E
open Go.RowKit Go.Proofs.YtpdhoghkoakojaaDoorW.PrintWords Go.Proofs.YtpdhoghkoakojaaDoorW.PrintLast Go.Proofs.YtpdhoghkoakojaaDoorW.PrintMore
set_option linter.unusedVariables false
set_option linter.unusedSimpArgs false
theorem ex1_C {w : World} {g : Nat} {a : Ex} {Aa : Option Addr} {ca : Nat} (h : w.heap[g]? = some (.cells (exC a Aa ca) 26 (0, 0))) (ha : a.f6.length ≤ ca) (hA : Kd.C KX w Aa a.f6.length a.f6) : Kd.C KX w (some ⟨g, 0, none⟩) 1 [a] := by
  refine ⟨rfl, by simp, fun _ => ⟨_, rfl, ?_⟩⟩
  intro j p hp
  match j, hp with
  | 0, hp =>
    obtain rfl := Option.some.inj hp
    refine ⟨_, rfl, k26_mk w a ha hA, ?_⟩
    intro i u hu
    have hi : i < 9 := by
      have := (List.getElem?_eq_some_iff.1 hu).1; simpa using this
    obtain rfl | rfl | rfl | rfl | rfl | rfl | rfl | rfl | rfl : i = 0 ∨ i = 1 ∨ i = 2 ∨ i = 3 ∨ i = 4 ∨ i = 5 ∨ i = 6 ∨ i = 7 ∨ i = 8 := by omega
    all_goals (have hu' := Option.some.inj hu; subst hu'; rw [add_plain])
    · exact (bkC h 0).trans rfl
    · exact (bkC h 1).trans rfl
    · exact (bkC h 2).trans rfl
    · exact (bkC h 3).trans rfl
    · exact (bkC h 4).trans rfl
    · exact (bkC h 5).trans rfl
    · exact (bkC h 6).trans rfl
    · exact (bkC h 7).trans rfl
    · exact (bkC h 8).trans rfl
theorem conds_pair (l : List Ex) (B : Option Addr) (d : Nat) (w : World) (hT : TabW w) (hRg : ∀ x ∈ l, rngF x = true) (hC : Kd.C KX w B l.length l) (hl : l.length * 104 ≤ 140737488351232) :
    Calls Tryd.prog 12 #[.slice B l.length d] w fun r w' => ∃ L A1 c1 er, r = .returned (.tuple #[.slice A1 L.length c1, .int .i64 er]) ∧ (er = 0 ∨ er = 1) ∧ L.length ≤ l.length ∧ L.length ≤ c1 ∧ condsF L = L ∧ (∀ x ∈ L, rightB x = true ∧ rngF x = true) ∧ Kd.C KX w' A1 L.length L ∧ Below w.heap.size w w' :=
  (Conds_ok l B d w hT hRg hC hl).mono (by
    rintro r w' (⟨hf, rfl, hb⟩ | ⟨hr, v, ys, hys, rfl, hN, hb⟩)
    · exact ⟨[], none, 0, 1, rfl, .inr rfl, Nat.zero_le _, Nat.le_refl _, rfl, (fun x hx => by cases hx), Kd.C_nil _ _, hb⟩
    · have hr2 := List.all_eq_true.1 hr
      rw [comp_conds hr2 hys] at hN
      obtain ⟨A1, c1, rfl, hc1, hC1⟩ := Kd.N_reads hN
      exact ⟨condsF l, A1, c1, 0, rfl, .inl rfl, conds_len l, hc1, conds_conds hr2, (fun x hx => ⟨conds_right hr2 x hx, conds_rng hr2 hRg x hx⟩), hC1, hb⟩)
theorem conds_same (L : List Ex) (B : Option Addr) (d : Nat) (w : World) (hT : TabW w) (hL : condsF L = L) (hr : ∀ x ∈ L, rightB x = true ∧ rngF x = true) (hC : Kd.C KX w B L.length L) (hl : L.length * 104 ≤ 140737488351232) :
    Calls Tryd.prog 12 #[.slice B L.length d] w fun r w' => ∃ A1 c1, r = .returned (.tuple #[.slice A1 L.length c1, .int .i64 0]) ∧ L.length ≤ c1 ∧ Kd.C KX w' A1 L.length L ∧ Below w.heap.size w w' :=
  (Conds_ok L B d w hT (fun x hx => (hr x hx).2) hC hl).mono (by
    rintro r w' (⟨hf, _⟩ | ⟨_, v, ys, hys, rfl, hN, hb⟩)
    · rw [List.all_eq_true.2 (fun x hx => (hr x hx).1)] at hf; cases hf
    · rw [comp_conds (fun x hx => (hr x hx).1) hys, hL] at hN
      obtain ⟨A1, c1, rfl, hc1, hC1⟩ := Kd.N_reads hN
      exact ⟨A1, c1, rfl, hc1, hC1, hb⟩)
theorem normal_right (e : Ex) (h : rightB e = true) (A : Option Addr) (c : Nat) (w : World) (hT : TabW w) (hRg : rngF e = true) (hC : Kd.C KX w A e.f6.length e.f6) (hc : e.f6.length ≤ c) :
    Calls Tryd.prog 10 #[.agg (exC e A c)] w fun r w' => ∃ D k, r = .returned (.tuple #[.agg (exC (normF e) D k), .int .i64 0]) ∧ (normF e).f6.length ≤ k ∧ Kd.C KX w' D (normF e).f6.length (normF e).f6 ∧ Below w.heap.size w w' := by
  have h1 := Normal_ok e A c w hT hRg hC hc
  unfold normalRes at h1
  rw [if_pos h] at h1
  refine Calls.mono h1 ?_
  rintro r w' ⟨D, k, h2, h3, h4, h5⟩
  exact ⟨D, k, h2, h3, Kd.F_now h4, h5⟩
theorem normal_wrong (e : Ex) (h : rightB e = false) (A : Option Addr) (c : Nat) (w : World) (hT : TabW w) (hRg : rngF e = true) (hC : Kd.C KX w A e.f6.length e.f6) (hc : e.f6.length ≤ c) :
    Calls Tryd.prog 10 #[.agg (exC e A c)] w fun r w' => ∃ D k, r = .returned (.tuple #[.agg (exC zeroX D k), .int .i64 1]) ∧ Below w.heap.size w w' := by
  have h1 := Normal_ok e A c w hT hRg hC hc
  unfold normalRes at h1
  rw [if_neg (by rw [h]; decide)] at h1
  refine Calls.mono h1 ?_
  rintro r w' ⟨D, k, h2, h3, h4, h5⟩
  exact ⟨D, k, h2, h5⟩
set_option maxHeartbeats 8000000 in
set_option maxRecDepth 100000 in
theorem again_ok (e : Ex) (l : List Ex) (A B : Option Addr) (c d : Nat) (w : World) (hT : TabW w) (hg : rngF e = true) (hgl : ∀ x ∈ l, rngF x = true) (hc : e.f6.length ≤ c) (hC : Kd.C KX w A e.f6.length e.f6) (hd : l.length ≤ d) (hB : Kd.C KX w B l.length l) (hl : l.length * 104 ≤ 140737488351232) :
    Calls Tryd.prog 5 #[.agg (exC e A c), .slice B l.length d] w fun r w' => r = .returned (.bool true) ∧ Below w.heap.size w w' := by
  have HT := Lib.hid hT; have HG := Lib.hid hg; have HGL := Lib.hid hgl; have HC := Lib.hid hC; have HBC := Lib.hid hB; clear hT hg hgl hC hB
  unfold exC
  go_enter Tryd.func5, Tryd.ntmps5
  go_upto_region 1 with (first | ((with_reducible refine gate_dst (N := 2) rfl ?_); refine box_event rfl (N := 2) rfl (cs := exC e A c) (t := 26) (by first | rfl | (go_simp; done) | (go_simp; rfl)) ?_; intro g hgg w1 hbg hBg;  have HGB := Lib.hid hbg; have HB1 := Lib.hid hBg; have hgw : w.heap.size ≤ g := (by omega); clear hgg hbg hBg))
  have HEX := Lib.hid (examples_ok w1 (tab_at HT.out HB1.out))
  go_upto_region 2 with (go_at_call 8; refine HEX.out.mono ?_; rintro rr w2 ⟨rfl, hB2⟩; have HGB2 := Lib.hid ((hB2.block g (blk_lt HGB.out)).trans HGB.out); have HB2 := Lib.hid (HB1.out.trans (hB2.mono HB1.out.size)); clear hB2)
  clear HEX HGB HB1
  obtain ⟨hz0, hz1, hz2, hz3, hz4, hz5, hz6, hz7, hz8⟩ := bkC9 HGB2.out
  cases hr : rightB e with
  | false =>
    have HNO := Lib.hid (normal_wrong e hr A c w2 (tab_at HT.out HB2.out) HG.out (Kd.C_below HC.out HB2.out) hc)
    unfold exC at HNO
    have HR := Lib.hid hr; clear hr
    go_upto_region 3 with (first | (go_at_call 10; refine HNO.out.mono ?_; rintro rr w3 ⟨D, k, rfl, hB3⟩; have HB3 := Lib.hid hB3; clear hB3) | ((with_reducible refine gate_dst (N := 6) rfl ?_); refine box_event rfl (N := 6) rfl (cs := zerosE) (t := 26) (by first | rfl | (go_simp; done) | (go_simp; rfl)) ?_; intro g6 hgg w4 hbg6 hBg6;  have HB4 := Lib.hid hBg6; have hg6w : w3.heap.size ≤ g6 := (by omega); clear hgg) | ((with_reducible refine gate_store (p := 6) (v := .tmp 20) rfl ?_); refine wpList_store_row rfl 26 (.tmp 6) (.tmp 20) rfl g6 (exC zeroX D k) rfl rfl 26 zerosE hbg6 (info_ex _ _ _) rfl (one_ex _ _ _) ?_))
    have hB5 : Below w2.heap.size w2 (w4.setRow g6 (exC zeroX D k)) := below_setRow' (HB3.out.trans (HB4.out.mono HB3.out.size)) (by have := HB3.out.size; omega) _
    clear hbg6 hBg6
    generalize w4.setRow g6 (exC zeroX D k) = w5 at hB5 ⊢
    have HB5 := Lib.hid hB5
    have HGB5 := Lib.hid ((hB5.block g (blk_lt HGB2.out)).trans HGB2.out)
    clear hB5 hz0 hz1 hz2 hz3 hz4 hz5 hz6 hz7 hz8
    obtain ⟨hz0, hz1, hz2, hz3, hz4, hz5, hz6, hz7, hz8⟩ := bkC9 HGB5.out
    have HB05 : Hid (Below w.heap.size w w5) := Lib.hid (HB2.out.trans (HB5.out.mono HB2.out.size))
    have HCR := Lib.hid (right_ok e A c w5 (Kd.C_below HC.out HB05.out) hc)
    rw [HR.out] at HCR
    unfold exC at HCR
    go_wp2_with (go_at_call 20; refine HCR.out.mono ?_; rintro rr w6 ⟨rfl, hB6⟩; have HB6 := Lib.hid hB6; clear hB6)
    go_ret
    exact ⟨rfl, HB05.out.trans (HB6.out.mono HB05.out.size)⟩
  | true =>
    have HNO := Lib.hid (normal_right e hr A c w2 (tab_at HT.out HB2.out) HG.out (Kd.C_below HC.out HB2.out) hc)
    have HYR := Lib.hid (right_norm hr)
    have HYG := Lib.hid (norm_rng HG.out)
    have HYN := Lib.hid (norm_norm e (right_some_meas hr))
    unfold exC at HNO
    clear hr
    obtain ⟨y, hy⟩ : ∃ y, normF e = y := ⟨_, rfl⟩
    rw [hy] at HNO HYR HYG HYN
    clear hy
    go_upto_region 3 with (first | (go_at_call 10; refine HNO.out.mono ?_; rintro rr w3 ⟨D, k, rfl, hk, hCD, hB3⟩; have HB3 := Lib.hid hB3; have HCD := Lib.hid hCD; clear hB3 hCD) | ((with_reducible refine gate_dst (N := 6) rfl ?_); refine box_event rfl (N := 6) rfl (cs := zerosE) (t := 26) (by first | rfl | (go_simp; done) | (go_simp; rfl)) ?_; intro g6 hgg w4 hbg6 hBg6;  have HB4 := Lib.hid hBg6; have hg6w : w3.heap.size ≤ g6 := (by omega); clear hgg) | ((with_reducible refine gate_store (p := 6) (v := .tmp 20) rfl ?_); refine wpList_store_row rfl 26 (.tmp 6) (.tmp 20) rfl g6 (exC y D k) rfl rfl 26 zerosE hbg6 (info_ex _ _ _) rfl (one_ex _ _ _) ?_))
    have hx5 := setRow_at w4 g6 _ zerosE (exC y D k) hbg6
    have hB35 : Below w3.heap.size w3 (w4.setRow g6 (exC y D k)) := below_setRow' HB4.out (by omega) _
    clear hbg6 hBg6
    generalize w4.setRow g6 (exC y D k) = w5 at hx5 hB35 ⊢
    have HCD5 := Lib.hid (Kd.C_below HCD.out hB35)
    have HB5 := Lib.hid (HB2.out.trans ((HB3.out.trans (hB35.mono HB3.out.size)).mono HB2.out.size))
    have HX5 := Lib.hid hx5
    clear hx5 hB35 HCD HB4 HB3 HNO hz0 hz1 hz2 hz3 hz4 hz5 hz6 hz7 hz8 HGB2
    obtain ⟨hz0, hz1, hz2, hz3, hz4, hz5, hz6, hz7, hz8⟩ := bkC9 HX5.out
    have HN2 := Lib.hid (normal_right y HYR.out D k w5 (tab_at HT.out HB5.out) HYG.out HCD5.out hk)
    rw [HYN.out] at HN2
    unfold exC at HN2
    go_upto_region 6 with (first | (go_at_call 10; refine HN2.out.mono ?_; rintro rr w6 ⟨E, k2, rfl, hk2, hCE, hB6⟩; have HB6 := Lib.hid hB6; have HCE := Lib.hid hCE; clear hB6 hCE) | ((with_reducible refine gate_dst (N := 8) rfl ?_); refine box_event rfl (N := 8) rfl (cs := zerosE) (t := 26) (by first | rfl | (go_simp; done) | (go_simp; rfl)) ?_; intro g8 hgg w7 hbg8 hBg8;  have HB7 := Lib.hid hBg8; have hg8w : w6.heap.size ≤ g8 := (by omega); clear hgg) | ((with_reducible refine gate_store (p := 8) (v := .tmp 33) rfl ?_); refine wpList_store_row rfl 26 (.tmp 8) (.tmp 33) rfl g8 (exC y E k2) rfl rfl 26 zerosE hbg8 (info_ex _ _ _) rfl (one_ex _ _ _) ?_))
    have hx8 := setRow_at w7 g8 _ zerosE (exC y E k2) hbg8
    have hB68 : Below w6.heap.size w6 (w7.setRow g8 (exC y E k2)) := below_setRow' HB7.out (by omega) _
    clear hbg8 hBg8
    generalize w7.setRow g8 (exC y E k2) = w8 at hx8 hB68 ⊢
    have hB58 : Below w5.heap.size w5 w8 := HB6.out.trans (hB68.mono HB6.out.size)
    have HCE8 := Lib.hid (Kd.C_below HCE.out hB68)
    have HCD8 := Lib.hid (Kd.C_below HCD5.out hB58)
    have HX58 := Lib.hid ((hB58.block g6 (blk_lt HX5.out)).trans HX5.out)
    have HX8 := Lib.hid hx8
    have HB8 := Lib.hid (HB5.out.trans (hB58.mono HB5.out.size))
    clear hx8 hB68 hB58 HCE HCD5 HX5 HB5 HB7 HB6 HN2 hz0 hz1 hz2 hz3 hz4 hz5 hz6 hz7 hz8
    have HCP := Lib.hid (conds_pair l B d w8 (tab_at HT.out HB8.out) HGL.out (Kd.C_below HBC.out HB8.out) hl)
    go_wp2_with fail
    refine HCP.out.mono ?_
    rintro rr w9 ⟨L, A1, c1, er, rfl, her, hLl, hLc, hLs, hLr, hC1, hB9⟩
    have HER := Lib.hid her; have HLL := Lib.hid hLl; have HLS := Lib.hid hLs; have HLR := Lib.hid hLr; have HC1 := Lib.hid hC1; have HB9 := Lib.hid hB9
    clear her hLl hLs hLr hC1 hB9 HCP
    have HCS := Lib.hid (conds_same L A1 c1 w9 (tab_at HT.out (HB8.out.trans (HB9.out.mono HB8.out.size))) HLS.out HLR.out HC1.out (by have := HLL.out; omega))
    go_wp2_with fail
    refine HCS.out.mono ?_
    rintro rr w10 ⟨A2, c2, rfl, hLc2, hC2, hB10⟩
    have hB810 : Below w8.heap.size w8 w10 := HB9.out.trans (hB10.mono HB9.out.size)
    have HC2 := Lib.hid hC2
    have HC12 := Lib.hid (Kd.C_below HC1.out hB10)
    have HB10 := Lib.hid (HB8.out.trans (hB810.mono HB8.out.size))
    have HX6 := Lib.hid ((hB810.block g6 (blk_lt HX58.out)).trans HX58.out)
    have HX10 := Lib.hid ((hB810.block g8 (blk_lt HX8.out)).trans HX8.out)
    have HCD10 := Lib.hid (Kd.C_below HCD8.out hB810)
    have HCE10 := Lib.hid (Kd.C_below HCE8.out hB810)
    clear hC2 hB10 hB810 HC1 HB9 HX58 HX8 HCD8 HCE8 HCS HB8
    have hlt6 : g6 < w10.heap.size := blk_lt HX6.out
    have hlt8 : g8 < w10.heap.size := blk_lt HX10.out
    obtain ⟨hz0, hz1, hz2, hz3, hz4, hz5, hz6, hz7, hz8⟩ := bkC9 HX6.out
    obtain ⟨hy0, hy1, hy2, hy3, hy4, hy5, hy6, hy7, hy8⟩ := bkC9 HX10.out
    go_wp2_with fail
    have hi1 : ((w10.alloc (.cells (exC y D k) 26 (0, 0))).alloc (.cells (exC y E k2) 26 (0, 0))).heap[w10.heap.size]? = some (.cells (exC y D k) 26 (0, 0)) := bkA (heap_alloc_new w10 _) _
    have hi2 : ((w10.alloc (.cells (exC y D k) 26 (0, 0))).alloc (.cells (exC y E k2) 26 (0, 0))).heap[w10.heap.size + 1]? = some (.cells (exC y E k2) 26 (0, 0)) := by
      have h := heap_alloc_new (w10.alloc (.cells (exC y D k) 26 (0, 0))) (.cells (exC y E k2) 26 (0, 0))
      rw [show (w10.alloc (.cells (exC y D k) 26 (0, 0))).heap.size = w10.heap.size + 1 from by simp] at h
      exact h
    have hB12 : Below w10.heap.size w10 ((w10.alloc (.cells (exC y D k) 26 (0, 0))).alloc (.cells (exC y E k2) 26 (0, 0))) := blA (blA (Below.refl _ _) _) _
    have HE1 := Lib.hid (exprs_ok [y] (some ⟨w10.heap.size, 0, none⟩) (some ⟨w10.heap.size + 1, 0, none⟩) 1 1 _ (by simp) (fun x hx => by obtain rfl := List.mem_singleton.1 hx; exact ⟨HYR.out, HYG.out⟩) (ex1_C hi1 hk (Kd.C_below HCD10.out hB12)) (Nat.le_refl 1) (ex1_C hi2 hk2 (Kd.C_below HCE10.out hB12)) (Nat.le_refl 1))
    have HB12 := Lib.hid hB12
    clear hi1 hi2 hB12 hz0 hz1 hz2 hz3 hz4 hz5 hz6 hz7 hz8 hy0 hy1 hy2 hy3 hy4 hy5 hy6 hy7 hy8
    refine HE1.out.mono ?_
    rintro rr w13 ⟨rfl, hB13⟩
    have hB1013 : Below w10.heap.size w10 w13 := HB12.out.trans (hB13.mono HB12.out.size)
    have HE2 := Lib.hid (exprs_ok L A1 A2 c1 c2 w13 (by have := HLL.out; omega) HLR.out (Kd.C_below HC12.out hB1013) hLc (Kd.C_below HC2.out hB1013) hLc2)
    have HX13 := Lib.hid ((hB1013.block g6 (blk_lt HX6.out)).trans HX6.out)
    have HCD13 := Lib.hid (Kd.C_below HCD10.out hB1013)
    have HB13 := Lib.hid (HB10.out.trans (hB1013.mono HB10.out.size))
    clear hB13 hB1013 HE1 HB12 HX6 HX10 HCD10 HCE10 HB10
    go_wp2_with fail
    refine HE2.out.mono ?_
    rintro rr w14 ⟨rfl, hB14⟩
    have HX14 := Lib.hid ((hB14.block g6 (blk_lt HX13.out)).trans HX13.out)
    have HB14 := Lib.hid (HB13.out.trans (hB14.mono HB13.out.size))
    have HRY := Lib.hid (right_ok y D k w14 (Kd.C_below HCD13.out hB14) hk)
    rw [HYR.out] at HRY
    unfold exC at HRY
    clear hB14 HE2 HX13 HCD13 HB13
    obtain ⟨hz0, hz1, hz2, hz3, hz4, hz5, hz6, hz7, hz8⟩ := bkC9 HX14.out
    have hle : (L.length : Int) ≤ l.length := by have := HLL.out; omega
    rcases HER.out with h0 | h0
    · subst h0
      go_wp2_with (go_at_call 20; refine HRY.out.mono ?_; rintro rr w15 ⟨rfl, hB15⟩; have HB15 := Lib.hid hB15; clear hB15)
      go_ret
      exact ⟨rfl, HB14.out.trans (HB15.out.mono HB14.out.size)⟩
    · subst h0
      go_wp2_with (go_at_call 20; refine HRY.out.mono ?_; rintro rr w15 ⟨rfl, hB15⟩; have HB15 := Lib.hid hB15; clear hB15)
      go_ret
      exact ⟨rfl, HB14.out.trans (HB15.out.mono HB14.out.size)⟩
end Go.Proofs.YtpdhoghkoakojaaDoor.E
