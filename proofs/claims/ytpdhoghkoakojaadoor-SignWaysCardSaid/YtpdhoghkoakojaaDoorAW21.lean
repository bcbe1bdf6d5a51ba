/- Contracts and plain lemmas of the functions that the law reaches, part 21. -/
import Derived.Lib.ItoaLen
import Derived.Deep.RegionHeld3
import Derived.Lib.SmallJoins
import Derived.Test.YtpdhoghkoakojaaDoorAW4
import Derived.Test.YtpdhoghkoakojaaDoorAW8
import Derived.Test.YtpdhoghkoakojaaDoorAW9
import Derived.Test.YtpdhoghkoakojaaDoorAW10
import Derived.Test.YtpdhoghkoakojaaDoorAW12
import Derived.Test.YtpdhoghkoakojaaDoorAW20
namespace Go.Proofs.YtpdhoghkoakojaaDoor.E
open Go.RowKit Go.Proofs.YtpdhoghkoakojaaDoorW.PrintWords Go.Proofs.YtpdhoghkoakojaaDoorW.PrintLast Go.Proofs.YtpdhoghkoakojaaDoorW.PrintMore
set_option linter.unusedVariables false
set_option linter.unusedSimpArgs false
def ex2 (a b : Ex) (Aa Ab : Option Addr) (ca cb : Nat) : Array Value := #[.int .i64 a.f0, .int .i64 a.f1.f0, .int .i64 a.f1.f1, .string a.f1.f2, .int .i64 a.f2, .int .i64 a.f3, .int .i64 a.f4, .string a.f5, .slice Aa a.f6.length ca, .int .i64 b.f0, .int .i64 b.f1.f0, .int .i64 b.f1.f1, .string b.f1.f2, .int .i64 b.f2, .int .i64 b.f3, .int .i64 b.f4, .string b.f5, .slice Ab b.f6.length cb]
theorem ex2_C {w : World} {g : Nat} {a b : Ex} {Aa Ab : Option Addr} {ca cb : Nat} (h : w.heap[g]? = some (.cells (ex2 a b Aa Ab ca cb) 26 (0, 0))) (ha : a.f6.length ≤ ca) (hb : b.f6.length ≤ cb) (hA : Kd.C k26 w Aa a.f6.length a.f6) (hB : Kd.C k26 w Ab b.f6.length b.f6) :
    Kd.C k26 w (some ⟨g, 0, none⟩) 2 [a, b] := by
  refine ⟨rfl, by omega, fun _ => ⟨_, rfl, ?_⟩⟩
  intro j p hp
  match j, hp with
  | 0, hp =>
    obtain rfl := Option.some.inj hp
    refine ⟨_, rfl, k26_mk w a ha hA, ?_⟩
    intro i u hu
    have hi : i < 9 := by
      have := (List.getElem?_eq_some_iff.1 hu).1; simpa using this
    obtain rfl | rfl | rfl | rfl | rfl | rfl | rfl | rfl | rfl : i = 0 ∨ i = 1 ∨ i = 2 ∨ i = 3 ∨ i = 4 ∨ i = 5 ∨ i = 6 ∨ i = 7 ∨ i = 8 := by omega
    · have hu' := Option.some.inj hu; subst hu'; rw [add_plain]; exact (bkC h 0).trans rfl
    · have hu' := Option.some.inj hu; subst hu'; rw [add_plain]; exact (bkC h 1).trans rfl
    · have hu' := Option.some.inj hu; subst hu'; rw [add_plain]; exact (bkC h 2).trans rfl
    · have hu' := Option.some.inj hu; subst hu'; rw [add_plain]; exact (bkC h 3).trans rfl
    · have hu' := Option.some.inj hu; subst hu'; rw [add_plain]; exact (bkC h 4).trans rfl
    · have hu' := Option.some.inj hu; subst hu'; rw [add_plain]; exact (bkC h 5).trans rfl
    · have hu' := Option.some.inj hu; subst hu'; rw [add_plain]; exact (bkC h 6).trans rfl
    · have hu' := Option.some.inj hu; subst hu'; rw [add_plain]; exact (bkC h 7).trans rfl
    · have hu' := Option.some.inj hu; subst hu'; rw [add_plain]; exact (bkC h 8).trans rfl
  | 1, hp =>
    obtain rfl := Option.some.inj hp
    refine ⟨_, rfl, k26_mk w b hb hB, ?_⟩
    intro i u hu
    have hi : i < 9 := by
      have := (List.getElem?_eq_some_iff.1 hu).1; simpa using this
    obtain rfl | rfl | rfl | rfl | rfl | rfl | rfl | rfl | rfl : i = 0 ∨ i = 1 ∨ i = 2 ∨ i = 3 ∨ i = 4 ∨ i = 5 ∨ i = 6 ∨ i = 7 ∨ i = 8 := by omega
    · have hu' := Option.some.inj hu; subst hu'; rw [add_plain]; exact (bkC h 9).trans rfl
    · have hu' := Option.some.inj hu; subst hu'; rw [add_plain]; exact (bkC h 10).trans rfl
    · have hu' := Option.some.inj hu; subst hu'; rw [add_plain]; exact (bkC h 11).trans rfl
    · have hu' := Option.some.inj hu; subst hu'; rw [add_plain]; exact (bkC h 12).trans rfl
    · have hu' := Option.some.inj hu; subst hu'; rw [add_plain]; exact (bkC h 13).trans rfl
    · have hu' := Option.some.inj hu; subst hu'; rw [add_plain]; exact (bkC h 14).trans rfl
    · have hu' := Option.some.inj hu; subst hu'; rw [add_plain]; exact (bkC h 15).trans rfl
    · have hu' := Option.some.inj hu; subst hu'; rw [add_plain]; exact (bkC h 16).trans rfl
    · have hu' := Option.some.inj hu; subst hu'; rw [add_plain]; exact (bkC h 17).trans rfl
theorem setRow_far (w : World) {g k : Nat} {o : Obj} (hn : ¬ g = k) (h : w.heap[k]? = some o) (cs : Array Value) : (w.setRow g cs).heap[k]? = some o := by
  unfold World.setRow
  show (Array.modify _ _ _)[k]? = _
  rw [Array.getElem?_modify, if_neg hn]; exact h
def refE (a b : Int) : Ex := ⟨2, zeroV, a, b, 0, ⟨#[]⟩, []⟩
def numE (n : Int) : Ex := ⟨1, ⟨1, n, ⟨#[]⟩⟩, 0, 0, 0, ⟨#[]⟩, []⟩
def twoE (op : Int) (a b : Ex) : Ex := ⟨op, zeroV, 0, 0, 0, ⟨#[]⟩, [a, b]⟩
theorem itoa_one (n : Nat) (h : n < 10) : Lib.itoa n = [UInt8.ofNat (48 + n)] := by
  unfold Lib.itoa
  rw [if_neg (by omega), Int.toNat_natCast]
  exact Lib.decDigits_one (i := n) (by omega)
theorem norm_leaf {e : Ex} (h : turnV e.f0 = 0) (h6 : e.f6 = []) : normF e = e := by
  rw [normF_eq, h6]
  unfold turnF
  rw [if_pos h]
  cases e
  simp at h6
  subst h6
  rfl
theorem ex1 : normalRes (twoE 13 (refE 1 0) (numE 5)) = (twoE 11 (numE 5) (refE 1 0), 0) := by kernel_rfl
theorem less01 : lessT (refE 0 0) (refE 1 0) = true := by
  unfold lessT
  rw [tl_right (by kernel_rfl), tl_right (by kernel_rfl), textF_eq, textF_eq]
  have h0 : Lib.itoa 0 = [48] := itoa_one 0 (by decide)
  have h1 : Lib.itoa 1 = [49] := itoa_one 1 (by decide)
  show decide ((82 :: (Lib.itoa 0 ++ 46 :: Lib.itoa 0)) < (82 :: (Lib.itoa 1 ++ 46 :: Lib.itoa 0))) = true
  rw [h0, h1]
  decide
theorem ex2r : normalRes (twoE 9 (refE 1 0) (refE 0 0)) = (twoE 9 (refE 0 0) (refE 1 0), 0) := by
  have hr : rightB (twoE 9 (refE 1 0) (refE 0 0)) = true := by kernel_rfl
  unfold normalRes
  rw [if_pos hr, normF_eq]
  have h1 : normF (refE 1 0) = refE 1 0 := norm_leaf rfl rfl
  have h2 : normF (refE 0 0) = refE 0 0 := norm_leaf rfl rfl
  have e : (twoE 9 (refE 1 0) (refE 0 0)).f6.map normF = [refE 1 0, refE 0 0] := by show [normF (refE 1 0), normF (refE 0 0)] = _; rw [h1, h2]
  rw [e]
  have ht : turnF 9 [refE 1 0, refE 0 0] = (9, [refE 0 0, refE 1 0]) := by
    unfold turnF
    rw [if_neg (by decide), if_pos (by decide), if_pos (show lessT ([refE 1 0, refE 0 0].getD 1 z26) ([refE 1 0, refE 0 0].getD 0 z26) = true from less01)]; rfl
  show ((⟨(turnF 9 _).1, _, _, _, _, _, (turnF 9 _).2⟩ : Ex), (0 : Int)) = _
  rw [ht]; rfl
theorem ex3 : ofRes [3] 1 1 [] = (⟨#[83, 51, 32]⟩, 0) := by
  have h3 : Lib.itoa 3 = [51] := itoa_one 3 (by decide)
  unfold ofRes
  rw [if_neg (by decide)]
  have e : ofT [3] 1 (1 : Int).toNat [] = [83, 51, 32] := by
    show headL [3] 1 1 ++ [] = _
    rw [headL, headL]
    have hb : bitB 1 0 = true := by kernel_rfl
    rw [hb, if_pos rfl]
    show [83] ++ (Lib.itoa 3 ++ [32]) ++ [] = _
    rw [h3]; rfl
  rw [e]
theorem ints_C {w : World} {g : Nat} {fz : Nat × Nat} (xs : List Int) (h : w.heap[g]? = some (.cells (xs.map (Value.int .i64)).toArray 3 fz)) (hl : xs.length ≤ 4611686018427387904) : (Kd.int .i64).C w (some ⟨g, 0, none⟩) xs.length xs := by
  refine ⟨rfl, by omega, fun _ => ⟨_, rfl, ?_⟩⟩
  intro j p hp
  refine ⟨[.int .i64 p], rfl, rfl, fun i u hu => ?_⟩
  have hi : i = 0 := by
    have := (List.getElem?_eq_some_iff.1 hu).1
    simpa using this
  subst hi
  have hu' := Option.some.inj hu
  subst hu'
  rw [add_plain]
  show w.cell? ⟨g, j * 1 + 0, none⟩ = _
  simp only [Nat.mul_one, Nat.add_zero]
  simp [World.cell?, h, hp]
theorem ad_block (a : Addr) (k : Nat) : (a.add k).block = a.block := by unfold Addr.add; split <;> rfl
theorem ad_off (a : Addr) (k : Nat) : (a.add k).off = a.off + k := by unfold Addr.add; split <;> simp_all
theorem rng3 : ∀ i : Nat, i < ([3] : List Int).length → -9223372036854775808 ≤ rd [3] i ∧ rd [3] i ≤ 9223372036854775807 := by
  intro i hi
  have e : i = 0 := by simpa using hi
  subst e
  decide
theorem norm_two {op p : Int} {x y a b : Ex} (hn : normalRes (twoE op x y) = (twoE p a b, 0)) (hg : rngF (twoE op x y) = true) (A : Option Addr) (W : World) (hT : TabW W) (hC : Kd.C KX W A 2 [x, y]) :
    Calls Tryd.prog 10 #[.agg #[.int .i64 op, .int .i64 0, .int .i64 0, .string ⟨#[]⟩, .int .i64 0, .int .i64 0, .int .i64 0, .string ⟨#[]⟩, .slice A 2 2]] W fun r w' => ∃ ad k, r = .returned (.tuple #[.agg (exC (twoE p a b) (some ad) k), .int .i64 0]) ∧ 2 ≤ k ∧ Kd.F KX w' (fun q => W.heap.size ≤ q) (some ad) 2 [a, b] ∧ Below W.heap.size W w' := by
  have h := Normal_ok (twoE op x y) A 2 W hT hg hC (Nat.le_refl 2)
  refine Calls.mono h ?_
  rintro r w' ⟨D, k, h1, h2, h3, h4⟩
  rw [hn] at h1 h2 h3
  obtain ⟨ad, had, _⟩ := (Kd.F_now h3).2.2 (show 0 < 2 by omega)
  subst had
  exact ⟨ad, k, h1, h2, h3, h4⟩
set_option maxHeartbeats 4000000 in
set_option maxRecDepth 100000 in
theorem examples_ok (w : World) (hT : TabW w) : Calls Tryd.prog 8 #[] w fun r w' => r = .returned (.bool true) ∧ Below w.heap.size w w' := by
  have HT := Lib.hid hT; clear hT
  have HN1 := Lib.hid (norm_two ex1 (by kernel_rfl))
  have HN2 := Lib.hid (norm_two ex2r (by kernel_rfl))
  go_enter Tryd.func8, Tryd.ntmps8
  go_upto_region 2 with (first | ((with_reducible refine gate_dst (N := 1) rfl ?_); refine box_event rfl (N := 1) rfl (cs := zerosE) (t := 26) (by first | rfl | (go_simp; done) | (go_simp; rfl)) ?_; intro g1 hgg w1 hbg1 hBg1;  have hg1w : w.heap.size ≤ g1 := (by omega); clear hgg) | ((with_reducible refine gate_store (p := 1) (v := .tmp 9) rfl ?_); refine wpList_store_row rfl 26 (.tmp 1) (.tmp 9) rfl g1 (exC (numE 5) none 0) rfl rfl 26 zerosE hbg1 (info_ex _ _ _) rfl (one_ex _ _ _) ?_))
  have hx2 := setRow_at w1 g1 _ zerosE (exC (numE 5) none 0) hbg1
  have hB2 : Below w.heap.size w (w1.setRow g1 (exC (numE 5) none 0)) := below_setRow' hBg1 hg1w _
  clear hbg1 hBg1
  generalize w1.setRow g1 (exC (numE 5) none 0) = w2 at hx2 hB2 ⊢
  obtain ⟨hz0, hz1, hz2, hz3, hz4, hz5, hz6, hz7, hz8⟩ := bkC9 hx2
  have HB2 := Lib.hid hB2; have HX2 := Lib.hid hx2; clear hB2 hx2
  go_upto_region 3 with (first | ((with_reducible refine gate_dst (N := 2) rfl ?_); refine box_event rfl (N := 2) rfl (cs := zerosE) (t := 26) (by first | rfl | (go_simp; done) | (go_simp; rfl)) ?_; intro g2 hgg w4 hbg2 hBg2;  clear hgg))
  have hl3 : (w2.alloc (.cells (ex2 (refE 1 0) (numE 5) none none 0 0) 26 (0, 0))).heap[w2.heap.size]? = some (.cells (ex2 (refE 1 0) (numE 5) none none 0 0) 26 (0, 0)) := heap_alloc_new w2 _
  have HB3 : Hid (Below w.heap.size w (w2.alloc (.cells (ex2 (refE 1 0) (numE 5) none none 0 0) 26 (0, 0)))) := Lib.hid (blA HB2.out _)
  refine (HN1.out _ _ (tab_at HT.out HB3.out) (ex2_C hl3 (Nat.le_refl 0) (Nat.le_refl 0) (Kd.C_nil _ _) (Kd.C_nil _ _))).mono ?_
  rintro rr w5 ⟨ad, k1, rfl, hk1, hF1, hB5⟩
  have HB5 : Hid (Below w.heap.size w w5) := Lib.hid (HB3.out.trans (hB5.mono HB3.out.size))
  have HC1 := Lib.hid (Kd.F_now hF1)
  clear hl3 HB3 hF1 hB5 HB2 hz0 hz1 hz2 hz3 hz4 hz5 hz6 hz7 hz8 HX2 HN1
  unfold exC
  go_upto_region 3 with (first | ((with_reducible refine gate_dst (N := 2) rfl ?_); refine box_event rfl (N := 2) rfl (cs := zerosE) (t := 26) (by first | rfl | (go_simp; done) | (go_simp; rfl)) ?_; intro g2 hgg w6 hbg2 hBg2;  have hg2w : w.heap.size ≤ g2 := (by have := HB5.out.size; omega); have hgg2 : w5.heap.size ≤ g2 := (by omega); clear hgg) | ((with_reducible refine gate_store (p := 2) (v := .tmp 16) rfl ?_); refine wpList_store_row rfl 26 (.tmp 2) (.tmp 16) rfl g2 (exC (twoE 11 (numE 5) (refE 1 0)) (some ad) k1) rfl rfl 26 zerosE hbg2 (info_ex _ _ _) rfl (one_ex _ _ _) ?_))
  have hx7 := setRow_at w6 g2 _ zerosE (exC (twoE 11 (numE 5) (refE 1 0)) (some ad) k1) hbg2
  have hB7 : Below w5.heap.size w5 (w6.setRow g2 (exC (twoE 11 (numE 5) (refE 1 0)) (some ad) k1)) := below_setRow' hBg2 hgg2 _
  clear hbg2 hBg2 hgg2
  generalize w6.setRow g2 (exC (twoE 11 (numE 5) (refE 1 0)) (some ad) k1) = w7 at hx7 hB7 ⊢
  replace HC1 := Lib.hid (Kd.C_below HC1.out hB7)
  have HB7 := Lib.hid (HB5.out.trans (hB7.mono HB5.out.size))
  have HX7 := Lib.hid hx7
  clear hx7 hB7 HB5
  go_wp2_with fail
  have hl8 : (w7.alloc (.cells (ex2 (refE 1 0) (refE 0 0) none none 0 0) 26 (0, 0))).heap[w7.heap.size]? = some (.cells (ex2 (refE 1 0) (refE 0 0) none none 0 0) 26 (0, 0)) := heap_alloc_new w7 _
  have hB8 : Below w7.heap.size w7 (w7.alloc (.cells (ex2 (refE 1 0) (refE 0 0) none none 0 0) 26 (0, 0))) := blA (Below.refl _ _) _
  have HB8 := Lib.hid (HB7.out.trans (hB8.mono HB7.out.size))
  refine (HN2.out _ _ (tab_at HT.out HB8.out) (ex2_C hl8 (Nat.le_refl 0) (Nat.le_refl 0) (Kd.C_nil _ _) (Kd.C_nil _ _))).mono ?_
  rintro rr w9 ⟨ae, k2, rfl, hk2, hF2, hB9⟩
  have HB9 : Hid (Below w.heap.size w w9) := Lib.hid (HB8.out.trans (hB9.mono HB8.out.size))
  have hB79 : Below w7.heap.size w7 w9 := hB8.trans (hB9.mono hB8.size)
  replace HC1 := Lib.hid (Kd.C_below HC1.out hB79)
  have HX9 := Lib.hid ((hB79.block g2 (blk_lt HX7.out)).trans HX7.out)
  have HC2 := Lib.hid (Kd.F_now hF2)
  clear hl8 hB8 HB8 hF2 hB9 hB79 HX7 HB7 HN2
  unfold exC
  go_upto_region 4 with (first | ((with_reducible refine gate_dst (N := 4) rfl ?_); refine box_event rfl (N := 4) rfl (cs := zerosE) (t := 26) (by first | rfl | (go_simp; done) | (go_simp; rfl)) ?_; intro g4 hgg w10 hbg4 hBg4;  have hg4w : w.heap.size ≤ g4 := (by have := HB9.out.size; omega); have hg4n : w9.heap.size ≤ g4 := (by omega); clear hgg) | ((with_reducible refine gate_store (p := 4) (v := .tmp 24) rfl ?_); refine wpList_store_row rfl 26 (.tmp 4) (.tmp 24) rfl g4 (exC (twoE 9 (refE 0 0) (refE 1 0)) (some ae) k2) rfl rfl 26 zerosE hbg4 (info_ex _ _ _) rfl (one_ex _ _ _) ?_))
  have hx11 := setRow_at w10 g4 _ zerosE (exC (twoE 9 (refE 0 0) (refE 1 0)) (some ae) k2) hbg4
  have hB11 : Below w9.heap.size w9 (w10.setRow g4 (exC (twoE 9 (refE 0 0) (refE 1 0)) (some ae) k2)) := below_setRow' hBg4 hg4n _
  clear hbg4 hBg4 hg4n
  generalize w10.setRow g4 (exC (twoE 9 (refE 0 0) (refE 1 0)) (some ae) k2) = w11 at hx11 hB11 ⊢
  have HB11 := Lib.hid (HB9.out.trans (hB11.mono HB9.out.size))
  have hC1 := Kd.C_below HC1.out hB11
  have hC2 := Kd.C_below HC2.out hB11
  have HX11 := Lib.hid hx11
  have HX2 := Lib.hid ((hB11.block g2 (blk_lt HX9.out)).trans HX9.out)
  clear hB11 HB9 HX9 HC1 HC2 hx11
  have hq8 : w11.cell? ⟨g2, 8, none⟩ = some (.slice (some ad) 2 k1) := (bkC HX2.out 8).trans rfl
  have hr8 : w11.cell? ⟨g4, 8, none⟩ = some (.slice (some ae) 2 k2) := (bkC HX11.out 8).trans rfl
  go_upto_region 6 with fail
  go_wp2_with fail
  have hl12 : (w11.alloc (.cells #[.int .i64 3] 3 (0, 0))).heap[w11.heap.size]? = some (.cells (([3] : List Int).map (Value.int .i64)).toArray 3 (0, 0)) := heap_alloc_new w11 _
  have hB12 : Below w11.heap.size w11 (w11.alloc (.cells #[.int .i64 3] 3 (0, 0))) := blA (Below.refl _ _) _
  have HB12 := Lib.hid (HB11.out.trans (hB12.mono HB11.out.size))
  have HOF := Lib.hid (Of_ok [3] [] 1 1 [] [] [] [] [] [] (some ⟨w11.heap.size, 0, none⟩) none none none none none none none 1 0 0 0 0 0 0 0 false false _ (by decide) (tab_at HT.out HB12.out) (fun x hx => by cases hx) (Kd.C_nil _ _) (by decide) (by decide) rng3 (ints_C [3] hl12 (by decide)))
  rw [ex3] at HOF
  have hC1b := Lib.hid (Kd.C_below hC1 hB12); have hC2b := Lib.hid (Kd.C_below hC2 hB12)
  clear hC1 hC2 hl12
  refine HOF.out.mono ?_
  rintro rr w13 ⟨rfl, hB13⟩
  have hX2 := (hB13.block g2 (by have := blk_lt HX2.out; have := hB12.size; omega)).trans ((hB12.block g2 (blk_lt HX2.out)).trans HX2.out)
  have hX4 := (hB13.block g4 (by have := blk_lt HX11.out; have := hB12.size; omega)).trans ((hB12.block g4 (blk_lt HX11.out)).trans HX11.out)
  have HBE := Lib.hid (HB12.out.trans (hB13.mono HB12.out.size))
  obtain ⟨_, _, _, x1, e1, hx1, _, _, _, _, f4, _, _, _, _, _, _⟩ := at_ex (Kd.C_below hC1b.out hB13) rfl 1 (by decide)
  obtain ⟨_, _, _, x2, e2, hx2, _, _, _, _, d4, _, _, _, _, _, _⟩ := at_ex (Kd.C_below hC2b.out hB13) rfl 0 (by decide)
  cases e1; cases e2
  obtain rfl := Option.some.inj hx1
  obtain rfl := Option.some.inj hx2
  have hq0 : w13.cell? ⟨g2, 0, none⟩ = some (.int .i64 11) := (bkC hX2 0).trans rfl
  have hq8' : w13.cell? ⟨g2, 8, none⟩ = some (.slice (some ad) 2 k1) := (bkC hX2 8).trans rfl
  have hr8' : w13.cell? ⟨g4, 8, none⟩ = some (.slice (some ae) 2 k2) := (bkC hX4 8).trans rfl
  have f4' : w13.cell? ⟨ad.block, ad.off + 9 + 4, none⟩ = some (.int .i64 1) := by rw [ad_block, ad_off] at f4; exact f4
  have d4' : w13.cell? ⟨ae.block, ae.off + 4, none⟩ = some (.int .i64 0) := by rw [ad_block, ad_off, Nat.add_zero] at d4; exact d4
  clear f4 d4
  clear hX2 hX4 hB12 hB13 hx1 hx2
  go_wp2_with fail
  go_ret
  exact ⟨rfl, HBE.out⟩
end Go.Proofs.YtpdhoghkoakojaaDoor.E
namespace Go.Proofs.YtpdhoghkoakojaaDoor.E
set_option linter.unusedSimpArgs false
set_option linter.unusedVariables false
open Go.RowKit Go.Proofs.YtpdhoghkoakojaaDoorW.PrintWords Go.Proofs.YtpdhoghkoakojaaDoorW.PrintLast Go.Proofs.YtpdhoghkoakojaaDoorW.PrintMore
theorem less_asymm {a b : Ex} (h : lessT a b = true) : lessT b a = false := by
  unfold lessT at h ⊢
  rw [decide_eq_true_eq] at h
  rw [decide_eq_false_iff_not]
  exact fun h2 => l_irrefl _ (l_trans h h2)
def opT (op : Int) : Int := if op = 11 then 13 else if op = 12 then 14 else if op = 13 then 11 else if op = 14 then 12 else op
def turnE (e : Ex) : Ex := if e.f6.length = 2 ∧ 9 ≤ e.f0 ∧ e.f0 ≤ 14 then ⟨opT e.f0, e.f1, e.f2, e.f3, e.f4, e.f5, e.f6.reverse⟩ else e
theorem op_six {op : Int} (h : 9 ≤ op ∧ op ≤ 14) : op = 9 ∨ op = 10 ∨ op = 11 ∨ op = 12 ∨ op = 13 ∨ op = 14 := by omega
theorem opT_six {op : Int} (h : 9 ≤ op ∧ op ≤ 14) : 9 ≤ opT op ∧ opT op ≤ 14 ∧ wantsI op = 2 ∧ wantsI (opT op) = 2 := by
  rcases op_six h with rfl | rfl | rfl | rfl | rfl | rfl <;> decide
theorem turnE_eq {e : Ex} (h : e.f6.length = 2 ∧ 9 ≤ e.f0 ∧ e.f0 ≤ 14) : turnE e = ⟨opT e.f0, e.f1, e.f2, e.f3, e.f4, e.f5, e.f6.reverse⟩ := by unfold turnE; rw [if_pos h]
theorem turnE_no {e : Ex} (h : ¬ (e.f6.length = 2 ∧ 9 ≤ e.f0 ∧ e.f0 ≤ 14)) : turnE e = e := by unfold turnE; rw [if_neg h]
theorem own_turn (e : Ex) : ownB (turnE e) = ownB e := by
  by_cases h : e.f6.length = 2 ∧ 9 ≤ e.f0 ∧ e.f0 ≤ 14
  · rw [turnE_eq h, Bool.eq_iff_iff, own_iff, own_iff]
    obtain ⟨a, b, c, d⟩ := opT_six h.2
    unfold ownP
    simp only [List.length_reverse]
    rw [if_neg (by omega), if_neg (by omega), if_neg (by omega), if_neg (by omega), if_neg (by omega), if_neg (by omega), c, d]
  · rw [turnE_no h]
theorem meas_turn (e : Ex) : meas (turnE e) = meas e := by
  rw [meas_eq, meas_eq e, own_turn]
  by_cases h : e.f6.length = 2 ∧ 9 ≤ e.f0 ∧ e.f0 ≤ 14
  · rw [turnE_eq h]
    obtain ⟨x, y, hxy⟩ := list_two h.1
    simp only [hxy, List.reverse_cons, List.reverse_nil, List.nil_append, List.cons_append]
    rw [measL_swap]
  · rw [turnE_no h]
theorem right_turn (e : Ex) : rightB (turnE e) = rightB e := by rw [right_meas, right_meas, meas_turn]
theorem rng_turn {e : Ex} (h : rngF e = true) : rngF (turnE e) = true := by
  by_cases h2 : e.f6.length = 2 ∧ 9 ≤ e.f0 ∧ e.f0 ≤ 14
  · rw [turnE_eq h2]
    rw [rngF_eq, Bool.and_eq_true] at h ⊢
    refine ⟨h.1, rngL_of (fun x hx => rngL_mem h.2 (List.mem_reverse.1 hx))⟩
  · rw [turnE_no h2]; exact h
theorem msk_turn (e : Ex) : mskE (turnE e) = mskE e := by
  by_cases h : e.f6.length = 2 ∧ 9 ≤ e.f0 ∧ e.f0 ≤ 14
  · rw [turnE_eq h, mskE_eq, mskE_eq e]
    obtain ⟨a, b, _⟩ := opT_six h.2
    obtain ⟨x, y, hxy⟩ := list_two h.1
    simp only [hxy, List.reverse_cons, List.reverse_nil, List.nil_append, List.cons_append]
    rw [if_neg (by omega), if_neg (by omega)]
    simp only [mskL, Nat.or_zero, Nat.zero_or]
    exact Nat.or_comm _ _
  · rw [turnE_no h]
theorem tab_turn (e : Ex) : tabN (turnE e) = tabN e := by
  cases hr : rightB e with
  | true => rw [tabN_msk hr, tabN_msk (by rw [right_turn]; exact hr), msk_turn]
  | false => unfold tabN; rw [right_turn, hr]; rfl
theorem inSet_turn (m : Int) (e : Ex) : inSet m (turnE e) = inSet m e := by unfold inSet; rw [tab_turn]
theorem rank_turn (r : List Int) (e : Ex) : rankF r (turnE e) = turnE (rankF r e) := by
  have h6 : (rankF r e).f6 = e.f6.map (rankF r) := by rw [rankF_eq]
  have h0 : (rankF r e).f0 = e.f0 := by rw [rankF_eq]
  by_cases h : e.f6.length = 2 ∧ 9 ≤ e.f0 ∧ e.f0 ≤ 14
  · have h2 : (rankF r e).f6.length = 2 ∧ 9 ≤ (rankF r e).f0 ∧ (rankF r e).f0 ≤ 14 := by rw [h6, h0, List.length_map]; exact h
    rw [turnE_eq h, turnE_eq h2, rankF_eq, rankF_eq]
    obtain ⟨a, b, _⟩ := opT_six h.2
    simp only []
    rw [if_neg (by omega), if_neg (by omega), List.map_reverse]
  · have h2 : ¬ ((rankF r e).f6.length = 2 ∧ 9 ≤ (rankF r e).f0 ∧ (rankF r e).f0 ≤ 14) := by rw [h6, h0, List.length_map]; exact h
    rw [turnE_no h, turnE_no h2]
theorem turn_two (op : Int) (h : 9 ≤ op ∧ op ≤ 14) (x y : Ex) (hx : rightB x = true) (hy : rightB y = true) : turnF (opT op) [y, x] = turnF op [x, y] := by
  rcases op_six h with rfl | rfl | rfl | rfl | rfl | rfl
  · have g : ∀ a b : Ex, turnF 9 [a, b] = if lessT b a = true then (9, [b, a]) else (9, [a, b]) := fun a b => rfl
    show turnF 9 [y, x] = _
    rw [g, g]
    by_cases h1 : lessT y x = true
    · rw [if_pos h1, if_neg (by rw [less_asymm h1]; decide)]
    · rw [if_neg h1]
      by_cases h2 : lessT x y = true
      · rw [if_pos h2]
      · rw [if_neg h2]
        unfold lessT at h1 h2
        rw [decide_eq_true_eq] at h1 h2
        rw [tl_eq hx hy (l_tot h2 h1)]
  · have g : ∀ a b : Ex, turnF 10 [a, b] = if lessT b a = true then (10, [b, a]) else (10, [a, b]) := fun a b => rfl
    show turnF 10 [y, x] = _
    rw [g, g]
    by_cases h1 : lessT y x = true
    · rw [if_pos h1, if_neg (by rw [less_asymm h1]; decide)]
    · rw [if_neg h1]
      by_cases h2 : lessT x y = true
      · rw [if_pos h2]
      · rw [if_neg h2]
        unfold lessT at h1 h2
        rw [decide_eq_true_eq] at h1 h2
        rw [tl_eq hx hy (l_tot h2 h1)]
  · rfl
  · rfl
  · rfl
  · rfl
theorem norm_turn {e : Ex} (hr : rightB e = true) : normF (turnE e) = normF e := by
  by_cases h : e.f6.length = 2 ∧ 9 ≤ e.f0 ∧ e.f0 ≤ 14
  · rw [turnE_eq h, normF_eq, normF_eq e]
    obtain ⟨x, y, hxy⟩ := list_two h.1
    have hx := right_norm (right_kid hr (x := x) (by rw [hxy]; simp))
    have hy := right_norm (right_kid hr (x := y) (by rw [hxy]; simp))
    simp only [hxy, List.reverse_cons, List.reverse_nil, List.nil_append, List.cons_append, List.map_cons, List.map_nil]
    rw [turn_two e.f0 h.2 _ _ hx hy]
  · rw [turnE_no h]
def Alike (cs ds : List Ex) : Prop := (∀ x ∈ cs, x ∈ ds ∨ turnE x ∈ ds) ∧ (∀ y ∈ ds, ∃ x ∈ cs, y = x ∨ y = turnE x)
theorem alike_right {cs ds : List Ex} (h : Alike cs ds) : ds.all rightB = cs.all rightB := by
  rw [Bool.eq_iff_iff, List.all_eq_true, List.all_eq_true]
  constructor
  · intro hd x hx
    rcases h.1 x hx with h1 | h1
    · exact hd x h1
    · rw [← right_turn]; exact hd _ h1
  · intro hc y hy
    obtain ⟨x, hx, rfl | rfl⟩ := h.2 y hy
    · exact hc y hx
    · rw [right_turn]; exact hc x hx
theorem alike_res (sz : List Int) (n m : Int) (hm63 : m < 2 ^ 63) {cs ds : List Ex} (h : Alike cs ds) : ofRes sz n m ds = ofRes sz n m cs := by
  unfold ofRes
  rw [alike_right h]
  by_cases hc : offP n sz.length m ∨ cs.all rightB = false
  · rw [if_pos hc, if_pos hc]
  rw [if_neg hc, if_neg hc]
  have ho : ¬ offP n sz.length m := fun h1 => hc (.inl h1)
  have hcr : ∀ x ∈ cs, rightB x = true := List.all_eq_true.1 (by
    cases hb : cs.all rightB with
    | true => rfl
    | false => exact absurd (.inr hb) hc)
  have hdr : ∀ x ∈ ds, rightB x = true := List.all_eq_true.1 (by rw [alike_right h]; exact List.all_eq_true.2 hcr)
  have hK : n.toNat ≤ 4 := by unfold offP at ho; omega
  have h0 : 0 ≤ m := by unfold offP at ho; omega
  have hd : m / 2 ^ n.toNat = 0 := by
    unfold offP at ho
    exact Classical.byContradiction (fun hn => ho (.inr (.inr (.inr (.inr hn)))))
  have e : condsF ((sel m ds).map (rankF (rsF m n.toNat n.toNat))) = condsF ((sel m cs).map (rankF (rsF m n.toNat n.toNat))) := by
    have rc := ranked_right hK h0 hm63 hd hcr
    have rd := ranked_right hK h0 hm63 hd hdr
    obtain ⟨a, b⟩ := condsF_asc rc
    obtain ⟨c, d⟩ := condsF_asc rd
    refine asc_unique _ _ c a (fun z => ?_)
    rw [b z, d z]
    simp only [List.map_map, List.mem_map, Function.comp_apply]
    constructor
    · rintro ⟨y, hy, rfl⟩
      obtain ⟨hy1, hy2⟩ := sel_mem hy
      obtain ⟨x, hx, rfl | rfl⟩ := h.2 y hy1
      · exact ⟨y, List.mem_filter.2 ⟨hx, hy2⟩, rfl⟩
      · rw [inSet_turn] at hy2
        have hxs : x ∈ sel m cs := List.mem_filter.2 ⟨hx, hy2⟩
        refine ⟨x, hxs, ?_⟩
        rw [rank_turn, norm_turn (rc _ (List.mem_map_of_mem hxs))]
    · rintro ⟨x, hx, rfl⟩
      obtain ⟨hx1, hx2⟩ := sel_mem hx
      rcases h.1 x hx1 with h1 | h1
      · exact ⟨x, List.mem_filter.2 ⟨h1, hx2⟩, rfl⟩
      · refine ⟨turnE x, List.mem_filter.2 ⟨h1, by rw [inSet_turn]; exact hx2⟩, ?_⟩
        rw [rank_turn, norm_turn (rc _ (List.mem_map_of_mem hx))]
  unfold ofT
  rw [e]
def wayB (which : Int) (i : Nat) : Bool := Go.bits .and .i64 (which / 2 ^ (i % 8)) 1 == 1
def wayE (which : Int) (i : Nat) (x : Ex) : Ex := if wayB which i = true then turnE x else x
def way1 (which : Int) (i : Nat) (x : Ex) : List Ex := if i % 3 = 0 then [wayE which i x, wayE which i x] else [wayE which i x]
def waysL (which : Int) : List Ex → Nat → List Ex
  | [], _ => []
  | x :: l, i => waysL which l (i + 1) ++ way1 which i x
theorem way1_mem {which : Int} {i : Nat} {x y : Ex} : y ∈ way1 which i x ↔ y = wayE which i x := by
  unfold way1
  split <;> simp
theorem wayE_or (which : Int) (i : Nat) (x : Ex) : wayE which i x = x ∨ wayE which i x = turnE x := by unfold wayE; split <;> simp
theorem ways_alike (which : Int) : ∀ (l : List Ex) (i : Nat), Alike l (waysL which l i)
  | [], i => ⟨fun x hx => (by cases hx), fun y hy => (by cases hy)⟩
  | x :: l, i => by
    obtain ⟨h1, h2⟩ := ways_alike which l (i + 1)
    refine ⟨fun z hz => ?_, fun y hy => ?_⟩
    · rw [waysL]
      rcases List.mem_cons.1 hz with rfl | hz
      · rcases wayE_or which i z with e | e
        · exact .inl (List.mem_append_right _ (way1_mem.2 e.symm))
        · exact .inr (List.mem_append_right _ (way1_mem.2 e.symm))
      · rcases h1 z hz with h | h
        · exact .inl (List.mem_append_left _ h)
        · exact .inr (List.mem_append_left _ h)
    · rw [waysL] at hy
      rcases List.mem_append.1 hy with hy | hy
      · obtain ⟨z, hz, h⟩ := h2 y hy
        exact ⟨z, .tail _ hz, h⟩
      · rw [way1_mem.1 hy]
        exact ⟨x, .head _, wayE_or which i x⟩
theorem ways_len (which : Int) : ∀ (l : List Ex) (i : Nat), (waysL which l i).length ≤ 2 * l.length
  | [], i => Nat.le_refl _
  | x :: l, i => by
    have := ways_len which l (i + 1)
    rw [waysL, List.length_append, way1]
    split <;> simp only [List.length_cons, List.length_nil] <;> omega
theorem ways_rng (which : Int) {l : List Ex} (h : ∀ x ∈ l, rngF x = true) (i : Nat) : ∀ y ∈ waysL which l i, rngF y = true := fun y hy => by
  obtain ⟨x, hx, rfl | rfl⟩ := (ways_alike which l i).2 y hy
  · exact h y hx
  · exact rng_turn (h x hx)
theorem ways_step (which : Int) {l : List Ex} {i : Nat} (h : i < l.length) : waysL which (l.drop i) i = waysL which (l.drop (i + 1)) (i + 1) ++ way1 which i l[i] := by
  rw [List.drop_eq_getElem_cons h, waysL]
end Go.Proofs.YtpdhoghkoakojaaDoor.E
namespace Go.Proofs.YtpdhoghkoakojaaDoor.E
open Go.RowKit Go.Proofs.YtpdhoghkoakojaaDoorW.PrintWords Go.Proofs.YtpdhoghkoakojaaDoorW.PrintLast Go.Proofs.YtpdhoghkoakojaaDoorW.PrintMore
set_option linter.unusedVariables false
set_option linter.unusedSimpArgs false
def OldE (y : Ex) (w0 W : World) (r : Ending) (w' : World) : Prop := ∃ D k, r = .returned (.agg (exC y D k)) ∧ y.f6.length ≤ k ∧ Kd.F KX w' (fun b => b < w0.heap.size ∨ W.heap.size ≤ b) D y.f6.length y.f6 ∧ Below W.heap.size W w'
theorem heap23 : Kd.Heap k23 := Kd.heap_iso _ (Kd.heap_pair (Kd.heap_int _) (Kd.heap_pair (Kd.heap_int _) Kd.heap_string))
theorem heapX : Kd.Heap KX := Kd.heap_fix (fun d hd => Kd.heap_iso _ (Kd.heap_pair (Kd.heap_int _) (Kd.heap_pair heap23 (Kd.heap_pair (Kd.heap_int _) (Kd.heap_pair (Kd.heap_int _) (Kd.heap_pair (Kd.heap_int _) (Kd.heap_pair Kd.heap_string (Kd.heap_slice _ hd))))))))
theorem old_F {w0 w : World} {A : Option Addr} {n : Nat} {l : List Ex} {S : Nat → Prop} (h : Kd.C KX w0 A n l) (hb : Below w0.heap.size w0 w) : Kd.F KX w (fun b => b < w0.heap.size ∨ S b) A n l := fun W' hW =>
  heapX.C (fun k hk => (hW k (.inl hk) (Nat.lt_of_lt_of_le hk hb.size)).trans (hb.block k hk)) h
theorem turn_end {e x y : Ex} {w0 w w' : World} {s : Nat} {Ax Ay : Option Addr} {cx cy : Nat} {o : Int} (hxy : e.f6 = [x, y]) (ho : 9 ≤ e.f0 ∧ e.f0 ≤ 14) (hoo : opT e.f0 = o) (hCx : Kd.C KX w0 Ax x.f6.length x.f6) (hCy : Kd.C KX w0 Ay y.f6.length y.f6) (hcx : x.f6.length ≤ cx) (hcy : y.f6.length ≤ cy)
    (h0 : Below w0.heap.size w0 w) (hsw : w.heap.size ≤ s) (hs : w'.heap[s]? = some (.cells (ex2 y x Ay Ax cy cx) 26 (0, 0))) (hB : Below w.heap.size w w') :
    OldE (turnE e) w0 w (.returned (.agg (exC ⟨o, e.f1, e.f2, e.f3, e.f4, e.f5, [y, x]⟩ (some ⟨s, 0, none⟩) 2))) w' := by
  have ht : turnE e = ⟨o, e.f1, e.f2, e.f3, e.f4, e.f5, [y, x]⟩ := by
    rw [turnE_eq ⟨by rw [hxy]; rfl, ho⟩, hoo, hxy]; rfl
  rw [ht]
  refine ⟨_, _, rfl, Nat.le_refl 2, fun W' hW => ?_, hB⟩
  have hb : ∀ k, k < w0.heap.size → W'.heap[k]? = w0.heap[k]? := fun k hk => by
    have hkw : k < w.heap.size := Nat.lt_of_lt_of_le hk h0.size
    rw [hW k (.inl hk) (Nat.lt_of_lt_of_le hkw hB.size), hB.block k hkw, h0.block k hk]
  exact ex2_C ((hW s (.inr hsw) (blk_lt hs)).trans hs) hcy hcx (heapX.C hb hCy) (heapX.C hb hCx)
set_option maxHeartbeats 8000000 in
set_option maxRecDepth 100000 in
theorem turnW_ok (e : Ex) (A : Option Addr) (c : Nat) (w0 w : World) (hC : Kd.C KX w0 A e.f6.length e.f6) (hc : e.f6.length ≤ c) (h0 : Below w0.heap.size w0 w) :
    Calls Tryd.prog 21 #[.agg (exC e A c)] w (OldE (turnE e) w0 w) := by
  have HC := Lib.hid hC; have H0 := Lib.hid h0; clear hC h0
  unfold exC
  go_enter Tryd.func21, Tryd.ntmps21
  go_upto_region 1 with (first | ((with_reducible refine gate_dst (N := 1) rfl ?_); refine box_event rfl (N := 1) rfl (cs := exC e A c) (t := 26) (by first | rfl | (go_simp; done) | (go_simp; rfl)) ?_; intro g hgg w1 hbg hBg;  have hgg1 : w.heap.size ≤ g := (by omega); clear hgg) | ((with_reducible refine gate_dst (N := 2) rfl ?_); refine box_event rfl (N := 2) rfl (cs := zerosE) (t := 26) (by first | rfl | (go_simp; done) | (go_simp; rfl)) ?_; intro rb hgg w2 hbrb hBrb;  have hrb1 : w1.heap.size ≤ rb := (by omega); clear hgg))
  have hg2 := (hBrb.block g (blk_lt hbg)).trans hbg
  have HG := Lib.hid hg2; have HR := Lib.hid hbrb; have HB := Lib.hid (hBg.trans (hBrb.mono hBg.size))
  have hrw : w.heap.size ≤ rb := by have := hBg.size; omega
  have hgr : g < rb := by have := blk_lt hbg; omega
  clear hg2 hbg hbrb hBg hBrb
  obtain ⟨hz0, hz1, hz2, hz3, hz4, hz5, hz6, hz7, hz8⟩ := bkC9 HG.out
  by_cases h2 : e.f6.length = 2
  · have HL := Lib.hid h2
    have hn2 : ((e.f6.length : Int) != 2) = false := bne_eq_false_iff_eq.mpr (by omega)
    obtain ⟨x, y, hxy⟩ := list_two h2
    have HXY := Lib.hid hxy
    clear h2 hxy
    go_upto_region 4 with (first | ((with_reducible refine gate_dst (N := 3) rfl ?_); refine box_event rfl (N := 3) rfl (cs := zerosE) (t := 26) (by first | rfl | (go_simp; done) | (go_simp; rfl)) ?_; intro xb hgg w3 hbxb hBxb;  have hxb1 : w2.heap.size ≤ xb := (by omega); clear hgg) | ((with_reducible refine gate_store (p := 3) (v := .tmp 9) rfl ?_); refine wpList_store_row rfl 26 (.tmp 3) (.tmp 9) rfl xb (exC e A c) rfl rfl 26 zerosE hbxb (info_ex _ _ _) rfl (one_ex _ _ _) ?_))
    have hx4 := setRow_at w3 xb _ zerosE (exC e A c) hbxb
    have hB24 : Below w2.heap.size w2 (w3.setRow xb (exC e A c)) := below_setRow' hBxb hxb1 _
    clear hbxb hBxb
    generalize w3.setRow xb (exC e A c) = w4 at hx4 hB24 ⊢
    have HX4 := Lib.hid hx4
    have HG4 := Lib.hid ((hB24.block g (blk_lt HG.out)).trans HG.out)
    have HR4 := Lib.hid ((hB24.block rb (blk_lt HR.out)).trans HR.out)
    have HB4 := Lib.hid (HB.out.trans (hB24.mono HB.out.size))
    have hgx : g ≠ xb := by have := blk_lt HG.out; omega
    have hrx : rb ≠ xb := by have := blk_lt HR.out; omega
    have hx4w : w.heap.size ≤ xb := by have := HB.out.size; omega
    have hw02 : w0.heap.size ≤ w.heap.size := H0.out.size
    clear hx4 hB24 hz0 hz1 hz2 hz3 hz4 hz5 hz6 hz7 hz8
    obtain ⟨ad, Ax, cx, x', rfl, hx, p0, p1, p2, p3, p4, p5, p6, p7, p8, hcx, hCx⟩ := at_ex HC.out rfl 0 (by rw [HL.out]; decide)
    obtain ⟨_, Ay, cy, y', had, hy, q0, q1, q2, q3, q4, q5, q6, q7, q8, hcy, hCy⟩ := at_ex HC.out rfl 1 (by rw [HL.out]; decide)
    cases had
    rw [HXY.out] at hx hy
    obtain rfl := Option.some.inj hx
    obtain rfl := Option.some.inj hy
    have HCX := Lib.hid hCx; have HCY := Lib.hid hCy
    have hadx : ad.block ≠ xb := by have := cellq_lt q0; rw [ad_block] at this; omega
    simp only [Nat.zero_mul, Nat.one_mul] at p0 p1 p2 p3 p4 p5 p6 p7 p8 q0 q1 q2 q3 q4 q5 q6 q7 q8
    have hb04 : Below w0.heap.size w0 w4 := H0.out.trans (HB4.out.mono hw02)
    replace p0 : w4.cell? ad = some (.int .i64 x.f0) := by have := pw_cell_below hb04 p0; rwa [show ad.add 0 = ad from rfl] at this
    replace p1 := pw_cell_below hb04 p1; replace p2 := pw_cell_below hb04 p2; replace p3 := pw_cell_below hb04 p3; replace p4 := pw_cell_below hb04 p4; replace p5 := pw_cell_below hb04 p5; replace p6 := pw_cell_below hb04 p6; replace p7 := pw_cell_below hb04 p7; replace p8 := pw_cell_below hb04 p8
    replace q0 := pw_cell_below hb04 q0; replace q1 := pw_cell_below hb04 q1; replace q2 := pw_cell_below hb04 q2; replace q3 := pw_cell_below hb04 q3; replace q4 := pw_cell_below hb04 q4; replace q5 := pw_cell_below hb04 q5; replace q6 := pw_cell_below hb04 q6; replace q7 := pw_cell_below hb04 q7; replace q8 := pw_cell_below hb04 q8
    rw [show ad.add 0 = ad from rfl] at p1 p2 p3 p4 p5 p6 p7 p8
    rw [ad_block, ad_off] at q1 q2 q3 q4 q5 q6 q7 q8
    rw [show ad.add 9 = ⟨ad.block, ad.off + 9, none⟩ from rfl] at q0
    have hgc : w4.cell? ⟨g, 8, none⟩ = some (.slice (some ad) e.f6.length c) := (bkC HG4.out 8).trans rfl
    have hxc : w4.cell? ⟨xb, 8, none⟩ = some (.slice (some ad) e.f6.length c) := (bkC HX4.out 8).trans rfl
    have hxf : w4.frozen? ⟨xb, 8, none⟩ = false := bkF HX4.out 8
    have hl0 : 0 < e.f6.length := by rw [HL.out]; decide
    have hl1 : 1 < e.f6.length := by rw [HL.out]; decide
    have hl1i : (1 : Int) < e.f6.length := by omega
    have hxb4 : xb < w4.heap.size := blk_lt HX4.out
    clear hb04 hn2
    simp only [Act.put, Array.set!, Array.setIfInBounds]
    go_region
    all_goals
      have hs5 : (((w4.setCell ⟨xb, 8, none⟩ (.slice (some ⟨w4.heap.size, 0, none⟩) 2 2)).alloc (.cells (ex2 y x Ay Ax cy cx) 26 (0, 0))).drew).heap[w4.heap.size]? = some (.cells (ex2 y x Ay Ax cy cx) 26 (0, 0)) := by
        have h := heap_alloc_new (w4.setCell ⟨xb, 8, none⟩ (.slice (some ⟨w4.heap.size, 0, none⟩) 2 2)) (.cells (ex2 y x Ay Ax cy cx) 26 (0, 0))
        rw [show (w4.setCell ⟨xb, 8, none⟩ (.slice (some ⟨w4.heap.size, 0, none⟩) 2 2)).heap.size = w4.heap.size from by simp] at h
        exact h
      have hxx5 : (((w4.setCell ⟨xb, 8, none⟩ (.slice (some ⟨w4.heap.size, 0, none⟩) 2 2)).alloc (.cells (ex2 y x Ay Ax cy cx) 26 (0, 0))).drew).heap[xb]? = some (.cells (exC ⟨e.f0, e.f1, e.f2, e.f3, e.f4, e.f5, [y, x]⟩ (some ⟨w4.heap.size, 0, none⟩) 2) 26 (0, 0)) := bkA (blk_set HX4.out 8 _) _
      have hgg5 : (((w4.setCell ⟨xb, 8, none⟩ (.slice (some ⟨w4.heap.size, 0, none⟩) 2 2)).alloc (.cells (ex2 y x Ay Ax cy cx) 26 (0, 0))).drew).heap[g]? = some (.cells (exC e (some ad) c) 26 (0, 0)) := bkA (blk_far HG4.out hgx _) _
      have hrr5 : (((w4.setCell ⟨xb, 8, none⟩ (.slice (some ⟨w4.heap.size, 0, none⟩) 2 2)).alloc (.cells (ex2 y x Ay Ax cy cx) 26 (0, 0))).drew).heap[rb]? = some (.cells zerosE 26 (0, 0)) := bkA (blk_far HR4.out hrx _) _
      have hBB5 : Below w.heap.size w (((w4.setCell ⟨xb, 8, none⟩ (.slice (some ⟨w4.heap.size, 0, none⟩) 2 2)).alloc (.cells (ex2 y x Ay Ax cy cx) 26 (0, 0))).drew) := ((HB4.out.setCell (p := ⟨xb, 8, none⟩) hx4w _).alloc (by rw [show (w4.setCell ⟨xb, 8, none⟩ (.slice (some ⟨w4.heap.size, 0, none⟩) 2 2)).heap.size = w4.heap.size from by simp]; exact HB4.out.size) _).drew
      unfold ex2 at hs5 hxx5 hgg5 hrr5 hBB5
      generalize ((w4.setCell ⟨xb, 8, none⟩ (.slice (some ⟨w4.heap.size, 0, none⟩) 2 2)).alloc (.cells #[.int .i64 y.f0, .int .i64 y.f1.f0, .int .i64 y.f1.f1, .string y.f1.f2, .int .i64 y.f2, .int .i64 y.f3, .int .i64 y.f4, .string y.f5, .slice Ay y.f6.length cy, .int .i64 x.f0, .int .i64 x.f1.f0, .int .i64 x.f1.f1, .string x.f1.f2, .int .i64 x.f2, .int .i64 x.f3, .int .i64 x.f4, .string x.f5, .slice Ax x.f6.length cx] 26 (0, 0))).drew = w5 at hs5 hxx5 hgg5 hrr5 hBB5 ⊢
      have hsw : w.heap.size ≤ w4.heap.size := HB4.out.size
      have hxs : xb ≠ w4.heap.size := by omega
      have hrs : ¬ rb = w4.heap.size := by have := blk_lt HR4.out; omega
      generalize w4.heap.size = s5 at hs5 hxx5 hsw hrs hxs ⊢
      clear hgc hxc hxf hl0 hl1 hl1i hxb4 p0 p1 p2 p3 p4 p5 p6 p7 p8 q0 q1 q2 q3 q4 q5 q6 q7 q8 hx hy
      have HS5 := Lib.hid hs5; have HX5 := Lib.hid hxx5; have HG5 := Lib.hid hgg5; have HR5 := Lib.hid hrr5; have HB5 := Lib.hid hBB5
      clear hs5 hxx5 hgg5 hrr5 hBB5
      obtain ⟨hz0, hz1, hz2, hz3, hz4, hz5, hz6, hz7, hz8⟩ := bkC9 HG5.out
      go_upto_region 6 with fail
      by_cases h9 : e.f0 = 9
      · have HO := Lib.hid h9
        have hs9 : (e.f0 == 9) = true := (by simp only [beq_iff_eq, beq_eq_false_iff_ne]; omega)
        clear h9
        obtain ⟨hy0, hy1, hy2, hy3, hy4, hy5, hy6, hy7, hy8⟩ := bkC9 HX5.out
        have HRZ := HR5; have HSZ := HS5; have HBZ := HB5
        go_wp2_with ((with_reducible refine gate_store (p := 2) (v := .tmp 25) rfl ?_); refine wpList_store_row rfl 26 (.tmp 2) (.tmp 25) rfl rb (exC ⟨e.f0, e.f1, e.f2, e.f3, e.f4, e.f5, [y, x]⟩ (some ⟨s5, 0, none⟩) 2) rfl rfl 26 zerosE HRZ.out (info_ex _ _ _) rfl (one_ex _ _ _) ?_)
        refine bodyPost_ret (results_cell_row rfl _ _ rb 26 (exC ⟨e.f0, e.f1, e.f2, e.f3, e.f4, e.f5, [y, x]⟩ (some ⟨s5, 0, none⟩) 2) (0, 0) _ rfl (setRow_at _ rb _ zerosE _ HRZ.out) Tryd.underlying26 rfl (info_ex _ _ _)) rfl ?_; exact turn_end HXY.out (by have := HO.out; omega) (by rw [HO.out]; rfl) HCX.out HCY.out hcx hcy H0.out hsw (setRow_far _ hrs HSZ.out _) (below_setRow' HBZ.out hrw _)
      by_cases h10 : e.f0 = 10
      · have HO := Lib.hid h10
        have hs9 : (e.f0 == 9) = false := (by simp only [beq_iff_eq, beq_eq_false_iff_ne]; omega)
        have hs10 : (e.f0 == 10) = true := (by simp only [beq_iff_eq, beq_eq_false_iff_ne]; omega)
        clear h9 h10
        obtain ⟨hy0, hy1, hy2, hy3, hy4, hy5, hy6, hy7, hy8⟩ := bkC9 HX5.out
        have HRZ := HR5; have HSZ := HS5; have HBZ := HB5
        go_wp2_with ((with_reducible refine gate_store (p := 2) (v := .tmp 25) rfl ?_); refine wpList_store_row rfl 26 (.tmp 2) (.tmp 25) rfl rb (exC ⟨e.f0, e.f1, e.f2, e.f3, e.f4, e.f5, [y, x]⟩ (some ⟨s5, 0, none⟩) 2) rfl rfl 26 zerosE HRZ.out (info_ex _ _ _) rfl (one_ex _ _ _) ?_)
        refine bodyPost_ret (results_cell_row rfl _ _ rb 26 (exC ⟨e.f0, e.f1, e.f2, e.f3, e.f4, e.f5, [y, x]⟩ (some ⟨s5, 0, none⟩) 2) (0, 0) _ rfl (setRow_at _ rb _ zerosE _ HRZ.out) Tryd.underlying26 rfl (info_ex _ _ _)) rfl ?_; exact turn_end HXY.out (by have := HO.out; omega) (by rw [HO.out]; rfl) HCX.out HCY.out hcx hcy H0.out hsw (setRow_far _ hrs HSZ.out _) (below_setRow' HBZ.out hrw _)
      by_cases h11 : e.f0 = 11
      · have HO := Lib.hid h11
        have hs9 : (e.f0 == 9) = false := (by simp only [beq_iff_eq, beq_eq_false_iff_ne]; omega)
        have hs10 : (e.f0 == 10) = false := (by simp only [beq_iff_eq, beq_eq_false_iff_ne]; omega)
        have hs11 : (e.f0 == 11) = true := (by simp only [beq_iff_eq, beq_eq_false_iff_ne]; omega)
        clear h9 h10 h11
        obtain ⟨hy0, hy1, hy2, hy3, hy4, hy5, hy6, hy7, hy8⟩ := bkC9 HX5.out
        have hxf := bkF HX5.out 0
        have HRZ := Lib.hid (blk_far HR5.out (show rb ≠ (⟨xb, 0, none⟩ : Addr).block from hrx) (.int .i64 13))
        have HSZ := Lib.hid (blk_far HS5.out (show s5 ≠ (⟨xb, 0, none⟩ : Addr).block from fun h => hxs h.symm) (.int .i64 13))
        have HBZ := Lib.hid (HB5.out.setCell (p := ⟨xb, 0, none⟩) hx4w (.int .i64 13))
        go_wp2_with ((with_reducible refine gate_store (p := 2) (v := .tmp 29) rfl ?_); refine wpList_store_row rfl 26 (.tmp 2) (.tmp 29) rfl rb (exC ⟨13, e.f1, e.f2, e.f3, e.f4, e.f5, [y, x]⟩ (some ⟨s5, 0, none⟩) 2) rfl rfl 26 zerosE HRZ.out (info_ex _ _ _) rfl (one_ex _ _ _) ?_)
        refine bodyPost_ret (results_cell_row rfl _ _ rb 26 (exC ⟨13, e.f1, e.f2, e.f3, e.f4, e.f5, [y, x]⟩ (some ⟨s5, 0, none⟩) 2) (0, 0) _ rfl (setRow_at _ rb _ zerosE _ HRZ.out) Tryd.underlying26 rfl (info_ex _ _ _)) rfl ?_; exact turn_end HXY.out (by have := HO.out; omega) (by rw [HO.out]; rfl) HCX.out HCY.out hcx hcy H0.out hsw (setRow_far _ hrs HSZ.out _) (below_setRow' HBZ.out hrw _)
      by_cases h12 : e.f0 = 12
      · have HO := Lib.hid h12
        have hs9 : (e.f0 == 9) = false := (by simp only [beq_iff_eq, beq_eq_false_iff_ne]; omega)
        have hs10 : (e.f0 == 10) = false := (by simp only [beq_iff_eq, beq_eq_false_iff_ne]; omega)
        have hs11 : (e.f0 == 11) = false := (by simp only [beq_iff_eq, beq_eq_false_iff_ne]; omega)
        have hs12 : (e.f0 == 12) = true := (by simp only [beq_iff_eq, beq_eq_false_iff_ne]; omega)
        clear h9 h10 h11 h12
        obtain ⟨hy0, hy1, hy2, hy3, hy4, hy5, hy6, hy7, hy8⟩ := bkC9 HX5.out
        have hxf := bkF HX5.out 0
        have HRZ := Lib.hid (blk_far HR5.out (show rb ≠ (⟨xb, 0, none⟩ : Addr).block from hrx) (.int .i64 14))
        have HSZ := Lib.hid (blk_far HS5.out (show s5 ≠ (⟨xb, 0, none⟩ : Addr).block from fun h => hxs h.symm) (.int .i64 14))
        have HBZ := Lib.hid (HB5.out.setCell (p := ⟨xb, 0, none⟩) hx4w (.int .i64 14))
        go_wp2_with ((with_reducible refine gate_store (p := 2) (v := .tmp 33) rfl ?_); refine wpList_store_row rfl 26 (.tmp 2) (.tmp 33) rfl rb (exC ⟨14, e.f1, e.f2, e.f3, e.f4, e.f5, [y, x]⟩ (some ⟨s5, 0, none⟩) 2) rfl rfl 26 zerosE HRZ.out (info_ex _ _ _) rfl (one_ex _ _ _) ?_)
        refine bodyPost_ret (results_cell_row rfl _ _ rb 26 (exC ⟨14, e.f1, e.f2, e.f3, e.f4, e.f5, [y, x]⟩ (some ⟨s5, 0, none⟩) 2) (0, 0) _ rfl (setRow_at _ rb _ zerosE _ HRZ.out) Tryd.underlying26 rfl (info_ex _ _ _)) rfl ?_; exact turn_end HXY.out (by have := HO.out; omega) (by rw [HO.out]; rfl) HCX.out HCY.out hcx hcy H0.out hsw (setRow_far _ hrs HSZ.out _) (below_setRow' HBZ.out hrw _)
      by_cases h13 : e.f0 = 13
      · have HO := Lib.hid h13
        have hs9 : (e.f0 == 9) = false := (by simp only [beq_iff_eq, beq_eq_false_iff_ne]; omega)
        have hs10 : (e.f0 == 10) = false := (by simp only [beq_iff_eq, beq_eq_false_iff_ne]; omega)
        have hs11 : (e.f0 == 11) = false := (by simp only [beq_iff_eq, beq_eq_false_iff_ne]; omega)
        have hs12 : (e.f0 == 12) = false := (by simp only [beq_iff_eq, beq_eq_false_iff_ne]; omega)
        have hs13 : (e.f0 == 13) = true := (by simp only [beq_iff_eq, beq_eq_false_iff_ne]; omega)
        clear h9 h10 h11 h12 h13
        obtain ⟨hy0, hy1, hy2, hy3, hy4, hy5, hy6, hy7, hy8⟩ := bkC9 HX5.out
        have hxf := bkF HX5.out 0
        have HRZ := Lib.hid (blk_far HR5.out (show rb ≠ (⟨xb, 0, none⟩ : Addr).block from hrx) (.int .i64 11))
        have HSZ := Lib.hid (blk_far HS5.out (show s5 ≠ (⟨xb, 0, none⟩ : Addr).block from fun h => hxs h.symm) (.int .i64 11))
        have HBZ := Lib.hid (HB5.out.setCell (p := ⟨xb, 0, none⟩) hx4w (.int .i64 11))
        go_wp2_with ((with_reducible refine gate_store (p := 2) (v := .tmp 37) rfl ?_); refine wpList_store_row rfl 26 (.tmp 2) (.tmp 37) rfl rb (exC ⟨11, e.f1, e.f2, e.f3, e.f4, e.f5, [y, x]⟩ (some ⟨s5, 0, none⟩) 2) rfl rfl 26 zerosE HRZ.out (info_ex _ _ _) rfl (one_ex _ _ _) ?_)
        refine bodyPost_ret (results_cell_row rfl _ _ rb 26 (exC ⟨11, e.f1, e.f2, e.f3, e.f4, e.f5, [y, x]⟩ (some ⟨s5, 0, none⟩) 2) (0, 0) _ rfl (setRow_at _ rb _ zerosE _ HRZ.out) Tryd.underlying26 rfl (info_ex _ _ _)) rfl ?_; exact turn_end HXY.out (by have := HO.out; omega) (by rw [HO.out]; rfl) HCX.out HCY.out hcx hcy H0.out hsw (setRow_far _ hrs HSZ.out _) (below_setRow' HBZ.out hrw _)
      by_cases h14 : e.f0 = 14
      · have HO := Lib.hid h14
        have hs9 : (e.f0 == 9) = false := (by simp only [beq_iff_eq, beq_eq_false_iff_ne]; omega)
        have hs10 : (e.f0 == 10) = false := (by simp only [beq_iff_eq, beq_eq_false_iff_ne]; omega)
        have hs11 : (e.f0 == 11) = false := (by simp only [beq_iff_eq, beq_eq_false_iff_ne]; omega)
        have hs12 : (e.f0 == 12) = false := (by simp only [beq_iff_eq, beq_eq_false_iff_ne]; omega)
        have hs13 : (e.f0 == 13) = false := (by simp only [beq_iff_eq, beq_eq_false_iff_ne]; omega)
        have hs14 : (e.f0 == 14) = true := (by simp only [beq_iff_eq, beq_eq_false_iff_ne]; omega)
        clear h9 h10 h11 h12 h13 h14
        obtain ⟨hy0, hy1, hy2, hy3, hy4, hy5, hy6, hy7, hy8⟩ := bkC9 HX5.out
        have hxf := bkF HX5.out 0
        have HRZ := Lib.hid (blk_far HR5.out (show rb ≠ (⟨xb, 0, none⟩ : Addr).block from hrx) (.int .i64 12))
        have HSZ := Lib.hid (blk_far HS5.out (show s5 ≠ (⟨xb, 0, none⟩ : Addr).block from fun h => hxs h.symm) (.int .i64 12))
        have HBZ := Lib.hid (HB5.out.setCell (p := ⟨xb, 0, none⟩) hx4w (.int .i64 12))
        go_wp2_with ((with_reducible refine gate_store (p := 2) (v := .tmp 41) rfl ?_); refine wpList_store_row rfl 26 (.tmp 2) (.tmp 41) rfl rb (exC ⟨12, e.f1, e.f2, e.f3, e.f4, e.f5, [y, x]⟩ (some ⟨s5, 0, none⟩) 2) rfl rfl 26 zerosE HRZ.out (info_ex _ _ _) rfl (one_ex _ _ _) ?_)
        refine bodyPost_ret (results_cell_row rfl _ _ rb 26 (exC ⟨12, e.f1, e.f2, e.f3, e.f4, e.f5, [y, x]⟩ (some ⟨s5, 0, none⟩) 2) (0, 0) _ rfl (setRow_at _ rb _ zerosE _ HRZ.out) Tryd.underlying26 rfl (info_ex _ _ _)) rfl ?_; exact turn_end HXY.out (by have := HO.out; omega) (by rw [HO.out]; rfl) HCX.out HCY.out hcx hcy H0.out hsw (setRow_far _ hrs HSZ.out _) (below_setRow' HBZ.out hrw _)
      have ht : turnE e = e := turnE_no (fun h => by omega)
      have HTT := Lib.hid ht; clear ht
      have hs9 : (e.f0 == 9) = false := (by simp only [beq_iff_eq, beq_eq_false_iff_ne]; omega)
      have hs10 : (e.f0 == 10) = false := (by simp only [beq_iff_eq, beq_eq_false_iff_ne]; omega)
      have hs11 : (e.f0 == 11) = false := (by simp only [beq_iff_eq, beq_eq_false_iff_ne]; omega)
      have hs12 : (e.f0 == 12) = false := (by simp only [beq_iff_eq, beq_eq_false_iff_ne]; omega)
      have hs13 : (e.f0 == 13) = false := (by simp only [beq_iff_eq, beq_eq_false_iff_ne]; omega)
      have hs14 : (e.f0 == 14) = false := (by simp only [beq_iff_eq, beq_eq_false_iff_ne]; omega)
      clear h9 h10 h11 h12 h13 h14
      go_wp2_with ((with_reducible refine gate_store (p := 2) (v := .tmp 42) rfl ?_); refine wpList_store_row rfl 26 (.tmp 2) (.tmp 42) rfl rb (exC e (some ad) c) rfl rfl 26 zerosE HR5.out (info_ex _ _ _) rfl (one_ex _ _ _) ?_)
      refine bodyPost_ret (results_cell_row rfl _ _ rb 26 (exC e (some ad) c) (0, 0) _ rfl (setRow_at _ rb _ zerosE _ HR5.out) Tryd.underlying26 rfl (info_ex _ _ _)) rfl ?_
      rw [HTT.out]
      have hB : Below w.heap.size w (w5.setRow rb (exC e (some ad) c)) := below_setRow' HB5.out hrw _
      exact ⟨some ad, c, rfl, hc, old_F HC.out (H0.out.trans (hB.mono hw02)), hB⟩
  · have ht : turnE e = e := turnE_no (fun h => h2 h.1)
    have HTT := Lib.hid ht; clear ht
    have hn2 : ((e.f6.length : Int) != 2) = true := bne_iff_ne.mpr (by omega)
    clear h2
    go_wp2_with ((with_reducible refine gate_store (p := 2) (v := .tmp 8) rfl ?_); refine wpList_store_row rfl 26 (.tmp 2) (.tmp 8) rfl rb (exC e A c) rfl rfl 26 zerosE HR.out (info_ex _ _ _) rfl (one_ex _ _ _) ?_)
    refine bodyPost_ret (results_cell_row rfl _ _ rb 26 (exC e A c) (0, 0) _ rfl (setRow_at _ rb _ zerosE _ HR.out) Tryd.underlying26 rfl (info_ex _ _ _)) rfl ?_
    rw [HTT.out]
    have hB : Below w.heap.size w (w2.setRow rb (exC e A c)) := below_setRow' HB.out hrw _
    exact ⟨A, c, rfl, hc, old_F HC.out (H0.out.trans (hB.mono H0.out.size)), hB⟩
structure WE (w : World) (s6 g gc : Nat) (cg : Array Value) (cb : Value → Array Value) (xs : List Ex) (wr : World) : Prop where
  below : Below w.heap.size w wr
  sz6 : s6 ≤ wr.heap.size
  bg : wr.heap[g]? = some (.cells cg 43 (0, 0))
  ex : ∃ A n c, wr.heap[gc]? = some (.cells (cb (.slice A n c)) 43 (0, 0)) ∧ n = xs.length ∧ Kd.N KX TX wr w.heap.size (fun k => k < w.heap.size ∨ s6 ≤ k) (.slice A n c) xs
theorem of_any (sz d2 : List Int) (n m : Int) (d3 cs d5 d6 d8 : List Ex) (d9 : List S144) (A0 A2 A3 A4 A5 A6 A8 A9 : Option Addr) (c0 c2 c3 c4 c5 c6 c8 c9 : Nat) (b7 b10 : Bool) (L : Nat) (hL : cs.length = L) (w : World) (hm63 : m < 2 ^ 63) (hT : TabW w) (hRg : ∀ x ∈ cs, rngF x = true) (hC : Kd.C KX w A4 L cs) (hl : L ≤ 1048576)
    (hc4 : L ≤ c4) (hsz : ∀ i : Nat, i < sz.length → -9223372036854775808 ≤ rd sz i ∧ rd sz i ≤ 9223372036854775807) (hC0 : (Kd.int .i64).C w A0 sz.length sz) :
    Calls Tryd.prog 18 #[.agg #[.slice A0 sz.length c0, .int .i64 n, .slice A2 d2.length c2, .slice A3 d3.length c3, .slice A4 L c4, .slice A5 d5.length c5, .slice A6 d6.length c6, .bool b7, .slice A8 d8.length c8, .slice A9 d9.length c9, .bool b10], .int .i64 m] w fun r w' => r = .returned (.tuple #[.string (ofRes sz n m cs).1, .int .i64 (ofRes sz n m cs).2]) ∧ Below w.heap.size w w' := by
  subst hL
  have h := Of_ok sz d2 n m d3 cs d5 d6 d8 (List.replicate d9.length zeroX) A0 A2 A3 A4 A5 A6 A8 A9 c0 c2 c3 c4 c5 c6 c8 c9 b7 b10 w hm63 hT hRg hC hl hc4 hsz hC0
  rw [List.length_replicate] at h
  exact h
theorem own_gt {w wr w9 : World} {s6 : Nat} {v : Value} {xs : List Ex} (h : Kd.N KX TX w9 w.heap.size (fun k => k < w.heap.size ∨ s6 ≤ k) v xs) (hb : Below wr.heap.size wr w9) : ∀ g, v.ownBlock = some g → s6 ≤ g := fun g hg => by
  have h1 := h.1 g hg
  have h2 := Kd.N_base h g hg
  omega
theorem setRow_heap (w : World) {g k : Nat} (hn : g ≠ k) (cs : Array Value) : (w.setRow g cs).heap[k]? = w.heap[k]? := by
  unfold World.setRow
  show (Array.modify _ _ _)[k]? = _
  rw [Array.getElem?_modify, if_neg hn]
theorem ways_x {which : Int} {l : List Ex} {j : Nat} {x : Ex} (h : l[j]? = some x) : waysL which (l.drop j) j = waysL which (l.drop (j + 1)) (j + 1) ++ way1 which j x := by
  obtain ⟨hl, hx⟩ := List.getElem?_eq_some_iff.1 h
  rw [ways_step which hl, hx]
theorem own_new {u v : Value} {s b : Nat} (h : u.ownBlock = v.ownBlock ∨ ∃ c, u.ownBlock = some c ∧ s ≤ c) (hv : some b ≠ v.ownBlock) (hb : b < s) : some b ≠ u.ownBlock := by
  rcases h with h | ⟨c, hc, hs⟩
  · rw [h]; exact hv
  · rw [hc]; intro e; cases e; omega
def okW (w wr w9 : World) (b : Nat) : Prop := (b < w.heap.size ∨ wr.heap.size ≤ b) ∧ b < w9.heap.size
theorem own_away {w wr w9 : World} {s6 : Nat} {v : Value} {xs : List Ex} (h : Kd.N KX TX wr w.heap.size (fun k => k < w.heap.size ∨ s6 ≤ k) v xs) (hs : s6 ≤ wr.heap.size) : ∀ b, okW w wr w9 b → (b < w.heap.size ∨ s6 ≤ b) ∧ some b ≠ v.ownBlock := by
  rintro b ⟨hb, _⟩
  refine ⟨by omega, fun he => ?_⟩
  have h1 := Kd.N_lt h b he.symm
  have h2 := Kd.N_base h b he.symm
  omega
set_option maxHeartbeats 8000000 in
set_option maxRecDepth 100000 in
theorem ways_ok (sz d2 : List Int) (n m which : Int) (d3 cs d5 d6 d8 : List Ex) (d9 : List S144) (A0 A2 A3 A4 A5 A6 A8 A9 : Option Addr) (c0 c2 c3 c4 c5 c6 c8 c9 : Nat) (b7 b10 : Bool) (w : World) (hm63 : m < 2 ^ 63) (hT : TabW w) (hRg : ∀ x ∈ cs, rngF x = true) (hC : Kd.C KX w A4 cs.length cs) (hmx : cs.length ≤ 9223372036854775807)
    (hc4 : cs.length ≤ c4) (hsz : ∀ i : Nat, i < sz.length → -9223372036854775808 ≤ rd sz i ∧ rd sz i ≤ 9223372036854775807) (hC0 : (Kd.int .i64).C w A0 sz.length sz) :
    Calls Tryd.prog 6 #[.agg #[.slice A0 sz.length c0, .int .i64 n, .slice A2 d2.length c2, .slice A3 d3.length c3, .slice A4 cs.length c4, .slice A5 d5.length c5, .slice A6 d6.length c6, .bool b7, .slice A8 d8.length c8, .slice A9 d9.length c9, .bool b10], .int .i64 m, .int .i64 which] w fun r w' => r = .returned (.bool true) ∧ Below w.heap.size w w' := by
  have HT := Lib.hid hT; have HRG := Lib.hid hRg; have HC := Lib.hid hC; have HSZ := Lib.hid hsz; have HC0 := Lib.hid hC0
  clear hT hRg hC hsz hC0
  go_enter Tryd.func6, Tryd.ntmps6
  go_upto_region 1 with (first | ((with_reducible refine gate_dst (N := 3) rfl ?_); refine box_event rfl (N := 3) rfl (cs := #[.slice A0 sz.length c0, .int .i64 n, .slice A2 d2.length c2, .slice A3 d3.length c3, .slice A4 cs.length c4, .slice A5 d5.length c5, .slice A6 d6.length c6, .bool b7, .slice A8 d8.length c8, .slice A9 d9.length c9, .bool b10]) (t := 43) (by first | rfl | (go_simp; done) | (go_simp; rfl)) ?_; intro g hgg w1 hbg hBg;  have HG := Lib.hid hbg; have HB1 := Lib.hid hBg; have hgw : w.heap.size ≤ g := (by omega); clear hgg hbg hBg))
  have HEX := Lib.hid (examples_ok w1 (tab_at HT.out HB1.out))
  go_upto_region 2 with (go_at_call 8; refine HEX.out.mono ?_; rintro rr w2 ⟨rfl, hB2⟩; have HG2 := Lib.hid ((hB2.block g (blk_lt HG.out)).trans HG.out); have HB2 := Lib.hid (HB1.out.trans (hB2.mono HB1.out.size)); clear hB2)
  clear HEX HG HB1
  have hz0 : w2.cell? ⟨g, 0, none⟩ = some (.slice A0 sz.length c0) := (bkC HG2.out 0).trans rfl; have hz1 : w2.cell? ⟨g, 1, none⟩ = some (.int .i64 n) := (bkC HG2.out 1).trans rfl; have hz2 : w2.cell? ⟨g, 2, none⟩ = some (.slice A2 d2.length c2) := (bkC HG2.out 2).trans rfl; have hz3 : w2.cell? ⟨g, 3, none⟩ = some (.slice A3 d3.length c3) := (bkC HG2.out 3).trans rfl; have hz4 : w2.cell? ⟨g, 4, none⟩ = some (.slice A4 cs.length c4) := (bkC HG2.out 4).trans rfl; have hz5 : w2.cell? ⟨g, 5, none⟩ = some (.slice A5 d5.length c5) := (bkC HG2.out 5).trans rfl; have hz6 : w2.cell? ⟨g, 6, none⟩ = some (.slice A6 d6.length c6) := (bkC HG2.out 6).trans rfl; have hz7 : w2.cell? ⟨g, 7, none⟩ = some (.bool b7) := (bkC HG2.out 7).trans rfl; have hz8 : w2.cell? ⟨g, 8, none⟩ = some (.slice A8 d8.length c8) := (bkC HG2.out 8).trans rfl; have hz9 : w2.cell? ⟨g, 9, none⟩ = some (.slice A9 d9.length c9) := (bkC HG2.out 9).trans rfl; have hz10 : w2.cell? ⟨g, 10, none⟩ = some (.bool b10) := (bkC HG2.out 10).trans rfl
  have hzf := bkF HG2.out 4
  go_upto_region 3 with fail
  have hL0 : (min (cs.length : Int) 12).toNat ≤ 12 := by omega
  have hL1 : (min (cs.length : Int) 12).toNat ≤ cs.length := by omega
  have HG3 : Hid ((w2.setCell ⟨g, 4, none⟩ (.slice A4 (min (cs.length : Int) 12).toNat c4)).heap[g]? = some (.cells #[.slice A0 sz.length c0, .int .i64 n, .slice A2 d2.length c2, .slice A3 d3.length c3, .slice A4 (min (cs.length : Int) 12).toNat c4, .slice A5 d5.length c5, .slice A6 d6.length c6, .bool b7, .slice A8 d8.length c8, .slice A9 d9.length c9, .bool b10] 43 (0, 0))) := Lib.hid (blk_set HG2.out 4 _)
  have HB3 : Hid (Below w.heap.size w (w2.setCell ⟨g, 4, none⟩ (.slice A4 (min (cs.length : Int) 12).toNat c4))) := Lib.hid (HB2.out.setCell (p := ⟨g, 4, none⟩) hgw _)
  generalize (min (cs.length : Int) 12).toNat = L at hL0 hL1 HG3 HB3 ⊢
  generalize w2.setCell ⟨g, 4, none⟩ (.slice A4 L c4) = w3 at HG3 HB3 ⊢
  clear hz0 hz1 hz2 hz3 hz4 hz5 hz6 hz7 hz8 hz9 hz10 hzf HG2 HB2
  obtain ⟨ds, hds⟩ : ∃ ds, cs.take L = ds := ⟨_, rfl⟩
  have HDC := Lib.hid (Kd.C_take HC.out hL1)
  have HDL : Hid (ds.length = L) := Lib.hid (by rw [← hds, List.length_take]; omega)
  have HDG : Hid (∀ x ∈ ds, rngF x = true) := Lib.hid (by rw [← hds]; exact fun x hx => HRG.out x (List.mem_of_mem_take hx))
  rw [hds, HDL.out] at HDC
  have HD4 : Hid (ds.length ≤ c4) := Lib.hid (by rw [HDL.out]; omega)
  clear hds
  have hz0 : w3.cell? ⟨g, 0, none⟩ = some (.slice A0 sz.length c0) := (bkC HG3.out 0).trans rfl; have hz1 : w3.cell? ⟨g, 1, none⟩ = some (.int .i64 n) := (bkC HG3.out 1).trans rfl; have hz2 : w3.cell? ⟨g, 2, none⟩ = some (.slice A2 d2.length c2) := (bkC HG3.out 2).trans rfl; have hz3 : w3.cell? ⟨g, 3, none⟩ = some (.slice A3 d3.length c3) := (bkC HG3.out 3).trans rfl; have hz4 : w3.cell? ⟨g, 4, none⟩ = some (.slice A4 L c4) := (bkC HG3.out 4).trans rfl; have hz5 : w3.cell? ⟨g, 5, none⟩ = some (.slice A5 d5.length c5) := (bkC HG3.out 5).trans rfl; have hz6 : w3.cell? ⟨g, 6, none⟩ = some (.slice A6 d6.length c6) := (bkC HG3.out 6).trans rfl; have hz7 : w3.cell? ⟨g, 7, none⟩ = some (.bool b7) := (bkC HG3.out 7).trans rfl; have hz8 : w3.cell? ⟨g, 8, none⟩ = some (.slice A8 d8.length c8) := (bkC HG3.out 8).trans rfl; have hz9 : w3.cell? ⟨g, 9, none⟩ = some (.slice A9 d9.length c9) := (bkC HG3.out 9).trans rfl; have hz10 : w3.cell? ⟨g, 10, none⟩ = some (.bool b10) := (bkC HG3.out 10).trans rfl
  have HO1 := Lib.hid (of_any sz d2 n m d3 ds d5 d6 d8 d9 A0 A2 A3 A4 A5 A6 A8 A9 c0 c2 c3 c4 c5 c6 c8 c9 b7 b10 L HDL.out w3 hm63 (tab_at HT.out HB3.out) HDG.out (Kd.C_below HDC.out HB3.out) (by omega) (by omega) HSZ.out (Kd.C_below HC0.out HB3.out))
  obtain ⟨rs, hrs⟩ : ∃ rs, ofRes sz n m ds = rs := ⟨_, rfl⟩
  have HRS := Lib.hid hrs
  rw [hrs] at HO1
  obtain ⟨r1, r2⟩ := rs
  clear hrs
  go_upto_region 5 with (first | (go_at_call 18; refine HO1.out.mono ?_; rintro rr w4 ⟨rfl, hB4⟩; have HG4 := Lib.hid ((hB4.block g (blk_lt HG3.out)).trans HG3.out); have HB4 := Lib.hid (HB3.out.trans (hB4.mono HB3.out.size)); clear hB4; have hy0 : w4.cell? ⟨g, 0, none⟩ = some (.slice A0 sz.length c0) := (bkC HG4.out 0).trans rfl; have hy1 : w4.cell? ⟨g, 1, none⟩ = some (.int .i64 n) := (bkC HG4.out 1).trans rfl; have hy2 : w4.cell? ⟨g, 2, none⟩ = some (.slice A2 d2.length c2) := (bkC HG4.out 2).trans rfl; have hy3 : w4.cell? ⟨g, 3, none⟩ = some (.slice A3 d3.length c3) := (bkC HG4.out 3).trans rfl; have hy4 : w4.cell? ⟨g, 4, none⟩ = some (.slice A4 L c4) := (bkC HG4.out 4).trans rfl; have hy5 : w4.cell? ⟨g, 5, none⟩ = some (.slice A5 d5.length c5) := (bkC HG4.out 5).trans rfl; have hy6 : w4.cell? ⟨g, 6, none⟩ = some (.slice A6 d6.length c6) := (bkC HG4.out 6).trans rfl; have hy7 : w4.cell? ⟨g, 7, none⟩ = some (.bool b7) := (bkC HG4.out 7).trans rfl; have hy8 : w4.cell? ⟨g, 8, none⟩ = some (.slice A8 d8.length c8) := (bkC HG4.out 8).trans rfl; have hy9 : w4.cell? ⟨g, 9, none⟩ = some (.slice A9 d9.length c9) := (bkC HG4.out 9).trans rfl; have hy10 : w4.cell? ⟨g, 10, none⟩ = some (.bool b10) := (bkC HG4.out 10).trans rfl))
  have HG5 : Hid ((w4.alloc (.cells #[.slice A0 sz.length c0, .int .i64 n, .slice A2 d2.length c2, .slice A3 d3.length c3, .slice A4 L c4, .slice A5 d5.length c5, .slice A6 d6.length c6, .bool b7, .slice A8 d8.length c8, .slice A9 d9.length c9, .bool b10] 43 (0, 0))).heap[g]? = some (.cells #[.slice A0 sz.length c0, .int .i64 n, .slice A2 d2.length c2, .slice A3 d3.length c3, .slice A4 L c4, .slice A5 d5.length c5, .slice A6 d6.length c6, .bool b7, .slice A8 d8.length c8, .slice A9 d9.length c9, .bool b10] 43 (0, 0))) := Lib.hid (bkA HG4.out _)
  have HQ5 : Hid ((w4.alloc (.cells #[.slice A0 sz.length c0, .int .i64 n, .slice A2 d2.length c2, .slice A3 d3.length c3, .slice A4 L c4, .slice A5 d5.length c5, .slice A6 d6.length c6, .bool b7, .slice A8 d8.length c8, .slice A9 d9.length c9, .bool b10] 43 (0, 0))).heap[w4.heap.size]? = some (.cells #[.slice A0 sz.length c0, .int .i64 n, .slice A2 d2.length c2, .slice A3 d3.length c3, .slice A4 L c4, .slice A5 d5.length c5, .slice A6 d6.length c6, .bool b7, .slice A8 d8.length c8, .slice A9 d9.length c9, .bool b10] 43 (0, 0))) := Lib.hid (heap_alloc_new w4 _)
  have HB5 : Hid (Below w.heap.size w (w4.alloc (.cells #[.slice A0 sz.length c0, .int .i64 n, .slice A2 d2.length c2, .slice A3 d3.length c3, .slice A4 L c4, .slice A5 d5.length c5, .slice A6 d6.length c6, .bool b7, .slice A8 d8.length c8, .slice A9 d9.length c9, .bool b10] 43 (0, 0)))) := Lib.hid (blA HB4.out _)
  have hgq : g < w4.heap.size := blk_lt HG4.out
  have hqw : w.heap.size ≤ w4.heap.size := HB4.out.size
  generalize w4.heap.size = q at HQ5 hgq hqw ⊢
  generalize w4.alloc (.cells #[.slice A0 sz.length c0, .int .i64 n, .slice A2 d2.length c2, .slice A3 d3.length c3, .slice A4 L c4, .slice A5 d5.length c5, .slice A6 d6.length c6, .bool b7, .slice A8 d8.length c8, .slice A9 d9.length c9, .bool b10] 43 (0, 0)) = w5 at HG5 HQ5 HB5 ⊢
  clear hz0 hz1 hz2 hz3 hz4 hz5 hz6 hz7 hz8 hz9 hz10 hy0 hy1 hy2 hy3 hy4 hy5 hy6 hy7 hy8 hy9 hy10 HO1 HG3 HG4 HB3 HB4
  have hz4 : w5.cell? ⟨q, 4, none⟩ = some (.slice A4 L c4) := (bkC HQ5.out 4).trans rfl
  have hzf := bkF HQ5.out 4
  go_upto_region 6 with fail
  have HW6 : Hid (WE w (w5.setCell ⟨q, 4, none⟩ (.slice none 0 0)).heap.size g q #[.slice A0 sz.length c0, .int .i64 n, .slice A2 d2.length c2, .slice A3 d3.length c3, .slice A4 L c4, .slice A5 d5.length c5, .slice A6 d6.length c6, .bool b7, .slice A8 d8.length c8, .slice A9 d9.length c9, .bool b10] (fun v4 => #[.slice A0 sz.length c0, .int .i64 n, .slice A2 d2.length c2, .slice A3 d3.length c3, v4, .slice A5 d5.length c5, .slice A6 d6.length c6, .bool b7, .slice A8 d8.length c8, .slice A9 d9.length c9, .bool b10]) [] (w5.setCell ⟨q, 4, none⟩ (.slice none 0 0))) := Lib.hid ⟨HB5.out.setCell (p := ⟨q, 4, none⟩) hqw _, Nat.le_refl _, blk_far HG5.out (show g ≠ (⟨q, 4, none⟩ : Addr).block from by show g ≠ q; omega) _, _, _, _, blk_set HQ5.out 4 _, rfl, Kd.N_nil _ _ _ _ _⟩
  have hq6 : q < (w5.setCell ⟨q, 4, none⟩ (.slice none 0 0)).heap.size := by rw [show (w5.setCell ⟨q, 4, none⟩ (.slice none 0 0)).heap.size = w5.heap.size from by simp]; exact blk_lt HQ5.out
  generalize w5.setCell ⟨q, 4, none⟩ (.slice none 0 0) = w6 at HW6 hq6 ⊢
  clear hz4 hzf HG5 HQ5 HB5
  generalize w6.heap.size = s6 at HW6 hq6
  have hz4 : w6.cell? ⟨g, 4, none⟩ = some (.slice A4 L c4) := (bkC HW6.out.bg 4).trans rfl
  go_upto_region 7 with fail
  clear hz4
  go_loopw [11] (fun v11 wr => ∃ j : Nat, j ≤ L ∧ v11 = .int .i64 ((j : Int) - 1) ∧ Hid (WE w s6 g q #[.slice A0 sz.length c0, .int .i64 n, .slice A2 d2.length c2, .slice A3 d3.length c3, .slice A4 L c4, .slice A5 d5.length c5, .slice A6 d6.length c6, .bool b7, .slice A8 d8.length c8, .slice A9 d9.length c9, .bool b10] (fun v4 => #[.slice A0 sz.length c0, .int .i64 n, .slice A2 d2.length c2, .slice A3 d3.length c3, v4, .slice A5 d5.length c5, .slice A6 d6.length c6, .bool b7, .slice A8 d8.length c8, .slice A9 d9.length c9, .bool b10]) (waysL which (ds.drop j) j) wr)) (fun i _ => (intOf i + 1).toNat)
  case atStart => exact ⟨L, Nat.le_refl _, by rfl, by rw [List.drop_of_length_le (by rw [HDL.out]; exact Nat.le_refl _)]; exact HW6⟩
  case round =>
    obtain ⟨j, hj, rfl, HJ⟩ := hrel
    cases j with
    | succ j =>
      rw [show ((j + 1 : Nat) : Int) - 1 = (j : Int) by omega]
      have hlt : j < L := by omega
      have hjL : (j : Int) < L := by omega
      have hz4 : wr.cell? ⟨g, 4, none⟩ = some (.slice A4 L c4) := (bkC HJ.out.bg 4).trans rfl
      obtain ⟨ad, E8, e8, x, rfl, HE, h0, h1, h2, h3, h4, h5, h6, h7, h8, he8, hE8⟩ := at_ex HDC.out HDL.out j hlt
      replace HE := Lib.hid HE
      have HE8 := Lib.hid hE8; clear hE8
      have hBJ := HJ.out.below
      replace h0 := pw_cell_below hBJ h0; replace h1 := pw_cell_below hBJ h1; replace h2 := pw_cell_below hBJ h2; replace h3 := pw_cell_below hBJ h3; replace h4 := pw_cell_below hBJ h4; replace h5 := pw_cell_below hBJ h5; replace h6 := pw_cell_below hBJ h6; replace h7 := pw_cell_below hBJ h7; replace h8 := pw_cell_below hBJ h8
      clear hBJ
      go_upto_region 10 with (first | ((with_reducible refine gate_dst (N := 12) rfl ?_); refine box_event rfl (N := 12) rfl (cs := zerosE) (t := 26) (by first | rfl | (go_simp; done) | (go_simp; rfl)) ?_; intro xb hgg w7 hbxb hBxb;  have hxr : wr.heap.size ≤ xb := (by omega); clear hgg) | ((with_reducible refine gate_store (p := 12) (v := .tmp 44) rfl ?_); refine wpList_store_row rfl 26 (.tmp 12) (.tmp 44) rfl xb (exC x E8 e8) rfl rfl 26 zerosE hbxb (info_ex _ _ _) rfl (one_ex _ _ _) ?_))
      clear h0 h1 h2 h3 h4 h5 h6 h7 h8 hz4
      have hx8 := setRow_at w7 xb _ zerosE (exC x E8 e8) hbxb
      have hB8 : Below wr.heap.size wr (w7.setRow xb (exC x E8 e8)) := below_setRow' hBxb hxr _
      clear hbxb hBxb
      generalize w7.setRow xb (exC x E8 e8) = w8 at hx8 hB8 ⊢
      have HB08 : Hid (Below w.heap.size w w8) := Lib.hid (HJ.out.below.trans (hB8.mono HJ.out.below.size))
      cases hb : wayB which j with
      | false =>
        have hbit : (Go.bits .and .i64 (which / 2 ^ (j % 8)) 1 == 1) = false := hb
        have HY : Hid (wayE which j x = x) := Lib.hid (by unfold wayE; rw [hb]; rfl)
        go_upto_region 12 with fail
        have HX9 := Lib.hid hx8; have HB9 := Lib.hid hB8; have HK9 := Lib.hid he8
        have HF9 : Hid (Kd.F KX w8 (fun b => b < w.heap.size ∨ wr.heap.size ≤ b) E8 x.f6.length x.f6) := Lib.hid (old_F HE8.out HB08.out)
        clear hx8 hB8 hb hbit he8
        generalize w8 = w9 at HX9 HB9 HF9 HB08 ⊢
        obtain ⟨A', n', c', hq', hn', hN'⟩ := HJ.out.ex; have HNQ := Lib.hid hn'; clear hn'; have HFR : Hid (∀ k, w9.heap.size ≤ k → (k < w.heap.size ∨ s6 ≤ k)) := Lib.hid (fun k hk => .inr (by have := HJ.out.sz6; have := HB9.out.size; omega)); have HQN := Lib.hid ((HB9.out.block q (blk_lt hq')).trans hq'); have HNN := Lib.hid (Kd.N_below hN' HB9.out); have HAW : Hid (∀ b, okW w wr w9 b → (b < w.heap.size ∨ s6 ≤ b) ∧ some b ≠ (Value.slice A' n' c').ownBlock) := Lib.hid (own_away hN' HJ.out.sz6); have HQW : Hid (some q ≠ (Value.slice A' n' c').ownBlock) := Lib.hid (fun h => by have h1 := hN'.1 q h.symm; omega); have HBN : Hid (Below w.heap.size w w9) := Lib.hid (HJ.out.below.trans (HB9.out.mono HJ.out.below.size)); have HSN : Hid (w.heap.size ≤ w9.heap.size) := Lib.hid HBN.out.size; have HLN : Hid (((waysL which (ds.drop (j + 1)) (j + 1)).length + 1) * 104 ≤ 140737488355328) := Lib.hid (by have := ways_len which (ds.drop (j + 1)) (j + 1); rw [List.length_drop, HDL.out] at this; omega); have HFK := Lib.hid (k26_mkF w9 _ (x) HK9.out (Kd.F_mono (Kd.F_bound HF9.out) (fun b hb => (hb : okW w wr w9 b)))); have hzq : w9.cell? ⟨q, 4, none⟩ = some (.slice A' n' c') := (bkC HQN.out 4).trans rfl; have hltx : xb < w9.heap.size := blk_lt HX9.out; have hltq : q < w9.heap.size := blk_lt HQN.out; have HAX : Hid (some xb ≠ (Value.slice A' n' c').ownBlock) := Lib.hid (fun h => by have h1 := Kd.N_lt hN' xb h.symm; omega); clear hq' hN'; obtain ⟨hz0, hz1, hz2, hz3, hz4, hz5, hz6, hz7, hz8⟩ := bkC9 HX9.out; go_upto_region 13 with ((with_reducible refine gate_builtin (b := .append) (xs := #[.tmp 54, .tmp 56]) rfl ?_); at_builtin; refine Kd.N_append KX (w0 := w) w.heap.size rfl (.tmp 54) (.tmp 56) 24 26 (.agg #[(.int .i64 0), (.int .i64 0), (.int .i64 0), (.string ⟨#[]⟩), (.int .i64 0), (.int .i64 0), (.int .i64 0), (.string ⟨#[]⟩), (.slice none 0 0)]) 104 rfl Tryd.underlying24 info26 rfl (by decide) (by omega) (.slice A' n' c') (waysL which (ds.drop (j + 1)) (j + 1)) x [.int .i64 (x).f0, .int .i64 (x).f1.f0, .int .i64 (x).f1.f1, .string (x).f1.f2, .int .i64 (x).f2, .int .i64 (x).f3, .int .i64 (x).f4, .string (x).f5, .slice E8 (x).f6.length e8] (fun k => k < w.heap.size ∨ s6 ≤ k) (okW w wr w9) rfl rfl HFK.out HAW.out HFR.out HNN.out HBN.out HSN.out HLN.out ?_; intro v1 w10 ho hb hg hat; obtain ⟨P2, p2, rfl⟩ := Kd.N_slice ho; have HO10 := Lib.hid ho; have HB10 := Lib.hid hb; have HG10 := Lib.hid hg; have HAT := Lib.hid hat; clear ho hb hg hat; have HQ10 := Lib.hid ((HG10.out.block q (blk_lt HQN.out) HQW.out).trans HQN.out); have hq10 : w10.cell? ⟨q, 4, none⟩ = some (.slice A' n' c') := (bkC HQ10.out 4).trans rfl; have hqf10 := bkF HQ10.out 4); have HW11 : Hid (WE w s6 g q #[.slice A0 sz.length c0, .int .i64 n, .slice A2 d2.length c2, .slice A3 d3.length c3, .slice (some ad) L c4, .slice A5 d5.length c5, .slice A6 d6.length c6, .bool b7, .slice A8 d8.length c8, .slice A9 d9.length c9, .bool b10] (fun v4 => #[.slice A0 sz.length c0, .int .i64 n, .slice A2 d2.length c2, .slice A3 d3.length c3, v4, .slice A5 d5.length c5, .slice A6 d6.length c6, .bool b7, .slice A8 d8.length c8, .slice A9 d9.length c9, .bool b10]) (waysL which (ds.drop (j + 1)) (j + 1) ++ [x]) (w10.setCell ⟨q, 4, none⟩ (.slice P2 (waysL which (ds.drop (j + 1)) (j + 1) ++ [x]).length p2))) := Lib.hid ⟨HB10.out.setCell (p := ⟨q, 4, none⟩) hqw _, by have h1 := HJ.out.sz6; have h2 := HB9.out.size; have h3 := HG10.out.size; simp; omega, blk_far ((HG10.out.block g (by have := blk_lt HJ.out.bg; have := HB9.out.size; omega) (fun h => by have h1 := own_gt HNN.out HB9.out g h.symm; omega)).trans ((HB9.out.block g (blk_lt HJ.out.bg)).trans HJ.out.bg)) (show g ≠ (⟨q, 4, none⟩ : Addr).block from by show g ≠ q; omega) _, _, _, _, blk_set HQ10.out 4 _, rfl, Kd.N_far HO10.out (fun k hk => by show k ≠ q; omega) _⟩; have HX10 := Lib.hid ((HG10.out.block xb (blk_lt HX9.out) (HAX.out)).trans HX9.out); clear hz0 hz1 hz2 hz3 hz4 hz5 hz6 hz7 hz8 hzq hq10 hqf10 hltx hltq; have HLE : Hid (((waysL which (ds.drop (j + 1)) (j + 1)) ++ [x]).length = (waysL which (ds.drop (j + 1)) (j + 1)).length + 1) := Lib.hid (by simp); rw [HLE.out] at HW11 HO10 HAT; have HX11 := Lib.hid (blk_far HX10.out (show xb ≠ (⟨q, 4, none⟩ : Addr).block from by have h1 := HJ.out.sz6; show xb ≠ q; omega) (.slice P2 ((waysL which (ds.drop (j + 1)) (j + 1)).length + 1) p2)); have HQ11 := Lib.hid (blk_set HQ10.out 4 (.slice P2 ((waysL which (ds.drop (j + 1)) (j + 1)).length + 1) p2)); have HN11 := Lib.hid (Kd.N_far HO10.out (p := ⟨q, 4, none⟩) (fun k hk => by show k ≠ q; omega) (.slice P2 ((waysL which (ds.drop (j + 1)) (j + 1)).length + 1) p2)); have HFK11 : Hid (Kd.FK KX (w10.setCell ⟨q, 4, none⟩ (.slice P2 ((waysL which (ds.drop (j + 1)) (j + 1)).length + 1) p2)) (okW w wr w9) x [.int .i64 (x).f0, .int .i64 (x).f1.f0, .int .i64 (x).f1.f1, .string (x).f1.f2, .int .i64 (x).f2, .int .i64 (x).f3, .int .i64 (x).f4, .string (x).f5, .slice E8 (x).f6.length e8]) := Lib.hid (Kd.FK_step HFK.out (fun b hb hlt => (Below.heap_setCell w10 ⟨q, 4, none⟩ _ b (by show b ≠ q; have h1 := hb.1; have h2 := HJ.out.sz6; omega)).trans (HG10.out.block b hlt (HAW.out b hb).2))); have HAW11 : Hid (∀ b, okW w wr w9 b → (b < w.heap.size ∨ s6 ≤ b) ∧ some b ≠ (Value.slice P2 ((waysL which (ds.drop (j + 1)) (j + 1)).length + 1) p2).ownBlock) := Lib.hid (fun b hb => ⟨(HAW.out b hb).1, own_new HAT.out (HAW.out b hb).2 hb.2⟩); generalize w10.setCell ⟨q, 4, none⟩ (.slice P2 ((waysL which (ds.drop (j + 1)) (j + 1)).length + 1) p2) = w11 at HW11 HX11 HQ11 HN11 HFK11 ⊢; clear HO10 HB10 HG10 HAT HQ10 HX10 HFK HAW HQW HNN HQN HAX HLN HSN HBN HFR; by_cases h3 : j % 3 = 0
        · have h3b : ((j : Int) % 3 == 0) = true := (by simp only [beq_iff_eq]; omega); have HW3 : Hid (way1 which j x = [x, x]) := Lib.hid (by unfold way1; rw [if_pos h3, HY.out]); clear h3; have HBN : Hid (Below w.heap.size w w11) := Lib.hid HW11.out.below; have HSN : Hid (w.heap.size ≤ w11.heap.size) := Lib.hid HBN.out.size; have HFR : Hid (∀ k, w11.heap.size ≤ k → (k < w.heap.size ∨ s6 ≤ k)) := Lib.hid (fun k hk => .inr (by have := HW11.out.sz6; omega)); have HLN : Hid ((((waysL which (ds.drop (j + 1)) (j + 1)) ++ [x]).length + 1) * 104 ≤ 140737488355328) := Lib.hid (by rw [HLE.out]; have := ways_len which (ds.drop (j + 1)) (j + 1); rw [List.length_drop, HDL.out] at this; omega); have HQW : Hid (some q ≠ (Value.slice P2 ((waysL which (ds.drop (j + 1)) (j + 1)).length + 1) p2).ownBlock) := Lib.hid (fun h => by have h1 := HN11.out.1 q h.symm; omega); have hzq : w11.cell? ⟨q, 4, none⟩ = some (.slice P2 ((waysL which (ds.drop (j + 1)) (j + 1)).length + 1) p2) := (bkC HQ11.out 4).trans rfl; have hltx : xb < w11.heap.size := blk_lt HX11.out; have hltq : q < w11.heap.size := blk_lt HQ11.out; obtain ⟨hz0, hz1, hz2, hz3, hz4, hz5, hz6, hz7, hz8⟩ := bkC9 HX11.out; go_upto_region 8 with ((with_reducible refine gate_builtin (b := .append) (xs := #[.tmp 63, .tmp 65]) rfl ?_); at_builtin; refine Kd.N_append KX (w0 := w) w.heap.size rfl (.tmp 63) (.tmp 65) 24 26 (.agg #[(.int .i64 0), (.int .i64 0), (.int .i64 0), (.string ⟨#[]⟩), (.int .i64 0), (.int .i64 0), (.int .i64 0), (.string ⟨#[]⟩), (.slice none 0 0)]) 104 rfl Tryd.underlying24 info26 rfl (by decide) (by omega) (.slice P2 ((waysL which (ds.drop (j + 1)) (j + 1)).length + 1) p2) ((waysL which (ds.drop (j + 1)) (j + 1)) ++ [x]) x [.int .i64 (x).f0, .int .i64 (x).f1.f0, .int .i64 (x).f1.f1, .string (x).f1.f2, .int .i64 (x).f2, .int .i64 (x).f3, .int .i64 (x).f4, .string (x).f5, .slice E8 (x).f6.length e8] (fun k => k < w.heap.size ∨ s6 ≤ k) (okW w wr w9) rfl rfl HFK11.out HAW11.out HFR.out HN11.out HBN.out HSN.out HLN.out ?_; intro v1 w12 ho hb hg hat; obtain ⟨P3, p3, rfl⟩ := Kd.N_slice ho; have HO10 := Lib.hid ho; have HB10 := Lib.hid hb; have HG10 := Lib.hid hg; have HAT := Lib.hid hat; clear ho hb hg hat; have HQ10 := Lib.hid ((HG10.out.block q (blk_lt HQ11.out) HQW.out).trans HQ11.out); have hq10 : w12.cell? ⟨q, 4, none⟩ = some (.slice P2 ((waysL which (ds.drop (j + 1)) (j + 1)).length + 1) p2) := (bkC HQ10.out 4).trans rfl; have hqf10 := bkF HQ10.out 4); have HW13 : Hid (WE w s6 g q #[.slice A0 sz.length c0, .int .i64 n, .slice A2 d2.length c2, .slice A3 d3.length c3, .slice (some ad) L c4, .slice A5 d5.length c5, .slice A6 d6.length c6, .bool b7, .slice A8 d8.length c8, .slice A9 d9.length c9, .bool b10] (fun v4 => #[.slice A0 sz.length c0, .int .i64 n, .slice A2 d2.length c2, .slice A3 d3.length c3, v4, .slice A5 d5.length c5, .slice A6 d6.length c6, .bool b7, .slice A8 d8.length c8, .slice A9 d9.length c9, .bool b10]) ((waysL which (ds.drop (j + 1)) (j + 1)) ++ [x] ++ [x]) (w12.setCell ⟨q, 4, none⟩ (.slice P3 ((waysL which (ds.drop (j + 1)) (j + 1)) ++ [x] ++ [x]).length p3))) := Lib.hid ⟨HB10.out.setCell (p := ⟨q, 4, none⟩) hqw _, by have h1 := HW11.out.sz6; have h3 := HG10.out.size; simp; omega, blk_far ((HG10.out.block g (blk_lt HW11.out.bg) (fun h => by have h1 := own_gt HN11.out (Below.refl w11.heap.size w11) g h.symm; omega)).trans HW11.out.bg) (show g ≠ (⟨q, 4, none⟩ : Addr).block from by show g ≠ q; omega) _, _, _, _, blk_set HQ10.out 4 _, rfl, Kd.N_far HO10.out (fun k hk => by show k ≠ q; omega) _⟩; rw [show ((waysL which (ds.drop (j + 1)) (j + 1)) ++ [x] ++ [x]).length = (waysL which (ds.drop (j + 1)) (j + 1)).length + 1 + 1 from by simp] at HW13; go_wp2_with fail; go_roundw; (case rel => exact ⟨j, by omega, rfl, (by rw [ways_x HE.out, HW3.out]; have h := HW13.out; rw [List.append_assoc] at h; exact Lib.hid h)⟩); (case measure => simp [intOf])
        · have h3b : ((j : Int) % 3 == 0) = false := by simp only [beq_eq_false_iff_ne]; omega
          have HW3 : Hid (way1 which j x = [x]) := Lib.hid (by unfold way1; rw [if_neg h3, HY.out])
          clear h3
          go_wp2_with fail
          go_roundw
          case rel => exact ⟨j, by omega, rfl, by rw [ways_x HE.out, HW3.out]; exact HW11⟩
          case measure => simp [intOf]
      | true =>
        have hbit : (Go.bits .and .i64 (which / 2 ^ (j % 8)) 1 == 1) = true := hb
        have HY : Hid (wayE which j x = turnE x) := Lib.hid (by unfold wayE; rw [hb]; rfl)
        have HTU := Lib.hid (turnW_ok x E8 e8 w w8 HE8.out he8 HB08.out)
        unfold exC at HTU
        have hx8' := hx8
        obtain ⟨hz0, hz1, hz2, hz3, hz4, hz5, hz6, hz7, hz8⟩ := bkC9 hx8'
        obtain ⟨y, hy⟩ : ∃ y, turnE x = y := ⟨_, rfl⟩
        rw [hy] at HTU HY
        clear hy
        go_upto_region 12 with (first | (go_at_call 21; refine HTU.out.mono ?_; rintro rr wt ⟨D, k, rfl, hk, hFD, hBt⟩; have hxt := (hBt.block xb (blk_lt hx8)).trans hx8) | ((with_reducible refine gate_store (p := 12) (v := .tmp 52) rfl ?_); refine wpList_store_row rfl 26 (.tmp 12) (.tmp 52) rfl xb (exC y D k) rfl rfl 26 (exC x E8 e8) hxt (info_ex _ _ _) rfl (one_ex _ _ _) ?_))
        have hlx8 : xb < w8.heap.size := blk_lt hx8
        have HX9 := Lib.hid (setRow_at wt xb _ (exC x E8 e8) (exC y D k) hxt)
        have HB9 : Hid (Below wr.heap.size wr (wt.setRow xb (exC y D k))) := Lib.hid (below_setRow' (hB8.trans (hBt.mono hB8.size)) hxr _)
        have HK9 := Lib.hid hk
        have HF9 : Hid (Kd.F KX (wt.setRow xb (exC y D k)) (fun b => b < w.heap.size ∨ wr.heap.size ≤ b) D y.f6.length y.f6) := Lib.hid (Kd.F_mono (Kd.F_step hFD (fun b hb _ => setRow_heap wt (show xb ≠ b by have h1 := HJ.out.below.size; rcases hb with hb | hb <;> omega) _)) (fun b hb => hb.imp id (fun h => Nat.le_trans hB8.size h)))
        clear hx8 hx8' hB8 hb hbit he8 hxt hBt hFD hk hlx8 hz0 hz1 hz2 hz3 hz4 hz5 hz6 hz7 hz8 HTU
        generalize wt.setRow xb (exC y D k) = w9 at HX9 HB9 HF9 ⊢
        obtain ⟨A', n', c', hq', hn', hN'⟩ := HJ.out.ex; have HNQ := Lib.hid hn'; clear hn'; have HFR : Hid (∀ k, w9.heap.size ≤ k → (k < w.heap.size ∨ s6 ≤ k)) := Lib.hid (fun k hk => .inr (by have := HJ.out.sz6; have := HB9.out.size; omega)); have HQN := Lib.hid ((HB9.out.block q (blk_lt hq')).trans hq'); have HNN := Lib.hid (Kd.N_below hN' HB9.out); have HAW : Hid (∀ b, okW w wr w9 b → (b < w.heap.size ∨ s6 ≤ b) ∧ some b ≠ (Value.slice A' n' c').ownBlock) := Lib.hid (own_away hN' HJ.out.sz6); have HQW : Hid (some q ≠ (Value.slice A' n' c').ownBlock) := Lib.hid (fun h => by have h1 := hN'.1 q h.symm; omega); have HBN : Hid (Below w.heap.size w w9) := Lib.hid (HJ.out.below.trans (HB9.out.mono HJ.out.below.size)); have HSN : Hid (w.heap.size ≤ w9.heap.size) := Lib.hid HBN.out.size; have HLN : Hid (((waysL which (ds.drop (j + 1)) (j + 1)).length + 1) * 104 ≤ 140737488355328) := Lib.hid (by have := ways_len which (ds.drop (j + 1)) (j + 1); rw [List.length_drop, HDL.out] at this; omega); have HFK := Lib.hid (k26_mkF w9 _ (y) HK9.out (Kd.F_mono (Kd.F_bound HF9.out) (fun b hb => (hb : okW w wr w9 b)))); have hzq : w9.cell? ⟨q, 4, none⟩ = some (.slice A' n' c') := (bkC HQN.out 4).trans rfl; have hltx : xb < w9.heap.size := blk_lt HX9.out; have hltq : q < w9.heap.size := blk_lt HQN.out; have HAX : Hid (some xb ≠ (Value.slice A' n' c').ownBlock) := Lib.hid (fun h => by have h1 := Kd.N_lt hN' xb h.symm; omega); clear hq' hN'; obtain ⟨hz0, hz1, hz2, hz3, hz4, hz5, hz6, hz7, hz8⟩ := bkC9 HX9.out; go_upto_region 13 with ((with_reducible refine gate_builtin (b := .append) (xs := #[.tmp 54, .tmp 56]) rfl ?_); at_builtin; refine Kd.N_append KX (w0 := w) w.heap.size rfl (.tmp 54) (.tmp 56) 24 26 (.agg #[(.int .i64 0), (.int .i64 0), (.int .i64 0), (.string ⟨#[]⟩), (.int .i64 0), (.int .i64 0), (.int .i64 0), (.string ⟨#[]⟩), (.slice none 0 0)]) 104 rfl Tryd.underlying24 info26 rfl (by decide) (by omega) (.slice A' n' c') (waysL which (ds.drop (j + 1)) (j + 1)) y [.int .i64 (y).f0, .int .i64 (y).f1.f0, .int .i64 (y).f1.f1, .string (y).f1.f2, .int .i64 (y).f2, .int .i64 (y).f3, .int .i64 (y).f4, .string (y).f5, .slice D (y).f6.length k] (fun k => k < w.heap.size ∨ s6 ≤ k) (okW w wr w9) rfl rfl HFK.out HAW.out HFR.out HNN.out HBN.out HSN.out HLN.out ?_; intro v1 w10 ho hb hg hat; obtain ⟨P2, p2, rfl⟩ := Kd.N_slice ho; have HO10 := Lib.hid ho; have HB10 := Lib.hid hb; have HG10 := Lib.hid hg; have HAT := Lib.hid hat; clear ho hb hg hat; have HQ10 := Lib.hid ((HG10.out.block q (blk_lt HQN.out) HQW.out).trans HQN.out); have hq10 : w10.cell? ⟨q, 4, none⟩ = some (.slice A' n' c') := (bkC HQ10.out 4).trans rfl; have hqf10 := bkF HQ10.out 4); have HW11 : Hid (WE w s6 g q #[.slice A0 sz.length c0, .int .i64 n, .slice A2 d2.length c2, .slice A3 d3.length c3, .slice (some ad) L c4, .slice A5 d5.length c5, .slice A6 d6.length c6, .bool b7, .slice A8 d8.length c8, .slice A9 d9.length c9, .bool b10] (fun v4 => #[.slice A0 sz.length c0, .int .i64 n, .slice A2 d2.length c2, .slice A3 d3.length c3, v4, .slice A5 d5.length c5, .slice A6 d6.length c6, .bool b7, .slice A8 d8.length c8, .slice A9 d9.length c9, .bool b10]) (waysL which (ds.drop (j + 1)) (j + 1) ++ [y]) (w10.setCell ⟨q, 4, none⟩ (.slice P2 (waysL which (ds.drop (j + 1)) (j + 1) ++ [y]).length p2))) := Lib.hid ⟨HB10.out.setCell (p := ⟨q, 4, none⟩) hqw _, by have h1 := HJ.out.sz6; have h2 := HB9.out.size; have h3 := HG10.out.size; simp; omega, blk_far ((HG10.out.block g (by have := blk_lt HJ.out.bg; have := HB9.out.size; omega) (fun h => by have h1 := own_gt HNN.out HB9.out g h.symm; omega)).trans ((HB9.out.block g (blk_lt HJ.out.bg)).trans HJ.out.bg)) (show g ≠ (⟨q, 4, none⟩ : Addr).block from by show g ≠ q; omega) _, _, _, _, blk_set HQ10.out 4 _, rfl, Kd.N_far HO10.out (fun k hk => by show k ≠ q; omega) _⟩; have HX10 := Lib.hid ((HG10.out.block xb (blk_lt HX9.out) (HAX.out)).trans HX9.out); clear hz0 hz1 hz2 hz3 hz4 hz5 hz6 hz7 hz8 hzq hq10 hqf10 hltx hltq; have HLE : Hid (((waysL which (ds.drop (j + 1)) (j + 1)) ++ [y]).length = (waysL which (ds.drop (j + 1)) (j + 1)).length + 1) := Lib.hid (by simp); rw [HLE.out] at HW11 HO10 HAT; have HX11 := Lib.hid (blk_far HX10.out (show xb ≠ (⟨q, 4, none⟩ : Addr).block from by have h1 := HJ.out.sz6; show xb ≠ q; omega) (.slice P2 ((waysL which (ds.drop (j + 1)) (j + 1)).length + 1) p2)); have HQ11 := Lib.hid (blk_set HQ10.out 4 (.slice P2 ((waysL which (ds.drop (j + 1)) (j + 1)).length + 1) p2)); have HN11 := Lib.hid (Kd.N_far HO10.out (p := ⟨q, 4, none⟩) (fun k hk => by show k ≠ q; omega) (.slice P2 ((waysL which (ds.drop (j + 1)) (j + 1)).length + 1) p2)); have HFK11 : Hid (Kd.FK KX (w10.setCell ⟨q, 4, none⟩ (.slice P2 ((waysL which (ds.drop (j + 1)) (j + 1)).length + 1) p2)) (okW w wr w9) y [.int .i64 (y).f0, .int .i64 (y).f1.f0, .int .i64 (y).f1.f1, .string (y).f1.f2, .int .i64 (y).f2, .int .i64 (y).f3, .int .i64 (y).f4, .string (y).f5, .slice D (y).f6.length k]) := Lib.hid (Kd.FK_step HFK.out (fun b hb hlt => (Below.heap_setCell w10 ⟨q, 4, none⟩ _ b (by show b ≠ q; have h1 := hb.1; have h2 := HJ.out.sz6; omega)).trans (HG10.out.block b hlt (HAW.out b hb).2))); have HAW11 : Hid (∀ b, okW w wr w9 b → (b < w.heap.size ∨ s6 ≤ b) ∧ some b ≠ (Value.slice P2 ((waysL which (ds.drop (j + 1)) (j + 1)).length + 1) p2).ownBlock) := Lib.hid (fun b hb => ⟨(HAW.out b hb).1, own_new HAT.out (HAW.out b hb).2 hb.2⟩); generalize w10.setCell ⟨q, 4, none⟩ (.slice P2 ((waysL which (ds.drop (j + 1)) (j + 1)).length + 1) p2) = w11 at HW11 HX11 HQ11 HN11 HFK11 ⊢; clear HO10 HB10 HG10 HAT HQ10 HX10 HFK HAW HQW HNN HQN HAX HLN HSN HBN HFR; by_cases h3 : j % 3 = 0
        · have h3b : ((j : Int) % 3 == 0) = true := (by simp only [beq_iff_eq]; omega); have HW3 : Hid (way1 which j x = [y, y]) := Lib.hid (by unfold way1; rw [if_pos h3, HY.out]); clear h3; have HBN : Hid (Below w.heap.size w w11) := Lib.hid HW11.out.below; have HSN : Hid (w.heap.size ≤ w11.heap.size) := Lib.hid HBN.out.size; have HFR : Hid (∀ k, w11.heap.size ≤ k → (k < w.heap.size ∨ s6 ≤ k)) := Lib.hid (fun k hk => .inr (by have := HW11.out.sz6; omega)); have HLN : Hid ((((waysL which (ds.drop (j + 1)) (j + 1)) ++ [y]).length + 1) * 104 ≤ 140737488355328) := Lib.hid (by rw [HLE.out]; have := ways_len which (ds.drop (j + 1)) (j + 1); rw [List.length_drop, HDL.out] at this; omega); have HQW : Hid (some q ≠ (Value.slice P2 ((waysL which (ds.drop (j + 1)) (j + 1)).length + 1) p2).ownBlock) := Lib.hid (fun h => by have h1 := HN11.out.1 q h.symm; omega); have hzq : w11.cell? ⟨q, 4, none⟩ = some (.slice P2 ((waysL which (ds.drop (j + 1)) (j + 1)).length + 1) p2) := (bkC HQ11.out 4).trans rfl; have hltx : xb < w11.heap.size := blk_lt HX11.out; have hltq : q < w11.heap.size := blk_lt HQ11.out; obtain ⟨hz0, hz1, hz2, hz3, hz4, hz5, hz6, hz7, hz8⟩ := bkC9 HX11.out; go_upto_region 8 with ((with_reducible refine gate_builtin (b := .append) (xs := #[.tmp 63, .tmp 65]) rfl ?_); at_builtin; refine Kd.N_append KX (w0 := w) w.heap.size rfl (.tmp 63) (.tmp 65) 24 26 (.agg #[(.int .i64 0), (.int .i64 0), (.int .i64 0), (.string ⟨#[]⟩), (.int .i64 0), (.int .i64 0), (.int .i64 0), (.string ⟨#[]⟩), (.slice none 0 0)]) 104 rfl Tryd.underlying24 info26 rfl (by decide) (by omega) (.slice P2 ((waysL which (ds.drop (j + 1)) (j + 1)).length + 1) p2) ((waysL which (ds.drop (j + 1)) (j + 1)) ++ [y]) y [.int .i64 (y).f0, .int .i64 (y).f1.f0, .int .i64 (y).f1.f1, .string (y).f1.f2, .int .i64 (y).f2, .int .i64 (y).f3, .int .i64 (y).f4, .string (y).f5, .slice D (y).f6.length k] (fun k => k < w.heap.size ∨ s6 ≤ k) (okW w wr w9) rfl rfl HFK11.out HAW11.out HFR.out HN11.out HBN.out HSN.out HLN.out ?_; intro v1 w12 ho hb hg hat; obtain ⟨P3, p3, rfl⟩ := Kd.N_slice ho; have HO10 := Lib.hid ho; have HB10 := Lib.hid hb; have HG10 := Lib.hid hg; have HAT := Lib.hid hat; clear ho hb hg hat; have HQ10 := Lib.hid ((HG10.out.block q (blk_lt HQ11.out) HQW.out).trans HQ11.out); have hq10 : w12.cell? ⟨q, 4, none⟩ = some (.slice P2 ((waysL which (ds.drop (j + 1)) (j + 1)).length + 1) p2) := (bkC HQ10.out 4).trans rfl; have hqf10 := bkF HQ10.out 4); have HW13 : Hid (WE w s6 g q #[.slice A0 sz.length c0, .int .i64 n, .slice A2 d2.length c2, .slice A3 d3.length c3, .slice (some ad) L c4, .slice A5 d5.length c5, .slice A6 d6.length c6, .bool b7, .slice A8 d8.length c8, .slice A9 d9.length c9, .bool b10] (fun v4 => #[.slice A0 sz.length c0, .int .i64 n, .slice A2 d2.length c2, .slice A3 d3.length c3, v4, .slice A5 d5.length c5, .slice A6 d6.length c6, .bool b7, .slice A8 d8.length c8, .slice A9 d9.length c9, .bool b10]) ((waysL which (ds.drop (j + 1)) (j + 1)) ++ [y] ++ [y]) (w12.setCell ⟨q, 4, none⟩ (.slice P3 ((waysL which (ds.drop (j + 1)) (j + 1)) ++ [y] ++ [y]).length p3))) := Lib.hid ⟨HB10.out.setCell (p := ⟨q, 4, none⟩) hqw _, by have h1 := HW11.out.sz6; have h3 := HG10.out.size; simp; omega, blk_far ((HG10.out.block g (blk_lt HW11.out.bg) (fun h => by have h1 := own_gt HN11.out (Below.refl w11.heap.size w11) g h.symm; omega)).trans HW11.out.bg) (show g ≠ (⟨q, 4, none⟩ : Addr).block from by show g ≠ q; omega) _, _, _, _, blk_set HQ10.out 4 _, rfl, Kd.N_far HO10.out (fun k hk => by show k ≠ q; omega) _⟩; rw [show ((waysL which (ds.drop (j + 1)) (j + 1)) ++ [y] ++ [y]).length = (waysL which (ds.drop (j + 1)) (j + 1)).length + 1 + 1 from by simp] at HW13; go_wp2_with fail; go_roundw; (case rel => exact ⟨j, by omega, rfl, (by rw [ways_x HE.out, HW3.out]; have h := HW13.out; rw [List.append_assoc] at h; exact Lib.hid h)⟩); (case measure => simp [intOf])
        · have h3b : ((j : Int) % 3 == 0) = false := by simp only [beq_eq_false_iff_ne]; omega
          have HW3 : Hid (way1 which j x = [y]) := Lib.hid (by unfold way1; rw [if_neg h3, HY.out])
          clear h3
          go_wp2_with fail
          go_roundw
          case rel => exact ⟨j, by omega, rfl, by rw [ways_x HE.out, HW3.out]; exact HW11⟩
          case measure => simp [intOf]
    | zero =>
      rw [show ((0 : Nat) : Int) - 1 = -1 by rfl]
      obtain ⟨A', n', c', hq', hn', hN'⟩ := HJ.out.ex
      have HNQ := Lib.hid hn'.symm
      clear hn'
      have hl2 := ways_len which (ds.drop 0) 0
      have HB := Lib.hid HJ.out.below
      obtain ⟨hn2, hc2, hC2⟩ := Kd.N_reads' hN'
      rw [List.drop_zero, HDL.out] at hl2
      rw [List.drop_zero] at hC2 hn2
      have HO2 := Lib.hid (of_any sz d2 n m d3 (waysL which ds 0) d5 d6 d8 d9 A0 A2 A3 A' A5 A6 A8 A9 c0 c2 c3 c' c5 c6 c8 c9 b7 b10 n' hn2.symm wr hm63 (tab_at HT.out HB.out) (ways_rng which HDG.out 0) (by rw [hn2]; exact hC2) (by omega) hc2 HSZ.out (Kd.C_below HC0.out HB.out))
      rw [alike_res sz n m hm63 (ways_alike which ds 0), HRS.out] at HO2
      have hz0 : wr.cell? ⟨q, 0, none⟩ = some (.slice A0 sz.length c0) := (bkC hq' 0).trans rfl; have hz1 : wr.cell? ⟨q, 1, none⟩ = some (.int .i64 n) := (bkC hq' 1).trans rfl; have hz2 : wr.cell? ⟨q, 2, none⟩ = some (.slice A2 d2.length c2) := (bkC hq' 2).trans rfl; have hz3 : wr.cell? ⟨q, 3, none⟩ = some (.slice A3 d3.length c3) := (bkC hq' 3).trans rfl; have hz4 : wr.cell? ⟨q, 4, none⟩ = some (.slice A' n' c') := (bkC hq' 4).trans rfl; have hz5 : wr.cell? ⟨q, 5, none⟩ = some (.slice A5 d5.length c5) := (bkC hq' 5).trans rfl; have hz6 : wr.cell? ⟨q, 6, none⟩ = some (.slice A6 d6.length c6) := (bkC hq' 6).trans rfl; have hz7 : wr.cell? ⟨q, 7, none⟩ = some (.bool b7) := (bkC hq' 7).trans rfl; have hz8 : wr.cell? ⟨q, 8, none⟩ = some (.slice A8 d8.length c8) := (bkC hq' 8).trans rfl; have hz9 : wr.cell? ⟨q, 9, none⟩ = some (.slice A9 d9.length c9) := (bkC hq' 9).trans rfl; have hz10 : wr.cell? ⟨q, 10, none⟩ = some (.bool b10) := (bkC hq' 10).trans rfl
      clear hn2 hc2 hC2 hl2 hN' hq'
      go_wp2_with (go_at_call 18; refine HO2.out.mono ?_; rintro rr w15 ⟨rfl, hB15⟩; have HB15 := Lib.hid hB15; clear hB15)
      go_ret
      exact ⟨rfl, HB.out.trans (HB15.out.mono HB.out.size)⟩
end Go.Proofs.YtpdhoghkoakojaaDoor.E
