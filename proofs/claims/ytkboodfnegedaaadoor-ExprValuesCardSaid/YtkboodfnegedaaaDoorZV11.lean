/- Contracts and plain lemmas of the functions that the law reaches, part 11. -/
import Derived.Test.YtkboodfnegedaaaDoorZV3
import Derived.Test.YtkboodfnegedaaaDoorZV4
import Derived.Test.YtkboodfnegedaaaDoorZV9
namespace Go.Proofs.YtkboodfnegedaaaDoor.E
open Go.RowKit Go.Proofs.YtkboodfnegedaaaDoorW.PrintWords Go.Proofs.YtkboodfnegedaaaDoorW.PrintLast Go.Proofs.YtkboodfnegedaaaDoorW.PrintMore
attribute [local go_sem] max2_int min2_int max_two min_two max_three min_three max_four min_four   -- for this text's walks alone
set_option linter.unusedVariables false
set_option linter.unusedSimpArgs false
def q01_Sub.j0 : Nat → Bool → Int → Int → ByteArray → Int → Int → ByteArray → Option (Int × Int × ByteArray × Int)
 | 0, _, _, _, _, _, _, _ => none
 | k + 1, x20, x234000, x234001, x234002, x235000, x235001, x235002 => if x20 = true then (some (0, 0, (⟨#[]⟩ : ByteArray), 0)) else (if x235001 < 0 then (if x234001 > (wrap64 (9223372036854775807 + x235001)) then (some (0, 0, (⟨#[]⟩ : ByteArray), 3)) else (if x235001 > 0 then (if x234001 < (wrap64 ((-9223372036854775808) + x235001)) then (some (0, 0, (⟨#[]⟩ : ByteArray), 3)) else ((q01_one.f (wrap64 (x234001 - x235001))).bind fun bt237 => (some (bt237.1, bt237.2.1, bt237.2.2, 0)))) else ((q01_one.f (wrap64 (x234001 - x235001))).bind fun bt240 => (some (bt240.1, bt240.2.1, bt240.2.2, 0))))) else (if x235001 > 0 then (if x234001 < (wrap64 ((-9223372036854775808) + x235001)) then (some (0, 0, (⟨#[]⟩ : ByteArray), 3)) else ((q01_one.f (wrap64 (x234001 - x235001))).bind fun bt243 => (some (bt243.1, bt243.2.1, bt243.2.2, 0)))) else ((q01_one.f (wrap64 (x234001 - x235001))).bind fun bt246 => (some (bt246.1, bt246.2.1, bt246.2.2, 0)))))
def q01_Sub.f (k : Nat) (a0_0 : Int) (a0_1 : Int) (a0_2 : ByteArray) (a1_0 : Int) (a1_1 : Int) (a1_2 : ByteArray) : Option (Int × Int × ByteArray × Int) := (q01_of.f 1 a0_0 a0_1 a0_2 a1_0 a1_1 a1_2).bind fun t236 => (if t236 = true then (if a0_0 = 0 then (q01_Sub.j0 k true a0_0 a0_1 a0_2 a1_0 a1_1 a1_2) else (q01_Sub.j0 k (a1_0 == 0) a0_0 a0_1 a0_2 a1_0 a1_1 a1_2)) else (some (0, 0, (⟨#[]⟩ : ByteArray), 1)))
set_option maxHeartbeats 8000000 in
set_option maxRecDepth 100000 in
theorem q01_Sub.calls (k : Nat) (a0_0 : Int) (a0_1 : Int) (a0_2 : ByteArray) (a1_0 : Int) (a1_1 : Int) (a1_2 : ByteArray) (r1 : Int) (r2 : Int) (r3 : ByteArray) (r4 : Int) (w : World) (h : q01_Sub.f k a0_0 a0_1 a0_2 a1_0 a1_1 a1_2 = some (r1, r2, r3, r4)) :
  Calls Tryd.prog 75 #[.agg #[.int .i64 a0_0, .int .i64 a0_1, .string a0_2], .agg #[.int .i64 a1_0, .int .i64 a1_1, .string a1_2]] w fun e w' => e = .returned (.tuple #[.agg #[.int .i64 r1, .int .i64 r2, .string r3], .int .i64 r4]) ∧ Below w.heap.size w w' := by
 have hu23 := Tryd.underlying23
 have HB := Asd.mk (Below.refl w.heap.size w)
 have H : ((q01_of.f 1 a0_0 a0_1 a0_2 a1_0 a1_1 a1_2).bind fun t236 => (if t236 = true then (if a0_0 = 0 then (q01_Sub.j0 k true a0_0 a0_1 a0_2 a1_0 a1_1 a1_2) else (q01_Sub.j0 k (a1_0 == 0) a0_0 a0_1 a0_2 a1_0 a1_1 a1_2)) else (some (0, 0, (⟨#[]⟩ : ByteArray), 1)))) = some (r1, r2, r3, r4) := h
 clear h
 replace H := Option.bind_eq_some_iff.mp H
 obtain ⟨t236, A30, H⟩ := H
 replace H : (if t236 = true then (if a0_0 = 0 then (q01_Sub.j0 k true a0_0 a0_1 a0_2 a1_0 a1_1 a1_2) else (q01_Sub.j0 k (a1_0 == 0) a0_0 a0_1 a0_2 a1_0 a1_1 a1_2)) else (some (0, 0, (⟨#[]⟩ : ByteArray), 1))) = some (r1, r2, r3, r4) := H
 have A3 := Asd.mk A30
 clear A30
 by_cases c4 : t236 = true
 ·subst c4
  have H1 : (if a0_0 = 0 then (q01_Sub.j0 k true a0_0 a0_1 a0_2 a1_0 a1_1 a1_2) else (q01_Sub.j0 k (a1_0 == 0) a0_0 a0_1 a0_2 a1_0 a1_1 a1_2)) = some (r1, r2, r3, r4) := by rw [if_pos rfl] at H; exact H
  clear H
  have H := H1
  clear H1
  have HC5 := Asd.mk H
  clear H
  go_enter Tryd.func75, Tryd.ntmps75
  go_upto_region 4 with (first | ((with_reducible refine gate_dst (N := 2) rfl ?_); refine box_event rfl (N := 2) rfl (cs := #[.int .i64 a0_0, .int .i64 a0_1, .string a0_2]) (t := 23) (by first | (go_simp; done) | (go_simp; rfl)) ?_; intro gb233 hg w6 hbox hb; have BK233 := Asd.mk (hbox); have GW233 := Asd.mk (bZ hg HB.out); have GE233 := GW233; replace HB := Asd.mk (bS hb HB.out); clear hb hbox hg) | ((with_reducible refine gate_dst (N := 3) rfl ?_); refine box_event rfl (N := 3) rfl (cs := #[.int .i64 a1_0, .int .i64 a1_1, .string a1_2]) (t := 23) (by first | (go_simp; done) | (go_simp; rfl)) ?_; intro gb234 hg w7 hbox hb; have BK234 := Asd.mk (hbox); have GW234 := Asd.mk (bZ hg HB.out); have GE234 := GW234; have NB233_234 := Asd.mk (bL hg BK233.out); have NB234_233 := Asd.mk (bG hg BK233.out); replace BK233 := Asd.mk (bB hb BK233.out); replace HB := Asd.mk (bS hb HB.out); clear hb hbox hg) | ((with_reducible refine gate_dst (N := 4) rfl ?_); refine box_event rfl (N := 4) rfl (cs := #[.int .i64 0, .int .i64 0, .string (⟨#[]⟩ : ByteArray)]) (t := 23) (by first | (go_simp; done) | (go_simp; rfl)) ?_; intro gb235 hg w8 hbox hb; have BK235 := Asd.mk (hbox); have GW235 := Asd.mk (bZ hg HB.out); have GE235 := GW235; have NB233_235 := Asd.mk (bL hg BK233.out); have NB235_233 := Asd.mk (bG hg BK233.out); have NB234_235 := Asd.mk (bL hg BK234.out); have NB235_234 := Asd.mk (bG hg BK234.out); replace BK233 := Asd.mk (bB hb BK233.out); replace BK234 := Asd.mk (bB hb BK234.out); replace HB := Asd.mk (bS hb HB.out); clear hb hbox hg; have hnb9 := NB233_234.out; have hnc9 := NB234_233.out; have hnb10 := NB233_235.out; have hnc10 := NB235_233.out; obtain ⟨hcz11_0, hcz11_1, hcz11_2⟩ := bkC3 BK233.out; obtain ⟨hfz11_0, hfz11_1, hfz11_2⟩ := bkF3 BK233.out; have hnb12 := NB234_235.out; have hnc12 := NB235_234.out; obtain ⟨hcz13_0, hcz13_1, hcz13_2⟩ := bkC3 BK234.out; obtain ⟨hfz13_0, hfz13_1, hfz13_2⟩ := bkF3 BK234.out) | ((with_reducible refine gate_callee (f := 100) rfl ?_); refine goesL_ (some 9) rfl rfl Tryd.func100 (by kernel_rfl) rfl #[.int .i64 1, .agg #[.int .i64 a0_0, .int .i64 a0_1, .string a0_2], .agg #[.int .i64 a1_0, .int .i64 a1_1, .string a1_2]] rfl (by (try simp only [List.map_toArray, List.map_cons, List.map_nil]); first | done | rfl | (simp only [List.length_drop, List.length_take]; rfl)) ?_; (with_reducible refine (q01_of.calls 1 a0_0 a0_1 a0_2 a1_0 a1_1 a1_2 true _ A3.out).mono ?_); rintro e w14 ⟨rfl, hb⟩; refine ⟨_, rfl, ?_⟩; replace BK233 := Asd.mk (bB hb BK233.out); replace BK234 := Asd.mk (bB hb BK234.out); replace BK235 := Asd.mk (bB hb BK235.out); replace HB := Asd.mk (bS hb HB.out); clear hb))
  (try simp only [Act.put, List.setIfInBounds_toArray, List.set_cons_zero, List.set_cons_succ])
  go_cut [20] (fun v20 wc => ∃ (kq : Nat) (x20_4 : Bool), v20 = .bool x20_4 ∧ Asd (q01_Sub.j0 kq x20_4 a0_0 a0_1 a0_2 a1_0 a1_1 a1_2 = some (r1, r2, r3, r4)) ∧ Asd (kq ≤ k) ∧ Asd (wc.heap[gb233]? = some (.cells #[.int .i64 a0_0, .int .i64 a0_1, .string a0_2] 23 (0, 0))) ∧ Asd (wc.heap[gb234]? = some (.cells #[.int .i64 a1_0, .int .i64 a1_1, .string a1_2] 23 (0, 0))) ∧ Asd (wc.heap[gb235]? = some (.cells #[.int .i64 0, .int .i64 0, .string (⟨#[]⟩ : ByteArray)] 23 (0, 0))) ∧ Asd (Below w.heap.size w wc))
  case first =>
   have H := HC5.out
   clear HC5
   by_cases c15 : a0_0 = 0
   ·rw [if_pos c15] at H
    have c15b0 : (a0_0 == 0) = true := beq_iff_eq.mpr c15
    have c15b1 : (a0_0 != 0) = false := bne_eq_false_iff_eq.mpr c15
    clear c15
    (first | rw [c15b0] | (simp only [i64_w, i32_w]; rw [c15b0]) | skip)
    have H' := Asd.mk H
    clear H
    have hnb16 := NB233_234.out
    have hnc16 := NB234_233.out
    have hnb17 := NB233_235.out
    have hnc17 := NB235_233.out
    obtain ⟨hcz18_0, hcz18_1, hcz18_2⟩ := bkC3 BK233.out
    obtain ⟨hfz18_0, hfz18_1, hfz18_2⟩ := bkF3 BK233.out
    go_wp2
    go_meet
    case rel => exact ⟨_, (true), (by first | rfl | (simp; done) | (simp [*]; done)), H', ⟨by first | omega | exact Nat.le_refl _⟩, ⟨by exact BK233.out⟩, ⟨by exact BK234.out⟩, ⟨by exact BK235.out⟩, ⟨by repeat (first | (with_reducible first | exact HB.out | apply blA | apply pbN | apply blD | refine blS ?_ GE233.out | refine blS ?_ GE234.out | refine blS ?_ GE235.out) | exact HB.out)⟩⟩
   ·rw [if_neg c15] at H
    have c15b0 : (a0_0 == 0) = false := beq_eq_false_iff_ne.mpr c15
    have c15b1 : (a0_0 != 0) = true := bne_iff_ne.mpr c15
    (first | rw [c15b0] | (simp only [i64_w, i32_w]; rw [c15b0]) | skip)
    have H' := Asd.mk H
    clear H
    have hnb19 := NB233_234.out
    have hnc19 := NB234_233.out
    have hnb20 := NB233_235.out
    have hnc20 := NB235_233.out
    obtain ⟨hcz21_0, hcz21_1, hcz21_2⟩ := bkC3 BK233.out
    obtain ⟨hfz21_0, hfz21_1, hfz21_2⟩ := bkF3 BK233.out
    have hnb22 := NB234_235.out
    have hnc22 := NB235_234.out
    obtain ⟨hcz23_0, hcz23_1, hcz23_2⟩ := bkC3 BK234.out
    obtain ⟨hfz23_0, hfz23_1, hfz23_2⟩ := bkF3 BK234.out
    go_wp2
    go_meet
    case rel => exact ⟨_, ((a1_0 == 0)), (by first | rfl | (simp; done) | (simp [*]; done)), H', ⟨by first | omega | exact Nat.le_refl _⟩, ⟨by exact BK233.out⟩, ⟨by exact BK234.out⟩, ⟨by exact BK235.out⟩, ⟨by repeat (first | (with_reducible first | exact HB.out | apply blA | apply pbN | apply blD | refine blS ?_ GE233.out | refine blS ?_ GE234.out | refine blS ?_ GE235.out) | exact HB.out)⟩⟩
  case rest =>
   clear HC5
   try clear c1
   try clear c2
   try clear p2
   try clear c4
   try clear c7
   try clear c9
   try clear c10
   try clear c12
   try clear c15
   try clear c15b0
   try clear c15b1
   try clear c16
   try clear c17
   try clear c19
   try clear c20
   try clear c22
   try clear hcz11_0
   try clear hcz11_1
   try clear hcz11_2
   try clear hcz13_0
   try clear hcz13_1
   try clear hcz13_2
   try clear hcz18_0
   try clear hcz18_1
   try clear hcz18_2
   try clear hcz21_0
   try clear hcz21_1
   try clear hcz21_2
   try clear hcz23_0
   try clear hcz23_1
   try clear hcz23_2
   try clear hfz11_0
   try clear hfz11_1
   try clear hfz11_2
   try clear hfz13_0
   try clear hfz13_1
   try clear hfz13_2
   try clear hfz18_0
   try clear hfz18_1
   try clear hfz18_2
   try clear hfz21_0
   try clear hfz21_1
   try clear hfz21_2
   try clear hfz23_0
   try clear hfz23_1
   try clear hfz23_2
   obtain ⟨kq, x20_4, rfl, HA, HJ4, BK233, BK234, BK235, HB⟩ := hcut
   cases kq with
   | zero => exact absurd HA.out (by simp [q01_Sub.j0])
   | succ kj4 =>
    have H := HA.out
    clear HA
    simp only [q01_Sub.j0] at H
    by_cases c24 : x20_4 = true
    ·subst c24
     have H1 : (some (0, 0, (⟨#[]⟩ : ByteArray), 0)) = some (r1, r2, r3, r4) := by rw [if_pos rfl] at H; exact H
     clear H
     have H := H1
     clear H1
     simp only [Option.some.injEq, Prod.mk.injEq] at H
     obtain ⟨rfl, rfl, rfl, rfl⟩ := H
     have hnb25 := NB235_233.out
     have hnc25 := NB233_235.out
     have hnb26 := NB235_234.out
     have hnc26 := NB234_235.out
     obtain ⟨hcz27_0, hcz27_1, hcz27_2⟩ := bkC3 BK235.out
     obtain ⟨hfz27_0, hfz27_1, hfz27_2⟩ := bkF3 BK235.out
     go_wp2
     refine bodyPost_ret (results_ct rfl _ _ gb235 23 #[.int .i64 0, .int .i64 0, .string (⟨#[]⟩ : ByteArray)] (0, 0) _ rfl (by refine blk_put (cs := #[.int .i64 0, .int .i64 0, .string (⟨#[]⟩ : ByteArray)]) ?_ 2 _ rfl; refine blk_put (cs := #[.int .i64 0, .int .i64 0, .string (⟨#[]⟩ : ByteArray)]) ?_ 1 _ rfl; refine blk_put (cs := #[.int .i64 0, .int .i64 0, .string (⟨#[]⟩ : ByteArray)]) ?_ 0 _ rfl; exact BK235.out) Tryd.underlying23 rfl (by kernel_rfl)) rfl ?_
     exact ⟨by first | rfl | (simp [errW_none, errW_some] <;> rfl) | (simp [*, errW_none, errW_some] <;> rfl), by repeat (first | (with_reducible first | exact HB.out | apply blA | apply pbN | apply blD | refine blS ?_ GE233.out | refine blS ?_ GE234.out | refine blS ?_ GE235.out) | exact HB.out)⟩
    ·replace c24 := Bool.eq_false_iff.mpr c24
     subst c24
     have H1 : (if a1_1 < 0 then (if a0_1 > (wrap64 (9223372036854775807 + a1_1)) then (some (0, 0, (⟨#[]⟩ : ByteArray), 3)) else (if a1_1 > 0 then (if a0_1 < (wrap64 ((-9223372036854775808) + a1_1)) then (some (0, 0, (⟨#[]⟩ : ByteArray), 3)) else ((q01_one.f (wrap64 (a0_1 - a1_1))).bind fun bt237 => (some (bt237.1, bt237.2.1, bt237.2.2, 0)))) else ((q01_one.f (wrap64 (a0_1 - a1_1))).bind fun bt240 => (some (bt240.1, bt240.2.1, bt240.2.2, 0))))) else (if a1_1 > 0 then (if a0_1 < (wrap64 ((-9223372036854775808) + a1_1)) then (some (0, 0, (⟨#[]⟩ : ByteArray), 3)) else ((q01_one.f (wrap64 (a0_1 - a1_1))).bind fun bt243 => (some (bt243.1, bt243.2.1, bt243.2.2, 0)))) else ((q01_one.f (wrap64 (a0_1 - a1_1))).bind fun bt246 => (some (bt246.1, bt246.2.1, bt246.2.2, 0))))) = some (r1, r2, r3, r4) := by rw [if_neg (show ¬ (false = true) by decide)] at H; exact H
     clear H
     have H := H1
     clear H1
     by_cases c28 : a1_1 < 0
     ·rw [if_pos c28] at H
      have c28b0 : decide (a1_1 < 0) = true := decide_eq_true c28
      clear c28
      by_cases c29 : a0_1 > (wrap64 (9223372036854775807 + a1_1))
      ·rw [if_pos c29] at H
       have c29b0 : decide ((wrap64 (9223372036854775807 + a1_1)) < a0_1) = true := decide_eq_true c29
       clear c29
       simp only [Option.some.injEq, Prod.mk.injEq] at H
       obtain ⟨rfl, rfl, rfl, rfl⟩ := H
       have hnb30 := NB234_233.out
       have hnc30 := NB233_234.out
       have hnb31 := NB234_235.out
       have hnc31 := NB235_234.out
       obtain ⟨hcz32_0, hcz32_1, hcz32_2⟩ := bkC3 BK234.out
       obtain ⟨hfz32_0, hfz32_1, hfz32_2⟩ := bkF3 BK234.out
       have hnb33 := NB233_235.out
       have hnc33 := NB235_233.out
       obtain ⟨hcz34_0, hcz34_1, hcz34_2⟩ := bkC3 BK233.out
       obtain ⟨hfz34_0, hfz34_1, hfz34_2⟩ := bkF3 BK233.out
       obtain ⟨hcz35_0, hcz35_1, hcz35_2⟩ := bkC3 BK235.out
       obtain ⟨hfz35_0, hfz35_1, hfz35_2⟩ := bkF3 BK235.out
       go_wp2
       refine bodyPost_ret (results_ct rfl _ _ gb235 23 #[.int .i64 0, .int .i64 0, .string (⟨#[]⟩ : ByteArray)] (0, 0) _ rfl (by refine blk_put (cs := #[.int .i64 0, .int .i64 0, .string (⟨#[]⟩ : ByteArray)]) ?_ 2 _ rfl; refine blk_put (cs := #[.int .i64 0, .int .i64 0, .string (⟨#[]⟩ : ByteArray)]) ?_ 1 _ rfl; refine blk_put (cs := #[.int .i64 0, .int .i64 0, .string (⟨#[]⟩ : ByteArray)]) ?_ 0 _ rfl; exact BK235.out) Tryd.underlying23 rfl (by kernel_rfl)) rfl ?_
       exact ⟨by first | rfl | (simp [errW_none, errW_some] <;> rfl) | (simp [*, errW_none, errW_some] <;> rfl), by repeat (first | (with_reducible first | exact HB.out | apply blA | apply pbN | apply blD | refine blS ?_ GE233.out | refine blS ?_ GE234.out | refine blS ?_ GE235.out) | exact HB.out)⟩
      ·rw [if_neg c29] at H
       have c29b0 : decide ((wrap64 (9223372036854775807 + a1_1)) < a0_1) = false := decide_eq_false c29
       clear c29
       by_cases c36 : a1_1 > 0
       ·rw [if_pos c36] at H
        have c36b0 : decide (0 < a1_1) = true := decide_eq_true c36
        clear c36
        by_cases c37 : a0_1 < (wrap64 ((-9223372036854775808) + a1_1))
        ·rw [if_pos c37] at H
         have c37b0 : decide (a0_1 < (wrap64 ((-9223372036854775808) + a1_1))) = true := decide_eq_true c37
         clear c37
         simp only [Option.some.injEq, Prod.mk.injEq] at H
         obtain ⟨rfl, rfl, rfl, rfl⟩ := H
         have hnb38 := NB234_233.out
         have hnc38 := NB233_234.out
         have hnb39 := NB234_235.out
         have hnc39 := NB235_234.out
         obtain ⟨hcz40_0, hcz40_1, hcz40_2⟩ := bkC3 BK234.out
         obtain ⟨hfz40_0, hfz40_1, hfz40_2⟩ := bkF3 BK234.out
         have hnb41 := NB233_235.out
         have hnc41 := NB235_233.out
         obtain ⟨hcz42_0, hcz42_1, hcz42_2⟩ := bkC3 BK233.out
         obtain ⟨hfz42_0, hfz42_1, hfz42_2⟩ := bkF3 BK233.out
         obtain ⟨hcz43_0, hcz43_1, hcz43_2⟩ := bkC3 BK235.out
         obtain ⟨hfz43_0, hfz43_1, hfz43_2⟩ := bkF3 BK235.out
         go_wp2
         refine bodyPost_ret (results_ct rfl _ _ gb235 23 #[.int .i64 0, .int .i64 0, .string (⟨#[]⟩ : ByteArray)] (0, 0) _ rfl (by refine blk_put (cs := #[.int .i64 0, .int .i64 0, .string (⟨#[]⟩ : ByteArray)]) ?_ 2 _ rfl; refine blk_put (cs := #[.int .i64 0, .int .i64 0, .string (⟨#[]⟩ : ByteArray)]) ?_ 1 _ rfl; refine blk_put (cs := #[.int .i64 0, .int .i64 0, .string (⟨#[]⟩ : ByteArray)]) ?_ 0 _ rfl; exact BK235.out) Tryd.underlying23 rfl (by kernel_rfl)) rfl ?_
         exact ⟨by first | rfl | (simp [errW_none, errW_some] <;> rfl) | (simp [*, errW_none, errW_some] <;> rfl), by repeat (first | (with_reducible first | exact HB.out | apply blA | apply pbN | apply blD | refine blS ?_ GE233.out | refine blS ?_ GE234.out | refine blS ?_ GE235.out) | exact HB.out)⟩
        ·rw [if_neg c37] at H
         have c37b0 : decide (a0_1 < (wrap64 ((-9223372036854775808) + a1_1))) = false := decide_eq_false c37
         clear c37
         replace H := Option.bind_eq_some_iff.mp H
         obtain ⟨⟨t237, t238, t239⟩, A440, H⟩ := H
         replace H : (some (t237, t238, t239, 0)) = some (r1, r2, r3, r4) := H
         have A44 := Asd.mk A440
         clear A440
         simp only [Option.some.injEq, Prod.mk.injEq] at H
         obtain ⟨rfl, rfl, rfl, rfl⟩ := H
         have hnb45 := NB234_233.out
         have hnc45 := NB233_234.out
         have hnb46 := NB234_235.out
         have hnc46 := NB235_234.out
         obtain ⟨hcz47_0, hcz47_1, hcz47_2⟩ := bkC3 BK234.out
         obtain ⟨hfz47_0, hfz47_1, hfz47_2⟩ := bkF3 BK234.out
         have hnb48 := NB233_235.out
         have hnc48 := NB235_233.out
         obtain ⟨hcz49_0, hcz49_1, hcz49_2⟩ := bkC3 BK233.out
         obtain ⟨hfz49_0, hfz49_1, hfz49_2⟩ := bkF3 BK233.out
         go_wp2_with (first | ((with_reducible refine gate_callee (f := 101) rfl ?_); refine goesL_ (some 52) rfl rfl Tryd.func101 (by kernel_rfl) rfl #[.int .i64 (wrap64 (a0_1 - a1_1))] rfl (by (try simp only [List.map_toArray, List.map_cons, List.map_nil]); first | done | rfl | (simp only [List.length_drop, List.length_take]; rfl)) ?_; (with_reducible refine (q01_one.calls (wrap64 (a0_1 - a1_1)) t237 t238 t239 _ A44.out).mono ?_); rintro e w50 ⟨rfl, hb⟩; refine ⟨_, rfl, ?_⟩; replace BK233 := Asd.mk (bB hb BK233.out); replace BK234 := Asd.mk (bB hb BK234.out); replace BK235 := Asd.mk (bB hb BK235.out); replace HB := Asd.mk (bS hb HB.out); clear hb; obtain ⟨hcz51_0, hcz51_1, hcz51_2⟩ := bkC3 BK235.out; obtain ⟨hfz51_0, hfz51_1, hfz51_2⟩ := bkF3 BK235.out))
         refine bodyPost_ret (results_ct rfl _ _ gb235 23 #[.int .i64 t237, .int .i64 t238, .string t239] (0, 0) _ rfl (by refine blk_put (cs := #[.int .i64 t237, .int .i64 t238, .string (⟨#[]⟩ : ByteArray)]) ?_ 2 _ rfl; refine blk_put (cs := #[.int .i64 t237, .int .i64 0, .string (⟨#[]⟩ : ByteArray)]) ?_ 1 _ rfl; refine blk_put (cs := #[.int .i64 0, .int .i64 0, .string (⟨#[]⟩ : ByteArray)]) ?_ 0 _ rfl; exact BK235.out) Tryd.underlying23 rfl (by kernel_rfl)) rfl ?_
         exact ⟨by first | rfl | (simp [errW_none, errW_some] <;> rfl) | (simp [*, errW_none, errW_some] <;> rfl), by repeat (first | (with_reducible first | exact HB.out | apply blA | apply pbN | apply blD | refine blS ?_ GE233.out | refine blS ?_ GE234.out | refine blS ?_ GE235.out) | exact HB.out)⟩
       ·rw [if_neg c36] at H
        have c36b0 : decide (0 < a1_1) = false := decide_eq_false c36
        clear c36
        replace H := Option.bind_eq_some_iff.mp H
        obtain ⟨⟨t240, t241, t242⟩, A520, H⟩ := H
        replace H : (some (t240, t241, t242, 0)) = some (r1, r2, r3, r4) := H
        have A52 := Asd.mk A520
        clear A520
        simp only [Option.some.injEq, Prod.mk.injEq] at H
        obtain ⟨rfl, rfl, rfl, rfl⟩ := H
        have hnb53 := NB234_233.out
        have hnc53 := NB233_234.out
        have hnb54 := NB234_235.out
        have hnc54 := NB235_234.out
        obtain ⟨hcz55_0, hcz55_1, hcz55_2⟩ := bkC3 BK234.out
        obtain ⟨hfz55_0, hfz55_1, hfz55_2⟩ := bkF3 BK234.out
        have hnb56 := NB233_235.out
        have hnc56 := NB235_233.out
        obtain ⟨hcz57_0, hcz57_1, hcz57_2⟩ := bkC3 BK233.out
        obtain ⟨hfz57_0, hfz57_1, hfz57_2⟩ := bkF3 BK233.out
        go_wp2_with (first | ((with_reducible refine gate_callee (f := 101) rfl ?_); refine goesL_ (some 52) rfl rfl Tryd.func101 (by kernel_rfl) rfl #[.int .i64 (wrap64 (a0_1 - a1_1))] rfl (by (try simp only [List.map_toArray, List.map_cons, List.map_nil]); first | done | rfl | (simp only [List.length_drop, List.length_take]; rfl)) ?_; (with_reducible refine (q01_one.calls (wrap64 (a0_1 - a1_1)) t240 t241 t242 _ A52.out).mono ?_); rintro e w58 ⟨rfl, hb⟩; refine ⟨_, rfl, ?_⟩; replace BK233 := Asd.mk (bB hb BK233.out); replace BK234 := Asd.mk (bB hb BK234.out); replace BK235 := Asd.mk (bB hb BK235.out); replace HB := Asd.mk (bS hb HB.out); clear hb; obtain ⟨hcz59_0, hcz59_1, hcz59_2⟩ := bkC3 BK235.out; obtain ⟨hfz59_0, hfz59_1, hfz59_2⟩ := bkF3 BK235.out))
        refine bodyPost_ret (results_ct rfl _ _ gb235 23 #[.int .i64 t240, .int .i64 t241, .string t242] (0, 0) _ rfl (by refine blk_put (cs := #[.int .i64 t240, .int .i64 t241, .string (⟨#[]⟩ : ByteArray)]) ?_ 2 _ rfl; refine blk_put (cs := #[.int .i64 t240, .int .i64 0, .string (⟨#[]⟩ : ByteArray)]) ?_ 1 _ rfl; refine blk_put (cs := #[.int .i64 0, .int .i64 0, .string (⟨#[]⟩ : ByteArray)]) ?_ 0 _ rfl; exact BK235.out) Tryd.underlying23 rfl (by kernel_rfl)) rfl ?_
        exact ⟨by first | rfl | (simp [errW_none, errW_some] <;> rfl) | (simp [*, errW_none, errW_some] <;> rfl), by repeat (first | (with_reducible first | exact HB.out | apply blA | apply pbN | apply blD | refine blS ?_ GE233.out | refine blS ?_ GE234.out | refine blS ?_ GE235.out) | exact HB.out)⟩
     ·rw [if_neg c28] at H
      have c28b0 : decide (a1_1 < 0) = false := decide_eq_false c28
      clear c28
      by_cases c60 : a1_1 > 0
      ·rw [if_pos c60] at H
       have c60b0 : decide (0 < a1_1) = true := decide_eq_true c60
       clear c60
       by_cases c61 : a0_1 < (wrap64 ((-9223372036854775808) + a1_1))
       ·rw [if_pos c61] at H
        have c61b0 : decide (a0_1 < (wrap64 ((-9223372036854775808) + a1_1))) = true := decide_eq_true c61
        clear c61
        simp only [Option.some.injEq, Prod.mk.injEq] at H
        obtain ⟨rfl, rfl, rfl, rfl⟩ := H
        have hnb62 := NB234_233.out
        have hnc62 := NB233_234.out
        have hnb63 := NB234_235.out
        have hnc63 := NB235_234.out
        obtain ⟨hcz64_0, hcz64_1, hcz64_2⟩ := bkC3 BK234.out
        obtain ⟨hfz64_0, hfz64_1, hfz64_2⟩ := bkF3 BK234.out
        have hnb65 := NB233_235.out
        have hnc65 := NB235_233.out
        obtain ⟨hcz66_0, hcz66_1, hcz66_2⟩ := bkC3 BK233.out
        obtain ⟨hfz66_0, hfz66_1, hfz66_2⟩ := bkF3 BK233.out
        obtain ⟨hcz67_0, hcz67_1, hcz67_2⟩ := bkC3 BK235.out
        obtain ⟨hfz67_0, hfz67_1, hfz67_2⟩ := bkF3 BK235.out
        go_wp2
        refine bodyPost_ret (results_ct rfl _ _ gb235 23 #[.int .i64 0, .int .i64 0, .string (⟨#[]⟩ : ByteArray)] (0, 0) _ rfl (by refine blk_put (cs := #[.int .i64 0, .int .i64 0, .string (⟨#[]⟩ : ByteArray)]) ?_ 2 _ rfl; refine blk_put (cs := #[.int .i64 0, .int .i64 0, .string (⟨#[]⟩ : ByteArray)]) ?_ 1 _ rfl; refine blk_put (cs := #[.int .i64 0, .int .i64 0, .string (⟨#[]⟩ : ByteArray)]) ?_ 0 _ rfl; exact BK235.out) Tryd.underlying23 rfl (by kernel_rfl)) rfl ?_
        exact ⟨by first | rfl | (simp [errW_none, errW_some] <;> rfl) | (simp [*, errW_none, errW_some] <;> rfl), by repeat (first | (with_reducible first | exact HB.out | apply blA | apply pbN | apply blD | refine blS ?_ GE233.out | refine blS ?_ GE234.out | refine blS ?_ GE235.out) | exact HB.out)⟩
       ·rw [if_neg c61] at H
        have c61b0 : decide (a0_1 < (wrap64 ((-9223372036854775808) + a1_1))) = false := decide_eq_false c61
        clear c61
        replace H := Option.bind_eq_some_iff.mp H
        obtain ⟨⟨t243, t244, t245⟩, A680, H⟩ := H
        replace H : (some (t243, t244, t245, 0)) = some (r1, r2, r3, r4) := H
        have A68 := Asd.mk A680
        clear A680
        simp only [Option.some.injEq, Prod.mk.injEq] at H
        obtain ⟨rfl, rfl, rfl, rfl⟩ := H
        have hnb69 := NB234_233.out
        have hnc69 := NB233_234.out
        have hnb70 := NB234_235.out
        have hnc70 := NB235_234.out
        obtain ⟨hcz71_0, hcz71_1, hcz71_2⟩ := bkC3 BK234.out
        obtain ⟨hfz71_0, hfz71_1, hfz71_2⟩ := bkF3 BK234.out
        have hnb72 := NB233_235.out
        have hnc72 := NB235_233.out
        obtain ⟨hcz73_0, hcz73_1, hcz73_2⟩ := bkC3 BK233.out
        obtain ⟨hfz73_0, hfz73_1, hfz73_2⟩ := bkF3 BK233.out
        go_wp2_with (first | ((with_reducible refine gate_callee (f := 101) rfl ?_); refine goesL_ (some 52) rfl rfl Tryd.func101 (by kernel_rfl) rfl #[.int .i64 (wrap64 (a0_1 - a1_1))] rfl (by (try simp only [List.map_toArray, List.map_cons, List.map_nil]); first | done | rfl | (simp only [List.length_drop, List.length_take]; rfl)) ?_; (with_reducible refine (q01_one.calls (wrap64 (a0_1 - a1_1)) t243 t244 t245 _ A68.out).mono ?_); rintro e w74 ⟨rfl, hb⟩; refine ⟨_, rfl, ?_⟩; replace BK233 := Asd.mk (bB hb BK233.out); replace BK234 := Asd.mk (bB hb BK234.out); replace BK235 := Asd.mk (bB hb BK235.out); replace HB := Asd.mk (bS hb HB.out); clear hb; obtain ⟨hcz75_0, hcz75_1, hcz75_2⟩ := bkC3 BK235.out; obtain ⟨hfz75_0, hfz75_1, hfz75_2⟩ := bkF3 BK235.out))
        refine bodyPost_ret (results_ct rfl _ _ gb235 23 #[.int .i64 t243, .int .i64 t244, .string t245] (0, 0) _ rfl (by refine blk_put (cs := #[.int .i64 t243, .int .i64 t244, .string (⟨#[]⟩ : ByteArray)]) ?_ 2 _ rfl; refine blk_put (cs := #[.int .i64 t243, .int .i64 0, .string (⟨#[]⟩ : ByteArray)]) ?_ 1 _ rfl; refine blk_put (cs := #[.int .i64 0, .int .i64 0, .string (⟨#[]⟩ : ByteArray)]) ?_ 0 _ rfl; exact BK235.out) Tryd.underlying23 rfl (by kernel_rfl)) rfl ?_
        exact ⟨by first | rfl | (simp [errW_none, errW_some] <;> rfl) | (simp [*, errW_none, errW_some] <;> rfl), by repeat (first | (with_reducible first | exact HB.out | apply blA | apply pbN | apply blD | refine blS ?_ GE233.out | refine blS ?_ GE234.out | refine blS ?_ GE235.out) | exact HB.out)⟩
      ·rw [if_neg c60] at H
       have c60b0 : decide (0 < a1_1) = false := decide_eq_false c60
       clear c60
       replace H := Option.bind_eq_some_iff.mp H
       obtain ⟨⟨t246, t247, t248⟩, A760, H⟩ := H
       replace H : (some (t246, t247, t248, 0)) = some (r1, r2, r3, r4) := H
       have A76 := Asd.mk A760
       clear A760
       simp only [Option.some.injEq, Prod.mk.injEq] at H
       obtain ⟨rfl, rfl, rfl, rfl⟩ := H
       have hnb77 := NB234_233.out
       have hnc77 := NB233_234.out
       have hnb78 := NB234_235.out
       have hnc78 := NB235_234.out
       obtain ⟨hcz79_0, hcz79_1, hcz79_2⟩ := bkC3 BK234.out
       obtain ⟨hfz79_0, hfz79_1, hfz79_2⟩ := bkF3 BK234.out
       have hnb80 := NB233_235.out
       have hnc80 := NB235_233.out
       obtain ⟨hcz81_0, hcz81_1, hcz81_2⟩ := bkC3 BK233.out
       obtain ⟨hfz81_0, hfz81_1, hfz81_2⟩ := bkF3 BK233.out
       go_wp2_with (first | ((with_reducible refine gate_callee (f := 101) rfl ?_); refine goesL_ (some 52) rfl rfl Tryd.func101 (by kernel_rfl) rfl #[.int .i64 (wrap64 (a0_1 - a1_1))] rfl (by (try simp only [List.map_toArray, List.map_cons, List.map_nil]); first | done | rfl | (simp only [List.length_drop, List.length_take]; rfl)) ?_; (with_reducible refine (q01_one.calls (wrap64 (a0_1 - a1_1)) t246 t247 t248 _ A76.out).mono ?_); rintro e w82 ⟨rfl, hb⟩; refine ⟨_, rfl, ?_⟩; replace BK233 := Asd.mk (bB hb BK233.out); replace BK234 := Asd.mk (bB hb BK234.out); replace BK235 := Asd.mk (bB hb BK235.out); replace HB := Asd.mk (bS hb HB.out); clear hb; obtain ⟨hcz83_0, hcz83_1, hcz83_2⟩ := bkC3 BK235.out; obtain ⟨hfz83_0, hfz83_1, hfz83_2⟩ := bkF3 BK235.out))
       refine bodyPost_ret (results_ct rfl _ _ gb235 23 #[.int .i64 t246, .int .i64 t247, .string t248] (0, 0) _ rfl (by refine blk_put (cs := #[.int .i64 t246, .int .i64 t247, .string (⟨#[]⟩ : ByteArray)]) ?_ 2 _ rfl; refine blk_put (cs := #[.int .i64 t246, .int .i64 0, .string (⟨#[]⟩ : ByteArray)]) ?_ 1 _ rfl; refine blk_put (cs := #[.int .i64 0, .int .i64 0, .string (⟨#[]⟩ : ByteArray)]) ?_ 0 _ rfl; exact BK235.out) Tryd.underlying23 rfl (by kernel_rfl)) rfl ?_
       exact ⟨by first | rfl | (simp [errW_none, errW_some] <;> rfl) | (simp [*, errW_none, errW_some] <;> rfl), by repeat (first | (with_reducible first | exact HB.out | apply blA | apply pbN | apply blD | refine blS ?_ GE233.out | refine blS ?_ GE234.out | refine blS ?_ GE235.out) | exact HB.out)⟩
 ·replace c4 := Bool.eq_false_iff.mpr c4
  subst c4
  have H1 : (some (0, 0, (⟨#[]⟩ : ByteArray), 1)) = some (r1, r2, r3, r4) := by rw [if_neg (show ¬ (false = true) by decide)] at H; exact H
  clear H
  have H := H1
  clear H1
  simp only [Option.some.injEq, Prod.mk.injEq] at H
  obtain ⟨rfl, rfl, rfl, rfl⟩ := H
  go_enter Tryd.func75, Tryd.ntmps75
  go_wp2_with (first | ((with_reducible refine gate_dst (N := 2) rfl ?_); refine box_event rfl (N := 2) rfl (cs := #[.int .i64 a0_0, .int .i64 a0_1, .string a0_2]) (t := 23) (by first | (go_simp; done) | (go_simp; rfl)) ?_; intro gb233 hg w84 hbox hb; have BK233 := Asd.mk (hbox); have GW233 := Asd.mk (bZ hg HB.out); have GE233 := GW233; replace HB := Asd.mk (bS hb HB.out); clear hb hbox hg) | ((with_reducible refine gate_dst (N := 3) rfl ?_); refine box_event rfl (N := 3) rfl (cs := #[.int .i64 a1_0, .int .i64 a1_1, .string a1_2]) (t := 23) (by first | (go_simp; done) | (go_simp; rfl)) ?_; intro gb234 hg w85 hbox hb; have BK234 := Asd.mk (hbox); have GW234 := Asd.mk (bZ hg HB.out); have GE234 := GW234; have NB233_234 := Asd.mk (bL hg BK233.out); have NB234_233 := Asd.mk (bG hg BK233.out); replace BK233 := Asd.mk (bB hb BK233.out); replace HB := Asd.mk (bS hb HB.out); clear hb hbox hg) | ((with_reducible refine gate_dst (N := 4) rfl ?_); refine box_event rfl (N := 4) rfl (cs := #[.int .i64 0, .int .i64 0, .string (⟨#[]⟩ : ByteArray)]) (t := 23) (by first | (go_simp; done) | (go_simp; rfl)) ?_; intro gb235 hg w86 hbox hb; have BK235 := Asd.mk (hbox); have GW235 := Asd.mk (bZ hg HB.out); have GE235 := GW235; have NB233_235 := Asd.mk (bL hg BK233.out); have NB235_233 := Asd.mk (bG hg BK233.out); have NB234_235 := Asd.mk (bL hg BK234.out); have NB235_234 := Asd.mk (bG hg BK234.out); replace BK233 := Asd.mk (bB hb BK233.out); replace BK234 := Asd.mk (bB hb BK234.out); replace HB := Asd.mk (bS hb HB.out); clear hb hbox hg; have hnb87 := NB233_234.out; have hnc87 := NB234_233.out; have hnb88 := NB233_235.out; have hnc88 := NB235_233.out; obtain ⟨hcz89_0, hcz89_1, hcz89_2⟩ := bkC3 BK233.out; obtain ⟨hfz89_0, hfz89_1, hfz89_2⟩ := bkF3 BK233.out; have hnb90 := NB234_235.out; have hnc90 := NB235_234.out; obtain ⟨hcz91_0, hcz91_1, hcz91_2⟩ := bkC3 BK234.out; obtain ⟨hfz91_0, hfz91_1, hfz91_2⟩ := bkF3 BK234.out) | ((with_reducible refine gate_callee (f := 100) rfl ?_); refine goesL_ (some 9) rfl rfl Tryd.func100 (by kernel_rfl) rfl #[.int .i64 1, .agg #[.int .i64 a0_0, .int .i64 a0_1, .string a0_2], .agg #[.int .i64 a1_0, .int .i64 a1_1, .string a1_2]] rfl (by (try simp only [List.map_toArray, List.map_cons, List.map_nil]); first | done | rfl | (simp only [List.length_drop, List.length_take]; rfl)) ?_; (with_reducible refine (q01_of.calls 1 a0_0 a0_1 a0_2 a1_0 a1_1 a1_2 false _ A3.out).mono ?_); rintro e w92 ⟨rfl, hb⟩; refine ⟨_, rfl, ?_⟩; replace BK233 := Asd.mk (bB hb BK233.out); replace BK234 := Asd.mk (bB hb BK234.out); replace BK235 := Asd.mk (bB hb BK235.out); replace HB := Asd.mk (bS hb HB.out); clear hb; obtain ⟨hcz93_0, hcz93_1, hcz93_2⟩ := bkC3 BK235.out; obtain ⟨hfz93_0, hfz93_1, hfz93_2⟩ := bkF3 BK235.out))
  refine bodyPost_ret (results_ct rfl _ _ gb235 23 #[.int .i64 0, .int .i64 0, .string (⟨#[]⟩ : ByteArray)] (0, 0) _ rfl (by refine blk_put (cs := #[.int .i64 0, .int .i64 0, .string (⟨#[]⟩ : ByteArray)]) ?_ 2 _ rfl; refine blk_put (cs := #[.int .i64 0, .int .i64 0, .string (⟨#[]⟩ : ByteArray)]) ?_ 1 _ rfl; refine blk_put (cs := #[.int .i64 0, .int .i64 0, .string (⟨#[]⟩ : ByteArray)]) ?_ 0 _ rfl; exact BK235.out) Tryd.underlying23 rfl (by kernel_rfl)) rfl ?_
  exact ⟨by first | rfl | (simp [errW_none, errW_some] <;> rfl) | (simp [*, errW_none, errW_some] <;> rfl), by repeat (first | (with_reducible first | exact HB.out | apply blA | apply pbN | apply blD | refine blS ?_ GE233.out | refine blS ?_ GE234.out | refine blS ?_ GE235.out) | exact HB.out)⟩
def q01_Neg.f (a0_0 : Int) (a0_1 : Int) (a0_2 : ByteArray) : Option (Int × Int × ByteArray × Int) := (q01_of.f 1 a0_0 a0_1 a0_2 a0_0 a0_1 a0_2).bind fun t274 => (if t274 = true then (if a0_0 = 0 then (some (0, 0, (⟨#[]⟩ : ByteArray), 0)) else (if a0_1 = (-9223372036854775808) then (some (0, 0, (⟨#[]⟩ : ByteArray), 3)) else ((q01_one.f (wrap64 (-a0_1))).bind fun bt275 => (some (bt275.1, bt275.2.1, bt275.2.2, 0))))) else (some (0, 0, (⟨#[]⟩ : ByteArray), 1)))
set_option maxHeartbeats 8000000 in
set_option maxRecDepth 100000 in
theorem q01_Neg.calls (a0_0 : Int) (a0_1 : Int) (a0_2 : ByteArray) (r1 : Int) (r2 : Int) (r3 : ByteArray) (r4 : Int) (w : World) (h : q01_Neg.f a0_0 a0_1 a0_2 = some (r1, r2, r3, r4)) :
  Calls Tryd.prog 78 #[.agg #[.int .i64 a0_0, .int .i64 a0_1, .string a0_2]] w fun e w' => e = .returned (.tuple #[.agg #[.int .i64 r1, .int .i64 r2, .string r3], .int .i64 r4]) ∧ Below w.heap.size w w' := by
 have hu23 := Tryd.underlying23
 have HB := Asd.mk (Below.refl w.heap.size w)
 have H : ((q01_of.f 1 a0_0 a0_1 a0_2 a0_0 a0_1 a0_2).bind fun t274 => (if t274 = true then (if a0_0 = 0 then (some (0, 0, (⟨#[]⟩ : ByteArray), 0)) else (if a0_1 = (-9223372036854775808) then (some (0, 0, (⟨#[]⟩ : ByteArray), 3)) else ((q01_one.f (wrap64 (-a0_1))).bind fun bt275 => (some (bt275.1, bt275.2.1, bt275.2.2, 0))))) else (some (0, 0, (⟨#[]⟩ : ByteArray), 1)))) = some (r1, r2, r3, r4) := h
 clear h
 replace H := Option.bind_eq_some_iff.mp H
 obtain ⟨t274, A20, H⟩ := H
 replace H : (if t274 = true then (if a0_0 = 0 then (some (0, 0, (⟨#[]⟩ : ByteArray), 0)) else (if a0_1 = (-9223372036854775808) then (some (0, 0, (⟨#[]⟩ : ByteArray), 3)) else ((q01_one.f (wrap64 (-a0_1))).bind fun bt275 => (some (bt275.1, bt275.2.1, bt275.2.2, 0))))) else (some (0, 0, (⟨#[]⟩ : ByteArray), 1))) = some (r1, r2, r3, r4) := H
 have A2 := Asd.mk A20
 clear A20
 by_cases c3 : t274 = true
 ·subst c3
  have H1 : (if a0_0 = 0 then (some (0, 0, (⟨#[]⟩ : ByteArray), 0)) else (if a0_1 = (-9223372036854775808) then (some (0, 0, (⟨#[]⟩ : ByteArray), 3)) else ((q01_one.f (wrap64 (-a0_1))).bind fun bt275 => (some (bt275.1, bt275.2.1, bt275.2.2, 0))))) = some (r1, r2, r3, r4) := by rw [if_pos rfl] at H; exact H
  clear H
  have H := H1
  clear H1
  by_cases c4 : a0_0 = 0
  ·rw [if_pos c4] at H
   have c4b0 : (a0_0 == 0) = true := beq_iff_eq.mpr c4
   have c4b1 : (a0_0 != 0) = false := bne_eq_false_iff_eq.mpr c4
   clear c4
   simp only [Option.some.injEq, Prod.mk.injEq] at H
   obtain ⟨rfl, rfl, rfl, rfl⟩ := H
   go_enter Tryd.func78, Tryd.ntmps78
   go_wp2_with (first | ((with_reducible refine gate_dst (N := 1) rfl ?_); refine box_event rfl (N := 1) rfl (cs := #[.int .i64 a0_0, .int .i64 a0_1, .string a0_2]) (t := 23) (by first | (go_simp; done) | (go_simp; rfl)) ?_; intro gb272 hg w5 hbox hb; have BK272 := Asd.mk (hbox); have GW272 := Asd.mk (bZ hg HB.out); have GE272 := GW272; replace HB := Asd.mk (bS hb HB.out); clear hb hbox hg) | ((with_reducible refine gate_dst (N := 2) rfl ?_); refine box_event rfl (N := 2) rfl (cs := #[.int .i64 0, .int .i64 0, .string (⟨#[]⟩ : ByteArray)]) (t := 23) (by first | (go_simp; done) | (go_simp; rfl)) ?_; intro gb273 hg w6 hbox hb; have BK273 := Asd.mk (hbox); have GW273 := Asd.mk (bZ hg HB.out); have GE273 := GW273; have NB272_273 := Asd.mk (bL hg BK272.out); have NB273_272 := Asd.mk (bG hg BK272.out); replace BK272 := Asd.mk (bB hb BK272.out); replace HB := Asd.mk (bS hb HB.out); clear hb hbox hg; have hnb7 := NB272_273.out; have hnc7 := NB273_272.out; obtain ⟨hcz8_0, hcz8_1, hcz8_2⟩ := bkC3 BK272.out; obtain ⟨hfz8_0, hfz8_1, hfz8_2⟩ := bkF3 BK272.out) | ((with_reducible refine gate_callee (f := 100) rfl ?_); refine goesL_ (some 7) rfl rfl Tryd.func100 (by kernel_rfl) rfl #[.int .i64 1, .agg #[.int .i64 a0_0, .int .i64 a0_1, .string a0_2], .agg #[.int .i64 a0_0, .int .i64 a0_1, .string a0_2]] rfl (by (try simp only [List.map_toArray, List.map_cons, List.map_nil]); first | done | rfl | (simp only [List.length_drop, List.length_take]; rfl)) ?_; (with_reducible refine (q01_of.calls 1 a0_0 a0_1 a0_2 a0_0 a0_1 a0_2 true _ A2.out).mono ?_); rintro e w9 ⟨rfl, hb⟩; refine ⟨_, rfl, ?_⟩; replace BK272 := Asd.mk (bB hb BK272.out); replace BK273 := Asd.mk (bB hb BK273.out); replace HB := Asd.mk (bS hb HB.out); clear hb; obtain ⟨hcz10_0, hcz10_1, hcz10_2⟩ := bkC3 BK272.out; obtain ⟨hfz10_0, hfz10_1, hfz10_2⟩ := bkF3 BK272.out; obtain ⟨hcz11_0, hcz11_1, hcz11_2⟩ := bkC3 BK273.out; obtain ⟨hfz11_0, hfz11_1, hfz11_2⟩ := bkF3 BK273.out))
   refine bodyPost_ret (results_ct rfl _ _ gb273 23 #[.int .i64 0, .int .i64 0, .string (⟨#[]⟩ : ByteArray)] (0, 0) _ rfl (by refine blk_put (cs := #[.int .i64 0, .int .i64 0, .string (⟨#[]⟩ : ByteArray)]) ?_ 2 _ rfl; refine blk_put (cs := #[.int .i64 0, .int .i64 0, .string (⟨#[]⟩ : ByteArray)]) ?_ 1 _ rfl; refine blk_put (cs := #[.int .i64 0, .int .i64 0, .string (⟨#[]⟩ : ByteArray)]) ?_ 0 _ rfl; exact BK273.out) Tryd.underlying23 rfl (by kernel_rfl)) rfl ?_
   exact ⟨by first | rfl | (simp [errW_none, errW_some] <;> rfl) | (simp [*, errW_none, errW_some] <;> rfl), by repeat (first | (with_reducible first | exact HB.out | apply blA | apply pbN | apply blD | refine blS ?_ GE272.out | refine blS ?_ GE273.out) | exact HB.out)⟩
  ·rw [if_neg c4] at H
   have c4b0 : (a0_0 == 0) = false := beq_eq_false_iff_ne.mpr c4
   have c4b1 : (a0_0 != 0) = true := bne_iff_ne.mpr c4
   by_cases c12 : a0_1 = (-9223372036854775808)
   ·rw [if_pos c12] at H
    have c12b0 : (a0_1 == (-9223372036854775808)) = true := beq_iff_eq.mpr c12
    have c12b1 : (a0_1 != (-9223372036854775808)) = false := bne_eq_false_iff_eq.mpr c12
    clear c12
    simp only [Option.some.injEq, Prod.mk.injEq] at H
    obtain ⟨rfl, rfl, rfl, rfl⟩ := H
    go_enter Tryd.func78, Tryd.ntmps78
    go_wp2_with (first | ((with_reducible refine gate_dst (N := 1) rfl ?_); refine box_event rfl (N := 1) rfl (cs := #[.int .i64 a0_0, .int .i64 a0_1, .string a0_2]) (t := 23) (by first | (go_simp; done) | (go_simp; rfl)) ?_; intro gb272 hg w13 hbox hb; have BK272 := Asd.mk (hbox); have GW272 := Asd.mk (bZ hg HB.out); have GE272 := GW272; replace HB := Asd.mk (bS hb HB.out); clear hb hbox hg) | ((with_reducible refine gate_dst (N := 2) rfl ?_); refine box_event rfl (N := 2) rfl (cs := #[.int .i64 0, .int .i64 0, .string (⟨#[]⟩ : ByteArray)]) (t := 23) (by first | (go_simp; done) | (go_simp; rfl)) ?_; intro gb273 hg w14 hbox hb; have BK273 := Asd.mk (hbox); have GW273 := Asd.mk (bZ hg HB.out); have GE273 := GW273; have NB272_273 := Asd.mk (bL hg BK272.out); have NB273_272 := Asd.mk (bG hg BK272.out); replace BK272 := Asd.mk (bB hb BK272.out); replace HB := Asd.mk (bS hb HB.out); clear hb hbox hg; have hnb15 := NB272_273.out; have hnc15 := NB273_272.out; obtain ⟨hcz16_0, hcz16_1, hcz16_2⟩ := bkC3 BK272.out; obtain ⟨hfz16_0, hfz16_1, hfz16_2⟩ := bkF3 BK272.out) | ((with_reducible refine gate_callee (f := 100) rfl ?_); refine goesL_ (some 7) rfl rfl Tryd.func100 (by kernel_rfl) rfl #[.int .i64 1, .agg #[.int .i64 a0_0, .int .i64 a0_1, .string a0_2], .agg #[.int .i64 a0_0, .int .i64 a0_1, .string a0_2]] rfl (by (try simp only [List.map_toArray, List.map_cons, List.map_nil]); first | done | rfl | (simp only [List.length_drop, List.length_take]; rfl)) ?_; (with_reducible refine (q01_of.calls 1 a0_0 a0_1 a0_2 a0_0 a0_1 a0_2 true _ A2.out).mono ?_); rintro e w17 ⟨rfl, hb⟩; refine ⟨_, rfl, ?_⟩; replace BK272 := Asd.mk (bB hb BK272.out); replace BK273 := Asd.mk (bB hb BK273.out); replace HB := Asd.mk (bS hb HB.out); clear hb; obtain ⟨hcz18_0, hcz18_1, hcz18_2⟩ := bkC3 BK272.out; obtain ⟨hfz18_0, hfz18_1, hfz18_2⟩ := bkF3 BK272.out; obtain ⟨hcz19_0, hcz19_1, hcz19_2⟩ := bkC3 BK273.out; obtain ⟨hfz19_0, hfz19_1, hfz19_2⟩ := bkF3 BK273.out))
    refine bodyPost_ret (results_ct rfl _ _ gb273 23 #[.int .i64 0, .int .i64 0, .string (⟨#[]⟩ : ByteArray)] (0, 0) _ rfl (by refine blk_put (cs := #[.int .i64 0, .int .i64 0, .string (⟨#[]⟩ : ByteArray)]) ?_ 2 _ rfl; refine blk_put (cs := #[.int .i64 0, .int .i64 0, .string (⟨#[]⟩ : ByteArray)]) ?_ 1 _ rfl; refine blk_put (cs := #[.int .i64 0, .int .i64 0, .string (⟨#[]⟩ : ByteArray)]) ?_ 0 _ rfl; exact BK273.out) Tryd.underlying23 rfl (by kernel_rfl)) rfl ?_
    exact ⟨by first | rfl | (simp [errW_none, errW_some] <;> rfl) | (simp [*, errW_none, errW_some] <;> rfl), by repeat (first | (with_reducible first | exact HB.out | apply blA | apply pbN | apply blD | refine blS ?_ GE272.out | refine blS ?_ GE273.out) | exact HB.out)⟩
   ·rw [if_neg c12] at H
    have c12b0 : (a0_1 == (-9223372036854775808)) = false := beq_eq_false_iff_ne.mpr c12
    have c12b1 : (a0_1 != (-9223372036854775808)) = true := bne_iff_ne.mpr c12
    replace H := Option.bind_eq_some_iff.mp H
    obtain ⟨⟨t275, t276, t277⟩, A200, H⟩ := H
    replace H : (some (t275, t276, t277, 0)) = some (r1, r2, r3, r4) := H
    have A20 := Asd.mk A200
    clear A200
    simp only [Option.some.injEq, Prod.mk.injEq] at H
    obtain ⟨rfl, rfl, rfl, rfl⟩ := H
    go_enter Tryd.func78, Tryd.ntmps78
    go_wp2_with (first | ((with_reducible refine gate_dst (N := 1) rfl ?_); refine box_event rfl (N := 1) rfl (cs := #[.int .i64 a0_0, .int .i64 a0_1, .string a0_2]) (t := 23) (by first | (go_simp; done) | (go_simp; rfl)) ?_; intro gb272 hg w21 hbox hb; have BK272 := Asd.mk (hbox); have GW272 := Asd.mk (bZ hg HB.out); have GE272 := GW272; replace HB := Asd.mk (bS hb HB.out); clear hb hbox hg) | ((with_reducible refine gate_dst (N := 2) rfl ?_); refine box_event rfl (N := 2) rfl (cs := #[.int .i64 0, .int .i64 0, .string (⟨#[]⟩ : ByteArray)]) (t := 23) (by first | (go_simp; done) | (go_simp; rfl)) ?_; intro gb273 hg w22 hbox hb; have BK273 := Asd.mk (hbox); have GW273 := Asd.mk (bZ hg HB.out); have GE273 := GW273; have NB272_273 := Asd.mk (bL hg BK272.out); have NB273_272 := Asd.mk (bG hg BK272.out); replace BK272 := Asd.mk (bB hb BK272.out); replace HB := Asd.mk (bS hb HB.out); clear hb hbox hg; have hnb23 := NB272_273.out; have hnc23 := NB273_272.out; obtain ⟨hcz24_0, hcz24_1, hcz24_2⟩ := bkC3 BK272.out; obtain ⟨hfz24_0, hfz24_1, hfz24_2⟩ := bkF3 BK272.out) | ((with_reducible refine gate_callee (f := 100) rfl ?_); refine goesL_ (some 7) rfl rfl Tryd.func100 (by kernel_rfl) rfl #[.int .i64 1, .agg #[.int .i64 a0_0, .int .i64 a0_1, .string a0_2], .agg #[.int .i64 a0_0, .int .i64 a0_1, .string a0_2]] rfl (by (try simp only [List.map_toArray, List.map_cons, List.map_nil]); first | done | rfl | (simp only [List.length_drop, List.length_take]; rfl)) ?_; (with_reducible refine (q01_of.calls 1 a0_0 a0_1 a0_2 a0_0 a0_1 a0_2 true _ A2.out).mono ?_); rintro e w25 ⟨rfl, hb⟩; refine ⟨_, rfl, ?_⟩; replace BK272 := Asd.mk (bB hb BK272.out); replace BK273 := Asd.mk (bB hb BK273.out); replace HB := Asd.mk (bS hb HB.out); clear hb; obtain ⟨hcz26_0, hcz26_1, hcz26_2⟩ := bkC3 BK272.out; obtain ⟨hfz26_0, hfz26_1, hfz26_2⟩ := bkF3 BK272.out) | ((with_reducible refine gate_callee (f := 101) rfl ?_); refine goesL_ (some 25) rfl rfl Tryd.func101 (by kernel_rfl) rfl #[.int .i64 (wrap64 (-a0_1))] rfl (by (try simp only [List.map_toArray, List.map_cons, List.map_nil]); first | done | rfl | (simp only [List.length_drop, List.length_take]; rfl)) ?_; (with_reducible refine (q01_one.calls (wrap64 (-a0_1)) t275 t276 t277 _ A20.out).mono ?_); rintro e w27 ⟨rfl, hb⟩; refine ⟨_, rfl, ?_⟩; replace BK272 := Asd.mk (bB hb BK272.out); replace BK273 := Asd.mk (bB hb BK273.out); replace HB := Asd.mk (bS hb HB.out); clear hb; obtain ⟨hcz28_0, hcz28_1, hcz28_2⟩ := bkC3 BK273.out; obtain ⟨hfz28_0, hfz28_1, hfz28_2⟩ := bkF3 BK273.out))
    refine bodyPost_ret (results_ct rfl _ _ gb273 23 #[.int .i64 t275, .int .i64 t276, .string t277] (0, 0) _ rfl (by refine blk_put (cs := #[.int .i64 t275, .int .i64 t276, .string (⟨#[]⟩ : ByteArray)]) ?_ 2 _ rfl; refine blk_put (cs := #[.int .i64 t275, .int .i64 0, .string (⟨#[]⟩ : ByteArray)]) ?_ 1 _ rfl; refine blk_put (cs := #[.int .i64 0, .int .i64 0, .string (⟨#[]⟩ : ByteArray)]) ?_ 0 _ rfl; exact BK273.out) Tryd.underlying23 rfl (by kernel_rfl)) rfl ?_
    exact ⟨by first | rfl | (simp [errW_none, errW_some] <;> rfl) | (simp [*, errW_none, errW_some] <;> rfl), by repeat (first | (with_reducible first | exact HB.out | apply blA | apply pbN | apply blD | refine blS ?_ GE272.out | refine blS ?_ GE273.out) | exact HB.out)⟩
 ·replace c3 := Bool.eq_false_iff.mpr c3
  subst c3
  have H1 : (some (0, 0, (⟨#[]⟩ : ByteArray), 1)) = some (r1, r2, r3, r4) := by rw [if_neg (show ¬ (false = true) by decide)] at H; exact H
  clear H
  have H := H1
  clear H1
  simp only [Option.some.injEq, Prod.mk.injEq] at H
  obtain ⟨rfl, rfl, rfl, rfl⟩ := H
  go_enter Tryd.func78, Tryd.ntmps78
  go_wp2_with (first | ((with_reducible refine gate_dst (N := 1) rfl ?_); refine box_event rfl (N := 1) rfl (cs := #[.int .i64 a0_0, .int .i64 a0_1, .string a0_2]) (t := 23) (by first | (go_simp; done) | (go_simp; rfl)) ?_; intro gb272 hg w29 hbox hb; have BK272 := Asd.mk (hbox); have GW272 := Asd.mk (bZ hg HB.out); have GE272 := GW272; replace HB := Asd.mk (bS hb HB.out); clear hb hbox hg) | ((with_reducible refine gate_dst (N := 2) rfl ?_); refine box_event rfl (N := 2) rfl (cs := #[.int .i64 0, .int .i64 0, .string (⟨#[]⟩ : ByteArray)]) (t := 23) (by first | (go_simp; done) | (go_simp; rfl)) ?_; intro gb273 hg w30 hbox hb; have BK273 := Asd.mk (hbox); have GW273 := Asd.mk (bZ hg HB.out); have GE273 := GW273; have NB272_273 := Asd.mk (bL hg BK272.out); have NB273_272 := Asd.mk (bG hg BK272.out); replace BK272 := Asd.mk (bB hb BK272.out); replace HB := Asd.mk (bS hb HB.out); clear hb hbox hg; have hnb31 := NB272_273.out; have hnc31 := NB273_272.out; obtain ⟨hcz32_0, hcz32_1, hcz32_2⟩ := bkC3 BK272.out; obtain ⟨hfz32_0, hfz32_1, hfz32_2⟩ := bkF3 BK272.out) | ((with_reducible refine gate_callee (f := 100) rfl ?_); refine goesL_ (some 7) rfl rfl Tryd.func100 (by kernel_rfl) rfl #[.int .i64 1, .agg #[.int .i64 a0_0, .int .i64 a0_1, .string a0_2], .agg #[.int .i64 a0_0, .int .i64 a0_1, .string a0_2]] rfl (by (try simp only [List.map_toArray, List.map_cons, List.map_nil]); first | done | rfl | (simp only [List.length_drop, List.length_take]; rfl)) ?_; (with_reducible refine (q01_of.calls 1 a0_0 a0_1 a0_2 a0_0 a0_1 a0_2 false _ A2.out).mono ?_); rintro e w33 ⟨rfl, hb⟩; refine ⟨_, rfl, ?_⟩; replace BK272 := Asd.mk (bB hb BK272.out); replace BK273 := Asd.mk (bB hb BK273.out); replace HB := Asd.mk (bS hb HB.out); clear hb; obtain ⟨hcz34_0, hcz34_1, hcz34_2⟩ := bkC3 BK273.out; obtain ⟨hfz34_0, hfz34_1, hfz34_2⟩ := bkF3 BK273.out))
  refine bodyPost_ret (results_ct rfl _ _ gb273 23 #[.int .i64 0, .int .i64 0, .string (⟨#[]⟩ : ByteArray)] (0, 0) _ rfl (by refine blk_put (cs := #[.int .i64 0, .int .i64 0, .string (⟨#[]⟩ : ByteArray)]) ?_ 2 _ rfl; refine blk_put (cs := #[.int .i64 0, .int .i64 0, .string (⟨#[]⟩ : ByteArray)]) ?_ 1 _ rfl; refine blk_put (cs := #[.int .i64 0, .int .i64 0, .string (⟨#[]⟩ : ByteArray)]) ?_ 0 _ rfl; exact BK273.out) Tryd.underlying23 rfl (by kernel_rfl)) rfl ?_
  exact ⟨by first | rfl | (simp [errW_none, errW_some] <;> rfl) | (simp [*, errW_none, errW_some] <;> rfl), by repeat (first | (with_reducible first | exact HB.out | apply blA | apply pbN | apply blD | refine blS ?_ GE272.out | refine blS ?_ GE273.out) | exact HB.out)⟩
end Go.Proofs.YtkboodfnegedaaaDoor.E
namespace Go.Proofs.YtkboodfnegedaaaDoor.E
open Go.RowKit Go.Proofs.YtkboodfnegedaaaDoorW.PrintWords Go.Proofs.YtkboodfnegedaaaDoorW.PrintLast Go.Proofs.YtkboodfnegedaaaDoorW.PrintMore
attribute [local go_sem] max2_int min2_int max_two min_two max_three min_three max_four min_four   -- for this text's walks alone
set_option linter.unusedVariables false
set_option linter.unusedSimpArgs false
attribute [local go_sem high] eqA23
def q01_And.j0 : Nat → Bool → Int → Int → ByteArray → Int → Int → ByteArray → Option (Int × Int × ByteArray × Int)
 | 0, _, _, _, _, _, _, _ => none
 | k + 1, x14, x280000, x280001, x280002, x281000, x281001, x281002 => if x14 = true then ((q01_Truth.f false).bind fun bt289 => (some (bt289.1, bt289.2.1, bt289.2.2, 0))) else (if x280000 = 0 then (some (0, 0, (⟨#[]⟩ : ByteArray), 0)) else (if x281000 = 0 then (some (0, 0, (⟨#[]⟩ : ByteArray), 0)) else ((q01_Truth.f true).bind fun bt292 => (some (bt292.1, bt292.2.1, bt292.2.2, 0)))))
def q01_And.f (k : Nat) (a0_0 : Int) (a0_1 : Int) (a0_2 : ByteArray) (a1_0 : Int) (a1_1 : Int) (a1_2 : ByteArray) : Option (Int × Int × ByteArray × Int) := (q01_of.f 2 a0_0 a0_1 a0_2 a1_0 a1_1 a1_2).bind fun t282 => (if t282 = true then ((q01_Truth.f false).bind fun bt283 => (if (a0_0 == bt283.1 && (a0_1 == bt283.2.1 && (a0_2.toList == bt283.2.2.toList))) = true then (q01_And.j0 k true a0_0 a0_1 a0_2 a1_0 a1_1 a1_2) else ((q01_Truth.f false).bind fun bt286 => (q01_And.j0 k (a1_0 == bt286.1 && (a1_1 == bt286.2.1 && (a1_2.toList == bt286.2.2.toList))) a0_0 a0_1 a0_2 a1_0 a1_1 a1_2)))) else (some (0, 0, (⟨#[]⟩ : ByteArray), 1)))
def q01_And.T4 : Bool × List (List Nat × List Nat) := (true, [([], []), ([], []), ([0, 1], [0, 1]), ([2, 1], [2]), ([3], [3]), ([3, 3], [3]), ([4, 5, 3], [3, 4, 5]), ([3, 6], [3, 6]), ([7, 5], [7])])
def q01_And.B4 : List Nat := [0, 0, 3, 7, 15, 15, 63, 127, 255]
theorem q01_And.tab4 : rtab .any (opsOf Tryd.f79 4) = q01_And.T4 := by kernel_rfl
theorem q01_And.bits4 : waitsOk q01_And.T4.2 q01_And.B4 = true := by kernel_rfl
set_option maxHeartbeats 8000000 in
set_option maxRecDepth 100000 in
theorem q01_And.calls (k : Nat) (a0_0 : Int) (a0_1 : Int) (a0_2 : ByteArray) (a1_0 : Int) (a1_1 : Int) (a1_2 : ByteArray) (r1 : Int) (r2 : Int) (r3 : ByteArray) (r4 : Int) (w : World) (h : q01_And.f k a0_0 a0_1 a0_2 a1_0 a1_1 a1_2 = some (r1, r2, r3, r4)) :
  Calls Tryd.prog 79 #[.agg #[.int .i64 a0_0, .int .i64 a0_1, .string a0_2], .agg #[.int .i64 a1_0, .int .i64 a1_1, .string a1_2]] w fun e w' => e = .returned (.tuple #[.agg #[.int .i64 r1, .int .i64 r2, .string r3], .int .i64 r4]) ∧ Below w.heap.size w w' := by
 have hu23 := Tryd.underlying23
 have HB := Asd.mk (Below.refl w.heap.size w)
 have H : ((q01_of.f 2 a0_0 a0_1 a0_2 a1_0 a1_1 a1_2).bind fun t282 => (if t282 = true then ((q01_Truth.f false).bind fun bt283 => (if (a0_0 == bt283.1 && (a0_1 == bt283.2.1 && (a0_2.toList == bt283.2.2.toList))) = true then (q01_And.j0 k true a0_0 a0_1 a0_2 a1_0 a1_1 a1_2) else ((q01_Truth.f false).bind fun bt286 => (q01_And.j0 k (a1_0 == bt286.1 && (a1_1 == bt286.2.1 && (a1_2.toList == bt286.2.2.toList))) a0_0 a0_1 a0_2 a1_0 a1_1 a1_2)))) else (some (0, 0, (⟨#[]⟩ : ByteArray), 1)))) = some (r1, r2, r3, r4) := h
 clear h
 replace H := Option.bind_eq_some_iff.mp H
 obtain ⟨t282, A30, H⟩ := H
 replace H : (if t282 = true then ((q01_Truth.f false).bind fun bt283 => (if (a0_0 == bt283.1 && (a0_1 == bt283.2.1 && (a0_2.toList == bt283.2.2.toList))) = true then (q01_And.j0 k true a0_0 a0_1 a0_2 a1_0 a1_1 a1_2) else ((q01_Truth.f false).bind fun bt286 => (q01_And.j0 k (a1_0 == bt286.1 && (a1_1 == bt286.2.1 && (a1_2.toList == bt286.2.2.toList))) a0_0 a0_1 a0_2 a1_0 a1_1 a1_2)))) else (some (0, 0, (⟨#[]⟩ : ByteArray), 1))) = some (r1, r2, r3, r4) := H
 have A3 := Asd.mk A30
 clear A30
 by_cases c4 : t282 = true
 ·subst c4
  have H1 : ((q01_Truth.f false).bind fun bt283 => (if (a0_0 == bt283.1 && (a0_1 == bt283.2.1 && (a0_2.toList == bt283.2.2.toList))) = true then (q01_And.j0 k true a0_0 a0_1 a0_2 a1_0 a1_1 a1_2) else ((q01_Truth.f false).bind fun bt286 => (q01_And.j0 k (a1_0 == bt286.1 && (a1_1 == bt286.2.1 && (a1_2.toList == bt286.2.2.toList))) a0_0 a0_1 a0_2 a1_0 a1_1 a1_2)))) = some (r1, r2, r3, r4) := by rw [if_pos rfl] at H; exact H
  clear H
  have H := H1
  clear H1
  have HC5 := Asd.mk H
  clear H
  go_enter Tryd.func79, Tryd.ntmps79
  go_upto_region 4 with (first | ((with_reducible refine gate_dst (N := 2) rfl ?_); refine box_event rfl (N := 2) rfl (cs := #[.int .i64 a0_0, .int .i64 a0_1, .string a0_2]) (t := 23) (by first | (go_simp; done) | (go_simp; rfl)) ?_; intro gb279 hg w6 hbox hb; have BK279 := Asd.mk (hbox); have GW279 := Asd.mk (bZ hg HB.out); have GE279 := GW279; replace HB := Asd.mk (bS hb HB.out); clear hb hbox hg) | ((with_reducible refine gate_dst (N := 3) rfl ?_); refine box_event rfl (N := 3) rfl (cs := #[.int .i64 a1_0, .int .i64 a1_1, .string a1_2]) (t := 23) (by first | (go_simp; done) | (go_simp; rfl)) ?_; intro gb280 hg w7 hbox hb; have BK280 := Asd.mk (hbox); have GW280 := Asd.mk (bZ hg HB.out); have GE280 := GW280; have NB279_280 := Asd.mk (bL hg BK279.out); have NB280_279 := Asd.mk (bG hg BK279.out); replace BK279 := Asd.mk (bB hb BK279.out); replace HB := Asd.mk (bS hb HB.out); clear hb hbox hg) | ((with_reducible refine gate_dst (N := 4) rfl ?_); refine box_event rfl (N := 4) rfl (cs := #[.int .i64 0, .int .i64 0, .string (⟨#[]⟩ : ByteArray)]) (t := 23) (by first | (go_simp; done) | (go_simp; rfl)) ?_; intro gb281 hg w8 hbox hb; have BK281 := Asd.mk (hbox); have GW281 := Asd.mk (bZ hg HB.out); have GE281 := GW281; have NB279_281 := Asd.mk (bL hg BK279.out); have NB281_279 := Asd.mk (bG hg BK279.out); have NB280_281 := Asd.mk (bL hg BK280.out); have NB281_280 := Asd.mk (bG hg BK280.out); replace BK279 := Asd.mk (bB hb BK279.out); replace BK280 := Asd.mk (bB hb BK280.out); replace HB := Asd.mk (bS hb HB.out); clear hb hbox hg; have hnb9 := NB279_280.out; have hnc9 := NB280_279.out; have hnb10 := NB279_281.out; have hnc10 := NB281_279.out; obtain ⟨hcz11_0, hcz11_1, hcz11_2⟩ := bkC3 BK279.out; obtain ⟨hfz11_0, hfz11_1, hfz11_2⟩ := bkF3 BK279.out; have hnb12 := NB280_281.out; have hnc12 := NB281_280.out; obtain ⟨hcz13_0, hcz13_1, hcz13_2⟩ := bkC3 BK280.out; obtain ⟨hfz13_0, hfz13_1, hfz13_2⟩ := bkF3 BK280.out) | ((with_reducible refine gate_callee (f := 100) rfl ?_); refine goesL_ (some 9) rfl rfl Tryd.func100 (by kernel_rfl) rfl #[.int .i64 2, .agg #[.int .i64 a0_0, .int .i64 a0_1, .string a0_2], .agg #[.int .i64 a1_0, .int .i64 a1_1, .string a1_2]] rfl (by (try simp only [List.map_toArray, List.map_cons, List.map_nil]); first | done | rfl | (simp only [List.length_drop, List.length_take]; rfl)) ?_; (with_reducible refine (q01_of.calls 2 a0_0 a0_1 a0_2 a1_0 a1_1 a1_2 true _ A3.out).mono ?_); rintro e w14 ⟨rfl, hb⟩; refine ⟨_, rfl, ?_⟩; replace BK279 := Asd.mk (bB hb BK279.out); replace BK280 := Asd.mk (bB hb BK280.out); replace BK281 := Asd.mk (bB hb BK281.out); replace HB := Asd.mk (bS hb HB.out); clear hb))
  (try simp only [Act.put, List.setIfInBounds_toArray, List.set_cons_zero, List.set_cons_succ])
  go_cut [14] (fun v14 wc => ∃ (kq : Nat) (x14_4 : Bool), v14 = .bool x14_4 ∧ Asd (q01_And.j0 kq x14_4 a0_0 a0_1 a0_2 a1_0 a1_1 a1_2 = some (r1, r2, r3, r4)) ∧ Asd (kq ≤ k) ∧ Asd (wc.heap[gb279]? = some (.cells #[.int .i64 a0_0, .int .i64 a0_1, .string a0_2] 23 (0, 0))) ∧ Asd (wc.heap[gb280]? = some (.cells #[.int .i64 a1_0, .int .i64 a1_1, .string a1_2] 23 (0, 0))) ∧ Asd (wc.heap[gb281]? = some (.cells #[.int .i64 0, .int .i64 0, .string (⟨#[]⟩ : ByteArray)] 23 (0, 0))) ∧ Asd (Below w.heap.size w wc))
  case first =>
   have H := HC5.out
   clear HC5
   replace H := Option.bind_eq_some_iff.mp H
   obtain ⟨⟨t283, t284, t285⟩, A150, H⟩ := H
   replace H : (if (a0_0 == t283 && (a0_1 == t284 && (a0_2.toList == t285.toList))) = true then (q01_And.j0 k true a0_0 a0_1 a0_2 a1_0 a1_1 a1_2) else ((q01_Truth.f false).bind fun bt286 => (q01_And.j0 k (a1_0 == bt286.1 && (a1_1 == bt286.2.1 && (a1_2.toList == bt286.2.2.toList))) a0_0 a0_1 a0_2 a1_0 a1_1 a1_2))) = some (r1, r2, r3, r4) := H
   have A15 := Asd.mk A150
   clear A150
   by_cases c16 : (a0_0 == t283 && (a0_1 == t284 && (a0_2.toList == t285.toList))) = true
   ·rw [if_pos c16] at H
    have c16b0 : (a0_0 == t283 && (a0_1 == t284 && (a0_2.toList == t285.toList))) = true := c16
    (try (have c16b1 : decide (a0_0 = t283 && (a0_1 == t284 && (a0_2.toList == t285.toList))) = true := by simpa using c16))
    (try (have c16b2 : (a0_0 == t283 && (a0_1 == t284 && (a0_2.toList == t285.toList))) = true := by simpa using c16))
    clear c16
    (first | rw [c16b0] | (simp only [i64_w, i32_w]; rw [c16b0]) | skip)
    have H' := Asd.mk H
    clear H
    try go_wp2
    have n0_ := Asd.mk (bkD BK279.out)
    have n1_ := Asd.mk (bkD BK280.out)
    have n2_ := Asd.mk (bkD BK281.out)
    have n3_ := Asd.mk (blD HB.out)
    clear BK279 BK280 BK281 HB
    have BK279 := n0_
    have BK280 := n1_
    have BK281 := n2_
    have HB := n3_
    clear n0_ n1_ n2_ n3_
    refine start_ (n := 9) (S := fun w' => w'.cell? ⟨gb279, 0, none⟩ = some (.int .i64 a0_0) ∧ w'.cell? ⟨gb279, 1, none⟩ = some (.int .i64 a0_1) ∧ w'.cell? ⟨gb279, 2, none⟩ = some (.string a0_2)) (ds := []) #[false, false, false, false, false, false, false, false, false] (by kernel_rfl) rfl rfl ⟨(bkC BK279.out 0).trans rfl, (bkC BK279.out 1).trans rfl, (bkC BK279.out 2).trans rfl⟩ (fun hHeld => ?_); refine with_tabW q01_And.tab4 q01_And.bits4 (fun HT_ HW_ => ?_)
    generalize w14.drew = w17 at BK279 BK280 BK281 HB hHeld ⊢
    refine take_ (i := 0) (N := some 15) (v := ?_) (a' := ?_) #[true, false, false, false, false, false, false, false, false] rfl rfl (take_ofW HT_.out HW_.out (by kernel_rfl)) (fun _ _ _ h => h) (Or.inl ⟨by rfl, ?_⟩) hHeld ?_ ?_
    rotate_left
    ·rintro w' ⟨s0, s1, s2⟩
     go_simp
     with_reducible rfl
    rotate_left
    ·simp only [Act.put, List.setIfInBounds_toArray, List.set_cons_zero, List.set_cons_succ, i64_w, i32_w]
     rfl
    refine one_ (i := 1) (N := some 16) #[true, true, false, false, false, false, false, false, false] rfl rfl (one_of HT_.out (by kernel_rfl)) (by decide) (fun K hK => ?_)
    refine goes_ Tryd.func82 (by kernel_rfl) rfl #[.bool false] (by rfl) rfl rfl (by (try simp only [List.map_toArray, List.map_cons, List.map_nil]); first | done | rfl | (simp only [List.length_drop, List.length_take]; rfl)) ?_
    with_reducible refine (q01_Truth.calls false t283 t284 t285 _ A15.out).mono ?_
    rintro e w18 ⟨rfl, hb⟩
    refine ⟨_, rfl, ?_⟩
    have n0_ := Asd.mk (bB hb BK279.out)
    have n1_ := Asd.mk (bB hb BK280.out)
    have n2_ := Asd.mk (bB hb BK281.out)
    have n3_ := Asd.mk (bS hb HB.out)
    clear BK279 BK280 BK281 HB
    have BK279 := n0_
    have BK280 := n1_
    have BK281 := n2_
    have HB := n3_
    clear n0_ n1_ n2_ n3_
    (try clear hb)
    (try clear hb2)
    (try clear hk)
    (try clear hi)
    refine hK.out _ _ ⟨(bkC BK279.out 0).trans rfl, (bkC BK279.out 1).trans rfl, (bkC BK279.out 2).trans rfl⟩ (fun hHeld => ?_)
    clear hK K
    refine norm_ (a' := ?_) ?_ ?_
    rotate_left
    ·show Act.put _ (some 16) _ = _
     simp only [Act.put, List.setIfInBounds_toArray, List.set_cons_zero, List.set_cons_succ, i64_w, i32_w]
     rfl
    refine pure_ (i := 2) (N := some 17) (v := ?_) (a' := ?_) #[true, true, true, false, false, false, false, false, false] rfl rfl (any_of HT_.out (by kernel_rfl)) (fun _ _ _ h => h) (Or.inl ⟨by rfl, ?_⟩) ?_ ?_
    rotate_left
    ·intro w'
     go_simp
     with_reducible rfl
    rotate_left
    ·simp only [Act.put, List.setIfInBounds_toArray, List.set_cons_zero, List.set_cons_succ, i64_w, i32_w]
     rfl
    refine pure_ (i := 3) (N := some 18) (v := ?_) (a' := ?_) #[true, true, true, true, false, false, false, false, false] rfl rfl (any_of HT_.out (by kernel_rfl)) (fun _ _ _ h => h) (Or.inl ⟨by rfl, ?_⟩) ?_ ?_
    rotate_left
    ·intro w'
     go_simp
     with_reducible rfl
    rotate_left
    ·simp only [Act.put, List.setIfInBounds_toArray, List.set_cons_zero, List.set_cons_succ, i64_w, i32_w]
     rfl
    refine pure_ (i := 4) (N := some 19) (v := undef) (a' := ?_) #[true, true, true, true, true, false, false, false, false] rfl rfl (any_of HT_.out (by kernel_rfl)) (fun _ _ _ h => h) (Or.inr ⟨by rfl, rfl⟩) ?_ ?_
    rotate_left
    ·simp only [Act.put, List.setIfInBounds_toArray, List.set_cons_zero, List.set_cons_succ, i64_w, i32_w]
     rfl
    refine pure_ (i := 5) (N := some 20) (v := undef) (a' := ?_) #[true, true, true, true, true, true, false, false, false] rfl rfl (any_of HT_.out (by kernel_rfl)) (fun _ _ _ h => h) (Or.inr ⟨by rfl, rfl⟩) ?_ ?_
    rotate_left
    ·simp only [Act.put, List.setIfInBounds_toArray, List.set_cons_zero, List.set_cons_succ, i64_w, i32_w]
     rfl
    refine pure_ (i := 6) (N := some 21) (v := undef) (a' := ?_) #[true, true, true, true, true, true, true, false, false] rfl rfl (any_of HT_.out (by kernel_rfl)) (fun _ _ _ h => h) (Or.inr ⟨by rfl, rfl⟩) ?_ ?_
    rotate_left
    ·simp only [Act.put, List.setIfInBounds_toArray, List.set_cons_zero, List.set_cons_succ, i64_w, i32_w]
     rfl
    refine pure_ (i := 7) (N := some 22) (v := ?_) (a' := ?_) #[true, true, true, true, true, true, true, true, false] rfl rfl (any_of HT_.out (by kernel_rfl)) (fun _ _ _ h => h) (Or.inl ⟨by rfl, ?_⟩) ?_ ?_
    rotate_left
    ·intro w'
     go_simp
     with_reducible rfl
    rotate_left
    ·simp only [Act.put, List.setIfInBounds_toArray, List.set_cons_zero, List.set_cons_succ, i64_w, i32_w]
     rfl
    refine pure_ (i := 8) (N := some 14) (v := ?_) (a' := ?_) #[true, true, true, true, true, true, true, true, true] rfl rfl (any_of HT_.out (by kernel_rfl)) (fun _ _ _ h => h) (Or.inl ⟨by rfl, ?_⟩) ?_ ?_
    rotate_left
    ·intro w'
     go_simp
     with_reducible rfl
    rotate_left
    ·simp only [Act.put, List.setIfInBounds_toArray, List.set_cons_zero, List.set_cons_succ, i64_w, i32_w]
     rfl
    refine done_ (done_of HT_.out (by kernel_rfl)) ?_
    try go_wp2
    go_meet
    case rel => exact ⟨_, (true), (by first | rfl | (simp; done) | (simp [*]; done)), H', ⟨by first | omega | exact Nat.le_refl _⟩, ⟨by exact BK279.out⟩, ⟨by exact BK280.out⟩, ⟨by exact BK281.out⟩, ⟨by repeat (first | (with_reducible first | exact HB.out | apply blA | apply pbN | apply blD | refine blS ?_ GE279.out | refine blS ?_ GE280.out | refine blS ?_ GE281.out) | exact HB.out)⟩⟩
   ·rw [if_neg c16] at H
    have c16b0 : (a0_0 == t283 && (a0_1 == t284 && (a0_2.toList == t285.toList))) = false := by simpa using c16
    (try (have c16b1 : decide (a0_0 = t283 && (a0_1 == t284 && (a0_2.toList == t285.toList))) = false := by simpa using c16))
    (try (have c16b2 : (a0_0 == t283 && (a0_1 == t284 && (a0_2.toList == t285.toList))) = false := by simpa using c16))
    (try (have c16b3 : ¬ (a0_0 = t283 && (a0_1 == t284 && (a0_2.toList == t285.toList))) := by simpa using c16))
    clear c16
    (first | rw [c16b0] | (simp only [i64_w, i32_w]; rw [c16b0]) | skip)
    replace H := Option.bind_eq_some_iff.mp H
    obtain ⟨⟨t286, t287, t288⟩, A190, H⟩ := H
    replace H : (q01_And.j0 k (a1_0 == t286 && (a1_1 == t287 && (a1_2.toList == t288.toList))) a0_0 a0_1 a0_2 a1_0 a1_1 a1_2) = some (r1, r2, r3, r4) := H
    have A19 := Asd.mk A190
    clear A190
    have H' := Asd.mk H
    clear H
    try go_wp2
    have n0_ := Asd.mk (bkD BK279.out)
    have n1_ := Asd.mk (bkD BK280.out)
    have n2_ := Asd.mk (bkD BK281.out)
    have n3_ := Asd.mk (blD HB.out)
    clear BK279 BK280 BK281 HB
    have BK279 := n0_
    have BK280 := n1_
    have BK281 := n2_
    have HB := n3_
    clear n0_ n1_ n2_ n3_
    refine start_ (n := 9) (S := fun w' => w'.cell? ⟨gb279, 0, none⟩ = some (.int .i64 a0_0) ∧ w'.cell? ⟨gb279, 1, none⟩ = some (.int .i64 a0_1) ∧ w'.cell? ⟨gb279, 2, none⟩ = some (.string a0_2) ∧ w'.cell? ⟨gb280, 0, none⟩ = some (.int .i64 a1_0) ∧ w'.cell? ⟨gb280, 1, none⟩ = some (.int .i64 a1_1) ∧ w'.cell? ⟨gb280, 2, none⟩ = some (.string a1_2)) (ds := []) #[false, false, false, false, false, false, false, false, false] (by kernel_rfl) rfl rfl ⟨(bkC BK279.out 0).trans rfl, (bkC BK279.out 1).trans rfl, (bkC BK279.out 2).trans rfl, (bkC BK280.out 0).trans rfl, (bkC BK280.out 1).trans rfl, (bkC BK280.out 2).trans rfl⟩ (fun hHeld => ?_); refine with_tabW q01_And.tab4 q01_And.bits4 (fun HT_ HW_ => ?_)
    generalize w14.drew = w20 at BK279 BK280 BK281 HB hHeld ⊢
    refine take_ (i := 0) (N := some 15) (v := ?_) (a' := ?_) #[true, false, false, false, false, false, false, false, false] rfl rfl (take_ofW HT_.out HW_.out (by kernel_rfl)) (fun _ _ _ h => h) (Or.inl ⟨by rfl, ?_⟩) hHeld ?_ ?_
    rotate_left
    ·rintro w' ⟨s0, s1, s2, s3, s4, s5⟩
     go_simp
     with_reducible rfl
    rotate_left
    ·simp only [Act.put, List.setIfInBounds_toArray, List.set_cons_zero, List.set_cons_succ, i64_w, i32_w]
     rfl
    refine one_ (i := 1) (N := some 16) #[true, true, false, false, false, false, false, false, false] rfl rfl (one_of HT_.out (by kernel_rfl)) (by decide) (fun K hK => ?_)
    refine goes_ Tryd.func82 (by kernel_rfl) rfl #[.bool false] (by rfl) rfl rfl (by (try simp only [List.map_toArray, List.map_cons, List.map_nil]); first | done | rfl | (simp only [List.length_drop, List.length_take]; rfl)) ?_
    with_reducible refine (q01_Truth.calls false t283 t284 t285 _ A15.out).mono ?_
    rintro e w21 ⟨rfl, hb⟩
    refine ⟨_, rfl, ?_⟩
    have n0_ := Asd.mk (bB hb BK279.out)
    have n1_ := Asd.mk (bB hb BK280.out)
    have n2_ := Asd.mk (bB hb BK281.out)
    have n3_ := Asd.mk (bS hb HB.out)
    clear BK279 BK280 BK281 HB
    have BK279 := n0_
    have BK280 := n1_
    have BK281 := n2_
    have HB := n3_
    clear n0_ n1_ n2_ n3_
    (try clear hb)
    (try clear hb2)
    (try clear hk)
    (try clear hi)
    refine hK.out _ _ ⟨(bkC BK279.out 0).trans rfl, (bkC BK279.out 1).trans rfl, (bkC BK279.out 2).trans rfl, (bkC BK280.out 0).trans rfl, (bkC BK280.out 1).trans rfl, (bkC BK280.out 2).trans rfl⟩ (fun hHeld => ?_)
    clear hK K
    refine norm_ (a' := ?_) ?_ ?_
    rotate_left
    ·show Act.put _ (some 16) _ = _
     simp only [Act.put, List.setIfInBounds_toArray, List.set_cons_zero, List.set_cons_succ, i64_w, i32_w]
     rfl
    refine pure_ (i := 2) (N := some 17) (v := ?_) (a' := ?_) #[true, true, true, false, false, false, false, false, false] rfl rfl (any_of HT_.out (by kernel_rfl)) (fun _ _ _ h => h) (Or.inl ⟨by rfl, ?_⟩) ?_ ?_
    rotate_left
    ·intro w'
     go_simp
     with_reducible rfl
    rotate_left
    ·simp only [Act.put, List.setIfInBounds_toArray, List.set_cons_zero, List.set_cons_succ, i64_w, i32_w]
     rfl
    refine pure_ (i := 3) (N := some 18) (v := ?_) (a' := ?_) #[true, true, true, true, false, false, false, false, false] rfl rfl (any_of HT_.out (by kernel_rfl)) (fun _ _ _ h => h) (Or.inl ⟨by rfl, ?_⟩) ?_ ?_
    rotate_left
    ·intro w'
     go_simp
     with_reducible rfl
    rotate_left
    ·simp only [Act.put, List.setIfInBounds_toArray, List.set_cons_zero, List.set_cons_succ, i64_w, i32_w]
     rfl
    refine take_ (i := 4) (N := some 19) (v := ?_) (a' := ?_) #[true, true, true, true, true, false, false, false, false] rfl rfl (take_ofW HT_.out HW_.out (by kernel_rfl)) (fun _ _ _ h => h) (Or.inl ⟨by rfl, ?_⟩) hHeld ?_ ?_
    rotate_left
    ·rintro w' ⟨s0, s1, s2, s3, s4, s5⟩
     go_simp
     with_reducible rfl
    rotate_left
    ·simp only [Act.put, List.setIfInBounds_toArray, List.set_cons_zero, List.set_cons_succ, i64_w, i32_w]
     rfl
    refine one_ (i := 5) (N := some 20) #[true, true, true, true, true, true, false, false, false] rfl rfl (one_of HT_.out (by kernel_rfl)) (by decide) (fun K hK => ?_)
    refine goes_ Tryd.func82 (by kernel_rfl) rfl #[.bool false] (by rfl) rfl rfl (by (try simp only [List.map_toArray, List.map_cons, List.map_nil]); first | done | rfl | (simp only [List.length_drop, List.length_take]; rfl)) ?_
    with_reducible refine (q01_Truth.calls false t286 t287 t288 _ A19.out).mono ?_
    rintro e w22 ⟨rfl, hb⟩
    refine ⟨_, rfl, ?_⟩
    have n0_ := Asd.mk (bB hb BK279.out)
    have n1_ := Asd.mk (bB hb BK280.out)
    have n2_ := Asd.mk (bB hb BK281.out)
    have n3_ := Asd.mk (bS hb HB.out)
    clear BK279 BK280 BK281 HB
    have BK279 := n0_
    have BK280 := n1_
    have BK281 := n2_
    have HB := n3_
    clear n0_ n1_ n2_ n3_
    (try clear hb)
    (try clear hb2)
    (try clear hk)
    (try clear hi)
    refine hK.out _ _ ⟨(bkC BK279.out 0).trans rfl, (bkC BK279.out 1).trans rfl, (bkC BK279.out 2).trans rfl, (bkC BK280.out 0).trans rfl, (bkC BK280.out 1).trans rfl, (bkC BK280.out 2).trans rfl⟩ (fun hHeld => ?_)
    clear hK K
    refine norm_ (a' := ?_) ?_ ?_
    rotate_left
    ·show Act.put _ (some 20) _ = _
     simp only [Act.put, List.setIfInBounds_toArray, List.set_cons_zero, List.set_cons_succ, i64_w, i32_w]
     rfl
    refine pure_ (i := 6) (N := some 21) (v := ?_) (a' := ?_) #[true, true, true, true, true, true, true, false, false] rfl rfl (any_of HT_.out (by kernel_rfl)) (fun _ _ _ h => h) (Or.inl ⟨by rfl, ?_⟩) ?_ ?_
    rotate_left
    ·intro w'
     go_simp
     with_reducible rfl
    rotate_left
    ·simp only [Act.put, List.setIfInBounds_toArray, List.set_cons_zero, List.set_cons_succ, i64_w, i32_w]
     rfl
    refine pure_ (i := 7) (N := some 22) (v := ?_) (a' := ?_) #[true, true, true, true, true, true, true, true, false] rfl rfl (any_of HT_.out (by kernel_rfl)) (fun _ _ _ h => h) (Or.inl ⟨by rfl, ?_⟩) ?_ ?_
    rotate_left
    ·intro w'
     go_simp
     with_reducible rfl
    rotate_left
    ·simp only [Act.put, List.setIfInBounds_toArray, List.set_cons_zero, List.set_cons_succ, i64_w, i32_w]
     rfl
    refine pure_ (i := 8) (N := some 14) (v := ?_) (a' := ?_) #[true, true, true, true, true, true, true, true, true] rfl rfl (any_of HT_.out (by kernel_rfl)) (fun _ _ _ h => h) (Or.inl ⟨by rfl, ?_⟩) ?_ ?_
    rotate_left
    ·intro w'
     go_simp
     with_reducible rfl
    rotate_left
    ·simp only [Act.put, List.setIfInBounds_toArray, List.set_cons_zero, List.set_cons_succ, i64_w, i32_w]
     rfl
    refine done_ (done_of HT_.out (by kernel_rfl)) ?_
    try go_wp2
    go_meet
    case rel => exact ⟨_, ((a1_0 == t286 && (a1_1 == t287 && (a1_2.toList == t288.toList)))), (by first | rfl | (simp; done) | (simp [*]; done)), H', ⟨by first | omega | exact Nat.le_refl _⟩, ⟨by exact BK279.out⟩, ⟨by exact BK280.out⟩, ⟨by exact BK281.out⟩, ⟨by repeat (first | (with_reducible first | exact HB.out | apply blA | apply pbN | apply blD | refine blS ?_ GE279.out | refine blS ?_ GE280.out | refine blS ?_ GE281.out) | exact HB.out)⟩⟩
  case rest =>
   clear HC5
   try clear c1
   try clear p2
   try clear c4
   try clear c7
   try clear c8
   try clear c9
   try clear c10
   try clear c12
   try clear c16
   try clear c16b0
   try clear c16b1
   try clear c16b2
   try clear hcz11_0
   try clear hcz11_1
   try clear hcz11_2
   try clear hcz13_0
   try clear hcz13_1
   try clear hcz13_2
   try clear hfz11_0
   try clear hfz11_1
   try clear hfz11_2
   try clear hfz13_0
   try clear hfz13_1
   try clear hfz13_2
   obtain ⟨kq, x14_4, rfl, HA, HJ4, BK279, BK280, BK281, HB⟩ := hcut
   cases kq with
   | zero => exact absurd HA.out (by simp [q01_And.j0])
   | succ kj4 =>
    have H := HA.out
    clear HA
    simp only [q01_And.j0] at H
    by_cases c23 : x14_4 = true
    ·subst c23
     have H1 : ((q01_Truth.f false).bind fun bt289 => (some (bt289.1, bt289.2.1, bt289.2.2, 0))) = some (r1, r2, r3, r4) := by rw [if_pos rfl] at H; exact H
     clear H
     have H := H1
     clear H1
     replace H := Option.bind_eq_some_iff.mp H
     obtain ⟨⟨t289, t290, t291⟩, A240, H⟩ := H
     replace H : (some (t289, t290, t291, 0)) = some (r1, r2, r3, r4) := H
     have A24 := Asd.mk A240
     clear A240
     simp only [Option.some.injEq, Prod.mk.injEq] at H
     obtain ⟨rfl, rfl, rfl, rfl⟩ := H
     go_wp2_with (first | ((with_reducible refine gate_callee (f := 82) rfl ?_); refine goesL_ (some 23) rfl rfl Tryd.func82 (by kernel_rfl) rfl #[.bool false] rfl (by (try simp only [List.map_toArray, List.map_cons, List.map_nil]); first | done | rfl | (simp only [List.length_drop, List.length_take]; rfl)) ?_; (with_reducible refine (q01_Truth.calls false t289 t290 t291 _ A24.out).mono ?_); rintro e w25 ⟨rfl, hb⟩; refine ⟨_, rfl, ?_⟩; replace BK279 := Asd.mk (bB hb BK279.out); replace BK280 := Asd.mk (bB hb BK280.out); replace BK281 := Asd.mk (bB hb BK281.out); replace HB := Asd.mk (bS hb HB.out); clear hb; have hnb26 := NB281_279.out; have hnc26 := NB279_281.out; have hnb27 := NB281_280.out; have hnc27 := NB280_281.out; obtain ⟨hcz28_0, hcz28_1, hcz28_2⟩ := bkC3 BK281.out; obtain ⟨hfz28_0, hfz28_1, hfz28_2⟩ := bkF3 BK281.out))
     refine bodyPost_ret (results_ct rfl _ _ gb281 23 #[.int .i64 t289, .int .i64 t290, .string t291] (0, 0) _ rfl (by refine blk_put (cs := #[.int .i64 t289, .int .i64 t290, .string (⟨#[]⟩ : ByteArray)]) ?_ 2 _ rfl; refine blk_put (cs := #[.int .i64 t289, .int .i64 0, .string (⟨#[]⟩ : ByteArray)]) ?_ 1 _ rfl; refine blk_put (cs := #[.int .i64 0, .int .i64 0, .string (⟨#[]⟩ : ByteArray)]) ?_ 0 _ rfl; exact BK281.out) Tryd.underlying23 rfl (by kernel_rfl)) rfl ?_
     exact ⟨by first | rfl | (simp [errW_none, errW_some] <;> rfl) | (simp [*, errW_none, errW_some] <;> rfl), by repeat (first | (with_reducible first | exact HB.out | apply blA | apply pbN | apply blD | refine blS ?_ GE279.out | refine blS ?_ GE280.out | refine blS ?_ GE281.out) | exact HB.out)⟩
    ·replace c23 := Bool.eq_false_iff.mpr c23
     subst c23
     have H1 : (if a0_0 = 0 then (some (0, 0, (⟨#[]⟩ : ByteArray), 0)) else (if a1_0 = 0 then (some (0, 0, (⟨#[]⟩ : ByteArray), 0)) else ((q01_Truth.f true).bind fun bt292 => (some (bt292.1, bt292.2.1, bt292.2.2, 0))))) = some (r1, r2, r3, r4) := by rw [if_neg (show ¬ (false = true) by decide)] at H; exact H
     clear H
     have H := H1
     clear H1
     by_cases c29 : a0_0 = 0
     ·rw [if_pos c29] at H
      have c29b0 : (a0_0 == 0) = true := beq_iff_eq.mpr c29
      have c29b1 : (a0_0 != 0) = false := bne_eq_false_iff_eq.mpr c29
      clear c29
      simp only [Option.some.injEq, Prod.mk.injEq] at H
      obtain ⟨rfl, rfl, rfl, rfl⟩ := H
      have hnb30 := NB279_280.out
      have hnc30 := NB280_279.out
      have hnb31 := NB279_281.out
      have hnc31 := NB281_279.out
      obtain ⟨hcz32_0, hcz32_1, hcz32_2⟩ := bkC3 BK279.out
      obtain ⟨hfz32_0, hfz32_1, hfz32_2⟩ := bkF3 BK279.out
      have hnb33 := NB281_280.out
      have hnc33 := NB280_281.out
      obtain ⟨hcz34_0, hcz34_1, hcz34_2⟩ := bkC3 BK281.out
      obtain ⟨hfz34_0, hfz34_1, hfz34_2⟩ := bkF3 BK281.out
      go_wp2
      refine bodyPost_ret (results_ct rfl _ _ gb281 23 #[.int .i64 0, .int .i64 0, .string (⟨#[]⟩ : ByteArray)] (0, 0) _ rfl (by refine blk_put (cs := #[.int .i64 0, .int .i64 0, .string (⟨#[]⟩ : ByteArray)]) ?_ 2 _ rfl; refine blk_put (cs := #[.int .i64 0, .int .i64 0, .string (⟨#[]⟩ : ByteArray)]) ?_ 1 _ rfl; refine blk_put (cs := #[.int .i64 0, .int .i64 0, .string (⟨#[]⟩ : ByteArray)]) ?_ 0 _ rfl; exact BK281.out) Tryd.underlying23 rfl (by kernel_rfl)) rfl ?_
      exact ⟨by first | rfl | (simp [errW_none, errW_some] <;> rfl) | (simp [*, errW_none, errW_some] <;> rfl), by repeat (first | (with_reducible first | exact HB.out | apply blA | apply pbN | apply blD | refine blS ?_ GE279.out | refine blS ?_ GE280.out | refine blS ?_ GE281.out) | exact HB.out)⟩
     ·rw [if_neg c29] at H
      have c29b0 : (a0_0 == 0) = false := beq_eq_false_iff_ne.mpr c29
      have c29b1 : (a0_0 != 0) = true := bne_iff_ne.mpr c29
      by_cases c35 : a1_0 = 0
      ·rw [if_pos c35] at H
       have c35b0 : (a1_0 == 0) = true := beq_iff_eq.mpr c35
       have c35b1 : (a1_0 != 0) = false := bne_eq_false_iff_eq.mpr c35
       clear c35
       simp only [Option.some.injEq, Prod.mk.injEq] at H
       obtain ⟨rfl, rfl, rfl, rfl⟩ := H
       have hnb36 := NB279_280.out
       have hnc36 := NB280_279.out
       have hnb37 := NB279_281.out
       have hnc37 := NB281_279.out
       obtain ⟨hcz38_0, hcz38_1, hcz38_2⟩ := bkC3 BK279.out
       obtain ⟨hfz38_0, hfz38_1, hfz38_2⟩ := bkF3 BK279.out
       have hnb39 := NB280_281.out
       have hnc39 := NB281_280.out
       obtain ⟨hcz40_0, hcz40_1, hcz40_2⟩ := bkC3 BK280.out
       obtain ⟨hfz40_0, hfz40_1, hfz40_2⟩ := bkF3 BK280.out
       obtain ⟨hcz41_0, hcz41_1, hcz41_2⟩ := bkC3 BK281.out
       obtain ⟨hfz41_0, hfz41_1, hfz41_2⟩ := bkF3 BK281.out
       go_wp2
       refine bodyPost_ret (results_ct rfl _ _ gb281 23 #[.int .i64 0, .int .i64 0, .string (⟨#[]⟩ : ByteArray)] (0, 0) _ rfl (by refine blk_put (cs := #[.int .i64 0, .int .i64 0, .string (⟨#[]⟩ : ByteArray)]) ?_ 2 _ rfl; refine blk_put (cs := #[.int .i64 0, .int .i64 0, .string (⟨#[]⟩ : ByteArray)]) ?_ 1 _ rfl; refine blk_put (cs := #[.int .i64 0, .int .i64 0, .string (⟨#[]⟩ : ByteArray)]) ?_ 0 _ rfl; exact BK281.out) Tryd.underlying23 rfl (by kernel_rfl)) rfl ?_
       exact ⟨by first | rfl | (simp [errW_none, errW_some] <;> rfl) | (simp [*, errW_none, errW_some] <;> rfl), by repeat (first | (with_reducible first | exact HB.out | apply blA | apply pbN | apply blD | refine blS ?_ GE279.out | refine blS ?_ GE280.out | refine blS ?_ GE281.out) | exact HB.out)⟩
      ·rw [if_neg c35] at H
       have c35b0 : (a1_0 == 0) = false := beq_eq_false_iff_ne.mpr c35
       have c35b1 : (a1_0 != 0) = true := bne_iff_ne.mpr c35
       replace H := Option.bind_eq_some_iff.mp H
       obtain ⟨⟨t292, t293, t294⟩, A420, H⟩ := H
       replace H : (some (t292, t293, t294, 0)) = some (r1, r2, r3, r4) := H
       have A42 := Asd.mk A420
       clear A420
       simp only [Option.some.injEq, Prod.mk.injEq] at H
       obtain ⟨rfl, rfl, rfl, rfl⟩ := H
       have hnb43 := NB279_280.out
       have hnc43 := NB280_279.out
       have hnb44 := NB279_281.out
       have hnc44 := NB281_279.out
       obtain ⟨hcz45_0, hcz45_1, hcz45_2⟩ := bkC3 BK279.out
       obtain ⟨hfz45_0, hfz45_1, hfz45_2⟩ := bkF3 BK279.out
       have hnb46 := NB280_281.out
       have hnc46 := NB281_280.out
       obtain ⟨hcz47_0, hcz47_1, hcz47_2⟩ := bkC3 BK280.out
       obtain ⟨hfz47_0, hfz47_1, hfz47_2⟩ := bkF3 BK280.out
       go_wp2_with (first | ((with_reducible refine gate_callee (f := 82) rfl ?_); refine goesL_ (some 34) rfl rfl Tryd.func82 (by kernel_rfl) rfl #[.bool true] rfl (by (try simp only [List.map_toArray, List.map_cons, List.map_nil]); first | done | rfl | (simp only [List.length_drop, List.length_take]; rfl)) ?_; (with_reducible refine (q01_Truth.calls true t292 t293 t294 _ A42.out).mono ?_); rintro e w48 ⟨rfl, hb⟩; refine ⟨_, rfl, ?_⟩; replace BK279 := Asd.mk (bB hb BK279.out); replace BK280 := Asd.mk (bB hb BK280.out); replace BK281 := Asd.mk (bB hb BK281.out); replace HB := Asd.mk (bS hb HB.out); clear hb; obtain ⟨hcz49_0, hcz49_1, hcz49_2⟩ := bkC3 BK281.out; obtain ⟨hfz49_0, hfz49_1, hfz49_2⟩ := bkF3 BK281.out))
       refine bodyPost_ret (results_ct rfl _ _ gb281 23 #[.int .i64 t292, .int .i64 t293, .string t294] (0, 0) _ rfl (by refine blk_put (cs := #[.int .i64 t292, .int .i64 t293, .string (⟨#[]⟩ : ByteArray)]) ?_ 2 _ rfl; refine blk_put (cs := #[.int .i64 t292, .int .i64 0, .string (⟨#[]⟩ : ByteArray)]) ?_ 1 _ rfl; refine blk_put (cs := #[.int .i64 0, .int .i64 0, .string (⟨#[]⟩ : ByteArray)]) ?_ 0 _ rfl; exact BK281.out) Tryd.underlying23 rfl (by kernel_rfl)) rfl ?_
       exact ⟨by first | rfl | (simp [errW_none, errW_some] <;> rfl) | (simp [*, errW_none, errW_some] <;> rfl), by repeat (first | (with_reducible first | exact HB.out | apply blA | apply pbN | apply blD | refine blS ?_ GE279.out | refine blS ?_ GE280.out | refine blS ?_ GE281.out) | exact HB.out)⟩
 ·replace c4 := Bool.eq_false_iff.mpr c4
  subst c4
  have H1 : (some (0, 0, (⟨#[]⟩ : ByteArray), 1)) = some (r1, r2, r3, r4) := by rw [if_neg (show ¬ (false = true) by decide)] at H; exact H
  clear H
  have H := H1
  clear H1
  simp only [Option.some.injEq, Prod.mk.injEq] at H
  obtain ⟨rfl, rfl, rfl, rfl⟩ := H
  go_enter Tryd.func79, Tryd.ntmps79
  go_wp2_with (first | ((with_reducible refine gate_dst (N := 2) rfl ?_); refine box_event rfl (N := 2) rfl (cs := #[.int .i64 a0_0, .int .i64 a0_1, .string a0_2]) (t := 23) (by first | (go_simp; done) | (go_simp; rfl)) ?_; intro gb279 hg w50 hbox hb; have BK279 := Asd.mk (hbox); have GW279 := Asd.mk (bZ hg HB.out); have GE279 := GW279; replace HB := Asd.mk (bS hb HB.out); clear hb hbox hg) | ((with_reducible refine gate_dst (N := 3) rfl ?_); refine box_event rfl (N := 3) rfl (cs := #[.int .i64 a1_0, .int .i64 a1_1, .string a1_2]) (t := 23) (by first | (go_simp; done) | (go_simp; rfl)) ?_; intro gb280 hg w51 hbox hb; have BK280 := Asd.mk (hbox); have GW280 := Asd.mk (bZ hg HB.out); have GE280 := GW280; have NB279_280 := Asd.mk (bL hg BK279.out); have NB280_279 := Asd.mk (bG hg BK279.out); replace BK279 := Asd.mk (bB hb BK279.out); replace HB := Asd.mk (bS hb HB.out); clear hb hbox hg) | ((with_reducible refine gate_dst (N := 4) rfl ?_); refine box_event rfl (N := 4) rfl (cs := #[.int .i64 0, .int .i64 0, .string (⟨#[]⟩ : ByteArray)]) (t := 23) (by first | (go_simp; done) | (go_simp; rfl)) ?_; intro gb281 hg w52 hbox hb; have BK281 := Asd.mk (hbox); have GW281 := Asd.mk (bZ hg HB.out); have GE281 := GW281; have NB279_281 := Asd.mk (bL hg BK279.out); have NB281_279 := Asd.mk (bG hg BK279.out); have NB280_281 := Asd.mk (bL hg BK280.out); have NB281_280 := Asd.mk (bG hg BK280.out); replace BK279 := Asd.mk (bB hb BK279.out); replace BK280 := Asd.mk (bB hb BK280.out); replace HB := Asd.mk (bS hb HB.out); clear hb hbox hg; have hnb53 := NB279_280.out; have hnc53 := NB280_279.out; have hnb54 := NB279_281.out; have hnc54 := NB281_279.out; obtain ⟨hcz55_0, hcz55_1, hcz55_2⟩ := bkC3 BK279.out; obtain ⟨hfz55_0, hfz55_1, hfz55_2⟩ := bkF3 BK279.out; have hnb56 := NB280_281.out; have hnc56 := NB281_280.out; obtain ⟨hcz57_0, hcz57_1, hcz57_2⟩ := bkC3 BK280.out; obtain ⟨hfz57_0, hfz57_1, hfz57_2⟩ := bkF3 BK280.out) | ((with_reducible refine gate_callee (f := 100) rfl ?_); refine goesL_ (some 9) rfl rfl Tryd.func100 (by kernel_rfl) rfl #[.int .i64 2, .agg #[.int .i64 a0_0, .int .i64 a0_1, .string a0_2], .agg #[.int .i64 a1_0, .int .i64 a1_1, .string a1_2]] rfl (by (try simp only [List.map_toArray, List.map_cons, List.map_nil]); first | done | rfl | (simp only [List.length_drop, List.length_take]; rfl)) ?_; (with_reducible refine (q01_of.calls 2 a0_0 a0_1 a0_2 a1_0 a1_1 a1_2 false _ A3.out).mono ?_); rintro e w58 ⟨rfl, hb⟩; refine ⟨_, rfl, ?_⟩; replace BK279 := Asd.mk (bB hb BK279.out); replace BK280 := Asd.mk (bB hb BK280.out); replace BK281 := Asd.mk (bB hb BK281.out); replace HB := Asd.mk (bS hb HB.out); clear hb; obtain ⟨hcz59_0, hcz59_1, hcz59_2⟩ := bkC3 BK281.out; obtain ⟨hfz59_0, hfz59_1, hfz59_2⟩ := bkF3 BK281.out))
  refine bodyPost_ret (results_ct rfl _ _ gb281 23 #[.int .i64 0, .int .i64 0, .string (⟨#[]⟩ : ByteArray)] (0, 0) _ rfl (by refine blk_put (cs := #[.int .i64 0, .int .i64 0, .string (⟨#[]⟩ : ByteArray)]) ?_ 2 _ rfl; refine blk_put (cs := #[.int .i64 0, .int .i64 0, .string (⟨#[]⟩ : ByteArray)]) ?_ 1 _ rfl; refine blk_put (cs := #[.int .i64 0, .int .i64 0, .string (⟨#[]⟩ : ByteArray)]) ?_ 0 _ rfl; exact BK281.out) Tryd.underlying23 rfl (by kernel_rfl)) rfl ?_
  exact ⟨by first | rfl | (simp [errW_none, errW_some] <;> rfl) | (simp [*, errW_none, errW_some] <;> rfl), by repeat (first | (with_reducible first | exact HB.out | apply blA | apply pbN | apply blD | refine blS ?_ GE279.out | refine blS ?_ GE280.out | refine blS ?_ GE281.out) | exact HB.out)⟩
end Go.Proofs.YtkboodfnegedaaaDoor.E
namespace Go.Proofs.YtkboodfnegedaaaDoor.E
open Go.RowKit Go.Proofs.YtkboodfnegedaaaDoorW.PrintWords Go.Proofs.YtkboodfnegedaaaDoorW.PrintLast Go.Proofs.YtkboodfnegedaaaDoorW.PrintMore
attribute [local go_sem] max2_int min2_int max_two min_two max_three min_three max_four min_four   -- for this text's walks alone
set_option linter.unusedVariables false
set_option linter.unusedSimpArgs false
def q01_Not.f (a0_0 : Int) (a0_1 : Int) (a0_2 : ByteArray) : Option (Int × Int × ByteArray × Int) := (q01_of.f 2 a0_0 a0_1 a0_2 a0_0 a0_1 a0_2).bind fun t313 => (if t313 = true then (if a0_0 = 0 then (some (0, 0, (⟨#[]⟩ : ByteArray), 0)) else ((q01_Truth.f (a0_1 == 0)).bind fun bt314 => (some (bt314.1, bt314.2.1, bt314.2.2, 0)))) else (some (0, 0, (⟨#[]⟩ : ByteArray), 1)))
set_option maxHeartbeats 8000000 in
set_option maxRecDepth 100000 in
theorem q01_Not.calls (a0_0 : Int) (a0_1 : Int) (a0_2 : ByteArray) (r1 : Int) (r2 : Int) (r3 : ByteArray) (r4 : Int) (w : World) (h : q01_Not.f a0_0 a0_1 a0_2 = some (r1, r2, r3, r4)) :
  Calls Tryd.prog 81 #[.agg #[.int .i64 a0_0, .int .i64 a0_1, .string a0_2]] w fun e w' => e = .returned (.tuple #[.agg #[.int .i64 r1, .int .i64 r2, .string r3], .int .i64 r4]) ∧ Below w.heap.size w w' := by
 have hu23 := Tryd.underlying23
 have HB := Asd.mk (Below.refl w.heap.size w)
 have H : ((q01_of.f 2 a0_0 a0_1 a0_2 a0_0 a0_1 a0_2).bind fun t313 => (if t313 = true then (if a0_0 = 0 then (some (0, 0, (⟨#[]⟩ : ByteArray), 0)) else ((q01_Truth.f (a0_1 == 0)).bind fun bt314 => (some (bt314.1, bt314.2.1, bt314.2.2, 0)))) else (some (0, 0, (⟨#[]⟩ : ByteArray), 1)))) = some (r1, r2, r3, r4) := h
 clear h
 replace H := Option.bind_eq_some_iff.mp H
 obtain ⟨t313, A20, H⟩ := H
 replace H : (if t313 = true then (if a0_0 = 0 then (some (0, 0, (⟨#[]⟩ : ByteArray), 0)) else ((q01_Truth.f (a0_1 == 0)).bind fun bt314 => (some (bt314.1, bt314.2.1, bt314.2.2, 0)))) else (some (0, 0, (⟨#[]⟩ : ByteArray), 1))) = some (r1, r2, r3, r4) := H
 have A2 := Asd.mk A20
 clear A20
 by_cases c3 : t313 = true
 ·subst c3
  have H1 : (if a0_0 = 0 then (some (0, 0, (⟨#[]⟩ : ByteArray), 0)) else ((q01_Truth.f (a0_1 == 0)).bind fun bt314 => (some (bt314.1, bt314.2.1, bt314.2.2, 0)))) = some (r1, r2, r3, r4) := by rw [if_pos rfl] at H; exact H
  clear H
  have H := H1
  clear H1
  by_cases c4 : a0_0 = 0
  ·rw [if_pos c4] at H
   have c4b0 : (a0_0 == 0) = true := beq_iff_eq.mpr c4
   have c4b1 : (a0_0 != 0) = false := bne_eq_false_iff_eq.mpr c4
   clear c4
   simp only [Option.some.injEq, Prod.mk.injEq] at H
   obtain ⟨rfl, rfl, rfl, rfl⟩ := H
   go_enter Tryd.func81, Tryd.ntmps81
   go_wp2_with (first | ((with_reducible refine gate_dst (N := 1) rfl ?_); refine box_event rfl (N := 1) rfl (cs := #[.int .i64 a0_0, .int .i64 a0_1, .string a0_2]) (t := 23) (by first | (go_simp; done) | (go_simp; rfl)) ?_; intro gb311 hg w5 hbox hb; have BK311 := Asd.mk (hbox); have GW311 := Asd.mk (bZ hg HB.out); have GE311 := GW311; replace HB := Asd.mk (bS hb HB.out); clear hb hbox hg) | ((with_reducible refine gate_dst (N := 2) rfl ?_); refine box_event rfl (N := 2) rfl (cs := #[.int .i64 0, .int .i64 0, .string (⟨#[]⟩ : ByteArray)]) (t := 23) (by first | (go_simp; done) | (go_simp; rfl)) ?_; intro gb312 hg w6 hbox hb; have BK312 := Asd.mk (hbox); have GW312 := Asd.mk (bZ hg HB.out); have GE312 := GW312; have NB311_312 := Asd.mk (bL hg BK311.out); have NB312_311 := Asd.mk (bG hg BK311.out); replace BK311 := Asd.mk (bB hb BK311.out); replace HB := Asd.mk (bS hb HB.out); clear hb hbox hg; have hnb7 := NB311_312.out; have hnc7 := NB312_311.out; obtain ⟨hcz8_0, hcz8_1, hcz8_2⟩ := bkC3 BK311.out; obtain ⟨hfz8_0, hfz8_1, hfz8_2⟩ := bkF3 BK311.out) | ((with_reducible refine gate_callee (f := 100) rfl ?_); refine goesL_ (some 7) rfl rfl Tryd.func100 (by kernel_rfl) rfl #[.int .i64 2, .agg #[.int .i64 a0_0, .int .i64 a0_1, .string a0_2], .agg #[.int .i64 a0_0, .int .i64 a0_1, .string a0_2]] rfl (by (try simp only [List.map_toArray, List.map_cons, List.map_nil]); first | done | rfl | (simp only [List.length_drop, List.length_take]; rfl)) ?_; (with_reducible refine (q01_of.calls 2 a0_0 a0_1 a0_2 a0_0 a0_1 a0_2 true _ A2.out).mono ?_); rintro e w9 ⟨rfl, hb⟩; refine ⟨_, rfl, ?_⟩; replace BK311 := Asd.mk (bB hb BK311.out); replace BK312 := Asd.mk (bB hb BK312.out); replace HB := Asd.mk (bS hb HB.out); clear hb; obtain ⟨hcz10_0, hcz10_1, hcz10_2⟩ := bkC3 BK311.out; obtain ⟨hfz10_0, hfz10_1, hfz10_2⟩ := bkF3 BK311.out; obtain ⟨hcz11_0, hcz11_1, hcz11_2⟩ := bkC3 BK312.out; obtain ⟨hfz11_0, hfz11_1, hfz11_2⟩ := bkF3 BK312.out))
   refine bodyPost_ret (results_ct rfl _ _ gb312 23 #[.int .i64 0, .int .i64 0, .string (⟨#[]⟩ : ByteArray)] (0, 0) _ rfl (by refine blk_put (cs := #[.int .i64 0, .int .i64 0, .string (⟨#[]⟩ : ByteArray)]) ?_ 2 _ rfl; refine blk_put (cs := #[.int .i64 0, .int .i64 0, .string (⟨#[]⟩ : ByteArray)]) ?_ 1 _ rfl; refine blk_put (cs := #[.int .i64 0, .int .i64 0, .string (⟨#[]⟩ : ByteArray)]) ?_ 0 _ rfl; exact BK312.out) Tryd.underlying23 rfl (by kernel_rfl)) rfl ?_
   exact ⟨by first | rfl | (simp [errW_none, errW_some] <;> rfl) | (simp [*, errW_none, errW_some] <;> rfl), by repeat (first | (with_reducible first | exact HB.out | apply blA | apply pbN | apply blD | refine blS ?_ GE311.out | refine blS ?_ GE312.out) | exact HB.out)⟩
  ·rw [if_neg c4] at H
   have c4b0 : (a0_0 == 0) = false := beq_eq_false_iff_ne.mpr c4
   have c4b1 : (a0_0 != 0) = true := bne_iff_ne.mpr c4
   replace H := Option.bind_eq_some_iff.mp H
   obtain ⟨⟨t314, t315, t316⟩, A120, H⟩ := H
   replace H : (some (t314, t315, t316, 0)) = some (r1, r2, r3, r4) := H
   have A12 := Asd.mk A120
   clear A120
   simp only [Option.some.injEq, Prod.mk.injEq] at H
   obtain ⟨rfl, rfl, rfl, rfl⟩ := H
   go_enter Tryd.func81, Tryd.ntmps81
   go_wp2_with (first | ((with_reducible refine gate_dst (N := 1) rfl ?_); refine box_event rfl (N := 1) rfl (cs := #[.int .i64 a0_0, .int .i64 a0_1, .string a0_2]) (t := 23) (by first | (go_simp; done) | (go_simp; rfl)) ?_; intro gb311 hg w13 hbox hb; have BK311 := Asd.mk (hbox); have GW311 := Asd.mk (bZ hg HB.out); have GE311 := GW311; replace HB := Asd.mk (bS hb HB.out); clear hb hbox hg) | ((with_reducible refine gate_dst (N := 2) rfl ?_); refine box_event rfl (N := 2) rfl (cs := #[.int .i64 0, .int .i64 0, .string (⟨#[]⟩ : ByteArray)]) (t := 23) (by first | (go_simp; done) | (go_simp; rfl)) ?_; intro gb312 hg w14 hbox hb; have BK312 := Asd.mk (hbox); have GW312 := Asd.mk (bZ hg HB.out); have GE312 := GW312; have NB311_312 := Asd.mk (bL hg BK311.out); have NB312_311 := Asd.mk (bG hg BK311.out); replace BK311 := Asd.mk (bB hb BK311.out); replace HB := Asd.mk (bS hb HB.out); clear hb hbox hg; have hnb15 := NB311_312.out; have hnc15 := NB312_311.out; obtain ⟨hcz16_0, hcz16_1, hcz16_2⟩ := bkC3 BK311.out; obtain ⟨hfz16_0, hfz16_1, hfz16_2⟩ := bkF3 BK311.out) | ((with_reducible refine gate_callee (f := 100) rfl ?_); refine goesL_ (some 7) rfl rfl Tryd.func100 (by kernel_rfl) rfl #[.int .i64 2, .agg #[.int .i64 a0_0, .int .i64 a0_1, .string a0_2], .agg #[.int .i64 a0_0, .int .i64 a0_1, .string a0_2]] rfl (by (try simp only [List.map_toArray, List.map_cons, List.map_nil]); first | done | rfl | (simp only [List.length_drop, List.length_take]; rfl)) ?_; (with_reducible refine (q01_of.calls 2 a0_0 a0_1 a0_2 a0_0 a0_1 a0_2 true _ A2.out).mono ?_); rintro e w17 ⟨rfl, hb⟩; refine ⟨_, rfl, ?_⟩; replace BK311 := Asd.mk (bB hb BK311.out); replace BK312 := Asd.mk (bB hb BK312.out); replace HB := Asd.mk (bS hb HB.out); clear hb; obtain ⟨hcz18_0, hcz18_1, hcz18_2⟩ := bkC3 BK311.out; obtain ⟨hfz18_0, hfz18_1, hfz18_2⟩ := bkF3 BK311.out) | ((with_reducible refine gate_callee (f := 82) rfl ?_); refine goesL_ (some 20) rfl rfl Tryd.func82 (by kernel_rfl) rfl #[.bool (a0_1 == 0)] rfl (by (try simp only [List.map_toArray, List.map_cons, List.map_nil]); first | done | rfl | (simp only [List.length_drop, List.length_take]; rfl)) ?_; (with_reducible refine (q01_Truth.calls (a0_1 == 0) t314 t315 t316 _ A12.out).mono ?_); rintro e w19 ⟨rfl, hb⟩; refine ⟨_, rfl, ?_⟩; replace BK311 := Asd.mk (bB hb BK311.out); replace BK312 := Asd.mk (bB hb BK312.out); replace HB := Asd.mk (bS hb HB.out); clear hb; obtain ⟨hcz20_0, hcz20_1, hcz20_2⟩ := bkC3 BK312.out; obtain ⟨hfz20_0, hfz20_1, hfz20_2⟩ := bkF3 BK312.out))
   refine bodyPost_ret (results_ct rfl _ _ gb312 23 #[.int .i64 t314, .int .i64 t315, .string t316] (0, 0) _ rfl (by refine blk_put (cs := #[.int .i64 t314, .int .i64 t315, .string (⟨#[]⟩ : ByteArray)]) ?_ 2 _ rfl; refine blk_put (cs := #[.int .i64 t314, .int .i64 0, .string (⟨#[]⟩ : ByteArray)]) ?_ 1 _ rfl; refine blk_put (cs := #[.int .i64 0, .int .i64 0, .string (⟨#[]⟩ : ByteArray)]) ?_ 0 _ rfl; exact BK312.out) Tryd.underlying23 rfl (by kernel_rfl)) rfl ?_
   exact ⟨by first | rfl | (simp [errW_none, errW_some] <;> rfl) | (simp [*, errW_none, errW_some] <;> rfl), by repeat (first | (with_reducible first | exact HB.out | apply blA | apply pbN | apply blD | refine blS ?_ GE311.out | refine blS ?_ GE312.out) | exact HB.out)⟩
 ·replace c3 := Bool.eq_false_iff.mpr c3
  subst c3
  have H1 : (some (0, 0, (⟨#[]⟩ : ByteArray), 1)) = some (r1, r2, r3, r4) := by rw [if_neg (show ¬ (false = true) by decide)] at H; exact H
  clear H
  have H := H1
  clear H1
  simp only [Option.some.injEq, Prod.mk.injEq] at H
  obtain ⟨rfl, rfl, rfl, rfl⟩ := H
  go_enter Tryd.func81, Tryd.ntmps81
  go_wp2_with (first | ((with_reducible refine gate_dst (N := 1) rfl ?_); refine box_event rfl (N := 1) rfl (cs := #[.int .i64 a0_0, .int .i64 a0_1, .string a0_2]) (t := 23) (by first | (go_simp; done) | (go_simp; rfl)) ?_; intro gb311 hg w21 hbox hb; have BK311 := Asd.mk (hbox); have GW311 := Asd.mk (bZ hg HB.out); have GE311 := GW311; replace HB := Asd.mk (bS hb HB.out); clear hb hbox hg) | ((with_reducible refine gate_dst (N := 2) rfl ?_); refine box_event rfl (N := 2) rfl (cs := #[.int .i64 0, .int .i64 0, .string (⟨#[]⟩ : ByteArray)]) (t := 23) (by first | (go_simp; done) | (go_simp; rfl)) ?_; intro gb312 hg w22 hbox hb; have BK312 := Asd.mk (hbox); have GW312 := Asd.mk (bZ hg HB.out); have GE312 := GW312; have NB311_312 := Asd.mk (bL hg BK311.out); have NB312_311 := Asd.mk (bG hg BK311.out); replace BK311 := Asd.mk (bB hb BK311.out); replace HB := Asd.mk (bS hb HB.out); clear hb hbox hg; have hnb23 := NB311_312.out; have hnc23 := NB312_311.out; obtain ⟨hcz24_0, hcz24_1, hcz24_2⟩ := bkC3 BK311.out; obtain ⟨hfz24_0, hfz24_1, hfz24_2⟩ := bkF3 BK311.out) | ((with_reducible refine gate_callee (f := 100) rfl ?_); refine goesL_ (some 7) rfl rfl Tryd.func100 (by kernel_rfl) rfl #[.int .i64 2, .agg #[.int .i64 a0_0, .int .i64 a0_1, .string a0_2], .agg #[.int .i64 a0_0, .int .i64 a0_1, .string a0_2]] rfl (by (try simp only [List.map_toArray, List.map_cons, List.map_nil]); first | done | rfl | (simp only [List.length_drop, List.length_take]; rfl)) ?_; (with_reducible refine (q01_of.calls 2 a0_0 a0_1 a0_2 a0_0 a0_1 a0_2 false _ A2.out).mono ?_); rintro e w25 ⟨rfl, hb⟩; refine ⟨_, rfl, ?_⟩; replace BK311 := Asd.mk (bB hb BK311.out); replace BK312 := Asd.mk (bB hb BK312.out); replace HB := Asd.mk (bS hb HB.out); clear hb; obtain ⟨hcz26_0, hcz26_1, hcz26_2⟩ := bkC3 BK312.out; obtain ⟨hfz26_0, hfz26_1, hfz26_2⟩ := bkF3 BK312.out))
  refine bodyPost_ret (results_ct rfl _ _ gb312 23 #[.int .i64 0, .int .i64 0, .string (⟨#[]⟩ : ByteArray)] (0, 0) _ rfl (by refine blk_put (cs := #[.int .i64 0, .int .i64 0, .string (⟨#[]⟩ : ByteArray)]) ?_ 2 _ rfl; refine blk_put (cs := #[.int .i64 0, .int .i64 0, .string (⟨#[]⟩ : ByteArray)]) ?_ 1 _ rfl; refine blk_put (cs := #[.int .i64 0, .int .i64 0, .string (⟨#[]⟩ : ByteArray)]) ?_ 0 _ rfl; exact BK312.out) Tryd.underlying23 rfl (by kernel_rfl)) rfl ?_
  exact ⟨by first | rfl | (simp [errW_none, errW_some] <;> rfl) | (simp [*, errW_none, errW_some] <;> rfl), by repeat (first | (with_reducible first | exact HB.out | apply blA | apply pbN | apply blD | refine blS ?_ GE311.out | refine blS ?_ GE312.out) | exact HB.out)⟩
end Go.Proofs.YtkboodfnegedaaaDoor.E
