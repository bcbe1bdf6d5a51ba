/- Contracts and plain lemmas of the functions that the law reaches, part 14. -/
import Derived.Test.YtkboodfnegedaaaDoorZV3
import Derived.Test.YtkboodfnegedaaaDoorZV9
namespace Go.Proofs.YtkboodfnegedaaaDoor.E
open Go.RowKit Go.Proofs.YtkboodfnegedaaaDoorW.PrintWords Go.Proofs.YtkboodfnegedaaaDoorW.PrintLast Go.Proofs.YtkboodfnegedaaaDoorW.PrintMore
attribute [local go_sem] max2_int min2_int max_two min_two max_three min_three max_four min_four   -- for this text's walks alone
set_option linter.unusedVariables false
set_option linter.unusedSimpArgs false
def q01_Mul.j0 : Nat → Bool → Int → Int → ByteArray → Int → Int → ByteArray → Option (Int × Int × ByteArray × Int)
 | 0, _, _, _, _, _, _, _ => none
 | k + 1, x21, x250000, x250001, x250002, x251000, x251001, x251002 => if x21 = true then (some (0, 0, (⟨#[]⟩ : ByteArray), 0)) else (if x250001 = 0 then ((q01_one.f (wrap64 (x250001 * x251001))).bind fun bt253 => (some (bt253.1, bt253.2.1, bt253.2.2, 0))) else (if (wrap64 (Int.tdiv (wrap64 (x250001 * x251001)) x250001)) = x251001 then (if x250001 = (-1) then (if x251001 = (-9223372036854775808) then (some (0, 0, (⟨#[]⟩ : ByteArray), 3)) else ((q01_one.f (wrap64 (x250001 * x251001))).bind fun bt256 => (some (bt256.1, bt256.2.1, bt256.2.2, 0)))) else ((q01_one.f (wrap64 (x250001 * x251001))).bind fun bt259 => (some (bt259.1, bt259.2.1, bt259.2.2, 0)))) else (some (0, 0, (⟨#[]⟩ : ByteArray), 3))))
def q01_Mul.f (k : Nat) (a0_0 : Int) (a0_1 : Int) (a0_2 : ByteArray) (a1_0 : Int) (a1_1 : Int) (a1_2 : ByteArray) : Option (Int × Int × ByteArray × Int) := (q01_of.f 1 a0_0 a0_1 a0_2 a1_0 a1_1 a1_2).bind fun t252 => (if t252 = true then (if a0_0 = 0 then (q01_Mul.j0 k true a0_0 a0_1 a0_2 a1_0 a1_1 a1_2) else (q01_Mul.j0 k (a1_0 == 0) a0_0 a0_1 a0_2 a1_0 a1_1 a1_2)) else (some (0, 0, (⟨#[]⟩ : ByteArray), 1)))
set_option maxHeartbeats 8000000 in
set_option maxRecDepth 100000 in
theorem q01_Mul.calls (k : Nat) (a0_0 : Int) (a0_1 : Int) (a0_2 : ByteArray) (a1_0 : Int) (a1_1 : Int) (a1_2 : ByteArray) (r1 : Int) (r2 : Int) (r3 : ByteArray) (r4 : Int) (w : World) (h : q01_Mul.f k a0_0 a0_1 a0_2 a1_0 a1_1 a1_2 = some (r1, r2, r3, r4)) :
  Calls Tryd.prog 76 #[.agg #[.int .i64 a0_0, .int .i64 a0_1, .string a0_2], .agg #[.int .i64 a1_0, .int .i64 a1_1, .string a1_2]] w fun e w' => e = .returned (.tuple #[.agg #[.int .i64 r1, .int .i64 r2, .string r3], .int .i64 r4]) ∧ Below w.heap.size w w' := by
 have hu23 := Tryd.underlying23
 have HB := Asd.mk (Below.refl w.heap.size w)
 have H : ((q01_of.f 1 a0_0 a0_1 a0_2 a1_0 a1_1 a1_2).bind fun t252 => (if t252 = true then (if a0_0 = 0 then (q01_Mul.j0 k true a0_0 a0_1 a0_2 a1_0 a1_1 a1_2) else (q01_Mul.j0 k (a1_0 == 0) a0_0 a0_1 a0_2 a1_0 a1_1 a1_2)) else (some (0, 0, (⟨#[]⟩ : ByteArray), 1)))) = some (r1, r2, r3, r4) := h
 clear h
 replace H := Option.bind_eq_some_iff.mp H
 obtain ⟨t252, A30, H⟩ := H
 replace H : (if t252 = true then (if a0_0 = 0 then (q01_Mul.j0 k true a0_0 a0_1 a0_2 a1_0 a1_1 a1_2) else (q01_Mul.j0 k (a1_0 == 0) a0_0 a0_1 a0_2 a1_0 a1_1 a1_2)) else (some (0, 0, (⟨#[]⟩ : ByteArray), 1))) = some (r1, r2, r3, r4) := H
 have A3 := Asd.mk A30
 clear A30
 by_cases c4 : t252 = true
 ·subst c4
  have H1 : (if a0_0 = 0 then (q01_Mul.j0 k true a0_0 a0_1 a0_2 a1_0 a1_1 a1_2) else (q01_Mul.j0 k (a1_0 == 0) a0_0 a0_1 a0_2 a1_0 a1_1 a1_2)) = some (r1, r2, r3, r4) := by rw [if_pos rfl] at H; exact H
  clear H
  have H := H1
  clear H1
  have HC5 := Asd.mk H
  clear H
  go_enter Tryd.func76, Tryd.ntmps76
  go_upto_region 4 with (first | ((with_reducible refine gate_dst (N := 2) rfl ?_); refine box_event rfl (N := 2) rfl (cs := #[.int .i64 a0_0, .int .i64 a0_1, .string a0_2]) (t := 23) (by first | (go_simp; done) | (go_simp; rfl)) ?_; intro gb249 hg w6 hbox hb; have BK249 := Asd.mk (hbox); have GW249 := Asd.mk (bZ hg HB.out); have GE249 := GW249; replace HB := Asd.mk (bS hb HB.out); clear hb hbox hg) | ((with_reducible refine gate_dst (N := 3) rfl ?_); refine box_event rfl (N := 3) rfl (cs := #[.int .i64 a1_0, .int .i64 a1_1, .string a1_2]) (t := 23) (by first | (go_simp; done) | (go_simp; rfl)) ?_; intro gb250 hg w7 hbox hb; have BK250 := Asd.mk (hbox); have GW250 := Asd.mk (bZ hg HB.out); have GE250 := GW250; have NB249_250 := Asd.mk (bL hg BK249.out); have NB250_249 := Asd.mk (bG hg BK249.out); replace BK249 := Asd.mk (bB hb BK249.out); replace HB := Asd.mk (bS hb HB.out); clear hb hbox hg) | ((with_reducible refine gate_dst (N := 4) rfl ?_); refine box_event rfl (N := 4) rfl (cs := #[.int .i64 0, .int .i64 0, .string (⟨#[]⟩ : ByteArray)]) (t := 23) (by first | (go_simp; done) | (go_simp; rfl)) ?_; intro gb251 hg w8 hbox hb; have BK251 := Asd.mk (hbox); have GW251 := Asd.mk (bZ hg HB.out); have GE251 := GW251; have NB249_251 := Asd.mk (bL hg BK249.out); have NB251_249 := Asd.mk (bG hg BK249.out); have NB250_251 := Asd.mk (bL hg BK250.out); have NB251_250 := Asd.mk (bG hg BK250.out); replace BK249 := Asd.mk (bB hb BK249.out); replace BK250 := Asd.mk (bB hb BK250.out); replace HB := Asd.mk (bS hb HB.out); clear hb hbox hg; have hnb9 := NB249_250.out; have hnc9 := NB250_249.out; have hnb10 := NB249_251.out; have hnc10 := NB251_249.out; obtain ⟨hcz11_0, hcz11_1, hcz11_2⟩ := bkC3 BK249.out; obtain ⟨hfz11_0, hfz11_1, hfz11_2⟩ := bkF3 BK249.out; have hnb12 := NB250_251.out; have hnc12 := NB251_250.out; obtain ⟨hcz13_0, hcz13_1, hcz13_2⟩ := bkC3 BK250.out; obtain ⟨hfz13_0, hfz13_1, hfz13_2⟩ := bkF3 BK250.out) | (go_at_call 100; (with_reducible refine (q01_of.calls 1 a0_0 a0_1 a0_2 a1_0 a1_1 a1_2 true _ A3.out).mono ?_); rintro e w14 ⟨rfl, hb⟩; replace BK249 := Asd.mk (bB hb BK249.out); replace BK250 := Asd.mk (bB hb BK250.out); replace BK251 := Asd.mk (bB hb BK251.out); replace HB := Asd.mk (bS hb HB.out); clear hb))
  repeat (go_quiet (first | ((with_reducible refine gate_dst (N := 2) rfl ?_); refine box_event rfl (N := 2) rfl (cs := #[.int .i64 a0_0, .int .i64 a0_1, .string a0_2]) (t := 23) (by first | (go_simp; done) | (go_simp; rfl)) ?_; intro gb249 hg w6 hbox hb; have BK249 := Asd.mk (hbox); have GW249 := Asd.mk (bZ hg HB.out); have GE249 := GW249; replace HB := Asd.mk (bS hb HB.out); clear hb hbox hg) | ((with_reducible refine gate_dst (N := 3) rfl ?_); refine box_event rfl (N := 3) rfl (cs := #[.int .i64 a1_0, .int .i64 a1_1, .string a1_2]) (t := 23) (by first | (go_simp; done) | (go_simp; rfl)) ?_; intro gb250 hg w7 hbox hb; have BK250 := Asd.mk (hbox); have GW250 := Asd.mk (bZ hg HB.out); have GE250 := GW250; have NB249_250 := Asd.mk (bL hg BK249.out); have NB250_249 := Asd.mk (bG hg BK249.out); replace BK249 := Asd.mk (bB hb BK249.out); replace HB := Asd.mk (bS hb HB.out); clear hb hbox hg) | ((with_reducible refine gate_dst (N := 4) rfl ?_); refine box_event rfl (N := 4) rfl (cs := #[.int .i64 0, .int .i64 0, .string (⟨#[]⟩ : ByteArray)]) (t := 23) (by first | (go_simp; done) | (go_simp; rfl)) ?_; intro gb251 hg w8 hbox hb; have BK251 := Asd.mk (hbox); have GW251 := Asd.mk (bZ hg HB.out); have GE251 := GW251; have NB249_251 := Asd.mk (bL hg BK249.out); have NB251_249 := Asd.mk (bG hg BK249.out); have NB250_251 := Asd.mk (bL hg BK250.out); have NB251_250 := Asd.mk (bG hg BK250.out); replace BK249 := Asd.mk (bB hb BK249.out); replace BK250 := Asd.mk (bB hb BK250.out); replace HB := Asd.mk (bS hb HB.out); clear hb hbox hg; have hnb9 := NB249_250.out; have hnc9 := NB250_249.out; have hnb10 := NB249_251.out; have hnc10 := NB251_249.out; obtain ⟨hcz11_0, hcz11_1, hcz11_2⟩ := bkC3 BK249.out; obtain ⟨hfz11_0, hfz11_1, hfz11_2⟩ := bkF3 BK249.out; have hnb12 := NB250_251.out; have hnc12 := NB251_250.out; obtain ⟨hcz13_0, hcz13_1, hcz13_2⟩ := bkC3 BK250.out; obtain ⟨hfz13_0, hfz13_1, hfz13_2⟩ := bkF3 BK250.out) | (go_at_call 100; (with_reducible refine (q01_of.calls 1 a0_0 a0_1 a0_2 a1_0 a1_1 a1_2 true _ A3.out).mono ?_); rintro e w14 ⟨rfl, hb⟩; replace BK249 := Asd.mk (bB hb BK249.out); replace BK250 := Asd.mk (bB hb BK250.out); replace BK251 := Asd.mk (bB hb BK251.out); replace HB := Asd.mk (bS hb HB.out); clear hb)); go_upto_region 4 with (first | ((with_reducible refine gate_dst (N := 2) rfl ?_); refine box_event rfl (N := 2) rfl (cs := #[.int .i64 a0_0, .int .i64 a0_1, .string a0_2]) (t := 23) (by first | (go_simp; done) | (go_simp; rfl)) ?_; intro gb249 hg w6 hbox hb; have BK249 := Asd.mk (hbox); have GW249 := Asd.mk (bZ hg HB.out); have GE249 := GW249; replace HB := Asd.mk (bS hb HB.out); clear hb hbox hg) | ((with_reducible refine gate_dst (N := 3) rfl ?_); refine box_event rfl (N := 3) rfl (cs := #[.int .i64 a1_0, .int .i64 a1_1, .string a1_2]) (t := 23) (by first | (go_simp; done) | (go_simp; rfl)) ?_; intro gb250 hg w7 hbox hb; have BK250 := Asd.mk (hbox); have GW250 := Asd.mk (bZ hg HB.out); have GE250 := GW250; have NB249_250 := Asd.mk (bL hg BK249.out); have NB250_249 := Asd.mk (bG hg BK249.out); replace BK249 := Asd.mk (bB hb BK249.out); replace HB := Asd.mk (bS hb HB.out); clear hb hbox hg) | ((with_reducible refine gate_dst (N := 4) rfl ?_); refine box_event rfl (N := 4) rfl (cs := #[.int .i64 0, .int .i64 0, .string (⟨#[]⟩ : ByteArray)]) (t := 23) (by first | (go_simp; done) | (go_simp; rfl)) ?_; intro gb251 hg w8 hbox hb; have BK251 := Asd.mk (hbox); have GW251 := Asd.mk (bZ hg HB.out); have GE251 := GW251; have NB249_251 := Asd.mk (bL hg BK249.out); have NB251_249 := Asd.mk (bG hg BK249.out); have NB250_251 := Asd.mk (bL hg BK250.out); have NB251_250 := Asd.mk (bG hg BK250.out); replace BK249 := Asd.mk (bB hb BK249.out); replace BK250 := Asd.mk (bB hb BK250.out); replace HB := Asd.mk (bS hb HB.out); clear hb hbox hg; have hnb9 := NB249_250.out; have hnc9 := NB250_249.out; have hnb10 := NB249_251.out; have hnc10 := NB251_249.out; obtain ⟨hcz11_0, hcz11_1, hcz11_2⟩ := bkC3 BK249.out; obtain ⟨hfz11_0, hfz11_1, hfz11_2⟩ := bkF3 BK249.out; have hnb12 := NB250_251.out; have hnc12 := NB251_250.out; obtain ⟨hcz13_0, hcz13_1, hcz13_2⟩ := bkC3 BK250.out; obtain ⟨hfz13_0, hfz13_1, hfz13_2⟩ := bkF3 BK250.out) | (go_at_call 100; (with_reducible refine (q01_of.calls 1 a0_0 a0_1 a0_2 a1_0 a1_1 a1_2 true _ A3.out).mono ?_); rintro e w14 ⟨rfl, hb⟩; replace BK249 := Asd.mk (bB hb BK249.out); replace BK250 := Asd.mk (bB hb BK250.out); replace BK251 := Asd.mk (bB hb BK251.out); replace HB := Asd.mk (bS hb HB.out); clear hb)))
  (try simp only [Act.put, List.setIfInBounds_toArray, List.set_cons_zero, List.set_cons_succ])
  go_cut [21] (fun v21 wc => ∃ (kq : Nat) (x21_4 : Bool), v21 = .bool x21_4 ∧ Asd (q01_Mul.j0 kq x21_4 a0_0 a0_1 a0_2 a1_0 a1_1 a1_2 = some (r1, r2, r3, r4)) ∧ Asd (kq ≤ k) ∧ Asd (wc.heap[gb249]? = some (.cells #[.int .i64 a0_0, .int .i64 a0_1, .string a0_2] 23 (0, 0))) ∧ Asd (wc.heap[gb250]? = some (.cells #[.int .i64 a1_0, .int .i64 a1_1, .string a1_2] 23 (0, 0))) ∧ Asd (wc.heap[gb251]? = some (.cells #[.int .i64 0, .int .i64 0, .string (⟨#[]⟩ : ByteArray)] 23 (0, 0))) ∧ Asd (Below w.heap.size w wc))
  case first =>
   have H := HC5.out
   clear HC5
   by_cases c15 : a0_0 = 0
   ·rw [if_pos c15] at H
    have c15b0 : (a0_0 == 0) = true := beq_iff_eq.mpr c15
    have c15b1 : (a0_0 != 0) = false := bne_eq_false_iff_eq.mpr c15
    clear c15
    (first | rw [c15b0] | (simp only [i64_w, i32_w]; rw [c15b0]) | skip)
    have H' := Asd.mk H
    clear H
    have hnb16 := NB249_250.out
    have hnc16 := NB250_249.out
    have hnb17 := NB249_251.out
    have hnc17 := NB251_249.out
    obtain ⟨hcz18_0, hcz18_1, hcz18_2⟩ := bkC3 BK249.out
    obtain ⟨hfz18_0, hfz18_1, hfz18_2⟩ := bkF3 BK249.out
    go_wp2
    repeat (go_quiet (fail); try go_wp2)
    go_meet
    case rel => exact ⟨_, (true), (by first | rfl | (simp; done) | (simp [*]; done)), H', ⟨by first | omega | exact Nat.le_refl _⟩, ⟨by exact BK249.out⟩, ⟨by exact BK250.out⟩, ⟨by exact BK251.out⟩, ⟨by repeat (first | (with_reducible first | exact HB.out | apply blA | apply pbN | apply blD | refine blS ?_ GE249.out | refine blS ?_ GE250.out | refine blS ?_ GE251.out) | exact HB.out)⟩⟩
   ·rw [if_neg c15] at H
    have c15b0 : (a0_0 == 0) = false := beq_eq_false_iff_ne.mpr c15
    have c15b1 : (a0_0 != 0) = true := bne_iff_ne.mpr c15
    (first | rw [c15b0] | (simp only [i64_w, i32_w]; rw [c15b0]) | skip)
    have H' := Asd.mk H
    clear H
    have hnb19 := NB249_250.out
    have hnc19 := NB250_249.out
    have hnb20 := NB249_251.out
    have hnc20 := NB251_249.out
    obtain ⟨hcz21_0, hcz21_1, hcz21_2⟩ := bkC3 BK249.out
    obtain ⟨hfz21_0, hfz21_1, hfz21_2⟩ := bkF3 BK249.out
    have hnb22 := NB250_251.out
    have hnc22 := NB251_250.out
    obtain ⟨hcz23_0, hcz23_1, hcz23_2⟩ := bkC3 BK250.out
    obtain ⟨hfz23_0, hfz23_1, hfz23_2⟩ := bkF3 BK250.out
    go_wp2
    repeat (go_quiet (fail); try go_wp2)
    go_meet
    case rel => exact ⟨_, ((a1_0 == 0)), (by first | rfl | (simp; done) | (simp [*]; done)), H', ⟨by first | omega | exact Nat.le_refl _⟩, ⟨by exact BK249.out⟩, ⟨by exact BK250.out⟩, ⟨by exact BK251.out⟩, ⟨by repeat (first | (with_reducible first | exact HB.out | apply blA | apply pbN | apply blD | refine blS ?_ GE249.out | refine blS ?_ GE250.out | refine blS ?_ GE251.out) | exact HB.out)⟩⟩
  case rest =>
   clear HC5
   try clear c1
   try clear c2
   try clear p2
   try clear c4
   try clear c7
   try clear c9
   try clear c10
   try clear c12
   try clear c15
   try clear c15b0
   try clear c15b1
   try clear c16
   try clear c17
   try clear c19
   try clear c20
   try clear c22
   try clear hcz11_0
   try clear hcz11_1
   try clear hcz11_2
   try clear hcz13_0
   try clear hcz13_1
   try clear hcz13_2
   try clear hcz18_0
   try clear hcz18_1
   try clear hcz18_2
   try clear hcz21_0
   try clear hcz21_1
   try clear hcz21_2
   try clear hcz23_0
   try clear hcz23_1
   try clear hcz23_2
   try clear hfz11_0
   try clear hfz11_1
   try clear hfz11_2
   try clear hfz13_0
   try clear hfz13_1
   try clear hfz13_2
   try clear hfz18_0
   try clear hfz18_1
   try clear hfz18_2
   try clear hfz21_0
   try clear hfz21_1
   try clear hfz21_2
   try clear hfz23_0
   try clear hfz23_1
   try clear hfz23_2
   obtain ⟨kq, x21_4, rfl, HA, HJ4, BK249, BK250, BK251, HB⟩ := hcut
   cases kq with
   | zero => exact absurd HA.out (by simp [q01_Mul.j0])
   | succ kj4 =>
    have H := HA.out
    clear HA
    simp only [q01_Mul.j0] at H
    by_cases c24 : x21_4 = true
    ·subst c24
     have H1 : (some (0, 0, (⟨#[]⟩ : ByteArray), 0)) = some (r1, r2, r3, r4) := by rw [if_pos rfl] at H; exact H
     clear H
     have H := H1
     clear H1
     simp only [Option.some.injEq, Prod.mk.injEq] at H
     obtain ⟨rfl, rfl, rfl, rfl⟩ := H
     have hnb25 := NB251_249.out
     have hnc25 := NB249_251.out
     have hnb26 := NB251_250.out
     have hnc26 := NB250_251.out
     obtain ⟨hcz27_0, hcz27_1, hcz27_2⟩ := bkC3 BK251.out
     obtain ⟨hfz27_0, hfz27_1, hfz27_2⟩ := bkF3 BK251.out
     go_wp2
     repeat (go_quiet (fail); try go_wp2)
     refine bodyPost_ret (results_ct rfl _ _ gb251 23 #[.int .i64 0, .int .i64 0, .string (⟨#[]⟩ : ByteArray)] (0, 0) _ rfl (by refine blk_put (cs := #[.int .i64 0, .int .i64 0, .string (⟨#[]⟩ : ByteArray)]) ?_ 2 _ rfl; refine blk_put (cs := #[.int .i64 0, .int .i64 0, .string (⟨#[]⟩ : ByteArray)]) ?_ 1 _ rfl; refine blk_put (cs := #[.int .i64 0, .int .i64 0, .string (⟨#[]⟩ : ByteArray)]) ?_ 0 _ rfl; exact BK251.out) Tryd.underlying23 rfl (by kernel_rfl)) rfl ?_
     exact ⟨by first | rfl | (simp [errW_none, errW_some] <;> rfl) | (simp [*, errW_none, errW_some] <;> rfl), by repeat (first | (with_reducible first | exact HB.out | apply blA | apply pbN | apply blD | refine blS ?_ GE249.out | refine blS ?_ GE250.out | refine blS ?_ GE251.out) | exact HB.out)⟩
    ·replace c24 := Bool.eq_false_iff.mpr c24
     subst c24
     have H1 : (if a0_1 = 0 then ((q01_one.f (wrap64 (a0_1 * a1_1))).bind fun bt253 => (some (bt253.1, bt253.2.1, bt253.2.2, 0))) else (if (wrap64 (Int.tdiv (wrap64 (a0_1 * a1_1)) a0_1)) = a1_1 then (if a0_1 = (-1) then (if a1_1 = (-9223372036854775808) then (some (0, 0, (⟨#[]⟩ : ByteArray), 3)) else ((q01_one.f (wrap64 (a0_1 * a1_1))).bind fun bt256 => (some (bt256.1, bt256.2.1, bt256.2.2, 0)))) else ((q01_one.f (wrap64 (a0_1 * a1_1))).bind fun bt259 => (some (bt259.1, bt259.2.1, bt259.2.2, 0)))) else (some (0, 0, (⟨#[]⟩ : ByteArray), 3)))) = some (r1, r2, r3, r4) := by rw [if_neg (show ¬ (false = true) by decide)] at H; exact H
     clear H
     have H := H1
     clear H1
     by_cases c28 : a0_1 = 0
     ·rw [if_pos c28] at H
      have c28b0 : (a0_1 == 0) = true := beq_iff_eq.mpr c28
      have c28b1 : (a0_1 != 0) = false := bne_eq_false_iff_eq.mpr c28
      clear c28
      replace H := Option.bind_eq_some_iff.mp H
      obtain ⟨⟨t253, t254, t255⟩, A290, H⟩ := H
      replace H : (some (t253, t254, t255, 0)) = some (r1, r2, r3, r4) := H
      have A29 := Asd.mk A290
      clear A290
      simp only [Option.some.injEq, Prod.mk.injEq] at H
      obtain ⟨rfl, rfl, rfl, rfl⟩ := H
      have hnb30 := NB249_250.out
      have hnc30 := NB250_249.out
      have hnb31 := NB249_251.out
      have hnc31 := NB251_249.out
      obtain ⟨hcz32_0, hcz32_1, hcz32_2⟩ := bkC3 BK249.out
      obtain ⟨hfz32_0, hfz32_1, hfz32_2⟩ := bkF3 BK249.out
      have hnb33 := NB250_251.out
      have hnc33 := NB251_250.out
      obtain ⟨hcz34_0, hcz34_1, hcz34_2⟩ := bkC3 BK250.out
      obtain ⟨hfz34_0, hfz34_1, hfz34_2⟩ := bkF3 BK250.out
      go_wp2_with (first | (go_at_call 101; (with_reducible refine (q01_one.calls (wrap64 (a0_1 * a1_1)) t253 t254 t255 _ A29.out).mono ?_); rintro e w35 ⟨rfl, hb⟩; replace BK249 := Asd.mk (bB hb BK249.out); replace BK250 := Asd.mk (bB hb BK250.out); replace BK251 := Asd.mk (bB hb BK251.out); replace HB := Asd.mk (bS hb HB.out); clear hb; obtain ⟨hcz36_0, hcz36_1, hcz36_2⟩ := bkC3 BK251.out; obtain ⟨hfz36_0, hfz36_1, hfz36_2⟩ := bkF3 BK251.out))
      repeat (go_quiet (first | (go_at_call 101; (with_reducible refine (q01_one.calls (wrap64 (a0_1 * a1_1)) t253 t254 t255 _ A29.out).mono ?_); rintro e w35 ⟨rfl, hb⟩; replace BK249 := Asd.mk (bB hb BK249.out); replace BK250 := Asd.mk (bB hb BK250.out); replace BK251 := Asd.mk (bB hb BK251.out); replace HB := Asd.mk (bS hb HB.out); clear hb; obtain ⟨hcz36_0, hcz36_1, hcz36_2⟩ := bkC3 BK251.out; obtain ⟨hfz36_0, hfz36_1, hfz36_2⟩ := bkF3 BK251.out)); try go_wp2_with (first | (go_at_call 101; (with_reducible refine (q01_one.calls (wrap64 (a0_1 * a1_1)) t253 t254 t255 _ A29.out).mono ?_); rintro e w35 ⟨rfl, hb⟩; replace BK249 := Asd.mk (bB hb BK249.out); replace BK250 := Asd.mk (bB hb BK250.out); replace BK251 := Asd.mk (bB hb BK251.out); replace HB := Asd.mk (bS hb HB.out); clear hb; obtain ⟨hcz36_0, hcz36_1, hcz36_2⟩ := bkC3 BK251.out; obtain ⟨hfz36_0, hfz36_1, hfz36_2⟩ := bkF3 BK251.out)))
      refine bodyPost_ret (results_ct rfl _ _ gb251 23 #[.int .i64 t253, .int .i64 t254, .string t255] (0, 0) _ rfl (by refine blk_put (cs := #[.int .i64 t253, .int .i64 t254, .string (⟨#[]⟩ : ByteArray)]) ?_ 2 _ rfl; refine blk_put (cs := #[.int .i64 t253, .int .i64 0, .string (⟨#[]⟩ : ByteArray)]) ?_ 1 _ rfl; refine blk_put (cs := #[.int .i64 0, .int .i64 0, .string (⟨#[]⟩ : ByteArray)]) ?_ 0 _ rfl; exact BK251.out) Tryd.underlying23 rfl (by kernel_rfl)) rfl ?_
      exact ⟨by first | rfl | (simp [errW_none, errW_some] <;> rfl) | (simp [*, errW_none, errW_some] <;> rfl), by repeat (first | (with_reducible first | exact HB.out | apply blA | apply pbN | apply blD | refine blS ?_ GE249.out | refine blS ?_ GE250.out | refine blS ?_ GE251.out) | exact HB.out)⟩
     ·rw [if_neg c28] at H
      have c28b0 : (a0_1 == 0) = false := beq_eq_false_iff_ne.mpr c28
      have c28b1 : (a0_1 != 0) = true := bne_iff_ne.mpr c28
      by_cases c37 : (wrap64 (Int.tdiv (wrap64 (a0_1 * a1_1)) a0_1)) = a1_1
      ·rw [if_pos c37] at H
       have c37b0 : ((wrap64 (Int.tdiv (wrap64 (a0_1 * a1_1)) a0_1)) == a1_1) = true := beq_iff_eq.mpr c37
       have c37b1 : ((wrap64 (Int.tdiv (wrap64 (a0_1 * a1_1)) a0_1)) != a1_1) = false := bne_eq_false_iff_eq.mpr c37
       clear c37
       by_cases c38 : a0_1 = (-1)
       ·rw [if_pos c38] at H
        have c38b0 : (a0_1 == (-1)) = true := beq_iff_eq.mpr c38
        have c38b1 : (a0_1 != (-1)) = false := bne_eq_false_iff_eq.mpr c38
        clear c38
        by_cases c39 : a1_1 = (-9223372036854775808)
        ·rw [if_pos c39] at H
         have c39b0 : (a1_1 == (-9223372036854775808)) = true := beq_iff_eq.mpr c39
         have c39b1 : (a1_1 != (-9223372036854775808)) = false := bne_eq_false_iff_eq.mpr c39
         clear c39
         simp only [Option.some.injEq, Prod.mk.injEq] at H
         obtain ⟨rfl, rfl, rfl, rfl⟩ := H
         have hnb40 := NB249_250.out
         have hnc40 := NB250_249.out
         have hnb41 := NB249_251.out
         have hnc41 := NB251_249.out
         obtain ⟨hcz42_0, hcz42_1, hcz42_2⟩ := bkC3 BK249.out
         obtain ⟨hfz42_0, hfz42_1, hfz42_2⟩ := bkF3 BK249.out
         have hnb43 := NB250_251.out
         have hnc43 := NB251_250.out
         obtain ⟨hcz44_0, hcz44_1, hcz44_2⟩ := bkC3 BK250.out
         obtain ⟨hfz44_0, hfz44_1, hfz44_2⟩ := bkF3 BK250.out
         obtain ⟨hcz45_0, hcz45_1, hcz45_2⟩ := bkC3 BK251.out
         obtain ⟨hfz45_0, hfz45_1, hfz45_2⟩ := bkF3 BK251.out
         go_wp2
         repeat (go_quiet (fail); try go_wp2)
         refine bodyPost_ret (results_ct rfl _ _ gb251 23 #[.int .i64 0, .int .i64 0, .string (⟨#[]⟩ : ByteArray)] (0, 0) _ rfl (by refine blk_put (cs := #[.int .i64 0, .int .i64 0, .string (⟨#[]⟩ : ByteArray)]) ?_ 2 _ rfl; refine blk_put (cs := #[.int .i64 0, .int .i64 0, .string (⟨#[]⟩ : ByteArray)]) ?_ 1 _ rfl; refine blk_put (cs := #[.int .i64 0, .int .i64 0, .string (⟨#[]⟩ : ByteArray)]) ?_ 0 _ rfl; exact BK251.out) Tryd.underlying23 rfl (by kernel_rfl)) rfl ?_
         exact ⟨by first | rfl | (simp [errW_none, errW_some] <;> rfl) | (simp [*, errW_none, errW_some] <;> rfl), by repeat (first | (with_reducible first | exact HB.out | apply blA | apply pbN | apply blD | refine blS ?_ GE249.out | refine blS ?_ GE250.out | refine blS ?_ GE251.out) | exact HB.out)⟩
        ·rw [if_neg c39] at H
         have c39b0 : (a1_1 == (-9223372036854775808)) = false := beq_eq_false_iff_ne.mpr c39
         have c39b1 : (a1_1 != (-9223372036854775808)) = true := bne_iff_ne.mpr c39
         replace H := Option.bind_eq_some_iff.mp H
         obtain ⟨⟨t256, t257, t258⟩, A460, H⟩ := H
         replace H : (some (t256, t257, t258, 0)) = some (r1, r2, r3, r4) := H
         have A46 := Asd.mk A460
         clear A460
         simp only [Option.some.injEq, Prod.mk.injEq] at H
         obtain ⟨rfl, rfl, rfl, rfl⟩ := H
         have hnb47 := NB249_250.out
         have hnc47 := NB250_249.out
         have hnb48 := NB249_251.out
         have hnc48 := NB251_249.out
         obtain ⟨hcz49_0, hcz49_1, hcz49_2⟩ := bkC3 BK249.out
         obtain ⟨hfz49_0, hfz49_1, hfz49_2⟩ := bkF3 BK249.out
         have hnb50 := NB250_251.out
         have hnc50 := NB251_250.out
         obtain ⟨hcz51_0, hcz51_1, hcz51_2⟩ := bkC3 BK250.out
         obtain ⟨hfz51_0, hfz51_1, hfz51_2⟩ := bkF3 BK250.out
         go_wp2_with (first | (go_at_call 101; (with_reducible refine (q01_one.calls (wrap64 (a0_1 * a1_1)) t256 t257 t258 _ A46.out).mono ?_); rintro e w52 ⟨rfl, hb⟩; replace BK249 := Asd.mk (bB hb BK249.out); replace BK250 := Asd.mk (bB hb BK250.out); replace BK251 := Asd.mk (bB hb BK251.out); replace HB := Asd.mk (bS hb HB.out); clear hb; obtain ⟨hcz53_0, hcz53_1, hcz53_2⟩ := bkC3 BK251.out; obtain ⟨hfz53_0, hfz53_1, hfz53_2⟩ := bkF3 BK251.out))
         repeat (go_quiet (first | (go_at_call 101; (with_reducible refine (q01_one.calls (wrap64 (a0_1 * a1_1)) t256 t257 t258 _ A46.out).mono ?_); rintro e w52 ⟨rfl, hb⟩; replace BK249 := Asd.mk (bB hb BK249.out); replace BK250 := Asd.mk (bB hb BK250.out); replace BK251 := Asd.mk (bB hb BK251.out); replace HB := Asd.mk (bS hb HB.out); clear hb; obtain ⟨hcz53_0, hcz53_1, hcz53_2⟩ := bkC3 BK251.out; obtain ⟨hfz53_0, hfz53_1, hfz53_2⟩ := bkF3 BK251.out)); try go_wp2_with (first | (go_at_call 101; (with_reducible refine (q01_one.calls (wrap64 (a0_1 * a1_1)) t256 t257 t258 _ A46.out).mono ?_); rintro e w52 ⟨rfl, hb⟩; replace BK249 := Asd.mk (bB hb BK249.out); replace BK250 := Asd.mk (bB hb BK250.out); replace BK251 := Asd.mk (bB hb BK251.out); replace HB := Asd.mk (bS hb HB.out); clear hb; obtain ⟨hcz53_0, hcz53_1, hcz53_2⟩ := bkC3 BK251.out; obtain ⟨hfz53_0, hfz53_1, hfz53_2⟩ := bkF3 BK251.out)))
         refine bodyPost_ret (results_ct rfl _ _ gb251 23 #[.int .i64 t256, .int .i64 t257, .string t258] (0, 0) _ rfl (by refine blk_put (cs := #[.int .i64 t256, .int .i64 t257, .string (⟨#[]⟩ : ByteArray)]) ?_ 2 _ rfl; refine blk_put (cs := #[.int .i64 t256, .int .i64 0, .string (⟨#[]⟩ : ByteArray)]) ?_ 1 _ rfl; refine blk_put (cs := #[.int .i64 0, .int .i64 0, .string (⟨#[]⟩ : ByteArray)]) ?_ 0 _ rfl; exact BK251.out) Tryd.underlying23 rfl (by kernel_rfl)) rfl ?_
         exact ⟨by first | rfl | (simp [errW_none, errW_some] <;> rfl) | (simp [*, errW_none, errW_some] <;> rfl), by repeat (first | (with_reducible first | exact HB.out | apply blA | apply pbN | apply blD | refine blS ?_ GE249.out | refine blS ?_ GE250.out | refine blS ?_ GE251.out) | exact HB.out)⟩
       ·rw [if_neg c38] at H
        have c38b0 : (a0_1 == (-1)) = false := beq_eq_false_iff_ne.mpr c38
        have c38b1 : (a0_1 != (-1)) = true := bne_iff_ne.mpr c38
        replace H := Option.bind_eq_some_iff.mp H
        obtain ⟨⟨t259, t260, t261⟩, A540, H⟩ := H
        replace H : (some (t259, t260, t261, 0)) = some (r1, r2, r3, r4) := H
        have A54 := Asd.mk A540
        clear A540
        simp only [Option.some.injEq, Prod.mk.injEq] at H
        obtain ⟨rfl, rfl, rfl, rfl⟩ := H
        have hnb55 := NB249_250.out
        have hnc55 := NB250_249.out
        have hnb56 := NB249_251.out
        have hnc56 := NB251_249.out
        obtain ⟨hcz57_0, hcz57_1, hcz57_2⟩ := bkC3 BK249.out
        obtain ⟨hfz57_0, hfz57_1, hfz57_2⟩ := bkF3 BK249.out
        have hnb58 := NB250_251.out
        have hnc58 := NB251_250.out
        obtain ⟨hcz59_0, hcz59_1, hcz59_2⟩ := bkC3 BK250.out
        obtain ⟨hfz59_0, hfz59_1, hfz59_2⟩ := bkF3 BK250.out
        go_wp2_with (first | (go_at_call 101; (with_reducible refine (q01_one.calls (wrap64 (a0_1 * a1_1)) t259 t260 t261 _ A54.out).mono ?_); rintro e w60 ⟨rfl, hb⟩; replace BK249 := Asd.mk (bB hb BK249.out); replace BK250 := Asd.mk (bB hb BK250.out); replace BK251 := Asd.mk (bB hb BK251.out); replace HB := Asd.mk (bS hb HB.out); clear hb; obtain ⟨hcz61_0, hcz61_1, hcz61_2⟩ := bkC3 BK251.out; obtain ⟨hfz61_0, hfz61_1, hfz61_2⟩ := bkF3 BK251.out))
        repeat (go_quiet (first | (go_at_call 101; (with_reducible refine (q01_one.calls (wrap64 (a0_1 * a1_1)) t259 t260 t261 _ A54.out).mono ?_); rintro e w60 ⟨rfl, hb⟩; replace BK249 := Asd.mk (bB hb BK249.out); replace BK250 := Asd.mk (bB hb BK250.out); replace BK251 := Asd.mk (bB hb BK251.out); replace HB := Asd.mk (bS hb HB.out); clear hb; obtain ⟨hcz61_0, hcz61_1, hcz61_2⟩ := bkC3 BK251.out; obtain ⟨hfz61_0, hfz61_1, hfz61_2⟩ := bkF3 BK251.out)); try go_wp2_with (first | (go_at_call 101; (with_reducible refine (q01_one.calls (wrap64 (a0_1 * a1_1)) t259 t260 t261 _ A54.out).mono ?_); rintro e w60 ⟨rfl, hb⟩; replace BK249 := Asd.mk (bB hb BK249.out); replace BK250 := Asd.mk (bB hb BK250.out); replace BK251 := Asd.mk (bB hb BK251.out); replace HB := Asd.mk (bS hb HB.out); clear hb; obtain ⟨hcz61_0, hcz61_1, hcz61_2⟩ := bkC3 BK251.out; obtain ⟨hfz61_0, hfz61_1, hfz61_2⟩ := bkF3 BK251.out)))
        refine bodyPost_ret (results_ct rfl _ _ gb251 23 #[.int .i64 t259, .int .i64 t260, .string t261] (0, 0) _ rfl (by refine blk_put (cs := #[.int .i64 t259, .int .i64 t260, .string (⟨#[]⟩ : ByteArray)]) ?_ 2 _ rfl; refine blk_put (cs := #[.int .i64 t259, .int .i64 0, .string (⟨#[]⟩ : ByteArray)]) ?_ 1 _ rfl; refine blk_put (cs := #[.int .i64 0, .int .i64 0, .string (⟨#[]⟩ : ByteArray)]) ?_ 0 _ rfl; exact BK251.out) Tryd.underlying23 rfl (by kernel_rfl)) rfl ?_
        exact ⟨by first | rfl | (simp [errW_none, errW_some] <;> rfl) | (simp [*, errW_none, errW_some] <;> rfl), by repeat (first | (with_reducible first | exact HB.out | apply blA | apply pbN | apply blD | refine blS ?_ GE249.out | refine blS ?_ GE250.out | refine blS ?_ GE251.out) | exact HB.out)⟩
      ·rw [if_neg c37] at H
       have c37b0 : ((wrap64 (Int.tdiv (wrap64 (a0_1 * a1_1)) a0_1)) == a1_1) = false := beq_eq_false_iff_ne.mpr c37
       have c37b1 : ((wrap64 (Int.tdiv (wrap64 (a0_1 * a1_1)) a0_1)) != a1_1) = true := bne_iff_ne.mpr c37
       simp only [Option.some.injEq, Prod.mk.injEq] at H
       obtain ⟨rfl, rfl, rfl, rfl⟩ := H
       have hnb62 := NB249_250.out
       have hnc62 := NB250_249.out
       have hnb63 := NB249_251.out
       have hnc63 := NB251_249.out
       obtain ⟨hcz64_0, hcz64_1, hcz64_2⟩ := bkC3 BK249.out
       obtain ⟨hfz64_0, hfz64_1, hfz64_2⟩ := bkF3 BK249.out
       have hnb65 := NB250_251.out
       have hnc65 := NB251_250.out
       obtain ⟨hcz66_0, hcz66_1, hcz66_2⟩ := bkC3 BK250.out
       obtain ⟨hfz66_0, hfz66_1, hfz66_2⟩ := bkF3 BK250.out
       obtain ⟨hcz67_0, hcz67_1, hcz67_2⟩ := bkC3 BK251.out
       obtain ⟨hfz67_0, hfz67_1, hfz67_2⟩ := bkF3 BK251.out
       go_wp2
       repeat (go_quiet (fail); try go_wp2)
       refine bodyPost_ret (results_ct rfl _ _ gb251 23 #[.int .i64 0, .int .i64 0, .string (⟨#[]⟩ : ByteArray)] (0, 0) _ rfl (by refine blk_put (cs := #[.int .i64 0, .int .i64 0, .string (⟨#[]⟩ : ByteArray)]) ?_ 2 _ rfl; refine blk_put (cs := #[.int .i64 0, .int .i64 0, .string (⟨#[]⟩ : ByteArray)]) ?_ 1 _ rfl; refine blk_put (cs := #[.int .i64 0, .int .i64 0, .string (⟨#[]⟩ : ByteArray)]) ?_ 0 _ rfl; exact BK251.out) Tryd.underlying23 rfl (by kernel_rfl)) rfl ?_
       exact ⟨by first | rfl | (simp [errW_none, errW_some] <;> rfl) | (simp [*, errW_none, errW_some] <;> rfl), by repeat (first | (with_reducible first | exact HB.out | apply blA | apply pbN | apply blD | refine blS ?_ GE249.out | refine blS ?_ GE250.out | refine blS ?_ GE251.out) | exact HB.out)⟩
 ·replace c4 := Bool.eq_false_iff.mpr c4
  subst c4
  have H1 : (some (0, 0, (⟨#[]⟩ : ByteArray), 1)) = some (r1, r2, r3, r4) := by rw [if_neg (show ¬ (false = true) by decide)] at H; exact H
  clear H
  have H := H1
  clear H1
  simp only [Option.some.injEq, Prod.mk.injEq] at H
  obtain ⟨rfl, rfl, rfl, rfl⟩ := H
  go_enter Tryd.func76, Tryd.ntmps76
  go_wp2_with (first | ((with_reducible refine gate_dst (N := 2) rfl ?_); refine box_event rfl (N := 2) rfl (cs := #[.int .i64 a0_0, .int .i64 a0_1, .string a0_2]) (t := 23) (by first | (go_simp; done) | (go_simp; rfl)) ?_; intro gb249 hg w68 hbox hb; have BK249 := Asd.mk (hbox); have GW249 := Asd.mk (bZ hg HB.out); have GE249 := GW249; replace HB := Asd.mk (bS hb HB.out); clear hb hbox hg) | ((with_reducible refine gate_dst (N := 3) rfl ?_); refine box_event rfl (N := 3) rfl (cs := #[.int .i64 a1_0, .int .i64 a1_1, .string a1_2]) (t := 23) (by first | (go_simp; done) | (go_simp; rfl)) ?_; intro gb250 hg w69 hbox hb; have BK250 := Asd.mk (hbox); have GW250 := Asd.mk (bZ hg HB.out); have GE250 := GW250; have NB249_250 := Asd.mk (bL hg BK249.out); have NB250_249 := Asd.mk (bG hg BK249.out); replace BK249 := Asd.mk (bB hb BK249.out); replace HB := Asd.mk (bS hb HB.out); clear hb hbox hg) | ((with_reducible refine gate_dst (N := 4) rfl ?_); refine box_event rfl (N := 4) rfl (cs := #[.int .i64 0, .int .i64 0, .string (⟨#[]⟩ : ByteArray)]) (t := 23) (by first | (go_simp; done) | (go_simp; rfl)) ?_; intro gb251 hg w70 hbox hb; have BK251 := Asd.mk (hbox); have GW251 := Asd.mk (bZ hg HB.out); have GE251 := GW251; have NB249_251 := Asd.mk (bL hg BK249.out); have NB251_249 := Asd.mk (bG hg BK249.out); have NB250_251 := Asd.mk (bL hg BK250.out); have NB251_250 := Asd.mk (bG hg BK250.out); replace BK249 := Asd.mk (bB hb BK249.out); replace BK250 := Asd.mk (bB hb BK250.out); replace HB := Asd.mk (bS hb HB.out); clear hb hbox hg; have hnb71 := NB249_250.out; have hnc71 := NB250_249.out; have hnb72 := NB249_251.out; have hnc72 := NB251_249.out; obtain ⟨hcz73_0, hcz73_1, hcz73_2⟩ := bkC3 BK249.out; obtain ⟨hfz73_0, hfz73_1, hfz73_2⟩ := bkF3 BK249.out; have hnb74 := NB250_251.out; have hnc74 := NB251_250.out; obtain ⟨hcz75_0, hcz75_1, hcz75_2⟩ := bkC3 BK250.out; obtain ⟨hfz75_0, hfz75_1, hfz75_2⟩ := bkF3 BK250.out) | (go_at_call 100; (with_reducible refine (q01_of.calls 1 a0_0 a0_1 a0_2 a1_0 a1_1 a1_2 false _ A3.out).mono ?_); rintro e w76 ⟨rfl, hb⟩; replace BK249 := Asd.mk (bB hb BK249.out); replace BK250 := Asd.mk (bB hb BK250.out); replace BK251 := Asd.mk (bB hb BK251.out); replace HB := Asd.mk (bS hb HB.out); clear hb; obtain ⟨hcz77_0, hcz77_1, hcz77_2⟩ := bkC3 BK251.out; obtain ⟨hfz77_0, hfz77_1, hfz77_2⟩ := bkF3 BK251.out))
  repeat (go_quiet (first | ((with_reducible refine gate_dst (N := 2) rfl ?_); refine box_event rfl (N := 2) rfl (cs := #[.int .i64 a0_0, .int .i64 a0_1, .string a0_2]) (t := 23) (by first | (go_simp; done) | (go_simp; rfl)) ?_; intro gb249 hg w68 hbox hb; have BK249 := Asd.mk (hbox); have GW249 := Asd.mk (bZ hg HB.out); have GE249 := GW249; replace HB := Asd.mk (bS hb HB.out); clear hb hbox hg) | ((with_reducible refine gate_dst (N := 3) rfl ?_); refine box_event rfl (N := 3) rfl (cs := #[.int .i64 a1_0, .int .i64 a1_1, .string a1_2]) (t := 23) (by first | (go_simp; done) | (go_simp; rfl)) ?_; intro gb250 hg w69 hbox hb; have BK250 := Asd.mk (hbox); have GW250 := Asd.mk (bZ hg HB.out); have GE250 := GW250; have NB249_250 := Asd.mk (bL hg BK249.out); have NB250_249 := Asd.mk (bG hg BK249.out); replace BK249 := Asd.mk (bB hb BK249.out); replace HB := Asd.mk (bS hb HB.out); clear hb hbox hg) | ((with_reducible refine gate_dst (N := 4) rfl ?_); refine box_event rfl (N := 4) rfl (cs := #[.int .i64 0, .int .i64 0, .string (⟨#[]⟩ : ByteArray)]) (t := 23) (by first | (go_simp; done) | (go_simp; rfl)) ?_; intro gb251 hg w70 hbox hb; have BK251 := Asd.mk (hbox); have GW251 := Asd.mk (bZ hg HB.out); have GE251 := GW251; have NB249_251 := Asd.mk (bL hg BK249.out); have NB251_249 := Asd.mk (bG hg BK249.out); have NB250_251 := Asd.mk (bL hg BK250.out); have NB251_250 := Asd.mk (bG hg BK250.out); replace BK249 := Asd.mk (bB hb BK249.out); replace BK250 := Asd.mk (bB hb BK250.out); replace HB := Asd.mk (bS hb HB.out); clear hb hbox hg; have hnb71 := NB249_250.out; have hnc71 := NB250_249.out; have hnb72 := NB249_251.out; have hnc72 := NB251_249.out; obtain ⟨hcz73_0, hcz73_1, hcz73_2⟩ := bkC3 BK249.out; obtain ⟨hfz73_0, hfz73_1, hfz73_2⟩ := bkF3 BK249.out; have hnb74 := NB250_251.out; have hnc74 := NB251_250.out; obtain ⟨hcz75_0, hcz75_1, hcz75_2⟩ := bkC3 BK250.out; obtain ⟨hfz75_0, hfz75_1, hfz75_2⟩ := bkF3 BK250.out) | (go_at_call 100; (with_reducible refine (q01_of.calls 1 a0_0 a0_1 a0_2 a1_0 a1_1 a1_2 false _ A3.out).mono ?_); rintro e w76 ⟨rfl, hb⟩; replace BK249 := Asd.mk (bB hb BK249.out); replace BK250 := Asd.mk (bB hb BK250.out); replace BK251 := Asd.mk (bB hb BK251.out); replace HB := Asd.mk (bS hb HB.out); clear hb; obtain ⟨hcz77_0, hcz77_1, hcz77_2⟩ := bkC3 BK251.out; obtain ⟨hfz77_0, hfz77_1, hfz77_2⟩ := bkF3 BK251.out)); try go_wp2_with (first | ((with_reducible refine gate_dst (N := 2) rfl ?_); refine box_event rfl (N := 2) rfl (cs := #[.int .i64 a0_0, .int .i64 a0_1, .string a0_2]) (t := 23) (by first | (go_simp; done) | (go_simp; rfl)) ?_; intro gb249 hg w68 hbox hb; have BK249 := Asd.mk (hbox); have GW249 := Asd.mk (bZ hg HB.out); have GE249 := GW249; replace HB := Asd.mk (bS hb HB.out); clear hb hbox hg) | ((with_reducible refine gate_dst (N := 3) rfl ?_); refine box_event rfl (N := 3) rfl (cs := #[.int .i64 a1_0, .int .i64 a1_1, .string a1_2]) (t := 23) (by first | (go_simp; done) | (go_simp; rfl)) ?_; intro gb250 hg w69 hbox hb; have BK250 := Asd.mk (hbox); have GW250 := Asd.mk (bZ hg HB.out); have GE250 := GW250; have NB249_250 := Asd.mk (bL hg BK249.out); have NB250_249 := Asd.mk (bG hg BK249.out); replace BK249 := Asd.mk (bB hb BK249.out); replace HB := Asd.mk (bS hb HB.out); clear hb hbox hg) | ((with_reducible refine gate_dst (N := 4) rfl ?_); refine box_event rfl (N := 4) rfl (cs := #[.int .i64 0, .int .i64 0, .string (⟨#[]⟩ : ByteArray)]) (t := 23) (by first | (go_simp; done) | (go_simp; rfl)) ?_; intro gb251 hg w70 hbox hb; have BK251 := Asd.mk (hbox); have GW251 := Asd.mk (bZ hg HB.out); have GE251 := GW251; have NB249_251 := Asd.mk (bL hg BK249.out); have NB251_249 := Asd.mk (bG hg BK249.out); have NB250_251 := Asd.mk (bL hg BK250.out); have NB251_250 := Asd.mk (bG hg BK250.out); replace BK249 := Asd.mk (bB hb BK249.out); replace BK250 := Asd.mk (bB hb BK250.out); replace HB := Asd.mk (bS hb HB.out); clear hb hbox hg; have hnb71 := NB249_250.out; have hnc71 := NB250_249.out; have hnb72 := NB249_251.out; have hnc72 := NB251_249.out; obtain ⟨hcz73_0, hcz73_1, hcz73_2⟩ := bkC3 BK249.out; obtain ⟨hfz73_0, hfz73_1, hfz73_2⟩ := bkF3 BK249.out; have hnb74 := NB250_251.out; have hnc74 := NB251_250.out; obtain ⟨hcz75_0, hcz75_1, hcz75_2⟩ := bkC3 BK250.out; obtain ⟨hfz75_0, hfz75_1, hfz75_2⟩ := bkF3 BK250.out) | (go_at_call 100; (with_reducible refine (q01_of.calls 1 a0_0 a0_1 a0_2 a1_0 a1_1 a1_2 false _ A3.out).mono ?_); rintro e w76 ⟨rfl, hb⟩; replace BK249 := Asd.mk (bB hb BK249.out); replace BK250 := Asd.mk (bB hb BK250.out); replace BK251 := Asd.mk (bB hb BK251.out); replace HB := Asd.mk (bS hb HB.out); clear hb; obtain ⟨hcz77_0, hcz77_1, hcz77_2⟩ := bkC3 BK251.out; obtain ⟨hfz77_0, hfz77_1, hfz77_2⟩ := bkF3 BK251.out)))
  refine bodyPost_ret (results_ct rfl _ _ gb251 23 #[.int .i64 0, .int .i64 0, .string (⟨#[]⟩ : ByteArray)] (0, 0) _ rfl (by refine blk_put (cs := #[.int .i64 0, .int .i64 0, .string (⟨#[]⟩ : ByteArray)]) ?_ 2 _ rfl; refine blk_put (cs := #[.int .i64 0, .int .i64 0, .string (⟨#[]⟩ : ByteArray)]) ?_ 1 _ rfl; refine blk_put (cs := #[.int .i64 0, .int .i64 0, .string (⟨#[]⟩ : ByteArray)]) ?_ 0 _ rfl; exact BK251.out) Tryd.underlying23 rfl (by kernel_rfl)) rfl ?_
  exact ⟨by first | rfl | (simp [errW_none, errW_some] <;> rfl) | (simp [*, errW_none, errW_some] <;> rfl), by repeat (first | (with_reducible first | exact HB.out | apply blA | apply pbN | apply blD | refine blS ?_ GE249.out | refine blS ?_ GE250.out | refine blS ?_ GE251.out) | exact HB.out)⟩
mutual
def q08_there.j0 : Nat → List (List (S23)) → List (S23) → Bool → Int → Int → Int → ByteArray → Int → Int → Int → ByteArray → List (S26) → Option (Bool)
 | 0, _, _, _, _, _, _, _, _, _, _, _, _ => none
 | k + 1, x1, x2, x41, x347000, x347001, x347002, x347003, x347004, x347005, x347006, x347007, x347008 => if x41 = true then (some false) else (q08_there.l0 k x1 x2 0 x347000 x347001 x347002 x347003 x347004 x347005 x347006 x347007 x347008)
def q08_there.l0 : Nat → List (List (S23)) → List (S23) → Int → Int → Int → Int → ByteArray → Int → Int → Int → ByteArray → List (S26) → Option (Bool)
 | 0, _, _, _, _, _, _, _, _, _, _, _, _ => none
 | k + 1, x1, x2, x7, x347000, x347001, x347002, x347003, x347004, x347005, x347006, x347007, x347008 => if x7 < (x347008.length : Int) then (if 0 ≤ x7 then ((q08_there.f k ((rd_T26 x347008 x7).f0) ((rd_T26 x347008 x7).f1.f0) ((rd_T26 x347008 x7).f1.f1) ((rd_T26 x347008 x7).f1.f2) ((rd_T26 x347008 x7).f2) ((rd_T26 x347008 x7).f3) ((rd_T26 x347008 x7).f4) ((rd_T26 x347008 x7).f5) ((rd_T26 x347008 x7).f6) x1 x2).bind fun t349 => (if t349 = true then (q08_there.l0 k x1 x2 (wrap64 (x7 + 1)) x347000 x347001 x347002 x347003 x347004 x347005 x347006 x347007 x347008) else (some false))) else (none)) else (some true)
def q08_there.f : Nat → Int → Int → Int → ByteArray → Int → Int → Int → ByteArray → List (S26) → List (List (S23)) → List (S23) → Option (Bool)
 | 0, _, _, _, _, _, _, _, _, _, _, _ => none
 | k + 1, a0_0, a0_1, a0_2, a0_3, a0_4, a0_5, a0_6, a0_7, l0_8, l1, l2 => if a0_0 = 2 then (if a0_4 ≥ (l1.length : Int) then (q08_there.j0 k l1 l2 true a0_0 a0_1 a0_2 a0_3 a0_4 a0_5 a0_6 a0_7 l0_8) else (if 0 ≤ a0_4 then (if a0_4 < (l1.length : Int) then (if a0_5 ≥ ((rd_L6 l1 a0_4).length : Int) then (q08_there.j0 k l1 l2 true a0_0 a0_1 a0_2 a0_3 a0_4 a0_5 a0_6 a0_7 l0_8) else (if a0_0 = 3 then (q08_there.j0 k l1 l2 (decide (a0_6 > (l2.length : Int))) a0_0 a0_1 a0_2 a0_3 a0_4 a0_5 a0_6 a0_7 l0_8) else (q08_there.j0 k l1 l2 false a0_0 a0_1 a0_2 a0_3 a0_4 a0_5 a0_6 a0_7 l0_8))) else (none)) else (none))) else (if a0_0 = 3 then (q08_there.j0 k l1 l2 (decide (a0_6 > (l2.length : Int))) a0_0 a0_1 a0_2 a0_3 a0_4 a0_5 a0_6 a0_7 l0_8) else (q08_there.j0 k l1 l2 false a0_0 a0_1 a0_2 a0_3 a0_4 a0_5 a0_6 a0_7 l0_8))
end
set_option maxHeartbeats 8000000 in
set_option maxRecDepth 100000 in
theorem q08_there.calls (k : Nat) : ∀ (a0_0 : Int) (a0_1 : Int) (a0_2 : Int) (a0_3 : ByteArray) (a0_4 : Int) (a0_5 : Int) (a0_6 : Int) (a0_7 : ByteArray) (A0_8 : Option Addr) (c0_8 : Nat) (l0_8 : List (S26)) (A1 : Option Addr) (c1 : Nat) (l1 : List (List (S23))) (A2 : Option Addr) (c2 : Nat) (l2 : List (S23)) (r : Bool) (w : World) (hr0_8 : Kd.C k26 w A0_8 l0_8.length l0_8) (hc0_8 : l0_8.length ≤ c0_8) (hr1 : Kd.C (Kd.slice 23 k23) w A1 l1.length l1) (hc1 : l1.length ≤ c1) (hr2 : Kd.C k23 w A2 l2.length l2) (hc2 : l2.length ≤ c2) (h : q08_there.f k a0_0 a0_1 a0_2 a0_3 a0_4 a0_5 a0_6 a0_7 l0_8 l1 l2 = some r),
  Calls Tryd.prog 45 #[.agg #[.int .i64 a0_0, .int .i64 a0_1, .int .i64 a0_2, .string a0_3, .int .i64 a0_4, .int .i64 a0_5, .int .i64 a0_6, .string a0_7, .slice A0_8 l0_8.length c0_8], .slice A1 l1.length c1, .slice A2 l2.length c2] w fun e w' => e = .returned (.bool r) ∧ Below w.heap.size w w' := by
 induction k using Nat.strongRecOn with
 | _ k ih =>
 intro a0_0 a0_1 a0_2 a0_3 a0_4 a0_5 a0_6 a0_7 A0_8 c0_8 l0_8 A1 c1 l1 A2 c2 l2 r w hr0_8 hc0_8 hr1 hc1 hr2 hc2 h
 cases k with
 | zero => exact absurd h (by simp [q08_there.f])
 | succ k =>
 simp only [q08_there.f] at h
 have hu26 := Tryd.underlying26
 have HR0_8 := Asd.mk hr0_8
 have HC0_8 := Asd.mk hc0_8
 clear hr0_8 hc0_8
 have HR1 := Asd.mk hr1
 have HC1 := Asd.mk hc1
 clear hr1 hc1
 have HR2 := Asd.mk hr2
 have HC2 := Asd.mk hc2
 clear hr2 hc2
 have HB := Asd.mk (Below.refl w.heap.size w)
 have H : (if a0_0 = 2 then (if a0_4 ≥ (l1.length : Int) then (q08_there.j0 k l1 l2 true a0_0 a0_1 a0_2 a0_3 a0_4 a0_5 a0_6 a0_7 l0_8) else (if 0 ≤ a0_4 then (if a0_4 < (l1.length : Int) then (if a0_5 ≥ ((rd_L6 l1 a0_4).length : Int) then (q08_there.j0 k l1 l2 true a0_0 a0_1 a0_2 a0_3 a0_4 a0_5 a0_6 a0_7 l0_8) else (if a0_0 = 3 then (q08_there.j0 k l1 l2 (decide (a0_6 > (l2.length : Int))) a0_0 a0_1 a0_2 a0_3 a0_4 a0_5 a0_6 a0_7 l0_8) else (q08_there.j0 k l1 l2 false a0_0 a0_1 a0_2 a0_3 a0_4 a0_5 a0_6 a0_7 l0_8))) else (none)) else (none))) else (if a0_0 = 3 then (q08_there.j0 k l1 l2 (decide (a0_6 > (l2.length : Int))) a0_0 a0_1 a0_2 a0_3 a0_4 a0_5 a0_6 a0_7 l0_8) else (q08_there.j0 k l1 l2 false a0_0 a0_1 a0_2 a0_3 a0_4 a0_5 a0_6 a0_7 l0_8))) = some r := h
 clear h
 have HC4 := Asd.mk H
 clear H
 go_enter Tryd.func45, Tryd.ntmps45
 go_upto_region 1 with (first | ((with_reducible refine gate_dst (N := 3) rfl ?_); (try (refine gate_guard (by rfl) ?_; dsimp only)); refine box_event rfl (N := 3) rfl (cs := #[.int .i64 a0_0, .int .i64 a0_1, .int .i64 a0_2, .string a0_3, .int .i64 a0_4, .int .i64 a0_5, .int .i64 a0_6, .string a0_7, .slice A0_8 l0_8.length c0_8]) (t := 26) (by first | (go_simp; done) | (go_simp; rfl)) ?_; intro gb346 hg w5 hbox hb; have BK346 := Asd.mk (hbox); have GW346 := Asd.mk (bZ hg HB.out); have GE346 := GW346; replace HB := Asd.mk (bS hb HB.out); clear hb hbox hg))
 repeat (go_quiet (first | ((with_reducible refine gate_dst (N := 3) rfl ?_); (try (refine gate_guard (by rfl) ?_; dsimp only)); refine box_event rfl (N := 3) rfl (cs := #[.int .i64 a0_0, .int .i64 a0_1, .int .i64 a0_2, .string a0_3, .int .i64 a0_4, .int .i64 a0_5, .int .i64 a0_6, .string a0_7, .slice A0_8 l0_8.length c0_8]) (t := 26) (by first | (go_simp; done) | (go_simp; rfl)) ?_; intro gb346 hg w5 hbox hb; have BK346 := Asd.mk (hbox); have GW346 := Asd.mk (bZ hg HB.out); have GE346 := GW346; replace HB := Asd.mk (bS hb HB.out); clear hb hbox hg)); go_upto_region 1 with (first | ((with_reducible refine gate_dst (N := 3) rfl ?_); (try (refine gate_guard (by rfl) ?_; dsimp only)); refine box_event rfl (N := 3) rfl (cs := #[.int .i64 a0_0, .int .i64 a0_1, .int .i64 a0_2, .string a0_3, .int .i64 a0_4, .int .i64 a0_5, .int .i64 a0_6, .string a0_7, .slice A0_8 l0_8.length c0_8]) (t := 26) (by first | (go_simp; done) | (go_simp; rfl)) ?_; intro gb346 hg w5 hbox hb; have BK346 := Asd.mk (hbox); have GW346 := Asd.mk (bZ hg HB.out); have GE346 := GW346; replace HB := Asd.mk (bS hb HB.out); clear hb hbox hg)))
 (try simp only [Act.put, List.setIfInBounds_toArray, List.set_cons_zero, List.set_cons_succ])
 go_cut [41] (fun v41 wc => ∃ (kq : Nat) (x41_3 : Bool), v41 = .bool x41_3 ∧ Asd (q08_there.j0 kq l1 l2 x41_3 a0_0 a0_1 a0_2 a0_3 a0_4 a0_5 a0_6 a0_7 l0_8 = some r) ∧ Asd (kq ≤ k) ∧ Asd (wc.heap[gb346]? = some (.cells #[.int .i64 a0_0, .int .i64 a0_1, .int .i64 a0_2, .string a0_3, .int .i64 a0_4, .int .i64 a0_5, .int .i64 a0_6, .string a0_7, (.slice A0_8 l0_8.length c0_8)] 26 (0, 0))) ∧ Asd (Below w.heap.size w wc))
 case first =>
  have H := HC4.out
  clear HC4
  by_cases c6 : a0_0 = 2
  ·rw [if_pos c6] at H
   have c6b0 : (a0_0 == 2) = true := beq_iff_eq.mpr c6
   have c6b1 : (a0_0 != 2) = false := bne_eq_false_iff_eq.mpr c6
   clear c6
   (first | rw [c6b0] | (simp only [i64_w, i32_w]; rw [c6b0]) | skip)
   by_cases c7 : a0_4 ≥ (l1.length : Int)
   ·rw [if_pos c7] at H
    have c7b0 : decide ((l1.length : Int) ≤ a0_4) = true := decide_eq_true c7
    clear c7
    have H' := Asd.mk H
    clear H
    obtain ⟨hcz8_0, hcz8_1, hcz8_2, hcz8_3, hcz8_4, hcz8_5, hcz8_6, hcz8_7, hcz8_8⟩ := bkC9 BK346.out
    obtain ⟨hfz8_0, hfz8_1, hfz8_2, hfz8_3, hfz8_4, hfz8_5, hfz8_6, hfz8_7, hfz8_8⟩ := bkF9 BK346.out
    go_wp2
    repeat (go_quiet (fail); try go_wp2)
    go_meet
    case rel => exact ⟨_, (true), (by first | rfl | (simp; done) | (simp [*]; done)), H', ⟨by first | omega | exact Nat.le_refl _⟩, ⟨by exact BK346.out⟩, ⟨by repeat (first | (with_reducible first | exact HB.out | apply blA | apply pbN | apply blD | refine blS ?_ GE346.out) | exact HB.out)⟩⟩
   ·rw [if_neg c7] at H
    have c7b0 : decide ((l1.length : Int) ≤ a0_4) = false := decide_eq_false c7
    clear c7
    by_cases c9 : 0 ≤ a0_4
    ·rw [if_pos c9] at H
     have c9b0 : decide (0 ≤ a0_4) = true := decide_eq_true c9
     clear c9
     by_cases c10 : a0_4 < (l1.length : Int)
     ·rw [if_pos c10] at H
      have c10b0 : decide (a0_4 < (l1.length : Int)) = true := decide_eq_true c10
      clear c10
      by_cases c11 : a0_5 ≥ ((rd_L6 l1 a0_4).length : Int)
      ·rw [if_pos c11] at H
       have c11b0 : decide (((rd_L6 l1 a0_4).length : Int) ≤ a0_5) = true := decide_eq_true c11
       clear c11
       have H' := Asd.mk H
       clear H
       obtain ⟨hcz12_0, hcz12_1, hcz12_2, hcz12_3, hcz12_4, hcz12_5, hcz12_6, hcz12_7, hcz12_8⟩ := bkC9 BK346.out
       obtain ⟨hfz12_0, hfz12_1, hfz12_2, hfz12_3, hfz12_4, hfz12_5, hfz12_6, hfz12_7, hfz12_8⟩ := bkF9 BK346.out
       have p347 : 0 ≤ (a0_4 : Int) := of_decide_eq_true (by first | (with_reducible assumption) | assumption)
       have q347 : a0_4 < (l1.length : Int) := of_decide_eq_true (by first | (with_reducible assumption) | assumption)
       obtain ⟨ad347, A347_0, c347_0, e347, hx347_0, hl347_0, hi347_0⟩ := at_L6 HR1.out a0_4 p347 q347
       cases e347
       replace hx347_0 := (HB.out.cell (World.block_lt_of_cell? w _ hx347_0)).trans hx347_0
       have HR347_0 := Asd.mk hi347_0
       have HC347_0 := Asd.mk hl347_0
       clear hi347_0 hl347_0
       replace p347 := eq_true p347
       replace q347 := eq_true q347
       go_wp2
       repeat (go_quiet (fail); try go_wp2)
       go_meet
       case rel => exact ⟨_, (true), (by first | rfl | (simp; done) | (simp [*]; done)), H', ⟨by first | omega | exact Nat.le_refl _⟩, ⟨by exact BK346.out⟩, ⟨by repeat (first | (with_reducible first | exact HB.out | apply blA | apply pbN | apply blD | refine blS ?_ GE346.out) | exact HB.out)⟩⟩
      ·rw [if_neg c11] at H
       have c11b0 : decide (((rd_L6 l1 a0_4).length : Int) ≤ a0_5) = false := decide_eq_false c11
       clear c11
       by_cases c13 : a0_0 = 3
       ·rw [if_pos c13] at H
        have c13b0 : (a0_0 == 3) = true := beq_iff_eq.mpr c13
        have c13b1 : (a0_0 != 3) = false := bne_eq_false_iff_eq.mpr c13
        clear c13
        have H' := Asd.mk H
        clear H
        obtain ⟨hcz14_0, hcz14_1, hcz14_2, hcz14_3, hcz14_4, hcz14_5, hcz14_6, hcz14_7, hcz14_8⟩ := bkC9 BK346.out
        obtain ⟨hfz14_0, hfz14_1, hfz14_2, hfz14_3, hfz14_4, hfz14_5, hfz14_6, hfz14_7, hfz14_8⟩ := bkF9 BK346.out
        have p347 : 0 ≤ (a0_4 : Int) := of_decide_eq_true (by first | (with_reducible assumption) | assumption)
        have q347 : a0_4 < (l1.length : Int) := of_decide_eq_true (by first | (with_reducible assumption) | assumption)
        obtain ⟨ad347, A347_0, c347_0, e347, hx347_0, hl347_0, hi347_0⟩ := at_L6 HR1.out a0_4 p347 q347
        cases e347
        replace hx347_0 := (HB.out.cell (World.block_lt_of_cell? w _ hx347_0)).trans hx347_0
        have HR347_0 := Asd.mk hi347_0
        have HC347_0 := Asd.mk hl347_0
        clear hi347_0 hl347_0
        replace p347 := eq_true p347
        replace q347 := eq_true q347
        go_wp2
        repeat (go_quiet (fail); try go_wp2)
        go_meet
        case rel => exact ⟨_, (decide (a0_6 > (l2.length : Int))), (by first | rfl | (simp; done) | (simp [*]; done)), H', ⟨by first | omega | exact Nat.le_refl _⟩, ⟨by exact BK346.out⟩, ⟨by repeat (first | (with_reducible first | exact HB.out | apply blA | apply pbN | apply blD | refine blS ?_ GE346.out) | exact HB.out)⟩⟩
       ·rw [if_neg c13] at H
        have c13b0 : (a0_0 == 3) = false := beq_eq_false_iff_ne.mpr c13
        have c13b1 : (a0_0 != 3) = true := bne_iff_ne.mpr c13
        have H' := Asd.mk H
        clear H
        obtain ⟨hcz15_0, hcz15_1, hcz15_2, hcz15_3, hcz15_4, hcz15_5, hcz15_6, hcz15_7, hcz15_8⟩ := bkC9 BK346.out
        obtain ⟨hfz15_0, hfz15_1, hfz15_2, hfz15_3, hfz15_4, hfz15_5, hfz15_6, hfz15_7, hfz15_8⟩ := bkF9 BK346.out
        have p347 : 0 ≤ (a0_4 : Int) := of_decide_eq_true (by first | (with_reducible assumption) | assumption)
        have q347 : a0_4 < (l1.length : Int) := of_decide_eq_true (by first | (with_reducible assumption) | assumption)
        obtain ⟨ad347, A347_0, c347_0, e347, hx347_0, hl347_0, hi347_0⟩ := at_L6 HR1.out a0_4 p347 q347
        cases e347
        replace hx347_0 := (HB.out.cell (World.block_lt_of_cell? w _ hx347_0)).trans hx347_0
        have HR347_0 := Asd.mk hi347_0
        have HC347_0 := Asd.mk hl347_0
        clear hi347_0 hl347_0
        replace p347 := eq_true p347
        replace q347 := eq_true q347
        go_wp2
        repeat (go_quiet (fail); try go_wp2)
        go_meet
        case rel => exact ⟨_, (false), (by first | rfl | (simp; done) | (simp [*]; done)), H', ⟨by first | omega | exact Nat.le_refl _⟩, ⟨by exact BK346.out⟩, ⟨by repeat (first | (with_reducible first | exact HB.out | apply blA | apply pbN | apply blD | refine blS ?_ GE346.out) | exact HB.out)⟩⟩
     ·rw [if_neg c10] at H
      exact absurd H (by simp)
    ·rw [if_neg c9] at H
     exact absurd H (by simp)
  ·rw [if_neg c6] at H
   have c6b0 : (a0_0 == 2) = false := beq_eq_false_iff_ne.mpr c6
   have c6b1 : (a0_0 != 2) = true := bne_iff_ne.mpr c6
   (first | rw [c6b0] | (simp only [i64_w, i32_w]; rw [c6b0]) | skip)
   by_cases c16 : a0_0 = 3
   ·rw [if_pos c16] at H
    have c16b0 : (a0_0 == 3) = true := beq_iff_eq.mpr c16
    have c16b1 : (a0_0 != 3) = false := bne_eq_false_iff_eq.mpr c16
    clear c16
    have H' := Asd.mk H
    clear H
    obtain ⟨hcz17_0, hcz17_1, hcz17_2, hcz17_3, hcz17_4, hcz17_5, hcz17_6, hcz17_7, hcz17_8⟩ := bkC9 BK346.out
    obtain ⟨hfz17_0, hfz17_1, hfz17_2, hfz17_3, hfz17_4, hfz17_5, hfz17_6, hfz17_7, hfz17_8⟩ := bkF9 BK346.out
    go_wp2
    repeat (go_quiet (fail); try go_wp2)
    go_meet
    case rel => exact ⟨_, (decide (a0_6 > (l2.length : Int))), (by first | rfl | (simp; done) | (simp [*]; done)), H', ⟨by first | omega | exact Nat.le_refl _⟩, ⟨by exact BK346.out⟩, ⟨by repeat (first | (with_reducible first | exact HB.out | apply blA | apply pbN | apply blD | refine blS ?_ GE346.out) | exact HB.out)⟩⟩
   ·rw [if_neg c16] at H
    have c16b0 : (a0_0 == 3) = false := beq_eq_false_iff_ne.mpr c16
    have c16b1 : (a0_0 != 3) = true := bne_iff_ne.mpr c16
    have H' := Asd.mk H
    clear H
    obtain ⟨hcz18_0, hcz18_1, hcz18_2, hcz18_3, hcz18_4, hcz18_5, hcz18_6, hcz18_7, hcz18_8⟩ := bkC9 BK346.out
    obtain ⟨hfz18_0, hfz18_1, hfz18_2, hfz18_3, hfz18_4, hfz18_5, hfz18_6, hfz18_7, hfz18_8⟩ := bkF9 BK346.out
    go_wp2
    repeat (go_quiet (fail); try go_wp2)
    go_meet
    case rel => exact ⟨_, (false), (by first | rfl | (simp; done) | (simp [*]; done)), H', ⟨by first | omega | exact Nat.le_refl _⟩, ⟨by exact BK346.out⟩, ⟨by repeat (first | (with_reducible first | exact HB.out | apply blA | apply pbN | apply blD | refine blS ?_ GE346.out) | exact HB.out)⟩⟩
 case rest =>
  clear HC4
  try clear c1
  try clear c2
  try clear p2
  try clear c3
  try clear p3
  try clear q3
  try clear hx3
  try clear c4
  try clear c6
  try clear c6b0
  try clear c6b1
  try clear c7
  try clear c7b0
  try clear c9
  try clear c9b0
  try clear c10
  try clear c10b0
  try clear c11
  try clear c11b0
  try clear c13
  try clear c13b0
  try clear c13b1
  try clear c16
  try clear c16b0
  try clear c16b1
  try clear hcz12_0
  try clear hcz12_1
  try clear hcz12_2
  try clear hcz12_3
  try clear hcz12_4
  try clear hcz12_5
  try clear hcz12_6
  try clear hcz12_7
  try clear hcz12_8
  try clear hcz14_0
  try clear hcz14_1
  try clear hcz14_2
  try clear hcz14_3
  try clear hcz14_4
  try clear hcz14_5
  try clear hcz14_6
  try clear hcz14_7
  try clear hcz14_8
  try clear hcz15_0
  try clear hcz15_1
  try clear hcz15_2
  try clear hcz15_3
  try clear hcz15_4
  try clear hcz15_5
  try clear hcz15_6
  try clear hcz15_7
  try clear hcz15_8
  try clear hcz17_0
  try clear hcz17_1
  try clear hcz17_2
  try clear hcz17_3
  try clear hcz17_4
  try clear hcz17_5
  try clear hcz17_6
  try clear hcz17_7
  try clear hcz17_8
  try clear hcz18_0
  try clear hcz18_1
  try clear hcz18_2
  try clear hcz18_3
  try clear hcz18_4
  try clear hcz18_5
  try clear hcz18_6
  try clear hcz18_7
  try clear hcz18_8
  try clear hcz8_0
  try clear hcz8_1
  try clear hcz8_2
  try clear hcz8_3
  try clear hcz8_4
  try clear hcz8_5
  try clear hcz8_6
  try clear hcz8_7
  try clear hcz8_8
  try clear hfz12_0
  try clear hfz12_1
  try clear hfz12_2
  try clear hfz12_3
  try clear hfz12_4
  try clear hfz12_5
  try clear hfz12_6
  try clear hfz12_7
  try clear hfz12_8
  try clear hfz14_0
  try clear hfz14_1
  try clear hfz14_2
  try clear hfz14_3
  try clear hfz14_4
  try clear hfz14_5
  try clear hfz14_6
  try clear hfz14_7
  try clear hfz14_8
  try clear hfz15_0
  try clear hfz15_1
  try clear hfz15_2
  try clear hfz15_3
  try clear hfz15_4
  try clear hfz15_5
  try clear hfz15_6
  try clear hfz15_7
  try clear hfz15_8
  try clear hfz17_0
  try clear hfz17_1
  try clear hfz17_2
  try clear hfz17_3
  try clear hfz17_4
  try clear hfz17_5
  try clear hfz17_6
  try clear hfz17_7
  try clear hfz17_8
  try clear hfz18_0
  try clear hfz18_1
  try clear hfz18_2
  try clear hfz18_3
  try clear hfz18_4
  try clear hfz18_5
  try clear hfz18_6
  try clear hfz18_7
  try clear hfz18_8
  try clear hfz8_0
  try clear hfz8_1
  try clear hfz8_2
  try clear hfz8_3
  try clear hfz8_4
  try clear hfz8_5
  try clear hfz8_6
  try clear hfz8_7
  try clear hfz8_8
  try clear hx347_0
  try clear p347
  try clear q347
  obtain ⟨kq, x41_3, rfl, HA, HJ3, BK346, HB⟩ := hcut
  cases kq with
  | zero => exact absurd HA.out (by simp [q08_there.j0])
  | succ kj3 =>
   have H := HA.out
   clear HA
   simp only [q08_there.j0] at H
   by_cases c19 : x41_3 = true
   ·subst c19
    have H1 : (some false) = some r := by rw [if_pos rfl] at H; exact H
    clear H
    have H := H1
    clear H1
    obtain rfl := Option.some.inj H
    go_wp2
    repeat (go_quiet (fail); try go_wp2)
    go_ret
    exact ⟨by first | rfl | (simp [errW_none, errW_some] <;> rfl) | (simp [*, errW_none, errW_some] <;> rfl), by repeat (first | (with_reducible first | exact HB.out | apply blA | apply pbN | apply blD | refine blS ?_ GE346.out) | exact HB.out)⟩
   ·replace c19 := Bool.eq_false_iff.mpr c19
    subst c19
    have H1 : (q08_there.l0 kj3 l1 l2 0 a0_0 a0_1 a0_2 a0_3 a0_4 a0_5 a0_6 a0_7 l0_8) = some r := by rw [if_neg (show ¬ (false = true) by decide)] at H; exact H
    clear H
    have H := H1
    clear H1
    have H' := Asd.mk H
    clear H
    go_wp2
    repeat (go_quiet (fail); try go_wp2)
    go_loopg [7] kj3 (fun kq v7 w' => ∃ (x7_2 : Int), v7 = .int .i64 x7_2 ∧ Asd (q08_there.l0 kq l1 l2 x7_2 a0_0 a0_1 a0_2 a0_3 a0_4 a0_5 a0_6 a0_7 l0_8 = some r) ∧ Asd (kq ≤ kj3) ∧ Asd (w'.heap[gb346]? = some (.cells #[.int .i64 a0_0, .int .i64 a0_1, .int .i64 a0_2, .string a0_3, .int .i64 a0_4, .int .i64 a0_5, .int .i64 a0_6, .string a0_7, (.slice A0_8 l0_8.length c0_8)] 26 (0, 0))) ∧ Asd (Below w.heap.size w w'))
    case atStart => exact ⟨(0), (by first | rfl | (simp; done) | (simp [*]; done)), H', ⟨Nat.le_refl _⟩, ⟨by exact BK346.out⟩, ⟨by repeat (first | (with_reducible first | exact HB.out | apply blA | apply pbN | apply blD | refine blS ?_ GE346.out) | exact HB.out)⟩⟩
    case round =>
     clear H'
     try clear c1
     try clear c2
     try clear p2
     try clear c3
     try clear p3
     try clear q3
     try clear hx3
     try clear c4
     try clear c6
     try clear c6b0
     try clear c6b1
     try clear c7
     try clear c7b0
     try clear c9
     try clear c9b0
     try clear c10
     try clear c10b0
     try clear c11
     try clear c11b0
     try clear c13
     try clear c13b0
     try clear c13b1
     try clear c16
     try clear c16b0
     try clear c16b1
     try clear c19
     try clear hcz12_0
     try clear hcz12_1
     try clear hcz12_2
     try clear hcz12_3
     try clear hcz12_4
     try clear hcz12_5
     try clear hcz12_6
     try clear hcz12_7
     try clear hcz12_8
     try clear hcz14_0
     try clear hcz14_1
     try clear hcz14_2
     try clear hcz14_3
     try clear hcz14_4
     try clear hcz14_5
     try clear hcz14_6
     try clear hcz14_7
     try clear hcz14_8
     try clear hcz15_0
     try clear hcz15_1
     try clear hcz15_2
     try clear hcz15_3
     try clear hcz15_4
     try clear hcz15_5
     try clear hcz15_6
     try clear hcz15_7
     try clear hcz15_8
     try clear hcz17_0
     try clear hcz17_1
     try clear hcz17_2
     try clear hcz17_3
     try clear hcz17_4
     try clear hcz17_5
     try clear hcz17_6
     try clear hcz17_7
     try clear hcz17_8
     try clear hcz18_0
     try clear hcz18_1
     try clear hcz18_2
     try clear hcz18_3
     try clear hcz18_4
     try clear hcz18_5
     try clear hcz18_6
     try clear hcz18_7
     try clear hcz18_8
     try clear hcz8_0
     try clear hcz8_1
     try clear hcz8_2
     try clear hcz8_3
     try clear hcz8_4
     try clear hcz8_5
     try clear hcz8_6
     try clear hcz8_7
     try clear hcz8_8
     try clear hfz12_0
     try clear hfz12_1
     try clear hfz12_2
     try clear hfz12_3
     try clear hfz12_4
     try clear hfz12_5
     try clear hfz12_6
     try clear hfz12_7
     try clear hfz12_8
     try clear hfz14_0
     try clear hfz14_1
     try clear hfz14_2
     try clear hfz14_3
     try clear hfz14_4
     try clear hfz14_5
     try clear hfz14_6
     try clear hfz14_7
     try clear hfz14_8
     try clear hfz15_0
     try clear hfz15_1
     try clear hfz15_2
     try clear hfz15_3
     try clear hfz15_4
     try clear hfz15_5
     try clear hfz15_6
     try clear hfz15_7
     try clear hfz15_8
     try clear hfz17_0
     try clear hfz17_1
     try clear hfz17_2
     try clear hfz17_3
     try clear hfz17_4
     try clear hfz17_5
     try clear hfz17_6
     try clear hfz17_7
     try clear hfz17_8
     try clear hfz18_0
     try clear hfz18_1
     try clear hfz18_2
     try clear hfz18_3
     try clear hfz18_4
     try clear hfz18_5
     try clear hfz18_6
     try clear hfz18_7
     try clear hfz18_8
     try clear hfz8_0
     try clear hfz8_1
     try clear hfz8_2
     try clear hfz8_3
     try clear hfz8_4
     try clear hfz8_5
     try clear hfz8_6
     try clear hfz8_7
     try clear hfz8_8
     try clear hx347_0
     try clear p2
     try clear p3
     try clear p347
     try clear q3
     try clear q347
     obtain ⟨x7_2, rfl, HA, HK2, BK346, HB⟩ := hrel
     cases gk with
     | zero => exact absurd HA.out (by simp [q08_there.l0])
     | succ k2 =>
      have H := HA.out
      clear HA
      simp only [q08_there.l0] at H
      by_cases c20 : x7_2 < (l0_8.length : Int)
      ·rw [if_pos c20] at H
       have c20b0 : decide (x7_2 < (l0_8.length : Int)) = true := decide_eq_true c20
       clear c20
       by_cases c21 : 0 ≤ x7_2
       ·rw [if_pos c21] at H
        have c21b0 : decide (0 ≤ x7_2) = true := decide_eq_true c21
        clear c21
        replace H := Option.bind_eq_some_iff.mp H
        obtain ⟨t349, A220, H⟩ := H
        replace H : (if t349 = true then (q08_there.l0 k2 l1 l2 (wrap64 (x7_2 + 1)) a0_0 a0_1 a0_2 a0_3 a0_4 a0_5 a0_6 a0_7 l0_8) else (some false)) = some r := H
        have A22 := Asd.mk A220
        clear A220
        by_cases c23 : t349 = true
        ·subst c23
         have H1 : (q08_there.l0 k2 l1 l2 (wrap64 (x7_2 + 1)) a0_0 a0_1 a0_2 a0_3 a0_4 a0_5 a0_6 a0_7 l0_8) = some r := by rw [if_pos rfl] at H; exact H
         clear H
         have H := H1
         clear H1
         have H' := Asd.mk H
         clear H
         obtain ⟨hcz24_0, hcz24_1, hcz24_2, hcz24_3, hcz24_4, hcz24_5, hcz24_6, hcz24_7, hcz24_8⟩ := bkC9 BK346.out
         obtain ⟨hfz24_0, hfz24_1, hfz24_2, hfz24_3, hfz24_4, hfz24_5, hfz24_6, hfz24_7, hfz24_8⟩ := bkF9 BK346.out
         have p348 : 0 ≤ (x7_2 : Int) := of_decide_eq_true (by first | (with_reducible assumption) | assumption)
         have q348 : x7_2 < (l0_8.length : Int) := of_decide_eq_true (by first | (with_reducible assumption) | assumption)
         obtain ⟨ad348, A348_8, c348_8, e348, hx348_0, hx348_1, hx348_2, hx348_3, hx348_4, hx348_5, hx348_6, hx348_7, hx348_8, hl348_8, hi348_8⟩ := at_T26 HR0_8.out x7_2 p348 q348
         cases e348
         replace hx348_0 := (HB.out.cell (World.block_lt_of_cell? w _ hx348_0)).trans hx348_0
         replace hx348_1 := (HB.out.cell (World.block_lt_of_cell? w _ hx348_1)).trans hx348_1
         replace hx348_2 := (HB.out.cell (World.block_lt_of_cell? w _ hx348_2)).trans hx348_2
         replace hx348_3 := (HB.out.cell (World.block_lt_of_cell? w _ hx348_3)).trans hx348_3
         replace hx348_4 := (HB.out.cell (World.block_lt_of_cell? w _ hx348_4)).trans hx348_4
         replace hx348_5 := (HB.out.cell (World.block_lt_of_cell? w _ hx348_5)).trans hx348_5
         replace hx348_6 := (HB.out.cell (World.block_lt_of_cell? w _ hx348_6)).trans hx348_6
         replace hx348_7 := (HB.out.cell (World.block_lt_of_cell? w _ hx348_7)).trans hx348_7
         replace hx348_8 := (HB.out.cell (World.block_lt_of_cell? w _ hx348_8)).trans hx348_8
         have HR348_8 := Asd.mk hi348_8
         have HC348_8 := Asd.mk hl348_8
         clear hi348_8 hl348_8
         replace p348 := eq_true p348
         replace q348 := eq_true q348
         go_wp2_with (first | (go_at_call 45; (with_reducible refine (ih k2 (by have := HJ3.out; have := HK2.out; omega) ((rd_T26 l0_8 x7_2).f0) ((rd_T26 l0_8 x7_2).f1.f0) ((rd_T26 l0_8 x7_2).f1.f1) ((rd_T26 l0_8 x7_2).f1.f2) ((rd_T26 l0_8 x7_2).f2) ((rd_T26 l0_8 x7_2).f3) ((rd_T26 l0_8 x7_2).f4) ((rd_T26 l0_8 x7_2).f5) _ _ ((rd_T26 l0_8 x7_2).f6) _ _ l1 _ _ l2 true _ ?side1 ?side2 ?side3 ?side4 ?side5 ?side6 A22.out).mono ?_); (case side1 => repeat (first | exact (Kd.C_below HR348_8.out HB.out) | (with_reducible refine Kd.C_alloc ?_ _) | (with_reducible refine Kd.C_drewN ?_ _) | (with_reducible refine Kd.C_drew ?_))); (case side2 => exact HC348_8.out); (case side3 => repeat (first | exact (Kd.C_below HR1.out HB.out) | (with_reducible refine Kd.C_alloc ?_ _) | (with_reducible refine Kd.C_drewN ?_ _) | (with_reducible refine Kd.C_drew ?_))); (case side4 => exact HC1.out); (case side5 => repeat (first | exact (Kd.C_below HR2.out HB.out) | (with_reducible refine Kd.C_alloc ?_ _) | (with_reducible refine Kd.C_drewN ?_ _) | (with_reducible refine Kd.C_drew ?_))); (case side6 => exact HC2.out); rintro e w25 ⟨rfl, hb⟩; replace BK346 := Asd.mk (bB hb BK346.out); replace HB := Asd.mk (bS hb HB.out); clear hb))
         repeat (go_quiet (first | (go_at_call 45; (with_reducible refine (ih k2 (by have := HJ3.out; have := HK2.out; omega) ((rd_T26 l0_8 x7_2).f0) ((rd_T26 l0_8 x7_2).f1.f0) ((rd_T26 l0_8 x7_2).f1.f1) ((rd_T26 l0_8 x7_2).f1.f2) ((rd_T26 l0_8 x7_2).f2) ((rd_T26 l0_8 x7_2).f3) ((rd_T26 l0_8 x7_2).f4) ((rd_T26 l0_8 x7_2).f5) _ _ ((rd_T26 l0_8 x7_2).f6) _ _ l1 _ _ l2 true _ ?side1 ?side2 ?side3 ?side4 ?side5 ?side6 A22.out).mono ?_); (case side1 => repeat (first | exact (Kd.C_below HR348_8.out HB.out) | (with_reducible refine Kd.C_alloc ?_ _) | (with_reducible refine Kd.C_drewN ?_ _) | (with_reducible refine Kd.C_drew ?_))); (case side2 => exact HC348_8.out); (case side3 => repeat (first | exact (Kd.C_below HR1.out HB.out) | (with_reducible refine Kd.C_alloc ?_ _) | (with_reducible refine Kd.C_drewN ?_ _) | (with_reducible refine Kd.C_drew ?_))); (case side4 => exact HC1.out); (case side5 => repeat (first | exact (Kd.C_below HR2.out HB.out) | (with_reducible refine Kd.C_alloc ?_ _) | (with_reducible refine Kd.C_drewN ?_ _) | (with_reducible refine Kd.C_drew ?_))); (case side6 => exact HC2.out); rintro e w25 ⟨rfl, hb⟩; replace BK346 := Asd.mk (bB hb BK346.out); replace HB := Asd.mk (bS hb HB.out); clear hb)); try go_wp2_with (first | (go_at_call 45; (with_reducible refine (ih k2 (by have := HJ3.out; have := HK2.out; omega) ((rd_T26 l0_8 x7_2).f0) ((rd_T26 l0_8 x7_2).f1.f0) ((rd_T26 l0_8 x7_2).f1.f1) ((rd_T26 l0_8 x7_2).f1.f2) ((rd_T26 l0_8 x7_2).f2) ((rd_T26 l0_8 x7_2).f3) ((rd_T26 l0_8 x7_2).f4) ((rd_T26 l0_8 x7_2).f5) _ _ ((rd_T26 l0_8 x7_2).f6) _ _ l1 _ _ l2 true _ ?side1 ?side2 ?side3 ?side4 ?side5 ?side6 A22.out).mono ?_); (case side1 => repeat (first | exact (Kd.C_below HR348_8.out HB.out) | (with_reducible refine Kd.C_alloc ?_ _) | (with_reducible refine Kd.C_drewN ?_ _) | (with_reducible refine Kd.C_drew ?_))); (case side2 => exact HC348_8.out); (case side3 => repeat (first | exact (Kd.C_below HR1.out HB.out) | (with_reducible refine Kd.C_alloc ?_ _) | (with_reducible refine Kd.C_drewN ?_ _) | (with_reducible refine Kd.C_drew ?_))); (case side4 => exact HC1.out); (case side5 => repeat (first | exact (Kd.C_below HR2.out HB.out) | (with_reducible refine Kd.C_alloc ?_ _) | (with_reducible refine Kd.C_drewN ?_ _) | (with_reducible refine Kd.C_drew ?_))); (case side6 => exact HC2.out); rintro e w25 ⟨rfl, hb⟩; replace BK346 := Asd.mk (bB hb BK346.out); replace HB := Asd.mk (bS hb HB.out); clear hb)))
         go_roundg k2
         case measure => have := HJ3.out; have := HK2.out; omega
         case rel => exact ⟨(wrap64 (x7_2 + 1)), (by first | rfl | (simp; done) | (simp [*]; done)), H', ⟨by have := HJ3.out; have := HK2.out; omega⟩, ⟨by exact BK346.out⟩, ⟨by repeat (first | (with_reducible first | exact HB.out | apply blA | apply pbN | apply blD | refine blS ?_ GE346.out) | exact HB.out)⟩⟩
        ·replace c23 := Bool.eq_false_iff.mpr c23
         subst c23
         have H1 : (some false) = some r := by rw [if_neg (show ¬ (false = true) by decide)] at H; exact H
         clear H
         have H := H1
         clear H1
         obtain rfl := Option.some.inj H
         obtain ⟨hcz26_0, hcz26_1, hcz26_2, hcz26_3, hcz26_4, hcz26_5, hcz26_6, hcz26_7, hcz26_8⟩ := bkC9 BK346.out
         obtain ⟨hfz26_0, hfz26_1, hfz26_2, hfz26_3, hfz26_4, hfz26_5, hfz26_6, hfz26_7, hfz26_8⟩ := bkF9 BK346.out
         have p348 : 0 ≤ (x7_2 : Int) := of_decide_eq_true (by first | (with_reducible assumption) | assumption)
         have q348 : x7_2 < (l0_8.length : Int) := of_decide_eq_true (by first | (with_reducible assumption) | assumption)
         obtain ⟨ad348, A348_8, c348_8, e348, hx348_0, hx348_1, hx348_2, hx348_3, hx348_4, hx348_5, hx348_6, hx348_7, hx348_8, hl348_8, hi348_8⟩ := at_T26 HR0_8.out x7_2 p348 q348
         cases e348
         replace hx348_0 := (HB.out.cell (World.block_lt_of_cell? w _ hx348_0)).trans hx348_0
         replace hx348_1 := (HB.out.cell (World.block_lt_of_cell? w _ hx348_1)).trans hx348_1
         replace hx348_2 := (HB.out.cell (World.block_lt_of_cell? w _ hx348_2)).trans hx348_2
         replace hx348_3 := (HB.out.cell (World.block_lt_of_cell? w _ hx348_3)).trans hx348_3
         replace hx348_4 := (HB.out.cell (World.block_lt_of_cell? w _ hx348_4)).trans hx348_4
         replace hx348_5 := (HB.out.cell (World.block_lt_of_cell? w _ hx348_5)).trans hx348_5
         replace hx348_6 := (HB.out.cell (World.block_lt_of_cell? w _ hx348_6)).trans hx348_6
         replace hx348_7 := (HB.out.cell (World.block_lt_of_cell? w _ hx348_7)).trans hx348_7
         replace hx348_8 := (HB.out.cell (World.block_lt_of_cell? w _ hx348_8)).trans hx348_8
         have HR348_8 := Asd.mk hi348_8
         have HC348_8 := Asd.mk hl348_8
         clear hi348_8 hl348_8
         replace p348 := eq_true p348
         replace q348 := eq_true q348
         go_wp2_with (first | (go_at_call 45; (with_reducible refine (ih k2 (by have := HJ3.out; have := HK2.out; omega) ((rd_T26 l0_8 x7_2).f0) ((rd_T26 l0_8 x7_2).f1.f0) ((rd_T26 l0_8 x7_2).f1.f1) ((rd_T26 l0_8 x7_2).f1.f2) ((rd_T26 l0_8 x7_2).f2) ((rd_T26 l0_8 x7_2).f3) ((rd_T26 l0_8 x7_2).f4) ((rd_T26 l0_8 x7_2).f5) _ _ ((rd_T26 l0_8 x7_2).f6) _ _ l1 _ _ l2 false _ ?side1 ?side2 ?side3 ?side4 ?side5 ?side6 A22.out).mono ?_); (case side1 => repeat (first | exact (Kd.C_below HR348_8.out HB.out) | (with_reducible refine Kd.C_alloc ?_ _) | (with_reducible refine Kd.C_drewN ?_ _) | (with_reducible refine Kd.C_drew ?_))); (case side2 => exact HC348_8.out); (case side3 => repeat (first | exact (Kd.C_below HR1.out HB.out) | (with_reducible refine Kd.C_alloc ?_ _) | (with_reducible refine Kd.C_drewN ?_ _) | (with_reducible refine Kd.C_drew ?_))); (case side4 => exact HC1.out); (case side5 => repeat (first | exact (Kd.C_below HR2.out HB.out) | (with_reducible refine Kd.C_alloc ?_ _) | (with_reducible refine Kd.C_drewN ?_ _) | (with_reducible refine Kd.C_drew ?_))); (case side6 => exact HC2.out); rintro e w27 ⟨rfl, hb⟩; replace BK346 := Asd.mk (bB hb BK346.out); replace HB := Asd.mk (bS hb HB.out); clear hb))
         repeat (go_quiet (first | (go_at_call 45; (with_reducible refine (ih k2 (by have := HJ3.out; have := HK2.out; omega) ((rd_T26 l0_8 x7_2).f0) ((rd_T26 l0_8 x7_2).f1.f0) ((rd_T26 l0_8 x7_2).f1.f1) ((rd_T26 l0_8 x7_2).f1.f2) ((rd_T26 l0_8 x7_2).f2) ((rd_T26 l0_8 x7_2).f3) ((rd_T26 l0_8 x7_2).f4) ((rd_T26 l0_8 x7_2).f5) _ _ ((rd_T26 l0_8 x7_2).f6) _ _ l1 _ _ l2 false _ ?side1 ?side2 ?side3 ?side4 ?side5 ?side6 A22.out).mono ?_); (case side1 => repeat (first | exact (Kd.C_below HR348_8.out HB.out) | (with_reducible refine Kd.C_alloc ?_ _) | (with_reducible refine Kd.C_drewN ?_ _) | (with_reducible refine Kd.C_drew ?_))); (case side2 => exact HC348_8.out); (case side3 => repeat (first | exact (Kd.C_below HR1.out HB.out) | (with_reducible refine Kd.C_alloc ?_ _) | (with_reducible refine Kd.C_drewN ?_ _) | (with_reducible refine Kd.C_drew ?_))); (case side4 => exact HC1.out); (case side5 => repeat (first | exact (Kd.C_below HR2.out HB.out) | (with_reducible refine Kd.C_alloc ?_ _) | (with_reducible refine Kd.C_drewN ?_ _) | (with_reducible refine Kd.C_drew ?_))); (case side6 => exact HC2.out); rintro e w27 ⟨rfl, hb⟩; replace BK346 := Asd.mk (bB hb BK346.out); replace HB := Asd.mk (bS hb HB.out); clear hb)); try go_wp2_with (first | (go_at_call 45; (with_reducible refine (ih k2 (by have := HJ3.out; have := HK2.out; omega) ((rd_T26 l0_8 x7_2).f0) ((rd_T26 l0_8 x7_2).f1.f0) ((rd_T26 l0_8 x7_2).f1.f1) ((rd_T26 l0_8 x7_2).f1.f2) ((rd_T26 l0_8 x7_2).f2) ((rd_T26 l0_8 x7_2).f3) ((rd_T26 l0_8 x7_2).f4) ((rd_T26 l0_8 x7_2).f5) _ _ ((rd_T26 l0_8 x7_2).f6) _ _ l1 _ _ l2 false _ ?side1 ?side2 ?side3 ?side4 ?side5 ?side6 A22.out).mono ?_); (case side1 => repeat (first | exact (Kd.C_below HR348_8.out HB.out) | (with_reducible refine Kd.C_alloc ?_ _) | (with_reducible refine Kd.C_drewN ?_ _) | (with_reducible refine Kd.C_drew ?_))); (case side2 => exact HC348_8.out); (case side3 => repeat (first | exact (Kd.C_below HR1.out HB.out) | (with_reducible refine Kd.C_alloc ?_ _) | (with_reducible refine Kd.C_drewN ?_ _) | (with_reducible refine Kd.C_drew ?_))); (case side4 => exact HC1.out); (case side5 => repeat (first | exact (Kd.C_below HR2.out HB.out) | (with_reducible refine Kd.C_alloc ?_ _) | (with_reducible refine Kd.C_drewN ?_ _) | (with_reducible refine Kd.C_drew ?_))); (case side6 => exact HC2.out); rintro e w27 ⟨rfl, hb⟩; replace BK346 := Asd.mk (bB hb BK346.out); replace HB := Asd.mk (bS hb HB.out); clear hb)))
         go_ret
         exact ⟨by first | rfl | (simp [errW_none, errW_some] <;> rfl) | (simp [*, errW_none, errW_some] <;> rfl), by repeat (first | (with_reducible first | exact HB.out | apply blA | apply pbN | apply blD | refine blS ?_ GE346.out) | exact HB.out)⟩
       ·rw [if_neg c21] at H
        exact absurd H (by simp)
      ·rw [if_neg c20] at H
       have c20b0 : decide (x7_2 < (l0_8.length : Int)) = false := decide_eq_false c20
       clear c20
       obtain rfl := Option.some.inj H
       obtain ⟨hcz28_0, hcz28_1, hcz28_2, hcz28_3, hcz28_4, hcz28_5, hcz28_6, hcz28_7, hcz28_8⟩ := bkC9 BK346.out
       obtain ⟨hfz28_0, hfz28_1, hfz28_2, hfz28_3, hfz28_4, hfz28_5, hfz28_6, hfz28_7, hfz28_8⟩ := bkF9 BK346.out
       go_wp2
       repeat (go_quiet (fail); try go_wp2)
       go_ret
       exact ⟨by first | rfl | (simp [errW_none, errW_some] <;> rfl) | (simp [*, errW_none, errW_some] <;> rfl), by repeat (first | (with_reducible first | exact HB.out | apply blA | apply pbN | apply blD | refine blS ?_ GE346.out) | exact HB.out)⟩
end Go.Proofs.YtkboodfnegedaaaDoor.E
