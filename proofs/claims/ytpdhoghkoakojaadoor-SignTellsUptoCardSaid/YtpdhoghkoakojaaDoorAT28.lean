/- Contracts and plain lemmas of the functions that the law reaches, part 28. -/
import Derived.Test.YtpdhoghkoakojaaDoorAT3
import Derived.Test.YtpdhoghkoakojaaDoorAT16
import Derived.Test.YtpdhoghkoakojaaDoorAT24
import Derived.Test.YtpdhoghkoakojaaDoorAT26
import Derived.Test.YtpdhoghkoakojaaDoorAT27
namespace Go.Proofs.YtpdhoghkoakojaaDoor.E
open Go.RowKit Go.Proofs.YtpdhoghkoakojaaDoorW.PrintWords Go.Proofs.YtpdhoghkoakojaaDoorW.PrintLast Go.Proofs.YtpdhoghkoakojaaDoorW.PrintMore
attribute [local go_sem] max2_int min2_int max_two min_two max_three min_three max_four min_four   -- for this text's walks alone
set_option linter.unusedVariables false
set_option linter.unusedSimpArgs false
mutual
def q12_Of.j0 : Nat → Int → Bool → List Int → Int → List Int → List (S26) → List (S26) → List (S26) → List (S26) → Bool → List (S26) → List (S144) → Bool → Option (ByteArray × Bool)
 | 0, _, _, _, _, _, _, _, _, _, _, _, _, _ => none
 | k + 1, x1, x40, x288000, x288001, x288002, x288003, x288004, x288005, x288006, x288007, x288008, x288009, x288010 => if x40 = true then (some ((⟨#[]⟩ : ByteArray), false)) else ((q12_Conds.f k x288004).bind fun bt288 => (if bt288.2 = true then (q12_Of.l0 k x1 (⟨#[83]⟩ : ByteArray) 0 x288000 x288001 x288002 x288003 x288004 x288005 x288006 x288007 x288008 x288009 x288010) else (some ((⟨#[]⟩ : ByteArray), false))))
def q12_Of.l0 : Nat → Int → ByteArray → Int → List Int → Int → List Int → List (S26) → List (S26) → List (S26) → List (S26) → Bool → List (S26) → List (S144) → Bool → Option (ByteArray × Bool)
 | 0, _, _, _, _, _, _, _, _, _, _, _, _, _, _ => none
 | k + 1, x1, x8, x9, x288000, x288001, x288002, x288003, x288004, x288005, x288006, x288007, x288008, x288009, x288010 => if x9 < x288001 then (if 0 ≤ x9 then (if (Go.bits .and .i64 (shr .i64 x1 x9) 1) = 1 then (if x9 < (x288000.length : Int) then ((q08_Digits.f k (rd x288000 x9)).bind fun t293 => (if x8.size + t293.size ≤ 9223372036854775807 then (if (x8 ++ t293).size + 1 ≤ 9223372036854775807 then (q12_Of.l0 k x1 ((x8 ++ t293) ++ (⟨#[32]⟩ : ByteArray)) (wrap64 (x9 + 1)) x288000 x288001 x288002 x288003 x288004 x288005 x288006 x288007 x288008 x288009 x288010) else (none)) else (none))) else (none)) else (q12_Of.l0 k x1 x8 (wrap64 (x9 + 1)) x288000 x288001 x288002 x288003 x288004 x288005 x288006 x288007 x288008 x288009 x288010)) else (none)) else ((q12_Within.f k x288004 x1).bind fun t294 => (q12_Of.l1 k x1 x8 ([] : List (S26)) t294 0 x288000 x288001 x288002 x288003 x288004 x288005 x288006 x288007 x288008 x288009 x288010))
def q12_Of.l1 : Nat → Int → ByteArray → List (S26) → List Int → Int → List Int → Int → List Int → List (S26) → List (S26) → List (S26) → List (S26) → Bool → List (S26) → List (S144) → Bool → Option (ByteArray × Bool)
 | 0, _, _, _, _, _, _, _, _, _, _, _, _, _, _, _, _ => none
 | k + 1, x1, x8, x10, x11, x12, x288000, x288001, x288002, x288003, x288004, x288005, x288006, x288007, x288008, x288009, x288010 => if x12 < (x11.length : Int) then (if 0 ≤ x12 then (if 0 ≤ (rd x11 x12) then (if (rd x11 x12) < (x288004.length : Int) then ((q12_ranked.f k ((rd_T26 x288004 (rd x11 x12)).f0) ((rd_T26 x288004 (rd x11 x12)).f1.f0) ((rd_T26 x288004 (rd x11 x12)).f1.f1) ((rd_T26 x288004 (rd x11 x12)).f1.f2) ((rd_T26 x288004 (rd x11 x12)).f2) ((rd_T26 x288004 (rd x11 x12)).f3) ((rd_T26 x288004 (rd x11 x12)).f4) ((rd_T26 x288004 (rd x11 x12)).f5) ((rd_T26 x288004 (rd x11 x12)).f6) x1).bind fun bt299 => (if x10.length < 1353245080339 then (q12_Of.l1 k x1 x8 (x10 ++ [(⟨bt299.1, (⟨bt299.2.1, bt299.2.2.1, bt299.2.2.2.1⟩ : S23), bt299.2.2.2.2.1, bt299.2.2.2.2.2.1, bt299.2.2.2.2.2.2.1, bt299.2.2.2.2.2.2.2.1, bt299.2.2.2.2.2.2.2.2⟩ : S26)]) x11 (wrap64 (x12 + 1)) x288000 x288001 x288002 x288003 x288004 x288005 x288006 x288007 x288008 x288009 x288010) else (none))) else (none)) else (none)) else (none)) else ((q12_Conds.f k x10).bind fun bt313 => (q12_Of.l2 k x8 bt313.1 0))
def q12_Of.l2 : Nat → ByteArray → List (S26) → Int → Option (ByteArray × Bool)
 | 0, _, _, _ => none
 | k + 1, x8, x10, x13 => if x13 < (x10.length : Int) then (if 0 ≤ x13 then ((q08_Print.f ((rd_T26 x10 x13).f0) ((rd_T26 x10 x13).f1.f0) ((rd_T26 x10 x13).f1.f1) ((rd_T26 x10 x13).f1.f2) ((rd_T26 x10 x13).f2) ((rd_T26 x10 x13).f3) ((rd_T26 x10 x13).f4) ((rd_T26 x10 x13).f5) ((rd_T26 x10 x13).f6)).bind fun t318 => (if x8.size + t318.size ≤ 9223372036854775807 then (if (x8 ++ t318).size + 1 ≤ 9223372036854775807 then (q12_Of.l2 k ((x8 ++ t318) ++ (⟨#[59]⟩ : ByteArray)) x10 (wrap64 (x13 + 1))) else (none)) else (none))) else (none)) else (some (x8, true))
end
def q12_Of.f (k : Nat) (l0_0 : List Int) (a0_1 : Int) (l0_2 : List Int) (l0_3 : List (S26)) (l0_4 : List (S26)) (l0_5 : List (S26)) (l0_6 : List (S26)) (a0_7 : Bool) (l0_8 : List (S26)) (l0_9 : List (S144)) (a0_10 : Bool) (a1 : Int) : Option (ByteArray × Bool) := if a0_1 < 1 then (q12_Of.j0 k a1 true l0_0 a0_1 l0_2 l0_3 l0_4 l0_5 l0_6 a0_7 l0_8 l0_9 a0_10) else (if a0_1 > 4 then (q12_Of.j0 k a1 true l0_0 a0_1 l0_2 l0_3 l0_4 l0_5 l0_6 a0_7 l0_8 l0_9 a0_10) else (if (l0_0.length : Int) < a0_1 then (q12_Of.j0 k a1 true l0_0 a0_1 l0_2 l0_3 l0_4 l0_5 l0_6 a0_7 l0_8 l0_9 a0_10) else (if a1 < 1 then (q12_Of.j0 k a1 true l0_0 a0_1 l0_2 l0_3 l0_4 l0_5 l0_6 a0_7 l0_8 l0_9 a0_10) else (if 0 ≤ a0_1 then (q12_Of.j0 k a1 (decide (a1 ≥ (shl .i64 1 a0_1))) l0_0 a0_1 l0_2 l0_3 l0_4 l0_5 l0_6 a0_7 l0_8 l0_9 a0_10) else (none)))))
def q12_Of.T17 : Bool × List (List Nat × List Nat) := (true, [([], []), ([], []), ([1], [1]), ([], []), ([], []), ([3, 4], [3, 4]), ([5], [5]), ([2, 6], [2, 6]), ([7], [7]), ([], []), ([8, 9], [8, 9]), ([10], [10]), ([0, 11, 10], [0, 11]), ([12, 12, 0, 1, 2, 3, 4, 5, 6, 7, 8, 9, 10, 11, 12], [0, 12])])
def q12_Of.B17 : List Nat := [0, 0, 2, 0, 0, 24, 56, 126, 254, 0, 1022, 2046, 4095, 8191]
theorem q12_Of.tab17 : rtab .any (opsOf Tryd.f19 17) = q12_Of.T17 := by kernel_rfl
theorem q12_Of.bits17 : waitsOk q12_Of.T17.2 q12_Of.B17 = true := by kernel_rfl
set_option maxHeartbeats 8000000 in
set_option maxRecDepth 100000 in
theorem q12_Of.calls (k : Nat) (A0_0 : Option Addr) (c0_0 : Nat) (l0_0 : List Int) (a0_1 : Int) (A0_2 : Option Addr) (c0_2 : Nat) (l0_2 : List Int) (A0_3 : Option Addr) (c0_3 : Nat) (l0_3 : List (S26)) (A0_4 : Option Addr) (c0_4 : Nat) (l0_4 : List (S26)) (A0_5 : Option Addr) (c0_5 : Nat) (l0_5 : List (S26)) (A0_6 : Option Addr) (c0_6 : Nat) (l0_6 : List (S26)) (a0_7 : Bool) (A0_8 : Option Addr) (c0_8 : Nat) (l0_8 : List (S26)) (A0_9 : Option Addr) (c0_9 : Nat) (l0_9 : List (S144)) (a0_10 : Bool) (a1 : Int) (r1 : ByteArray) (r2 : Bool) (w : World) (hr0_0 : Kd.C (Kd.int .i64) w A0_0 l0_0.length l0_0) (hc0_0 : l0_0.length ≤ c0_0) (hr0_2 : Kd.C (Kd.int .i64) w A0_2 l0_2.length l0_2) (hc0_2 : l0_2.length ≤ c0_2) (hr0_3 : Kd.C k26 w A0_3 l0_3.length l0_3) (hc0_3 : l0_3.length ≤ c0_3) (hr0_4 : Kd.C k26 w A0_4 l0_4.length l0_4) (hc0_4 : l0_4.length ≤ c0_4) (hr0_5 : Kd.C k26 w A0_5 l0_5.length l0_5) (hc0_5 : l0_5.length ≤ c0_5) (hr0_6 : Kd.C k26 w A0_6 l0_6.length l0_6) (hc0_6 : l0_6.length ≤ c0_6) (hr0_8 : Kd.C k26 w A0_8 l0_8.length l0_8) (hc0_8 : l0_8.length ≤ c0_8) (hr0_9 : Kd.C k144 w A0_9 l0_9.length l0_9) (hc0_9 : l0_9.length ≤ c0_9) (h : q12_Of.f k l0_0 a0_1 l0_2 l0_3 l0_4 l0_5 l0_6 a0_7 l0_8 l0_9 a0_10 a1 = some (r1, r2)) :
  Calls Tryd.prog 19 #[.agg #[.slice A0_0 l0_0.length c0_0, .int .i64 a0_1, .slice A0_2 l0_2.length c0_2, .slice A0_3 l0_3.length c0_3, .slice A0_4 l0_4.length c0_4, .slice A0_5 l0_5.length c0_5, .slice A0_6 l0_6.length c0_6, .bool a0_7, .slice A0_8 l0_8.length c0_8, .slice A0_9 l0_9.length c0_9, .bool a0_10], .int .i64 a1] w fun e w' => e = .returned (.tuple #[.string r1, .bool r2]) ∧ Below w.heap.size w w' := by
 have hu43 := Tryd.underlying43
 have hu26 := Tryd.underlying26
 have HR0_0 := Asd.mk hr0_0
 have HC0_0 := Asd.mk hc0_0
 clear hr0_0 hc0_0
 have HR0_2 := Asd.mk hr0_2
 have HC0_2 := Asd.mk hc0_2
 clear hr0_2 hc0_2
 have HR0_3 := Asd.mk hr0_3
 have HC0_3 := Asd.mk hc0_3
 clear hr0_3 hc0_3
 have HR0_4 := Asd.mk hr0_4
 have HC0_4 := Asd.mk hc0_4
 clear hr0_4 hc0_4
 have HR0_5 := Asd.mk hr0_5
 have HC0_5 := Asd.mk hc0_5
 clear hr0_5 hc0_5
 have HR0_6 := Asd.mk hr0_6
 have HC0_6 := Asd.mk hc0_6
 clear hr0_6 hc0_6
 have HR0_8 := Asd.mk hr0_8
 have HC0_8 := Asd.mk hc0_8
 clear hr0_8 hc0_8
 have HR0_9 := Asd.mk hr0_9
 have HC0_9 := Asd.mk hc0_9
 clear hr0_9 hc0_9
 have HB := Asd.mk (Below.refl w.heap.size w)
 have H : (if a0_1 < 1 then (q12_Of.j0 k a1 true l0_0 a0_1 l0_2 l0_3 l0_4 l0_5 l0_6 a0_7 l0_8 l0_9 a0_10) else (if a0_1 > 4 then (q12_Of.j0 k a1 true l0_0 a0_1 l0_2 l0_3 l0_4 l0_5 l0_6 a0_7 l0_8 l0_9 a0_10) else (if (l0_0.length : Int) < a0_1 then (q12_Of.j0 k a1 true l0_0 a0_1 l0_2 l0_3 l0_4 l0_5 l0_6 a0_7 l0_8 l0_9 a0_10) else (if a1 < 1 then (q12_Of.j0 k a1 true l0_0 a0_1 l0_2 l0_3 l0_4 l0_5 l0_6 a0_7 l0_8 l0_9 a0_10) else (if 0 ≤ a0_1 then (q12_Of.j0 k a1 (decide (a1 ≥ (shl .i64 1 a0_1))) l0_0 a0_1 l0_2 l0_3 l0_4 l0_5 l0_6 a0_7 l0_8 l0_9 a0_10) else (none)))))) = some (r1, r2) := h
 clear h
 have HC3 := Asd.mk H
 clear H
 go_enter Tryd.func19, Tryd.ntmps19
 go_upto_region 1 with (first | ((with_reducible refine gate_dst (N := 2) rfl ?_); (try (refine gate_guard (by rfl) ?_; dsimp only)); refine box_event rfl (N := 2) rfl (cs := #[.slice A0_0 l0_0.length c0_0, .int .i64 a0_1, .slice A0_2 l0_2.length c0_2, .slice A0_3 l0_3.length c0_3, .slice A0_4 l0_4.length c0_4, .slice A0_5 l0_5.length c0_5, .slice A0_6 l0_6.length c0_6, .bool a0_7, .slice A0_8 l0_8.length c0_8, .slice A0_9 l0_9.length c0_9, .bool a0_10]) (t := 43) (by first | (go_simp; done) | (go_simp; rfl)) ?_; intro gb287 hg w4 hbox hb; have BK287 := Asd.mk (hbox); have GW287 := Asd.mk (bZ hg HB.out); have GE287 := GW287; replace HB := Asd.mk (bS hb HB.out); clear hb hbox hg))
 (try simp only [Act.put, List.setIfInBounds_toArray, List.set_cons_zero, List.set_cons_succ])
 go_cut [40] (fun v40 wc => ∃ (kq : Nat) (x40_2 : Bool), v40 = .bool x40_2 ∧ Asd (q12_Of.j0 kq a1 x40_2 l0_0 a0_1 l0_2 l0_3 l0_4 l0_5 l0_6 a0_7 l0_8 l0_9 a0_10 = some (r1, r2)) ∧ Asd (kq ≤ k) ∧ Asd (wc.heap[gb287]? = some (.cells #[(.slice A0_0 l0_0.length c0_0), .int .i64 a0_1, (.slice A0_2 l0_2.length c0_2), (.slice A0_3 l0_3.length c0_3), (.slice A0_4 l0_4.length c0_4), (.slice A0_5 l0_5.length c0_5), (.slice A0_6 l0_6.length c0_6), .bool a0_7, (.slice A0_8 l0_8.length c0_8), (.slice A0_9 l0_9.length c0_9), .bool a0_10] 43 (0, 0))) ∧ Asd (Below w.heap.size w wc))
 case first =>
  have H := HC3.out
  clear HC3
  by_cases c5 : a0_1 < 1
  ·rw [if_pos c5] at H
   have c5b0 : decide (a0_1 < 1) = true := decide_eq_true c5
   clear c5
   (first | rw [c5b0] | (simp only [i64_w, i32_w]; rw [c5b0]) | skip)
   have H' := Asd.mk H
   clear H
   obtain ⟨hcz6_0, hcz6_1, hcz6_2, hcz6_3, hcz6_4, hcz6_5, hcz6_6, hcz6_7, hcz6_8, hcz6_9, hcz6_10⟩ := bkC11 BK287.out
   obtain ⟨hfz6_0, hfz6_1, hfz6_2, hfz6_3, hfz6_4, hfz6_5, hfz6_6, hfz6_7, hfz6_8, hfz6_9, hfz6_10⟩ := bkF11 BK287.out
   go_wp2
   go_meet
   case rel => exact ⟨_, (true), (by first | rfl | (simp; done) | (simp [*]; done)), H', ⟨by first | omega | exact Nat.le_refl _⟩, ⟨by exact BK287.out⟩, ⟨by repeat (first | (with_reducible first | exact HB.out | apply blA | apply pbN | apply blD | refine blS ?_ GE287.out) | exact HB.out)⟩⟩
  ·rw [if_neg c5] at H
   have c5b0 : decide (a0_1 < 1) = false := decide_eq_false c5
   clear c5
   (first | rw [c5b0] | (simp only [i64_w, i32_w]; rw [c5b0]) | skip)
   by_cases c7 : a0_1 > 4
   ·rw [if_pos c7] at H
    have c7b0 : decide (4 < a0_1) = true := decide_eq_true c7
    clear c7
    have H' := Asd.mk H
    clear H
    obtain ⟨hcz8_0, hcz8_1, hcz8_2, hcz8_3, hcz8_4, hcz8_5, hcz8_6, hcz8_7, hcz8_8, hcz8_9, hcz8_10⟩ := bkC11 BK287.out
    obtain ⟨hfz8_0, hfz8_1, hfz8_2, hfz8_3, hfz8_4, hfz8_5, hfz8_6, hfz8_7, hfz8_8, hfz8_9, hfz8_10⟩ := bkF11 BK287.out
    go_wp2
    go_meet
    case rel => exact ⟨_, (true), (by first | rfl | (simp; done) | (simp [*]; done)), H', ⟨by first | omega | exact Nat.le_refl _⟩, ⟨by exact BK287.out⟩, ⟨by repeat (first | (with_reducible first | exact HB.out | apply blA | apply pbN | apply blD | refine blS ?_ GE287.out) | exact HB.out)⟩⟩
   ·rw [if_neg c7] at H
    have c7b0 : decide (4 < a0_1) = false := decide_eq_false c7
    clear c7
    by_cases c9 : (l0_0.length : Int) < a0_1
    ·rw [if_pos c9] at H
     have c9b0 : decide ((l0_0.length : Int) < a0_1) = true := decide_eq_true c9
     clear c9
     have H' := Asd.mk H
     clear H
     obtain ⟨hcz10_0, hcz10_1, hcz10_2, hcz10_3, hcz10_4, hcz10_5, hcz10_6, hcz10_7, hcz10_8, hcz10_9, hcz10_10⟩ := bkC11 BK287.out
     obtain ⟨hfz10_0, hfz10_1, hfz10_2, hfz10_3, hfz10_4, hfz10_5, hfz10_6, hfz10_7, hfz10_8, hfz10_9, hfz10_10⟩ := bkF11 BK287.out
     go_wp2
     go_meet
     case rel => exact ⟨_, (true), (by first | rfl | (simp; done) | (simp [*]; done)), H', ⟨by first | omega | exact Nat.le_refl _⟩, ⟨by exact BK287.out⟩, ⟨by repeat (first | (with_reducible first | exact HB.out | apply blA | apply pbN | apply blD | refine blS ?_ GE287.out) | exact HB.out)⟩⟩
    ·rw [if_neg c9] at H
     have c9b0 : decide ((l0_0.length : Int) < a0_1) = false := decide_eq_false c9
     clear c9
     by_cases c11 : a1 < 1
     ·rw [if_pos c11] at H
      have c11b0 : decide (a1 < 1) = true := decide_eq_true c11
      clear c11
      have H' := Asd.mk H
      clear H
      obtain ⟨hcz12_0, hcz12_1, hcz12_2, hcz12_3, hcz12_4, hcz12_5, hcz12_6, hcz12_7, hcz12_8, hcz12_9, hcz12_10⟩ := bkC11 BK287.out
      obtain ⟨hfz12_0, hfz12_1, hfz12_2, hfz12_3, hfz12_4, hfz12_5, hfz12_6, hfz12_7, hfz12_8, hfz12_9, hfz12_10⟩ := bkF11 BK287.out
      go_wp2
      go_meet
      case rel => exact ⟨_, (true), (by first | rfl | (simp; done) | (simp [*]; done)), H', ⟨by first | omega | exact Nat.le_refl _⟩, ⟨by exact BK287.out⟩, ⟨by repeat (first | (with_reducible first | exact HB.out | apply blA | apply pbN | apply blD | refine blS ?_ GE287.out) | exact HB.out)⟩⟩
     ·rw [if_neg c11] at H
      have c11b0 : decide (a1 < 1) = false := decide_eq_false c11
      clear c11
      by_cases c13 : 0 ≤ a0_1
      ·rw [if_pos c13] at H
       have c13b0 := eq_true c13
       have c13b1 : decide (0 ≤ a0_1) = true := decide_eq_true c13
       clear c13
       obtain ⟨ji14, hji14⟩ : ∃ j_ : Int, (shl .i64 1 a0_1) = j_ := ⟨_, rfl⟩
       replace H : (q12_Of.j0 k a1 (decide (a1 ≥ (ji14))) l0_0 a0_1 l0_2 l0_3 l0_4 l0_5 l0_6 a0_7 l0_8 l0_9 a0_10) = some (r1, r2) := by first | (rw [hji14] at H; exact H) | (simp only [hji14] at H ⊢; exact H)
       have hji14_ : (IntKind.i64.wrap (1 * 2 ^ min a0_1.toNat 64)) = ji14 := hji14
       have hji14z : a0_1 ≤ 64 → (IntKind.i64.wrap (1 * 2 ^ a0_1.toNat)) = ji14 := shl_small hji14
       have hji14u : (IntKind.i64.wrap (2 ^ min a0_1.toNat 64)) = ji14 := by have h_ := hji14_; rw [Int.one_mul] at h_; exact h_
       have hji14v : a0_1 ≤ 64 → (IntKind.i64.wrap (2 ^ a0_1.toNat)) = ji14 := fun hle_ => by have h_ := hji14z hle_; rw [Int.one_mul] at h_; exact h_
       have hji14y : (wrap64 (1 * 2 ^ min a0_1.toNat 64)) = ji14 := (i64_w _).symm.trans hji14_
       have hji14x : a0_1 ≤ 64 → (wrap64 (1 * 2 ^ a0_1.toNat)) = ji14 := fun h_ => (i64_w _).symm.trans (hji14z h_)
       have H' := Asd.mk H
       clear H
       obtain ⟨hcz15_0, hcz15_1, hcz15_2, hcz15_3, hcz15_4, hcz15_5, hcz15_6, hcz15_7, hcz15_8, hcz15_9, hcz15_10⟩ := bkC11 BK287.out
       obtain ⟨hfz15_0, hfz15_1, hfz15_2, hfz15_3, hfz15_4, hfz15_5, hfz15_6, hfz15_7, hfz15_8, hfz15_9, hfz15_10⟩ := bkF11 BK287.out
       go_wp2
       go_meet
       case rel => exact ⟨_, (decide (a1 ≥ (ji14))), (by first | rfl | (simp; done) | (simp only [← hji14] <;> (first | rfl | simp)) | (simp [*]; done)), H', ⟨by first | omega | exact Nat.le_refl _⟩, ⟨by exact BK287.out⟩, ⟨by repeat (first | (with_reducible first | exact HB.out | apply blA | apply pbN | apply blD | refine blS ?_ GE287.out) | exact HB.out)⟩⟩
      ·rw [if_neg c13] at H
       exact absurd H (by simp)
 case rest =>
  clear HC3
  try clear c1
  try clear p2
  try clear c5
  try clear c5b0
  try clear p6
  try clear c7
  try clear c7b0
  try clear c9
  try clear c9b0
  try clear c11
  try clear c11b0
  try clear c13
  try clear c13b0
  try clear c13b1
  try clear hcz10_0
  try clear hcz10_1
  try clear hcz10_10
  try clear hcz10_2
  try clear hcz10_3
  try clear hcz10_4
  try clear hcz10_5
  try clear hcz10_6
  try clear hcz10_7
  try clear hcz10_8
  try clear hcz10_9
  try clear hcz12_0
  try clear hcz12_1
  try clear hcz12_10
  try clear hcz12_2
  try clear hcz12_3
  try clear hcz12_4
  try clear hcz12_5
  try clear hcz12_6
  try clear hcz12_7
  try clear hcz12_8
  try clear hcz12_9
  try clear hcz15_0
  try clear hcz15_1
  try clear hcz15_10
  try clear hcz15_2
  try clear hcz15_3
  try clear hcz15_4
  try clear hcz15_5
  try clear hcz15_6
  try clear hcz15_7
  try clear hcz15_8
  try clear hcz15_9
  try clear hcz6_0
  try clear hcz6_1
  try clear hcz6_10
  try clear hcz6_2
  try clear hcz6_3
  try clear hcz6_4
  try clear hcz6_5
  try clear hcz6_6
  try clear hcz6_7
  try clear hcz6_8
  try clear hcz6_9
  try clear hcz8_0
  try clear hcz8_1
  try clear hcz8_10
  try clear hcz8_2
  try clear hcz8_3
  try clear hcz8_4
  try clear hcz8_5
  try clear hcz8_6
  try clear hcz8_7
  try clear hcz8_8
  try clear hcz8_9
  try clear hfz10_0
  try clear hfz10_1
  try clear hfz10_10
  try clear hfz10_2
  try clear hfz10_3
  try clear hfz10_4
  try clear hfz10_5
  try clear hfz10_6
  try clear hfz10_7
  try clear hfz10_8
  try clear hfz10_9
  try clear hfz12_0
  try clear hfz12_1
  try clear hfz12_10
  try clear hfz12_2
  try clear hfz12_3
  try clear hfz12_4
  try clear hfz12_5
  try clear hfz12_6
  try clear hfz12_7
  try clear hfz12_8
  try clear hfz12_9
  try clear hfz15_0
  try clear hfz15_1
  try clear hfz15_10
  try clear hfz15_2
  try clear hfz15_3
  try clear hfz15_4
  try clear hfz15_5
  try clear hfz15_6
  try clear hfz15_7
  try clear hfz15_8
  try clear hfz15_9
  try clear hfz6_0
  try clear hfz6_1
  try clear hfz6_10
  try clear hfz6_2
  try clear hfz6_3
  try clear hfz6_4
  try clear hfz6_5
  try clear hfz6_6
  try clear hfz6_7
  try clear hfz6_8
  try clear hfz6_9
  try clear hfz8_0
  try clear hfz8_1
  try clear hfz8_10
  try clear hfz8_2
  try clear hfz8_3
  try clear hfz8_4
  try clear hfz8_5
  try clear hfz8_6
  try clear hfz8_7
  try clear hfz8_8
  try clear hfz8_9
  obtain ⟨kq, x40_2, rfl, HA, HJ2, BK287, HB⟩ := hcut
  cases kq with
  | zero => exact absurd HA.out (by simp [q12_Of.j0])
  | succ kj2 =>
   have H := HA.out
   clear HA
   simp only [q12_Of.j0] at H
   by_cases c16 : x40_2 = true
   ·subst c16
    have H1 : (some ((⟨#[]⟩ : ByteArray), false)) = some (r1, r2) := by rw [if_pos rfl] at H; exact H
    clear H
    have H := H1
    clear H1
    simp only [Option.some.injEq, Prod.mk.injEq] at H
    obtain ⟨rfl, rfl⟩ := H
    go_wp2
    go_ret2
    exact ⟨by first | rfl | (simp [errW_none, errW_some] <;> rfl) | (simp [*, errW_none, errW_some] <;> rfl), by repeat (first | (with_reducible first | exact HB.out | apply blA | apply pbN | apply blD | refine blS ?_ GE287.out) | exact HB.out)⟩
   ·replace c16 := Bool.eq_false_iff.mpr c16
    subst c16
    have H1 : ((q12_Conds.f kj2 l0_4).bind fun bt288 => (if bt288.2 = true then (q12_Of.l0 kj2 a1 (⟨#[83]⟩ : ByteArray) 0 l0_0 a0_1 l0_2 l0_3 l0_4 l0_5 l0_6 a0_7 l0_8 l0_9 a0_10) else (some ((⟨#[]⟩ : ByteArray), false)))) = some (r1, r2) := by rw [if_neg (show ¬ (false = true) by decide)] at H; exact H
    clear H
    have H := H1
    clear H1
    replace H := Option.bind_eq_some_iff.mp H
    obtain ⟨⟨t288, t291⟩, A170, H⟩ := H
    replace H : (if t291 = true then (q12_Of.l0 kj2 a1 (⟨#[83]⟩ : ByteArray) 0 l0_0 a0_1 l0_2 l0_3 l0_4 l0_5 l0_6 a0_7 l0_8 l0_9 a0_10) else (some ((⟨#[]⟩ : ByteArray), false))) = some (r1, r2) := H
    have A17 := Asd.mk A170
    clear A170
    by_cases c18 : t291 = true
    ·subst c18
     have H1 : (q12_Of.l0 kj2 a1 (⟨#[83]⟩ : ByteArray) 0 l0_0 a0_1 l0_2 l0_3 l0_4 l0_5 l0_6 a0_7 l0_8 l0_9 a0_10) = some (r1, r2) := by rw [if_pos rfl] at H; exact H
     clear H
     have H := H1
     clear H1
     have H' := Asd.mk H
     clear H
     obtain ⟨hcz19_0, hcz19_1, hcz19_2, hcz19_3, hcz19_4, hcz19_5, hcz19_6, hcz19_7, hcz19_8, hcz19_9, hcz19_10⟩ := bkC11 BK287.out
     obtain ⟨hfz19_0, hfz19_1, hfz19_2, hfz19_3, hfz19_4, hfz19_5, hfz19_6, hfz19_7, hfz19_8, hfz19_9, hfz19_10⟩ := bkF11 BK287.out
     go_wp2_with (first | ((with_reducible refine gate_callee (f := 13) rfl ?_); refine goesL_ (some 44) rfl rfl Tryd.func13 (by kernel_rfl) rfl #[.slice A0_4 l0_4.length c0_4] rfl (by (try simp only [List.map_toArray, List.map_cons, List.map_nil]); first | done | rfl | (simp only [List.length_drop, List.length_take]; rfl)) ?_; (with_reducible refine (q12_Conds.calls kj2 _ _ l0_4 t288 true _ ?side1 ?side2 A17.out).mono ?_); (case side1 => repeat (first | exact (Kd.C_below HR0_4.out HB.out) | (with_reducible refine Kd.C_alloc ?_ _) | (with_reducible refine Kd.C_drewN ?_ _) | (with_reducible refine Kd.C_drew ?_))); (case side2 => exact HC0_4.out); rintro e w20 ⟨v289, rfl, ho0, hb⟩; refine ⟨_, rfl, ?_⟩; have n0_ := Asd.mk (Kd.N_lower (Kd.N_mono (ok' := fun k_ => k_ ≠ gb287) ho0 (fun k_ hk_ => (Kd.freshB (g := gb287) (o := .cells #[.slice A0_0 l0_0.length c0_0, .int .i64 a0_1, .slice A0_2 l0_2.length c0_2, .slice A0_3 l0_3.length c0_3, .slice A0_4 l0_4.length c0_4, .slice A0_5 l0_5.length c0_5, .slice A0_6 l0_6.length c0_6, .bool a0_7, .slice A0_8 l0_8.length c0_8, .slice A0_9 l0_9.length c0_9, .bool a0_10] 43 (0, 0)) (by exact BK287.out) k_ hk_))) (below_size (by repeat (first | (with_reducible first | exact HB.out | apply blA | apply pbN | apply blD | refine blS ?_ GE287.out) | exact HB.out)))); have n1_ := Asd.mk (bB hb BK287.out); have n2_ := Asd.mk (bS hb HB.out); clear BK287; clear HB; have HO290 := n0_; have BK287 := n1_; have HB := n2_; clear n0_ n1_ n2_; (try clear hb); (try clear hb2); (try clear hk); (try clear hi); (try clear ho0)))
     go_loopg [8, 9] kj2 (fun kq v8 v9 w' => ∃ (x8_2 : ByteArray) (x9_2 : Int), v8 = .string x8_2 ∧ v9 = .int .i64 x9_2 ∧ Asd (q12_Of.l0 kq a1 x8_2 x9_2 l0_0 a0_1 l0_2 l0_3 l0_4 l0_5 l0_6 a0_7 l0_8 l0_9 a0_10 = some (r1, r2)) ∧ Asd (kq ≤ kj2) ∧ Asd (w'.heap[gb287]? = some (.cells #[(.slice A0_0 l0_0.length c0_0), .int .i64 a0_1, (.slice A0_2 l0_2.length c0_2), (.slice A0_3 l0_3.length c0_3), (.slice A0_4 l0_4.length c0_4), (.slice A0_5 l0_5.length c0_5), (.slice A0_6 l0_6.length c0_6), .bool a0_7, (.slice A0_8 l0_8.length c0_8), (.slice A0_9 l0_9.length c0_9), .bool a0_10] 43 (0, 0))) ∧ Asd (Below w.heap.size w w'))
     case atStart => exact ⟨((⟨#[83]⟩ : ByteArray)), (0), (by first | rfl | (simp; done) | (simp [*]; done)), (by first | rfl | (simp; done) | (simp [*]; done)), H', ⟨Nat.le_refl _⟩, ⟨by exact BK287.out⟩, ⟨by repeat (first | (with_reducible first | exact HB.out | apply blA | apply pbN | apply blD | refine blS ?_ GE287.out) | exact HB.out)⟩⟩
     case round =>
      clear H'
      try clear c1
      try clear p2
      try clear c5
      try clear c5b0
      try clear p6
      try clear c7
      try clear c7b0
      try clear c9
      try clear c9b0
      try clear c11
      try clear c11b0
      try clear c13
      try clear c13b0
      try clear c13b1
      try clear c16
      try clear c18
      try clear c19
      try clear hcz10_0
      try clear hcz10_1
      try clear hcz10_10
      try clear hcz10_2
      try clear hcz10_3
      try clear hcz10_4
      try clear hcz10_5
      try clear hcz10_6
      try clear hcz10_7
      try clear hcz10_8
      try clear hcz10_9
      try clear hcz12_0
      try clear hcz12_1
      try clear hcz12_10
      try clear hcz12_2
      try clear hcz12_3
      try clear hcz12_4
      try clear hcz12_5
      try clear hcz12_6
      try clear hcz12_7
      try clear hcz12_8
      try clear hcz12_9
      try clear hcz15_0
      try clear hcz15_1
      try clear hcz15_10
      try clear hcz15_2
      try clear hcz15_3
      try clear hcz15_4
      try clear hcz15_5
      try clear hcz15_6
      try clear hcz15_7
      try clear hcz15_8
      try clear hcz15_9
      try clear hcz19_0
      try clear hcz19_1
      try clear hcz19_10
      try clear hcz19_2
      try clear hcz19_3
      try clear hcz19_4
      try clear hcz19_5
      try clear hcz19_6
      try clear hcz19_7
      try clear hcz19_8
      try clear hcz19_9
      try clear hcz6_0
      try clear hcz6_1
      try clear hcz6_10
      try clear hcz6_2
      try clear hcz6_3
      try clear hcz6_4
      try clear hcz6_5
      try clear hcz6_6
      try clear hcz6_7
      try clear hcz6_8
      try clear hcz6_9
      try clear hcz8_0
      try clear hcz8_1
      try clear hcz8_10
      try clear hcz8_2
      try clear hcz8_3
      try clear hcz8_4
      try clear hcz8_5
      try clear hcz8_6
      try clear hcz8_7
      try clear hcz8_8
      try clear hcz8_9
      try clear hfz10_0
      try clear hfz10_1
      try clear hfz10_10
      try clear hfz10_2
      try clear hfz10_3
      try clear hfz10_4
      try clear hfz10_5
      try clear hfz10_6
      try clear hfz10_7
      try clear hfz10_8
      try clear hfz10_9
      try clear hfz12_0
      try clear hfz12_1
      try clear hfz12_10
      try clear hfz12_2
      try clear hfz12_3
      try clear hfz12_4
      try clear hfz12_5
      try clear hfz12_6
      try clear hfz12_7
      try clear hfz12_8
      try clear hfz12_9
      try clear hfz15_0
      try clear hfz15_1
      try clear hfz15_10
      try clear hfz15_2
      try clear hfz15_3
      try clear hfz15_4
      try clear hfz15_5
      try clear hfz15_6
      try clear hfz15_7
      try clear hfz15_8
      try clear hfz15_9
      try clear hfz19_0
      try clear hfz19_1
      try clear hfz19_10
      try clear hfz19_2
      try clear hfz19_3
      try clear hfz19_4
      try clear hfz19_5
      try clear hfz19_6
      try clear hfz19_7
      try clear hfz19_8
      try clear hfz19_9
      try clear hfz6_0
      try clear hfz6_1
      try clear hfz6_10
      try clear hfz6_2
      try clear hfz6_3
      try clear hfz6_4
      try clear hfz6_5
      try clear hfz6_6
      try clear hfz6_7
      try clear hfz6_8
      try clear hfz6_9
      try clear hfz8_0
      try clear hfz8_1
      try clear hfz8_10
      try clear hfz8_2
      try clear hfz8_3
      try clear hfz8_4
      try clear hfz8_5
      try clear hfz8_6
      try clear hfz8_7
      try clear hfz8_8
      try clear hfz8_9
      try clear p2
      try clear p6
      obtain ⟨x8_2, x9_2, rfl, rfl, HA, HK2, BK287, HB⟩ := hrel
      cases gk with
      | zero => exact absurd HA.out (by simp [q12_Of.l0])
      | succ k2 =>
       have H := HA.out
       clear HA
       simp only [q12_Of.l0] at H
       by_cases c21 : x9_2 < a0_1
       ·rw [if_pos c21] at H
        have c21b0 : decide (x9_2 < a0_1) = true := decide_eq_true c21
        clear c21
        by_cases c22 : 0 ≤ x9_2
        ·rw [if_pos c22] at H
         have c22b0 := eq_true c22
         have c22b1 : decide (0 ≤ x9_2) = true := decide_eq_true c22
         clear c22
         obtain ⟨ji23, hji23⟩ : ∃ j_ : Int, (shr .i64 a1 x9_2) = j_ := ⟨_, rfl⟩
         replace H : (if (Go.bits .and .i64 (ji23) 1) = 1 then (if x9_2 < (l0_0.length : Int) then ((q08_Digits.f k2 (rd l0_0 x9_2)).bind fun t293 => (if x8_2.size + t293.size ≤ 9223372036854775807 then (if (x8_2 ++ t293).size + 1 ≤ 9223372036854775807 then (q12_Of.l0 k2 a1 ((x8_2 ++ t293) ++ (⟨#[32]⟩ : ByteArray)) (wrap64 (x9_2 + 1)) l0_0 a0_1 l0_2 l0_3 l0_4 l0_5 l0_6 a0_7 l0_8 l0_9 a0_10) else (none)) else (none))) else (none)) else (q12_Of.l0 k2 a1 x8_2 (wrap64 (x9_2 + 1)) l0_0 a0_1 l0_2 l0_3 l0_4 l0_5 l0_6 a0_7 l0_8 l0_9 a0_10)) = some (r1, r2) := by first | (rw [hji23] at H; exact H) | (simp only [hji23] at H ⊢; exact H)
         have hji23_ : (a1 / 2 ^ min x9_2.toNat 64) = ji23 := hji23
         have hji23z : x9_2 ≤ 64 → (a1 / 2 ^ x9_2.toNat) = ji23 := shr_small hji23
         by_cases c24 : (Go.bits .and .i64 (ji23) 1) = 1
         ·rw [if_pos c24] at H
          have c24b0 : ((Go.bits .and .i64 (ji23) 1) == 1) = true := beq_iff_eq.mpr c24
          have c24b1 : ((Go.bits .and .i64 (ji23) 1) != 1) = false := bne_eq_false_iff_eq.mpr c24
          clear c24
          by_cases c25 : x9_2 < (l0_0.length : Int)
          ·rw [if_pos c25] at H
           have c25b0 : decide (x9_2 < (l0_0.length : Int)) = true := decide_eq_true c25
           clear c25
           replace H := Option.bind_eq_some_iff.mp H
           obtain ⟨t293, A260, H⟩ := H
           replace H : (if x8_2.size + t293.size ≤ 9223372036854775807 then (if (x8_2 ++ t293).size + 1 ≤ 9223372036854775807 then (q12_Of.l0 k2 a1 ((x8_2 ++ t293) ++ (⟨#[32]⟩ : ByteArray)) (wrap64 (x9_2 + 1)) l0_0 a0_1 l0_2 l0_3 l0_4 l0_5 l0_6 a0_7 l0_8 l0_9 a0_10) else (none)) else (none)) = some (r1, r2) := H
           have A26 := Asd.mk A260
           clear A260
           by_cases c27 : x8_2.size + t293.size ≤ 9223372036854775807
           ·rw [if_pos c27] at H
            have c27b0 := eq_true c27
            have c27b1 : decide (x8_2.size + t293.size ≤ 9223372036854775807) = true := decide_eq_true c27
            try have c27b2 : (9223372036854775807 < x8_2.size + t293.size) = False := eq_false (Nat.not_lt.2 c27)
            try (have c27b3 := c27b2; simp only [ByteArray.size_append] at c27b3)
            try (have c27b4 := c27b0; simp only [ByteArray.size_append] at c27b4)
            by_cases c28 : (x8_2 ++ t293).size + 1 ≤ 9223372036854775807
            ·rw [if_pos c28] at H
             have c28b0 := eq_true c28
             have c28b1 : decide ((x8_2 ++ t293).size + 1 ≤ 9223372036854775807) = true := decide_eq_true c28
             try have c28b2 : (9223372036854775807 < (x8_2 ++ t293).size + 1) = False := eq_false (Nat.not_lt.2 c28)
             try (have c28b3 := c28b2; simp only [ByteArray.size_append] at c28b3)
             try (have c28b4 := c28b0; simp only [ByteArray.size_append] at c28b4)
             have H' := Asd.mk H
             clear H
             obtain ⟨hcz29_0, hcz29_1, hcz29_2, hcz29_3, hcz29_4, hcz29_5, hcz29_6, hcz29_7, hcz29_8, hcz29_9, hcz29_10⟩ := bkC11 BK287.out
             obtain ⟨hfz29_0, hfz29_1, hfz29_2, hfz29_3, hfz29_4, hfz29_5, hfz29_6, hfz29_7, hfz29_8, hfz29_9, hfz29_10⟩ := bkF11 BK287.out
             have p292 : 0 ≤ (x9_2 : Int) := of_decide_eq_true (by first | (with_reducible assumption) | assumption)
             have q292 : x9_2 < (l0_0.length : Int) := of_decide_eq_true (by first | (with_reducible assumption) | assumption)
             obtain ⟨ad292, e292, hx292_0⟩ := Kd.at_int HR0_0.out x9_2 p292 q292
             cases e292
             replace hx292_0 := (HB.out.cell (World.block_lt_of_cell? w _ hx292_0)).trans hx292_0
             replace p292 := eq_true p292
             replace q292 := eq_true q292
             go_wp2_with (first | ((with_reducible refine gate_callee (f := 22) rfl ?_); refine goesL_ (some 66) rfl rfl Tryd.func22 (by kernel_rfl) rfl #[.int .i64 (rd l0_0 x9_2)] rfl (by (try simp only [List.map_toArray, List.map_cons, List.map_nil]); first | done | rfl | (simp only [List.length_drop, List.length_take]; rfl)) ?_; (with_reducible refine (q08_Digits.calls k2 (rd l0_0 x9_2) t293 _ A26.out).mono ?_); rintro e w30 ⟨rfl, hb⟩; refine ⟨_, rfl, ?_⟩; replace BK287 := Asd.mk (bB hb BK287.out); replace HB := Asd.mk (bS hb HB.out); clear hb))
             go_roundg k2
             case measure => have := HJ2.out; have := HK2.out; omega
             case rel => exact ⟨((x8_2 ++ t293) ++ (⟨#[32]⟩ : ByteArray)), (wrap64 (x9_2 + 1)), (by first | rfl | (simp; done) | (simp [*]; done)), (by first | rfl | (simp; done) | (simp [*]; done)), H', ⟨by have := HJ2.out; have := HK2.out; omega⟩, ⟨by exact BK287.out⟩, ⟨by repeat (first | (with_reducible first | exact HB.out | apply blA | apply pbN | apply blD | refine blS ?_ GE287.out) | exact HB.out)⟩⟩
            ·rw [if_neg c28] at H
             exact absurd H (by simp)
           ·rw [if_neg c27] at H
            exact absurd H (by simp)
          ·rw [if_neg c25] at H
           exact absurd H (by simp)
         ·rw [if_neg c24] at H
          have c24b0 : ((Go.bits .and .i64 (ji23) 1) == 1) = false := beq_eq_false_iff_ne.mpr c24
          have c24b1 : ((Go.bits .and .i64 (ji23) 1) != 1) = true := bne_iff_ne.mpr c24
          have H' := Asd.mk H
          clear H
          obtain ⟨hcz31_0, hcz31_1, hcz31_2, hcz31_3, hcz31_4, hcz31_5, hcz31_6, hcz31_7, hcz31_8, hcz31_9, hcz31_10⟩ := bkC11 BK287.out
          obtain ⟨hfz31_0, hfz31_1, hfz31_2, hfz31_3, hfz31_4, hfz31_5, hfz31_6, hfz31_7, hfz31_8, hfz31_9, hfz31_10⟩ := bkF11 BK287.out
          go_wp2
          go_roundg k2
          case measure => have := HJ2.out; have := HK2.out; omega
          case rel => exact ⟨(x8_2), (wrap64 (x9_2 + 1)), (by first | rfl | (simp; done) | (simp [*]; done)), (by first | rfl | (simp; done) | (simp [*]; done)), H', ⟨by have := HJ2.out; have := HK2.out; omega⟩, ⟨by exact BK287.out⟩, ⟨by repeat (first | (with_reducible first | exact HB.out | apply blA | apply pbN | apply blD | refine blS ?_ GE287.out) | exact HB.out)⟩⟩
        ·rw [if_neg c22] at H
         exact absurd H (by simp)
       ·rw [if_neg c21] at H
        have c21b0 : decide (x9_2 < a0_1) = false := decide_eq_false c21
        clear c21
        replace H := Option.bind_eq_some_iff.mp H
        obtain ⟨t294, A320, H⟩ := H
        replace H : (q12_Of.l1 k2 a1 x8_2 ([] : List (S26)) t294 0 l0_0 a0_1 l0_2 l0_3 l0_4 l0_5 l0_6 a0_7 l0_8 l0_9 a0_10) = some (r1, r2) := H
        have A32 := Asd.mk A320
        clear A320
        have H' := Asd.mk H
        clear H
        obtain ⟨hcz33_0, hcz33_1, hcz33_2, hcz33_3, hcz33_4, hcz33_5, hcz33_6, hcz33_7, hcz33_8, hcz33_9, hcz33_10⟩ := bkC11 BK287.out
        obtain ⟨hfz33_0, hfz33_1, hfz33_2, hfz33_3, hfz33_4, hfz33_5, hfz33_6, hfz33_7, hfz33_8, hfz33_9, hfz33_10⟩ := bkF11 BK287.out
        go_wp2_with (first | ((with_reducible refine gate_callee (f := 17) rfl ?_); refine goesL_ (some 72) rfl rfl Tryd.func17 (by kernel_rfl) rfl #[.slice A0_4 l0_4.length c0_4, .int .i64 a1] rfl (by (try simp only [List.map_toArray, List.map_cons, List.map_nil]); first | done | rfl | (simp only [List.length_drop, List.length_take]; rfl)) ?_; (with_reducible refine (q12_Within.calls k2 _ _ l0_4 a1 t294 _ ?side1 ?side2 A32.out).mono ?_); (case side1 => repeat (first | exact (Kd.C_below HR0_4.out HB.out) | (with_reducible refine Kd.C_alloc ?_ _) | (with_reducible refine Kd.C_drewN ?_ _) | (with_reducible refine Kd.C_drew ?_))); (case side2 => exact HC0_4.out); rintro e w34 ⟨v295, rfl, ho0, hb⟩; refine ⟨_, rfl, ?_⟩; have HO296 := Asd.mk (Kd.R_lower ho0 (below_size (by repeat (first | (with_reducible first | exact HB.out | apply blA | apply pbN | apply blD | refine blS ?_ GE287.out) | exact HB.out)))); replace BK287 := Asd.mk (bB hb BK287.out); replace HB := Asd.mk (bS hb HB.out); (try clear hb); (try clear hb2); (try clear hk); (try clear hi); (try clear ho0)))
        go_loopg [10, 12] k2 (fun kq v10 v12 w' => ∃ (x10_3 : List (S26)) (x12_3 : Int), v12 = .int .i64 x12_3 ∧ Asd (q12_Of.l1 kq a1 x8_2 x10_3 t294 x12_3 l0_0 a0_1 l0_2 l0_3 l0_4 l0_5 l0_6 a0_7 l0_8 l0_9 a0_10 = some (r1, r2)) ∧ Asd (kq ≤ k2) ∧ Asd (Kd.N k26 26 w' w.heap.size (fun k_ => some k_ ≠ (v295 : Value).ownBlock ∧ k_ ≠ gb287) v10 x10_3) ∧ Asd (Kd.R (Kd.int .i64) 3 w' w.heap.size (fun _ => True) v295 t294) ∧ Asd (w'.heap[gb287]? = some (.cells #[(.slice A0_0 l0_0.length c0_0), .int .i64 a0_1, (.slice A0_2 l0_2.length c0_2), (.slice A0_3 l0_3.length c0_3), (.slice A0_4 l0_4.length c0_4), (.slice A0_5 l0_5.length c0_5), (.slice A0_6 l0_6.length c0_6), .bool a0_7, (.slice A0_8 l0_8.length c0_8), (.slice A0_9 l0_9.length c0_9), .bool a0_10] 43 (0, 0))) ∧ Asd (Below w.heap.size w w'))
        case atStart => exact ⟨(([] : List (S26))), (0), (by first | rfl | (simp; done) | (simp [*]; done)), H', ⟨Nat.le_refl _⟩, ⟨by first | exact Kd.R_nil _ _ _ _ _ | exact Kd.N_nil _ _ _ _ _ | exact Kd.V_nil _ _ _ _ _ | exact Kd.Q_nil _ _ _ _ _ | exact Kd.S_nil _ _ _ _ _⟩, ⟨by (with_reducible repeat (first | apply Kd.R_alloc | apply Kd.R_drewN | apply Kd.R_drew)); exact HO296.out⟩, ⟨by exact BK287.out⟩, ⟨by repeat (first | (with_reducible first | exact HB.out | apply blA | apply pbN | apply blD | refine blS ?_ GE287.out) | exact HB.out)⟩⟩
        case round =>
         clear H'
         try clear c1
         try clear c2
         try clear p2
         try clear q2
         try clear hx2
         try clear c5
         try clear c5b0
         try clear p6
         try clear c7
         try clear c7b0
         try clear c9
         try clear c9b0
         try clear c11
         try clear c11b0
         try clear c13
         try clear c13b0
         try clear c13b1
         try clear c16
         try clear c17
         try clear c18
         try clear c19
         try clear c21
         try clear c21b0
         try clear c22
         try clear c22b0
         try clear c22b1
         try clear c24
         try clear c24b0
         try clear c24b1
         try clear c25
         try clear c25b0
         try clear c27
         try clear c27b0
         try clear c27b1
         try clear c27b2
         try clear c28
         try clear c28b0
         try clear c28b1
         try clear c28b2
         try clear p29
         try clear q29
         try clear hx29
         try clear hcz10_0
         try clear hcz10_1
         try clear hcz10_10
         try clear hcz10_2
         try clear hcz10_3
         try clear hcz10_4
         try clear hcz10_5
         try clear hcz10_6
         try clear hcz10_7
         try clear hcz10_8
         try clear hcz10_9
         try clear hcz12_0
         try clear hcz12_1
         try clear hcz12_10
         try clear hcz12_2
         try clear hcz12_3
         try clear hcz12_4
         try clear hcz12_5
         try clear hcz12_6
         try clear hcz12_7
         try clear hcz12_8
         try clear hcz12_9
         try clear hcz15_0
         try clear hcz15_1
         try clear hcz15_10
         try clear hcz15_2
         try clear hcz15_3
         try clear hcz15_4
         try clear hcz15_5
         try clear hcz15_6
         try clear hcz15_7
         try clear hcz15_8
         try clear hcz15_9
         try clear hcz19_0
         try clear hcz19_1
         try clear hcz19_10
         try clear hcz19_2
         try clear hcz19_3
         try clear hcz19_4
         try clear hcz19_5
         try clear hcz19_6
         try clear hcz19_7
         try clear hcz19_8
         try clear hcz19_9
         try clear hcz29_0
         try clear hcz29_1
         try clear hcz29_10
         try clear hcz29_2
         try clear hcz29_3
         try clear hcz29_4
         try clear hcz29_5
         try clear hcz29_6
         try clear hcz29_7
         try clear hcz29_8
         try clear hcz29_9
         try clear hcz31_0
         try clear hcz31_1
         try clear hcz31_10
         try clear hcz31_2
         try clear hcz31_3
         try clear hcz31_4
         try clear hcz31_5
         try clear hcz31_6
         try clear hcz31_7
         try clear hcz31_8
         try clear hcz31_9
         try clear hcz33_0
         try clear hcz33_1
         try clear hcz33_10
         try clear hcz33_2
         try clear hcz33_3
         try clear hcz33_4
         try clear hcz33_5
         try clear hcz33_6
         try clear hcz33_7
         try clear hcz33_8
         try clear hcz33_9
         try clear hcz6_0
         try clear hcz6_1
         try clear hcz6_10
         try clear hcz6_2
         try clear hcz6_3
         try clear hcz6_4
         try clear hcz6_5
         try clear hcz6_6
         try clear hcz6_7
         try clear hcz6_8
         try clear hcz6_9
         try clear hcz8_0
         try clear hcz8_1
         try clear hcz8_10
         try clear hcz8_2
         try clear hcz8_3
         try clear hcz8_4
         try clear hcz8_5
         try clear hcz8_6
         try clear hcz8_7
         try clear hcz8_8
         try clear hcz8_9
         try clear hfz10_0
         try clear hfz10_1
         try clear hfz10_10
         try clear hfz10_2
         try clear hfz10_3
         try clear hfz10_4
         try clear hfz10_5
         try clear hfz10_6
         try clear hfz10_7
         try clear hfz10_8
         try clear hfz10_9
         try clear hfz12_0
         try clear hfz12_1
         try clear hfz12_10
         try clear hfz12_2
         try clear hfz12_3
         try clear hfz12_4
         try clear hfz12_5
         try clear hfz12_6
         try clear hfz12_7
         try clear hfz12_8
         try clear hfz12_9
         try clear hfz15_0
         try clear hfz15_1
         try clear hfz15_10
         try clear hfz15_2
         try clear hfz15_3
         try clear hfz15_4
         try clear hfz15_5
         try clear hfz15_6
         try clear hfz15_7
         try clear hfz15_8
         try clear hfz15_9
         try clear hfz19_0
         try clear hfz19_1
         try clear hfz19_10
         try clear hfz19_2
         try clear hfz19_3
         try clear hfz19_4
         try clear hfz19_5
         try clear hfz19_6
         try clear hfz19_7
         try clear hfz19_8
         try clear hfz19_9
         try clear hfz29_0
         try clear hfz29_1
         try clear hfz29_10
         try clear hfz29_2
         try clear hfz29_3
         try clear hfz29_4
         try clear hfz29_5
         try clear hfz29_6
         try clear hfz29_7
         try clear hfz29_8
         try clear hfz29_9
         try clear hfz31_0
         try clear hfz31_1
         try clear hfz31_10
         try clear hfz31_2
         try clear hfz31_3
         try clear hfz31_4
         try clear hfz31_5
         try clear hfz31_6
         try clear hfz31_7
         try clear hfz31_8
         try clear hfz31_9
         try clear hfz33_0
         try clear hfz33_1
         try clear hfz33_10
         try clear hfz33_2
         try clear hfz33_3
         try clear hfz33_4
         try clear hfz33_5
         try clear hfz33_6
         try clear hfz33_7
         try clear hfz33_8
         try clear hfz33_9
         try clear hfz6_0
         try clear hfz6_1
         try clear hfz6_10
         try clear hfz6_2
         try clear hfz6_3
         try clear hfz6_4
         try clear hfz6_5
         try clear hfz6_6
         try clear hfz6_7
         try clear hfz6_8
         try clear hfz6_9
         try clear hfz8_0
         try clear hfz8_1
         try clear hfz8_10
         try clear hfz8_2
         try clear hfz8_3
         try clear hfz8_4
         try clear hfz8_5
         try clear hfz8_6
         try clear hfz8_7
         try clear hfz8_8
         try clear hfz8_9
         try clear hx292_0
         try clear p2
         try clear p292
         try clear p6
         try clear q292
         obtain ⟨x10_3, x12_3, rfl, HA, HK3, HO_10, HO_11, BK287, HB⟩ := hrel
         cases gk with
         | zero => exact absurd HA.out (by simp [q12_Of.l1])
         | succ k3 =>
          have H := HA.out
          clear HA
          simp only [q12_Of.l1] at H
          by_cases c35 : x12_3 < (t294.length : Int)
          ·rw [if_pos c35] at H
           have c35b0 : decide (x12_3 < (t294.length : Int)) = true := decide_eq_true c35
           clear c35
           by_cases c36 : 0 ≤ x12_3
           ·rw [if_pos c36] at H
            have c36b0 : decide (0 ≤ x12_3) = true := decide_eq_true c36
            clear c36
            by_cases c37 : 0 ≤ (rd t294 x12_3)
            ·rw [if_pos c37] at H
             have c37b0 : decide (0 ≤ (rd t294 x12_3)) = true := decide_eq_true c37
             clear c37
             by_cases c38 : (rd t294 x12_3) < (l0_4.length : Int)
             ·rw [if_pos c38] at H
              have c38b0 : decide ((rd t294 x12_3) < (l0_4.length : Int)) = true := decide_eq_true c38
              clear c38
              replace H := Option.bind_eq_some_iff.mp H
              obtain ⟨⟨t299, t300, t301, t302, t303, t304, t305, t306, t307⟩, A390, H⟩ := H
              replace H : (if x10_3.length < 1353245080339 then (q12_Of.l1 k3 a1 x8_2 (x10_3 ++ [(⟨t299, (⟨t300, t301, t302⟩ : S23), t303, t304, t305, t306, t307⟩ : S26)]) t294 (wrap64 (x12_3 + 1)) l0_0 a0_1 l0_2 l0_3 l0_4 l0_5 l0_6 a0_7 l0_8 l0_9 a0_10) else (none)) = some (r1, r2) := H
              have A39 := Asd.mk A390
              clear A390
              by_cases c40 : x10_3.length < 1353245080339
              ·rw [if_pos c40] at H
               have LMc40 := Asd.mk c40
               clear c40
               obtain ⟨y310, hy310⟩ : ∃ y_ : List (S26), y_ = (x10_3 ++ [(⟨t299, (⟨t300, t301, t302⟩ : S23), t303, t304, t305, t306, t307⟩ : S26)]) := ⟨_, rfl⟩
               replace H : (q12_Of.l1 k3 a1 x8_2 y310 t294 (wrap64 (x12_3 + 1)) l0_0 a0_1 l0_2 l0_3 l0_4 l0_5 l0_6 a0_7 l0_8 l0_9 a0_10) = some (r1, r2) := by first | (rw [hy310]; with_reducible exact H) | (have H2_ := (Option.bind_some _ _).symm.trans H; rw [hy310]; with_reducible exact H2_) | (have H2_ := (Option.bind_some _ _).symm.trans H; with_reducible exact H2_) | with_reducible exact H | (rw [hy310]; exact H) | exact H
               have Ny310 := Asd.mk hy310
               clear hy310
               have H' := Asd.mk H
               clear H
               obtain ⟨Ao41, co41, eo41⟩ := Kd.R_slice HO_11.out
               subst eo41
               try go_wp2
               have n0_ := Asd.mk (Kd.N_drew HO_10.out)
               have n1_ := Asd.mk (Kd.R_drew HO_11.out)
               have n2_ := Asd.mk (bkD BK287.out)
               have n3_ := Asd.mk (blD HB.out)
               clear HO_10 HO_11 BK287 HB
               have HO_10 := n0_
               have HO_11 := n1_
               have BK287 := n2_
               have HB := n3_
               clear n0_ n1_ n2_ n3_
               have p297 : 0 ≤ (x12_3 : Int) := of_decide_eq_true (by first | (with_reducible assumption) | assumption)
               have q297 : x12_3 < (t294.length : Int) := of_decide_eq_true (by first | (with_reducible assumption) | assumption)
               obtain ⟨ad297, e297, hx297_0⟩ := Kd.at_int (Kd.R_reads' HO_11.out).2.2 x12_3 p297 q297
               cases e297
               replace p297 := eq_true p297
               replace q297 := eq_true q297
               have p298 : 0 ≤ ((rd t294 x12_3) : Int) := of_decide_eq_true (by first | (with_reducible assumption) | assumption)
               have q298 : (rd t294 x12_3) < (l0_4.length : Int) := of_decide_eq_true (by first | (with_reducible assumption) | assumption)
               obtain ⟨ad298, A298_8, c298_8, e298, hx298_0, hx298_1, hx298_2, hx298_3, hx298_4, hx298_5, hx298_6, hx298_7, hx298_8, hl298_8, hi298_8⟩ := at_T26 HR0_4.out (rd t294 x12_3) p298 q298
               have hw298_8 := hx298_8
               have hw298_7 := hx298_7
               have hw298_6 := hx298_6
               have hw298_5 := hx298_5
               have hw298_4 := hx298_4
               have hw298_3 := hx298_3
               have hw298_2 := hx298_2
               have hw298_1 := hx298_1
               have hw298_0 := hx298_0
               cases e298
               replace hx298_0 := (HB.out.cell (World.block_lt_of_cell? w _ hx298_0)).trans hx298_0
               replace hx298_1 := (HB.out.cell (World.block_lt_of_cell? w _ hx298_1)).trans hx298_1
               replace hx298_2 := (HB.out.cell (World.block_lt_of_cell? w _ hx298_2)).trans hx298_2
               replace hx298_3 := (HB.out.cell (World.block_lt_of_cell? w _ hx298_3)).trans hx298_3
               replace hx298_4 := (HB.out.cell (World.block_lt_of_cell? w _ hx298_4)).trans hx298_4
               replace hx298_5 := (HB.out.cell (World.block_lt_of_cell? w _ hx298_5)).trans hx298_5
               replace hx298_6 := (HB.out.cell (World.block_lt_of_cell? w _ hx298_6)).trans hx298_6
               replace hx298_7 := (HB.out.cell (World.block_lt_of_cell? w _ hx298_7)).trans hx298_7
               replace hx298_8 := (HB.out.cell (World.block_lt_of_cell? w _ hx298_8)).trans hx298_8
               have HR298_8 := Asd.mk hi298_8
               have HC298_8 := Asd.mk hl298_8
               clear hi298_8 hl298_8
               replace p298 := eq_true p298
               replace q298 := eq_true q298
               refine start_ (n := 14) (S := fun w' => w'.cell? ⟨gb287, 0, none⟩ = some (.slice A0_0 l0_0.length c0_0) ∧ w'.cell? ⟨gb287, 1, none⟩ = some (.int .i64 a0_1) ∧ w'.cell? ⟨gb287, 2, none⟩ = some (.slice A0_2 l0_2.length c0_2) ∧ w'.cell? ⟨gb287, 3, none⟩ = some (.slice A0_3 l0_3.length c0_3) ∧ w'.cell? ⟨gb287, 4, none⟩ = some (.slice (some ad298) l0_4.length c0_4) ∧ w'.cell? ⟨gb287, 5, none⟩ = some (.slice A0_5 l0_5.length c0_5) ∧ w'.cell? ⟨gb287, 6, none⟩ = some (.slice A0_6 l0_6.length c0_6) ∧ w'.cell? ⟨gb287, 7, none⟩ = some (.bool a0_7) ∧ w'.cell? ⟨gb287, 8, none⟩ = some (.slice A0_8 l0_8.length c0_8) ∧ w'.cell? ⟨gb287, 9, none⟩ = some (.slice A0_9 l0_9.length c0_9) ∧ w'.cell? ⟨gb287, 10, none⟩ = some (.bool a0_10) ∧ w'.cell? (ad297.add (x12_3).toNat) = some (.int .i64 (rd t294 x12_3)) ∧ w'.cell? (ad298.add (((rd t294 x12_3)).toNat * 9)) = some (.int .i64 ((rd_T26 l0_4 (rd t294 x12_3)).f0)) ∧ w'.cell? ⟨(ad298.add (((rd t294 x12_3)).toNat * 9)).block, (ad298.add (((rd t294 x12_3)).toNat * 9)).off + 1, none⟩ = some (.int .i64 ((rd_T26 l0_4 (rd t294 x12_3)).f1.f0)) ∧ w'.cell? ⟨(ad298.add (((rd t294 x12_3)).toNat * 9)).block, (ad298.add (((rd t294 x12_3)).toNat * 9)).off + 2, none⟩ = some (.int .i64 ((rd_T26 l0_4 (rd t294 x12_3)).f1.f1)) ∧ w'.cell? ⟨(ad298.add (((rd t294 x12_3)).toNat * 9)).block, (ad298.add (((rd t294 x12_3)).toNat * 9)).off + 3, none⟩ = some (.string ((rd_T26 l0_4 (rd t294 x12_3)).f1.f2)) ∧ w'.cell? ⟨(ad298.add (((rd t294 x12_3)).toNat * 9)).block, (ad298.add (((rd t294 x12_3)).toNat * 9)).off + 4, none⟩ = some (.int .i64 ((rd_T26 l0_4 (rd t294 x12_3)).f2)) ∧ w'.cell? ⟨(ad298.add (((rd t294 x12_3)).toNat * 9)).block, (ad298.add (((rd t294 x12_3)).toNat * 9)).off + 5, none⟩ = some (.int .i64 ((rd_T26 l0_4 (rd t294 x12_3)).f3)) ∧ w'.cell? ⟨(ad298.add (((rd t294 x12_3)).toNat * 9)).block, (ad298.add (((rd t294 x12_3)).toNat * 9)).off + 6, none⟩ = some (.int .i64 ((rd_T26 l0_4 (rd t294 x12_3)).f4)) ∧ w'.cell? ⟨(ad298.add (((rd t294 x12_3)).toNat * 9)).block, (ad298.add (((rd t294 x12_3)).toNat * 9)).off + 7, none⟩ = some (.string ((rd_T26 l0_4 (rd t294 x12_3)).f5)) ∧ w'.cell? ⟨(ad298.add (((rd t294 x12_3)).toNat * 9)).block, (ad298.add (((rd t294 x12_3)).toNat * 9)).off + 8, none⟩ = some (.slice A298_8 ((rd_T26 l0_4 (rd t294 x12_3)).f6).length c298_8)) (ds := [11, 12]) #[false, false, false, false, false, false, false, false, false, false, false, false, false, false] (by kernel_rfl) rfl rfl ⟨(bkC BK287.out 0).trans rfl, (bkC BK287.out 1).trans rfl, (bkC BK287.out 2).trans rfl, (bkC BK287.out 3).trans rfl, (bkC BK287.out 4).trans rfl, (bkC BK287.out 5).trans rfl, (bkC BK287.out 6).trans rfl, (bkC BK287.out 7).trans rfl, (bkC BK287.out 8).trans rfl, (bkC BK287.out 9).trans rfl, (bkC BK287.out 10).trans rfl, hx297_0, ((HB.out.cell (World.block_lt_of_cell? w _ hw298_0)).trans hw298_0), ((HB.out.cell (World.block_lt_of_cell? w _ hw298_1)).trans hw298_1), ((HB.out.cell (World.block_lt_of_cell? w _ hw298_2)).trans hw298_2), ((HB.out.cell (World.block_lt_of_cell? w _ hw298_3)).trans hw298_3), ((HB.out.cell (World.block_lt_of_cell? w _ hw298_4)).trans hw298_4), ((HB.out.cell (World.block_lt_of_cell? w _ hw298_5)).trans hw298_5), ((HB.out.cell (World.block_lt_of_cell? w _ hw298_6)).trans hw298_6), ((HB.out.cell (World.block_lt_of_cell? w _ hw298_7)).trans hw298_7), ((HB.out.cell (World.block_lt_of_cell? w _ hw298_8)).trans hw298_8)⟩ (fun hHeld => ?_); refine with_tabW q12_Of.tab17 q12_Of.bits17 (fun HT_ HW_ => ?_)
               generalize wr.drew = w42 at HO_10 HO_11 BK287 HB HR298_8 hx297_0 hx298_0 hx298_1 hx298_2 hx298_3 hx298_4 hx298_5 hx298_6 hx298_7 hx298_8 hHeld ⊢
               refine pure_ (i := 0) (N := some 79) (v := ?_) (a' := ?_) #[true, false, false, false, false, false, false, false, false, false, false, false, false, false] rfl rfl (any_of HT_.out (by kernel_rfl)) (fun _ _ _ h => h) (Or.inl ⟨by rfl, ?_⟩) ?_ ?_
               rotate_left
               ·intro w'
                go_simp
                with_reducible rfl
               rotate_left
               ·simp only [Act.put, List.setIfInBounds_toArray, List.set_cons_zero, List.set_cons_succ, i64_w, i32_w]
                rfl
               refine pure_ (i := 1) (N := some 80) (v := ?_) (a' := ?_) #[true, true, false, false, false, false, false, false, false, false, false, false, false, false] rfl rfl (any_of HT_.out (by kernel_rfl)) (fun _ _ _ h => h) (Or.inl ⟨by rfl, ?_⟩) ?_ ?_
               rotate_left
               ·intro w'
                go_simp
                with_reducible rfl
               rotate_left
               ·simp only [Act.put, List.setIfInBounds_toArray, List.set_cons_zero, List.set_cons_succ, i64_w, i32_w]
                rfl
               refine pure_ (i := 3) (N := some 82) (v := ?_) (a' := ?_) #[true, true, false, true, false, false, false, false, false, false, false, false, false, false] rfl rfl (any_of HT_.out (by kernel_rfl)) (fun _ _ _ h => h) (Or.inl ⟨by rfl, ?_⟩) ?_ ?_
               rotate_left
               ·intro w'
                go_simp
                with_reducible rfl
               rotate_left
               ·simp only [Act.put, List.setIfInBounds_toArray, List.set_cons_zero, List.set_cons_succ, i64_w, i32_w]
                rfl
               refine pure_ (i := 4) (N := some 83) (v := ?_) (a' := ?_) #[true, true, false, true, true, false, false, false, false, false, false, false, false, false] rfl rfl (any_of HT_.out (by kernel_rfl)) (fun _ _ _ h => h) (Or.inl ⟨by rfl, ?_⟩) ?_ ?_
               rotate_left
               ·intro w'
                go_simp
                with_reducible rfl
               rotate_left
               ·simp only [Act.put, List.setIfInBounds_toArray, List.set_cons_zero, List.set_cons_succ, i64_w, i32_w]
                rfl
               refine pure_ (i := 5) (N := some 84) (v := ?_) (a' := ?_) #[true, true, false, true, true, true, false, false, false, false, false, false, false, false] rfl rfl (any_of HT_.out (by kernel_rfl)) (fun _ _ _ h => h) (Or.inl ⟨by rfl, ?_⟩) ?_ ?_
               rotate_left
               ·intro w'
                go_simp
                with_reducible rfl
               rotate_left
               ·simp only [Act.put, List.setIfInBounds_toArray, List.set_cons_zero, List.set_cons_succ, i64_w, i32_w]
                rfl
               refine pure_ (i := 9) (N := some 88) (v := ?_) (a' := ?_) #[true, true, false, true, true, true, false, false, false, true, false, false, false, false] rfl rfl (any_of HT_.out (by kernel_rfl)) (fun _ _ _ h => h) (Or.inl ⟨by rfl, ?_⟩) ?_ ?_
               rotate_left
               ·intro w'
                go_simp
                with_reducible rfl
               rotate_left
               ·simp only [Act.put, List.setIfInBounds_toArray, List.set_cons_zero, List.set_cons_succ, i64_w, i32_w]
                rfl
               refine take_ (i := 2) (N := some 81) (v := ?_) (a' := ?_) #[true, true, true, true, true, true, false, false, false, true, false, false, false, false] rfl rfl (take_ofW HT_.out HW_.out (by kernel_rfl)) (fun _ _ _ h => h) (Or.inl ⟨by rfl, ?_⟩) hHeld ?_ ?_
               rotate_left
               ·rintro w' ⟨s0, s1, s2, s3, s4, s5, s6, s7, s8, s9, s10, s11, s12, s13, s14, s15, s16, s17, s18, s19, s20⟩
                go_simp
                with_reducible rfl
               rotate_left
               ·simp only [Act.put, List.setIfInBounds_toArray, List.set_cons_zero, List.set_cons_succ, i64_w, i32_w]
                rfl
               refine take_ (i := 6) (N := some 85) (v := ?_) (a' := ?_) #[true, true, true, true, true, true, true, false, false, true, false, false, false, false] rfl rfl (take_ofW HT_.out HW_.out (by kernel_rfl)) (fun _ _ _ h => h) (Or.inl ⟨by rfl, ?_⟩) hHeld ?_ ?_
               rotate_left
               ·rintro w' ⟨s0, s1, s2, s3, s4, s5, s6, s7, s8, s9, s10, s11, s12, s13, s14, s15, s16, s17, s18, s19, s20⟩
                go_simp
                with_reducible rfl
               rotate_left
               ·simp only [Act.put, List.setIfInBounds_toArray, List.set_cons_zero, List.set_cons_succ, i64_w, i32_w]
                rfl
               refine pure_ (i := 7) (N := some 86) (v := ?_) (a' := ?_) #[true, true, true, true, true, true, true, true, false, true, false, false, false, false] rfl rfl (any_of HT_.out (by kernel_rfl)) (fun _ _ _ h => h) (Or.inl ⟨by rfl, ?_⟩) ?_ ?_
               rotate_left
               ·intro w'
                go_simp
                with_reducible rfl
               rotate_left
               ·simp only [Act.put, List.setIfInBounds_toArray, List.set_cons_zero, List.set_cons_succ, i64_w, i32_w]
                rfl
               refine take_ (i := 8) (N := some 87) (v := ?_) (a' := ?_) #[true, true, true, true, true, true, true, true, true, true, false, false, false, false] rfl rfl (take_ofW HT_.out HW_.out (by kernel_rfl)) (fun _ _ _ h => h) (Or.inl ⟨by rfl, ?_⟩) hHeld ?_ ?_
               rotate_left
               ·rintro w' ⟨s0, s1, s2, s3, s4, s5, s6, s7, s8, s9, s10, s11, s12, s13, s14, s15, s16, s17, s18, s19, s20⟩
                go_simp
                with_reducible rfl
               rotate_left
               ·simp only [Act.put, List.setIfInBounds_toArray, List.set_cons_zero, List.set_cons_succ, i64_w, i32_w]
                rfl
               refine one_ (i := 10) (N := some 89) #[true, true, true, true, true, true, true, true, true, true, true, false, false, false] rfl rfl (one_of HT_.out (by kernel_rfl)) (by decide) (fun K hK => ?_)
               refine goes_ Tryd.func45 (by kernel_rfl) rfl #[.agg #[.int .i64 ((rd_T26 l0_4 (rd t294 x12_3)).f0), .int .i64 ((rd_T26 l0_4 (rd t294 x12_3)).f1.f0), .int .i64 ((rd_T26 l0_4 (rd t294 x12_3)).f1.f1), .string ((rd_T26 l0_4 (rd t294 x12_3)).f1.f2), .int .i64 ((rd_T26 l0_4 (rd t294 x12_3)).f2), .int .i64 ((rd_T26 l0_4 (rd t294 x12_3)).f3), .int .i64 ((rd_T26 l0_4 (rd t294 x12_3)).f4), .string ((rd_T26 l0_4 (rd t294 x12_3)).f5), .slice A298_8 ((rd_T26 l0_4 (rd t294 x12_3)).f6).length c298_8], .int .i64 a1] (by rfl) rfl rfl (by (try simp only [List.map_toArray, List.map_cons, List.map_nil]); first | done | rfl | (simp only [List.length_drop, List.length_take]; rfl)) ?_
               with_reducible refine (q12_ranked.calls k3 ((rd_T26 l0_4 (rd t294 x12_3)).f0) ((rd_T26 l0_4 (rd t294 x12_3)).f1.f0) ((rd_T26 l0_4 (rd t294 x12_3)).f1.f1) ((rd_T26 l0_4 (rd t294 x12_3)).f1.f2) ((rd_T26 l0_4 (rd t294 x12_3)).f2) ((rd_T26 l0_4 (rd t294 x12_3)).f3) ((rd_T26 l0_4 (rd t294 x12_3)).f4) ((rd_T26 l0_4 (rd t294 x12_3)).f5) _ _ ((rd_T26 l0_4 (rd t294 x12_3)).f6) a1 t299 t300 t301 t302 t303 t304 t305 t306 t307 _ ?side1 ?side2 A39.out).mono ?_
               (case side1 => repeat (first | exact (Kd.C_below HR298_8.out HB.out) | (with_reducible refine Kd.C_alloc ?_ _) | (with_reducible refine Kd.C_drewN ?_ _) | (with_reducible refine Kd.C_drew ?_)))
               (case side2 => exact HC298_8.out)
               rintro e w43 ⟨v308, rfl, ho0, hb⟩
               have HS11_ := (hb.cell (World.block_lt_of_cell? _ _ (hHeld.2.2.2.2.2.2.2.2.2.2.2.1))).trans (hHeld.2.2.2.2.2.2.2.2.2.2.2.1)
               refine ⟨_, rfl, ?_⟩
               have n0_ := Asd.mk (Kd.N_elder' (by (with_reducible repeat (first | apply Kd.N_alloc | apply Kd.N_drewN | apply Kd.N_drew)); exact HO_10.out) (Kd.R_base ho0) hb)
               have n1_ := Asd.mk (Kd.R_below (by (with_reducible repeat (first | apply Kd.R_alloc | apply Kd.R_drewN | apply Kd.R_drew)); exact HO_11.out) hb)
               have n2_ := Asd.mk (Kd.N_lower (Kd.N_mono (ok' := fun k_ => some k_ ≠ (u10 : Value).ownBlock ∧ some k_ ≠ (.slice (some ad297) t294.length co41 : Value).ownBlock ∧ k_ ≠ gb287) (Kd.R_N (Kd.R_bound ho0)) (fun k_ hk_ => ⟨(Kd.fresh' (Kd.N_lt (by (with_reducible repeat (first | apply Kd.N_alloc | apply Kd.N_drewN | apply Kd.N_drew)); exact HO_10.out)) k_ hk_.2.1), (Kd.fresh' (Kd.R_lt (by (with_reducible repeat (first | apply Kd.R_alloc | apply Kd.R_drewN | apply Kd.R_drew)); exact HO_11.out)) k_ hk_.2.1), (Kd.freshB (g := gb287) (o := .cells #[.slice A0_0 l0_0.length c0_0, .int .i64 a0_1, .slice A0_2 l0_2.length c0_2, .slice A0_3 l0_3.length c0_3, .slice (some ad298) l0_4.length c0_4, .slice A0_5 l0_5.length c0_5, .slice A0_6 l0_6.length c0_6, .bool a0_7, .slice A0_8 l0_8.length c0_8, .slice A0_9 l0_9.length c0_9, .bool a0_10] 43 (0, 0)) (by exact BK287.out) k_ hk_.2.1)⟩)) (below_size (by repeat (first | (with_reducible first | exact HB.out | apply blA | apply pbN | apply blD | refine blS ?_ GE287.out) | exact HB.out))))
               have n3_ := Asd.mk (bB hb BK287.out)
               have n4_ := Asd.mk (bS hb HB.out)
               clear HO_10 HO_11 BK287 HB
               have HO_10 := n0_
               have HO_11 := n1_
               have HO309 := n2_
               have BK287 := n3_
               have HB := n4_
               clear n0_ n1_ n2_ n3_ n4_
               (try clear hb)
               (try clear hb2)
               (try clear hk)
               (try clear hi)
               (try clear ho0)
               obtain ⟨Ao45, co45, eo45⟩ := Kd.N_slice HO309.out
               (first | subst eo45 | (injection eo45 with f1_ f2_ f3_; have f4_ := f1_.symm; have f5_ := f3_.symm; clear f1_ f2_ f3_; subst f4_; subst f5_))
               refine hK.out _ _ ⟨(bkC BK287.out 0).trans rfl, (bkC BK287.out 1).trans rfl, (bkC BK287.out 2).trans rfl, (bkC BK287.out 3).trans rfl, (bkC BK287.out 4).trans rfl, (bkC BK287.out 5).trans rfl, (bkC BK287.out 6).trans rfl, (bkC BK287.out 7).trans rfl, (bkC BK287.out 8).trans rfl, (bkC BK287.out 9).trans rfl, (bkC BK287.out 10).trans rfl, HS11_, ((HB.out.cell (World.block_lt_of_cell? w _ hw298_0)).trans hw298_0), ((HB.out.cell (World.block_lt_of_cell? w _ hw298_1)).trans hw298_1), ((HB.out.cell (World.block_lt_of_cell? w _ hw298_2)).trans hw298_2), ((HB.out.cell (World.block_lt_of_cell? w _ hw298_3)).trans hw298_3), ((HB.out.cell (World.block_lt_of_cell? w _ hw298_4)).trans hw298_4), ((HB.out.cell (World.block_lt_of_cell? w _ hw298_5)).trans hw298_5), ((HB.out.cell (World.block_lt_of_cell? w _ hw298_6)).trans hw298_6), ((HB.out.cell (World.block_lt_of_cell? w _ hw298_7)).trans hw298_7), ((HB.out.cell (World.block_lt_of_cell? w _ hw298_8)).trans hw298_8)⟩ (fun hHeld => ?_)
               clear hK K
               refine norm_ (a' := ?_) ?_ ?_
               rotate_left
               ·show Act.put _ (some 89) _ = _
                simp only [Act.put, List.setIfInBounds_toArray, List.set_cons_zero, List.set_cons_succ, i64_w, i32_w]
                rfl
               refine last_ (i := 11) (N := some 90) #[true, true, true, true, true, true, true, true, true, true, true, true, false, false] rfl rfl (one_of HT_.out (by kernel_rfl)) (by decide) (fun K hK => ?_)
               refine value_ (w1 := ?_) (v := ?_) (by rfl) rfl ?_ ?_
               rotate_left 2
               ·go_simp
                constructor
                ·rfl
                ·rfl
               refine hK.out _ _ ?_
               clear hK K
               refine norm_ (a' := ?_) ?_ ?_
               rotate_left
               ·show Act.put _ (some 90) _ = _
                simp only [Act.put, List.setIfInBounds_toArray, List.set_cons_zero, List.set_cons_succ, i64_w, i32_w]
                rfl
               refine last_ (i := 12) (N := some 91) #[true, true, true, true, true, true, true, true, true, true, true, true, true, false] rfl rfl (one_of HT_.out (by kernel_rfl)) (by decide) (fun K hK => ?_)
               refine Kd.N_append_step k26 (w0 := w) w.heap.size (by rfl) (.tmp 79) (.tmp 90) 24 26 (.agg #[(.int .i64 0), (.int .i64 0), (.int .i64 0), (.string ⟨#[]⟩), (.int .i64 0), (.int .i64 0), (.int .i64 0), (.string ⟨#[]⟩), (.slice none 0 0)]) 104 rfl Tryd.underlying24 info26 rfl (by decide) (by omega) u10 x10_3 (⟨t299, (⟨t300, t301, t302⟩ : S23), t303, t304, t305, t306, t307⟩ : S26) [.int .i64 t299, .int .i64 t300, .int .i64 t301, .string t302, .int .i64 t303, .int .i64 t304, .int .i64 t305, .string t306, .slice Ao45 t307.length co45] (fun k_ => some k_ ≠ (.slice (some ad297) t294.length co41 : Value).ownBlock ∧ k_ ≠ gb287) (fun k_ => ((fun k_ => some k_ ≠ (.slice (some ad297) t294.length co41 : Value).ownBlock ∧ k_ ≠ gb287)) k_ ∧ some k_ ≠ (u10 : Value).ownBlock) rfl rfl ?aP (fun _ hk => hk) ?aF ?aO ?aB ?aS ?aL ?_
               (case aP => exact (k26_mkF _ _ (⟨t299, (⟨t300, t301, t302⟩ : S23), t303, t304, t305, t306, t307⟩ : S26) (Kd.N_reads' (Kd.N_mono (ok' := (fun k_ => ((fun k_ => some k_ ≠ (.slice (some ad297) t294.length co41 : Value).ownBlock ∧ k_ ≠ gb287)) k_ ∧ some k_ ≠ (u10 : Value).ownBlock)) (HO309.out) (fun k_ hk => ⟨⟨hk.2.1, hk.2.2⟩, hk.1⟩))).2.1 (Kd.N_F (Kd.N_mono (ok' := (fun k_ => ((fun k_ => some k_ ≠ (.slice (some ad297) t294.length co41 : Value).ownBlock ∧ k_ ≠ gb287)) k_ ∧ some k_ ≠ (u10 : Value).ownBlock)) (HO309.out) (fun k_ hk => ⟨⟨hk.2.1, hk.2.2⟩, hk.1⟩)))))
               (case aB => exact (by repeat (first | (with_reducible first | exact HB.out | apply blA | apply pbN | apply blD | refine blS ?_ GE287.out) | exact HB.out)))
               (case aF => exact (fun k_ hk => ⟨Kd.fresh' (Kd.R_lt (by (with_reducible repeat (first | apply Kd.R_alloc | apply Kd.R_drewN | apply Kd.R_drew)); exact HO_11.out)) k_ hk, Kd.freshB (g := gb287) (o := .cells #[.slice A0_0 l0_0.length c0_0, .int .i64 a0_1, .slice A0_2 l0_2.length c0_2, .slice A0_3 l0_3.length c0_3, .slice (some ad298) l0_4.length c0_4, .slice A0_5 l0_5.length c0_5, .slice A0_6 l0_6.length c0_6, .bool a0_7, .slice A0_8 l0_8.length c0_8, .slice A0_9 l0_9.length c0_9, .bool a0_10] 43 (0, 0)) (by exact BK287.out) k_ hk⟩))
               (case aO => exact (by (with_reducible repeat (first | apply Kd.N_alloc | apply Kd.N_drewN | apply Kd.N_drew)); exact Kd.N_mono HO_10.out (fun _ hk => ⟨hk.1.1, hk.1.2⟩)))
               (case aS => exact (below_size (by repeat (first | (with_reducible first | exact HB.out | apply blA | apply pbN | apply blD | refine blS ?_ GE287.out) | exact HB.out))))
               (case aL => have := LMc40.out; omega)
               intro v311 w44 ho hb hg hat
               rw [← Ny310.out] at ho
               have n0_ := Asd.mk (Kd.R_over' (by (with_reducible repeat (first | apply Kd.R_alloc | apply Kd.R_drewN | apply Kd.R_drew)); exact HO_11.out) (Kd.N_typed (by (with_reducible repeat (first | apply Kd.N_alloc | apply Kd.N_drewN | apply Kd.N_drew)); exact HO_10.out)) (by decide) hg)
               have n1_ := Asd.mk (blk_grown (g := gb287) (o := .cells #[.slice A0_0 l0_0.length c0_0, .int .i64 a0_1, .slice A0_2 l0_2.length c0_2, .slice A0_3 l0_3.length c0_3, .slice (some ad298) l0_4.length c0_4, .slice A0_5 l0_5.length c0_5, .slice A0_6 l0_6.length c0_6, .bool a0_7, .slice A0_8 l0_8.length c0_8, .slice A0_9 l0_9.length c0_9, .bool a0_10] 43 (0, 0)) (by exact BK287.out) hg (Kd.N_ne HO_10.out BK287.out (by decide)))
               have n2_ := Asd.mk (hb)
               have n3_ := Asd.mk (ho)
               clear HO_11 BK287 HB HO_10 HO309
               have HO_11 := n0_
               have BK287 := n1_
               have HB := n2_
               have HO312 := n3_
               clear n0_ n1_ n2_ n3_ ho hb hg hat
               refine hK.out _ _ ?_
               clear hK K
               refine norm_ (a' := ?_) ?_ ?_
               rotate_left
               ·show Act.put _ (some 91) _ = _
                simp only [Act.put, List.setIfInBounds_toArray, List.set_cons_zero, List.set_cons_succ, i64_w, i32_w]
                rfl
               refine pure_ (i := 13) (N := some 10) (v := ?_) (a' := ?_) #[true, true, true, true, true, true, true, true, true, true, true, true, true, true] rfl rfl (any_of HT_.out (by kernel_rfl)) (fun _ _ _ h => h) (Or.inl ⟨by rfl, ?_⟩) ?_ ?_
               rotate_left
               ·intro w'
                go_simp
                with_reducible rfl
               rotate_left
               ·simp only [Act.put, List.setIfInBounds_toArray, List.set_cons_zero, List.set_cons_succ, i64_w, i32_w]
                rfl
               refine done_ (done_of HT_.out (by kernel_rfl)) ?_
               try go_wp2
               go_roundg k3
               case measure => have := HJ2.out; have := HK2.out; have := HK3.out; omega
               case rel => exact ⟨(y310), (wrap64 (x12_3 + 1)), (by first | rfl | (simp; done) | (simp [*]; done)), H', ⟨by have := HJ2.out; have := HK2.out; have := HK3.out; omega⟩, ⟨by (with_reducible repeat (first | apply Kd.N_alloc | apply Kd.N_drewN | apply Kd.N_drew)); exact HO312.out⟩, ⟨by (with_reducible repeat (first | apply Kd.R_alloc | apply Kd.R_drewN | apply Kd.R_drew)); exact HO_11.out⟩, ⟨by exact BK287.out⟩, ⟨by repeat (first | (with_reducible first | exact HB.out | apply blA | apply pbN | apply blD | refine blS ?_ GE287.out) | exact HB.out)⟩⟩
              ·rw [if_neg c40] at H
               exact absurd H (by simp)
             ·rw [if_neg c38] at H
              exact absurd H (by simp)
            ·rw [if_neg c37] at H
             exact absurd H (by simp)
           ·rw [if_neg c36] at H
            exact absurd H (by simp)
          ·rw [if_neg c35] at H
           have c35b0 : decide (x12_3 < (t294.length : Int)) = false := decide_eq_false c35
           clear c35
           replace H := Option.bind_eq_some_iff.mp H
           obtain ⟨⟨t313, t316⟩, A460, H⟩ := H
           replace H : (q12_Of.l2 k3 x8_2 t313 0) = some (r1, r2) := H
           have A46 := Asd.mk A460
           clear A460
           have H' := Asd.mk H
           clear H
           obtain ⟨Ao47, co47, eo47⟩ := Kd.R_slice HO_11.out
           subst eo47
           obtain ⟨Ao48, co48, eo48⟩ := Kd.N_slice HO_10.out
           subst eo48
           go_wp2_with (first | ((with_reducible refine gate_callee (f := 13) rfl ?_); refine goesL_ (some 94) rfl rfl Tryd.func13 (by kernel_rfl) rfl #[.slice Ao48 x10_3.length co48] rfl (by (try simp only [List.map_toArray, List.map_cons, List.map_nil]); first | done | rfl | (simp only [List.length_drop, List.length_take]; rfl)) ?_; (with_reducible refine (q12_Conds.calls k3 _ _ x10_3 t313 t316 _ ?side1 ?side2 A46.out).mono ?_); (case side1 => repeat (first | exact (Kd.N_reads' HO_10.out).2.2 | (with_reducible refine Kd.C_alloc ?_ _) | (with_reducible refine Kd.C_drewN ?_ _) | (with_reducible refine Kd.C_drew ?_))); (case side2 => exact (Kd.N_reads' HO_10.out).2.1); rintro e w49 ⟨v314, rfl, ho0, hb⟩; refine ⟨_, rfl, ?_⟩; have n0_ := Asd.mk (Kd.N_elder' (by (with_reducible repeat (first | apply Kd.N_alloc | apply Kd.N_drewN | apply Kd.N_drew)); exact HO_10.out) (Kd.N_base ho0) hb); have n1_ := Asd.mk (Kd.R_below (by (with_reducible repeat (first | apply Kd.R_alloc | apply Kd.R_drewN | apply Kd.R_drew)); exact HO_11.out) hb); have n2_ := Asd.mk (Kd.N_lower (Kd.N_mono (ok' := fun k_ => some k_ ≠ (.slice Ao48 x10_3.length co48 : Value).ownBlock ∧ some k_ ≠ (.slice Ao47 t294.length co47 : Value).ownBlock ∧ k_ ≠ gb287) ho0 (fun k_ hk_ => ⟨(Kd.fresh' (Kd.N_lt (by (with_reducible repeat (first | apply Kd.N_alloc | apply Kd.N_drewN | apply Kd.N_drew)); exact HO_10.out)) k_ hk_), (Kd.fresh' (Kd.R_lt (by (with_reducible repeat (first | apply Kd.R_alloc | apply Kd.R_drewN | apply Kd.R_drew)); exact HO_11.out)) k_ hk_), (Kd.freshB (g := gb287) (o := .cells #[.slice A0_0 l0_0.length c0_0, .int .i64 a0_1, .slice A0_2 l0_2.length c0_2, .slice A0_3 l0_3.length c0_3, .slice A0_4 l0_4.length c0_4, .slice A0_5 l0_5.length c0_5, .slice A0_6 l0_6.length c0_6, .bool a0_7, .slice A0_8 l0_8.length c0_8, .slice A0_9 l0_9.length c0_9, .bool a0_10] 43 (0, 0)) (by exact BK287.out) k_ hk_)⟩)) (below_size (by repeat (first | (with_reducible first | exact HB.out | apply blA | apply pbN | apply blD | refine blS ?_ GE287.out) | exact HB.out)))); have n3_ := Asd.mk (bB hb BK287.out); have n4_ := Asd.mk (bS hb HB.out); clear HO_10; clear HO_11; clear BK287; clear HB; have HO_10 := n0_; have HO_11 := n1_; have HO315 := n2_; have BK287 := n3_; have HB := n4_; clear n0_ n1_ n2_ n3_ n4_; (try clear hb); (try clear hb2); (try clear hk); (try clear hi); (try clear ho0)))
           go_loopg [8, 13] k3 (fun kq v8 v13 w' => ∃ (x8_4 : ByteArray) (x13_4 : Int), v8 = .string x8_4 ∧ v13 = .int .i64 x13_4 ∧ Asd (q12_Of.l2 kq x8_4 t313 x13_4 = some (r1, r2)) ∧ Asd (kq ≤ k3) ∧ Asd (Kd.N k26 26 w' w.heap.size (fun k_ => k_ ≠ gb287) v314 t313) ∧ Asd (w'.heap[gb287]? = some (.cells #[(.slice A0_0 l0_0.length c0_0), .int .i64 a0_1, (.slice A0_2 l0_2.length c0_2), (.slice A0_3 l0_3.length c0_3), (.slice A0_4 l0_4.length c0_4), (.slice A0_5 l0_5.length c0_5), (.slice A0_6 l0_6.length c0_6), .bool a0_7, (.slice A0_8 l0_8.length c0_8), (.slice A0_9 l0_9.length c0_9), .bool a0_10] 43 (0, 0))) ∧ Asd (Below w.heap.size w w'))
           case atStart => exact ⟨(x8_2), (0), (by first | rfl | (simp; done) | (simp [*]; done)), (by first | rfl | (simp; done) | (simp [*]; done)), H', ⟨Nat.le_refl _⟩, ⟨by (with_reducible repeat (first | apply Kd.N_alloc | apply Kd.N_drewN | apply Kd.N_drew)); exact Kd.N_mono HO315.out (fun _ hk => hk.2.2)⟩, ⟨by exact BK287.out⟩, ⟨by repeat (first | (with_reducible first | exact HB.out | apply blA | apply pbN | apply blD | refine blS ?_ GE287.out) | exact HB.out)⟩⟩
           case round =>
            clear H'
            try clear c1
            try clear c2
            try clear p2
            try clear q2
            try clear hx2
            try clear c3
            try clear c4
            try clear c5
            try clear c5b0
            try clear p6
            try clear c7
            try clear c7b0
            try clear c9
            try clear c9b0
            try clear c11
            try clear c11b0
            try clear c13
            try clear c13b0
            try clear c13b1
            try clear c16
            try clear c17
            try clear c18
            try clear c19
            try clear c21
            try clear c21b0
            try clear c22
            try clear c22b0
            try clear c22b1
            try clear c24
            try clear c24b0
            try clear c24b1
            try clear c25
            try clear c25b0
            try clear c27
            try clear c27b0
            try clear c27b1
            try clear c27b2
            try clear c28
            try clear c28b0
            try clear c28b1
            try clear c28b2
            try clear c29
            try clear p29
            try clear q29
            try clear hx29
            try clear c35
            try clear c35b0
            try clear c36
            try clear c36b0
            try clear c37
            try clear c37b0
            try clear c38
            try clear c38b0
            try clear c40
            try clear c45
            try clear hcz10_0
            try clear hcz10_1
            try clear hcz10_10
            try clear hcz10_2
            try clear hcz10_3
            try clear hcz10_4
            try clear hcz10_5
            try clear hcz10_6
            try clear hcz10_7
            try clear hcz10_8
            try clear hcz10_9
            try clear hcz12_0
            try clear hcz12_1
            try clear hcz12_10
            try clear hcz12_2
            try clear hcz12_3
            try clear hcz12_4
            try clear hcz12_5
            try clear hcz12_6
            try clear hcz12_7
            try clear hcz12_8
            try clear hcz12_9
            try clear hcz15_0
            try clear hcz15_1
            try clear hcz15_10
            try clear hcz15_2
            try clear hcz15_3
            try clear hcz15_4
            try clear hcz15_5
            try clear hcz15_6
            try clear hcz15_7
            try clear hcz15_8
            try clear hcz15_9
            try clear hcz19_0
            try clear hcz19_1
            try clear hcz19_10
            try clear hcz19_2
            try clear hcz19_3
            try clear hcz19_4
            try clear hcz19_5
            try clear hcz19_6
            try clear hcz19_7
            try clear hcz19_8
            try clear hcz19_9
            try clear hcz29_0
            try clear hcz29_1
            try clear hcz29_10
            try clear hcz29_2
            try clear hcz29_3
            try clear hcz29_4
            try clear hcz29_5
            try clear hcz29_6
            try clear hcz29_7
            try clear hcz29_8
            try clear hcz29_9
            try clear hcz31_0
            try clear hcz31_1
            try clear hcz31_10
            try clear hcz31_2
            try clear hcz31_3
            try clear hcz31_4
            try clear hcz31_5
            try clear hcz31_6
            try clear hcz31_7
            try clear hcz31_8
            try clear hcz31_9
            try clear hcz33_0
            try clear hcz33_1
            try clear hcz33_10
            try clear hcz33_2
            try clear hcz33_3
            try clear hcz33_4
            try clear hcz33_5
            try clear hcz33_6
            try clear hcz33_7
            try clear hcz33_8
            try clear hcz33_9
            try clear hcz6_0
            try clear hcz6_1
            try clear hcz6_10
            try clear hcz6_2
            try clear hcz6_3
            try clear hcz6_4
            try clear hcz6_5
            try clear hcz6_6
            try clear hcz6_7
            try clear hcz6_8
            try clear hcz6_9
            try clear hcz8_0
            try clear hcz8_1
            try clear hcz8_10
            try clear hcz8_2
            try clear hcz8_3
            try clear hcz8_4
            try clear hcz8_5
            try clear hcz8_6
            try clear hcz8_7
            try clear hcz8_8
            try clear hcz8_9
            try clear hfz10_0
            try clear hfz10_1
            try clear hfz10_10
            try clear hfz10_2
            try clear hfz10_3
            try clear hfz10_4
            try clear hfz10_5
            try clear hfz10_6
            try clear hfz10_7
            try clear hfz10_8
            try clear hfz10_9
            try clear hfz12_0
            try clear hfz12_1
            try clear hfz12_10
            try clear hfz12_2
            try clear hfz12_3
            try clear hfz12_4
            try clear hfz12_5
            try clear hfz12_6
            try clear hfz12_7
            try clear hfz12_8
            try clear hfz12_9
            try clear hfz15_0
            try clear hfz15_1
            try clear hfz15_10
            try clear hfz15_2
            try clear hfz15_3
            try clear hfz15_4
            try clear hfz15_5
            try clear hfz15_6
            try clear hfz15_7
            try clear hfz15_8
            try clear hfz15_9
            try clear hfz19_0
            try clear hfz19_1
            try clear hfz19_10
            try clear hfz19_2
            try clear hfz19_3
            try clear hfz19_4
            try clear hfz19_5
            try clear hfz19_6
            try clear hfz19_7
            try clear hfz19_8
            try clear hfz19_9
            try clear hfz29_0
            try clear hfz29_1
            try clear hfz29_10
            try clear hfz29_2
            try clear hfz29_3
            try clear hfz29_4
            try clear hfz29_5
            try clear hfz29_6
            try clear hfz29_7
            try clear hfz29_8
            try clear hfz29_9
            try clear hfz31_0
            try clear hfz31_1
            try clear hfz31_10
            try clear hfz31_2
            try clear hfz31_3
            try clear hfz31_4
            try clear hfz31_5
            try clear hfz31_6
            try clear hfz31_7
            try clear hfz31_8
            try clear hfz31_9
            try clear hfz33_0
            try clear hfz33_1
            try clear hfz33_10
            try clear hfz33_2
            try clear hfz33_3
            try clear hfz33_4
            try clear hfz33_5
            try clear hfz33_6
            try clear hfz33_7
            try clear hfz33_8
            try clear hfz33_9
            try clear hfz6_0
            try clear hfz6_1
            try clear hfz6_10
            try clear hfz6_2
            try clear hfz6_3
            try clear hfz6_4
            try clear hfz6_5
            try clear hfz6_6
            try clear hfz6_7
            try clear hfz6_8
            try clear hfz6_9
            try clear hfz8_0
            try clear hfz8_1
            try clear hfz8_10
            try clear hfz8_2
            try clear hfz8_3
            try clear hfz8_4
            try clear hfz8_5
            try clear hfz8_6
            try clear hfz8_7
            try clear hfz8_8
            try clear hfz8_9
            try clear hx292_0
            try clear hx297_0
            try clear hx298_0
            try clear hx298_1
            try clear hx298_2
            try clear hx298_3
            try clear hx298_4
            try clear hx298_5
            try clear hx298_6
            try clear hx298_7
            try clear hx298_8
            try clear p2
            try clear p29
            try clear p292
            try clear p297
            try clear p298
            try clear p6
            try clear q2
            try clear q29
            try clear q292
            try clear q297
            try clear q298
            obtain ⟨x8_4, x13_4, rfl, rfl, HA, HK4, HO_10, BK287, HB⟩ := hrel
            cases gk with
            | zero => exact absurd HA.out (by simp [q12_Of.l2])
            | succ k4 =>
             have H := HA.out
             clear HA
             simp only [q12_Of.l2] at H
             by_cases c50 : x13_4 < (t313.length : Int)
             ·rw [if_pos c50] at H
              have c50b0 : decide (x13_4 < (t313.length : Int)) = true := decide_eq_true c50
              clear c50
              by_cases c51 : 0 ≤ x13_4
              ·rw [if_pos c51] at H
               have c51b0 : decide (0 ≤ x13_4) = true := decide_eq_true c51
               clear c51
               replace H := Option.bind_eq_some_iff.mp H
               obtain ⟨t318, A520, H⟩ := H
               replace H : (if x8_4.size + t318.size ≤ 9223372036854775807 then (if (x8_4 ++ t318).size + 1 ≤ 9223372036854775807 then (q12_Of.l2 k4 ((x8_4 ++ t318) ++ (⟨#[59]⟩ : ByteArray)) t313 (wrap64 (x13_4 + 1))) else (none)) else (none)) = some (r1, r2) := H
               have A52 := Asd.mk A520
               clear A520
               by_cases c53 : x8_4.size + t318.size ≤ 9223372036854775807
               ·rw [if_pos c53] at H
                have c53b0 := eq_true c53
                have c53b1 : decide (x8_4.size + t318.size ≤ 9223372036854775807) = true := decide_eq_true c53
                try have c53b2 : (9223372036854775807 < x8_4.size + t318.size) = False := eq_false (Nat.not_lt.2 c53)
                try (have c53b3 := c53b2; simp only [ByteArray.size_append] at c53b3)
                try (have c53b4 := c53b0; simp only [ByteArray.size_append] at c53b4)
                by_cases c54 : (x8_4 ++ t318).size + 1 ≤ 9223372036854775807
                ·rw [if_pos c54] at H
                 have c54b0 := eq_true c54
                 have c54b1 : decide ((x8_4 ++ t318).size + 1 ≤ 9223372036854775807) = true := decide_eq_true c54
                 try have c54b2 : (9223372036854775807 < (x8_4 ++ t318).size + 1) = False := eq_false (Nat.not_lt.2 c54)
                 try (have c54b3 := c54b2; simp only [ByteArray.size_append] at c54b3)
                 try (have c54b4 := c54b0; simp only [ByteArray.size_append] at c54b4)
                 have H' := Asd.mk H
                 clear H
                 obtain ⟨Ao55, co55, eo55⟩ := Kd.N_slice HO_10.out
                 subst eo55
                 have p317 : 0 ≤ (x13_4 : Int) := of_decide_eq_true (by first | (with_reducible assumption) | assumption)
                 have q317 : x13_4 < (t313.length : Int) := of_decide_eq_true (by first | (with_reducible assumption) | assumption)
                 obtain ⟨ad317, A317_8, c317_8, e317, hx317_0, hx317_1, hx317_2, hx317_3, hx317_4, hx317_5, hx317_6, hx317_7, hx317_8, hl317_8, hi317_8⟩ := at_T26 (Kd.N_reads' HO_10.out).2.2 x13_4 p317 q317
                 cases e317
                 obtain ⟨ce317, hce317, hMe317, hcc317⟩ := Kd.N_get HO_10.out z26 x13_4 p317 (by first | exact q317 | exact of_decide_eq_true (by first | (with_reducible assumption) | assumption) | (have e_ := (Kd.N_reads' HO_10.out).1; omega))
                 obtain ⟨ua317_8, uc317_8, rfl, ul317_8, ge317_8⟩ := k26_openF hMe317
                 have hv317_8 := hcc317 8 _ rfl
                 rw [add_field _ _ 8 (by omega)] at hv317_8
                 replace hv317_8 := Option.some.inj (hv317_8.symm.trans hx317_8)
                 injection hv317_8 with hva_ hvn_ hvc_
                 rw [hva_] at ge317_8
                 rw [hvc_] at ul317_8
                 have HL317_8 := Asd.mk (show Kd.V k26 26 _ w.heap.size _ _ ((rd_T26 t313 x13_4).f6) from Kd.V_mk ul317_8 ge317_8)
                 clear hva_ hvn_ hvc_ ge317_8 ul317_8 hcc317 hce317
                 have HR317_8 := Asd.mk hi317_8
                 have HC317_8 := Asd.mk hl317_8
                 clear hi317_8 hl317_8
                 replace p317 := eq_true p317
                 replace q317 := eq_true q317
                 go_wp2_with (first | ((with_reducible refine gate_callee (f := 9) rfl ?_); refine goesL_ (some 108) rfl rfl Tryd.func9 (by kernel_rfl) rfl #[.agg #[.int .i64 ((rd_T26 t313 x13_4).f0), .int .i64 ((rd_T26 t313 x13_4).f1.f0), .int .i64 ((rd_T26 t313 x13_4).f1.f1), .string ((rd_T26 t313 x13_4).f1.f2), .int .i64 ((rd_T26 t313 x13_4).f2), .int .i64 ((rd_T26 t313 x13_4).f3), .int .i64 ((rd_T26 t313 x13_4).f4), .string ((rd_T26 t313 x13_4).f5), .slice A317_8 ((rd_T26 t313 x13_4).f6).length c317_8]] rfl (by (try simp only [List.map_toArray, List.map_cons, List.map_nil]); first | done | rfl | (simp only [List.length_drop, List.length_take]; rfl)) ?_; (with_reducible refine (q08_Print.calls ((rd_T26 t313 x13_4).f0) ((rd_T26 t313 x13_4).f1.f0) ((rd_T26 t313 x13_4).f1.f1) ((rd_T26 t313 x13_4).f1.f2) ((rd_T26 t313 x13_4).f2) ((rd_T26 t313 x13_4).f3) ((rd_T26 t313 x13_4).f4) ((rd_T26 t313 x13_4).f5) _ _ ((rd_T26 t313 x13_4).f6) t318 _ ?side1 ?side2 A52.out).mono ?_); (case side1 => repeat (first | exact (by repeat (first | (with_reducible exact HR317_8.out) | (with_reducible refine Kd.C_alloc ?_ _) | (with_reducible refine Kd.C_drewN ?_ _) | (with_reducible refine Kd.C_drew ?_) | exact HR317_8.out)) | (with_reducible refine Kd.C_alloc ?_ _) | (with_reducible refine Kd.C_drewN ?_ _) | (with_reducible refine Kd.C_drew ?_))); (case side2 => exact HC317_8.out); rintro e w56 ⟨rfl, hb⟩; refine ⟨_, rfl, ?_⟩; have n0_ := Asd.mk (Kd.N_below (by (with_reducible repeat (first | apply Kd.N_alloc | apply Kd.N_drewN | apply Kd.N_drew)); exact HO_10.out) hb); have n1_ := Asd.mk (Kd.V_below (by (with_reducible repeat (first | apply Kd.V_alloc | apply Kd.V_drewN | apply Kd.V_drew)); exact HL317_8.out) hb); have n2_ := Asd.mk (bB hb BK287.out); have n3_ := Asd.mk (Kd.C_below (by repeat (first | (with_reducible exact HR317_8.out) | (with_reducible refine Kd.C_alloc ?_ _) | (with_reducible refine Kd.C_drewN ?_ _) | (with_reducible refine Kd.C_drew ?_) | exact HR317_8.out)) hb); have n4_ := Asd.mk (bS hb HB.out); clear HO_10; clear HL317_8; clear BK287; clear HR317_8; clear HB; have HO_10 := n0_; have HL317_8 := n1_; have BK287 := n2_; have HR317_8 := n3_; have HB := n4_; clear n0_ n1_ n2_ n3_ n4_; (try clear hb); (try clear hb2); (try clear hk); (try clear hi)))
                 go_roundg k4
                 case measure => have := HJ2.out; have := HK2.out; have := HK3.out; have := HK4.out; omega
                 case rel => exact ⟨((x8_4 ++ t318) ++ (⟨#[59]⟩ : ByteArray)), (wrap64 (x13_4 + 1)), (by first | rfl | (simp; done) | (simp [*]; done)), (by first | rfl | (simp; done) | (simp [*]; done)), H', ⟨by have := HJ2.out; have := HK2.out; have := HK3.out; have := HK4.out; omega⟩, ⟨by (with_reducible repeat (first | apply Kd.N_alloc | apply Kd.N_drewN | apply Kd.N_drew)); exact HO_10.out⟩, ⟨by exact BK287.out⟩, ⟨by repeat (first | (with_reducible first | exact HB.out | apply blA | apply pbN | apply blD | refine blS ?_ GE287.out) | exact HB.out)⟩⟩
                ·rw [if_neg c54] at H
                 exact absurd H (by simp)
               ·rw [if_neg c53] at H
                exact absurd H (by simp)
              ·rw [if_neg c51] at H
               exact absurd H (by simp)
             ·rw [if_neg c50] at H
              have c50b0 : decide (x13_4 < (t313.length : Int)) = false := decide_eq_false c50
              clear c50
              simp only [Option.some.injEq, Prod.mk.injEq] at H
              obtain ⟨rfl, rfl⟩ := H
              obtain ⟨Ao57, co57, eo57⟩ := Kd.N_slice HO_10.out
              subst eo57
              go_wp2
              go_ret2
              exact ⟨by first | rfl | (simp [errW_none, errW_some] <;> rfl) | (simp [*, errW_none, errW_some] <;> rfl), by repeat (first | (with_reducible first | exact HB.out | apply blA | apply pbN | apply blD | refine blS ?_ GE287.out) | exact HB.out)⟩
    ·replace c18 := Bool.eq_false_iff.mpr c18
     subst c18
     have H1 : (some ((⟨#[]⟩ : ByteArray), false)) = some (r1, r2) := by rw [if_neg (show ¬ (false = true) by decide)] at H; exact H
     clear H
     have H := H1
     clear H1
     simp only [Option.some.injEq, Prod.mk.injEq] at H
     obtain ⟨rfl, rfl⟩ := H
     obtain ⟨hcz58_0, hcz58_1, hcz58_2, hcz58_3, hcz58_4, hcz58_5, hcz58_6, hcz58_7, hcz58_8, hcz58_9, hcz58_10⟩ := bkC11 BK287.out
     obtain ⟨hfz58_0, hfz58_1, hfz58_2, hfz58_3, hfz58_4, hfz58_5, hfz58_6, hfz58_7, hfz58_8, hfz58_9, hfz58_10⟩ := bkF11 BK287.out
     go_wp2_with (first | ((with_reducible refine gate_callee (f := 13) rfl ?_); refine goesL_ (some 44) rfl rfl Tryd.func13 (by kernel_rfl) rfl #[.slice A0_4 l0_4.length c0_4] rfl (by (try simp only [List.map_toArray, List.map_cons, List.map_nil]); first | done | rfl | (simp only [List.length_drop, List.length_take]; rfl)) ?_; (with_reducible refine (q12_Conds.calls kj2 _ _ l0_4 t288 false _ ?side1 ?side2 A17.out).mono ?_); (case side1 => repeat (first | exact (Kd.C_below HR0_4.out HB.out) | (with_reducible refine Kd.C_alloc ?_ _) | (with_reducible refine Kd.C_drewN ?_ _) | (with_reducible refine Kd.C_drew ?_))); (case side2 => exact HC0_4.out); rintro e w59 ⟨v289, rfl, ho0, hb⟩; refine ⟨_, rfl, ?_⟩; have n0_ := Asd.mk (Kd.N_lower (Kd.N_mono (ok' := fun k_ => k_ ≠ gb287) ho0 (fun k_ hk_ => (Kd.freshB (g := gb287) (o := .cells #[.slice A0_0 l0_0.length c0_0, .int .i64 a0_1, .slice A0_2 l0_2.length c0_2, .slice A0_3 l0_3.length c0_3, .slice A0_4 l0_4.length c0_4, .slice A0_5 l0_5.length c0_5, .slice A0_6 l0_6.length c0_6, .bool a0_7, .slice A0_8 l0_8.length c0_8, .slice A0_9 l0_9.length c0_9, .bool a0_10] 43 (0, 0)) (by exact BK287.out) k_ hk_))) (below_size (by repeat (first | (with_reducible first | exact HB.out | apply blA | apply pbN | apply blD | refine blS ?_ GE287.out) | exact HB.out)))); have n1_ := Asd.mk (bB hb BK287.out); have n2_ := Asd.mk (bS hb HB.out); clear BK287; clear HB; have HO290 := n0_; have BK287 := n1_; have HB := n2_; clear n0_ n1_ n2_; (try clear hb); (try clear hb2); (try clear hk); (try clear hi); (try clear ho0)))
     go_ret2
     exact ⟨by first | rfl | (simp [errW_none, errW_some] <;> rfl) | (simp [*, errW_none, errW_some] <;> rfl), by repeat (first | (with_reducible first | exact HB.out | apply blA | apply pbN | apply blD | refine blS ?_ GE287.out) | exact HB.out)⟩
end Go.Proofs.YtpdhoghkoakojaaDoor.E
namespace Go.Proofs.YtpdhoghkoakojaaDoor.E
set_option linter.unusedSimpArgs false
set_option linter.unusedVariables false
open Go.RowKit Go.Proofs.YtpdhoghkoakojaaDoorW.PrintWords Go.Proofs.YtpdhoghkoakojaaDoorW.PrintLast Go.Proofs.YtpdhoghkoakojaaDoorW.PrintMore
theorem shr_nat (m : Int) (i : Nat) (hi : i ≤ 64) : shr .i64 m (i : Int) = m / 2 ^ i := by
  unfold shr
  rw [Int.toNat_natCast, show min i IntKind.i64.bits = i from Nat.min_eq_left hi]
theorem bitB_iff (m : Int) (i : Nat) (hi : i ≤ 64) : Go.bits .and .i64 (shr .i64 m (i : Int)) 1 = 1 ↔ bitB m i = true := by
  unfold bitB
  rw [shr_nat m i hi, beq_iff_eq]
theorem in_set (m : Int) (hm : m < 2 ^ 63) (x : Ex) : inSet m x = true ↔ m ≥ 0 ∧ tabN x ≠ 0 ∧ Go.bits .and .i64 (tabN x) m = tabN x := by
  unfold inSet
  simp only [Bool.and_eq_true, decide_eq_true_eq, Bool.not_eq_true', beq_eq_false_iff_ne, beq_iff_eq]
  by_cases h0 : m ≥ 0
  · by_cases ht : tabN x = 0
    · simp [ht]
    · have hr : rightB x = true := by
        cases hr : rightB x with
        | true => rfl
        | false => exact absurd (by unfold tabN; rw [hr]; rfl) ht
      obtain ⟨M, rfl⟩ := Int.eq_ofNat_of_zero_le h0
      have hlt := msk_lt x (Rt.of hr)
      rw [tabN_msk hr, sub_bits (mskE x) M hlt (by omega), and_bits (mskE x) M hlt (by omega)]
  · simp [h0]
theorem refWithin_l0 (m : Int) (hm : m < 2 ^ 63) (L : List Ex) (hL : L.length < 17592186044416) : ∀ (l : List Ex) (j : Nat) (acc : List Int), L.drop j = l → acc.length ≤ j → Ev (fun k => q12_Within.l0 k L m acc (j : Int)) (acc ++ withI m l j)
  | [], j, acc, hj, ha => by
    have hl : L.length ≤ j := List.drop_eq_nil_iff.1 hj
    refine Ev.const 1 (fun k => ?_)
    rw [q12_Within.l0, if_neg (by omega), withI, List.append_nil]
  | x :: xs, j, acc, hj, ha => by
    obtain ⟨hx, hl, hr⟩ := rd_drop hj
    have ih0 := refWithin_l0 m hm L hL xs (j + 1) acc hr (by omega)
    have ih1 := refWithin_l0 m hm L hL xs (j + 1) (acc ++ [(j : Int)]) hr (by simp; omega)
    have hw : wrap64 ((j : Int) + 1) = ((j + 1 : Nat) : Int) := by rw [wrap64_of (x := (j : Int) + 1) (by omega) (by omega)]; rfl
    have hi := in_set m hm x
    refine Ev.steps 1 (f := fun k => (q08_Tables.f k x.f0 x.f1.f0 x.f1.f1 x.f1.f2 x.f2 x.f3 x.f4 x.f5 x.f6).bind fun t => (if m ≥ 0 then (if t = 0 then (q12_Within.l0 k L m acc ((j + 1 : Nat) : Int)) else (if (Go.bits .and .i64 t m) = t then (if acc.length < 17592186044416 then (q12_Within.l0 k L m (acc ++ [(j : Int)]) ((j + 1 : Nat) : Int)) else (none)) else (q12_Within.l0 k L m acc ((j + 1 : Nat) : Int)))) else (q12_Within.l0 k L m acc ((j + 1 : Nat) : Int)))) (fun k => ?_) ?_
    · rw [q12_Within.l0, if_pos (by omega), if_pos (by omega), hx, hw]
    · refine Ev.bind (refTables_ev x) ?_
      rw [withI]
      by_cases h1 : m ≥ 0
      · by_cases h2 : tabN x = 0
        · simp only [if_pos h1, if_pos h2]
          rw [if_neg (fun h => (hi.1 h).2.1 h2)]
          exact ih0
        · by_cases h3 : Go.bits .and .i64 (tabN x) m = tabN x
          · simp only [if_pos h1, if_neg h2, if_pos h3, if_pos (show acc.length < 17592186044416 by omega)]
            rw [if_pos (hi.2 ⟨h1, h2, h3⟩)]
            rw [List.append_assoc] at ih1
            exact ih1
          · simp only [if_pos h1, if_neg h2, if_neg h3]
            rw [if_neg (fun h => h3 (hi.1 h).2.2)]
            exact ih0
      · simp only [if_neg h1]
        rw [if_neg (fun h => h1 (hi.1 h).1)]
        exact ih0
theorem refWithin_ev (m : Int) (hm : m < 2 ^ 63) (L : List Ex) (hL : L.length < 17592186044416) : Ev (fun k => q12_Within.f k L m) (withI m L 0) := refWithin_l0 m hm L hL L 0 [] rfl (Nat.le_refl _)
theorem numbers_l0 (L : List Int) (hL : L.length ≤ 4611686018427387904) : ∀ (l : List Int) (j : Nat), L.drop j = l → Ev (fun k => w12_numbers.l0 k L L (j : Int)) true
  | [], j, hj => by
    have hl : L.length ≤ j := List.drop_eq_nil_iff.1 hj
    refine Ev.const 1 (fun k => ?_)
    rw [w12_numbers.l0, if_neg (by omega)]
  | x :: xs, j, hj => by
    have hl : j < L.length := by
      rcases Nat.lt_or_ge j L.length with h | h
      · exact h
      · rw [List.drop_of_length_le h] at hj; cases hj
    have hr : L.drop (j + 1) = xs := by rw [← List.drop_drop, hj]; rfl
    refine Ev.steps 1 (f := fun k => w12_numbers.l0 k L L ((j + 1 : Nat) : Int)) (fun k => ?_) (numbers_l0 L hL xs (j + 1) hr)
    rw [w12_numbers.l0, if_pos (by omega), if_pos (by omega), if_pos (by omega), if_pos rfl, wrap64_of (x := (j : Int) + 1) (by omega) (by omega)]
    rfl
theorem numbers_ev (L : List Int) (hL : L.length ≤ 4611686018427387904) : Ev (fun k => w12_numbers.f k L L) true := by
  unfold w12_numbers.f
  simp only [if_true]
  exact numbers_l0 L hL L 0 rfl
theorem ranked_l1 (m : Int) (e : Ex) (n : Nat) (hn : (n : Int) = e.f2) (h64 : n ≤ 64) (o0 o1 o2 : Int) (o3 : ByteArray) (o5 o6 : Int) (o7 : ByteArray) (o8 : List Ex) : ∀ (d j : Nat), j + d = n → Ev (fun k => q12_ranked.l1 k m (j : Int) e.f0 e.f1.f0 e.f1.f1 e.f1.f2 e.f2 e.f3 e.f4 e.f5 e.f6 o0 o1 o2 o3 (cntB m j : Int) o5 o6 o7 o8) (o0, o1, o2, o3, (cntB m n : Int), o5, o6, o7, o8)
  | 0, j, hj => by
    refine Ev.const 1 (fun k => ?_)
    rw [q12_ranked.l1, if_neg (by omega), show j = n by omega]
  | d + 1, j, hj => by
    have ih := ranked_l1 m e n hn h64 o0 o1 o2 o3 o5 o6 o7 o8 d (j + 1) (by omega)
    have hw : wrap64 ((j : Int) + 1) = ((j + 1 : Nat) : Int) := by rw [wrap64_of (x := (j : Int) + 1) (by omega) (by omega)]; rfl
    have hc := cntB_le m j
    have hwc : wrap64 ((cntB m j : Int) + 1) = ((cntB m j + 1 : Nat) : Int) := by rw [wrap64_of (x := (cntB m j : Int) + 1) (by omega) (by omega)]; rfl
    refine Ev.steps 1 (fun k => ?_) ih
    rw [q12_ranked.l1, if_pos (by omega), if_pos (by omega), cntB]
    by_cases hb : bitB m j = true
    · rw [if_pos ((bitB_iff m j (by omega)).2 hb), hw, hwc, if_pos hb]
    · rw [if_neg (fun h => hb ((bitB_iff m j (by omega)).1 h)), hw, if_neg hb]; rfl
mutual
theorem ranked_ev (m : Int) (K : Nat) (hK : K ≤ 64) : (e : Ex) → Rt e → inR (rsF m K K) e = true → Ev (fun k => q12_ranked.f k e.f0 e.f1.f0 e.f1.f1 e.f1.f2 e.f2 e.f3 e.f4 e.f5 e.f6 m) (flat (rankF (rsF m K K) e))
  | ⟨f0, f1, f2, f3, f4, f5, f6⟩ => fun hr hi => by
    refine Ev.steps 1 (f := fun k => q12_ranked.l0 k m 0 f0 f1.f0 f1.f1 f1.f2 f2 f3 f4 f5 f6 f0 f1.f0 f1.f1 f1.f2 f2 f3 f4 f5 []) (fun k => by rw [q12_ranked.f]) ?_
    have hil : inRL (rsF m K K) f6 = true := by rw [inR_eq, Bool.and_eq_true] at hi; exact hi.2
    have hkid : ∀ x ∈ f6, Rt x ∧ inR (rsF m K K) x = true := fun x hx => ⟨hr.kid hx, inRL_mem hil hx⟩
    exact rankedL_ev m K hK f6 hkid ⟨f0, f1, f2, f3, f4, f5, f6⟩ hr hi 0 rfl (own_len hr.own)
theorem rankedL_ev (m : Int) (K : Nat) (hK : K ≤ 64) : (l : List Ex) → (∀ x ∈ l, Rt x ∧ inR (rsF m K K) x = true) → ∀ (e : Ex), Rt e → inR (rsF m K K) e = true → ∀ (j : Nat), e.f6.drop j = l → e.f6.length ≤ 2 →
    Ev (fun k => q12_ranked.l0 k m (j : Int) e.f0 e.f1.f0 e.f1.f1 e.f1.f2 e.f2 e.f3 e.f4 e.f5 e.f6 e.f0 e.f1.f0 e.f1.f1 e.f1.f2 e.f2 e.f3 e.f4 e.f5 ((e.f6.take j).map (rankF (rsF m K K)))) (flat (rankF (rsF m K K) e))
  | [], hp, e, hr, hi, j, hj, hlen => by
    have hl : e.f6.length ≤ j := List.drop_eq_nil_iff.1 hj
    rw [List.take_of_length_le hl]
    by_cases h2 : e.f0 = 2
    · obtain ⟨r1, r2, _⟩ := hr.rel h2
      rw [inR_eq, Bool.and_eq_true, decide_eq_true_eq] at hi
      have hlt := hi.1 h2
      rw [rsF_len] at hlt
      obtain ⟨n, hn⟩ := Int.eq_ofNat_of_zero_le r1
      have hrk : rd (rsF m K K) e.f2 = (cntB m n : Int) := by
        have h := rsF_get m K K n (by omega)
        rw [if_pos (by omega)] at h
        unfold rd
        rw [hn, Int.toNat_natCast]
        exact h
      have h1 := ranked_l1 m e n hn.symm (by omega) e.f0 e.f1.f0 e.f1.f1 e.f1.f2 e.f3 e.f4 e.f5 (e.f6.map (rankF (rsF m K K))) n 0 (by omega)
      refine Ev.steps 1 (fun k => ?_) (by
        rw [rankF_eq, if_pos h2, hrk]
        exact h1)
      rw [q12_ranked.l0, if_neg (by omega), if_pos h2]
      rfl
    · refine Ev.const 1 (fun k => ?_)
      rw [q12_ranked.l0, if_neg (by omega), if_neg h2, rankF_eq, if_neg h2]; rfl
  | x :: xs, hp, e, hr, hi, j, hj, hlen => by
    obtain ⟨hx, hl, hrr⟩ := rd_drop hj
    have hxx := hp x (.head _)
    have ih := rankedL_ev m K hK xs (fun y hy => hp y (.tail _ hy)) e hr hi (j + 1) hrr hlen
    have htk : (e.f6.take (j + 1)).map (rankF (rsF m K K)) = (e.f6.take j).map (rankF (rsF m K K)) ++ [rankF (rsF m K K) x] := by
      have h1 : e.f6[j]? = some x := by
        have h := congrArg (·[0]?) hj
        simpa using h
      rw [List.take_add_one, h1, List.map_append]; rfl
    rw [htk] at ih
    refine Ev.steps 1 (f := fun k => (q12_ranked.f k x.f0 x.f1.f0 x.f1.f1 x.f1.f2 x.f2 x.f3 x.f4 x.f5 x.f6 m).bind fun t => q12_ranked.l0 k m ((j + 1 : Nat) : Int) e.f0 e.f1.f0 e.f1.f1 e.f1.f2 e.f2 e.f3 e.f4 e.f5 e.f6 e.f0 e.f1.f0 e.f1.f1 e.f1.f2 e.f2 e.f3 e.f4 e.f5 ((e.f6.take j).map (rankF (rsF m K K)) ++ [unflat t])) (fun k => ?_) ?_
    · rw [q12_ranked.l0, if_pos (by omega), if_pos (by omega), hx, wrap64_of (x := (j : Int) + 1) (by omega) (by omega)]
      have hlm : ((e.f6.take j).map (rankF (rsF m K K))).length < 1353245080339 := by rw [List.length_map, List.length_take]; omega
      simp only [if_pos hlm]
      rfl
    · refine Ev.bind (ranked_ev m K hK x hxx.1 hxx.2) ?_
      rw [unflat_flat]
      exact ih
end
end Go.Proofs.YtpdhoghkoakojaaDoor.E
