/- Contracts and plain lemmas of the functions that the law reaches, part 8. -/
import Derived.Test.YtkboodfnegedaaaDoorZL3
namespace Go.Proofs.YtkboodfnegedaaaDoor.E
open Go.RowKit Go.Proofs.YtkboodfnegedaaaDoorW.PrintWords Go.Proofs.YtkboodfnegedaaaDoorW.PrintLast Go.Proofs.YtkboodfnegedaaaDoorW.PrintMore
attribute [local go_sem] max2_int min2_int max_two min_two max_three min_three max_four min_four   -- for this text's walks alone
set_option linter.unusedVariables false
set_option linter.unusedSimpArgs false
attribute [local go_sem high] eqA23
mutual
def q08_same.j0 : Nat → Bool → Int → Int → Int → ByteArray → Int → Int → Int → ByteArray → List (S26) → Int → Int → Int → ByteArray → Int → Int → Int → ByteArray → List (S26) → Option (Bool)
 | 0, _, _, _, _, _, _, _, _, _, _, _, _, _, _, _, _, _, _, _ => none
 | k + 1, x48, x401000, x401001, x401002, x401003, x401004, x401005, x401006, x401007, x401008, x402000, x402001, x402002, x402003, x402004, x402005, x402006, x402007, x402008 => if x48 = true then (some false) else (q08_same.l0 k 0 x401000 x401001 x401002 x401003 x401004 x401005 x401006 x401007 x401008 x402000 x402001 x402002 x402003 x402004 x402005 x402006 x402007 x402008)
def q08_same.l0 : Nat → Int → Int → Int → Int → ByteArray → Int → Int → Int → ByteArray → List (S26) → Int → Int → Int → ByteArray → Int → Int → Int → ByteArray → List (S26) → Option (Bool)
 | 0, _, _, _, _, _, _, _, _, _, _, _, _, _, _, _, _, _, _, _ => none
 | k + 1, x5, x401000, x401001, x401002, x401003, x401004, x401005, x401006, x401007, x401008, x402000, x402001, x402002, x402003, x402004, x402005, x402006, x402007, x402008 => if x5 < (x401008.length : Int) then (if 0 ≤ x5 then (if x5 < (x402008.length : Int) then ((q08_same.f k ((rd_T26 x401008 x5).f0) ((rd_T26 x401008 x5).f1.f0) ((rd_T26 x401008 x5).f1.f1) ((rd_T26 x401008 x5).f1.f2) ((rd_T26 x401008 x5).f2) ((rd_T26 x401008 x5).f3) ((rd_T26 x401008 x5).f4) ((rd_T26 x401008 x5).f5) ((rd_T26 x401008 x5).f6) ((rd_T26 x402008 x5).f0) ((rd_T26 x402008 x5).f1.f0) ((rd_T26 x402008 x5).f1.f1) ((rd_T26 x402008 x5).f1.f2) ((rd_T26 x402008 x5).f2) ((rd_T26 x402008 x5).f3) ((rd_T26 x402008 x5).f4) ((rd_T26 x402008 x5).f5) ((rd_T26 x402008 x5).f6)).bind fun t404 => (if t404 = true then (q08_same.l0 k (wrap64 (x5 + 1)) x401000 x401001 x401002 x401003 x401004 x401005 x401006 x401007 x401008 x402000 x402001 x402002 x402003 x402004 x402005 x402006 x402007 x402008) else (some false))) else (none)) else (none)) else (some true)
def q08_same.f : Nat → Int → Int → Int → ByteArray → Int → Int → Int → ByteArray → List (S26) → Int → Int → Int → ByteArray → Int → Int → Int → ByteArray → List (S26) → Option (Bool)
 | 0, _, _, _, _, _, _, _, _, _, _, _, _, _, _, _, _, _, _ => none
 | k + 1, a0_0, a0_1, a0_2, a0_3, a0_4, a0_5, a0_6, a0_7, l0_8, a1_0, a1_1, a1_2, a1_3, a1_4, a1_5, a1_6, a1_7, l1_8 => if a0_0 = a1_0 then (if (!(a0_1 == a1_1) || (!(a0_2 == a1_2) || (!(a0_3.toList == a1_3.toList)))) = true then (q08_same.j0 k true a0_0 a0_1 a0_2 a0_3 a0_4 a0_5 a0_6 a0_7 l0_8 a1_0 a1_1 a1_2 a1_3 a1_4 a1_5 a1_6 a1_7 l1_8) else (if a0_4 = a1_4 then (if a0_5 = a1_5 then (if a0_6 = a1_6 then (q08_same.j0 k ((l0_8.length : Int) != (l1_8.length : Int)) a0_0 a0_1 a0_2 a0_3 a0_4 a0_5 a0_6 a0_7 l0_8 a1_0 a1_1 a1_2 a1_3 a1_4 a1_5 a1_6 a1_7 l1_8) else (q08_same.j0 k true a0_0 a0_1 a0_2 a0_3 a0_4 a0_5 a0_6 a0_7 l0_8 a1_0 a1_1 a1_2 a1_3 a1_4 a1_5 a1_6 a1_7 l1_8)) else (q08_same.j0 k true a0_0 a0_1 a0_2 a0_3 a0_4 a0_5 a0_6 a0_7 l0_8 a1_0 a1_1 a1_2 a1_3 a1_4 a1_5 a1_6 a1_7 l1_8)) else (q08_same.j0 k true a0_0 a0_1 a0_2 a0_3 a0_4 a0_5 a0_6 a0_7 l0_8 a1_0 a1_1 a1_2 a1_3 a1_4 a1_5 a1_6 a1_7 l1_8))) else (q08_same.j0 k true a0_0 a0_1 a0_2 a0_3 a0_4 a0_5 a0_6 a0_7 l0_8 a1_0 a1_1 a1_2 a1_3 a1_4 a1_5 a1_6 a1_7 l1_8)
end
def q08_same.T6 : Bool × List (List Nat × List Nat) := (true, [([], []), ([0], [0]), ([], []), ([1, 2], [1, 2]), ([3], [3]), ([], []), ([5], [5]), ([], []), ([6, 7], [6, 7]), ([8], [8]), ([4, 9], [4, 9]), ([10, 10, 0, 1, 2, 3, 4, 5, 6, 7, 8, 9, 10], [10])])
def q08_same.B6 : List Nat := [0, 1, 0, 7, 15, 0, 32, 0, 224, 480, 1023, 2047]
theorem q08_same.tab6 : rtab .any (opsOf Tryd.f58 6) = q08_same.T6 := by kernel_rfl
theorem q08_same.bits6 : waitsOk q08_same.T6.2 q08_same.B6 = true := by kernel_rfl
set_option maxHeartbeats 8000000 in
set_option maxRecDepth 100000 in
theorem q08_same.calls (k : Nat) : ∀ (a0_0 : Int) (a0_1 : Int) (a0_2 : Int) (a0_3 : ByteArray) (a0_4 : Int) (a0_5 : Int) (a0_6 : Int) (a0_7 : ByteArray) (A0_8 : Option Addr) (c0_8 : Nat) (l0_8 : List (S26)) (a1_0 : Int) (a1_1 : Int) (a1_2 : Int) (a1_3 : ByteArray) (a1_4 : Int) (a1_5 : Int) (a1_6 : Int) (a1_7 : ByteArray) (A1_8 : Option Addr) (c1_8 : Nat) (l1_8 : List (S26)) (r : Bool) (w : World) (hr0_8 : Kd.C k26 w A0_8 l0_8.length l0_8) (hc0_8 : l0_8.length ≤ c0_8) (hr1_8 : Kd.C k26 w A1_8 l1_8.length l1_8) (hc1_8 : l1_8.length ≤ c1_8) (h : q08_same.f k a0_0 a0_1 a0_2 a0_3 a0_4 a0_5 a0_6 a0_7 l0_8 a1_0 a1_1 a1_2 a1_3 a1_4 a1_5 a1_6 a1_7 l1_8 = some r),
  Calls Tryd.prog 58 #[.agg #[.int .i64 a0_0, .int .i64 a0_1, .int .i64 a0_2, .string a0_3, .int .i64 a0_4, .int .i64 a0_5, .int .i64 a0_6, .string a0_7, .slice A0_8 l0_8.length c0_8], .agg #[.int .i64 a1_0, .int .i64 a1_1, .int .i64 a1_2, .string a1_3, .int .i64 a1_4, .int .i64 a1_5, .int .i64 a1_6, .string a1_7, .slice A1_8 l1_8.length c1_8]] w fun e w' => e = .returned (.bool r) ∧ Below w.heap.size w w' := by
 induction k using Nat.strongRecOn with
 | _ k ih =>
 intro a0_0 a0_1 a0_2 a0_3 a0_4 a0_5 a0_6 a0_7 A0_8 c0_8 l0_8 a1_0 a1_1 a1_2 a1_3 a1_4 a1_5 a1_6 a1_7 A1_8 c1_8 l1_8 r w hr0_8 hc0_8 hr1_8 hc1_8 h
 cases k with
 | zero => exact absurd h (by simp [q08_same.f])
 | succ k =>
 simp only [q08_same.f] at h
 have hu26 := Tryd.underlying26
 have hu23 := Tryd.underlying23
 have HR0_8 := Asd.mk hr0_8
 have HC0_8 := Asd.mk hc0_8
 clear hr0_8 hc0_8
 have HR1_8 := Asd.mk hr1_8
 have HC1_8 := Asd.mk hc1_8
 clear hr1_8 hc1_8
 have HB := Asd.mk (Below.refl w.heap.size w)
 have H : (if a0_0 = a1_0 then (if (!(a0_1 == a1_1) || (!(a0_2 == a1_2) || (!(a0_3.toList == a1_3.toList)))) = true then (q08_same.j0 k true a0_0 a0_1 a0_2 a0_3 a0_4 a0_5 a0_6 a0_7 l0_8 a1_0 a1_1 a1_2 a1_3 a1_4 a1_5 a1_6 a1_7 l1_8) else (if a0_4 = a1_4 then (if a0_5 = a1_5 then (if a0_6 = a1_6 then (q08_same.j0 k ((l0_8.length : Int) != (l1_8.length : Int)) a0_0 a0_1 a0_2 a0_3 a0_4 a0_5 a0_6 a0_7 l0_8 a1_0 a1_1 a1_2 a1_3 a1_4 a1_5 a1_6 a1_7 l1_8) else (q08_same.j0 k true a0_0 a0_1 a0_2 a0_3 a0_4 a0_5 a0_6 a0_7 l0_8 a1_0 a1_1 a1_2 a1_3 a1_4 a1_5 a1_6 a1_7 l1_8)) else (q08_same.j0 k true a0_0 a0_1 a0_2 a0_3 a0_4 a0_5 a0_6 a0_7 l0_8 a1_0 a1_1 a1_2 a1_3 a1_4 a1_5 a1_6 a1_7 l1_8)) else (q08_same.j0 k true a0_0 a0_1 a0_2 a0_3 a0_4 a0_5 a0_6 a0_7 l0_8 a1_0 a1_1 a1_2 a1_3 a1_4 a1_5 a1_6 a1_7 l1_8))) else (q08_same.j0 k true a0_0 a0_1 a0_2 a0_3 a0_4 a0_5 a0_6 a0_7 l0_8 a1_0 a1_1 a1_2 a1_3 a1_4 a1_5 a1_6 a1_7 l1_8)) = some r := h
 clear h
 have HC3 := Asd.mk H
 clear H
 go_enter Tryd.func58, Tryd.ntmps58
 go_upto_region 1 with (first | ((with_reducible refine gate_dst (N := 2) rfl ?_); (try (refine gate_guard (by rfl) ?_; dsimp only)); refine box_event rfl (N := 2) rfl (cs := #[.int .i64 a0_0, .int .i64 a0_1, .int .i64 a0_2, .string a0_3, .int .i64 a0_4, .int .i64 a0_5, .int .i64 a0_6, .string a0_7, .slice A0_8 l0_8.length c0_8]) (t := 26) (by first | (go_simp; done) | (go_simp; rfl)) ?_; intro gb400 hg w4 hbox hb; have BK400 := Asd.mk (hbox); have GW400 := Asd.mk (bZ hg HB.out); have GE400 := GW400; replace HB := Asd.mk (bS hb HB.out); clear hb hbox hg) | ((with_reducible refine gate_dst (N := 3) rfl ?_); (try (refine gate_guard (by rfl) ?_; dsimp only)); refine box_event rfl (N := 3) rfl (cs := #[.int .i64 a1_0, .int .i64 a1_1, .int .i64 a1_2, .string a1_3, .int .i64 a1_4, .int .i64 a1_5, .int .i64 a1_6, .string a1_7, .slice A1_8 l1_8.length c1_8]) (t := 26) (by first | (go_simp; done) | (go_simp; rfl)) ?_; intro gb401 hg w5 hbox hb; have BK401 := Asd.mk (hbox); have GW401 := Asd.mk (bZ hg HB.out); have GE401 := GW401; have NB400_401 := Asd.mk (bL hg BK400.out); have NB401_400 := Asd.mk (bG hg BK400.out); replace BK400 := Asd.mk (bB hb BK400.out); replace HB := Asd.mk (bS hb HB.out); clear hb hbox hg))
 (try simp only [Act.put, List.setIfInBounds_toArray, List.set_cons_zero, List.set_cons_succ])
 go_cut [48] (fun v48 wc => ∃ (kq : Nat) (x48_2 : Bool), v48 = .bool x48_2 ∧ Asd (q08_same.j0 kq x48_2 a0_0 a0_1 a0_2 a0_3 a0_4 a0_5 a0_6 a0_7 l0_8 a1_0 a1_1 a1_2 a1_3 a1_4 a1_5 a1_6 a1_7 l1_8 = some r) ∧ Asd (kq ≤ k) ∧ Asd (wc.heap[gb400]? = some (.cells #[.int .i64 a0_0, .int .i64 a0_1, .int .i64 a0_2, .string a0_3, .int .i64 a0_4, .int .i64 a0_5, .int .i64 a0_6, .string a0_7, (.slice A0_8 l0_8.length c0_8)] 26 (0, 0))) ∧ Asd (wc.heap[gb401]? = some (.cells #[.int .i64 a1_0, .int .i64 a1_1, .int .i64 a1_2, .string a1_3, .int .i64 a1_4, .int .i64 a1_5, .int .i64 a1_6, .string a1_7, (.slice A1_8 l1_8.length c1_8)] 26 (0, 0))) ∧ Asd (Below w.heap.size w wc))
 case first =>
  have H := HC3.out
  clear HC3
  by_cases c6 : a0_0 = a1_0
  ·rw [if_pos c6] at H
   have c6b0 : (a0_0 == a1_0) = true := beq_iff_eq.mpr c6
   have c6b1 : (a0_0 != a1_0) = false := bne_eq_false_iff_eq.mpr c6
   clear c6
   (first | rw [c6b0] | (simp only [i64_w, i32_w]; rw [c6b0]) | skip)
   by_cases c7 : (!(a0_1 == a1_1) || (!(a0_2 == a1_2) || (!(a0_3.toList == a1_3.toList)))) = true
   ·rw [if_pos c7] at H
    have c7b0 : (!(a0_1 == a1_1) || (!(a0_2 == a1_2) || (!(a0_3.toList == a1_3.toList)))) = true := c7
    clear c7
    have H' := Asd.mk H
    clear H
    have hnb8 := NB400_401.out
    have hnc8 := NB401_400.out
    obtain ⟨hcz9_0, hcz9_1, hcz9_2, hcz9_3, hcz9_4, hcz9_5, hcz9_6, hcz9_7, hcz9_8⟩ := bkC9 BK400.out
    obtain ⟨hfz9_0, hfz9_1, hfz9_2, hfz9_3, hfz9_4, hfz9_5, hfz9_6, hfz9_7, hfz9_8⟩ := bkF9 BK400.out
    obtain ⟨hcz10_0, hcz10_1, hcz10_2, hcz10_3, hcz10_4, hcz10_5, hcz10_6, hcz10_7, hcz10_8⟩ := bkC9 BK401.out
    obtain ⟨hfz10_0, hfz10_1, hfz10_2, hfz10_3, hfz10_4, hfz10_5, hfz10_6, hfz10_7, hfz10_8⟩ := bkF9 BK401.out
    go_wp2
    go_meet
    case rel => exact ⟨_, (true), (by first | rfl | (simp; done) | (simp [*]; done)), H', ⟨by first | omega | exact Nat.le_refl _⟩, ⟨by exact BK400.out⟩, ⟨by exact BK401.out⟩, ⟨by repeat (first | (with_reducible first | exact HB.out | apply blA | apply pbN | apply blD | refine blS ?_ GE400.out | refine blS ?_ GE401.out) | exact HB.out)⟩⟩
   ·rw [if_neg c7] at H
    have c7b0 : (!(a0_1 == a1_1) || (!(a0_2 == a1_2) || (!(a0_3.toList == a1_3.toList)))) = false := by simpa using c7
    clear c7
    by_cases c11 : a0_4 = a1_4
    ·rw [if_pos c11] at H
     have c11b0 : (a0_4 == a1_4) = true := beq_iff_eq.mpr c11
     have c11b1 : (a0_4 != a1_4) = false := bne_eq_false_iff_eq.mpr c11
     clear c11
     by_cases c12 : a0_5 = a1_5
     ·rw [if_pos c12] at H
      have c12b0 : (a0_5 == a1_5) = true := beq_iff_eq.mpr c12
      have c12b1 : (a0_5 != a1_5) = false := bne_eq_false_iff_eq.mpr c12
      clear c12
      by_cases c13 : a0_6 = a1_6
      ·rw [if_pos c13] at H
       have c13b0 : (a0_6 == a1_6) = true := beq_iff_eq.mpr c13
       have c13b1 : (a0_6 != a1_6) = false := bne_eq_false_iff_eq.mpr c13
       clear c13
       have H' := Asd.mk H
       clear H
       have hnb14 := NB400_401.out
       have hnc14 := NB401_400.out
       obtain ⟨hcz15_0, hcz15_1, hcz15_2, hcz15_3, hcz15_4, hcz15_5, hcz15_6, hcz15_7, hcz15_8⟩ := bkC9 BK400.out
       obtain ⟨hfz15_0, hfz15_1, hfz15_2, hfz15_3, hfz15_4, hfz15_5, hfz15_6, hfz15_7, hfz15_8⟩ := bkF9 BK400.out
       obtain ⟨hcz16_0, hcz16_1, hcz16_2, hcz16_3, hcz16_4, hcz16_5, hcz16_6, hcz16_7, hcz16_8⟩ := bkC9 BK401.out
       obtain ⟨hfz16_0, hfz16_1, hfz16_2, hfz16_3, hfz16_4, hfz16_5, hfz16_6, hfz16_7, hfz16_8⟩ := bkF9 BK401.out
       go_wp2
       go_meet
       case rel => exact ⟨_, (((l0_8.length : Int) != (l1_8.length : Int))), (by first | rfl | (simp; done) | (simp [*]; done)), H', ⟨by first | omega | exact Nat.le_refl _⟩, ⟨by exact BK400.out⟩, ⟨by exact BK401.out⟩, ⟨by repeat (first | (with_reducible first | exact HB.out | apply blA | apply pbN | apply blD | refine blS ?_ GE400.out | refine blS ?_ GE401.out) | exact HB.out)⟩⟩
      ·rw [if_neg c13] at H
       have c13b0 : (a0_6 == a1_6) = false := beq_eq_false_iff_ne.mpr c13
       have c13b1 : (a0_6 != a1_6) = true := bne_iff_ne.mpr c13
       have H' := Asd.mk H
       clear H
       have hnb17 := NB400_401.out
       have hnc17 := NB401_400.out
       obtain ⟨hcz18_0, hcz18_1, hcz18_2, hcz18_3, hcz18_4, hcz18_5, hcz18_6, hcz18_7, hcz18_8⟩ := bkC9 BK400.out
       obtain ⟨hfz18_0, hfz18_1, hfz18_2, hfz18_3, hfz18_4, hfz18_5, hfz18_6, hfz18_7, hfz18_8⟩ := bkF9 BK400.out
       obtain ⟨hcz19_0, hcz19_1, hcz19_2, hcz19_3, hcz19_4, hcz19_5, hcz19_6, hcz19_7, hcz19_8⟩ := bkC9 BK401.out
       obtain ⟨hfz19_0, hfz19_1, hfz19_2, hfz19_3, hfz19_4, hfz19_5, hfz19_6, hfz19_7, hfz19_8⟩ := bkF9 BK401.out
       go_wp2
       go_meet
       case rel => exact ⟨_, (true), (by first | rfl | (simp; done) | (simp [*]; done)), H', ⟨by first | omega | exact Nat.le_refl _⟩, ⟨by exact BK400.out⟩, ⟨by exact BK401.out⟩, ⟨by repeat (first | (with_reducible first | exact HB.out | apply blA | apply pbN | apply blD | refine blS ?_ GE400.out | refine blS ?_ GE401.out) | exact HB.out)⟩⟩
     ·rw [if_neg c12] at H
      have c12b0 : (a0_5 == a1_5) = false := beq_eq_false_iff_ne.mpr c12
      have c12b1 : (a0_5 != a1_5) = true := bne_iff_ne.mpr c12
      have H' := Asd.mk H
      clear H
      have hnb20 := NB400_401.out
      have hnc20 := NB401_400.out
      obtain ⟨hcz21_0, hcz21_1, hcz21_2, hcz21_3, hcz21_4, hcz21_5, hcz21_6, hcz21_7, hcz21_8⟩ := bkC9 BK400.out
      obtain ⟨hfz21_0, hfz21_1, hfz21_2, hfz21_3, hfz21_4, hfz21_5, hfz21_6, hfz21_7, hfz21_8⟩ := bkF9 BK400.out
      obtain ⟨hcz22_0, hcz22_1, hcz22_2, hcz22_3, hcz22_4, hcz22_5, hcz22_6, hcz22_7, hcz22_8⟩ := bkC9 BK401.out
      obtain ⟨hfz22_0, hfz22_1, hfz22_2, hfz22_3, hfz22_4, hfz22_5, hfz22_6, hfz22_7, hfz22_8⟩ := bkF9 BK401.out
      go_wp2
      go_meet
      case rel => exact ⟨_, (true), (by first | rfl | (simp; done) | (simp [*]; done)), H', ⟨by first | omega | exact Nat.le_refl _⟩, ⟨by exact BK400.out⟩, ⟨by exact BK401.out⟩, ⟨by repeat (first | (with_reducible first | exact HB.out | apply blA | apply pbN | apply blD | refine blS ?_ GE400.out | refine blS ?_ GE401.out) | exact HB.out)⟩⟩
    ·rw [if_neg c11] at H
     have c11b0 : (a0_4 == a1_4) = false := beq_eq_false_iff_ne.mpr c11
     have c11b1 : (a0_4 != a1_4) = true := bne_iff_ne.mpr c11
     have H' := Asd.mk H
     clear H
     have hnb23 := NB400_401.out
     have hnc23 := NB401_400.out
     obtain ⟨hcz24_0, hcz24_1, hcz24_2, hcz24_3, hcz24_4, hcz24_5, hcz24_6, hcz24_7, hcz24_8⟩ := bkC9 BK400.out
     obtain ⟨hfz24_0, hfz24_1, hfz24_2, hfz24_3, hfz24_4, hfz24_5, hfz24_6, hfz24_7, hfz24_8⟩ := bkF9 BK400.out
     obtain ⟨hcz25_0, hcz25_1, hcz25_2, hcz25_3, hcz25_4, hcz25_5, hcz25_6, hcz25_7, hcz25_8⟩ := bkC9 BK401.out
     obtain ⟨hfz25_0, hfz25_1, hfz25_2, hfz25_3, hfz25_4, hfz25_5, hfz25_6, hfz25_7, hfz25_8⟩ := bkF9 BK401.out
     go_wp2
     go_meet
     case rel => exact ⟨_, (true), (by first | rfl | (simp; done) | (simp [*]; done)), H', ⟨by first | omega | exact Nat.le_refl _⟩, ⟨by exact BK400.out⟩, ⟨by exact BK401.out⟩, ⟨by repeat (first | (with_reducible first | exact HB.out | apply blA | apply pbN | apply blD | refine blS ?_ GE400.out | refine blS ?_ GE401.out) | exact HB.out)⟩⟩
  ·rw [if_neg c6] at H
   have c6b0 : (a0_0 == a1_0) = false := beq_eq_false_iff_ne.mpr c6
   have c6b1 : (a0_0 != a1_0) = true := bne_iff_ne.mpr c6
   (first | rw [c6b0] | (simp only [i64_w, i32_w]; rw [c6b0]) | skip)
   have H' := Asd.mk H
   clear H
   have hnb26 := NB400_401.out
   have hnc26 := NB401_400.out
   obtain ⟨hcz27_0, hcz27_1, hcz27_2, hcz27_3, hcz27_4, hcz27_5, hcz27_6, hcz27_7, hcz27_8⟩ := bkC9 BK400.out
   obtain ⟨hfz27_0, hfz27_1, hfz27_2, hfz27_3, hfz27_4, hfz27_5, hfz27_6, hfz27_7, hfz27_8⟩ := bkF9 BK400.out
   obtain ⟨hcz28_0, hcz28_1, hcz28_2, hcz28_3, hcz28_4, hcz28_5, hcz28_6, hcz28_7, hcz28_8⟩ := bkC9 BK401.out
   obtain ⟨hfz28_0, hfz28_1, hfz28_2, hfz28_3, hfz28_4, hfz28_5, hfz28_6, hfz28_7, hfz28_8⟩ := bkF9 BK401.out
   go_wp2
   go_meet
   case rel => exact ⟨_, (true), (by first | rfl | (simp; done) | (simp [*]; done)), H', ⟨by first | omega | exact Nat.le_refl _⟩, ⟨by exact BK400.out⟩, ⟨by exact BK401.out⟩, ⟨by repeat (first | (with_reducible first | exact HB.out | apply blA | apply pbN | apply blD | refine blS ?_ GE400.out | refine blS ?_ GE401.out) | exact HB.out)⟩⟩
 case rest =>
  clear HC3
  try clear c1
  try clear c2
  try clear p2
  try clear c5
  try clear c6
  try clear c6b0
  try clear c6b1
  try clear c7
  try clear c7b0
  try clear c8
  try clear c11
  try clear c11b0
  try clear c11b1
  try clear c12
  try clear c12b0
  try clear c12b1
  try clear c13
  try clear c13b0
  try clear c13b1
  try clear c14
  try clear c17
  try clear c20
  try clear c23
  try clear c26
  try clear hcz10_0
  try clear hcz10_1
  try clear hcz10_2
  try clear hcz10_3
  try clear hcz10_4
  try clear hcz10_5
  try clear hcz10_6
  try clear hcz10_7
  try clear hcz10_8
  try clear hcz15_0
  try clear hcz15_1
  try clear hcz15_2
  try clear hcz15_3
  try clear hcz15_4
  try clear hcz15_5
  try clear hcz15_6
  try clear hcz15_7
  try clear hcz15_8
  try clear hcz16_0
  try clear hcz16_1
  try clear hcz16_2
  try clear hcz16_3
  try clear hcz16_4
  try clear hcz16_5
  try clear hcz16_6
  try clear hcz16_7
  try clear hcz16_8
  try clear hcz18_0
  try clear hcz18_1
  try clear hcz18_2
  try clear hcz18_3
  try clear hcz18_4
  try clear hcz18_5
  try clear hcz18_6
  try clear hcz18_7
  try clear hcz18_8
  try clear hcz19_0
  try clear hcz19_1
  try clear hcz19_2
  try clear hcz19_3
  try clear hcz19_4
  try clear hcz19_5
  try clear hcz19_6
  try clear hcz19_7
  try clear hcz19_8
  try clear hcz21_0
  try clear hcz21_1
  try clear hcz21_2
  try clear hcz21_3
  try clear hcz21_4
  try clear hcz21_5
  try clear hcz21_6
  try clear hcz21_7
  try clear hcz21_8
  try clear hcz22_0
  try clear hcz22_1
  try clear hcz22_2
  try clear hcz22_3
  try clear hcz22_4
  try clear hcz22_5
  try clear hcz22_6
  try clear hcz22_7
  try clear hcz22_8
  try clear hcz24_0
  try clear hcz24_1
  try clear hcz24_2
  try clear hcz24_3
  try clear hcz24_4
  try clear hcz24_5
  try clear hcz24_6
  try clear hcz24_7
  try clear hcz24_8
  try clear hcz25_0
  try clear hcz25_1
  try clear hcz25_2
  try clear hcz25_3
  try clear hcz25_4
  try clear hcz25_5
  try clear hcz25_6
  try clear hcz25_7
  try clear hcz25_8
  try clear hcz27_0
  try clear hcz27_1
  try clear hcz27_2
  try clear hcz27_3
  try clear hcz27_4
  try clear hcz27_5
  try clear hcz27_6
  try clear hcz27_7
  try clear hcz27_8
  try clear hcz28_0
  try clear hcz28_1
  try clear hcz28_2
  try clear hcz28_3
  try clear hcz28_4
  try clear hcz28_5
  try clear hcz28_6
  try clear hcz28_7
  try clear hcz28_8
  try clear hcz9_0
  try clear hcz9_1
  try clear hcz9_2
  try clear hcz9_3
  try clear hcz9_4
  try clear hcz9_5
  try clear hcz9_6
  try clear hcz9_7
  try clear hcz9_8
  try clear hfz10_0
  try clear hfz10_1
  try clear hfz10_2
  try clear hfz10_3
  try clear hfz10_4
  try clear hfz10_5
  try clear hfz10_6
  try clear hfz10_7
  try clear hfz10_8
  try clear hfz15_0
  try clear hfz15_1
  try clear hfz15_2
  try clear hfz15_3
  try clear hfz15_4
  try clear hfz15_5
  try clear hfz15_6
  try clear hfz15_7
  try clear hfz15_8
  try clear hfz16_0
  try clear hfz16_1
  try clear hfz16_2
  try clear hfz16_3
  try clear hfz16_4
  try clear hfz16_5
  try clear hfz16_6
  try clear hfz16_7
  try clear hfz16_8
  try clear hfz18_0
  try clear hfz18_1
  try clear hfz18_2
  try clear hfz18_3
  try clear hfz18_4
  try clear hfz18_5
  try clear hfz18_6
  try clear hfz18_7
  try clear hfz18_8
  try clear hfz19_0
  try clear hfz19_1
  try clear hfz19_2
  try clear hfz19_3
  try clear hfz19_4
  try clear hfz19_5
  try clear hfz19_6
  try clear hfz19_7
  try clear hfz19_8
  try clear hfz21_0
  try clear hfz21_1
  try clear hfz21_2
  try clear hfz21_3
  try clear hfz21_4
  try clear hfz21_5
  try clear hfz21_6
  try clear hfz21_7
  try clear hfz21_8
  try clear hfz22_0
  try clear hfz22_1
  try clear hfz22_2
  try clear hfz22_3
  try clear hfz22_4
  try clear hfz22_5
  try clear hfz22_6
  try clear hfz22_7
  try clear hfz22_8
  try clear hfz24_0
  try clear hfz24_1
  try clear hfz24_2
  try clear hfz24_3
  try clear hfz24_4
  try clear hfz24_5
  try clear hfz24_6
  try clear hfz24_7
  try clear hfz24_8
  try clear hfz25_0
  try clear hfz25_1
  try clear hfz25_2
  try clear hfz25_3
  try clear hfz25_4
  try clear hfz25_5
  try clear hfz25_6
  try clear hfz25_7
  try clear hfz25_8
  try clear hfz27_0
  try clear hfz27_1
  try clear hfz27_2
  try clear hfz27_3
  try clear hfz27_4
  try clear hfz27_5
  try clear hfz27_6
  try clear hfz27_7
  try clear hfz27_8
  try clear hfz28_0
  try clear hfz28_1
  try clear hfz28_2
  try clear hfz28_3
  try clear hfz28_4
  try clear hfz28_5
  try clear hfz28_6
  try clear hfz28_7
  try clear hfz28_8
  try clear hfz9_0
  try clear hfz9_1
  try clear hfz9_2
  try clear hfz9_3
  try clear hfz9_4
  try clear hfz9_5
  try clear hfz9_6
  try clear hfz9_7
  try clear hfz9_8
  obtain ⟨kq, x48_2, rfl, HA, HJ2, BK400, BK401, HB⟩ := hcut
  cases kq with
  | zero => exact absurd HA.out (by simp [q08_same.j0])
  | succ kj2 =>
   have H := HA.out
   clear HA
   simp only [q08_same.j0] at H
   by_cases c29 : x48_2 = true
   ·subst c29
    have H1 : (some false) = some r := by rw [if_pos rfl] at H; exact H
    clear H
    have H := H1
    clear H1
    obtain rfl := Option.some.inj H
    go_wp2
    go_ret
    exact ⟨by first | rfl | (simp [errW_none, errW_some] <;> rfl) | (simp [*, errW_none, errW_some] <;> rfl), by repeat (first | (with_reducible first | exact HB.out | apply blA | apply pbN | apply blD | refine blS ?_ GE400.out | refine blS ?_ GE401.out) | exact HB.out)⟩
   ·replace c29 := Bool.eq_false_iff.mpr c29
    subst c29
    have H1 : (q08_same.l0 kj2 0 a0_0 a0_1 a0_2 a0_3 a0_4 a0_5 a0_6 a0_7 l0_8 a1_0 a1_1 a1_2 a1_3 a1_4 a1_5 a1_6 a1_7 l1_8) = some r := by rw [if_neg (show ¬ (false = true) by decide)] at H; exact H
    clear H
    have H := H1
    clear H1
    have H' := Asd.mk H
    clear H
    go_wp2
    go_loopg [5] kj2 (fun kq v5 w' => ∃ (x5_2 : Int), v5 = .int .i64 x5_2 ∧ Asd (q08_same.l0 kq x5_2 a0_0 a0_1 a0_2 a0_3 a0_4 a0_5 a0_6 a0_7 l0_8 a1_0 a1_1 a1_2 a1_3 a1_4 a1_5 a1_6 a1_7 l1_8 = some r) ∧ Asd (kq ≤ kj2) ∧ Asd (w'.heap[gb400]? = some (.cells #[.int .i64 a0_0, .int .i64 a0_1, .int .i64 a0_2, .string a0_3, .int .i64 a0_4, .int .i64 a0_5, .int .i64 a0_6, .string a0_7, (.slice A0_8 l0_8.length c0_8)] 26 (0, 0))) ∧ Asd (w'.heap[gb401]? = some (.cells #[.int .i64 a1_0, .int .i64 a1_1, .int .i64 a1_2, .string a1_3, .int .i64 a1_4, .int .i64 a1_5, .int .i64 a1_6, .string a1_7, (.slice A1_8 l1_8.length c1_8)] 26 (0, 0))) ∧ Asd (Below w.heap.size w w'))
    case atStart => exact ⟨(0), (by first | rfl | (simp; done) | (simp [*]; done)), H', ⟨Nat.le_refl _⟩, ⟨by exact BK400.out⟩, ⟨by exact BK401.out⟩, ⟨by repeat (first | (with_reducible first | exact HB.out | apply blA | apply pbN | apply blD | refine blS ?_ GE400.out | refine blS ?_ GE401.out) | exact HB.out)⟩⟩
    case round =>
     clear H'
     try clear c1
     try clear c2
     try clear p2
     try clear c5
     try clear c6
     try clear c6b0
     try clear c6b1
     try clear c7
     try clear c7b0
     try clear c8
     try clear c11
     try clear c11b0
     try clear c11b1
     try clear c12
     try clear c12b0
     try clear c12b1
     try clear c13
     try clear c13b0
     try clear c13b1
     try clear c14
     try clear c17
     try clear c20
     try clear c23
     try clear c26
     try clear c29
     try clear hcz10_0
     try clear hcz10_1
     try clear hcz10_2
     try clear hcz10_3
     try clear hcz10_4
     try clear hcz10_5
     try clear hcz10_6
     try clear hcz10_7
     try clear hcz10_8
     try clear hcz15_0
     try clear hcz15_1
     try clear hcz15_2
     try clear hcz15_3
     try clear hcz15_4
     try clear hcz15_5
     try clear hcz15_6
     try clear hcz15_7
     try clear hcz15_8
     try clear hcz16_0
     try clear hcz16_1
     try clear hcz16_2
     try clear hcz16_3
     try clear hcz16_4
     try clear hcz16_5
     try clear hcz16_6
     try clear hcz16_7
     try clear hcz16_8
     try clear hcz18_0
     try clear hcz18_1
     try clear hcz18_2
     try clear hcz18_3
     try clear hcz18_4
     try clear hcz18_5
     try clear hcz18_6
     try clear hcz18_7
     try clear hcz18_8
     try clear hcz19_0
     try clear hcz19_1
     try clear hcz19_2
     try clear hcz19_3
     try clear hcz19_4
     try clear hcz19_5
     try clear hcz19_6
     try clear hcz19_7
     try clear hcz19_8
     try clear hcz21_0
     try clear hcz21_1
     try clear hcz21_2
     try clear hcz21_3
     try clear hcz21_4
     try clear hcz21_5
     try clear hcz21_6
     try clear hcz21_7
     try clear hcz21_8
     try clear hcz22_0
     try clear hcz22_1
     try clear hcz22_2
     try clear hcz22_3
     try clear hcz22_4
     try clear hcz22_5
     try clear hcz22_6
     try clear hcz22_7
     try clear hcz22_8
     try clear hcz24_0
     try clear hcz24_1
     try clear hcz24_2
     try clear hcz24_3
     try clear hcz24_4
     try clear hcz24_5
     try clear hcz24_6
     try clear hcz24_7
     try clear hcz24_8
     try clear hcz25_0
     try clear hcz25_1
     try clear hcz25_2
     try clear hcz25_3
     try clear hcz25_4
     try clear hcz25_5
     try clear hcz25_6
     try clear hcz25_7
     try clear hcz25_8
     try clear hcz27_0
     try clear hcz27_1
     try clear hcz27_2
     try clear hcz27_3
     try clear hcz27_4
     try clear hcz27_5
     try clear hcz27_6
     try clear hcz27_7
     try clear hcz27_8
     try clear hcz28_0
     try clear hcz28_1
     try clear hcz28_2
     try clear hcz28_3
     try clear hcz28_4
     try clear hcz28_5
     try clear hcz28_6
     try clear hcz28_7
     try clear hcz28_8
     try clear hcz9_0
     try clear hcz9_1
     try clear hcz9_2
     try clear hcz9_3
     try clear hcz9_4
     try clear hcz9_5
     try clear hcz9_6
     try clear hcz9_7
     try clear hcz9_8
     try clear hfz10_0
     try clear hfz10_1
     try clear hfz10_2
     try clear hfz10_3
     try clear hfz10_4
     try clear hfz10_5
     try clear hfz10_6
     try clear hfz10_7
     try clear hfz10_8
     try clear hfz15_0
     try clear hfz15_1
     try clear hfz15_2
     try clear hfz15_3
     try clear hfz15_4
     try clear hfz15_5
     try clear hfz15_6
     try clear hfz15_7
     try clear hfz15_8
     try clear hfz16_0
     try clear hfz16_1
     try clear hfz16_2
     try clear hfz16_3
     try clear hfz16_4
     try clear hfz16_5
     try clear hfz16_6
     try clear hfz16_7
     try clear hfz16_8
     try clear hfz18_0
     try clear hfz18_1
     try clear hfz18_2
     try clear hfz18_3
     try clear hfz18_4
     try clear hfz18_5
     try clear hfz18_6
     try clear hfz18_7
     try clear hfz18_8
     try clear hfz19_0
     try clear hfz19_1
     try clear hfz19_2
     try clear hfz19_3
     try clear hfz19_4
     try clear hfz19_5
     try clear hfz19_6
     try clear hfz19_7
     try clear hfz19_8
     try clear hfz21_0
     try clear hfz21_1
     try clear hfz21_2
     try clear hfz21_3
     try clear hfz21_4
     try clear hfz21_5
     try clear hfz21_6
     try clear hfz21_7
     try clear hfz21_8
     try clear hfz22_0
     try clear hfz22_1
     try clear hfz22_2
     try clear hfz22_3
     try clear hfz22_4
     try clear hfz22_5
     try clear hfz22_6
     try clear hfz22_7
     try clear hfz22_8
     try clear hfz24_0
     try clear hfz24_1
     try clear hfz24_2
     try clear hfz24_3
     try clear hfz24_4
     try clear hfz24_5
     try clear hfz24_6
     try clear hfz24_7
     try clear hfz24_8
     try clear hfz25_0
     try clear hfz25_1
     try clear hfz25_2
     try clear hfz25_3
     try clear hfz25_4
     try clear hfz25_5
     try clear hfz25_6
     try clear hfz25_7
     try clear hfz25_8
     try clear hfz27_0
     try clear hfz27_1
     try clear hfz27_2
     try clear hfz27_3
     try clear hfz27_4
     try clear hfz27_5
     try clear hfz27_6
     try clear hfz27_7
     try clear hfz27_8
     try clear hfz28_0
     try clear hfz28_1
     try clear hfz28_2
     try clear hfz28_3
     try clear hfz28_4
     try clear hfz28_5
     try clear hfz28_6
     try clear hfz28_7
     try clear hfz28_8
     try clear hfz9_0
     try clear hfz9_1
     try clear hfz9_2
     try clear hfz9_3
     try clear hfz9_4
     try clear hfz9_5
     try clear hfz9_6
     try clear hfz9_7
     try clear hfz9_8
     try clear p2
     obtain ⟨x5_2, rfl, HA, HK2, BK400, BK401, HB⟩ := hrel
     cases gk with
     | zero => exact absurd HA.out (by simp [q08_same.l0])
     | succ k2 =>
      have H := HA.out
      clear HA
      simp only [q08_same.l0] at H
      by_cases c30 : x5_2 < (l0_8.length : Int)
      ·rw [if_pos c30] at H
       have c30b0 : decide (x5_2 < (l0_8.length : Int)) = true := decide_eq_true c30
       clear c30
       by_cases c31 : 0 ≤ x5_2
       ·rw [if_pos c31] at H
        have c31b0 : decide (0 ≤ x5_2) = true := decide_eq_true c31
        clear c31
        by_cases c32 : x5_2 < (l1_8.length : Int)
        ·rw [if_pos c32] at H
         have c32b0 : decide (x5_2 < (l1_8.length : Int)) = true := decide_eq_true c32
         clear c32
         replace H := Option.bind_eq_some_iff.mp H
         obtain ⟨t404, A330, H⟩ := H
         replace H : (if t404 = true then (q08_same.l0 k2 (wrap64 (x5_2 + 1)) a0_0 a0_1 a0_2 a0_3 a0_4 a0_5 a0_6 a0_7 l0_8 a1_0 a1_1 a1_2 a1_3 a1_4 a1_5 a1_6 a1_7 l1_8) else (some false)) = some r := H
         have A33 := Asd.mk A330
         clear A330
         by_cases c34 : t404 = true
         ·subst c34
          have H1 : (q08_same.l0 k2 (wrap64 (x5_2 + 1)) a0_0 a0_1 a0_2 a0_3 a0_4 a0_5 a0_6 a0_7 l0_8 a1_0 a1_1 a1_2 a1_3 a1_4 a1_5 a1_6 a1_7 l1_8) = some r := by rw [if_pos rfl] at H; exact H
          clear H
          have H := H1
          clear H1
          have H' := Asd.mk H
          clear H
          have hnb35 := NB400_401.out
          have hnc35 := NB401_400.out
          obtain ⟨hcz36_0, hcz36_1, hcz36_2, hcz36_3, hcz36_4, hcz36_5, hcz36_6, hcz36_7, hcz36_8⟩ := bkC9 BK400.out
          obtain ⟨hfz36_0, hfz36_1, hfz36_2, hfz36_3, hfz36_4, hfz36_5, hfz36_6, hfz36_7, hfz36_8⟩ := bkF9 BK400.out
          try go_wp2
          have n0_ := Asd.mk (bkD BK400.out)
          have n1_ := Asd.mk (bkD BK401.out)
          have n2_ := Asd.mk (blD HB.out)
          clear BK400 BK401 HB
          have BK400 := n0_
          have BK401 := n1_
          have HB := n2_
          clear n0_ n1_ n2_
          have p402 : 0 ≤ (x5_2 : Int) := of_decide_eq_true (by first | (with_reducible assumption) | assumption)
          have q402 : x5_2 < (l0_8.length : Int) := of_decide_eq_true (by first | (with_reducible assumption) | assumption)
          obtain ⟨ad402, A402_8, c402_8, e402, hx402_0, hx402_1, hx402_2, hx402_3, hx402_4, hx402_5, hx402_6, hx402_7, hx402_8, hl402_8, hi402_8⟩ := at_T26 HR0_8.out x5_2 p402 q402
          have hw402_8 := hx402_8
          have hw402_7 := hx402_7
          have hw402_6 := hx402_6
          have hw402_5 := hx402_5
          have hw402_4 := hx402_4
          have hw402_3 := hx402_3
          have hw402_2 := hx402_2
          have hw402_1 := hx402_1
          have hw402_0 := hx402_0
          cases e402
          replace hx402_0 := (HB.out.cell (World.block_lt_of_cell? w _ hx402_0)).trans hx402_0
          replace hx402_1 := (HB.out.cell (World.block_lt_of_cell? w _ hx402_1)).trans hx402_1
          replace hx402_2 := (HB.out.cell (World.block_lt_of_cell? w _ hx402_2)).trans hx402_2
          replace hx402_3 := (HB.out.cell (World.block_lt_of_cell? w _ hx402_3)).trans hx402_3
          replace hx402_4 := (HB.out.cell (World.block_lt_of_cell? w _ hx402_4)).trans hx402_4
          replace hx402_5 := (HB.out.cell (World.block_lt_of_cell? w _ hx402_5)).trans hx402_5
          replace hx402_6 := (HB.out.cell (World.block_lt_of_cell? w _ hx402_6)).trans hx402_6
          replace hx402_7 := (HB.out.cell (World.block_lt_of_cell? w _ hx402_7)).trans hx402_7
          replace hx402_8 := (HB.out.cell (World.block_lt_of_cell? w _ hx402_8)).trans hx402_8
          have HR402_8 := Asd.mk hi402_8
          have HC402_8 := Asd.mk hl402_8
          clear hi402_8 hl402_8
          replace p402 := eq_true p402
          replace q402 := eq_true q402
          have p403 : 0 ≤ (x5_2 : Int) := of_decide_eq_true (by first | (with_reducible assumption) | assumption)
          have q403 : x5_2 < (l1_8.length : Int) := of_decide_eq_true (by first | (with_reducible assumption) | assumption)
          obtain ⟨ad403, A403_8, c403_8, e403, hx403_0, hx403_1, hx403_2, hx403_3, hx403_4, hx403_5, hx403_6, hx403_7, hx403_8, hl403_8, hi403_8⟩ := at_T26 HR1_8.out x5_2 p403 q403
          have hw403_8 := hx403_8
          have hw403_7 := hx403_7
          have hw403_6 := hx403_6
          have hw403_5 := hx403_5
          have hw403_4 := hx403_4
          have hw403_3 := hx403_3
          have hw403_2 := hx403_2
          have hw403_1 := hx403_1
          have hw403_0 := hx403_0
          cases e403
          replace hx403_0 := (HB.out.cell (World.block_lt_of_cell? w _ hx403_0)).trans hx403_0
          replace hx403_1 := (HB.out.cell (World.block_lt_of_cell? w _ hx403_1)).trans hx403_1
          replace hx403_2 := (HB.out.cell (World.block_lt_of_cell? w _ hx403_2)).trans hx403_2
          replace hx403_3 := (HB.out.cell (World.block_lt_of_cell? w _ hx403_3)).trans hx403_3
          replace hx403_4 := (HB.out.cell (World.block_lt_of_cell? w _ hx403_4)).trans hx403_4
          replace hx403_5 := (HB.out.cell (World.block_lt_of_cell? w _ hx403_5)).trans hx403_5
          replace hx403_6 := (HB.out.cell (World.block_lt_of_cell? w _ hx403_6)).trans hx403_6
          replace hx403_7 := (HB.out.cell (World.block_lt_of_cell? w _ hx403_7)).trans hx403_7
          replace hx403_8 := (HB.out.cell (World.block_lt_of_cell? w _ hx403_8)).trans hx403_8
          have HR403_8 := Asd.mk hi403_8
          have HC403_8 := Asd.mk hl403_8
          clear hi403_8 hl403_8
          replace p403 := eq_true p403
          replace q403 := eq_true q403
          refine start_ (n := 12) (S := fun w' => w'.cell? ⟨gb400, 0, none⟩ = some (.int .i64 a0_0) ∧ w'.cell? ⟨gb400, 1, none⟩ = some (.int .i64 a0_1) ∧ w'.cell? ⟨gb400, 2, none⟩ = some (.int .i64 a0_2) ∧ w'.cell? ⟨gb400, 3, none⟩ = some (.string a0_3) ∧ w'.cell? ⟨gb400, 4, none⟩ = some (.int .i64 a0_4) ∧ w'.cell? ⟨gb400, 5, none⟩ = some (.int .i64 a0_5) ∧ w'.cell? ⟨gb400, 6, none⟩ = some (.int .i64 a0_6) ∧ w'.cell? ⟨gb400, 7, none⟩ = some (.string a0_7) ∧ w'.cell? ⟨gb400, 8, none⟩ = some (.slice (some ad402) l0_8.length c0_8) ∧ w'.cell? ⟨gb401, 0, none⟩ = some (.int .i64 a1_0) ∧ w'.cell? ⟨gb401, 1, none⟩ = some (.int .i64 a1_1) ∧ w'.cell? ⟨gb401, 2, none⟩ = some (.int .i64 a1_2) ∧ w'.cell? ⟨gb401, 3, none⟩ = some (.string a1_3) ∧ w'.cell? ⟨gb401, 4, none⟩ = some (.int .i64 a1_4) ∧ w'.cell? ⟨gb401, 5, none⟩ = some (.int .i64 a1_5) ∧ w'.cell? ⟨gb401, 6, none⟩ = some (.int .i64 a1_6) ∧ w'.cell? ⟨gb401, 7, none⟩ = some (.string a1_7) ∧ w'.cell? ⟨gb401, 8, none⟩ = some (.slice (some ad403) l1_8.length c1_8) ∧ w'.cell? (ad402.add ((x5_2).toNat * 9)) = some (.int .i64 ((rd_T26 l0_8 x5_2).f0)) ∧ w'.cell? ⟨(ad402.add ((x5_2).toNat * 9)).block, (ad402.add ((x5_2).toNat * 9)).off + 1, none⟩ = some (.int .i64 ((rd_T26 l0_8 x5_2).f1.f0)) ∧ w'.cell? ⟨(ad402.add ((x5_2).toNat * 9)).block, (ad402.add ((x5_2).toNat * 9)).off + 2, none⟩ = some (.int .i64 ((rd_T26 l0_8 x5_2).f1.f1)) ∧ w'.cell? ⟨(ad402.add ((x5_2).toNat * 9)).block, (ad402.add ((x5_2).toNat * 9)).off + 3, none⟩ = some (.string ((rd_T26 l0_8 x5_2).f1.f2)) ∧ w'.cell? ⟨(ad402.add ((x5_2).toNat * 9)).block, (ad402.add ((x5_2).toNat * 9)).off + 4, none⟩ = some (.int .i64 ((rd_T26 l0_8 x5_2).f2)) ∧ w'.cell? ⟨(ad402.add ((x5_2).toNat * 9)).block, (ad402.add ((x5_2).toNat * 9)).off + 5, none⟩ = some (.int .i64 ((rd_T26 l0_8 x5_2).f3)) ∧ w'.cell? ⟨(ad402.add ((x5_2).toNat * 9)).block, (ad402.add ((x5_2).toNat * 9)).off + 6, none⟩ = some (.int .i64 ((rd_T26 l0_8 x5_2).f4)) ∧ w'.cell? ⟨(ad402.add ((x5_2).toNat * 9)).block, (ad402.add ((x5_2).toNat * 9)).off + 7, none⟩ = some (.string ((rd_T26 l0_8 x5_2).f5)) ∧ w'.cell? ⟨(ad402.add ((x5_2).toNat * 9)).block, (ad402.add ((x5_2).toNat * 9)).off + 8, none⟩ = some (.slice A402_8 ((rd_T26 l0_8 x5_2).f6).length c402_8) ∧ w'.cell? (ad403.add ((x5_2).toNat * 9)) = some (.int .i64 ((rd_T26 l1_8 x5_2).f0)) ∧ w'.cell? ⟨(ad403.add ((x5_2).toNat * 9)).block, (ad403.add ((x5_2).toNat * 9)).off + 1, none⟩ = some (.int .i64 ((rd_T26 l1_8 x5_2).f1.f0)) ∧ w'.cell? ⟨(ad403.add ((x5_2).toNat * 9)).block, (ad403.add ((x5_2).toNat * 9)).off + 2, none⟩ = some (.int .i64 ((rd_T26 l1_8 x5_2).f1.f1)) ∧ w'.cell? ⟨(ad403.add ((x5_2).toNat * 9)).block, (ad403.add ((x5_2).toNat * 9)).off + 3, none⟩ = some (.string ((rd_T26 l1_8 x5_2).f1.f2)) ∧ w'.cell? ⟨(ad403.add ((x5_2).toNat * 9)).block, (ad403.add ((x5_2).toNat * 9)).off + 4, none⟩ = some (.int .i64 ((rd_T26 l1_8 x5_2).f2)) ∧ w'.cell? ⟨(ad403.add ((x5_2).toNat * 9)).block, (ad403.add ((x5_2).toNat * 9)).off + 5, none⟩ = some (.int .i64 ((rd_T26 l1_8 x5_2).f3)) ∧ w'.cell? ⟨(ad403.add ((x5_2).toNat * 9)).block, (ad403.add ((x5_2).toNat * 9)).off + 6, none⟩ = some (.int .i64 ((rd_T26 l1_8 x5_2).f4)) ∧ w'.cell? ⟨(ad403.add ((x5_2).toNat * 9)).block, (ad403.add ((x5_2).toNat * 9)).off + 7, none⟩ = some (.string ((rd_T26 l1_8 x5_2).f5)) ∧ w'.cell? ⟨(ad403.add ((x5_2).toNat * 9)).block, (ad403.add ((x5_2).toNat * 9)).off + 8, none⟩ = some (.slice A403_8 ((rd_T26 l1_8 x5_2).f6).length c403_8)) (ds := []) #[false, false, false, false, false, false, false, false, false, false, false, false] (by kernel_rfl) rfl rfl ⟨(bkC BK400.out 0).trans rfl, (bkC BK400.out 1).trans rfl, (bkC BK400.out 2).trans rfl, (bkC BK400.out 3).trans rfl, (bkC BK400.out 4).trans rfl, (bkC BK400.out 5).trans rfl, (bkC BK400.out 6).trans rfl, (bkC BK400.out 7).trans rfl, (bkC BK400.out 8).trans rfl, (bkC BK401.out 0).trans rfl, (bkC BK401.out 1).trans rfl, (bkC BK401.out 2).trans rfl, (bkC BK401.out 3).trans rfl, (bkC BK401.out 4).trans rfl, (bkC BK401.out 5).trans rfl, (bkC BK401.out 6).trans rfl, (bkC BK401.out 7).trans rfl, (bkC BK401.out 8).trans rfl, ((HB.out.cell (World.block_lt_of_cell? w _ hw402_0)).trans hw402_0), ((HB.out.cell (World.block_lt_of_cell? w _ hw402_1)).trans hw402_1), ((HB.out.cell (World.block_lt_of_cell? w _ hw402_2)).trans hw402_2), ((HB.out.cell (World.block_lt_of_cell? w _ hw402_3)).trans hw402_3), ((HB.out.cell (World.block_lt_of_cell? w _ hw402_4)).trans hw402_4), ((HB.out.cell (World.block_lt_of_cell? w _ hw402_5)).trans hw402_5), ((HB.out.cell (World.block_lt_of_cell? w _ hw402_6)).trans hw402_6), ((HB.out.cell (World.block_lt_of_cell? w _ hw402_7)).trans hw402_7), ((HB.out.cell (World.block_lt_of_cell? w _ hw402_8)).trans hw402_8), ((HB.out.cell (World.block_lt_of_cell? w _ hw403_0)).trans hw403_0), ((HB.out.cell (World.block_lt_of_cell? w _ hw403_1)).trans hw403_1), ((HB.out.cell (World.block_lt_of_cell? w _ hw403_2)).trans hw403_2), ((HB.out.cell (World.block_lt_of_cell? w _ hw403_3)).trans hw403_3), ((HB.out.cell (World.block_lt_of_cell? w _ hw403_4)).trans hw403_4), ((HB.out.cell (World.block_lt_of_cell? w _ hw403_5)).trans hw403_5), ((HB.out.cell (World.block_lt_of_cell? w _ hw403_6)).trans hw403_6), ((HB.out.cell (World.block_lt_of_cell? w _ hw403_7)).trans hw403_7), ((HB.out.cell (World.block_lt_of_cell? w _ hw403_8)).trans hw403_8)⟩ (fun hHeld => ?_); refine with_tabW q08_same.tab6 q08_same.bits6 (fun HT_ HW_ => ?_)
          generalize wr.drew = w37 at BK400 BK401 HB HR402_8 HR403_8 hx402_0 hx402_1 hx402_2 hx402_3 hx402_4 hx402_5 hx402_6 hx402_7 hx402_8 hx403_0 hx403_1 hx403_2 hx403_3 hx403_4 hx403_5 hx403_6 hx403_7 hx403_8 hHeld ⊢
          refine pure_ (i := 0) (N := some 56) (v := ?_) (a' := ?_) #[true, false, false, false, false, false, false, false, false, false, false, false] rfl rfl (any_of HT_.out (by kernel_rfl)) (fun _ _ _ h => h) (Or.inl ⟨by rfl, ?_⟩) ?_ ?_
          rotate_left
          ·intro w'
           go_simp
           with_reducible rfl
          rotate_left
          ·simp only [Act.put, List.setIfInBounds_toArray, List.set_cons_zero, List.set_cons_succ, i64_w, i32_w]
           rfl
          refine pure_ (i := 2) (N := some 58) (v := ?_) (a' := ?_) #[true, false, true, false, false, false, false, false, false, false, false, false] rfl rfl (any_of HT_.out (by kernel_rfl)) (fun _ _ _ h => h) (Or.inl ⟨by rfl, ?_⟩) ?_ ?_
          rotate_left
          ·intro w'
           go_simp
           with_reducible rfl
          rotate_left
          ·simp only [Act.put, List.setIfInBounds_toArray, List.set_cons_zero, List.set_cons_succ, i64_w, i32_w]
           rfl
          refine pure_ (i := 5) (N := some 61) (v := ?_) (a' := ?_) #[true, false, true, false, false, true, false, false, false, false, false, false] rfl rfl (any_of HT_.out (by kernel_rfl)) (fun _ _ _ h => h) (Or.inl ⟨by rfl, ?_⟩) ?_ ?_
          rotate_left
          ·intro w'
           go_simp
           with_reducible rfl
          rotate_left
          ·simp only [Act.put, List.setIfInBounds_toArray, List.set_cons_zero, List.set_cons_succ, i64_w, i32_w]
           rfl
          refine pure_ (i := 7) (N := some 63) (v := ?_) (a' := ?_) #[true, false, true, false, false, true, false, true, false, false, false, false] rfl rfl (any_of HT_.out (by kernel_rfl)) (fun _ _ _ h => h) (Or.inl ⟨by rfl, ?_⟩) ?_ ?_
          rotate_left
          ·intro w'
           go_simp
           with_reducible rfl
          rotate_left
          ·simp only [Act.put, List.setIfInBounds_toArray, List.set_cons_zero, List.set_cons_succ, i64_w, i32_w]
           rfl
          refine take_ (i := 1) (N := some 57) (v := ?_) (a' := ?_) #[true, true, true, false, false, true, false, true, false, false, false, false] rfl rfl (take_ofW HT_.out HW_.out (by kernel_rfl)) (fun _ _ _ h => h) (Or.inl ⟨by rfl, ?_⟩) hHeld ?_ ?_
          rotate_left
          ·rintro w' ⟨s0, s1, s2, s3, s4, s5, s6, s7, s8, s9, s10, s11, s12, s13, s14, s15, s16, s17, s18, s19, s20, s21, s22, s23, s24, s25, s26, s27, s28, s29, s30, s31, s32, s33, s34, s35⟩
           go_simp
           with_reducible rfl
          rotate_left
          ·simp only [Act.put, List.setIfInBounds_toArray, List.set_cons_zero, List.set_cons_succ, i64_w, i32_w]
           rfl
          refine pure_ (i := 3) (N := some 59) (v := ?_) (a' := ?_) #[true, true, true, true, false, true, false, true, false, false, false, false] rfl rfl (any_of HT_.out (by kernel_rfl)) (fun _ _ _ h => h) (Or.inl ⟨by rfl, ?_⟩) ?_ ?_
          rotate_left
          ·intro w'
           go_simp
           with_reducible rfl
          rotate_left
          ·simp only [Act.put, List.setIfInBounds_toArray, List.set_cons_zero, List.set_cons_succ, i64_w, i32_w]
           rfl
          refine take_ (i := 4) (N := some 60) (v := ?_) (a' := ?_) #[true, true, true, true, true, true, false, true, false, false, false, false] rfl rfl (take_ofW HT_.out HW_.out (by kernel_rfl)) (fun _ _ _ h => h) (Or.inl ⟨by rfl, ?_⟩) hHeld ?_ ?_
          rotate_left
          ·rintro w' ⟨s0, s1, s2, s3, s4, s5, s6, s7, s8, s9, s10, s11, s12, s13, s14, s15, s16, s17, s18, s19, s20, s21, s22, s23, s24, s25, s26, s27, s28, s29, s30, s31, s32, s33, s34, s35⟩
           go_simp
           with_reducible rfl
          rotate_left
          ·simp only [Act.put, List.setIfInBounds_toArray, List.set_cons_zero, List.set_cons_succ, i64_w, i32_w]
           rfl
          refine take_ (i := 6) (N := some 62) (v := ?_) (a' := ?_) #[true, true, true, true, true, true, true, true, false, false, false, false] rfl rfl (take_ofW HT_.out HW_.out (by kernel_rfl)) (fun _ _ _ h => h) (Or.inl ⟨by rfl, ?_⟩) hHeld ?_ ?_
          rotate_left
          ·rintro w' ⟨s0, s1, s2, s3, s4, s5, s6, s7, s8, s9, s10, s11, s12, s13, s14, s15, s16, s17, s18, s19, s20, s21, s22, s23, s24, s25, s26, s27, s28, s29, s30, s31, s32, s33, s34, s35⟩
           go_simp
           with_reducible rfl
          rotate_left
          ·simp only [Act.put, List.setIfInBounds_toArray, List.set_cons_zero, List.set_cons_succ, i64_w, i32_w]
           rfl
          refine pure_ (i := 8) (N := some 64) (v := ?_) (a' := ?_) #[true, true, true, true, true, true, true, true, true, false, false, false] rfl rfl (any_of HT_.out (by kernel_rfl)) (fun _ _ _ h => h) (Or.inl ⟨by rfl, ?_⟩) ?_ ?_
          rotate_left
          ·intro w'
           go_simp
           with_reducible rfl
          rotate_left
          ·simp only [Act.put, List.setIfInBounds_toArray, List.set_cons_zero, List.set_cons_succ, i64_w, i32_w]
           rfl
          refine take_ (i := 9) (N := some 65) (v := ?_) (a' := ?_) #[true, true, true, true, true, true, true, true, true, true, false, false] rfl rfl (take_ofW HT_.out HW_.out (by kernel_rfl)) (fun _ _ _ h => h) (Or.inl ⟨by rfl, ?_⟩) hHeld ?_ ?_
          rotate_left
          ·rintro w' ⟨s0, s1, s2, s3, s4, s5, s6, s7, s8, s9, s10, s11, s12, s13, s14, s15, s16, s17, s18, s19, s20, s21, s22, s23, s24, s25, s26, s27, s28, s29, s30, s31, s32, s33, s34, s35⟩
           go_simp
           with_reducible rfl
          rotate_left
          ·simp only [Act.put, List.setIfInBounds_toArray, List.set_cons_zero, List.set_cons_succ, i64_w, i32_w]
           rfl
          refine one_ (i := 10) (N := some 66) #[true, true, true, true, true, true, true, true, true, true, true, false] rfl rfl (one_of HT_.out (by kernel_rfl)) (by decide) (fun K hK => ?_)
          refine goes_ Tryd.func58 (by kernel_rfl) rfl #[.agg #[.int .i64 ((rd_T26 l0_8 x5_2).f0), .int .i64 ((rd_T26 l0_8 x5_2).f1.f0), .int .i64 ((rd_T26 l0_8 x5_2).f1.f1), .string ((rd_T26 l0_8 x5_2).f1.f2), .int .i64 ((rd_T26 l0_8 x5_2).f2), .int .i64 ((rd_T26 l0_8 x5_2).f3), .int .i64 ((rd_T26 l0_8 x5_2).f4), .string ((rd_T26 l0_8 x5_2).f5), .slice A402_8 ((rd_T26 l0_8 x5_2).f6).length c402_8], .agg #[.int .i64 ((rd_T26 l1_8 x5_2).f0), .int .i64 ((rd_T26 l1_8 x5_2).f1.f0), .int .i64 ((rd_T26 l1_8 x5_2).f1.f1), .string ((rd_T26 l1_8 x5_2).f1.f2), .int .i64 ((rd_T26 l1_8 x5_2).f2), .int .i64 ((rd_T26 l1_8 x5_2).f3), .int .i64 ((rd_T26 l1_8 x5_2).f4), .string ((rd_T26 l1_8 x5_2).f5), .slice A403_8 ((rd_T26 l1_8 x5_2).f6).length c403_8]] (by rfl) rfl rfl (by (try simp only [List.map_toArray, List.map_cons, List.map_nil]); first | done | rfl | (simp only [List.length_drop, List.length_take]; rfl)) ?_
          with_reducible refine (ih k2 (by have := HJ2.out; have := HK2.out; omega) ((rd_T26 l0_8 x5_2).f0) ((rd_T26 l0_8 x5_2).f1.f0) ((rd_T26 l0_8 x5_2).f1.f1) ((rd_T26 l0_8 x5_2).f1.f2) ((rd_T26 l0_8 x5_2).f2) ((rd_T26 l0_8 x5_2).f3) ((rd_T26 l0_8 x5_2).f4) ((rd_T26 l0_8 x5_2).f5) _ _ ((rd_T26 l0_8 x5_2).f6) ((rd_T26 l1_8 x5_2).f0) ((rd_T26 l1_8 x5_2).f1.f0) ((rd_T26 l1_8 x5_2).f1.f1) ((rd_T26 l1_8 x5_2).f1.f2) ((rd_T26 l1_8 x5_2).f2) ((rd_T26 l1_8 x5_2).f3) ((rd_T26 l1_8 x5_2).f4) ((rd_T26 l1_8 x5_2).f5) _ _ ((rd_T26 l1_8 x5_2).f6) true _ ?side1 ?side2 ?side3 ?side4 A33.out).mono ?_
          (case side1 => repeat (first | exact (Kd.C_below HR402_8.out HB.out) | (with_reducible refine Kd.C_alloc ?_ _) | (with_reducible refine Kd.C_drewN ?_ _) | (with_reducible refine Kd.C_drew ?_)))
          (case side2 => exact HC402_8.out)
          (case side3 => repeat (first | exact (Kd.C_below HR403_8.out HB.out) | (with_reducible refine Kd.C_alloc ?_ _) | (with_reducible refine Kd.C_drewN ?_ _) | (with_reducible refine Kd.C_drew ?_)))
          (case side4 => exact HC403_8.out)
          rintro e w38 ⟨rfl, hb⟩
          refine ⟨_, rfl, ?_⟩
          have n0_ := Asd.mk (bB hb BK400.out)
          have n1_ := Asd.mk (bB hb BK401.out)
          have n2_ := Asd.mk (bS hb HB.out)
          clear BK400 BK401 HB
          have BK400 := n0_
          have BK401 := n1_
          have HB := n2_
          clear n0_ n1_ n2_
          (try clear hb)
          (try clear hb2)
          (try clear hk)
          (try clear hi)
          refine hK.out _ _ ⟨(bkC BK400.out 0).trans rfl, (bkC BK400.out 1).trans rfl, (bkC BK400.out 2).trans rfl, (bkC BK400.out 3).trans rfl, (bkC BK400.out 4).trans rfl, (bkC BK400.out 5).trans rfl, (bkC BK400.out 6).trans rfl, (bkC BK400.out 7).trans rfl, (bkC BK400.out 8).trans rfl, (bkC BK401.out 0).trans rfl, (bkC BK401.out 1).trans rfl, (bkC BK401.out 2).trans rfl, (bkC BK401.out 3).trans rfl, (bkC BK401.out 4).trans rfl, (bkC BK401.out 5).trans rfl, (bkC BK401.out 6).trans rfl, (bkC BK401.out 7).trans rfl, (bkC BK401.out 8).trans rfl, ((HB.out.cell (World.block_lt_of_cell? w _ hw402_0)).trans hw402_0), ((HB.out.cell (World.block_lt_of_cell? w _ hw402_1)).trans hw402_1), ((HB.out.cell (World.block_lt_of_cell? w _ hw402_2)).trans hw402_2), ((HB.out.cell (World.block_lt_of_cell? w _ hw402_3)).trans hw402_3), ((HB.out.cell (World.block_lt_of_cell? w _ hw402_4)).trans hw402_4), ((HB.out.cell (World.block_lt_of_cell? w _ hw402_5)).trans hw402_5), ((HB.out.cell (World.block_lt_of_cell? w _ hw402_6)).trans hw402_6), ((HB.out.cell (World.block_lt_of_cell? w _ hw402_7)).trans hw402_7), ((HB.out.cell (World.block_lt_of_cell? w _ hw402_8)).trans hw402_8), ((HB.out.cell (World.block_lt_of_cell? w _ hw403_0)).trans hw403_0), ((HB.out.cell (World.block_lt_of_cell? w _ hw403_1)).trans hw403_1), ((HB.out.cell (World.block_lt_of_cell? w _ hw403_2)).trans hw403_2), ((HB.out.cell (World.block_lt_of_cell? w _ hw403_3)).trans hw403_3), ((HB.out.cell (World.block_lt_of_cell? w _ hw403_4)).trans hw403_4), ((HB.out.cell (World.block_lt_of_cell? w _ hw403_5)).trans hw403_5), ((HB.out.cell (World.block_lt_of_cell? w _ hw403_6)).trans hw403_6), ((HB.out.cell (World.block_lt_of_cell? w _ hw403_7)).trans hw403_7), ((HB.out.cell (World.block_lt_of_cell? w _ hw403_8)).trans hw403_8)⟩ (fun hHeld => ?_)
          clear hK K
          refine norm_ (a' := ?_) ?_ ?_
          rotate_left
          ·show Act.put _ (some 66) _ = _
           simp only [Act.put, List.setIfInBounds_toArray, List.set_cons_zero, List.set_cons_succ, i64_w, i32_w]
           rfl
          refine pure_ (i := 11) (N := some 6) (v := ?_) (a' := ?_) #[true, true, true, true, true, true, true, true, true, true, true, true] rfl rfl (any_of HT_.out (by kernel_rfl)) (fun _ _ _ h => h) (Or.inl ⟨by rfl, ?_⟩) ?_ ?_
          rotate_left
          ·intro w'
           go_simp
           with_reducible rfl
          rotate_left
          ·simp only [Act.put, List.setIfInBounds_toArray, List.set_cons_zero, List.set_cons_succ, i64_w, i32_w]
           rfl
          refine done_ (done_of HT_.out (by kernel_rfl)) ?_
          try go_wp2
          go_roundg k2
          case measure => have := HJ2.out; have := HK2.out; omega
          case rel => exact ⟨(wrap64 (x5_2 + 1)), (by first | rfl | (simp; done) | (simp [*]; done)), H', ⟨by have := HJ2.out; have := HK2.out; omega⟩, ⟨by exact BK400.out⟩, ⟨by exact BK401.out⟩, ⟨by repeat (first | (with_reducible first | exact HB.out | apply blA | apply pbN | apply blD | refine blS ?_ GE400.out | refine blS ?_ GE401.out) | exact HB.out)⟩⟩
         ·replace c34 := Bool.eq_false_iff.mpr c34
          subst c34
          have H1 : (some false) = some r := by rw [if_neg (show ¬ (false = true) by decide)] at H; exact H
          clear H
          have H := H1
          clear H1
          obtain rfl := Option.some.inj H
          have hnb39 := NB400_401.out
          have hnc39 := NB401_400.out
          obtain ⟨hcz40_0, hcz40_1, hcz40_2, hcz40_3, hcz40_4, hcz40_5, hcz40_6, hcz40_7, hcz40_8⟩ := bkC9 BK400.out
          obtain ⟨hfz40_0, hfz40_1, hfz40_2, hfz40_3, hfz40_4, hfz40_5, hfz40_6, hfz40_7, hfz40_8⟩ := bkF9 BK400.out
          try go_wp2
          have n0_ := Asd.mk (bkD BK400.out)
          have n1_ := Asd.mk (bkD BK401.out)
          have n2_ := Asd.mk (blD HB.out)
          clear BK400 BK401 HB
          have BK400 := n0_
          have BK401 := n1_
          have HB := n2_
          clear n0_ n1_ n2_
          have p402 : 0 ≤ (x5_2 : Int) := of_decide_eq_true (by first | (with_reducible assumption) | assumption)
          have q402 : x5_2 < (l0_8.length : Int) := of_decide_eq_true (by first | (with_reducible assumption) | assumption)
          obtain ⟨ad402, A402_8, c402_8, e402, hx402_0, hx402_1, hx402_2, hx402_3, hx402_4, hx402_5, hx402_6, hx402_7, hx402_8, hl402_8, hi402_8⟩ := at_T26 HR0_8.out x5_2 p402 q402
          have hw402_8 := hx402_8
          have hw402_7 := hx402_7
          have hw402_6 := hx402_6
          have hw402_5 := hx402_5
          have hw402_4 := hx402_4
          have hw402_3 := hx402_3
          have hw402_2 := hx402_2
          have hw402_1 := hx402_1
          have hw402_0 := hx402_0
          cases e402
          replace hx402_0 := (HB.out.cell (World.block_lt_of_cell? w _ hx402_0)).trans hx402_0
          replace hx402_1 := (HB.out.cell (World.block_lt_of_cell? w _ hx402_1)).trans hx402_1
          replace hx402_2 := (HB.out.cell (World.block_lt_of_cell? w _ hx402_2)).trans hx402_2
          replace hx402_3 := (HB.out.cell (World.block_lt_of_cell? w _ hx402_3)).trans hx402_3
          replace hx402_4 := (HB.out.cell (World.block_lt_of_cell? w _ hx402_4)).trans hx402_4
          replace hx402_5 := (HB.out.cell (World.block_lt_of_cell? w _ hx402_5)).trans hx402_5
          replace hx402_6 := (HB.out.cell (World.block_lt_of_cell? w _ hx402_6)).trans hx402_6
          replace hx402_7 := (HB.out.cell (World.block_lt_of_cell? w _ hx402_7)).trans hx402_7
          replace hx402_8 := (HB.out.cell (World.block_lt_of_cell? w _ hx402_8)).trans hx402_8
          have HR402_8 := Asd.mk hi402_8
          have HC402_8 := Asd.mk hl402_8
          clear hi402_8 hl402_8
          replace p402 := eq_true p402
          replace q402 := eq_true q402
          have p403 : 0 ≤ (x5_2 : Int) := of_decide_eq_true (by first | (with_reducible assumption) | assumption)
          have q403 : x5_2 < (l1_8.length : Int) := of_decide_eq_true (by first | (with_reducible assumption) | assumption)
          obtain ⟨ad403, A403_8, c403_8, e403, hx403_0, hx403_1, hx403_2, hx403_3, hx403_4, hx403_5, hx403_6, hx403_7, hx403_8, hl403_8, hi403_8⟩ := at_T26 HR1_8.out x5_2 p403 q403
          have hw403_8 := hx403_8
          have hw403_7 := hx403_7
          have hw403_6 := hx403_6
          have hw403_5 := hx403_5
          have hw403_4 := hx403_4
          have hw403_3 := hx403_3
          have hw403_2 := hx403_2
          have hw403_1 := hx403_1
          have hw403_0 := hx403_0
          cases e403
          replace hx403_0 := (HB.out.cell (World.block_lt_of_cell? w _ hx403_0)).trans hx403_0
          replace hx403_1 := (HB.out.cell (World.block_lt_of_cell? w _ hx403_1)).trans hx403_1
          replace hx403_2 := (HB.out.cell (World.block_lt_of_cell? w _ hx403_2)).trans hx403_2
          replace hx403_3 := (HB.out.cell (World.block_lt_of_cell? w _ hx403_3)).trans hx403_3
          replace hx403_4 := (HB.out.cell (World.block_lt_of_cell? w _ hx403_4)).trans hx403_4
          replace hx403_5 := (HB.out.cell (World.block_lt_of_cell? w _ hx403_5)).trans hx403_5
          replace hx403_6 := (HB.out.cell (World.block_lt_of_cell? w _ hx403_6)).trans hx403_6
          replace hx403_7 := (HB.out.cell (World.block_lt_of_cell? w _ hx403_7)).trans hx403_7
          replace hx403_8 := (HB.out.cell (World.block_lt_of_cell? w _ hx403_8)).trans hx403_8
          have HR403_8 := Asd.mk hi403_8
          have HC403_8 := Asd.mk hl403_8
          clear hi403_8 hl403_8
          replace p403 := eq_true p403
          replace q403 := eq_true q403
          refine start_ (n := 12) (S := fun w' => w'.cell? ⟨gb400, 0, none⟩ = some (.int .i64 a0_0) ∧ w'.cell? ⟨gb400, 1, none⟩ = some (.int .i64 a0_1) ∧ w'.cell? ⟨gb400, 2, none⟩ = some (.int .i64 a0_2) ∧ w'.cell? ⟨gb400, 3, none⟩ = some (.string a0_3) ∧ w'.cell? ⟨gb400, 4, none⟩ = some (.int .i64 a0_4) ∧ w'.cell? ⟨gb400, 5, none⟩ = some (.int .i64 a0_5) ∧ w'.cell? ⟨gb400, 6, none⟩ = some (.int .i64 a0_6) ∧ w'.cell? ⟨gb400, 7, none⟩ = some (.string a0_7) ∧ w'.cell? ⟨gb400, 8, none⟩ = some (.slice (some ad402) l0_8.length c0_8) ∧ w'.cell? ⟨gb401, 0, none⟩ = some (.int .i64 a1_0) ∧ w'.cell? ⟨gb401, 1, none⟩ = some (.int .i64 a1_1) ∧ w'.cell? ⟨gb401, 2, none⟩ = some (.int .i64 a1_2) ∧ w'.cell? ⟨gb401, 3, none⟩ = some (.string a1_3) ∧ w'.cell? ⟨gb401, 4, none⟩ = some (.int .i64 a1_4) ∧ w'.cell? ⟨gb401, 5, none⟩ = some (.int .i64 a1_5) ∧ w'.cell? ⟨gb401, 6, none⟩ = some (.int .i64 a1_6) ∧ w'.cell? ⟨gb401, 7, none⟩ = some (.string a1_7) ∧ w'.cell? ⟨gb401, 8, none⟩ = some (.slice (some ad403) l1_8.length c1_8) ∧ w'.cell? (ad402.add ((x5_2).toNat * 9)) = some (.int .i64 ((rd_T26 l0_8 x5_2).f0)) ∧ w'.cell? ⟨(ad402.add ((x5_2).toNat * 9)).block, (ad402.add ((x5_2).toNat * 9)).off + 1, none⟩ = some (.int .i64 ((rd_T26 l0_8 x5_2).f1.f0)) ∧ w'.cell? ⟨(ad402.add ((x5_2).toNat * 9)).block, (ad402.add ((x5_2).toNat * 9)).off + 2, none⟩ = some (.int .i64 ((rd_T26 l0_8 x5_2).f1.f1)) ∧ w'.cell? ⟨(ad402.add ((x5_2).toNat * 9)).block, (ad402.add ((x5_2).toNat * 9)).off + 3, none⟩ = some (.string ((rd_T26 l0_8 x5_2).f1.f2)) ∧ w'.cell? ⟨(ad402.add ((x5_2).toNat * 9)).block, (ad402.add ((x5_2).toNat * 9)).off + 4, none⟩ = some (.int .i64 ((rd_T26 l0_8 x5_2).f2)) ∧ w'.cell? ⟨(ad402.add ((x5_2).toNat * 9)).block, (ad402.add ((x5_2).toNat * 9)).off + 5, none⟩ = some (.int .i64 ((rd_T26 l0_8 x5_2).f3)) ∧ w'.cell? ⟨(ad402.add ((x5_2).toNat * 9)).block, (ad402.add ((x5_2).toNat * 9)).off + 6, none⟩ = some (.int .i64 ((rd_T26 l0_8 x5_2).f4)) ∧ w'.cell? ⟨(ad402.add ((x5_2).toNat * 9)).block, (ad402.add ((x5_2).toNat * 9)).off + 7, none⟩ = some (.string ((rd_T26 l0_8 x5_2).f5)) ∧ w'.cell? ⟨(ad402.add ((x5_2).toNat * 9)).block, (ad402.add ((x5_2).toNat * 9)).off + 8, none⟩ = some (.slice A402_8 ((rd_T26 l0_8 x5_2).f6).length c402_8) ∧ w'.cell? (ad403.add ((x5_2).toNat * 9)) = some (.int .i64 ((rd_T26 l1_8 x5_2).f0)) ∧ w'.cell? ⟨(ad403.add ((x5_2).toNat * 9)).block, (ad403.add ((x5_2).toNat * 9)).off + 1, none⟩ = some (.int .i64 ((rd_T26 l1_8 x5_2).f1.f0)) ∧ w'.cell? ⟨(ad403.add ((x5_2).toNat * 9)).block, (ad403.add ((x5_2).toNat * 9)).off + 2, none⟩ = some (.int .i64 ((rd_T26 l1_8 x5_2).f1.f1)) ∧ w'.cell? ⟨(ad403.add ((x5_2).toNat * 9)).block, (ad403.add ((x5_2).toNat * 9)).off + 3, none⟩ = some (.string ((rd_T26 l1_8 x5_2).f1.f2)) ∧ w'.cell? ⟨(ad403.add ((x5_2).toNat * 9)).block, (ad403.add ((x5_2).toNat * 9)).off + 4, none⟩ = some (.int .i64 ((rd_T26 l1_8 x5_2).f2)) ∧ w'.cell? ⟨(ad403.add ((x5_2).toNat * 9)).block, (ad403.add ((x5_2).toNat * 9)).off + 5, none⟩ = some (.int .i64 ((rd_T26 l1_8 x5_2).f3)) ∧ w'.cell? ⟨(ad403.add ((x5_2).toNat * 9)).block, (ad403.add ((x5_2).toNat * 9)).off + 6, none⟩ = some (.int .i64 ((rd_T26 l1_8 x5_2).f4)) ∧ w'.cell? ⟨(ad403.add ((x5_2).toNat * 9)).block, (ad403.add ((x5_2).toNat * 9)).off + 7, none⟩ = some (.string ((rd_T26 l1_8 x5_2).f5)) ∧ w'.cell? ⟨(ad403.add ((x5_2).toNat * 9)).block, (ad403.add ((x5_2).toNat * 9)).off + 8, none⟩ = some (.slice A403_8 ((rd_T26 l1_8 x5_2).f6).length c403_8)) (ds := []) #[false, false, false, false, false, false, false, false, false, false, false, false] (by kernel_rfl) rfl rfl ⟨(bkC BK400.out 0).trans rfl, (bkC BK400.out 1).trans rfl, (bkC BK400.out 2).trans rfl, (bkC BK400.out 3).trans rfl, (bkC BK400.out 4).trans rfl, (bkC BK400.out 5).trans rfl, (bkC BK400.out 6).trans rfl, (bkC BK400.out 7).trans rfl, (bkC BK400.out 8).trans rfl, (bkC BK401.out 0).trans rfl, (bkC BK401.out 1).trans rfl, (bkC BK401.out 2).trans rfl, (bkC BK401.out 3).trans rfl, (bkC BK401.out 4).trans rfl, (bkC BK401.out 5).trans rfl, (bkC BK401.out 6).trans rfl, (bkC BK401.out 7).trans rfl, (bkC BK401.out 8).trans rfl, ((HB.out.cell (World.block_lt_of_cell? w _ hw402_0)).trans hw402_0), ((HB.out.cell (World.block_lt_of_cell? w _ hw402_1)).trans hw402_1), ((HB.out.cell (World.block_lt_of_cell? w _ hw402_2)).trans hw402_2), ((HB.out.cell (World.block_lt_of_cell? w _ hw402_3)).trans hw402_3), ((HB.out.cell (World.block_lt_of_cell? w _ hw402_4)).trans hw402_4), ((HB.out.cell (World.block_lt_of_cell? w _ hw402_5)).trans hw402_5), ((HB.out.cell (World.block_lt_of_cell? w _ hw402_6)).trans hw402_6), ((HB.out.cell (World.block_lt_of_cell? w _ hw402_7)).trans hw402_7), ((HB.out.cell (World.block_lt_of_cell? w _ hw402_8)).trans hw402_8), ((HB.out.cell (World.block_lt_of_cell? w _ hw403_0)).trans hw403_0), ((HB.out.cell (World.block_lt_of_cell? w _ hw403_1)).trans hw403_1), ((HB.out.cell (World.block_lt_of_cell? w _ hw403_2)).trans hw403_2), ((HB.out.cell (World.block_lt_of_cell? w _ hw403_3)).trans hw403_3), ((HB.out.cell (World.block_lt_of_cell? w _ hw403_4)).trans hw403_4), ((HB.out.cell (World.block_lt_of_cell? w _ hw403_5)).trans hw403_5), ((HB.out.cell (World.block_lt_of_cell? w _ hw403_6)).trans hw403_6), ((HB.out.cell (World.block_lt_of_cell? w _ hw403_7)).trans hw403_7), ((HB.out.cell (World.block_lt_of_cell? w _ hw403_8)).trans hw403_8)⟩ (fun hHeld => ?_); refine with_tabW q08_same.tab6 q08_same.bits6 (fun HT_ HW_ => ?_)
          generalize wr.drew = w41 at BK400 BK401 HB HR402_8 HR403_8 hx402_0 hx402_1 hx402_2 hx402_3 hx402_4 hx402_5 hx402_6 hx402_7 hx402_8 hx403_0 hx403_1 hx403_2 hx403_3 hx403_4 hx403_5 hx403_6 hx403_7 hx403_8 hHeld ⊢
          refine pure_ (i := 0) (N := some 56) (v := ?_) (a' := ?_) #[true, false, false, false, false, false, false, false, false, false, false, false] rfl rfl (any_of HT_.out (by kernel_rfl)) (fun _ _ _ h => h) (Or.inl ⟨by rfl, ?_⟩) ?_ ?_
          rotate_left
          ·intro w'
           go_simp
           with_reducible rfl
          rotate_left
          ·simp only [Act.put, List.setIfInBounds_toArray, List.set_cons_zero, List.set_cons_succ, i64_w, i32_w]
           rfl
          refine pure_ (i := 2) (N := some 58) (v := ?_) (a' := ?_) #[true, false, true, false, false, false, false, false, false, false, false, false] rfl rfl (any_of HT_.out (by kernel_rfl)) (fun _ _ _ h => h) (Or.inl ⟨by rfl, ?_⟩) ?_ ?_
          rotate_left
          ·intro w'
           go_simp
           with_reducible rfl
          rotate_left
          ·simp only [Act.put, List.setIfInBounds_toArray, List.set_cons_zero, List.set_cons_succ, i64_w, i32_w]
           rfl
          refine pure_ (i := 5) (N := some 61) (v := ?_) (a' := ?_) #[true, false, true, false, false, true, false, false, false, false, false, false] rfl rfl (any_of HT_.out (by kernel_rfl)) (fun _ _ _ h => h) (Or.inl ⟨by rfl, ?_⟩) ?_ ?_
          rotate_left
          ·intro w'
           go_simp
           with_reducible rfl
          rotate_left
          ·simp only [Act.put, List.setIfInBounds_toArray, List.set_cons_zero, List.set_cons_succ, i64_w, i32_w]
           rfl
          refine pure_ (i := 7) (N := some 63) (v := ?_) (a' := ?_) #[true, false, true, false, false, true, false, true, false, false, false, false] rfl rfl (any_of HT_.out (by kernel_rfl)) (fun _ _ _ h => h) (Or.inl ⟨by rfl, ?_⟩) ?_ ?_
          rotate_left
          ·intro w'
           go_simp
           with_reducible rfl
          rotate_left
          ·simp only [Act.put, List.setIfInBounds_toArray, List.set_cons_zero, List.set_cons_succ, i64_w, i32_w]
           rfl
          refine take_ (i := 1) (N := some 57) (v := ?_) (a' := ?_) #[true, true, true, false, false, true, false, true, false, false, false, false] rfl rfl (take_ofW HT_.out HW_.out (by kernel_rfl)) (fun _ _ _ h => h) (Or.inl ⟨by rfl, ?_⟩) hHeld ?_ ?_
          rotate_left
          ·rintro w' ⟨s0, s1, s2, s3, s4, s5, s6, s7, s8, s9, s10, s11, s12, s13, s14, s15, s16, s17, s18, s19, s20, s21, s22, s23, s24, s25, s26, s27, s28, s29, s30, s31, s32, s33, s34, s35⟩
           go_simp
           with_reducible rfl
          rotate_left
          ·simp only [Act.put, List.setIfInBounds_toArray, List.set_cons_zero, List.set_cons_succ, i64_w, i32_w]
           rfl
          refine pure_ (i := 3) (N := some 59) (v := ?_) (a' := ?_) #[true, true, true, true, false, true, false, true, false, false, false, false] rfl rfl (any_of HT_.out (by kernel_rfl)) (fun _ _ _ h => h) (Or.inl ⟨by rfl, ?_⟩) ?_ ?_
          rotate_left
          ·intro w'
           go_simp
           with_reducible rfl
          rotate_left
          ·simp only [Act.put, List.setIfInBounds_toArray, List.set_cons_zero, List.set_cons_succ, i64_w, i32_w]
           rfl
          refine take_ (i := 4) (N := some 60) (v := ?_) (a' := ?_) #[true, true, true, true, true, true, false, true, false, false, false, false] rfl rfl (take_ofW HT_.out HW_.out (by kernel_rfl)) (fun _ _ _ h => h) (Or.inl ⟨by rfl, ?_⟩) hHeld ?_ ?_
          rotate_left
          ·rintro w' ⟨s0, s1, s2, s3, s4, s5, s6, s7, s8, s9, s10, s11, s12, s13, s14, s15, s16, s17, s18, s19, s20, s21, s22, s23, s24, s25, s26, s27, s28, s29, s30, s31, s32, s33, s34, s35⟩
           go_simp
           with_reducible rfl
          rotate_left
          ·simp only [Act.put, List.setIfInBounds_toArray, List.set_cons_zero, List.set_cons_succ, i64_w, i32_w]
           rfl
          refine take_ (i := 6) (N := some 62) (v := ?_) (a' := ?_) #[true, true, true, true, true, true, true, true, false, false, false, false] rfl rfl (take_ofW HT_.out HW_.out (by kernel_rfl)) (fun _ _ _ h => h) (Or.inl ⟨by rfl, ?_⟩) hHeld ?_ ?_
          rotate_left
          ·rintro w' ⟨s0, s1, s2, s3, s4, s5, s6, s7, s8, s9, s10, s11, s12, s13, s14, s15, s16, s17, s18, s19, s20, s21, s22, s23, s24, s25, s26, s27, s28, s29, s30, s31, s32, s33, s34, s35⟩
           go_simp
           with_reducible rfl
          rotate_left
          ·simp only [Act.put, List.setIfInBounds_toArray, List.set_cons_zero, List.set_cons_succ, i64_w, i32_w]
           rfl
          refine pure_ (i := 8) (N := some 64) (v := ?_) (a' := ?_) #[true, true, true, true, true, true, true, true, true, false, false, false] rfl rfl (any_of HT_.out (by kernel_rfl)) (fun _ _ _ h => h) (Or.inl ⟨by rfl, ?_⟩) ?_ ?_
          rotate_left
          ·intro w'
           go_simp
           with_reducible rfl
          rotate_left
          ·simp only [Act.put, List.setIfInBounds_toArray, List.set_cons_zero, List.set_cons_succ, i64_w, i32_w]
           rfl
          refine take_ (i := 9) (N := some 65) (v := ?_) (a' := ?_) #[true, true, true, true, true, true, true, true, true, true, false, false] rfl rfl (take_ofW HT_.out HW_.out (by kernel_rfl)) (fun _ _ _ h => h) (Or.inl ⟨by rfl, ?_⟩) hHeld ?_ ?_
          rotate_left
          ·rintro w' ⟨s0, s1, s2, s3, s4, s5, s6, s7, s8, s9, s10, s11, s12, s13, s14, s15, s16, s17, s18, s19, s20, s21, s22, s23, s24, s25, s26, s27, s28, s29, s30, s31, s32, s33, s34, s35⟩
           go_simp
           with_reducible rfl
          rotate_left
          ·simp only [Act.put, List.setIfInBounds_toArray, List.set_cons_zero, List.set_cons_succ, i64_w, i32_w]
           rfl
          refine one_ (i := 10) (N := some 66) #[true, true, true, true, true, true, true, true, true, true, true, false] rfl rfl (one_of HT_.out (by kernel_rfl)) (by decide) (fun K hK => ?_)
          refine goes_ Tryd.func58 (by kernel_rfl) rfl #[.agg #[.int .i64 ((rd_T26 l0_8 x5_2).f0), .int .i64 ((rd_T26 l0_8 x5_2).f1.f0), .int .i64 ((rd_T26 l0_8 x5_2).f1.f1), .string ((rd_T26 l0_8 x5_2).f1.f2), .int .i64 ((rd_T26 l0_8 x5_2).f2), .int .i64 ((rd_T26 l0_8 x5_2).f3), .int .i64 ((rd_T26 l0_8 x5_2).f4), .string ((rd_T26 l0_8 x5_2).f5), .slice A402_8 ((rd_T26 l0_8 x5_2).f6).length c402_8], .agg #[.int .i64 ((rd_T26 l1_8 x5_2).f0), .int .i64 ((rd_T26 l1_8 x5_2).f1.f0), .int .i64 ((rd_T26 l1_8 x5_2).f1.f1), .string ((rd_T26 l1_8 x5_2).f1.f2), .int .i64 ((rd_T26 l1_8 x5_2).f2), .int .i64 ((rd_T26 l1_8 x5_2).f3), .int .i64 ((rd_T26 l1_8 x5_2).f4), .string ((rd_T26 l1_8 x5_2).f5), .slice A403_8 ((rd_T26 l1_8 x5_2).f6).length c403_8]] (by rfl) rfl rfl (by (try simp only [List.map_toArray, List.map_cons, List.map_nil]); first | done | rfl | (simp only [List.length_drop, List.length_take]; rfl)) ?_
          with_reducible refine (ih k2 (by have := HJ2.out; have := HK2.out; omega) ((rd_T26 l0_8 x5_2).f0) ((rd_T26 l0_8 x5_2).f1.f0) ((rd_T26 l0_8 x5_2).f1.f1) ((rd_T26 l0_8 x5_2).f1.f2) ((rd_T26 l0_8 x5_2).f2) ((rd_T26 l0_8 x5_2).f3) ((rd_T26 l0_8 x5_2).f4) ((rd_T26 l0_8 x5_2).f5) _ _ ((rd_T26 l0_8 x5_2).f6) ((rd_T26 l1_8 x5_2).f0) ((rd_T26 l1_8 x5_2).f1.f0) ((rd_T26 l1_8 x5_2).f1.f1) ((rd_T26 l1_8 x5_2).f1.f2) ((rd_T26 l1_8 x5_2).f2) ((rd_T26 l1_8 x5_2).f3) ((rd_T26 l1_8 x5_2).f4) ((rd_T26 l1_8 x5_2).f5) _ _ ((rd_T26 l1_8 x5_2).f6) false _ ?side1 ?side2 ?side3 ?side4 A33.out).mono ?_
          (case side1 => repeat (first | exact (Kd.C_below HR402_8.out HB.out) | (with_reducible refine Kd.C_alloc ?_ _) | (with_reducible refine Kd.C_drewN ?_ _) | (with_reducible refine Kd.C_drew ?_)))
          (case side2 => exact HC402_8.out)
          (case side3 => repeat (first | exact (Kd.C_below HR403_8.out HB.out) | (with_reducible refine Kd.C_alloc ?_ _) | (with_reducible refine Kd.C_drewN ?_ _) | (with_reducible refine Kd.C_drew ?_)))
          (case side4 => exact HC403_8.out)
          rintro e w42 ⟨rfl, hb⟩
          refine ⟨_, rfl, ?_⟩
          have n0_ := Asd.mk (bB hb BK400.out)
          have n1_ := Asd.mk (bB hb BK401.out)
          have n2_ := Asd.mk (bS hb HB.out)
          clear BK400 BK401 HB
          have BK400 := n0_
          have BK401 := n1_
          have HB := n2_
          clear n0_ n1_ n2_
          (try clear hb)
          (try clear hb2)
          (try clear hk)
          (try clear hi)
          refine hK.out _ _ ⟨(bkC BK400.out 0).trans rfl, (bkC BK400.out 1).trans rfl, (bkC BK400.out 2).trans rfl, (bkC BK400.out 3).trans rfl, (bkC BK400.out 4).trans rfl, (bkC BK400.out 5).trans rfl, (bkC BK400.out 6).trans rfl, (bkC BK400.out 7).trans rfl, (bkC BK400.out 8).trans rfl, (bkC BK401.out 0).trans rfl, (bkC BK401.out 1).trans rfl, (bkC BK401.out 2).trans rfl, (bkC BK401.out 3).trans rfl, (bkC BK401.out 4).trans rfl, (bkC BK401.out 5).trans rfl, (bkC BK401.out 6).trans rfl, (bkC BK401.out 7).trans rfl, (bkC BK401.out 8).trans rfl, ((HB.out.cell (World.block_lt_of_cell? w _ hw402_0)).trans hw402_0), ((HB.out.cell (World.block_lt_of_cell? w _ hw402_1)).trans hw402_1), ((HB.out.cell (World.block_lt_of_cell? w _ hw402_2)).trans hw402_2), ((HB.out.cell (World.block_lt_of_cell? w _ hw402_3)).trans hw402_3), ((HB.out.cell (World.block_lt_of_cell? w _ hw402_4)).trans hw402_4), ((HB.out.cell (World.block_lt_of_cell? w _ hw402_5)).trans hw402_5), ((HB.out.cell (World.block_lt_of_cell? w _ hw402_6)).trans hw402_6), ((HB.out.cell (World.block_lt_of_cell? w _ hw402_7)).trans hw402_7), ((HB.out.cell (World.block_lt_of_cell? w _ hw402_8)).trans hw402_8), ((HB.out.cell (World.block_lt_of_cell? w _ hw403_0)).trans hw403_0), ((HB.out.cell (World.block_lt_of_cell? w _ hw403_1)).trans hw403_1), ((HB.out.cell (World.block_lt_of_cell? w _ hw403_2)).trans hw403_2), ((HB.out.cell (World.block_lt_of_cell? w _ hw403_3)).trans hw403_3), ((HB.out.cell (World.block_lt_of_cell? w _ hw403_4)).trans hw403_4), ((HB.out.cell (World.block_lt_of_cell? w _ hw403_5)).trans hw403_5), ((HB.out.cell (World.block_lt_of_cell? w _ hw403_6)).trans hw403_6), ((HB.out.cell (World.block_lt_of_cell? w _ hw403_7)).trans hw403_7), ((HB.out.cell (World.block_lt_of_cell? w _ hw403_8)).trans hw403_8)⟩ (fun hHeld => ?_)
          clear hK K
          refine norm_ (a' := ?_) ?_ ?_
          rotate_left
          ·show Act.put _ (some 66) _ = _
           simp only [Act.put, List.setIfInBounds_toArray, List.set_cons_zero, List.set_cons_succ, i64_w, i32_w]
           rfl
          refine pure_ (i := 11) (N := some 6) (v := ?_) (a' := ?_) #[true, true, true, true, true, true, true, true, true, true, true, true] rfl rfl (any_of HT_.out (by kernel_rfl)) (fun _ _ _ h => h) (Or.inl ⟨by rfl, ?_⟩) ?_ ?_
          rotate_left
          ·intro w'
           go_simp
           with_reducible rfl
          rotate_left
          ·simp only [Act.put, List.setIfInBounds_toArray, List.set_cons_zero, List.set_cons_succ, i64_w, i32_w]
           rfl
          refine done_ (done_of HT_.out (by kernel_rfl)) ?_
          try go_wp2
          go_ret
          exact ⟨by first | rfl | (simp [errW_none, errW_some] <;> rfl) | (simp [*, errW_none, errW_some] <;> rfl), by repeat (first | (with_reducible first | exact HB.out | apply blA | apply pbN | apply blD | refine blS ?_ GE400.out | refine blS ?_ GE401.out) | exact HB.out)⟩
        ·rw [if_neg c32] at H
         exact absurd H (by simp)
       ·rw [if_neg c31] at H
        exact absurd H (by simp)
      ·rw [if_neg c30] at H
       have c30b0 : decide (x5_2 < (l0_8.length : Int)) = false := decide_eq_false c30
       clear c30
       obtain rfl := Option.some.inj H
       have hnb43 := NB400_401.out
       have hnc43 := NB401_400.out
       obtain ⟨hcz44_0, hcz44_1, hcz44_2, hcz44_3, hcz44_4, hcz44_5, hcz44_6, hcz44_7, hcz44_8⟩ := bkC9 BK400.out
       obtain ⟨hfz44_0, hfz44_1, hfz44_2, hfz44_3, hfz44_4, hfz44_5, hfz44_6, hfz44_7, hfz44_8⟩ := bkF9 BK400.out
       go_wp2
       go_ret
       exact ⟨by first | rfl | (simp [errW_none, errW_some] <;> rfl) | (simp [*, errW_none, errW_some] <;> rfl), by repeat (first | (with_reducible first | exact HB.out | apply blA | apply pbN | apply blD | refine blS ?_ GE400.out | refine blS ?_ GE401.out) | exact HB.out)⟩
end Go.Proofs.YtkboodfnegedaaaDoor.E
