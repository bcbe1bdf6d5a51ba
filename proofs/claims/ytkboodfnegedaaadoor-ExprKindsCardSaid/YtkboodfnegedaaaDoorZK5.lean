/- Contracts and plain lemmas of the functions that the law reaches, part 5. -/
import Derived.Test.YtkboodfnegedaaaDoorZK3
namespace Go.Proofs.YtkboodfnegedaaaDoor.E
open Go.RowKit Go.Proofs.YtkboodfnegedaaaDoorW.PrintWords Go.Proofs.YtkboodfnegedaaaDoorW.PrintLast Go.Proofs.YtkboodfnegedaaaDoorW.PrintMore
attribute [local go_sem] max2_int min2_int max_two min_two max_three min_three max_four min_four   -- for this text's walks alone
set_option linter.unusedVariables false
set_option linter.unusedSimpArgs false
attribute [local go_sem high] eqA23
mutual
def q08_sizes.j0 : Nat → Int → Bool → Int → Int → Int → ByteArray → Int → Int → Int → ByteArray → List (S26) → Option (Int × Int × Bool)
 | 0, _, _, _, _, _, _, _, _, _, _, _ => none
 | k + 1, x1, x35, x363000, x363001, x363002, x363003, x363004, x363005, x363006, x363007, x363008 => if x35 = true then (some (0, 0, false)) else ((q01_Right.f x363001 x363002 x363003).bind fun t364 => (if t364 = true then (if x363000 = 1 then (q08_sizes.j1 k x1 false x363000 x363001 x363002 x363003 x363004 x363005 x363006 x363007 x363008) else (q08_sizes.j1 k x1 (!(x363001 == 0) || (!(x363002 == 0) || (!(x363003.toList == ([] : List UInt8))))) x363000 x363001 x363002 x363003 x363004 x363005 x363006 x363007 x363008)) else (q08_sizes.j1 k x1 true x363000 x363001 x363002 x363003 x363004 x363005 x363006 x363007 x363008)))
def q08_sizes.j1 : Nat → Int → Bool → Int → Int → Int → ByteArray → Int → Int → Int → ByteArray → List (S26) → Option (Int × Int × Bool)
 | 0, _, _, _, _, _, _, _, _, _, _, _ => none
 | k + 1, x1, x51, x363000, x363001, x363002, x363003, x363004, x363005, x363006, x363007, x363008 => if x51 = true then (some (0, 0, false)) else (if x363000 = 2 then (if x363004 < 0 then (q08_sizes.j2 k x1 true x363000 x363001 x363002 x363003 x363004 x363005 x363006 x363007 x363008) else (if x363004 > 15 then (q08_sizes.j2 k x1 true x363000 x363001 x363002 x363003 x363004 x363005 x363006 x363007 x363008) else (if x363005 < 0 then (q08_sizes.j2 k x1 true x363000 x363001 x363002 x363003 x363004 x363005 x363006 x363007 x363008) else (if x363005 > 5 then (q08_sizes.j2 k x1 true x363000 x363001 x363002 x363003 x363004 x363005 x363006 x363007 x363008) else (q08_sizes.j2 k x1 false x363000 x363001 x363002 x363003 x363004 x363005 x363006 x363007 x363008))))) else (if x363004 = 0 then (q08_sizes.j2 k x1 (x363005 != 0) x363000 x363001 x363002 x363003 x363004 x363005 x363006 x363007 x363008) else (q08_sizes.j2 k x1 true x363000 x363001 x363002 x363003 x363004 x363005 x363006 x363007 x363008)))
def q08_sizes.j2 : Nat → Int → Bool → Int → Int → Int → ByteArray → Int → Int → Int → ByteArray → List (S26) → Option (Int × Int × Bool)
 | 0, _, _, _, _, _, _, _, _, _, _, _ => none
 | k + 1, x1, x89, x363000, x363001, x363002, x363003, x363004, x363005, x363006, x363007, x363008 => if x89 = true then (some (0, 0, false)) else (if x363000 = 3 then (if x363006 < 1 then (q08_sizes.j3 k x1 true x363000 x363001 x363002 x363003 x363004 x363005 x363006 x363007 x363008) else (if x363006 > 4 then (q08_sizes.j3 k x1 true x363000 x363001 x363002 x363003 x363004 x363005 x363006 x363007 x363008) else (q08_sizes.j3 k x1 false x363000 x363001 x363002 x363003 x363004 x363005 x363006 x363007 x363008))) else (q08_sizes.j3 k x1 (x363006 != 0) x363000 x363001 x363002 x363003 x363004 x363005 x363006 x363007 x363008))
def q08_sizes.j3 : Nat → Int → Bool → Int → Int → Int → ByteArray → Int → Int → Int → ByteArray → List (S26) → Option (Int × Int × Bool)
 | 0, _, _, _, _, _, _, _, _, _, _, _ => none
 | k + 1, x1, x112, x363000, x363001, x363002, x363003, x363004, x363005, x363006, x363007, x363008 => if x112 = true then (some (0, 0, false)) else (q08_sizes.l0 k x1 1 1 0 x363000 x363001 x363002 x363003 x363004 x363005 x363006 x363007 x363008)
def q08_sizes.l0 : Nat → Int → Int → Int → Int → Int → Int → Int → ByteArray → Int → Int → Int → ByteArray → List (S26) → Option (Int × Int × Bool)
 | 0, _, _, _, _, _, _, _, _, _, _, _, _, _ => none
 | k + 1, x1, x9, x10, x11, x363000, x363001, x363002, x363003, x363004, x363005, x363006, x363007, x363008 => if x11 < (x363008.length : Int) then (if 0 ≤ x11 then ((q08_sizes.f k ((rd_T26 x363008 x11).f0) ((rd_T26 x363008 x11).f1.f0) ((rd_T26 x363008 x11).f1.f1) ((rd_T26 x363008 x11).f1.f2) ((rd_T26 x363008 x11).f2) ((rd_T26 x363008 x11).f3) ((rd_T26 x363008 x11).f4) ((rd_T26 x363008 x11).f5) ((rd_T26 x363008 x11).f6) (wrap64 (x1 - 1))).bind fun bt366 => (if bt366.2.2 = true then (if (wrap64 (x10 + bt366.2.1)) > 200 then (some (0, 0, false)) else (q08_sizes.l0 k x1 (mx x9 (wrap64 (bt366.1 + 1))) (wrap64 (x10 + bt366.2.1)) (wrap64 (x11 + 1)) x363000 x363001 x363002 x363003 x363004 x363005 x363006 x363007 x363008)) else (some (0, 0, false)))) else (none)) else (some (x9, x10, true))
def q08_sizes.f : Nat → Int → Int → Int → ByteArray → Int → Int → Int → ByteArray → List (S26) → Int → Option (Int × Int × Bool)
 | 0, _, _, _, _, _, _, _, _, _, _ => none
 | k + 1, a0_0, a0_1, a0_2, a0_3, a0_4, a0_5, a0_6, a0_7, l0_8, a1 => (q08_operands.f k a0_0).bind fun t363 => (if t363 < 0 then (q08_sizes.j0 k a1 true a0_0 a0_1 a0_2 a0_3 a0_4 a0_5 a0_6 a0_7 l0_8) else (if (l0_8.length : Int) = t363 then (if a0_7.toList = ([] : List UInt8) then (q08_sizes.j0 k a1 (a1 == 0) a0_0 a0_1 a0_2 a0_3 a0_4 a0_5 a0_6 a0_7 l0_8) else (q08_sizes.j0 k a1 true a0_0 a0_1 a0_2 a0_3 a0_4 a0_5 a0_6 a0_7 l0_8)) else (q08_sizes.j0 k a1 true a0_0 a0_1 a0_2 a0_3 a0_4 a0_5 a0_6 a0_7 l0_8)))
end
set_option maxHeartbeats 8000000 in
set_option maxRecDepth 100000 in
theorem q08_sizes.calls (k : Nat) : ∀ (a0_0 : Int) (a0_1 : Int) (a0_2 : Int) (a0_3 : ByteArray) (a0_4 : Int) (a0_5 : Int) (a0_6 : Int) (a0_7 : ByteArray) (A0_8 : Option Addr) (c0_8 : Nat) (l0_8 : List (S26)) (a1 : Int) (r1 : Int) (r2 : Int) (r3 : Bool) (w : World) (hr0_8 : Kd.C k26 w A0_8 l0_8.length l0_8) (hc0_8 : l0_8.length ≤ c0_8) (h : q08_sizes.f k a0_0 a0_1 a0_2 a0_3 a0_4 a0_5 a0_6 a0_7 l0_8 a1 = some (r1, r2, r3)),
  Calls Tryd.prog 57 #[.agg #[.int .i64 a0_0, .int .i64 a0_1, .int .i64 a0_2, .string a0_3, .int .i64 a0_4, .int .i64 a0_5, .int .i64 a0_6, .string a0_7, .slice A0_8 l0_8.length c0_8], .int .i64 a1] w fun e w' => e = .returned (.tuple #[.int .i64 r1, .int .i64 r2, .bool r3]) ∧ Below w.heap.size w w' := by
 induction k using Nat.strongRecOn with
 | _ k ih =>
 intro a0_0 a0_1 a0_2 a0_3 a0_4 a0_5 a0_6 a0_7 A0_8 c0_8 l0_8 a1 r1 r2 r3 w hr0_8 hc0_8 h
 cases k with
 | zero => exact absurd h (by simp [q08_sizes.f])
 | succ k =>
 simp only [q08_sizes.f] at h
 have hu26 := Tryd.underlying26
 have hu23 := Tryd.underlying23
 have HR0_8 := Asd.mk hr0_8
 have HC0_8 := Asd.mk hc0_8
 clear hr0_8 hc0_8
 have HB := Asd.mk (Below.refl w.heap.size w)
 have H : ((q08_operands.f k a0_0).bind fun t363 => (if t363 < 0 then (q08_sizes.j0 k a1 true a0_0 a0_1 a0_2 a0_3 a0_4 a0_5 a0_6 a0_7 l0_8) else (if (l0_8.length : Int) = t363 then (if a0_7.toList = ([] : List UInt8) then (q08_sizes.j0 k a1 (a1 == 0) a0_0 a0_1 a0_2 a0_3 a0_4 a0_5 a0_6 a0_7 l0_8) else (q08_sizes.j0 k a1 true a0_0 a0_1 a0_2 a0_3 a0_4 a0_5 a0_6 a0_7 l0_8)) else (q08_sizes.j0 k a1 true a0_0 a0_1 a0_2 a0_3 a0_4 a0_5 a0_6 a0_7 l0_8)))) = some (r1, r2, r3) := h
 clear h
 replace H := Option.bind_eq_some_iff.mp H
 obtain ⟨t363, A30, H⟩ := H
 replace H : (if t363 < 0 then (q08_sizes.j0 k a1 true a0_0 a0_1 a0_2 a0_3 a0_4 a0_5 a0_6 a0_7 l0_8) else (if (l0_8.length : Int) = t363 then (if a0_7.toList = ([] : List UInt8) then (q08_sizes.j0 k a1 (a1 == 0) a0_0 a0_1 a0_2 a0_3 a0_4 a0_5 a0_6 a0_7 l0_8) else (q08_sizes.j0 k a1 true a0_0 a0_1 a0_2 a0_3 a0_4 a0_5 a0_6 a0_7 l0_8)) else (q08_sizes.j0 k a1 true a0_0 a0_1 a0_2 a0_3 a0_4 a0_5 a0_6 a0_7 l0_8))) = some (r1, r2, r3) := H
 have A3 := Asd.mk A30
 clear A30
 have HC4 := Asd.mk H
 clear H
 go_enter Tryd.func57, Tryd.ntmps57
 go_upto_region 2 with (first | ((with_reducible refine gate_dst (N := 2) rfl ?_); (try (refine gate_guard (by rfl) ?_; dsimp only)); refine box_event ?hg (N := 2) ?hd (cs := #[.int .i64 a0_0, .int .i64 a0_1, .int .i64 a0_2, .string a0_3, .int .i64 a0_4, .int .i64 a0_5, .int .i64 a0_6, .string a0_7, .slice A0_8 l0_8.length c0_8]) (t := 26) ?hr ?_; (case hd => rfl); (case hg => rfl); (case hr => first | (go_simp; done) | (go_simp; rfl)); intro gb362 hg w5 hbox hb; have n0_ := Asd.mk (below_step (by repeat (first | (with_reducible first | exact HB.out | apply blA | apply pbN | apply blD) | exact HB.out)) hb); have n1_ := Asd.mk (hbox); have n2_ := Asd.mk ((by rw [hg]; exact (below_size (by repeat (first | (with_reducible first | exact HB.out | apply blA | apply pbN | apply blD) | exact HB.out))) : w.heap.size ≤ gb362)); have n3_ := Asd.mk ((by rw [hg]; exact (below_size (by repeat (first | (with_reducible first | exact HB.out | apply blA | apply pbN | apply blD) | exact HB.out))) : w.heap.size ≤ gb362)); clear HB; have HB := n0_; have BK362 := n1_; have GW362 := n2_; have GE362 := n3_; clear n0_ n1_ n2_ n3_; clear hb hbox hg; have hcz6_0 : w5.cell? ⟨gb362, 0, none⟩ = some (.int .i64 a0_0) := (bkC BK362.out 0).trans rfl; have hcz6_1 : w5.cell? ⟨gb362, 1, none⟩ = some (.int .i64 a0_1) := (bkC BK362.out 1).trans rfl; have hcz6_2 : w5.cell? ⟨gb362, 2, none⟩ = some (.int .i64 a0_2) := (bkC BK362.out 2).trans rfl; have hcz6_3 : w5.cell? ⟨gb362, 3, none⟩ = some (.string a0_3) := (bkC BK362.out 3).trans rfl; have hcz6_4 : w5.cell? ⟨gb362, 4, none⟩ = some (.int .i64 a0_4) := (bkC BK362.out 4).trans rfl; have hcz6_5 : w5.cell? ⟨gb362, 5, none⟩ = some (.int .i64 a0_5) := (bkC BK362.out 5).trans rfl; have hcz6_6 : w5.cell? ⟨gb362, 6, none⟩ = some (.int .i64 a0_6) := (bkC BK362.out 6).trans rfl; have hcz6_7 : w5.cell? ⟨gb362, 7, none⟩ = some (.string a0_7) := (bkC BK362.out 7).trans rfl; have hcz6_8 : w5.cell? ⟨gb362, 8, none⟩ = some (.slice A0_8 l0_8.length c0_8) := (bkC BK362.out 8).trans rfl; have hfz6_0 := bkF BK362.out 0; have hfz6_1 := bkF BK362.out 1; have hfz6_2 := bkF BK362.out 2; have hfz6_3 := bkF BK362.out 3; have hfz6_4 := bkF BK362.out 4; have hfz6_5 := bkF BK362.out 5; have hfz6_6 := bkF BK362.out 6; have hfz6_7 := bkF BK362.out 7; have hfz6_8 := bkF BK362.out 8) | ((with_reducible refine gate_callee (f := 90) rfl ?_); refine goesL_ (some 17) rfl rfl Tryd.func90 (by kernel_rfl) rfl #[.int .i64 a0_0] rfl (by (try simp only [List.map_toArray, List.map_cons, List.map_nil]); first | done | rfl | (simp only [List.length_drop, List.length_take]; rfl)) ?_; (with_reducible refine (q08_operands.calls k a0_0 t363 _ A3.out).mono ?_); rintro e w' ⟨rfl, ⟨nd, rfl⟩⟩; refine ⟨_, rfl, ?_⟩))
 (try simp only [Act.put, List.setIfInBounds_toArray, List.set_cons_zero, List.set_cons_succ])
 go_cut [35] (fun v35 wc => ∃ (kq : Nat) (x35_3 : Bool), v35 = .bool x35_3 ∧ Asd (q08_sizes.j0 kq a1 x35_3 a0_0 a0_1 a0_2 a0_3 a0_4 a0_5 a0_6 a0_7 l0_8 = some (r1, r2, r3)) ∧ Asd (kq ≤ k) ∧ Asd (wc.heap[gb362]? = some (.cells #[.int .i64 a0_0, .int .i64 a0_1, .int .i64 a0_2, .string a0_3, .int .i64 a0_4, .int .i64 a0_5, .int .i64 a0_6, .string a0_7, (.slice A0_8 l0_8.length c0_8)] 26 (0, 0))) ∧ Asd (Below w.heap.size w wc))
 case first =>
  have H := HC4.out
  clear HC4
  by_cases c7 : t363 < 0
  ·rw [if_pos c7] at H
   have c7b0 : decide (t363 < 0) = true := decide_eq_true c7
   clear c7
   (first | rw [c7b0] | (simp only [i64_w, i32_w]; rw [c7b0]) | skip)
   have H' := Asd.mk H
   clear H
   go_wp2
   go_meet
   case rel => exact ⟨_, (true), (by first | rfl | (simp; done) | (simp [*]; done)), H', ⟨by first | omega | exact Nat.le_refl _⟩, ⟨by (with_reducible repeat (first | refine bkN ?_ _ | refine bkD ?_ | refine bkA ?_ _)); exact BK362.out⟩, ⟨by repeat (first | (with_reducible first | exact HB.out | apply blA | apply pbN | apply blD | refine blS ?_ GE362.out) | exact HB.out)⟩⟩
  ·rw [if_neg c7] at H
   have c7b0 : decide (t363 < 0) = false := decide_eq_false c7
   clear c7
   (first | rw [c7b0] | (simp only [i64_w, i32_w]; rw [c7b0]) | skip)
   by_cases c8 : (l0_8.length : Int) = t363
   ·rw [if_pos c8] at H
    have c8b0 : ((l0_8.length : Int) == t363) = true := beq_iff_eq.mpr c8
    have c8b1 : ((l0_8.length : Int) != t363) = false := bne_eq_false_iff_eq.mpr c8
    clear c8
    by_cases c9 : a0_7.toList = ([] : List UInt8)
    ·rw [if_pos c9] at H
     have c9b0 : (a0_7.toList == ([] : List UInt8)) = true := beq_iff_eq.mpr c9
     have c9b1 : (a0_7.toList != ([] : List UInt8)) = false := bne_eq_false_iff_eq.mpr c9
     clear c9
     have H' := Asd.mk H
     clear H
     have hcz10_0 : w5.cell? ⟨gb362, 0, none⟩ = some (.int .i64 a0_0) := (bkC BK362.out 0).trans rfl
     have hcz10_1 : w5.cell? ⟨gb362, 1, none⟩ = some (.int .i64 a0_1) := (bkC BK362.out 1).trans rfl
     have hcz10_2 : w5.cell? ⟨gb362, 2, none⟩ = some (.int .i64 a0_2) := (bkC BK362.out 2).trans rfl
     have hcz10_3 : w5.cell? ⟨gb362, 3, none⟩ = some (.string a0_3) := (bkC BK362.out 3).trans rfl
     have hcz10_4 : w5.cell? ⟨gb362, 4, none⟩ = some (.int .i64 a0_4) := (bkC BK362.out 4).trans rfl
     have hcz10_5 : w5.cell? ⟨gb362, 5, none⟩ = some (.int .i64 a0_5) := (bkC BK362.out 5).trans rfl
     have hcz10_6 : w5.cell? ⟨gb362, 6, none⟩ = some (.int .i64 a0_6) := (bkC BK362.out 6).trans rfl
     have hcz10_7 : w5.cell? ⟨gb362, 7, none⟩ = some (.string a0_7) := (bkC BK362.out 7).trans rfl
     have hcz10_8 : w5.cell? ⟨gb362, 8, none⟩ = some (.slice A0_8 l0_8.length c0_8) := (bkC BK362.out 8).trans rfl
     have hfz10_0 := bkF BK362.out 0
     have hfz10_1 := bkF BK362.out 1
     have hfz10_2 := bkF BK362.out 2
     have hfz10_3 := bkF BK362.out 3
     have hfz10_4 := bkF BK362.out 4
     have hfz10_5 := bkF BK362.out 5
     have hfz10_6 := bkF BK362.out 6
     have hfz10_7 := bkF BK362.out 7
     have hfz10_8 := bkF BK362.out 8
     go_wp2
     go_meet
     case rel => exact ⟨_, ((a1 == 0)), (by first | rfl | (simp; done) | (simp [*]; done)), H', ⟨by first | omega | exact Nat.le_refl _⟩, ⟨by (with_reducible repeat (first | refine bkN ?_ _ | refine bkD ?_ | refine bkA ?_ _)); exact BK362.out⟩, ⟨by repeat (first | (with_reducible first | exact HB.out | apply blA | apply pbN | apply blD | refine blS ?_ GE362.out) | exact HB.out)⟩⟩
    ·rw [if_neg c9] at H
     have c9b0 : (a0_7.toList == ([] : List UInt8)) = false := beq_eq_false_iff_ne.mpr c9
     have c9b1 : (a0_7.toList != ([] : List UInt8)) = true := bne_iff_ne.mpr c9
     have H' := Asd.mk H
     clear H
     have hcz11_0 : w5.cell? ⟨gb362, 0, none⟩ = some (.int .i64 a0_0) := (bkC BK362.out 0).trans rfl
     have hcz11_1 : w5.cell? ⟨gb362, 1, none⟩ = some (.int .i64 a0_1) := (bkC BK362.out 1).trans rfl
     have hcz11_2 : w5.cell? ⟨gb362, 2, none⟩ = some (.int .i64 a0_2) := (bkC BK362.out 2).trans rfl
     have hcz11_3 : w5.cell? ⟨gb362, 3, none⟩ = some (.string a0_3) := (bkC BK362.out 3).trans rfl
     have hcz11_4 : w5.cell? ⟨gb362, 4, none⟩ = some (.int .i64 a0_4) := (bkC BK362.out 4).trans rfl
     have hcz11_5 : w5.cell? ⟨gb362, 5, none⟩ = some (.int .i64 a0_5) := (bkC BK362.out 5).trans rfl
     have hcz11_6 : w5.cell? ⟨gb362, 6, none⟩ = some (.int .i64 a0_6) := (bkC BK362.out 6).trans rfl
     have hcz11_7 : w5.cell? ⟨gb362, 7, none⟩ = some (.string a0_7) := (bkC BK362.out 7).trans rfl
     have hcz11_8 : w5.cell? ⟨gb362, 8, none⟩ = some (.slice A0_8 l0_8.length c0_8) := (bkC BK362.out 8).trans rfl
     have hfz11_0 := bkF BK362.out 0
     have hfz11_1 := bkF BK362.out 1
     have hfz11_2 := bkF BK362.out 2
     have hfz11_3 := bkF BK362.out 3
     have hfz11_4 := bkF BK362.out 4
     have hfz11_5 := bkF BK362.out 5
     have hfz11_6 := bkF BK362.out 6
     have hfz11_7 := bkF BK362.out 7
     have hfz11_8 := bkF BK362.out 8
     go_wp2
     go_meet
     case rel => exact ⟨_, (true), (by first | rfl | (simp; done) | (simp [*]; done)), H', ⟨by first | omega | exact Nat.le_refl _⟩, ⟨by (with_reducible repeat (first | refine bkN ?_ _ | refine bkD ?_ | refine bkA ?_ _)); exact BK362.out⟩, ⟨by repeat (first | (with_reducible first | exact HB.out | apply blA | apply pbN | apply blD | refine blS ?_ GE362.out) | exact HB.out)⟩⟩
   ·rw [if_neg c8] at H
    have c8b0 : ((l0_8.length : Int) == t363) = false := beq_eq_false_iff_ne.mpr c8
    have c8b1 : ((l0_8.length : Int) != t363) = true := bne_iff_ne.mpr c8
    have H' := Asd.mk H
    clear H
    have hcz12_0 : w5.cell? ⟨gb362, 0, none⟩ = some (.int .i64 a0_0) := (bkC BK362.out 0).trans rfl
    have hcz12_1 : w5.cell? ⟨gb362, 1, none⟩ = some (.int .i64 a0_1) := (bkC BK362.out 1).trans rfl
    have hcz12_2 : w5.cell? ⟨gb362, 2, none⟩ = some (.int .i64 a0_2) := (bkC BK362.out 2).trans rfl
    have hcz12_3 : w5.cell? ⟨gb362, 3, none⟩ = some (.string a0_3) := (bkC BK362.out 3).trans rfl
    have hcz12_4 : w5.cell? ⟨gb362, 4, none⟩ = some (.int .i64 a0_4) := (bkC BK362.out 4).trans rfl
    have hcz12_5 : w5.cell? ⟨gb362, 5, none⟩ = some (.int .i64 a0_5) := (bkC BK362.out 5).trans rfl
    have hcz12_6 : w5.cell? ⟨gb362, 6, none⟩ = some (.int .i64 a0_6) := (bkC BK362.out 6).trans rfl
    have hcz12_7 : w5.cell? ⟨gb362, 7, none⟩ = some (.string a0_7) := (bkC BK362.out 7).trans rfl
    have hcz12_8 : w5.cell? ⟨gb362, 8, none⟩ = some (.slice A0_8 l0_8.length c0_8) := (bkC BK362.out 8).trans rfl
    have hfz12_0 := bkF BK362.out 0
    have hfz12_1 := bkF BK362.out 1
    have hfz12_2 := bkF BK362.out 2
    have hfz12_3 := bkF BK362.out 3
    have hfz12_4 := bkF BK362.out 4
    have hfz12_5 := bkF BK362.out 5
    have hfz12_6 := bkF BK362.out 6
    have hfz12_7 := bkF BK362.out 7
    have hfz12_8 := bkF BK362.out 8
    go_wp2
    go_meet
    case rel => exact ⟨_, (true), (by first | rfl | (simp; done) | (simp [*]; done)), H', ⟨by first | omega | exact Nat.le_refl _⟩, ⟨by (with_reducible repeat (first | refine bkN ?_ _ | refine bkD ?_ | refine bkA ?_ _)); exact BK362.out⟩, ⟨by repeat (first | (with_reducible first | exact HB.out | apply blA | apply pbN | apply blD | refine blS ?_ GE362.out) | exact HB.out)⟩⟩
 case rest =>
  clear HC4
  try clear p2
  try clear c5
  try clear c7
  try clear c7b0
  try clear c8
  try clear c8b0
  try clear c8b1
  try clear c9
  try clear c9b0
  try clear c9b1
  try clear hcz10_0
  try clear hcz10_1
  try clear hcz10_2
  try clear hcz10_3
  try clear hcz10_4
  try clear hcz10_5
  try clear hcz10_6
  try clear hcz10_7
  try clear hcz10_8
  try clear hcz11_0
  try clear hcz11_1
  try clear hcz11_2
  try clear hcz11_3
  try clear hcz11_4
  try clear hcz11_5
  try clear hcz11_6
  try clear hcz11_7
  try clear hcz11_8
  try clear hcz12_0
  try clear hcz12_1
  try clear hcz12_2
  try clear hcz12_3
  try clear hcz12_4
  try clear hcz12_5
  try clear hcz12_6
  try clear hcz12_7
  try clear hcz12_8
  try clear hcz6_0
  try clear hcz6_1
  try clear hcz6_2
  try clear hcz6_3
  try clear hcz6_4
  try clear hcz6_5
  try clear hcz6_6
  try clear hcz6_7
  try clear hcz6_8
  try clear hfz10_0
  try clear hfz10_1
  try clear hfz10_2
  try clear hfz10_3
  try clear hfz10_4
  try clear hfz10_5
  try clear hfz10_6
  try clear hfz10_7
  try clear hfz10_8
  try clear hfz11_0
  try clear hfz11_1
  try clear hfz11_2
  try clear hfz11_3
  try clear hfz11_4
  try clear hfz11_5
  try clear hfz11_6
  try clear hfz11_7
  try clear hfz11_8
  try clear hfz12_0
  try clear hfz12_1
  try clear hfz12_2
  try clear hfz12_3
  try clear hfz12_4
  try clear hfz12_5
  try clear hfz12_6
  try clear hfz12_7
  try clear hfz12_8
  try clear hfz6_0
  try clear hfz6_1
  try clear hfz6_2
  try clear hfz6_3
  try clear hfz6_4
  try clear hfz6_5
  try clear hfz6_6
  try clear hfz6_7
  try clear hfz6_8
  obtain ⟨kq, x35_3, rfl, HA, HJ3, BK362, HB⟩ := hcut
  cases kq with
  | zero => exact absurd HA.out (by simp [q08_sizes.j0])
  | succ kj3 =>
   have H := HA.out
   clear HA
   simp only [q08_sizes.j0] at H
   by_cases c13 : x35_3 = true
   ·subst c13
    have H1 : (some (0, 0, false)) = some (r1, r2, r3) := by rw [if_pos rfl] at H; exact H
    clear H
    have H := H1
    clear H1
    simp only [Option.some.injEq, Prod.mk.injEq] at H
    obtain ⟨rfl, rfl, rfl⟩ := H
    go_wp2
    go_ret3
    exact ⟨by first | rfl | (simp [errW_none, errW_some] <;> rfl) | (simp [*, errW_none, errW_some] <;> rfl), by repeat (first | (with_reducible first | exact HB.out | apply blA | apply pbN | apply blD | refine blS ?_ GE362.out) | exact HB.out)⟩
   ·replace c13 := Bool.eq_false_iff.mpr c13
    subst c13
    have H1 : ((q01_Right.f a0_1 a0_2 a0_3).bind fun t364 => (if t364 = true then (if a0_0 = 1 then (q08_sizes.j1 kj3 a1 false a0_0 a0_1 a0_2 a0_3 a0_4 a0_5 a0_6 a0_7 l0_8) else (q08_sizes.j1 kj3 a1 (!(a0_1 == 0) || (!(a0_2 == 0) || (!(a0_3.toList == ([] : List UInt8))))) a0_0 a0_1 a0_2 a0_3 a0_4 a0_5 a0_6 a0_7 l0_8)) else (q08_sizes.j1 kj3 a1 true a0_0 a0_1 a0_2 a0_3 a0_4 a0_5 a0_6 a0_7 l0_8))) = some (r1, r2, r3) := by rw [if_neg (show ¬ (false = true) by decide)] at H; exact H
    clear H
    have H := H1
    clear H1
    replace H := Option.bind_eq_some_iff.mp H
    obtain ⟨t364, A140, H⟩ := H
    replace H : (if t364 = true then (if a0_0 = 1 then (q08_sizes.j1 kj3 a1 false a0_0 a0_1 a0_2 a0_3 a0_4 a0_5 a0_6 a0_7 l0_8) else (q08_sizes.j1 kj3 a1 (!(a0_1 == 0) || (!(a0_2 == 0) || (!(a0_3.toList == ([] : List UInt8))))) a0_0 a0_1 a0_2 a0_3 a0_4 a0_5 a0_6 a0_7 l0_8)) else (q08_sizes.j1 kj3 a1 true a0_0 a0_1 a0_2 a0_3 a0_4 a0_5 a0_6 a0_7 l0_8)) = some (r1, r2, r3) := H
    have A14 := Asd.mk A140
    clear A140
    have HC15 := Asd.mk H
    clear H
    have hcz16_0 : wc.cell? ⟨gb362, 0, none⟩ = some (.int .i64 a0_0) := (bkC BK362.out 0).trans rfl
    have hcz16_1 : wc.cell? ⟨gb362, 1, none⟩ = some (.int .i64 a0_1) := (bkC BK362.out 1).trans rfl
    have hcz16_2 : wc.cell? ⟨gb362, 2, none⟩ = some (.int .i64 a0_2) := (bkC BK362.out 2).trans rfl
    have hcz16_3 : wc.cell? ⟨gb362, 3, none⟩ = some (.string a0_3) := (bkC BK362.out 3).trans rfl
    have hcz16_4 : wc.cell? ⟨gb362, 4, none⟩ = some (.int .i64 a0_4) := (bkC BK362.out 4).trans rfl
    have hcz16_5 : wc.cell? ⟨gb362, 5, none⟩ = some (.int .i64 a0_5) := (bkC BK362.out 5).trans rfl
    have hcz16_6 : wc.cell? ⟨gb362, 6, none⟩ = some (.int .i64 a0_6) := (bkC BK362.out 6).trans rfl
    have hcz16_7 : wc.cell? ⟨gb362, 7, none⟩ = some (.string a0_7) := (bkC BK362.out 7).trans rfl
    have hcz16_8 : wc.cell? ⟨gb362, 8, none⟩ = some (.slice A0_8 l0_8.length c0_8) := (bkC BK362.out 8).trans rfl
    have hfz16_0 := bkF BK362.out 0
    have hfz16_1 := bkF BK362.out 1
    have hfz16_2 := bkF BK362.out 2
    have hfz16_3 := bkF BK362.out 3
    have hfz16_4 := bkF BK362.out 4
    have hfz16_5 := bkF BK362.out 5
    have hfz16_6 := bkF BK362.out 6
    have hfz16_7 := bkF BK362.out 7
    have hfz16_8 := bkF BK362.out 8
    go_upto_region 5 with (first | ((with_reducible refine gate_callee (f := 91) rfl ?_); refine goesL_ (some 38) rfl rfl Tryd.func91 (by kernel_rfl) rfl #[.agg #[.int .i64 a0_1, .int .i64 a0_2, .string a0_3]] rfl (by (try simp only [List.map_toArray, List.map_cons, List.map_nil]); first | done | rfl | (simp only [List.length_drop, List.length_take]; rfl)) ?_; (with_reducible refine (q01_Right.calls a0_1 a0_2 a0_3 t364 _ A14.out).mono ?_); rintro e w17 ⟨rfl, hb⟩; refine ⟨_, rfl, ?_⟩; have n0_ := Asd.mk (blk_below (g := gb362) (o := .cells #[.int .i64 a0_0, .int .i64 a0_1, .int .i64 a0_2, .string a0_3, .int .i64 a0_4, .int .i64 a0_5, .int .i64 a0_6, .string a0_7, .slice A0_8 l0_8.length c0_8] 26 (0, 0)) (by (with_reducible repeat (first | refine bkN ?_ _ | refine bkD ?_ | refine bkA ?_ _)); exact BK362.out) hb); have n1_ := Asd.mk (below_step (by repeat (first | (with_reducible first | exact HB.out | apply blA | apply pbN | apply blD | refine blS ?_ GE362.out) | exact HB.out)) hb); clear BK362; clear HB; have BK362 := n0_; have HB := n1_; clear n0_ n1_; (try clear hb); (try clear hb2); (try clear hk); (try clear hi)))
    (try simp only [Act.put, List.setIfInBounds_toArray, List.set_cons_zero, List.set_cons_succ])
    go_cut [51] (fun v51 wc => ∃ (kq : Nat) (x51_14 : Bool), v51 = .bool x51_14 ∧ Asd (q08_sizes.j1 kq a1 x51_14 a0_0 a0_1 a0_2 a0_3 a0_4 a0_5 a0_6 a0_7 l0_8 = some (r1, r2, r3)) ∧ Asd (kq ≤ kj3) ∧ Asd (wc.heap[gb362]? = some (.cells #[.int .i64 a0_0, .int .i64 a0_1, .int .i64 a0_2, .string a0_3, .int .i64 a0_4, .int .i64 a0_5, .int .i64 a0_6, .string a0_7, (.slice A0_8 l0_8.length c0_8)] 26 (0, 0))) ∧ Asd (Below w.heap.size w wc))
    case first =>
     have H := HC15.out
     clear HC15
     by_cases c18 : t364 = true
     ·subst c18
      have H1 : (if a0_0 = 1 then (q08_sizes.j1 kj3 a1 false a0_0 a0_1 a0_2 a0_3 a0_4 a0_5 a0_6 a0_7 l0_8) else (q08_sizes.j1 kj3 a1 (!(a0_1 == 0) || (!(a0_2 == 0) || (!(a0_3.toList == ([] : List UInt8))))) a0_0 a0_1 a0_2 a0_3 a0_4 a0_5 a0_6 a0_7 l0_8)) = some (r1, r2, r3) := by rw [if_pos rfl] at H; exact H
      clear H
      have H := H1
      clear H1
      by_cases c19 : a0_0 = 1
      ·rw [if_pos c19] at H
       have c19b0 : (a0_0 == 1) = true := beq_iff_eq.mpr c19
       have c19b1 : (a0_0 != 1) = false := bne_eq_false_iff_eq.mpr c19
       clear c19
       (first | rw [c19b0] | (simp only [i64_w, i32_w]; rw [c19b0]) | skip)
       have H' := Asd.mk H
       clear H
       have hcz20_0 : w17.cell? ⟨gb362, 0, none⟩ = some (.int .i64 a0_0) := (bkC BK362.out 0).trans rfl
       have hcz20_1 : w17.cell? ⟨gb362, 1, none⟩ = some (.int .i64 a0_1) := (bkC BK362.out 1).trans rfl
       have hcz20_2 : w17.cell? ⟨gb362, 2, none⟩ = some (.int .i64 a0_2) := (bkC BK362.out 2).trans rfl
       have hcz20_3 : w17.cell? ⟨gb362, 3, none⟩ = some (.string a0_3) := (bkC BK362.out 3).trans rfl
       have hcz20_4 : w17.cell? ⟨gb362, 4, none⟩ = some (.int .i64 a0_4) := (bkC BK362.out 4).trans rfl
       have hcz20_5 : w17.cell? ⟨gb362, 5, none⟩ = some (.int .i64 a0_5) := (bkC BK362.out 5).trans rfl
       have hcz20_6 : w17.cell? ⟨gb362, 6, none⟩ = some (.int .i64 a0_6) := (bkC BK362.out 6).trans rfl
       have hcz20_7 : w17.cell? ⟨gb362, 7, none⟩ = some (.string a0_7) := (bkC BK362.out 7).trans rfl
       have hcz20_8 : w17.cell? ⟨gb362, 8, none⟩ = some (.slice A0_8 l0_8.length c0_8) := (bkC BK362.out 8).trans rfl
       have hfz20_0 := bkF BK362.out 0
       have hfz20_1 := bkF BK362.out 1
       have hfz20_2 := bkF BK362.out 2
       have hfz20_3 := bkF BK362.out 3
       have hfz20_4 := bkF BK362.out 4
       have hfz20_5 := bkF BK362.out 5
       have hfz20_6 := bkF BK362.out 6
       have hfz20_7 := bkF BK362.out 7
       have hfz20_8 := bkF BK362.out 8
       go_wp2
       go_meet
       case rel => exact ⟨_, (false), (by first | rfl | (simp; done) | (simp [*]; done)), H', ⟨by have := HJ3.out; first | omega | exact Nat.le_refl _⟩, ⟨by (with_reducible repeat (first | refine bkN ?_ _ | refine bkD ?_ | refine bkA ?_ _)); exact BK362.out⟩, ⟨by repeat (first | (with_reducible first | exact HB.out | apply blA | apply pbN | apply blD | refine blS ?_ GE362.out) | exact HB.out)⟩⟩
      ·rw [if_neg c19] at H
       have c19b0 : (a0_0 == 1) = false := beq_eq_false_iff_ne.mpr c19
       have c19b1 : (a0_0 != 1) = true := bne_iff_ne.mpr c19
       (first | rw [c19b0] | (simp only [i64_w, i32_w]; rw [c19b0]) | skip)
       have H' := Asd.mk H
       clear H
       have hcz21_0 : w17.cell? ⟨gb362, 0, none⟩ = some (.int .i64 a0_0) := (bkC BK362.out 0).trans rfl
       have hcz21_1 : w17.cell? ⟨gb362, 1, none⟩ = some (.int .i64 a0_1) := (bkC BK362.out 1).trans rfl
       have hcz21_2 : w17.cell? ⟨gb362, 2, none⟩ = some (.int .i64 a0_2) := (bkC BK362.out 2).trans rfl
       have hcz21_3 : w17.cell? ⟨gb362, 3, none⟩ = some (.string a0_3) := (bkC BK362.out 3).trans rfl
       have hcz21_4 : w17.cell? ⟨gb362, 4, none⟩ = some (.int .i64 a0_4) := (bkC BK362.out 4).trans rfl
       have hcz21_5 : w17.cell? ⟨gb362, 5, none⟩ = some (.int .i64 a0_5) := (bkC BK362.out 5).trans rfl
       have hcz21_6 : w17.cell? ⟨gb362, 6, none⟩ = some (.int .i64 a0_6) := (bkC BK362.out 6).trans rfl
       have hcz21_7 : w17.cell? ⟨gb362, 7, none⟩ = some (.string a0_7) := (bkC BK362.out 7).trans rfl
       have hcz21_8 : w17.cell? ⟨gb362, 8, none⟩ = some (.slice A0_8 l0_8.length c0_8) := (bkC BK362.out 8).trans rfl
       have hfz21_0 := bkF BK362.out 0
       have hfz21_1 := bkF BK362.out 1
       have hfz21_2 := bkF BK362.out 2
       have hfz21_3 := bkF BK362.out 3
       have hfz21_4 := bkF BK362.out 4
       have hfz21_5 := bkF BK362.out 5
       have hfz21_6 := bkF BK362.out 6
       have hfz21_7 := bkF BK362.out 7
       have hfz21_8 := bkF BK362.out 8
       go_wp2
       go_meet
       case rel => exact ⟨_, ((!(a0_1 == 0) || (!(a0_2 == 0) || (!(a0_3.toList == ([] : List UInt8)))))), (by first | rfl | (simp; done) | (simp [*]; done)), H', ⟨by have := HJ3.out; first | omega | exact Nat.le_refl _⟩, ⟨by (with_reducible repeat (first | refine bkN ?_ _ | refine bkD ?_ | refine bkA ?_ _)); exact BK362.out⟩, ⟨by repeat (first | (with_reducible first | exact HB.out | apply blA | apply pbN | apply blD | refine blS ?_ GE362.out) | exact HB.out)⟩⟩
     ·replace c18 := Bool.eq_false_iff.mpr c18
      subst c18
      have H1 : (q08_sizes.j1 kj3 a1 true a0_0 a0_1 a0_2 a0_3 a0_4 a0_5 a0_6 a0_7 l0_8) = some (r1, r2, r3) := by rw [if_neg (show ¬ (false = true) by decide)] at H; exact H
      clear H
      have H := H1
      clear H1
      have H' := Asd.mk H
      clear H
      go_wp2
      go_meet
      case rel => exact ⟨_, (true), (by first | rfl | (simp; done) | (simp [*]; done)), H', ⟨by have := HJ3.out; first | omega | exact Nat.le_refl _⟩, ⟨by (with_reducible repeat (first | refine bkN ?_ _ | refine bkD ?_ | refine bkA ?_ _)); exact BK362.out⟩, ⟨by repeat (first | (with_reducible first | exact HB.out | apply blA | apply pbN | apply blD | refine blS ?_ GE362.out) | exact HB.out)⟩⟩
    case rest =>
     clear HC15
     try clear c1
     try clear p2
     try clear c5
     try clear c7
     try clear c7b0
     try clear c8
     try clear c8b0
     try clear c8b1
     try clear c9
     try clear c9b0
     try clear c9b1
     try clear c13
     try clear c18
     try clear c19
     try clear c19b0
     try clear c19b1
     try clear hcz10_0
     try clear hcz10_1
     try clear hcz10_2
     try clear hcz10_3
     try clear hcz10_4
     try clear hcz10_5
     try clear hcz10_6
     try clear hcz10_7
     try clear hcz10_8
     try clear hcz11_0
     try clear hcz11_1
     try clear hcz11_2
     try clear hcz11_3
     try clear hcz11_4
     try clear hcz11_5
     try clear hcz11_6
     try clear hcz11_7
     try clear hcz11_8
     try clear hcz12_0
     try clear hcz12_1
     try clear hcz12_2
     try clear hcz12_3
     try clear hcz12_4
     try clear hcz12_5
     try clear hcz12_6
     try clear hcz12_7
     try clear hcz12_8
     try clear hcz16_0
     try clear hcz16_1
     try clear hcz16_2
     try clear hcz16_3
     try clear hcz16_4
     try clear hcz16_5
     try clear hcz16_6
     try clear hcz16_7
     try clear hcz16_8
     try clear hcz20_0
     try clear hcz20_1
     try clear hcz20_2
     try clear hcz20_3
     try clear hcz20_4
     try clear hcz20_5
     try clear hcz20_6
     try clear hcz20_7
     try clear hcz20_8
     try clear hcz21_0
     try clear hcz21_1
     try clear hcz21_2
     try clear hcz21_3
     try clear hcz21_4
     try clear hcz21_5
     try clear hcz21_6
     try clear hcz21_7
     try clear hcz21_8
     try clear hcz6_0
     try clear hcz6_1
     try clear hcz6_2
     try clear hcz6_3
     try clear hcz6_4
     try clear hcz6_5
     try clear hcz6_6
     try clear hcz6_7
     try clear hcz6_8
     try clear hfz10_0
     try clear hfz10_1
     try clear hfz10_2
     try clear hfz10_3
     try clear hfz10_4
     try clear hfz10_5
     try clear hfz10_6
     try clear hfz10_7
     try clear hfz10_8
     try clear hfz11_0
     try clear hfz11_1
     try clear hfz11_2
     try clear hfz11_3
     try clear hfz11_4
     try clear hfz11_5
     try clear hfz11_6
     try clear hfz11_7
     try clear hfz11_8
     try clear hfz12_0
     try clear hfz12_1
     try clear hfz12_2
     try clear hfz12_3
     try clear hfz12_4
     try clear hfz12_5
     try clear hfz12_6
     try clear hfz12_7
     try clear hfz12_8
     try clear hfz16_0
     try clear hfz16_1
     try clear hfz16_2
     try clear hfz16_3
     try clear hfz16_4
     try clear hfz16_5
     try clear hfz16_6
     try clear hfz16_7
     try clear hfz16_8
     try clear hfz20_0
     try clear hfz20_1
     try clear hfz20_2
     try clear hfz20_3
     try clear hfz20_4
     try clear hfz20_5
     try clear hfz20_6
     try clear hfz20_7
     try clear hfz20_8
     try clear hfz21_0
     try clear hfz21_1
     try clear hfz21_2
     try clear hfz21_3
     try clear hfz21_4
     try clear hfz21_5
     try clear hfz21_6
     try clear hfz21_7
     try clear hfz21_8
     try clear hfz6_0
     try clear hfz6_1
     try clear hfz6_2
     try clear hfz6_3
     try clear hfz6_4
     try clear hfz6_5
     try clear hfz6_6
     try clear hfz6_7
     try clear hfz6_8
     try clear p2
     obtain ⟨kq, x51_14, rfl, HA, HJ14, BK362, HB⟩ := hcut
     cases kq with
     | zero => exact absurd HA.out (by simp [q08_sizes.j1])
     | succ kj14 =>
      have H := HA.out
      clear HA
      simp only [q08_sizes.j1] at H
      by_cases c22 : x51_14 = true
      ·subst c22
       have H1 : (some (0, 0, false)) = some (r1, r2, r3) := by rw [if_pos rfl] at H; exact H
       clear H
       have H := H1
       clear H1
       simp only [Option.some.injEq, Prod.mk.injEq] at H
       obtain ⟨rfl, rfl, rfl⟩ := H
       go_wp2
       go_ret3
       exact ⟨by first | rfl | (simp [errW_none, errW_some] <;> rfl) | (simp [*, errW_none, errW_some] <;> rfl), by repeat (first | (with_reducible first | exact HB.out | apply blA | apply pbN | apply blD | refine blS ?_ GE362.out) | exact HB.out)⟩
      ·replace c22 := Bool.eq_false_iff.mpr c22
       subst c22
       have H1 : (if a0_0 = 2 then (if a0_4 < 0 then (q08_sizes.j2 kj14 a1 true a0_0 a0_1 a0_2 a0_3 a0_4 a0_5 a0_6 a0_7 l0_8) else (if a0_4 > 15 then (q08_sizes.j2 kj14 a1 true a0_0 a0_1 a0_2 a0_3 a0_4 a0_5 a0_6 a0_7 l0_8) else (if a0_5 < 0 then (q08_sizes.j2 kj14 a1 true a0_0 a0_1 a0_2 a0_3 a0_4 a0_5 a0_6 a0_7 l0_8) else (if a0_5 > 5 then (q08_sizes.j2 kj14 a1 true a0_0 a0_1 a0_2 a0_3 a0_4 a0_5 a0_6 a0_7 l0_8) else (q08_sizes.j2 kj14 a1 false a0_0 a0_1 a0_2 a0_3 a0_4 a0_5 a0_6 a0_7 l0_8))))) else (if a0_4 = 0 then (q08_sizes.j2 kj14 a1 (a0_5 != 0) a0_0 a0_1 a0_2 a0_3 a0_4 a0_5 a0_6 a0_7 l0_8) else (q08_sizes.j2 kj14 a1 true a0_0 a0_1 a0_2 a0_3 a0_4 a0_5 a0_6 a0_7 l0_8))) = some (r1, r2, r3) := by rw [if_neg (show ¬ (false = true) by decide)] at H; exact H
       clear H
       have H := H1
       clear H1
       have HC23 := Asd.mk H
       clear H
       go_upto_region 7 with (fail)
       go_cut [89] (fun v89 wc => ∃ (kq : Nat) (x89_22 : Bool), v89 = .bool x89_22 ∧ Asd (q08_sizes.j2 kq a1 x89_22 a0_0 a0_1 a0_2 a0_3 a0_4 a0_5 a0_6 a0_7 l0_8 = some (r1, r2, r3)) ∧ Asd (kq ≤ kj14) ∧ Asd (wc.heap[gb362]? = some (.cells #[.int .i64 a0_0, .int .i64 a0_1, .int .i64 a0_2, .string a0_3, .int .i64 a0_4, .int .i64 a0_5, .int .i64 a0_6, .string a0_7, (.slice A0_8 l0_8.length c0_8)] 26 (0, 0))) ∧ Asd (Below w.heap.size w wc))
       case first =>
        have H := HC23.out
        clear HC23
        by_cases c24 : a0_0 = 2
        ·rw [if_pos c24] at H
         have c24b0 : (a0_0 == 2) = true := beq_iff_eq.mpr c24
         have c24b1 : (a0_0 != 2) = false := bne_eq_false_iff_eq.mpr c24
         clear c24
         (first | rw [c24b0] | (simp only [i64_w, i32_w]; rw [c24b0]) | skip)
         by_cases c25 : a0_4 < 0
         ·rw [if_pos c25] at H
          have c25b0 : decide (a0_4 < 0) = true := decide_eq_true c25
          clear c25
          have H' := Asd.mk H
          clear H
          have hcz26_0 : wc.cell? ⟨gb362, 0, none⟩ = some (.int .i64 a0_0) := (bkC BK362.out 0).trans rfl
          have hcz26_1 : wc.cell? ⟨gb362, 1, none⟩ = some (.int .i64 a0_1) := (bkC BK362.out 1).trans rfl
          have hcz26_2 : wc.cell? ⟨gb362, 2, none⟩ = some (.int .i64 a0_2) := (bkC BK362.out 2).trans rfl
          have hcz26_3 : wc.cell? ⟨gb362, 3, none⟩ = some (.string a0_3) := (bkC BK362.out 3).trans rfl
          have hcz26_4 : wc.cell? ⟨gb362, 4, none⟩ = some (.int .i64 a0_4) := (bkC BK362.out 4).trans rfl
          have hcz26_5 : wc.cell? ⟨gb362, 5, none⟩ = some (.int .i64 a0_5) := (bkC BK362.out 5).trans rfl
          have hcz26_6 : wc.cell? ⟨gb362, 6, none⟩ = some (.int .i64 a0_6) := (bkC BK362.out 6).trans rfl
          have hcz26_7 : wc.cell? ⟨gb362, 7, none⟩ = some (.string a0_7) := (bkC BK362.out 7).trans rfl
          have hcz26_8 : wc.cell? ⟨gb362, 8, none⟩ = some (.slice A0_8 l0_8.length c0_8) := (bkC BK362.out 8).trans rfl
          have hfz26_0 := bkF BK362.out 0
          have hfz26_1 := bkF BK362.out 1
          have hfz26_2 := bkF BK362.out 2
          have hfz26_3 := bkF BK362.out 3
          have hfz26_4 := bkF BK362.out 4
          have hfz26_5 := bkF BK362.out 5
          have hfz26_6 := bkF BK362.out 6
          have hfz26_7 := bkF BK362.out 7
          have hfz26_8 := bkF BK362.out 8
          go_wp2
          go_meet
          case rel => exact ⟨_, (true), (by first | rfl | (simp; done) | (simp [*]; done)), H', ⟨by have := HJ3.out; have := HJ14.out; first | omega | exact Nat.le_refl _⟩, ⟨by (with_reducible repeat (first | refine bkN ?_ _ | refine bkD ?_ | refine bkA ?_ _)); exact BK362.out⟩, ⟨by repeat (first | (with_reducible first | exact HB.out | apply blA | apply pbN | apply blD | refine blS ?_ GE362.out) | exact HB.out)⟩⟩
         ·rw [if_neg c25] at H
          have c25b0 : decide (a0_4 < 0) = false := decide_eq_false c25
          clear c25
          by_cases c27 : a0_4 > 15
          ·rw [if_pos c27] at H
           have c27b0 : decide (15 < a0_4) = true := decide_eq_true c27
           clear c27
           have H' := Asd.mk H
           clear H
           have hcz28_0 : wc.cell? ⟨gb362, 0, none⟩ = some (.int .i64 a0_0) := (bkC BK362.out 0).trans rfl
           have hcz28_1 : wc.cell? ⟨gb362, 1, none⟩ = some (.int .i64 a0_1) := (bkC BK362.out 1).trans rfl
           have hcz28_2 : wc.cell? ⟨gb362, 2, none⟩ = some (.int .i64 a0_2) := (bkC BK362.out 2).trans rfl
           have hcz28_3 : wc.cell? ⟨gb362, 3, none⟩ = some (.string a0_3) := (bkC BK362.out 3).trans rfl
           have hcz28_4 : wc.cell? ⟨gb362, 4, none⟩ = some (.int .i64 a0_4) := (bkC BK362.out 4).trans rfl
           have hcz28_5 : wc.cell? ⟨gb362, 5, none⟩ = some (.int .i64 a0_5) := (bkC BK362.out 5).trans rfl
           have hcz28_6 : wc.cell? ⟨gb362, 6, none⟩ = some (.int .i64 a0_6) := (bkC BK362.out 6).trans rfl
           have hcz28_7 : wc.cell? ⟨gb362, 7, none⟩ = some (.string a0_7) := (bkC BK362.out 7).trans rfl
           have hcz28_8 : wc.cell? ⟨gb362, 8, none⟩ = some (.slice A0_8 l0_8.length c0_8) := (bkC BK362.out 8).trans rfl
           have hfz28_0 := bkF BK362.out 0
           have hfz28_1 := bkF BK362.out 1
           have hfz28_2 := bkF BK362.out 2
           have hfz28_3 := bkF BK362.out 3
           have hfz28_4 := bkF BK362.out 4
           have hfz28_5 := bkF BK362.out 5
           have hfz28_6 := bkF BK362.out 6
           have hfz28_7 := bkF BK362.out 7
           have hfz28_8 := bkF BK362.out 8
           go_wp2
           go_meet
           case rel => exact ⟨_, (true), (by first | rfl | (simp; done) | (simp [*]; done)), H', ⟨by have := HJ3.out; have := HJ14.out; first | omega | exact Nat.le_refl _⟩, ⟨by (with_reducible repeat (first | refine bkN ?_ _ | refine bkD ?_ | refine bkA ?_ _)); exact BK362.out⟩, ⟨by repeat (first | (with_reducible first | exact HB.out | apply blA | apply pbN | apply blD | refine blS ?_ GE362.out) | exact HB.out)⟩⟩
          ·rw [if_neg c27] at H
           have c27b0 : decide (15 < a0_4) = false := decide_eq_false c27
           clear c27
           by_cases c29 : a0_5 < 0
           ·rw [if_pos c29] at H
            have c29b0 : decide (a0_5 < 0) = true := decide_eq_true c29
            clear c29
            have H' := Asd.mk H
            clear H
            have hcz30_0 : wc.cell? ⟨gb362, 0, none⟩ = some (.int .i64 a0_0) := (bkC BK362.out 0).trans rfl
            have hcz30_1 : wc.cell? ⟨gb362, 1, none⟩ = some (.int .i64 a0_1) := (bkC BK362.out 1).trans rfl
            have hcz30_2 : wc.cell? ⟨gb362, 2, none⟩ = some (.int .i64 a0_2) := (bkC BK362.out 2).trans rfl
            have hcz30_3 : wc.cell? ⟨gb362, 3, none⟩ = some (.string a0_3) := (bkC BK362.out 3).trans rfl
            have hcz30_4 : wc.cell? ⟨gb362, 4, none⟩ = some (.int .i64 a0_4) := (bkC BK362.out 4).trans rfl
            have hcz30_5 : wc.cell? ⟨gb362, 5, none⟩ = some (.int .i64 a0_5) := (bkC BK362.out 5).trans rfl
            have hcz30_6 : wc.cell? ⟨gb362, 6, none⟩ = some (.int .i64 a0_6) := (bkC BK362.out 6).trans rfl
            have hcz30_7 : wc.cell? ⟨gb362, 7, none⟩ = some (.string a0_7) := (bkC BK362.out 7).trans rfl
            have hcz30_8 : wc.cell? ⟨gb362, 8, none⟩ = some (.slice A0_8 l0_8.length c0_8) := (bkC BK362.out 8).trans rfl
            have hfz30_0 := bkF BK362.out 0
            have hfz30_1 := bkF BK362.out 1
            have hfz30_2 := bkF BK362.out 2
            have hfz30_3 := bkF BK362.out 3
            have hfz30_4 := bkF BK362.out 4
            have hfz30_5 := bkF BK362.out 5
            have hfz30_6 := bkF BK362.out 6
            have hfz30_7 := bkF BK362.out 7
            have hfz30_8 := bkF BK362.out 8
            go_wp2
            go_meet
            case rel => exact ⟨_, (true), (by first | rfl | (simp; done) | (simp [*]; done)), H', ⟨by have := HJ3.out; have := HJ14.out; first | omega | exact Nat.le_refl _⟩, ⟨by (with_reducible repeat (first | refine bkN ?_ _ | refine bkD ?_ | refine bkA ?_ _)); exact BK362.out⟩, ⟨by repeat (first | (with_reducible first | exact HB.out | apply blA | apply pbN | apply blD | refine blS ?_ GE362.out) | exact HB.out)⟩⟩
           ·rw [if_neg c29] at H
            have c29b0 : decide (a0_5 < 0) = false := decide_eq_false c29
            clear c29
            by_cases c31 : a0_5 > 5
            ·rw [if_pos c31] at H
             have c31b0 : decide (5 < a0_5) = true := decide_eq_true c31
             clear c31
             have H' := Asd.mk H
             clear H
             have hcz32_0 : wc.cell? ⟨gb362, 0, none⟩ = some (.int .i64 a0_0) := (bkC BK362.out 0).trans rfl
             have hcz32_1 : wc.cell? ⟨gb362, 1, none⟩ = some (.int .i64 a0_1) := (bkC BK362.out 1).trans rfl
             have hcz32_2 : wc.cell? ⟨gb362, 2, none⟩ = some (.int .i64 a0_2) := (bkC BK362.out 2).trans rfl
             have hcz32_3 : wc.cell? ⟨gb362, 3, none⟩ = some (.string a0_3) := (bkC BK362.out 3).trans rfl
             have hcz32_4 : wc.cell? ⟨gb362, 4, none⟩ = some (.int .i64 a0_4) := (bkC BK362.out 4).trans rfl
             have hcz32_5 : wc.cell? ⟨gb362, 5, none⟩ = some (.int .i64 a0_5) := (bkC BK362.out 5).trans rfl
             have hcz32_6 : wc.cell? ⟨gb362, 6, none⟩ = some (.int .i64 a0_6) := (bkC BK362.out 6).trans rfl
             have hcz32_7 : wc.cell? ⟨gb362, 7, none⟩ = some (.string a0_7) := (bkC BK362.out 7).trans rfl
             have hcz32_8 : wc.cell? ⟨gb362, 8, none⟩ = some (.slice A0_8 l0_8.length c0_8) := (bkC BK362.out 8).trans rfl
             have hfz32_0 := bkF BK362.out 0
             have hfz32_1 := bkF BK362.out 1
             have hfz32_2 := bkF BK362.out 2
             have hfz32_3 := bkF BK362.out 3
             have hfz32_4 := bkF BK362.out 4
             have hfz32_5 := bkF BK362.out 5
             have hfz32_6 := bkF BK362.out 6
             have hfz32_7 := bkF BK362.out 7
             have hfz32_8 := bkF BK362.out 8
             go_wp2
             go_meet
             case rel => exact ⟨_, (true), (by first | rfl | (simp; done) | (simp [*]; done)), H', ⟨by have := HJ3.out; have := HJ14.out; first | omega | exact Nat.le_refl _⟩, ⟨by (with_reducible repeat (first | refine bkN ?_ _ | refine bkD ?_ | refine bkA ?_ _)); exact BK362.out⟩, ⟨by repeat (first | (with_reducible first | exact HB.out | apply blA | apply pbN | apply blD | refine blS ?_ GE362.out) | exact HB.out)⟩⟩
            ·rw [if_neg c31] at H
             have c31b0 : decide (5 < a0_5) = false := decide_eq_false c31
             clear c31
             have H' := Asd.mk H
             clear H
             have hcz33_0 : wc.cell? ⟨gb362, 0, none⟩ = some (.int .i64 a0_0) := (bkC BK362.out 0).trans rfl
             have hcz33_1 : wc.cell? ⟨gb362, 1, none⟩ = some (.int .i64 a0_1) := (bkC BK362.out 1).trans rfl
             have hcz33_2 : wc.cell? ⟨gb362, 2, none⟩ = some (.int .i64 a0_2) := (bkC BK362.out 2).trans rfl
             have hcz33_3 : wc.cell? ⟨gb362, 3, none⟩ = some (.string a0_3) := (bkC BK362.out 3).trans rfl
             have hcz33_4 : wc.cell? ⟨gb362, 4, none⟩ = some (.int .i64 a0_4) := (bkC BK362.out 4).trans rfl
             have hcz33_5 : wc.cell? ⟨gb362, 5, none⟩ = some (.int .i64 a0_5) := (bkC BK362.out 5).trans rfl
             have hcz33_6 : wc.cell? ⟨gb362, 6, none⟩ = some (.int .i64 a0_6) := (bkC BK362.out 6).trans rfl
             have hcz33_7 : wc.cell? ⟨gb362, 7, none⟩ = some (.string a0_7) := (bkC BK362.out 7).trans rfl
             have hcz33_8 : wc.cell? ⟨gb362, 8, none⟩ = some (.slice A0_8 l0_8.length c0_8) := (bkC BK362.out 8).trans rfl
             have hfz33_0 := bkF BK362.out 0
             have hfz33_1 := bkF BK362.out 1
             have hfz33_2 := bkF BK362.out 2
             have hfz33_3 := bkF BK362.out 3
             have hfz33_4 := bkF BK362.out 4
             have hfz33_5 := bkF BK362.out 5
             have hfz33_6 := bkF BK362.out 6
             have hfz33_7 := bkF BK362.out 7
             have hfz33_8 := bkF BK362.out 8
             go_wp2
             go_meet
             case rel => exact ⟨_, (false), (by first | rfl | (simp; done) | (simp [*]; done)), H', ⟨by have := HJ3.out; have := HJ14.out; first | omega | exact Nat.le_refl _⟩, ⟨by (with_reducible repeat (first | refine bkN ?_ _ | refine bkD ?_ | refine bkA ?_ _)); exact BK362.out⟩, ⟨by repeat (first | (with_reducible first | exact HB.out | apply blA | apply pbN | apply blD | refine blS ?_ GE362.out) | exact HB.out)⟩⟩
        ·rw [if_neg c24] at H
         have c24b0 : (a0_0 == 2) = false := beq_eq_false_iff_ne.mpr c24
         have c24b1 : (a0_0 != 2) = true := bne_iff_ne.mpr c24
         (first | rw [c24b0] | (simp only [i64_w, i32_w]; rw [c24b0]) | skip)
         by_cases c34 : a0_4 = 0
         ·rw [if_pos c34] at H
          have c34b0 : (a0_4 == 0) = true := beq_iff_eq.mpr c34
          have c34b1 : (a0_4 != 0) = false := bne_eq_false_iff_eq.mpr c34
          clear c34
          have H' := Asd.mk H
          clear H
          have hcz35_0 : wc.cell? ⟨gb362, 0, none⟩ = some (.int .i64 a0_0) := (bkC BK362.out 0).trans rfl
          have hcz35_1 : wc.cell? ⟨gb362, 1, none⟩ = some (.int .i64 a0_1) := (bkC BK362.out 1).trans rfl
          have hcz35_2 : wc.cell? ⟨gb362, 2, none⟩ = some (.int .i64 a0_2) := (bkC BK362.out 2).trans rfl
          have hcz35_3 : wc.cell? ⟨gb362, 3, none⟩ = some (.string a0_3) := (bkC BK362.out 3).trans rfl
          have hcz35_4 : wc.cell? ⟨gb362, 4, none⟩ = some (.int .i64 a0_4) := (bkC BK362.out 4).trans rfl
          have hcz35_5 : wc.cell? ⟨gb362, 5, none⟩ = some (.int .i64 a0_5) := (bkC BK362.out 5).trans rfl
          have hcz35_6 : wc.cell? ⟨gb362, 6, none⟩ = some (.int .i64 a0_6) := (bkC BK362.out 6).trans rfl
          have hcz35_7 : wc.cell? ⟨gb362, 7, none⟩ = some (.string a0_7) := (bkC BK362.out 7).trans rfl
          have hcz35_8 : wc.cell? ⟨gb362, 8, none⟩ = some (.slice A0_8 l0_8.length c0_8) := (bkC BK362.out 8).trans rfl
          have hfz35_0 := bkF BK362.out 0
          have hfz35_1 := bkF BK362.out 1
          have hfz35_2 := bkF BK362.out 2
          have hfz35_3 := bkF BK362.out 3
          have hfz35_4 := bkF BK362.out 4
          have hfz35_5 := bkF BK362.out 5
          have hfz35_6 := bkF BK362.out 6
          have hfz35_7 := bkF BK362.out 7
          have hfz35_8 := bkF BK362.out 8
          go_wp2
          go_meet
          case rel => exact ⟨_, ((a0_5 != 0)), (by first | rfl | (simp; done) | (simp [*]; done)), H', ⟨by have := HJ3.out; have := HJ14.out; first | omega | exact Nat.le_refl _⟩, ⟨by (with_reducible repeat (first | refine bkN ?_ _ | refine bkD ?_ | refine bkA ?_ _)); exact BK362.out⟩, ⟨by repeat (first | (with_reducible first | exact HB.out | apply blA | apply pbN | apply blD | refine blS ?_ GE362.out) | exact HB.out)⟩⟩
         ·rw [if_neg c34] at H
          have c34b0 : (a0_4 == 0) = false := beq_eq_false_iff_ne.mpr c34
          have c34b1 : (a0_4 != 0) = true := bne_iff_ne.mpr c34
          have H' := Asd.mk H
          clear H
          have hcz36_0 : wc.cell? ⟨gb362, 0, none⟩ = some (.int .i64 a0_0) := (bkC BK362.out 0).trans rfl
          have hcz36_1 : wc.cell? ⟨gb362, 1, none⟩ = some (.int .i64 a0_1) := (bkC BK362.out 1).trans rfl
          have hcz36_2 : wc.cell? ⟨gb362, 2, none⟩ = some (.int .i64 a0_2) := (bkC BK362.out 2).trans rfl
          have hcz36_3 : wc.cell? ⟨gb362, 3, none⟩ = some (.string a0_3) := (bkC BK362.out 3).trans rfl
          have hcz36_4 : wc.cell? ⟨gb362, 4, none⟩ = some (.int .i64 a0_4) := (bkC BK362.out 4).trans rfl
          have hcz36_5 : wc.cell? ⟨gb362, 5, none⟩ = some (.int .i64 a0_5) := (bkC BK362.out 5).trans rfl
          have hcz36_6 : wc.cell? ⟨gb362, 6, none⟩ = some (.int .i64 a0_6) := (bkC BK362.out 6).trans rfl
          have hcz36_7 : wc.cell? ⟨gb362, 7, none⟩ = some (.string a0_7) := (bkC BK362.out 7).trans rfl
          have hcz36_8 : wc.cell? ⟨gb362, 8, none⟩ = some (.slice A0_8 l0_8.length c0_8) := (bkC BK362.out 8).trans rfl
          have hfz36_0 := bkF BK362.out 0
          have hfz36_1 := bkF BK362.out 1
          have hfz36_2 := bkF BK362.out 2
          have hfz36_3 := bkF BK362.out 3
          have hfz36_4 := bkF BK362.out 4
          have hfz36_5 := bkF BK362.out 5
          have hfz36_6 := bkF BK362.out 6
          have hfz36_7 := bkF BK362.out 7
          have hfz36_8 := bkF BK362.out 8
          go_wp2
          go_meet
          case rel => exact ⟨_, (true), (by first | rfl | (simp; done) | (simp [*]; done)), H', ⟨by have := HJ3.out; have := HJ14.out; first | omega | exact Nat.le_refl _⟩, ⟨by (with_reducible repeat (first | refine bkN ?_ _ | refine bkD ?_ | refine bkA ?_ _)); exact BK362.out⟩, ⟨by repeat (first | (with_reducible first | exact HB.out | apply blA | apply pbN | apply blD | refine blS ?_ GE362.out) | exact HB.out)⟩⟩
       case rest =>
        clear HC23
        try clear c1
        try clear c2
        try clear p2
        try clear c3
        try clear c5
        try clear c7
        try clear c7b0
        try clear c8
        try clear c8b0
        try clear c8b1
        try clear c9
        try clear c9b0
        try clear c9b1
        try clear c13
        try clear c18
        try clear c19
        try clear c19b0
        try clear c19b1
        try clear c22
        try clear c24
        try clear c24b0
        try clear c24b1
        try clear c25
        try clear c25b0
        try clear c27
        try clear c27b0
        try clear c29
        try clear c29b0
        try clear c31
        try clear c31b0
        try clear c34
        try clear c34b0
        try clear c34b1
        try clear hcz10_0
        try clear hcz10_1
        try clear hcz10_2
        try clear hcz10_3
        try clear hcz10_4
        try clear hcz10_5
        try clear hcz10_6
        try clear hcz10_7
        try clear hcz10_8
        try clear hcz11_0
        try clear hcz11_1
        try clear hcz11_2
        try clear hcz11_3
        try clear hcz11_4
        try clear hcz11_5
        try clear hcz11_6
        try clear hcz11_7
        try clear hcz11_8
        try clear hcz12_0
        try clear hcz12_1
        try clear hcz12_2
        try clear hcz12_3
        try clear hcz12_4
        try clear hcz12_5
        try clear hcz12_6
        try clear hcz12_7
        try clear hcz12_8
        try clear hcz16_0
        try clear hcz16_1
        try clear hcz16_2
        try clear hcz16_3
        try clear hcz16_4
        try clear hcz16_5
        try clear hcz16_6
        try clear hcz16_7
        try clear hcz16_8
        try clear hcz20_0
        try clear hcz20_1
        try clear hcz20_2
        try clear hcz20_3
        try clear hcz20_4
        try clear hcz20_5
        try clear hcz20_6
        try clear hcz20_7
        try clear hcz20_8
        try clear hcz21_0
        try clear hcz21_1
        try clear hcz21_2
        try clear hcz21_3
        try clear hcz21_4
        try clear hcz21_5
        try clear hcz21_6
        try clear hcz21_7
        try clear hcz21_8
        try clear hcz26_0
        try clear hcz26_1
        try clear hcz26_2
        try clear hcz26_3
        try clear hcz26_4
        try clear hcz26_5
        try clear hcz26_6
        try clear hcz26_7
        try clear hcz26_8
        try clear hcz28_0
        try clear hcz28_1
        try clear hcz28_2
        try clear hcz28_3
        try clear hcz28_4
        try clear hcz28_5
        try clear hcz28_6
        try clear hcz28_7
        try clear hcz28_8
        try clear hcz30_0
        try clear hcz30_1
        try clear hcz30_2
        try clear hcz30_3
        try clear hcz30_4
        try clear hcz30_5
        try clear hcz30_6
        try clear hcz30_7
        try clear hcz30_8
        try clear hcz32_0
        try clear hcz32_1
        try clear hcz32_2
        try clear hcz32_3
        try clear hcz32_4
        try clear hcz32_5
        try clear hcz32_6
        try clear hcz32_7
        try clear hcz32_8
        try clear hcz33_0
        try clear hcz33_1
        try clear hcz33_2
        try clear hcz33_3
        try clear hcz33_4
        try clear hcz33_5
        try clear hcz33_6
        try clear hcz33_7
        try clear hcz33_8
        try clear hcz35_0
        try clear hcz35_1
        try clear hcz35_2
        try clear hcz35_3
        try clear hcz35_4
        try clear hcz35_5
        try clear hcz35_6
        try clear hcz35_7
        try clear hcz35_8
        try clear hcz36_0
        try clear hcz36_1
        try clear hcz36_2
        try clear hcz36_3
        try clear hcz36_4
        try clear hcz36_5
        try clear hcz36_6
        try clear hcz36_7
        try clear hcz36_8
        try clear hcz6_0
        try clear hcz6_1
        try clear hcz6_2
        try clear hcz6_3
        try clear hcz6_4
        try clear hcz6_5
        try clear hcz6_6
        try clear hcz6_7
        try clear hcz6_8
        try clear hfz10_0
        try clear hfz10_1
        try clear hfz10_2
        try clear hfz10_3
        try clear hfz10_4
        try clear hfz10_5
        try clear hfz10_6
        try clear hfz10_7
        try clear hfz10_8
        try clear hfz11_0
        try clear hfz11_1
        try clear hfz11_2
        try clear hfz11_3
        try clear hfz11_4
        try clear hfz11_5
        try clear hfz11_6
        try clear hfz11_7
        try clear hfz11_8
        try clear hfz12_0
        try clear hfz12_1
        try clear hfz12_2
        try clear hfz12_3
        try clear hfz12_4
        try clear hfz12_5
        try clear hfz12_6
        try clear hfz12_7
        try clear hfz12_8
        try clear hfz16_0
        try clear hfz16_1
        try clear hfz16_2
        try clear hfz16_3
        try clear hfz16_4
        try clear hfz16_5
        try clear hfz16_6
        try clear hfz16_7
        try clear hfz16_8
        try clear hfz20_0
        try clear hfz20_1
        try clear hfz20_2
        try clear hfz20_3
        try clear hfz20_4
        try clear hfz20_5
        try clear hfz20_6
        try clear hfz20_7
        try clear hfz20_8
        try clear hfz21_0
        try clear hfz21_1
        try clear hfz21_2
        try clear hfz21_3
        try clear hfz21_4
        try clear hfz21_5
        try clear hfz21_6
        try clear hfz21_7
        try clear hfz21_8
        try clear hfz26_0
        try clear hfz26_1
        try clear hfz26_2
        try clear hfz26_3
        try clear hfz26_4
        try clear hfz26_5
        try clear hfz26_6
        try clear hfz26_7
        try clear hfz26_8
        try clear hfz28_0
        try clear hfz28_1
        try clear hfz28_2
        try clear hfz28_3
        try clear hfz28_4
        try clear hfz28_5
        try clear hfz28_6
        try clear hfz28_7
        try clear hfz28_8
        try clear hfz30_0
        try clear hfz30_1
        try clear hfz30_2
        try clear hfz30_3
        try clear hfz30_4
        try clear hfz30_5
        try clear hfz30_6
        try clear hfz30_7
        try clear hfz30_8
        try clear hfz32_0
        try clear hfz32_1
        try clear hfz32_2
        try clear hfz32_3
        try clear hfz32_4
        try clear hfz32_5
        try clear hfz32_6
        try clear hfz32_7
        try clear hfz32_8
        try clear hfz33_0
        try clear hfz33_1
        try clear hfz33_2
        try clear hfz33_3
        try clear hfz33_4
        try clear hfz33_5
        try clear hfz33_6
        try clear hfz33_7
        try clear hfz33_8
        try clear hfz35_0
        try clear hfz35_1
        try clear hfz35_2
        try clear hfz35_3
        try clear hfz35_4
        try clear hfz35_5
        try clear hfz35_6
        try clear hfz35_7
        try clear hfz35_8
        try clear hfz36_0
        try clear hfz36_1
        try clear hfz36_2
        try clear hfz36_3
        try clear hfz36_4
        try clear hfz36_5
        try clear hfz36_6
        try clear hfz36_7
        try clear hfz36_8
        try clear hfz6_0
        try clear hfz6_1
        try clear hfz6_2
        try clear hfz6_3
        try clear hfz6_4
        try clear hfz6_5
        try clear hfz6_6
        try clear hfz6_7
        try clear hfz6_8
        try clear p2
        obtain ⟨kq, x89_22, rfl, HA, HJ22, BK362, HB⟩ := hcut
        cases kq with
        | zero => exact absurd HA.out (by simp [q08_sizes.j2])
        | succ kj22 =>
         have H := HA.out
         clear HA
         simp only [q08_sizes.j2] at H
         by_cases c37 : x89_22 = true
         ·subst c37
          have H1 : (some (0, 0, false)) = some (r1, r2, r3) := by rw [if_pos rfl] at H; exact H
          clear H
          have H := H1
          clear H1
          simp only [Option.some.injEq, Prod.mk.injEq] at H
          obtain ⟨rfl, rfl, rfl⟩ := H
          go_wp2
          go_ret3
          exact ⟨by first | rfl | (simp [errW_none, errW_some] <;> rfl) | (simp [*, errW_none, errW_some] <;> rfl), by repeat (first | (with_reducible first | exact HB.out | apply blA | apply pbN | apply blD | refine blS ?_ GE362.out) | exact HB.out)⟩
         ·replace c37 := Bool.eq_false_iff.mpr c37
          subst c37
          have H1 : (if a0_0 = 3 then (if a0_6 < 1 then (q08_sizes.j3 kj22 a1 true a0_0 a0_1 a0_2 a0_3 a0_4 a0_5 a0_6 a0_7 l0_8) else (if a0_6 > 4 then (q08_sizes.j3 kj22 a1 true a0_0 a0_1 a0_2 a0_3 a0_4 a0_5 a0_6 a0_7 l0_8) else (q08_sizes.j3 kj22 a1 false a0_0 a0_1 a0_2 a0_3 a0_4 a0_5 a0_6 a0_7 l0_8))) else (q08_sizes.j3 kj22 a1 (a0_6 != 0) a0_0 a0_1 a0_2 a0_3 a0_4 a0_5 a0_6 a0_7 l0_8)) = some (r1, r2, r3) := by rw [if_neg (show ¬ (false = true) by decide)] at H; exact H
          clear H
          have H := H1
          clear H1
          have HC38 := Asd.mk H
          clear H
          go_upto_region 9 with (fail)
          go_cut [112] (fun v112 wc => ∃ (kq : Nat) (x112_37 : Bool), v112 = .bool x112_37 ∧ Asd (q08_sizes.j3 kq a1 x112_37 a0_0 a0_1 a0_2 a0_3 a0_4 a0_5 a0_6 a0_7 l0_8 = some (r1, r2, r3)) ∧ Asd (kq ≤ kj22) ∧ Asd (wc.heap[gb362]? = some (.cells #[.int .i64 a0_0, .int .i64 a0_1, .int .i64 a0_2, .string a0_3, .int .i64 a0_4, .int .i64 a0_5, .int .i64 a0_6, .string a0_7, (.slice A0_8 l0_8.length c0_8)] 26 (0, 0))) ∧ Asd (Below w.heap.size w wc))
          case first =>
           have H := HC38.out
           clear HC38
           by_cases c39 : a0_0 = 3
           ·rw [if_pos c39] at H
            have c39b0 : (a0_0 == 3) = true := beq_iff_eq.mpr c39
            have c39b1 : (a0_0 != 3) = false := bne_eq_false_iff_eq.mpr c39
            clear c39
            (first | rw [c39b0] | (simp only [i64_w, i32_w]; rw [c39b0]) | skip)
            by_cases c40 : a0_6 < 1
            ·rw [if_pos c40] at H
             have c40b0 : decide (a0_6 < 1) = true := decide_eq_true c40
             clear c40
             have H' := Asd.mk H
             clear H
             have hcz41_0 : wc.cell? ⟨gb362, 0, none⟩ = some (.int .i64 a0_0) := (bkC BK362.out 0).trans rfl
             have hcz41_1 : wc.cell? ⟨gb362, 1, none⟩ = some (.int .i64 a0_1) := (bkC BK362.out 1).trans rfl
             have hcz41_2 : wc.cell? ⟨gb362, 2, none⟩ = some (.int .i64 a0_2) := (bkC BK362.out 2).trans rfl
             have hcz41_3 : wc.cell? ⟨gb362, 3, none⟩ = some (.string a0_3) := (bkC BK362.out 3).trans rfl
             have hcz41_4 : wc.cell? ⟨gb362, 4, none⟩ = some (.int .i64 a0_4) := (bkC BK362.out 4).trans rfl
             have hcz41_5 : wc.cell? ⟨gb362, 5, none⟩ = some (.int .i64 a0_5) := (bkC BK362.out 5).trans rfl
             have hcz41_6 : wc.cell? ⟨gb362, 6, none⟩ = some (.int .i64 a0_6) := (bkC BK362.out 6).trans rfl
             have hcz41_7 : wc.cell? ⟨gb362, 7, none⟩ = some (.string a0_7) := (bkC BK362.out 7).trans rfl
             have hcz41_8 : wc.cell? ⟨gb362, 8, none⟩ = some (.slice A0_8 l0_8.length c0_8) := (bkC BK362.out 8).trans rfl
             have hfz41_0 := bkF BK362.out 0
             have hfz41_1 := bkF BK362.out 1
             have hfz41_2 := bkF BK362.out 2
             have hfz41_3 := bkF BK362.out 3
             have hfz41_4 := bkF BK362.out 4
             have hfz41_5 := bkF BK362.out 5
             have hfz41_6 := bkF BK362.out 6
             have hfz41_7 := bkF BK362.out 7
             have hfz41_8 := bkF BK362.out 8
             go_wp2
             go_meet
             case rel => exact ⟨_, (true), (by first | rfl | (simp; done) | (simp [*]; done)), H', ⟨by have := HJ3.out; have := HJ14.out; have := HJ22.out; first | omega | exact Nat.le_refl _⟩, ⟨by (with_reducible repeat (first | refine bkN ?_ _ | refine bkD ?_ | refine bkA ?_ _)); exact BK362.out⟩, ⟨by repeat (first | (with_reducible first | exact HB.out | apply blA | apply pbN | apply blD | refine blS ?_ GE362.out) | exact HB.out)⟩⟩
            ·rw [if_neg c40] at H
             have c40b0 : decide (a0_6 < 1) = false := decide_eq_false c40
             clear c40
             by_cases c42 : a0_6 > 4
             ·rw [if_pos c42] at H
              have c42b0 : decide (4 < a0_6) = true := decide_eq_true c42
              clear c42
              have H' := Asd.mk H
              clear H
              have hcz43_0 : wc.cell? ⟨gb362, 0, none⟩ = some (.int .i64 a0_0) := (bkC BK362.out 0).trans rfl
              have hcz43_1 : wc.cell? ⟨gb362, 1, none⟩ = some (.int .i64 a0_1) := (bkC BK362.out 1).trans rfl
              have hcz43_2 : wc.cell? ⟨gb362, 2, none⟩ = some (.int .i64 a0_2) := (bkC BK362.out 2).trans rfl
              have hcz43_3 : wc.cell? ⟨gb362, 3, none⟩ = some (.string a0_3) := (bkC BK362.out 3).trans rfl
              have hcz43_4 : wc.cell? ⟨gb362, 4, none⟩ = some (.int .i64 a0_4) := (bkC BK362.out 4).trans rfl
              have hcz43_5 : wc.cell? ⟨gb362, 5, none⟩ = some (.int .i64 a0_5) := (bkC BK362.out 5).trans rfl
              have hcz43_6 : wc.cell? ⟨gb362, 6, none⟩ = some (.int .i64 a0_6) := (bkC BK362.out 6).trans rfl
              have hcz43_7 : wc.cell? ⟨gb362, 7, none⟩ = some (.string a0_7) := (bkC BK362.out 7).trans rfl
              have hcz43_8 : wc.cell? ⟨gb362, 8, none⟩ = some (.slice A0_8 l0_8.length c0_8) := (bkC BK362.out 8).trans rfl
              have hfz43_0 := bkF BK362.out 0
              have hfz43_1 := bkF BK362.out 1
              have hfz43_2 := bkF BK362.out 2
              have hfz43_3 := bkF BK362.out 3
              have hfz43_4 := bkF BK362.out 4
              have hfz43_5 := bkF BK362.out 5
              have hfz43_6 := bkF BK362.out 6
              have hfz43_7 := bkF BK362.out 7
              have hfz43_8 := bkF BK362.out 8
              go_wp2
              go_meet
              case rel => exact ⟨_, (true), (by first | rfl | (simp; done) | (simp [*]; done)), H', ⟨by have := HJ3.out; have := HJ14.out; have := HJ22.out; first | omega | exact Nat.le_refl _⟩, ⟨by (with_reducible repeat (first | refine bkN ?_ _ | refine bkD ?_ | refine bkA ?_ _)); exact BK362.out⟩, ⟨by repeat (first | (with_reducible first | exact HB.out | apply blA | apply pbN | apply blD | refine blS ?_ GE362.out) | exact HB.out)⟩⟩
             ·rw [if_neg c42] at H
              have c42b0 : decide (4 < a0_6) = false := decide_eq_false c42
              clear c42
              have H' := Asd.mk H
              clear H
              have hcz44_0 : wc.cell? ⟨gb362, 0, none⟩ = some (.int .i64 a0_0) := (bkC BK362.out 0).trans rfl
              have hcz44_1 : wc.cell? ⟨gb362, 1, none⟩ = some (.int .i64 a0_1) := (bkC BK362.out 1).trans rfl
              have hcz44_2 : wc.cell? ⟨gb362, 2, none⟩ = some (.int .i64 a0_2) := (bkC BK362.out 2).trans rfl
              have hcz44_3 : wc.cell? ⟨gb362, 3, none⟩ = some (.string a0_3) := (bkC BK362.out 3).trans rfl
              have hcz44_4 : wc.cell? ⟨gb362, 4, none⟩ = some (.int .i64 a0_4) := (bkC BK362.out 4).trans rfl
              have hcz44_5 : wc.cell? ⟨gb362, 5, none⟩ = some (.int .i64 a0_5) := (bkC BK362.out 5).trans rfl
              have hcz44_6 : wc.cell? ⟨gb362, 6, none⟩ = some (.int .i64 a0_6) := (bkC BK362.out 6).trans rfl
              have hcz44_7 : wc.cell? ⟨gb362, 7, none⟩ = some (.string a0_7) := (bkC BK362.out 7).trans rfl
              have hcz44_8 : wc.cell? ⟨gb362, 8, none⟩ = some (.slice A0_8 l0_8.length c0_8) := (bkC BK362.out 8).trans rfl
              have hfz44_0 := bkF BK362.out 0
              have hfz44_1 := bkF BK362.out 1
              have hfz44_2 := bkF BK362.out 2
              have hfz44_3 := bkF BK362.out 3
              have hfz44_4 := bkF BK362.out 4
              have hfz44_5 := bkF BK362.out 5
              have hfz44_6 := bkF BK362.out 6
              have hfz44_7 := bkF BK362.out 7
              have hfz44_8 := bkF BK362.out 8
              go_wp2
              go_meet
              case rel => exact ⟨_, (false), (by first | rfl | (simp; done) | (simp [*]; done)), H', ⟨by have := HJ3.out; have := HJ14.out; have := HJ22.out; first | omega | exact Nat.le_refl _⟩, ⟨by (with_reducible repeat (first | refine bkN ?_ _ | refine bkD ?_ | refine bkA ?_ _)); exact BK362.out⟩, ⟨by repeat (first | (with_reducible first | exact HB.out | apply blA | apply pbN | apply blD | refine blS ?_ GE362.out) | exact HB.out)⟩⟩
           ·rw [if_neg c39] at H
            have c39b0 : (a0_0 == 3) = false := beq_eq_false_iff_ne.mpr c39
            have c39b1 : (a0_0 != 3) = true := bne_iff_ne.mpr c39
            (first | rw [c39b0] | (simp only [i64_w, i32_w]; rw [c39b0]) | skip)
            have H' := Asd.mk H
            clear H
            have hcz45_0 : wc.cell? ⟨gb362, 0, none⟩ = some (.int .i64 a0_0) := (bkC BK362.out 0).trans rfl
            have hcz45_1 : wc.cell? ⟨gb362, 1, none⟩ = some (.int .i64 a0_1) := (bkC BK362.out 1).trans rfl
            have hcz45_2 : wc.cell? ⟨gb362, 2, none⟩ = some (.int .i64 a0_2) := (bkC BK362.out 2).trans rfl
            have hcz45_3 : wc.cell? ⟨gb362, 3, none⟩ = some (.string a0_3) := (bkC BK362.out 3).trans rfl
            have hcz45_4 : wc.cell? ⟨gb362, 4, none⟩ = some (.int .i64 a0_4) := (bkC BK362.out 4).trans rfl
            have hcz45_5 : wc.cell? ⟨gb362, 5, none⟩ = some (.int .i64 a0_5) := (bkC BK362.out 5).trans rfl
            have hcz45_6 : wc.cell? ⟨gb362, 6, none⟩ = some (.int .i64 a0_6) := (bkC BK362.out 6).trans rfl
            have hcz45_7 : wc.cell? ⟨gb362, 7, none⟩ = some (.string a0_7) := (bkC BK362.out 7).trans rfl
            have hcz45_8 : wc.cell? ⟨gb362, 8, none⟩ = some (.slice A0_8 l0_8.length c0_8) := (bkC BK362.out 8).trans rfl
            have hfz45_0 := bkF BK362.out 0
            have hfz45_1 := bkF BK362.out 1
            have hfz45_2 := bkF BK362.out 2
            have hfz45_3 := bkF BK362.out 3
            have hfz45_4 := bkF BK362.out 4
            have hfz45_5 := bkF BK362.out 5
            have hfz45_6 := bkF BK362.out 6
            have hfz45_7 := bkF BK362.out 7
            have hfz45_8 := bkF BK362.out 8
            go_wp2
            go_meet
            case rel => exact ⟨_, ((a0_6 != 0)), (by first | rfl | (simp; done) | (simp [*]; done)), H', ⟨by have := HJ3.out; have := HJ14.out; have := HJ22.out; first | omega | exact Nat.le_refl _⟩, ⟨by (with_reducible repeat (first | refine bkN ?_ _ | refine bkD ?_ | refine bkA ?_ _)); exact BK362.out⟩, ⟨by repeat (first | (with_reducible first | exact HB.out | apply blA | apply pbN | apply blD | refine blS ?_ GE362.out) | exact HB.out)⟩⟩
          case rest =>
           clear HC38
           try clear c1
           try clear c2
           try clear p2
           try clear c3
           try clear c4
           try clear c5
           try clear c7
           try clear c7b0
           try clear c8
           try clear c8b0
           try clear c8b1
           try clear c9
           try clear c9b0
           try clear c9b1
           try clear c13
           try clear c18
           try clear c19
           try clear c19b0
           try clear c19b1
           try clear c22
           try clear c24
           try clear c24b0
           try clear c24b1
           try clear c25
           try clear c25b0
           try clear c27
           try clear c27b0
           try clear c29
           try clear c29b0
           try clear c31
           try clear c31b0
           try clear c34
           try clear c34b0
           try clear c34b1
           try clear c37
           try clear c39
           try clear c39b0
           try clear c39b1
           try clear c40
           try clear c40b0
           try clear c42
           try clear c42b0
           try clear hcz10_0
           try clear hcz10_1
           try clear hcz10_2
           try clear hcz10_3
           try clear hcz10_4
           try clear hcz10_5
           try clear hcz10_6
           try clear hcz10_7
           try clear hcz10_8
           try clear hcz11_0
           try clear hcz11_1
           try clear hcz11_2
           try clear hcz11_3
           try clear hcz11_4
           try clear hcz11_5
           try clear hcz11_6
           try clear hcz11_7
           try clear hcz11_8
           try clear hcz12_0
           try clear hcz12_1
           try clear hcz12_2
           try clear hcz12_3
           try clear hcz12_4
           try clear hcz12_5
           try clear hcz12_6
           try clear hcz12_7
           try clear hcz12_8
           try clear hcz16_0
           try clear hcz16_1
           try clear hcz16_2
           try clear hcz16_3
           try clear hcz16_4
           try clear hcz16_5
           try clear hcz16_6
           try clear hcz16_7
           try clear hcz16_8
           try clear hcz20_0
           try clear hcz20_1
           try clear hcz20_2
           try clear hcz20_3
           try clear hcz20_4
           try clear hcz20_5
           try clear hcz20_6
           try clear hcz20_7
           try clear hcz20_8
           try clear hcz21_0
           try clear hcz21_1
           try clear hcz21_2
           try clear hcz21_3
           try clear hcz21_4
           try clear hcz21_5
           try clear hcz21_6
           try clear hcz21_7
           try clear hcz21_8
           try clear hcz26_0
           try clear hcz26_1
           try clear hcz26_2
           try clear hcz26_3
           try clear hcz26_4
           try clear hcz26_5
           try clear hcz26_6
           try clear hcz26_7
           try clear hcz26_8
           try clear hcz28_0
           try clear hcz28_1
           try clear hcz28_2
           try clear hcz28_3
           try clear hcz28_4
           try clear hcz28_5
           try clear hcz28_6
           try clear hcz28_7
           try clear hcz28_8
           try clear hcz30_0
           try clear hcz30_1
           try clear hcz30_2
           try clear hcz30_3
           try clear hcz30_4
           try clear hcz30_5
           try clear hcz30_6
           try clear hcz30_7
           try clear hcz30_8
           try clear hcz32_0
           try clear hcz32_1
           try clear hcz32_2
           try clear hcz32_3
           try clear hcz32_4
           try clear hcz32_5
           try clear hcz32_6
           try clear hcz32_7
           try clear hcz32_8
           try clear hcz33_0
           try clear hcz33_1
           try clear hcz33_2
           try clear hcz33_3
           try clear hcz33_4
           try clear hcz33_5
           try clear hcz33_6
           try clear hcz33_7
           try clear hcz33_8
           try clear hcz35_0
           try clear hcz35_1
           try clear hcz35_2
           try clear hcz35_3
           try clear hcz35_4
           try clear hcz35_5
           try clear hcz35_6
           try clear hcz35_7
           try clear hcz35_8
           try clear hcz36_0
           try clear hcz36_1
           try clear hcz36_2
           try clear hcz36_3
           try clear hcz36_4
           try clear hcz36_5
           try clear hcz36_6
           try clear hcz36_7
           try clear hcz36_8
           try clear hcz41_0
           try clear hcz41_1
           try clear hcz41_2
           try clear hcz41_3
           try clear hcz41_4
           try clear hcz41_5
           try clear hcz41_6
           try clear hcz41_7
           try clear hcz41_8
           try clear hcz43_0
           try clear hcz43_1
           try clear hcz43_2
           try clear hcz43_3
           try clear hcz43_4
           try clear hcz43_5
           try clear hcz43_6
           try clear hcz43_7
           try clear hcz43_8
           try clear hcz44_0
           try clear hcz44_1
           try clear hcz44_2
           try clear hcz44_3
           try clear hcz44_4
           try clear hcz44_5
           try clear hcz44_6
           try clear hcz44_7
           try clear hcz44_8
           try clear hcz45_0
           try clear hcz45_1
           try clear hcz45_2
           try clear hcz45_3
           try clear hcz45_4
           try clear hcz45_5
           try clear hcz45_6
           try clear hcz45_7
           try clear hcz45_8
           try clear hcz6_0
           try clear hcz6_1
           try clear hcz6_2
           try clear hcz6_3
           try clear hcz6_4
           try clear hcz6_5
           try clear hcz6_6
           try clear hcz6_7
           try clear hcz6_8
           try clear hfz10_0
           try clear hfz10_1
           try clear hfz10_2
           try clear hfz10_3
           try clear hfz10_4
           try clear hfz10_5
           try clear hfz10_6
           try clear hfz10_7
           try clear hfz10_8
           try clear hfz11_0
           try clear hfz11_1
           try clear hfz11_2
           try clear hfz11_3
           try clear hfz11_4
           try clear hfz11_5
           try clear hfz11_6
           try clear hfz11_7
           try clear hfz11_8
           try clear hfz12_0
           try clear hfz12_1
           try clear hfz12_2
           try clear hfz12_3
           try clear hfz12_4
           try clear hfz12_5
           try clear hfz12_6
           try clear hfz12_7
           try clear hfz12_8
           try clear hfz16_0
           try clear hfz16_1
           try clear hfz16_2
           try clear hfz16_3
           try clear hfz16_4
           try clear hfz16_5
           try clear hfz16_6
           try clear hfz16_7
           try clear hfz16_8
           try clear hfz20_0
           try clear hfz20_1
           try clear hfz20_2
           try clear hfz20_3
           try clear hfz20_4
           try clear hfz20_5
           try clear hfz20_6
           try clear hfz20_7
           try clear hfz20_8
           try clear hfz21_0
           try clear hfz21_1
           try clear hfz21_2
           try clear hfz21_3
           try clear hfz21_4
           try clear hfz21_5
           try clear hfz21_6
           try clear hfz21_7
           try clear hfz21_8
           try clear hfz26_0
           try clear hfz26_1
           try clear hfz26_2
           try clear hfz26_3
           try clear hfz26_4
           try clear hfz26_5
           try clear hfz26_6
           try clear hfz26_7
           try clear hfz26_8
           try clear hfz28_0
           try clear hfz28_1
           try clear hfz28_2
           try clear hfz28_3
           try clear hfz28_4
           try clear hfz28_5
           try clear hfz28_6
           try clear hfz28_7
           try clear hfz28_8
           try clear hfz30_0
           try clear hfz30_1
           try clear hfz30_2
           try clear hfz30_3
           try clear hfz30_4
           try clear hfz30_5
           try clear hfz30_6
           try clear hfz30_7
           try clear hfz30_8
           try clear hfz32_0
           try clear hfz32_1
           try clear hfz32_2
           try clear hfz32_3
           try clear hfz32_4
           try clear hfz32_5
           try clear hfz32_6
           try clear hfz32_7
           try clear hfz32_8
           try clear hfz33_0
           try clear hfz33_1
           try clear hfz33_2
           try clear hfz33_3
           try clear hfz33_4
           try clear hfz33_5
           try clear hfz33_6
           try clear hfz33_7
           try clear hfz33_8
           try clear hfz35_0
           try clear hfz35_1
           try clear hfz35_2
           try clear hfz35_3
           try clear hfz35_4
           try clear hfz35_5
           try clear hfz35_6
           try clear hfz35_7
           try clear hfz35_8
           try clear hfz36_0
           try clear hfz36_1
           try clear hfz36_2
           try clear hfz36_3
           try clear hfz36_4
           try clear hfz36_5
           try clear hfz36_6
           try clear hfz36_7
           try clear hfz36_8
           try clear hfz41_0
           try clear hfz41_1
           try clear hfz41_2
           try clear hfz41_3
           try clear hfz41_4
           try clear hfz41_5
           try clear hfz41_6
           try clear hfz41_7
           try clear hfz41_8
           try clear hfz43_0
           try clear hfz43_1
           try clear hfz43_2
           try clear hfz43_3
           try clear hfz43_4
           try clear hfz43_5
           try clear hfz43_6
           try clear hfz43_7
           try clear hfz43_8
           try clear hfz44_0
           try clear hfz44_1
           try clear hfz44_2
           try clear hfz44_3
           try clear hfz44_4
           try clear hfz44_5
           try clear hfz44_6
           try clear hfz44_7
           try clear hfz44_8
           try clear hfz45_0
           try clear hfz45_1
           try clear hfz45_2
           try clear hfz45_3
           try clear hfz45_4
           try clear hfz45_5
           try clear hfz45_6
           try clear hfz45_7
           try clear hfz45_8
           try clear hfz6_0
           try clear hfz6_1
           try clear hfz6_2
           try clear hfz6_3
           try clear hfz6_4
           try clear hfz6_5
           try clear hfz6_6
           try clear hfz6_7
           try clear hfz6_8
           try clear p2
           obtain ⟨kq, x112_37, rfl, HA, HJ37, BK362, HB⟩ := hcut
           cases kq with
           | zero => exact absurd HA.out (by simp [q08_sizes.j3])
           | succ kj37 =>
            have H := HA.out
            clear HA
            simp only [q08_sizes.j3] at H
            by_cases c46 : x112_37 = true
            ·subst c46
             have H1 : (some (0, 0, false)) = some (r1, r2, r3) := by rw [if_pos rfl] at H; exact H
             clear H
             have H := H1
             clear H1
             simp only [Option.some.injEq, Prod.mk.injEq] at H
             obtain ⟨rfl, rfl, rfl⟩ := H
             go_wp2
             go_ret3
             exact ⟨by first | rfl | (simp [errW_none, errW_some] <;> rfl) | (simp [*, errW_none, errW_some] <;> rfl), by repeat (first | (with_reducible first | exact HB.out | apply blA | apply pbN | apply blD | refine blS ?_ GE362.out) | exact HB.out)⟩
            ·replace c46 := Bool.eq_false_iff.mpr c46
             subst c46
             have H1 : (q08_sizes.l0 kj37 a1 1 1 0 a0_0 a0_1 a0_2 a0_3 a0_4 a0_5 a0_6 a0_7 l0_8) = some (r1, r2, r3) := by rw [if_neg (show ¬ (false = true) by decide)] at H; exact H
             clear H
             have H := H1
             clear H1
             have H' := Asd.mk H
             clear H
             go_wp2
             go_loopg [9, 10, 11] kj37 (fun kq v9 v10 v11 w' => ∃ (x9_5 : Int) (x10_5 : Int) (x11_5 : Int), v9 = .int .i64 x9_5 ∧ v10 = .int .i64 x10_5 ∧ v11 = .int .i64 x11_5 ∧ Asd (q08_sizes.l0 kq a1 x9_5 x10_5 x11_5 a0_0 a0_1 a0_2 a0_3 a0_4 a0_5 a0_6 a0_7 l0_8 = some (r1, r2, r3)) ∧ Asd (kq ≤ kj37) ∧ Asd (w'.heap[gb362]? = some (.cells #[.int .i64 a0_0, .int .i64 a0_1, .int .i64 a0_2, .string a0_3, .int .i64 a0_4, .int .i64 a0_5, .int .i64 a0_6, .string a0_7, (.slice A0_8 l0_8.length c0_8)] 26 (0, 0))) ∧ Asd (Below w.heap.size w w'))
             case atStart => exact ⟨(1), (1), (0), (by first | rfl | (simp; done) | (simp [*]; done)), (by first | rfl | (simp; done) | (simp [*]; done)), (by first | rfl | (simp; done) | (simp [*]; done)), H', ⟨Nat.le_refl _⟩, ⟨by (with_reducible repeat (first | refine bkN ?_ _ | refine bkD ?_ | refine bkA ?_ _)); exact BK362.out⟩, ⟨by repeat (first | (with_reducible first | exact HB.out | apply blA | apply pbN | apply blD | refine blS ?_ GE362.out) | exact HB.out)⟩⟩
             case round =>
              clear H'
              try clear c1
              try clear c2
              try clear p2
              try clear c3
              try clear c4
              try clear c5
              try clear c7
              try clear c7b0
              try clear c8
              try clear c8b0
              try clear c8b1
              try clear c9
              try clear c9b0
              try clear c9b1
              try clear c13
              try clear c18
              try clear c19
              try clear c19b0
              try clear c19b1
              try clear c22
              try clear c24
              try clear c24b0
              try clear c24b1
              try clear c25
              try clear c25b0
              try clear c27
              try clear c27b0
              try clear c29
              try clear c29b0
              try clear c31
              try clear c31b0
              try clear c34
              try clear c34b0
              try clear c34b1
              try clear c37
              try clear c39
              try clear c39b0
              try clear c39b1
              try clear c40
              try clear c40b0
              try clear c42
              try clear c42b0
              try clear c46
              try clear hcz10_0
              try clear hcz10_1
              try clear hcz10_2
              try clear hcz10_3
              try clear hcz10_4
              try clear hcz10_5
              try clear hcz10_6
              try clear hcz10_7
              try clear hcz10_8
              try clear hcz11_0
              try clear hcz11_1
              try clear hcz11_2
              try clear hcz11_3
              try clear hcz11_4
              try clear hcz11_5
              try clear hcz11_6
              try clear hcz11_7
              try clear hcz11_8
              try clear hcz12_0
              try clear hcz12_1
              try clear hcz12_2
              try clear hcz12_3
              try clear hcz12_4
              try clear hcz12_5
              try clear hcz12_6
              try clear hcz12_7
              try clear hcz12_8
              try clear hcz16_0
              try clear hcz16_1
              try clear hcz16_2
              try clear hcz16_3
              try clear hcz16_4
              try clear hcz16_5
              try clear hcz16_6
              try clear hcz16_7
              try clear hcz16_8
              try clear hcz20_0
              try clear hcz20_1
              try clear hcz20_2
              try clear hcz20_3
              try clear hcz20_4
              try clear hcz20_5
              try clear hcz20_6
              try clear hcz20_7
              try clear hcz20_8
              try clear hcz21_0
              try clear hcz21_1
              try clear hcz21_2
              try clear hcz21_3
              try clear hcz21_4
              try clear hcz21_5
              try clear hcz21_6
              try clear hcz21_7
              try clear hcz21_8
              try clear hcz26_0
              try clear hcz26_1
              try clear hcz26_2
              try clear hcz26_3
              try clear hcz26_4
              try clear hcz26_5
              try clear hcz26_6
              try clear hcz26_7
              try clear hcz26_8
              try clear hcz28_0
              try clear hcz28_1
              try clear hcz28_2
              try clear hcz28_3
              try clear hcz28_4
              try clear hcz28_5
              try clear hcz28_6
              try clear hcz28_7
              try clear hcz28_8
              try clear hcz30_0
              try clear hcz30_1
              try clear hcz30_2
              try clear hcz30_3
              try clear hcz30_4
              try clear hcz30_5
              try clear hcz30_6
              try clear hcz30_7
              try clear hcz30_8
              try clear hcz32_0
              try clear hcz32_1
              try clear hcz32_2
              try clear hcz32_3
              try clear hcz32_4
              try clear hcz32_5
              try clear hcz32_6
              try clear hcz32_7
              try clear hcz32_8
              try clear hcz33_0
              try clear hcz33_1
              try clear hcz33_2
              try clear hcz33_3
              try clear hcz33_4
              try clear hcz33_5
              try clear hcz33_6
              try clear hcz33_7
              try clear hcz33_8
              try clear hcz35_0
              try clear hcz35_1
              try clear hcz35_2
              try clear hcz35_3
              try clear hcz35_4
              try clear hcz35_5
              try clear hcz35_6
              try clear hcz35_7
              try clear hcz35_8
              try clear hcz36_0
              try clear hcz36_1
              try clear hcz36_2
              try clear hcz36_3
              try clear hcz36_4
              try clear hcz36_5
              try clear hcz36_6
              try clear hcz36_7
              try clear hcz36_8
              try clear hcz41_0
              try clear hcz41_1
              try clear hcz41_2
              try clear hcz41_3
              try clear hcz41_4
              try clear hcz41_5
              try clear hcz41_6
              try clear hcz41_7
              try clear hcz41_8
              try clear hcz43_0
              try clear hcz43_1
              try clear hcz43_2
              try clear hcz43_3
              try clear hcz43_4
              try clear hcz43_5
              try clear hcz43_6
              try clear hcz43_7
              try clear hcz43_8
              try clear hcz44_0
              try clear hcz44_1
              try clear hcz44_2
              try clear hcz44_3
              try clear hcz44_4
              try clear hcz44_5
              try clear hcz44_6
              try clear hcz44_7
              try clear hcz44_8
              try clear hcz45_0
              try clear hcz45_1
              try clear hcz45_2
              try clear hcz45_3
              try clear hcz45_4
              try clear hcz45_5
              try clear hcz45_6
              try clear hcz45_7
              try clear hcz45_8
              try clear hcz6_0
              try clear hcz6_1
              try clear hcz6_2
              try clear hcz6_3
              try clear hcz6_4
              try clear hcz6_5
              try clear hcz6_6
              try clear hcz6_7
              try clear hcz6_8
              try clear hfz10_0
              try clear hfz10_1
              try clear hfz10_2
              try clear hfz10_3
              try clear hfz10_4
              try clear hfz10_5
              try clear hfz10_6
              try clear hfz10_7
              try clear hfz10_8
              try clear hfz11_0
              try clear hfz11_1
              try clear hfz11_2
              try clear hfz11_3
              try clear hfz11_4
              try clear hfz11_5
              try clear hfz11_6
              try clear hfz11_7
              try clear hfz11_8
              try clear hfz12_0
              try clear hfz12_1
              try clear hfz12_2
              try clear hfz12_3
              try clear hfz12_4
              try clear hfz12_5
              try clear hfz12_6
              try clear hfz12_7
              try clear hfz12_8
              try clear hfz16_0
              try clear hfz16_1
              try clear hfz16_2
              try clear hfz16_3
              try clear hfz16_4
              try clear hfz16_5
              try clear hfz16_6
              try clear hfz16_7
              try clear hfz16_8
              try clear hfz20_0
              try clear hfz20_1
              try clear hfz20_2
              try clear hfz20_3
              try clear hfz20_4
              try clear hfz20_5
              try clear hfz20_6
              try clear hfz20_7
              try clear hfz20_8
              try clear hfz21_0
              try clear hfz21_1
              try clear hfz21_2
              try clear hfz21_3
              try clear hfz21_4
              try clear hfz21_5
              try clear hfz21_6
              try clear hfz21_7
              try clear hfz21_8
              try clear hfz26_0
              try clear hfz26_1
              try clear hfz26_2
              try clear hfz26_3
              try clear hfz26_4
              try clear hfz26_5
              try clear hfz26_6
              try clear hfz26_7
              try clear hfz26_8
              try clear hfz28_0
              try clear hfz28_1
              try clear hfz28_2
              try clear hfz28_3
              try clear hfz28_4
              try clear hfz28_5
              try clear hfz28_6
              try clear hfz28_7
              try clear hfz28_8
              try clear hfz30_0
              try clear hfz30_1
              try clear hfz30_2
              try clear hfz30_3
              try clear hfz30_4
              try clear hfz30_5
              try clear hfz30_6
              try clear hfz30_7
              try clear hfz30_8
              try clear hfz32_0
              try clear hfz32_1
              try clear hfz32_2
              try clear hfz32_3
              try clear hfz32_4
              try clear hfz32_5
              try clear hfz32_6
              try clear hfz32_7
              try clear hfz32_8
              try clear hfz33_0
              try clear hfz33_1
              try clear hfz33_2
              try clear hfz33_3
              try clear hfz33_4
              try clear hfz33_5
              try clear hfz33_6
              try clear hfz33_7
              try clear hfz33_8
              try clear hfz35_0
              try clear hfz35_1
              try clear hfz35_2
              try clear hfz35_3
              try clear hfz35_4
              try clear hfz35_5
              try clear hfz35_6
              try clear hfz35_7
              try clear hfz35_8
              try clear hfz36_0
              try clear hfz36_1
              try clear hfz36_2
              try clear hfz36_3
              try clear hfz36_4
              try clear hfz36_5
              try clear hfz36_6
              try clear hfz36_7
              try clear hfz36_8
              try clear hfz41_0
              try clear hfz41_1
              try clear hfz41_2
              try clear hfz41_3
              try clear hfz41_4
              try clear hfz41_5
              try clear hfz41_6
              try clear hfz41_7
              try clear hfz41_8
              try clear hfz43_0
              try clear hfz43_1
              try clear hfz43_2
              try clear hfz43_3
              try clear hfz43_4
              try clear hfz43_5
              try clear hfz43_6
              try clear hfz43_7
              try clear hfz43_8
              try clear hfz44_0
              try clear hfz44_1
              try clear hfz44_2
              try clear hfz44_3
              try clear hfz44_4
              try clear hfz44_5
              try clear hfz44_6
              try clear hfz44_7
              try clear hfz44_8
              try clear hfz45_0
              try clear hfz45_1
              try clear hfz45_2
              try clear hfz45_3
              try clear hfz45_4
              try clear hfz45_5
              try clear hfz45_6
              try clear hfz45_7
              try clear hfz45_8
              try clear hfz6_0
              try clear hfz6_1
              try clear hfz6_2
              try clear hfz6_3
              try clear hfz6_4
              try clear hfz6_5
              try clear hfz6_6
              try clear hfz6_7
              try clear hfz6_8
              try clear p2
              obtain ⟨x9_5, x10_5, x11_5, rfl, rfl, rfl, HA, HK5, BK362, HB⟩ := hrel
              cases gk with
              | zero => exact absurd HA.out (by simp [q08_sizes.l0])
              | succ k5 =>
               have H := HA.out
               clear HA
               simp only [q08_sizes.l0] at H
               by_cases c47 : x11_5 < (l0_8.length : Int)
               ·rw [if_pos c47] at H
                have c47b0 : decide (x11_5 < (l0_8.length : Int)) = true := decide_eq_true c47
                clear c47
                by_cases c48 : 0 ≤ x11_5
                ·rw [if_pos c48] at H
                 have c48b0 : decide (0 ≤ x11_5) = true := decide_eq_true c48
                 clear c48
                 replace H := Option.bind_eq_some_iff.mp H
                 obtain ⟨⟨t366, t367, t368⟩, A490, H⟩ := H
                 replace H : (if t368 = true then (if (wrap64 (x10_5 + t367)) > 200 then (some (0, 0, false)) else (q08_sizes.l0 k5 a1 (mx x9_5 (wrap64 (t366 + 1))) (wrap64 (x10_5 + t367)) (wrap64 (x11_5 + 1)) a0_0 a0_1 a0_2 a0_3 a0_4 a0_5 a0_6 a0_7 l0_8)) else (some (0, 0, false))) = some (r1, r2, r3) := H
                 have A49 := Asd.mk A490
                 clear A490
                 by_cases c50 : t368 = true
                 ·subst c50
                  have H1 : (if (wrap64 (x10_5 + t367)) > 200 then (some (0, 0, false)) else (q08_sizes.l0 k5 a1 (mx x9_5 (wrap64 (t366 + 1))) (wrap64 (x10_5 + t367)) (wrap64 (x11_5 + 1)) a0_0 a0_1 a0_2 a0_3 a0_4 a0_5 a0_6 a0_7 l0_8)) = some (r1, r2, r3) := by rw [if_pos rfl] at H; exact H
                  clear H
                  have H := H1
                  clear H1
                  by_cases c51 : (wrap64 (x10_5 + t367)) > 200
                  ·rw [if_pos c51] at H
                   have c51b0 : decide (200 < (wrap64 (x10_5 + t367))) = true := decide_eq_true c51
                   clear c51
                   simp only [Option.some.injEq, Prod.mk.injEq] at H
                   obtain ⟨rfl, rfl, rfl⟩ := H
                   have hcz52_0 : wr.cell? ⟨gb362, 0, none⟩ = some (.int .i64 a0_0) := (bkC BK362.out 0).trans rfl
                   have hcz52_1 : wr.cell? ⟨gb362, 1, none⟩ = some (.int .i64 a0_1) := (bkC BK362.out 1).trans rfl
                   have hcz52_2 : wr.cell? ⟨gb362, 2, none⟩ = some (.int .i64 a0_2) := (bkC BK362.out 2).trans rfl
                   have hcz52_3 : wr.cell? ⟨gb362, 3, none⟩ = some (.string a0_3) := (bkC BK362.out 3).trans rfl
                   have hcz52_4 : wr.cell? ⟨gb362, 4, none⟩ = some (.int .i64 a0_4) := (bkC BK362.out 4).trans rfl
                   have hcz52_5 : wr.cell? ⟨gb362, 5, none⟩ = some (.int .i64 a0_5) := (bkC BK362.out 5).trans rfl
                   have hcz52_6 : wr.cell? ⟨gb362, 6, none⟩ = some (.int .i64 a0_6) := (bkC BK362.out 6).trans rfl
                   have hcz52_7 : wr.cell? ⟨gb362, 7, none⟩ = some (.string a0_7) := (bkC BK362.out 7).trans rfl
                   have hcz52_8 : wr.cell? ⟨gb362, 8, none⟩ = some (.slice A0_8 l0_8.length c0_8) := (bkC BK362.out 8).trans rfl
                   have hfz52_0 := bkF BK362.out 0
                   have hfz52_1 := bkF BK362.out 1
                   have hfz52_2 := bkF BK362.out 2
                   have hfz52_3 := bkF BK362.out 3
                   have hfz52_4 := bkF BK362.out 4
                   have hfz52_5 := bkF BK362.out 5
                   have hfz52_6 := bkF BK362.out 6
                   have hfz52_7 := bkF BK362.out 7
                   have hfz52_8 := bkF BK362.out 8
                   have p365 : 0 ≤ (x11_5 : Int) := of_decide_eq_true (by first | (with_reducible assumption) | assumption)
                   have q365 : x11_5 < (l0_8.length : Int) := of_decide_eq_true (by first | (with_reducible assumption) | assumption)
                   obtain ⟨ad365, A365_8, c365_8, e365, hx365_0, hx365_1, hx365_2, hx365_3, hx365_4, hx365_5, hx365_6, hx365_7, hx365_8, hl365_8, hi365_8⟩ := at_T26 HR0_8.out x11_5 p365 q365
                   cases e365
                   replace hx365_0 := (HB.out.cell (World.block_lt_of_cell? w _ hx365_0)).trans hx365_0
                   replace hx365_1 := (HB.out.cell (World.block_lt_of_cell? w _ hx365_1)).trans hx365_1
                   replace hx365_2 := (HB.out.cell (World.block_lt_of_cell? w _ hx365_2)).trans hx365_2
                   replace hx365_3 := (HB.out.cell (World.block_lt_of_cell? w _ hx365_3)).trans hx365_3
                   replace hx365_4 := (HB.out.cell (World.block_lt_of_cell? w _ hx365_4)).trans hx365_4
                   replace hx365_5 := (HB.out.cell (World.block_lt_of_cell? w _ hx365_5)).trans hx365_5
                   replace hx365_6 := (HB.out.cell (World.block_lt_of_cell? w _ hx365_6)).trans hx365_6
                   replace hx365_7 := (HB.out.cell (World.block_lt_of_cell? w _ hx365_7)).trans hx365_7
                   replace hx365_8 := (HB.out.cell (World.block_lt_of_cell? w _ hx365_8)).trans hx365_8
                   have HR365_8 := Asd.mk hi365_8
                   have HC365_8 := Asd.mk hl365_8
                   clear hi365_8 hl365_8
                   replace p365 := eq_true p365
                   replace q365 := eq_true q365
                   go_wp2_with (first | ((with_reducible refine gate_callee (f := 57) rfl ?_); refine goesL_ (some 128) rfl rfl Tryd.func57 (by kernel_rfl) rfl #[.agg #[.int .i64 ((rd_T26 l0_8 x11_5).f0), .int .i64 ((rd_T26 l0_8 x11_5).f1.f0), .int .i64 ((rd_T26 l0_8 x11_5).f1.f1), .string ((rd_T26 l0_8 x11_5).f1.f2), .int .i64 ((rd_T26 l0_8 x11_5).f2), .int .i64 ((rd_T26 l0_8 x11_5).f3), .int .i64 ((rd_T26 l0_8 x11_5).f4), .string ((rd_T26 l0_8 x11_5).f5), .slice A365_8 ((rd_T26 l0_8 x11_5).f6).length c365_8], .int .i64 (wrap64 (a1 - 1))] rfl (by (try simp only [List.map_toArray, List.map_cons, List.map_nil]); first | done | rfl | (simp only [List.length_drop, List.length_take]; rfl)) ?_; (with_reducible refine (ih k5 (by have := HJ3.out; have := HJ14.out; have := HJ22.out; have := HJ37.out; have := HK5.out; omega) ((rd_T26 l0_8 x11_5).f0) ((rd_T26 l0_8 x11_5).f1.f0) ((rd_T26 l0_8 x11_5).f1.f1) ((rd_T26 l0_8 x11_5).f1.f2) ((rd_T26 l0_8 x11_5).f2) ((rd_T26 l0_8 x11_5).f3) ((rd_T26 l0_8 x11_5).f4) ((rd_T26 l0_8 x11_5).f5) _ _ ((rd_T26 l0_8 x11_5).f6) (wrap64 (a1 - 1)) t366 t367 true _ ?side1 ?side2 A49.out).mono ?_); (case side1 => repeat (first | exact (Kd.C_below HR365_8.out HB.out) | (with_reducible refine Kd.C_alloc ?_ _) | (with_reducible refine Kd.C_drewN ?_ _) | (with_reducible refine Kd.C_drew ?_))); (case side2 => exact HC365_8.out); rintro e w53 ⟨rfl, hb⟩; refine ⟨_, rfl, ?_⟩; have n0_ := Asd.mk (blk_below (g := gb362) (o := .cells #[.int .i64 a0_0, .int .i64 a0_1, .int .i64 a0_2, .string a0_3, .int .i64 a0_4, .int .i64 a0_5, .int .i64 a0_6, .string a0_7, .slice (some ad365) l0_8.length c0_8] 26 (0, 0)) (by (with_reducible repeat (first | refine bkN ?_ _ | refine bkD ?_ | refine bkA ?_ _)); exact BK362.out) hb); have n1_ := Asd.mk (below_step (by repeat (first | (with_reducible first | exact HB.out | apply blA | apply pbN | apply blD | refine blS ?_ GE362.out) | exact HB.out)) hb); clear BK362; clear HB; have BK362 := n0_; have HB := n1_; clear n0_ n1_; (try clear hb); (try clear hb2); (try clear hk); (try clear hi)))
                   go_ret3
                   exact ⟨by first | rfl | (simp [errW_none, errW_some] <;> rfl) | (simp [*, errW_none, errW_some] <;> rfl), by repeat (first | (with_reducible first | exact HB.out | apply blA | apply pbN | apply blD | refine blS ?_ GE362.out) | exact HB.out)⟩
                  ·rw [if_neg c51] at H
                   have c51b0 : decide (200 < (wrap64 (x10_5 + t367))) = false := decide_eq_false c51
                   clear c51
                   obtain ⟨ji54, hji54⟩ : ∃ j_ : Int, (mx x9_5 (wrap64 (t366 + 1))) = j_ := ⟨_, rfl⟩
                   replace H : (q08_sizes.l0 k5 a1 ji54 (wrap64 (x10_5 + t367)) (wrap64 (x11_5 + 1)) a0_0 a0_1 a0_2 a0_3 a0_4 a0_5 a0_6 a0_7 l0_8) = some (r1, r2, r3) := by first | (rw [hji54] at H; exact H) | (simp only [hji54] at H ⊢; exact H)
                   (try rw [hji54] at A49)
                   have hji54_ : (if x9_5 < (wrap64 (t366 + 1)) then (wrap64 (t366 + 1)) else x9_5) = ji54 := hji54
                   have H' := Asd.mk H
                   clear H
                   have hcz55_0 : wr.cell? ⟨gb362, 0, none⟩ = some (.int .i64 a0_0) := (bkC BK362.out 0).trans rfl
                   have hcz55_1 : wr.cell? ⟨gb362, 1, none⟩ = some (.int .i64 a0_1) := (bkC BK362.out 1).trans rfl
                   have hcz55_2 : wr.cell? ⟨gb362, 2, none⟩ = some (.int .i64 a0_2) := (bkC BK362.out 2).trans rfl
                   have hcz55_3 : wr.cell? ⟨gb362, 3, none⟩ = some (.string a0_3) := (bkC BK362.out 3).trans rfl
                   have hcz55_4 : wr.cell? ⟨gb362, 4, none⟩ = some (.int .i64 a0_4) := (bkC BK362.out 4).trans rfl
                   have hcz55_5 : wr.cell? ⟨gb362, 5, none⟩ = some (.int .i64 a0_5) := (bkC BK362.out 5).trans rfl
                   have hcz55_6 : wr.cell? ⟨gb362, 6, none⟩ = some (.int .i64 a0_6) := (bkC BK362.out 6).trans rfl
                   have hcz55_7 : wr.cell? ⟨gb362, 7, none⟩ = some (.string a0_7) := (bkC BK362.out 7).trans rfl
                   have hcz55_8 : wr.cell? ⟨gb362, 8, none⟩ = some (.slice A0_8 l0_8.length c0_8) := (bkC BK362.out 8).trans rfl
                   have hfz55_0 := bkF BK362.out 0
                   have hfz55_1 := bkF BK362.out 1
                   have hfz55_2 := bkF BK362.out 2
                   have hfz55_3 := bkF BK362.out 3
                   have hfz55_4 := bkF BK362.out 4
                   have hfz55_5 := bkF BK362.out 5
                   have hfz55_6 := bkF BK362.out 6
                   have hfz55_7 := bkF BK362.out 7
                   have hfz55_8 := bkF BK362.out 8
                   have p365 : 0 ≤ (x11_5 : Int) := of_decide_eq_true (by first | (with_reducible assumption) | assumption)
                   have q365 : x11_5 < (l0_8.length : Int) := of_decide_eq_true (by first | (with_reducible assumption) | assumption)
                   obtain ⟨ad365, A365_8, c365_8, e365, hx365_0, hx365_1, hx365_2, hx365_3, hx365_4, hx365_5, hx365_6, hx365_7, hx365_8, hl365_8, hi365_8⟩ := at_T26 HR0_8.out x11_5 p365 q365
                   cases e365
                   replace hx365_0 := (HB.out.cell (World.block_lt_of_cell? w _ hx365_0)).trans hx365_0
                   replace hx365_1 := (HB.out.cell (World.block_lt_of_cell? w _ hx365_1)).trans hx365_1
                   replace hx365_2 := (HB.out.cell (World.block_lt_of_cell? w _ hx365_2)).trans hx365_2
                   replace hx365_3 := (HB.out.cell (World.block_lt_of_cell? w _ hx365_3)).trans hx365_3
                   replace hx365_4 := (HB.out.cell (World.block_lt_of_cell? w _ hx365_4)).trans hx365_4
                   replace hx365_5 := (HB.out.cell (World.block_lt_of_cell? w _ hx365_5)).trans hx365_5
                   replace hx365_6 := (HB.out.cell (World.block_lt_of_cell? w _ hx365_6)).trans hx365_6
                   replace hx365_7 := (HB.out.cell (World.block_lt_of_cell? w _ hx365_7)).trans hx365_7
                   replace hx365_8 := (HB.out.cell (World.block_lt_of_cell? w _ hx365_8)).trans hx365_8
                   have HR365_8 := Asd.mk hi365_8
                   have HC365_8 := Asd.mk hl365_8
                   clear hi365_8 hl365_8
                   replace p365 := eq_true p365
                   replace q365 := eq_true q365
                   go_wp2_with (first | ((with_reducible refine gate_callee (f := 57) rfl ?_); refine goesL_ (some 128) rfl rfl Tryd.func57 (by kernel_rfl) rfl #[.agg #[.int .i64 ((rd_T26 l0_8 x11_5).f0), .int .i64 ((rd_T26 l0_8 x11_5).f1.f0), .int .i64 ((rd_T26 l0_8 x11_5).f1.f1), .string ((rd_T26 l0_8 x11_5).f1.f2), .int .i64 ((rd_T26 l0_8 x11_5).f2), .int .i64 ((rd_T26 l0_8 x11_5).f3), .int .i64 ((rd_T26 l0_8 x11_5).f4), .string ((rd_T26 l0_8 x11_5).f5), .slice A365_8 ((rd_T26 l0_8 x11_5).f6).length c365_8], .int .i64 (wrap64 (a1 - 1))] rfl (by (try simp only [List.map_toArray, List.map_cons, List.map_nil]); first | done | rfl | (simp only [List.length_drop, List.length_take]; rfl)) ?_; (with_reducible refine (ih k5 (by have := HJ3.out; have := HJ14.out; have := HJ22.out; have := HJ37.out; have := HK5.out; omega) ((rd_T26 l0_8 x11_5).f0) ((rd_T26 l0_8 x11_5).f1.f0) ((rd_T26 l0_8 x11_5).f1.f1) ((rd_T26 l0_8 x11_5).f1.f2) ((rd_T26 l0_8 x11_5).f2) ((rd_T26 l0_8 x11_5).f3) ((rd_T26 l0_8 x11_5).f4) ((rd_T26 l0_8 x11_5).f5) _ _ ((rd_T26 l0_8 x11_5).f6) (wrap64 (a1 - 1)) t366 t367 true _ ?side1 ?side2 A49.out).mono ?_); (case side1 => repeat (first | exact (Kd.C_below HR365_8.out HB.out) | (with_reducible refine Kd.C_alloc ?_ _) | (with_reducible refine Kd.C_drewN ?_ _) | (with_reducible refine Kd.C_drew ?_))); (case side2 => exact HC365_8.out); rintro e w56 ⟨rfl, hb⟩; refine ⟨_, rfl, ?_⟩; have n0_ := Asd.mk (blk_below (g := gb362) (o := .cells #[.int .i64 a0_0, .int .i64 a0_1, .int .i64 a0_2, .string a0_3, .int .i64 a0_4, .int .i64 a0_5, .int .i64 a0_6, .string a0_7, .slice (some ad365) l0_8.length c0_8] 26 (0, 0)) (by (with_reducible repeat (first | refine bkN ?_ _ | refine bkD ?_ | refine bkA ?_ _)); exact BK362.out) hb); have n1_ := Asd.mk (below_step (by repeat (first | (with_reducible first | exact HB.out | apply blA | apply pbN | apply blD | refine blS ?_ GE362.out) | exact HB.out)) hb); clear BK362; clear HB; have BK362 := n0_; have HB := n1_; clear n0_ n1_; (try clear hb); (try clear hb2); (try clear hk); (try clear hi)))
                   go_roundg k5
                   case measure => have := HJ3.out; have := HJ14.out; have := HJ22.out; have := HJ37.out; have := HK5.out; omega
                   case rel => exact ⟨(ji54), (wrap64 (x10_5 + t367)), (wrap64 (x11_5 + 1)), (by first | rfl | (simp; done) | (simp only [← hji54] <;> (first | rfl | simp)) | (simp [*]; done)), (by first | rfl | (simp; done) | (simp [*]; done)), (by first | rfl | (simp; done) | (simp [*]; done)), H', ⟨by have := HJ3.out; have := HJ14.out; have := HJ22.out; have := HJ37.out; have := HK5.out; omega⟩, ⟨by (with_reducible repeat (first | refine bkN ?_ _ | refine bkD ?_ | refine bkA ?_ _)); exact BK362.out⟩, ⟨by repeat (first | (with_reducible first | exact HB.out | apply blA | apply pbN | apply blD | refine blS ?_ GE362.out) | exact HB.out)⟩⟩
                 ·replace c50 := Bool.eq_false_iff.mpr c50
                  subst c50
                  have H1 : (some (0, 0, false)) = some (r1, r2, r3) := by rw [if_neg (show ¬ (false = true) by decide)] at H; exact H
                  clear H
                  have H := H1
                  clear H1
                  simp only [Option.some.injEq, Prod.mk.injEq] at H
                  obtain ⟨rfl, rfl, rfl⟩ := H
                  have hcz57_0 : wr.cell? ⟨gb362, 0, none⟩ = some (.int .i64 a0_0) := (bkC BK362.out 0).trans rfl
                  have hcz57_1 : wr.cell? ⟨gb362, 1, none⟩ = some (.int .i64 a0_1) := (bkC BK362.out 1).trans rfl
                  have hcz57_2 : wr.cell? ⟨gb362, 2, none⟩ = some (.int .i64 a0_2) := (bkC BK362.out 2).trans rfl
                  have hcz57_3 : wr.cell? ⟨gb362, 3, none⟩ = some (.string a0_3) := (bkC BK362.out 3).trans rfl
                  have hcz57_4 : wr.cell? ⟨gb362, 4, none⟩ = some (.int .i64 a0_4) := (bkC BK362.out 4).trans rfl
                  have hcz57_5 : wr.cell? ⟨gb362, 5, none⟩ = some (.int .i64 a0_5) := (bkC BK362.out 5).trans rfl
                  have hcz57_6 : wr.cell? ⟨gb362, 6, none⟩ = some (.int .i64 a0_6) := (bkC BK362.out 6).trans rfl
                  have hcz57_7 : wr.cell? ⟨gb362, 7, none⟩ = some (.string a0_7) := (bkC BK362.out 7).trans rfl
                  have hcz57_8 : wr.cell? ⟨gb362, 8, none⟩ = some (.slice A0_8 l0_8.length c0_8) := (bkC BK362.out 8).trans rfl
                  have hfz57_0 := bkF BK362.out 0
                  have hfz57_1 := bkF BK362.out 1
                  have hfz57_2 := bkF BK362.out 2
                  have hfz57_3 := bkF BK362.out 3
                  have hfz57_4 := bkF BK362.out 4
                  have hfz57_5 := bkF BK362.out 5
                  have hfz57_6 := bkF BK362.out 6
                  have hfz57_7 := bkF BK362.out 7
                  have hfz57_8 := bkF BK362.out 8
                  have p365 : 0 ≤ (x11_5 : Int) := of_decide_eq_true (by first | (with_reducible assumption) | assumption)
                  have q365 : x11_5 < (l0_8.length : Int) := of_decide_eq_true (by first | (with_reducible assumption) | assumption)
                  obtain ⟨ad365, A365_8, c365_8, e365, hx365_0, hx365_1, hx365_2, hx365_3, hx365_4, hx365_5, hx365_6, hx365_7, hx365_8, hl365_8, hi365_8⟩ := at_T26 HR0_8.out x11_5 p365 q365
                  cases e365
                  replace hx365_0 := (HB.out.cell (World.block_lt_of_cell? w _ hx365_0)).trans hx365_0
                  replace hx365_1 := (HB.out.cell (World.block_lt_of_cell? w _ hx365_1)).trans hx365_1
                  replace hx365_2 := (HB.out.cell (World.block_lt_of_cell? w _ hx365_2)).trans hx365_2
                  replace hx365_3 := (HB.out.cell (World.block_lt_of_cell? w _ hx365_3)).trans hx365_3
                  replace hx365_4 := (HB.out.cell (World.block_lt_of_cell? w _ hx365_4)).trans hx365_4
                  replace hx365_5 := (HB.out.cell (World.block_lt_of_cell? w _ hx365_5)).trans hx365_5
                  replace hx365_6 := (HB.out.cell (World.block_lt_of_cell? w _ hx365_6)).trans hx365_6
                  replace hx365_7 := (HB.out.cell (World.block_lt_of_cell? w _ hx365_7)).trans hx365_7
                  replace hx365_8 := (HB.out.cell (World.block_lt_of_cell? w _ hx365_8)).trans hx365_8
                  have HR365_8 := Asd.mk hi365_8
                  have HC365_8 := Asd.mk hl365_8
                  clear hi365_8 hl365_8
                  replace p365 := eq_true p365
                  replace q365 := eq_true q365
                  go_wp2_with (first | ((with_reducible refine gate_callee (f := 57) rfl ?_); refine goesL_ (some 128) rfl rfl Tryd.func57 (by kernel_rfl) rfl #[.agg #[.int .i64 ((rd_T26 l0_8 x11_5).f0), .int .i64 ((rd_T26 l0_8 x11_5).f1.f0), .int .i64 ((rd_T26 l0_8 x11_5).f1.f1), .string ((rd_T26 l0_8 x11_5).f1.f2), .int .i64 ((rd_T26 l0_8 x11_5).f2), .int .i64 ((rd_T26 l0_8 x11_5).f3), .int .i64 ((rd_T26 l0_8 x11_5).f4), .string ((rd_T26 l0_8 x11_5).f5), .slice A365_8 ((rd_T26 l0_8 x11_5).f6).length c365_8], .int .i64 (wrap64 (a1 - 1))] rfl (by (try simp only [List.map_toArray, List.map_cons, List.map_nil]); first | done | rfl | (simp only [List.length_drop, List.length_take]; rfl)) ?_; (with_reducible refine (ih k5 (by have := HJ3.out; have := HJ14.out; have := HJ22.out; have := HJ37.out; have := HK5.out; omega) ((rd_T26 l0_8 x11_5).f0) ((rd_T26 l0_8 x11_5).f1.f0) ((rd_T26 l0_8 x11_5).f1.f1) ((rd_T26 l0_8 x11_5).f1.f2) ((rd_T26 l0_8 x11_5).f2) ((rd_T26 l0_8 x11_5).f3) ((rd_T26 l0_8 x11_5).f4) ((rd_T26 l0_8 x11_5).f5) _ _ ((rd_T26 l0_8 x11_5).f6) (wrap64 (a1 - 1)) t366 t367 false _ ?side1 ?side2 A49.out).mono ?_); (case side1 => repeat (first | exact (Kd.C_below HR365_8.out HB.out) | (with_reducible refine Kd.C_alloc ?_ _) | (with_reducible refine Kd.C_drewN ?_ _) | (with_reducible refine Kd.C_drew ?_))); (case side2 => exact HC365_8.out); rintro e w58 ⟨rfl, hb⟩; refine ⟨_, rfl, ?_⟩; have n0_ := Asd.mk (blk_below (g := gb362) (o := .cells #[.int .i64 a0_0, .int .i64 a0_1, .int .i64 a0_2, .string a0_3, .int .i64 a0_4, .int .i64 a0_5, .int .i64 a0_6, .string a0_7, .slice (some ad365) l0_8.length c0_8] 26 (0, 0)) (by (with_reducible repeat (first | refine bkN ?_ _ | refine bkD ?_ | refine bkA ?_ _)); exact BK362.out) hb); have n1_ := Asd.mk (below_step (by repeat (first | (with_reducible first | exact HB.out | apply blA | apply pbN | apply blD | refine blS ?_ GE362.out) | exact HB.out)) hb); clear BK362; clear HB; have BK362 := n0_; have HB := n1_; clear n0_ n1_; (try clear hb); (try clear hb2); (try clear hk); (try clear hi)))
                  go_ret3
                  exact ⟨by first | rfl | (simp [errW_none, errW_some] <;> rfl) | (simp [*, errW_none, errW_some] <;> rfl), by repeat (first | (with_reducible first | exact HB.out | apply blA | apply pbN | apply blD | refine blS ?_ GE362.out) | exact HB.out)⟩
                ·rw [if_neg c48] at H
                 exact absurd H (by simp)
               ·rw [if_neg c47] at H
                have c47b0 : decide (x11_5 < (l0_8.length : Int)) = false := decide_eq_false c47
                clear c47
                simp only [Option.some.injEq, Prod.mk.injEq] at H
                obtain ⟨rfl, rfl, rfl⟩ := H
                have hcz59_0 : wr.cell? ⟨gb362, 0, none⟩ = some (.int .i64 a0_0) := (bkC BK362.out 0).trans rfl
                have hcz59_1 : wr.cell? ⟨gb362, 1, none⟩ = some (.int .i64 a0_1) := (bkC BK362.out 1).trans rfl
                have hcz59_2 : wr.cell? ⟨gb362, 2, none⟩ = some (.int .i64 a0_2) := (bkC BK362.out 2).trans rfl
                have hcz59_3 : wr.cell? ⟨gb362, 3, none⟩ = some (.string a0_3) := (bkC BK362.out 3).trans rfl
                have hcz59_4 : wr.cell? ⟨gb362, 4, none⟩ = some (.int .i64 a0_4) := (bkC BK362.out 4).trans rfl
                have hcz59_5 : wr.cell? ⟨gb362, 5, none⟩ = some (.int .i64 a0_5) := (bkC BK362.out 5).trans rfl
                have hcz59_6 : wr.cell? ⟨gb362, 6, none⟩ = some (.int .i64 a0_6) := (bkC BK362.out 6).trans rfl
                have hcz59_7 : wr.cell? ⟨gb362, 7, none⟩ = some (.string a0_7) := (bkC BK362.out 7).trans rfl
                have hcz59_8 : wr.cell? ⟨gb362, 8, none⟩ = some (.slice A0_8 l0_8.length c0_8) := (bkC BK362.out 8).trans rfl
                have hfz59_0 := bkF BK362.out 0
                have hfz59_1 := bkF BK362.out 1
                have hfz59_2 := bkF BK362.out 2
                have hfz59_3 := bkF BK362.out 3
                have hfz59_4 := bkF BK362.out 4
                have hfz59_5 := bkF BK362.out 5
                have hfz59_6 := bkF BK362.out 6
                have hfz59_7 := bkF BK362.out 7
                have hfz59_8 := bkF BK362.out 8
                go_wp2
                go_ret3
                exact ⟨by first | rfl | (simp [errW_none, errW_some] <;> rfl) | (simp [*, errW_none, errW_some] <;> rfl), by repeat (first | (with_reducible first | exact HB.out | apply blA | apply pbN | apply blD | refine blS ?_ GE362.out) | exact HB.out)⟩
end Go.Proofs.YtkboodfnegedaaaDoor.E
