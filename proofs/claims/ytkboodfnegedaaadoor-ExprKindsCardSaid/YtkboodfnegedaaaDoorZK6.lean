/- Contracts and plain lemmas of the functions that the law reaches, part 6. -/
import Derived.Test.YtkboodfnegedaaaDoorZK3
import Derived.Test.YtkboodfnegedaaaDoorZK5
namespace Go.Proofs.YtkboodfnegedaaaDoor.E
open Go.RowKit Go.Proofs.YtkboodfnegedaaaDoorW.PrintWords Go.Proofs.YtkboodfnegedaaaDoorW.PrintLast Go.Proofs.YtkboodfnegedaaaDoorW.PrintMore
attribute [local go_sem] max2_int min2_int max_two min_two max_three min_three max_four min_four   -- for this text's walks alone
set_option linter.unusedVariables false
set_option linter.unusedSimpArgs false
def q08_Right.f (k : Nat) (a0_0 : Int) (a0_1 : Int) (a0_2 : Int) (a0_3 : ByteArray) (a0_4 : Int) (a0_5 : Int) (a0_6 : Int) (a0_7 : ByteArray) (l0_8 : List (S26)) : Option (Bool) := (q08_sizes.f k a0_0 a0_1 a0_2 a0_3 a0_4 a0_5 a0_6 a0_7 l0_8 20).bind fun bt370 => (some bt370.2.2)
set_option maxHeartbeats 8000000 in
set_option maxRecDepth 100000 in
theorem q08_Right.calls (k : Nat) (a0_0 : Int) (a0_1 : Int) (a0_2 : Int) (a0_3 : ByteArray) (a0_4 : Int) (a0_5 : Int) (a0_6 : Int) (a0_7 : ByteArray) (A0_8 : Option Addr) (c0_8 : Nat) (l0_8 : List (S26)) (r : Bool) (w : World) (hr0_8 : Kd.C k26 w A0_8 l0_8.length l0_8) (hc0_8 : l0_8.length ≤ c0_8) (h : q08_Right.f k a0_0 a0_1 a0_2 a0_3 a0_4 a0_5 a0_6 a0_7 l0_8 = some r) :
  Calls Tryd.prog 30 #[.agg #[.int .i64 a0_0, .int .i64 a0_1, .int .i64 a0_2, .string a0_3, .int .i64 a0_4, .int .i64 a0_5, .int .i64 a0_6, .string a0_7, .slice A0_8 l0_8.length c0_8]] w fun e w' => e = .returned (.bool r) ∧ Below w.heap.size w w' := by
 have hu26 := Tryd.underlying26
 have HR0_8 := Asd.mk hr0_8
 have HC0_8 := Asd.mk hc0_8
 clear hr0_8 hc0_8
 have HB := Asd.mk (Below.refl w.heap.size w)
 have H : ((q08_sizes.f k a0_0 a0_1 a0_2 a0_3 a0_4 a0_5 a0_6 a0_7 l0_8 20).bind fun bt370 => (some bt370.2.2)) = some r := h
 clear h
 replace H := Option.bind_eq_some_iff.mp H
 obtain ⟨⟨t370, t371, t372⟩, A20, H⟩ := H
 replace H : (some t372) = some r := H
 have A2 := Asd.mk A20
 clear A20
 obtain rfl := Option.some.inj H
 go_enter Tryd.func30, Tryd.ntmps30
 go_wp2_with (first | ((with_reducible refine gate_dst (N := 1) rfl ?_); refine box_event ?hg (N := 1) ?hd (cs := #[.int .i64 a0_0, .int .i64 a0_1, .int .i64 a0_2, .string a0_3, .int .i64 a0_4, .int .i64 a0_5, .int .i64 a0_6, .string a0_7, .slice A0_8 l0_8.length c0_8]) (t := 26) ?hr ?_; (case hd => rfl); (case hg => rfl); (case hr => first | (go_simp; done) | (go_simp; rfl)); intro gb369 hg w3 hbox hb; have n0_ := Asd.mk (below_step (by repeat (first | (with_reducible first | exact HB.out | apply blA | apply pbN | apply blD) | exact HB.out)) hb); have n1_ := Asd.mk (hbox); have n2_ := Asd.mk ((by rw [hg]; exact (below_size (by repeat (first | (with_reducible first | exact HB.out | apply blA | apply pbN | apply blD) | exact HB.out))) : w.heap.size ≤ gb369)); have n3_ := Asd.mk ((by rw [hg]; exact (below_size (by repeat (first | (with_reducible first | exact HB.out | apply blA | apply pbN | apply blD) | exact HB.out))) : w.heap.size ≤ gb369)); clear HB; have HB := n0_; have BK369 := n1_; have GW369 := n2_; have GE369 := n3_; clear n0_ n1_ n2_ n3_; clear hb hbox hg; have hcz4_0 : w3.cell? ⟨gb369, 0, none⟩ = some (.int .i64 a0_0) := (bkC BK369.out 0).trans rfl; have hcz4_1 : w3.cell? ⟨gb369, 1, none⟩ = some (.int .i64 a0_1) := (bkC BK369.out 1).trans rfl; have hcz4_2 : w3.cell? ⟨gb369, 2, none⟩ = some (.int .i64 a0_2) := (bkC BK369.out 2).trans rfl; have hcz4_3 : w3.cell? ⟨gb369, 3, none⟩ = some (.string a0_3) := (bkC BK369.out 3).trans rfl; have hcz4_4 : w3.cell? ⟨gb369, 4, none⟩ = some (.int .i64 a0_4) := (bkC BK369.out 4).trans rfl; have hcz4_5 : w3.cell? ⟨gb369, 5, none⟩ = some (.int .i64 a0_5) := (bkC BK369.out 5).trans rfl; have hcz4_6 : w3.cell? ⟨gb369, 6, none⟩ = some (.int .i64 a0_6) := (bkC BK369.out 6).trans rfl; have hcz4_7 : w3.cell? ⟨gb369, 7, none⟩ = some (.string a0_7) := (bkC BK369.out 7).trans rfl; have hcz4_8 : w3.cell? ⟨gb369, 8, none⟩ = some (.slice A0_8 l0_8.length c0_8) := (bkC BK369.out 8).trans rfl; have hfz4_0 := bkF BK369.out 0; have hfz4_1 := bkF BK369.out 1; have hfz4_2 := bkF BK369.out 2; have hfz4_3 := bkF BK369.out 3; have hfz4_4 := bkF BK369.out 4; have hfz4_5 := bkF BK369.out 5; have hfz4_6 := bkF BK369.out 6; have hfz4_7 := bkF BK369.out 7; have hfz4_8 := bkF BK369.out 8) | ((with_reducible refine gate_callee (f := 57) rfl ?_); refine goesL_ (some 8) rfl rfl Tryd.func57 (by kernel_rfl) rfl #[.agg #[.int .i64 a0_0, .int .i64 a0_1, .int .i64 a0_2, .string a0_3, .int .i64 a0_4, .int .i64 a0_5, .int .i64 a0_6, .string a0_7, .slice A0_8 l0_8.length c0_8], .int .i64 20] rfl (by (try simp only [List.map_toArray, List.map_cons, List.map_nil]); first | done | rfl | (simp only [List.length_drop, List.length_take]; rfl)) ?_; (with_reducible refine (q08_sizes.calls k a0_0 a0_1 a0_2 a0_3 a0_4 a0_5 a0_6 a0_7 _ _ l0_8 20 t370 t371 t372 _ ?side1 ?side2 A2.out).mono ?_); (case side1 => repeat (first | exact (Kd.C_below HR0_8.out HB.out) | (with_reducible refine Kd.C_alloc ?_ _) | (with_reducible refine Kd.C_drewN ?_ _) | (with_reducible refine Kd.C_drew ?_))); (case side2 => exact HC0_8.out); rintro e w5 ⟨rfl, hb⟩; refine ⟨_, rfl, ?_⟩; have n0_ := Asd.mk (blk_below (g := gb369) (o := .cells #[.int .i64 a0_0, .int .i64 a0_1, .int .i64 a0_2, .string a0_3, .int .i64 a0_4, .int .i64 a0_5, .int .i64 a0_6, .string a0_7, .slice A0_8 l0_8.length c0_8] 26 (0, 0)) (by (with_reducible repeat (first | refine bkN ?_ _ | refine bkD ?_ | refine bkA ?_ _)); exact BK369.out) hb); have n1_ := Asd.mk (below_step (by repeat (first | (with_reducible first | exact HB.out | apply blA | apply pbN | apply blD | refine blS ?_ GE369.out) | exact HB.out)) hb); clear BK369; clear HB; have BK369 := n0_; have HB := n1_; clear n0_ n1_; (try clear hb); (try clear hb2); (try clear hk); (try clear hi)))
 go_ret
 exact ⟨by first | rfl | (simp [errW_none, errW_some] <;> rfl) | (simp [*, errW_none, errW_some] <;> rfl), by repeat (first | (with_reducible first | exact HB.out | apply blA | apply pbN | apply blD | refine blS ?_ GE369.out) | exact HB.out)⟩
end Go.Proofs.YtkboodfnegedaaaDoor.E
namespace Go.Proofs.YtkboodfnegedaaaDoor.E
open Go.RowKit Go.Proofs.YtkboodfnegedaaaDoorW.PrintWords Go.Proofs.YtkboodfnegedaaaDoorW.PrintLast Go.Proofs.YtkboodfnegedaaaDoorW.PrintMore
attribute [local go_sem] max2_int min2_int max_two min_two max_three min_three max_four min_four   -- for this text's walks alone
set_option linter.unusedVariables false
set_option linter.unusedSimpArgs false
def expr_at_int.j0 : Nat → List (List Int) → List Int → Int → Bool → Int → Int → Int → ByteArray → Int → Int → Int → ByteArray → List (S26) → Option (Int × Bool)
 | 0, _, _, _, _, _, _, _, _, _, _, _, _, _ => none
 | k + 1, x1, x2, x6, x8, x107000, x107001, x107002, x107003, x107004, x107005, x107006, x107007, x107008 => if x8 = true then (if 0 ≤ x107004 then (if x107004 < (x1.length : Int) then (if 0 ≤ x107005 then (if x107005 < ((rd_L4 x1 x107004).length : Int) then (some (rd (rd_L4 x1 x107004) x107005, true)) else (none)) else (none)) else (none)) else (none)) else (if x107000 = 3 then (if x107006 ≤ (x2.length : Int) then (if 0 ≤ (wrap64 (x107006 - 1)) then (if (wrap64 (x107006 - 1)) < (x2.length : Int) then (some (rd x2 (wrap64 (x107006 - 1)), true)) else (none)) else (none)) else (if x107000 = 2 then (some (x6, false)) else (some (x6, (x107000 != 3))))) else (if x107000 = 2 then (some (x6, false)) else (some (x6, (x107000 != 3)))))
def expr_at_int.f (k : Nat) (a0_0 : Int) (a0_1 : Int) (a0_2 : Int) (a0_3 : ByteArray) (a0_4 : Int) (a0_5 : Int) (a0_6 : Int) (a0_7 : ByteArray) (l0_8 : List (S26)) (l1 : List (List Int)) (l2 : List Int) : Option (Int × Bool) := if a0_0 = 2 then (if a0_4 < (l1.length : Int) then (if 0 ≤ a0_4 then (expr_at_int.j0 k l1 l2 0 (decide (a0_5 < ((rd_L4 l1 a0_4).length : Int))) a0_0 a0_1 a0_2 a0_3 a0_4 a0_5 a0_6 a0_7 l0_8) else (none)) else (expr_at_int.j0 k l1 l2 0 false a0_0 a0_1 a0_2 a0_3 a0_4 a0_5 a0_6 a0_7 l0_8)) else (expr_at_int.j0 k l1 l2 0 false a0_0 a0_1 a0_2 a0_3 a0_4 a0_5 a0_6 a0_7 l0_8)
set_option maxHeartbeats 8000000 in
set_option maxRecDepth 100000 in
theorem expr_at_int.calls (k : Nat) (a0_0 : Int) (a0_1 : Int) (a0_2 : Int) (a0_3 : ByteArray) (a0_4 : Int) (a0_5 : Int) (a0_6 : Int) (a0_7 : ByteArray) (A0_8 : Option Addr) (c0_8 : Nat) (l0_8 : List (S26)) (A1 : Option Addr) (c1 : Nat) (l1 : List (List Int)) (A2 : Option Addr) (c2 : Nat) (l2 : List Int) (r1 : Int) (r2 : Bool) (w : World) (hr0_8 : Kd.C k26 w A0_8 l0_8.length l0_8) (hc0_8 : l0_8.length ≤ c0_8) (hr1 : Kd.C (Kd.slice 3 (Kd.int .i64)) w A1 l1.length l1) (hc1 : l1.length ≤ c1) (hr2 : Kd.C (Kd.int .i64) w A2 l2.length l2) (hc2 : l2.length ≤ c2) (h : expr_at_int.f k a0_0 a0_1 a0_2 a0_3 a0_4 a0_5 a0_6 a0_7 l0_8 l1 l2 = some (r1, r2)) :
  Calls Tryd.prog 37 #[.agg #[.int .i64 a0_0, .int .i64 a0_1, .int .i64 a0_2, .string a0_3, .int .i64 a0_4, .int .i64 a0_5, .int .i64 a0_6, .string a0_7, .slice A0_8 l0_8.length c0_8], .slice A1 l1.length c1, .slice A2 l2.length c2] w fun e w' => e = .returned (.tuple #[.int .i64 r1, .bool r2]) ∧ Below w.heap.size w w' := by
 have hu26 := Tryd.underlying26
 have HR0_8 := Asd.mk hr0_8
 have HC0_8 := Asd.mk hc0_8
 clear hr0_8 hc0_8
 have HR1 := Asd.mk hr1
 have HC1 := Asd.mk hc1
 clear hr1 hc1
 have HR2 := Asd.mk hr2
 have HC2 := Asd.mk hc2
 clear hr2 hc2
 have HB := Asd.mk (Below.refl w.heap.size w)
 have H : (if a0_0 = 2 then (if a0_4 < (l1.length : Int) then (if 0 ≤ a0_4 then (expr_at_int.j0 k l1 l2 0 (decide (a0_5 < ((rd_L4 l1 a0_4).length : Int))) a0_0 a0_1 a0_2 a0_3 a0_4 a0_5 a0_6 a0_7 l0_8) else (none)) else (expr_at_int.j0 k l1 l2 0 false a0_0 a0_1 a0_2 a0_3 a0_4 a0_5 a0_6 a0_7 l0_8)) else (expr_at_int.j0 k l1 l2 0 false a0_0 a0_1 a0_2 a0_3 a0_4 a0_5 a0_6 a0_7 l0_8)) = some (r1, r2) := h
 clear h
 have HC4 := Asd.mk H
 clear H
 go_enter Tryd.func37, Tryd.ntmps37
 go_upto_region 1 with (first | ((with_reducible refine gate_dst (N := 3) rfl ?_); (try (refine gate_guard (by rfl) ?_; dsimp only)); refine box_event ?hg (N := 3) ?hd (cs := #[.int .i64 a0_0, .int .i64 a0_1, .int .i64 a0_2, .string a0_3, .int .i64 a0_4, .int .i64 a0_5, .int .i64 a0_6, .string a0_7, .slice A0_8 l0_8.length c0_8]) (t := 26) ?hr ?_; (case hd => rfl); (case hg => rfl); (case hr => first | (go_simp; done) | (go_simp; rfl)); intro gb106 hg w5 hbox hb; have n0_ := Asd.mk (below_step (by repeat (first | (with_reducible first | exact HB.out | apply blA | apply pbN | apply blD) | exact HB.out)) hb); have n1_ := Asd.mk (hbox); have n2_ := Asd.mk ((by rw [hg]; exact (below_size (by repeat (first | (with_reducible first | exact HB.out | apply blA | apply pbN | apply blD) | exact HB.out))) : w.heap.size ≤ gb106)); have n3_ := Asd.mk ((by rw [hg]; exact (below_size (by repeat (first | (with_reducible first | exact HB.out | apply blA | apply pbN | apply blD) | exact HB.out))) : w.heap.size ≤ gb106)); clear HB; have HB := n0_; have BK106 := n1_; have GW106 := n2_; have GE106 := n3_; clear n0_ n1_ n2_ n3_; clear hb hbox hg))
 repeat (go_quiet (first | ((with_reducible refine gate_dst (N := 3) rfl ?_); (try (refine gate_guard (by rfl) ?_; dsimp only)); refine box_event ?hg (N := 3) ?hd (cs := #[.int .i64 a0_0, .int .i64 a0_1, .int .i64 a0_2, .string a0_3, .int .i64 a0_4, .int .i64 a0_5, .int .i64 a0_6, .string a0_7, .slice A0_8 l0_8.length c0_8]) (t := 26) ?hr ?_; (case hd => rfl); (case hg => rfl); (case hr => first | (go_simp; done) | (go_simp; rfl)); intro gb106 hg w5 hbox hb; have n0_ := Asd.mk (below_step (by repeat (first | (with_reducible first | exact HB.out | apply blA | apply pbN | apply blD) | exact HB.out)) hb); have n1_ := Asd.mk (hbox); have n2_ := Asd.mk ((by rw [hg]; exact (below_size (by repeat (first | (with_reducible first | exact HB.out | apply blA | apply pbN | apply blD) | exact HB.out))) : w.heap.size ≤ gb106)); have n3_ := Asd.mk ((by rw [hg]; exact (below_size (by repeat (first | (with_reducible first | exact HB.out | apply blA | apply pbN | apply blD) | exact HB.out))) : w.heap.size ≤ gb106)); clear HB; have HB := n0_; have BK106 := n1_; have GW106 := n2_; have GE106 := n3_; clear n0_ n1_ n2_ n3_; clear hb hbox hg)); go_upto_region 1 with (first | ((with_reducible refine gate_dst (N := 3) rfl ?_); (try (refine gate_guard (by rfl) ?_; dsimp only)); refine box_event ?hg (N := 3) ?hd (cs := #[.int .i64 a0_0, .int .i64 a0_1, .int .i64 a0_2, .string a0_3, .int .i64 a0_4, .int .i64 a0_5, .int .i64 a0_6, .string a0_7, .slice A0_8 l0_8.length c0_8]) (t := 26) ?hr ?_; (case hd => rfl); (case hg => rfl); (case hr => first | (go_simp; done) | (go_simp; rfl)); intro gb106 hg w5 hbox hb; have n0_ := Asd.mk (below_step (by repeat (first | (with_reducible first | exact HB.out | apply blA | apply pbN | apply blD) | exact HB.out)) hb); have n1_ := Asd.mk (hbox); have n2_ := Asd.mk ((by rw [hg]; exact (below_size (by repeat (first | (with_reducible first | exact HB.out | apply blA | apply pbN | apply blD) | exact HB.out))) : w.heap.size ≤ gb106)); have n3_ := Asd.mk ((by rw [hg]; exact (below_size (by repeat (first | (with_reducible first | exact HB.out | apply blA | apply pbN | apply blD) | exact HB.out))) : w.heap.size ≤ gb106)); clear HB; have HB := n0_; have BK106 := n1_; have GW106 := n2_; have GE106 := n3_; clear n0_ n1_ n2_ n3_; clear hb hbox hg)))
 (try simp only [Act.put, List.setIfInBounds_toArray, List.set_cons_zero, List.set_cons_succ])
 go_cut [8] (fun v8 wc => ∃ (kq : Nat) (x8_3 : Bool), v8 = .bool x8_3 ∧ Asd (expr_at_int.j0 kq l1 l2 0 x8_3 a0_0 a0_1 a0_2 a0_3 a0_4 a0_5 a0_6 a0_7 l0_8 = some (r1, r2)) ∧ Asd (kq ≤ k) ∧ Asd (wc.heap[gb106]? = some (.cells #[.int .i64 a0_0, .int .i64 a0_1, .int .i64 a0_2, .string a0_3, .int .i64 a0_4, .int .i64 a0_5, .int .i64 a0_6, .string a0_7, (.slice A0_8 l0_8.length c0_8)] 26 (0, 0))) ∧ Asd (Below w.heap.size w wc))
 case first =>
  have H := HC4.out
  clear HC4
  by_cases c6 : a0_0 = 2
  ·rw [if_pos c6] at H
   have c6b0 : (a0_0 == 2) = true := beq_iff_eq.mpr c6
   have c6b1 : (a0_0 != 2) = false := bne_eq_false_iff_eq.mpr c6
   clear c6
   (first | rw [c6b0] | (simp only [i64_w, i32_w]; rw [c6b0]) | skip)
   by_cases c7 : a0_4 < (l1.length : Int)
   ·rw [if_pos c7] at H
    have c7b0 : decide (a0_4 < (l1.length : Int)) = true := decide_eq_true c7
    clear c7
    by_cases c8 : 0 ≤ a0_4
    ·rw [if_pos c8] at H
     have c8b0 : decide (0 ≤ a0_4) = true := decide_eq_true c8
     clear c8
     have H' := Asd.mk H
     clear H
     have hcz9_0 : w5.cell? ⟨gb106, 0, none⟩ = some (.int .i64 a0_0) := (bkC BK106.out 0).trans rfl
     have hcz9_1 : w5.cell? ⟨gb106, 1, none⟩ = some (.int .i64 a0_1) := (bkC BK106.out 1).trans rfl
     have hcz9_2 : w5.cell? ⟨gb106, 2, none⟩ = some (.int .i64 a0_2) := (bkC BK106.out 2).trans rfl
     have hcz9_3 : w5.cell? ⟨gb106, 3, none⟩ = some (.string a0_3) := (bkC BK106.out 3).trans rfl
     have hcz9_4 : w5.cell? ⟨gb106, 4, none⟩ = some (.int .i64 a0_4) := (bkC BK106.out 4).trans rfl
     have hcz9_5 : w5.cell? ⟨gb106, 5, none⟩ = some (.int .i64 a0_5) := (bkC BK106.out 5).trans rfl
     have hcz9_6 : w5.cell? ⟨gb106, 6, none⟩ = some (.int .i64 a0_6) := (bkC BK106.out 6).trans rfl
     have hcz9_7 : w5.cell? ⟨gb106, 7, none⟩ = some (.string a0_7) := (bkC BK106.out 7).trans rfl
     have hcz9_8 : w5.cell? ⟨gb106, 8, none⟩ = some (.slice A0_8 l0_8.length c0_8) := (bkC BK106.out 8).trans rfl
     have hfz9_0 := bkF BK106.out 0
     have hfz9_1 := bkF BK106.out 1
     have hfz9_2 := bkF BK106.out 2
     have hfz9_3 := bkF BK106.out 3
     have hfz9_4 := bkF BK106.out 4
     have hfz9_5 := bkF BK106.out 5
     have hfz9_6 := bkF BK106.out 6
     have hfz9_7 := bkF BK106.out 7
     have hfz9_8 := bkF BK106.out 8
     have p107 : 0 ≤ (a0_4 : Int) := of_decide_eq_true (by first | (with_reducible assumption) | assumption)
     have q107 : a0_4 < (l1.length : Int) := of_decide_eq_true (by first | (with_reducible assumption) | assumption)
     obtain ⟨ad107, A107_0, c107_0, e107, hx107_0, hl107_0, hi107_0⟩ := at_L4 HR1.out a0_4 p107 q107
     cases e107
     replace hx107_0 := (HB.out.cell (World.block_lt_of_cell? w _ hx107_0)).trans hx107_0
     have HR107_0 := Asd.mk hi107_0
     have HC107_0 := Asd.mk hl107_0
     clear hi107_0 hl107_0
     replace p107 := eq_true p107
     replace q107 := eq_true q107
     go_wp2
     repeat (go_quiet (fail); try go_wp2)
     go_meet
     case rel => exact ⟨_, (decide (a0_5 < ((rd_L4 l1 a0_4).length : Int))), (by first | rfl | (simp; done) | (simp [*]; done)), H', ⟨by first | omega | exact Nat.le_refl _⟩, ⟨by (with_reducible repeat (first | refine bkN ?_ _ | refine bkD ?_ | refine bkA ?_ _)); exact BK106.out⟩, ⟨by repeat (first | (with_reducible first | exact HB.out | apply blA | apply pbN | apply blD | refine blS ?_ GE106.out) | exact HB.out)⟩⟩
    ·rw [if_neg c8] at H
     exact absurd H (by simp)
   ·rw [if_neg c7] at H
    have c7b0 : decide (a0_4 < (l1.length : Int)) = false := decide_eq_false c7
    clear c7
    have H' := Asd.mk H
    clear H
    have hcz10_0 : w5.cell? ⟨gb106, 0, none⟩ = some (.int .i64 a0_0) := (bkC BK106.out 0).trans rfl
    have hcz10_1 : w5.cell? ⟨gb106, 1, none⟩ = some (.int .i64 a0_1) := (bkC BK106.out 1).trans rfl
    have hcz10_2 : w5.cell? ⟨gb106, 2, none⟩ = some (.int .i64 a0_2) := (bkC BK106.out 2).trans rfl
    have hcz10_3 : w5.cell? ⟨gb106, 3, none⟩ = some (.string a0_3) := (bkC BK106.out 3).trans rfl
    have hcz10_4 : w5.cell? ⟨gb106, 4, none⟩ = some (.int .i64 a0_4) := (bkC BK106.out 4).trans rfl
    have hcz10_5 : w5.cell? ⟨gb106, 5, none⟩ = some (.int .i64 a0_5) := (bkC BK106.out 5).trans rfl
    have hcz10_6 : w5.cell? ⟨gb106, 6, none⟩ = some (.int .i64 a0_6) := (bkC BK106.out 6).trans rfl
    have hcz10_7 : w5.cell? ⟨gb106, 7, none⟩ = some (.string a0_7) := (bkC BK106.out 7).trans rfl
    have hcz10_8 : w5.cell? ⟨gb106, 8, none⟩ = some (.slice A0_8 l0_8.length c0_8) := (bkC BK106.out 8).trans rfl
    have hfz10_0 := bkF BK106.out 0
    have hfz10_1 := bkF BK106.out 1
    have hfz10_2 := bkF BK106.out 2
    have hfz10_3 := bkF BK106.out 3
    have hfz10_4 := bkF BK106.out 4
    have hfz10_5 := bkF BK106.out 5
    have hfz10_6 := bkF BK106.out 6
    have hfz10_7 := bkF BK106.out 7
    have hfz10_8 := bkF BK106.out 8
    go_wp2
    repeat (go_quiet (fail); try go_wp2)
    go_meet
    case rel => exact ⟨_, (false), (by first | rfl | (simp; done) | (simp [*]; done)), H', ⟨by first | omega | exact Nat.le_refl _⟩, ⟨by (with_reducible repeat (first | refine bkN ?_ _ | refine bkD ?_ | refine bkA ?_ _)); exact BK106.out⟩, ⟨by repeat (first | (with_reducible first | exact HB.out | apply blA | apply pbN | apply blD | refine blS ?_ GE106.out) | exact HB.out)⟩⟩
  ·rw [if_neg c6] at H
   have c6b0 : (a0_0 == 2) = false := beq_eq_false_iff_ne.mpr c6
   have c6b1 : (a0_0 != 2) = true := bne_iff_ne.mpr c6
   (first | rw [c6b0] | (simp only [i64_w, i32_w]; rw [c6b0]) | skip)
   have H' := Asd.mk H
   clear H
   have hcz11_0 : w5.cell? ⟨gb106, 0, none⟩ = some (.int .i64 a0_0) := (bkC BK106.out 0).trans rfl
   have hcz11_1 : w5.cell? ⟨gb106, 1, none⟩ = some (.int .i64 a0_1) := (bkC BK106.out 1).trans rfl
   have hcz11_2 : w5.cell? ⟨gb106, 2, none⟩ = some (.int .i64 a0_2) := (bkC BK106.out 2).trans rfl
   have hcz11_3 : w5.cell? ⟨gb106, 3, none⟩ = some (.string a0_3) := (bkC BK106.out 3).trans rfl
   have hcz11_4 : w5.cell? ⟨gb106, 4, none⟩ = some (.int .i64 a0_4) := (bkC BK106.out 4).trans rfl
   have hcz11_5 : w5.cell? ⟨gb106, 5, none⟩ = some (.int .i64 a0_5) := (bkC BK106.out 5).trans rfl
   have hcz11_6 : w5.cell? ⟨gb106, 6, none⟩ = some (.int .i64 a0_6) := (bkC BK106.out 6).trans rfl
   have hcz11_7 : w5.cell? ⟨gb106, 7, none⟩ = some (.string a0_7) := (bkC BK106.out 7).trans rfl
   have hcz11_8 : w5.cell? ⟨gb106, 8, none⟩ = some (.slice A0_8 l0_8.length c0_8) := (bkC BK106.out 8).trans rfl
   have hfz11_0 := bkF BK106.out 0
   have hfz11_1 := bkF BK106.out 1
   have hfz11_2 := bkF BK106.out 2
   have hfz11_3 := bkF BK106.out 3
   have hfz11_4 := bkF BK106.out 4
   have hfz11_5 := bkF BK106.out 5
   have hfz11_6 := bkF BK106.out 6
   have hfz11_7 := bkF BK106.out 7
   have hfz11_8 := bkF BK106.out 8
   go_wp2
   repeat (go_quiet (fail); try go_wp2)
   go_meet
   case rel => exact ⟨_, (false), (by first | rfl | (simp; done) | (simp [*]; done)), H', ⟨by first | omega | exact Nat.le_refl _⟩, ⟨by (with_reducible repeat (first | refine bkN ?_ _ | refine bkD ?_ | refine bkA ?_ _)); exact BK106.out⟩, ⟨by repeat (first | (with_reducible first | exact HB.out | apply blA | apply pbN | apply blD | refine blS ?_ GE106.out) | exact HB.out)⟩⟩
 case rest =>
  clear HC4
  try clear c1
  try clear p1
  try clear q1
  try clear hx1
  try clear c2
  try clear p2
  try clear c3
  try clear c6
  try clear c6b0
  try clear c6b1
  try clear c7
  try clear c7b0
  try clear c8
  try clear c8b0
  try clear c10
  try clear p10
  try clear q10
  try clear hx10
  try clear hcz10_0
  try clear hcz10_1
  try clear hcz10_2
  try clear hcz10_3
  try clear hcz10_4
  try clear hcz10_5
  try clear hcz10_6
  try clear hcz10_7
  try clear hcz10_8
  try clear hcz11_0
  try clear hcz11_1
  try clear hcz11_2
  try clear hcz11_3
  try clear hcz11_4
  try clear hcz11_5
  try clear hcz11_6
  try clear hcz11_7
  try clear hcz11_8
  try clear hcz9_0
  try clear hcz9_1
  try clear hcz9_2
  try clear hcz9_3
  try clear hcz9_4
  try clear hcz9_5
  try clear hcz9_6
  try clear hcz9_7
  try clear hcz9_8
  try clear hfz10_0
  try clear hfz10_1
  try clear hfz10_2
  try clear hfz10_3
  try clear hfz10_4
  try clear hfz10_5
  try clear hfz10_6
  try clear hfz10_7
  try clear hfz10_8
  try clear hfz11_0
  try clear hfz11_1
  try clear hfz11_2
  try clear hfz11_3
  try clear hfz11_4
  try clear hfz11_5
  try clear hfz11_6
  try clear hfz11_7
  try clear hfz11_8
  try clear hfz9_0
  try clear hfz9_1
  try clear hfz9_2
  try clear hfz9_3
  try clear hfz9_4
  try clear hfz9_5
  try clear hfz9_6
  try clear hfz9_7
  try clear hfz9_8
  try clear hx107_0
  try clear p107
  try clear q107
  obtain ⟨kq, x8_3, rfl, HA, HJ3, BK106, HB⟩ := hcut
  cases kq with
  | zero => exact absurd HA.out (by simp [expr_at_int.j0])
  | succ kj3 =>
   have H := HA.out
   clear HA
   simp only [expr_at_int.j0] at H
   by_cases c12 : x8_3 = true
   ·subst c12
    have H1 : (if 0 ≤ a0_4 then (if a0_4 < (l1.length : Int) then (if 0 ≤ a0_5 then (if a0_5 < ((rd_L4 l1 a0_4).length : Int) then (some (rd (rd_L4 l1 a0_4) a0_5, true)) else (none)) else (none)) else (none)) else (none)) = some (r1, r2) := by rw [if_pos rfl] at H; exact H
    clear H
    have H := H1
    clear H1
    by_cases c13 : 0 ≤ a0_4
    ·rw [if_pos c13] at H
     have c13b0 : decide (0 ≤ a0_4) = true := decide_eq_true c13
     clear c13
     by_cases c14 : a0_4 < (l1.length : Int)
     ·rw [if_pos c14] at H
      have c14b0 : decide (a0_4 < (l1.length : Int)) = true := decide_eq_true c14
      clear c14
      by_cases c15 : 0 ≤ a0_5
      ·rw [if_pos c15] at H
       have c15b0 : decide (0 ≤ a0_5) = true := decide_eq_true c15
       clear c15
       by_cases c16 : a0_5 < ((rd_L4 l1 a0_4).length : Int)
       ·rw [if_pos c16] at H
        have c16b0 : decide (a0_5 < ((rd_L4 l1 a0_4).length : Int)) = true := decide_eq_true c16
        clear c16
        simp only [Option.some.injEq, Prod.mk.injEq] at H
        obtain ⟨rfl, rfl⟩ := H
        have hcz17_0 : wc.cell? ⟨gb106, 0, none⟩ = some (.int .i64 a0_0) := (bkC BK106.out 0).trans rfl
        have hcz17_1 : wc.cell? ⟨gb106, 1, none⟩ = some (.int .i64 a0_1) := (bkC BK106.out 1).trans rfl
        have hcz17_2 : wc.cell? ⟨gb106, 2, none⟩ = some (.int .i64 a0_2) := (bkC BK106.out 2).trans rfl
        have hcz17_3 : wc.cell? ⟨gb106, 3, none⟩ = some (.string a0_3) := (bkC BK106.out 3).trans rfl
        have hcz17_4 : wc.cell? ⟨gb106, 4, none⟩ = some (.int .i64 a0_4) := (bkC BK106.out 4).trans rfl
        have hcz17_5 : wc.cell? ⟨gb106, 5, none⟩ = some (.int .i64 a0_5) := (bkC BK106.out 5).trans rfl
        have hcz17_6 : wc.cell? ⟨gb106, 6, none⟩ = some (.int .i64 a0_6) := (bkC BK106.out 6).trans rfl
        have hcz17_7 : wc.cell? ⟨gb106, 7, none⟩ = some (.string a0_7) := (bkC BK106.out 7).trans rfl
        have hcz17_8 : wc.cell? ⟨gb106, 8, none⟩ = some (.slice A0_8 l0_8.length c0_8) := (bkC BK106.out 8).trans rfl
        have hfz17_0 := bkF BK106.out 0
        have hfz17_1 := bkF BK106.out 1
        have hfz17_2 := bkF BK106.out 2
        have hfz17_3 := bkF BK106.out 3
        have hfz17_4 := bkF BK106.out 4
        have hfz17_5 := bkF BK106.out 5
        have hfz17_6 := bkF BK106.out 6
        have hfz17_7 := bkF BK106.out 7
        have hfz17_8 := bkF BK106.out 8
        have p108 : 0 ≤ (a0_4 : Int) := of_decide_eq_true (by first | (with_reducible assumption) | assumption)
        have q108 : a0_4 < (l1.length : Int) := of_decide_eq_true (by first | (with_reducible assumption) | assumption)
        obtain ⟨ad108, A108_0, c108_0, e108, hx108_0, hl108_0, hi108_0⟩ := at_L4 HR1.out a0_4 p108 q108
        cases e108
        replace hx108_0 := (HB.out.cell (World.block_lt_of_cell? w _ hx108_0)).trans hx108_0
        have HR108_0 := Asd.mk hi108_0
        have HC108_0 := Asd.mk hl108_0
        clear hi108_0 hl108_0
        replace p108 := eq_true p108
        replace q108 := eq_true q108
        have p109 : 0 ≤ (a0_5 : Int) := of_decide_eq_true (by first | (with_reducible assumption) | assumption)
        have q109 : a0_5 < ((rd_L4 l1 a0_4).length : Int) := of_decide_eq_true (by first | (with_reducible assumption) | assumption)
        obtain ⟨ad109, e109, hx109_0⟩ := Kd.at_int HR108_0.out a0_5 p109 q109
        cases e109
        replace hx109_0 := (HB.out.cell (World.block_lt_of_cell? w _ hx109_0)).trans hx109_0
        replace p109 := eq_true p109
        replace q109 := eq_true q109
        go_wp2
        repeat (go_quiet (fail); try go_wp2)
        go_ret2
        exact ⟨by first | rfl | (simp [errW_none, errW_some] <;> rfl) | (simp [*, errW_none, errW_some] <;> rfl), by repeat (first | (with_reducible first | exact HB.out | apply blA | apply pbN | apply blD | refine blS ?_ GE106.out) | exact HB.out)⟩
       ·rw [if_neg c16] at H
        exact absurd H (by simp)
      ·rw [if_neg c15] at H
       exact absurd H (by simp)
     ·rw [if_neg c14] at H
      exact absurd H (by simp)
    ·rw [if_neg c13] at H
     exact absurd H (by simp)
   ·replace c12 := Bool.eq_false_iff.mpr c12
    subst c12
    have H1 : (if a0_0 = 3 then (if a0_6 ≤ (l2.length : Int) then (if 0 ≤ (wrap64 (a0_6 - 1)) then (if (wrap64 (a0_6 - 1)) < (l2.length : Int) then (some (rd l2 (wrap64 (a0_6 - 1)), true)) else (none)) else (none)) else (if a0_0 = 2 then (some (0, false)) else (some (0, (a0_0 != 3))))) else (if a0_0 = 2 then (some (0, false)) else (some (0, (a0_0 != 3))))) = some (r1, r2) := by rw [if_neg (show ¬ (false = true) by decide)] at H; exact H
    clear H
    have H := H1
    clear H1
    by_cases c18 : a0_0 = 3
    ·rw [if_pos c18] at H
     have c18b0 : (a0_0 == 3) = true := beq_iff_eq.mpr c18
     have c18b1 : (a0_0 != 3) = false := bne_eq_false_iff_eq.mpr c18
     clear c18
     by_cases c19 : a0_6 ≤ (l2.length : Int)
     ·rw [if_pos c19] at H
      have c19b0 : decide (a0_6 ≤ (l2.length : Int)) = true := decide_eq_true c19
      clear c19
      obtain ⟨ji20, hji20⟩ : ∃ j_ : Int, (wrap64 (a0_6 - 1)) = j_ := ⟨_, rfl⟩
      replace H : (if 0 ≤ (ji20) then (if (ji20) < (l2.length : Int) then (some (rd l2 (ji20), true)) else (none)) else (none)) = some (r1, r2) := by first | (rw [hji20] at H; exact H) | (simp only [hji20] at H ⊢; exact H)
      have hji20w : (IntKind.i64.wrap (a0_6 - 1)) = ji20 := (i64_w _).trans hji20
      by_cases c21 : 0 ≤ (ji20)
      ·rw [if_pos c21] at H
       have c21b0 : decide (0 ≤ (ji20)) = true := decide_eq_true c21
       clear c21
       by_cases c22 : (ji20) < (l2.length : Int)
       ·rw [if_pos c22] at H
        have c22b0 : decide ((ji20) < (l2.length : Int)) = true := decide_eq_true c22
        clear c22
        simp only [Option.some.injEq, Prod.mk.injEq] at H
        obtain ⟨rfl, rfl⟩ := H
        have hcz23_0 : wc.cell? ⟨gb106, 0, none⟩ = some (.int .i64 a0_0) := (bkC BK106.out 0).trans rfl
        have hcz23_1 : wc.cell? ⟨gb106, 1, none⟩ = some (.int .i64 a0_1) := (bkC BK106.out 1).trans rfl
        have hcz23_2 : wc.cell? ⟨gb106, 2, none⟩ = some (.int .i64 a0_2) := (bkC BK106.out 2).trans rfl
        have hcz23_3 : wc.cell? ⟨gb106, 3, none⟩ = some (.string a0_3) := (bkC BK106.out 3).trans rfl
        have hcz23_4 : wc.cell? ⟨gb106, 4, none⟩ = some (.int .i64 a0_4) := (bkC BK106.out 4).trans rfl
        have hcz23_5 : wc.cell? ⟨gb106, 5, none⟩ = some (.int .i64 a0_5) := (bkC BK106.out 5).trans rfl
        have hcz23_6 : wc.cell? ⟨gb106, 6, none⟩ = some (.int .i64 a0_6) := (bkC BK106.out 6).trans rfl
        have hcz23_7 : wc.cell? ⟨gb106, 7, none⟩ = some (.string a0_7) := (bkC BK106.out 7).trans rfl
        have hcz23_8 : wc.cell? ⟨gb106, 8, none⟩ = some (.slice A0_8 l0_8.length c0_8) := (bkC BK106.out 8).trans rfl
        have hfz23_0 := bkF BK106.out 0
        have hfz23_1 := bkF BK106.out 1
        have hfz23_2 := bkF BK106.out 2
        have hfz23_3 := bkF BK106.out 3
        have hfz23_4 := bkF BK106.out 4
        have hfz23_5 := bkF BK106.out 5
        have hfz23_6 := bkF BK106.out 6
        have hfz23_7 := bkF BK106.out 7
        have hfz23_8 := bkF BK106.out 8
        have p110 : 0 ≤ ((ji20) : Int) := of_decide_eq_true (by first | (with_reducible assumption) | assumption)
        have q110 : (ji20) < (l2.length : Int) := of_decide_eq_true (by first | (with_reducible assumption) | assumption)
        obtain ⟨ad110, e110, hx110_0⟩ := Kd.at_int HR2.out (ji20) p110 q110
        cases e110
        replace hx110_0 := (HB.out.cell (World.block_lt_of_cell? w _ hx110_0)).trans hx110_0
        replace p110 := eq_true p110
        replace q110 := eq_true q110
        go_wp2
        repeat (go_quiet (fail); try go_wp2)
        go_ret2
        exact ⟨by first | rfl | (simp [errW_none, errW_some] <;> rfl) | (simp only [← hji20]; first | rfl | (simp [errW_none, errW_some] <;> rfl)) | (simp [*, errW_none, errW_some] <;> rfl), by repeat (first | (with_reducible first | exact HB.out | apply blA | apply pbN | apply blD | refine blS ?_ GE106.out) | exact HB.out)⟩
       ·rw [if_neg c22] at H
        exact absurd H (by simp)
      ·rw [if_neg c21] at H
       exact absurd H (by simp)
     ·rw [if_neg c19] at H
      have c19b0 : decide (a0_6 ≤ (l2.length : Int)) = false := decide_eq_false c19
      clear c19
      by_cases c24 : a0_0 = 2
      ·rw [if_pos c24] at H
       have c24b0 : (a0_0 == 2) = true := beq_iff_eq.mpr c24
       have c24b1 : (a0_0 != 2) = false := bne_eq_false_iff_eq.mpr c24
       clear c24
       simp only [Option.some.injEq, Prod.mk.injEq] at H
       obtain ⟨rfl, rfl⟩ := H
       have hcz25_0 : wc.cell? ⟨gb106, 0, none⟩ = some (.int .i64 a0_0) := (bkC BK106.out 0).trans rfl
       have hcz25_1 : wc.cell? ⟨gb106, 1, none⟩ = some (.int .i64 a0_1) := (bkC BK106.out 1).trans rfl
       have hcz25_2 : wc.cell? ⟨gb106, 2, none⟩ = some (.int .i64 a0_2) := (bkC BK106.out 2).trans rfl
       have hcz25_3 : wc.cell? ⟨gb106, 3, none⟩ = some (.string a0_3) := (bkC BK106.out 3).trans rfl
       have hcz25_4 : wc.cell? ⟨gb106, 4, none⟩ = some (.int .i64 a0_4) := (bkC BK106.out 4).trans rfl
       have hcz25_5 : wc.cell? ⟨gb106, 5, none⟩ = some (.int .i64 a0_5) := (bkC BK106.out 5).trans rfl
       have hcz25_6 : wc.cell? ⟨gb106, 6, none⟩ = some (.int .i64 a0_6) := (bkC BK106.out 6).trans rfl
       have hcz25_7 : wc.cell? ⟨gb106, 7, none⟩ = some (.string a0_7) := (bkC BK106.out 7).trans rfl
       have hcz25_8 : wc.cell? ⟨gb106, 8, none⟩ = some (.slice A0_8 l0_8.length c0_8) := (bkC BK106.out 8).trans rfl
       have hfz25_0 := bkF BK106.out 0
       have hfz25_1 := bkF BK106.out 1
       have hfz25_2 := bkF BK106.out 2
       have hfz25_3 := bkF BK106.out 3
       have hfz25_4 := bkF BK106.out 4
       have hfz25_5 := bkF BK106.out 5
       have hfz25_6 := bkF BK106.out 6
       have hfz25_7 := bkF BK106.out 7
       have hfz25_8 := bkF BK106.out 8
       go_wp2
       repeat (go_quiet (fail); try go_wp2)
       go_ret2
       exact ⟨by first | rfl | (simp [errW_none, errW_some] <;> rfl) | (simp [*, errW_none, errW_some] <;> rfl), by repeat (first | (with_reducible first | exact HB.out | apply blA | apply pbN | apply blD | refine blS ?_ GE106.out) | exact HB.out)⟩
      ·rw [if_neg c24] at H
       have c24b0 : (a0_0 == 2) = false := beq_eq_false_iff_ne.mpr c24
       have c24b1 : (a0_0 != 2) = true := bne_iff_ne.mpr c24
       simp only [Option.some.injEq, Prod.mk.injEq] at H
       obtain ⟨rfl, rfl⟩ := H
       have hcz26_0 : wc.cell? ⟨gb106, 0, none⟩ = some (.int .i64 a0_0) := (bkC BK106.out 0).trans rfl
       have hcz26_1 : wc.cell? ⟨gb106, 1, none⟩ = some (.int .i64 a0_1) := (bkC BK106.out 1).trans rfl
       have hcz26_2 : wc.cell? ⟨gb106, 2, none⟩ = some (.int .i64 a0_2) := (bkC BK106.out 2).trans rfl
       have hcz26_3 : wc.cell? ⟨gb106, 3, none⟩ = some (.string a0_3) := (bkC BK106.out 3).trans rfl
       have hcz26_4 : wc.cell? ⟨gb106, 4, none⟩ = some (.int .i64 a0_4) := (bkC BK106.out 4).trans rfl
       have hcz26_5 : wc.cell? ⟨gb106, 5, none⟩ = some (.int .i64 a0_5) := (bkC BK106.out 5).trans rfl
       have hcz26_6 : wc.cell? ⟨gb106, 6, none⟩ = some (.int .i64 a0_6) := (bkC BK106.out 6).trans rfl
       have hcz26_7 : wc.cell? ⟨gb106, 7, none⟩ = some (.string a0_7) := (bkC BK106.out 7).trans rfl
       have hcz26_8 : wc.cell? ⟨gb106, 8, none⟩ = some (.slice A0_8 l0_8.length c0_8) := (bkC BK106.out 8).trans rfl
       have hfz26_0 := bkF BK106.out 0
       have hfz26_1 := bkF BK106.out 1
       have hfz26_2 := bkF BK106.out 2
       have hfz26_3 := bkF BK106.out 3
       have hfz26_4 := bkF BK106.out 4
       have hfz26_5 := bkF BK106.out 5
       have hfz26_6 := bkF BK106.out 6
       have hfz26_7 := bkF BK106.out 7
       have hfz26_8 := bkF BK106.out 8
       go_wp2
       repeat (go_quiet (fail); try go_wp2)
       go_ret2
       exact ⟨by first | rfl | (simp [errW_none, errW_some] <;> rfl) | (simp [*, errW_none, errW_some] <;> rfl), by repeat (first | (with_reducible first | exact HB.out | apply blA | apply pbN | apply blD | refine blS ?_ GE106.out) | exact HB.out)⟩
    ·rw [if_neg c18] at H
     have c18b0 : (a0_0 == 3) = false := beq_eq_false_iff_ne.mpr c18
     have c18b1 : (a0_0 != 3) = true := bne_iff_ne.mpr c18
     by_cases c27 : a0_0 = 2
     ·rw [if_pos c27] at H
      have c27b0 : (a0_0 == 2) = true := beq_iff_eq.mpr c27
      have c27b1 : (a0_0 != 2) = false := bne_eq_false_iff_eq.mpr c27
      clear c27
      simp only [Option.some.injEq, Prod.mk.injEq] at H
      obtain ⟨rfl, rfl⟩ := H
      have hcz28_0 : wc.cell? ⟨gb106, 0, none⟩ = some (.int .i64 a0_0) := (bkC BK106.out 0).trans rfl
      have hcz28_1 : wc.cell? ⟨gb106, 1, none⟩ = some (.int .i64 a0_1) := (bkC BK106.out 1).trans rfl
      have hcz28_2 : wc.cell? ⟨gb106, 2, none⟩ = some (.int .i64 a0_2) := (bkC BK106.out 2).trans rfl
      have hcz28_3 : wc.cell? ⟨gb106, 3, none⟩ = some (.string a0_3) := (bkC BK106.out 3).trans rfl
      have hcz28_4 : wc.cell? ⟨gb106, 4, none⟩ = some (.int .i64 a0_4) := (bkC BK106.out 4).trans rfl
      have hcz28_5 : wc.cell? ⟨gb106, 5, none⟩ = some (.int .i64 a0_5) := (bkC BK106.out 5).trans rfl
      have hcz28_6 : wc.cell? ⟨gb106, 6, none⟩ = some (.int .i64 a0_6) := (bkC BK106.out 6).trans rfl
      have hcz28_7 : wc.cell? ⟨gb106, 7, none⟩ = some (.string a0_7) := (bkC BK106.out 7).trans rfl
      have hcz28_8 : wc.cell? ⟨gb106, 8, none⟩ = some (.slice A0_8 l0_8.length c0_8) := (bkC BK106.out 8).trans rfl
      have hfz28_0 := bkF BK106.out 0
      have hfz28_1 := bkF BK106.out 1
      have hfz28_2 := bkF BK106.out 2
      have hfz28_3 := bkF BK106.out 3
      have hfz28_4 := bkF BK106.out 4
      have hfz28_5 := bkF BK106.out 5
      have hfz28_6 := bkF BK106.out 6
      have hfz28_7 := bkF BK106.out 7
      have hfz28_8 := bkF BK106.out 8
      go_wp2
      repeat (go_quiet (fail); try go_wp2)
      go_ret2
      exact ⟨by first | rfl | (simp [errW_none, errW_some] <;> rfl) | (simp [*, errW_none, errW_some] <;> rfl), by repeat (first | (with_reducible first | exact HB.out | apply blA | apply pbN | apply blD | refine blS ?_ GE106.out) | exact HB.out)⟩
     ·rw [if_neg c27] at H
      have c27b0 : (a0_0 == 2) = false := beq_eq_false_iff_ne.mpr c27
      have c27b1 : (a0_0 != 2) = true := bne_iff_ne.mpr c27
      simp only [Option.some.injEq, Prod.mk.injEq] at H
      obtain ⟨rfl, rfl⟩ := H
      have hcz29_0 : wc.cell? ⟨gb106, 0, none⟩ = some (.int .i64 a0_0) := (bkC BK106.out 0).trans rfl
      have hcz29_1 : wc.cell? ⟨gb106, 1, none⟩ = some (.int .i64 a0_1) := (bkC BK106.out 1).trans rfl
      have hcz29_2 : wc.cell? ⟨gb106, 2, none⟩ = some (.int .i64 a0_2) := (bkC BK106.out 2).trans rfl
      have hcz29_3 : wc.cell? ⟨gb106, 3, none⟩ = some (.string a0_3) := (bkC BK106.out 3).trans rfl
      have hcz29_4 : wc.cell? ⟨gb106, 4, none⟩ = some (.int .i64 a0_4) := (bkC BK106.out 4).trans rfl
      have hcz29_5 : wc.cell? ⟨gb106, 5, none⟩ = some (.int .i64 a0_5) := (bkC BK106.out 5).trans rfl
      have hcz29_6 : wc.cell? ⟨gb106, 6, none⟩ = some (.int .i64 a0_6) := (bkC BK106.out 6).trans rfl
      have hcz29_7 : wc.cell? ⟨gb106, 7, none⟩ = some (.string a0_7) := (bkC BK106.out 7).trans rfl
      have hcz29_8 : wc.cell? ⟨gb106, 8, none⟩ = some (.slice A0_8 l0_8.length c0_8) := (bkC BK106.out 8).trans rfl
      have hfz29_0 := bkF BK106.out 0
      have hfz29_1 := bkF BK106.out 1
      have hfz29_2 := bkF BK106.out 2
      have hfz29_3 := bkF BK106.out 3
      have hfz29_4 := bkF BK106.out 4
      have hfz29_5 := bkF BK106.out 5
      have hfz29_6 := bkF BK106.out 6
      have hfz29_7 := bkF BK106.out 7
      have hfz29_8 := bkF BK106.out 8
      go_wp2
      repeat (go_quiet (fail); try go_wp2)
      go_ret2
      exact ⟨by first | rfl | (simp [errW_none, errW_some] <;> rfl) | (simp [*, errW_none, errW_some] <;> rfl), by repeat (first | (with_reducible first | exact HB.out | apply blA | apply pbN | apply blD | refine blS ?_ GE106.out) | exact HB.out)⟩
end Go.Proofs.YtkboodfnegedaaaDoor.E
namespace Go.Proofs.YtkboodfnegedaaaDoor.E
open Go.RowKit Go.Proofs.YtkboodfnegedaaaDoorW.PrintWords Go.Proofs.YtkboodfnegedaaaDoorW.PrintLast Go.Proofs.YtkboodfnegedaaaDoorW.PrintMore
attribute [local go_sem] max2_int min2_int max_two min_two max_three min_three max_four min_four   -- for this text's walks alone
set_option linter.unusedVariables false
set_option linter.unusedSimpArgs false
mutual
def q08_known.j0 : Nat → List (List Int) → List Int → Int → Int → Int → Int → ByteArray → Int → Int → Int → ByteArray → List (S26) → Option (Bool)
 | 0, _, _, _, _, _, _, _, _, _, _, _, _ => none
 | k + 1, x1, x2, x7, x443000, x443001, x443002, x443003, x443004, x443005, x443006, x443007, x443008 => if x7 < 0 then (q08_known.j1 k x1 x2 true x443000 x443001 x443002 x443003 x443004 x443005 x443006 x443007 x443008) else (q08_known.j1 k x1 x2 (decide (x7 > 3)) x443000 x443001 x443002 x443003 x443004 x443005 x443006 x443007 x443008)
def q08_known.j1 : Nat → List (List Int) → List Int → Bool → Int → Int → Int → ByteArray → Int → Int → Int → ByteArray → List (S26) → Option (Bool)
 | 0, _, _, _, _, _, _, _, _, _, _, _, _ => none
 | k + 1, x1, x2, x57, x443000, x443001, x443002, x443003, x443004, x443005, x443006, x443007, x443008 => if x57 = true then (some false) else (q08_known.l0 k x1 x2 0 x443000 x443001 x443002 x443003 x443004 x443005 x443006 x443007 x443008)
def q08_known.l0 : Nat → List (List Int) → List Int → Int → Int → Int → Int → ByteArray → Int → Int → Int → ByteArray → List (S26) → Option (Bool)
 | 0, _, _, _, _, _, _, _, _, _, _, _, _ => none
 | k + 1, x1, x2, x8, x443000, x443001, x443002, x443003, x443004, x443005, x443006, x443007, x443008 => if x8 < (x443008.length : Int) then (if 0 ≤ x8 then ((q08_known.f k ((rd_T26 x443008 x8).f0) ((rd_T26 x443008 x8).f1.f0) ((rd_T26 x443008 x8).f1.f1) ((rd_T26 x443008 x8).f1.f2) ((rd_T26 x443008 x8).f2) ((rd_T26 x443008 x8).f3) ((rd_T26 x443008 x8).f4) ((rd_T26 x443008 x8).f5) ((rd_T26 x443008 x8).f6) x1 x2).bind fun t448 => (if t448 = true then (q08_known.l0 k x1 x2 (wrap64 (x8 + 1)) x443000 x443001 x443002 x443003 x443004 x443005 x443006 x443007 x443008) else (some false))) else (none)) else (some true)
def q08_known.f : Nat → Int → Int → Int → ByteArray → Int → Int → Int → ByteArray → List (S26) → List (List Int) → List Int → Option (Bool)
 | 0, _, _, _, _, _, _, _, _, _, _, _ => none
 | k + 1, a0_0, a0_1, a0_2, a0_3, a0_4, a0_5, a0_6, a0_7, l0_8, l1, l2 => if a0_0 = 2 then (if a0_4 ≥ (l1.length : Int) then (some false) else (if 0 ≤ a0_4 then (if a0_4 < (l1.length : Int) then (if a0_5 ≥ ((rd_L4 l1 a0_4).length : Int) then (some false) else (if 0 ≤ a0_5 then (if a0_5 < ((rd_L4 l1 a0_4).length : Int) then (q08_known.j0 k l1 l2 (rd (rd_L4 l1 a0_4) a0_5) a0_0 a0_1 a0_2 a0_3 a0_4 a0_5 a0_6 a0_7 l0_8) else (none)) else (none))) else (none)) else (none))) else (if a0_0 = 3 then (if a0_6 > (l2.length : Int) then (some false) else (if 0 ≤ (wrap64 (a0_6 - 1)) then (if (wrap64 (a0_6 - 1)) < (l2.length : Int) then (q08_known.j0 k l1 l2 (rd l2 (wrap64 (a0_6 - 1))) a0_0 a0_1 a0_2 a0_3 a0_4 a0_5 a0_6 a0_7 l0_8) else (none)) else (none))) else (q08_known.j0 k l1 l2 0 a0_0 a0_1 a0_2 a0_3 a0_4 a0_5 a0_6 a0_7 l0_8))
end
set_option maxHeartbeats 8000000 in
set_option maxRecDepth 100000 in
theorem q08_known.calls (k : Nat) : ∀ (a0_0 : Int) (a0_1 : Int) (a0_2 : Int) (a0_3 : ByteArray) (a0_4 : Int) (a0_5 : Int) (a0_6 : Int) (a0_7 : ByteArray) (A0_8 : Option Addr) (c0_8 : Nat) (l0_8 : List (S26)) (A1 : Option Addr) (c1 : Nat) (l1 : List (List Int)) (A2 : Option Addr) (c2 : Nat) (l2 : List Int) (r : Bool) (w : World) (hr0_8 : Kd.C k26 w A0_8 l0_8.length l0_8) (hc0_8 : l0_8.length ≤ c0_8) (hr1 : Kd.C (Kd.slice 3 (Kd.int .i64)) w A1 l1.length l1) (hc1 : l1.length ≤ c1) (hr2 : Kd.C (Kd.int .i64) w A2 l2.length l2) (hc2 : l2.length ≤ c2) (h : q08_known.f k a0_0 a0_1 a0_2 a0_3 a0_4 a0_5 a0_6 a0_7 l0_8 l1 l2 = some r),
  Calls Tryd.prog 40 #[.agg #[.int .i64 a0_0, .int .i64 a0_1, .int .i64 a0_2, .string a0_3, .int .i64 a0_4, .int .i64 a0_5, .int .i64 a0_6, .string a0_7, .slice A0_8 l0_8.length c0_8], .slice A1 l1.length c1, .slice A2 l2.length c2] w fun e w' => e = .returned (.bool r) ∧ Below w.heap.size w w' := by
 induction k using Nat.strongRecOn with
 | _ k ih =>
 intro a0_0 a0_1 a0_2 a0_3 a0_4 a0_5 a0_6 a0_7 A0_8 c0_8 l0_8 A1 c1 l1 A2 c2 l2 r w hr0_8 hc0_8 hr1 hc1 hr2 hc2 h
 cases k with
 | zero => exact absurd h (by simp [q08_known.f])
 | succ k =>
 simp only [q08_known.f] at h
 have hu26 := Tryd.underlying26
 have HR0_8 := Asd.mk hr0_8
 have HC0_8 := Asd.mk hc0_8
 clear hr0_8 hc0_8
 have HR1 := Asd.mk hr1
 have HC1 := Asd.mk hc1
 clear hr1 hc1
 have HR2 := Asd.mk hr2
 have HC2 := Asd.mk hc2
 clear hr2 hc2
 have HB := Asd.mk (Below.refl w.heap.size w)
 have H : (if a0_0 = 2 then (if a0_4 ≥ (l1.length : Int) then (some false) else (if 0 ≤ a0_4 then (if a0_4 < (l1.length : Int) then (if a0_5 ≥ ((rd_L4 l1 a0_4).length : Int) then (some false) else (if 0 ≤ a0_5 then (if a0_5 < ((rd_L4 l1 a0_4).length : Int) then (q08_known.j0 k l1 l2 (rd (rd_L4 l1 a0_4) a0_5) a0_0 a0_1 a0_2 a0_3 a0_4 a0_5 a0_6 a0_7 l0_8) else (none)) else (none))) else (none)) else (none))) else (if a0_0 = 3 then (if a0_6 > (l2.length : Int) then (some false) else (if 0 ≤ (wrap64 (a0_6 - 1)) then (if (wrap64 (a0_6 - 1)) < (l2.length : Int) then (q08_known.j0 k l1 l2 (rd l2 (wrap64 (a0_6 - 1))) a0_0 a0_1 a0_2 a0_3 a0_4 a0_5 a0_6 a0_7 l0_8) else (none)) else (none))) else (q08_known.j0 k l1 l2 0 a0_0 a0_1 a0_2 a0_3 a0_4 a0_5 a0_6 a0_7 l0_8))) = some r := h
 clear h
 have HC4 := Asd.mk H
 clear H
 go_enter Tryd.func40, Tryd.ntmps40
 go_upto_block 0 with (first | ((with_reducible refine gate_dst (N := 3) rfl ?_); (try (refine gate_guard (by rfl) ?_; dsimp only)); refine box_event ?hg (N := 3) ?hd (cs := #[.int .i64 a0_0, .int .i64 a0_1, .int .i64 a0_2, .string a0_3, .int .i64 a0_4, .int .i64 a0_5, .int .i64 a0_6, .string a0_7, .slice A0_8 l0_8.length c0_8]) (t := 26) ?hr ?_; (case hd => rfl); (case hg => rfl); (case hr => first | (go_simp; done) | (go_simp; rfl)); intro gb442 hg w5 hbox hb; have n0_ := Asd.mk (below_step (by repeat (first | (with_reducible first | exact HB.out | apply blA | apply pbN | apply blD) | exact HB.out)) hb); have n1_ := Asd.mk (hbox); have n2_ := Asd.mk ((by rw [hg]; exact (below_size (by repeat (first | (with_reducible first | exact HB.out | apply blA | apply pbN | apply blD) | exact HB.out))) : w.heap.size ≤ gb442)); have n3_ := Asd.mk ((by rw [hg]; exact (below_size (by repeat (first | (with_reducible first | exact HB.out | apply blA | apply pbN | apply blD) | exact HB.out))) : w.heap.size ≤ gb442)); clear HB; have HB := n0_; have BK442 := n1_; have GW442 := n2_; have GE442 := n3_; clear n0_ n1_ n2_ n3_; clear hb hbox hg; have hcz6_0 : w5.cell? ⟨gb442, 0, none⟩ = some (.int .i64 a0_0) := (bkC BK442.out 0).trans rfl; have hcz6_1 : w5.cell? ⟨gb442, 1, none⟩ = some (.int .i64 a0_1) := (bkC BK442.out 1).trans rfl; have hcz6_2 : w5.cell? ⟨gb442, 2, none⟩ = some (.int .i64 a0_2) := (bkC BK442.out 2).trans rfl; have hcz6_3 : w5.cell? ⟨gb442, 3, none⟩ = some (.string a0_3) := (bkC BK442.out 3).trans rfl; have hcz6_4 : w5.cell? ⟨gb442, 4, none⟩ = some (.int .i64 a0_4) := (bkC BK442.out 4).trans rfl; have hcz6_5 : w5.cell? ⟨gb442, 5, none⟩ = some (.int .i64 a0_5) := (bkC BK442.out 5).trans rfl; have hcz6_6 : w5.cell? ⟨gb442, 6, none⟩ = some (.int .i64 a0_6) := (bkC BK442.out 6).trans rfl; have hcz6_7 : w5.cell? ⟨gb442, 7, none⟩ = some (.string a0_7) := (bkC BK442.out 7).trans rfl; have hcz6_8 : w5.cell? ⟨gb442, 8, none⟩ = some (.slice A0_8 l0_8.length c0_8) := (bkC BK442.out 8).trans rfl; have hfz6_0 := bkF BK442.out 0; have hfz6_1 := bkF BK442.out 1; have hfz6_2 := bkF BK442.out 2; have hfz6_3 := bkF BK442.out 3; have hfz6_4 := bkF BK442.out 4; have hfz6_5 := bkF BK442.out 5; have hfz6_6 := bkF BK442.out 6; have hfz6_7 := bkF BK442.out 7; have hfz6_8 := bkF BK442.out 8))
 repeat (go_quiet (first | ((with_reducible refine gate_dst (N := 3) rfl ?_); (try (refine gate_guard (by rfl) ?_; dsimp only)); refine box_event ?hg (N := 3) ?hd (cs := #[.int .i64 a0_0, .int .i64 a0_1, .int .i64 a0_2, .string a0_3, .int .i64 a0_4, .int .i64 a0_5, .int .i64 a0_6, .string a0_7, .slice A0_8 l0_8.length c0_8]) (t := 26) ?hr ?_; (case hd => rfl); (case hg => rfl); (case hr => first | (go_simp; done) | (go_simp; rfl)); intro gb442 hg w5 hbox hb; have n0_ := Asd.mk (below_step (by repeat (first | (with_reducible first | exact HB.out | apply blA | apply pbN | apply blD) | exact HB.out)) hb); have n1_ := Asd.mk (hbox); have n2_ := Asd.mk ((by rw [hg]; exact (below_size (by repeat (first | (with_reducible first | exact HB.out | apply blA | apply pbN | apply blD) | exact HB.out))) : w.heap.size ≤ gb442)); have n3_ := Asd.mk ((by rw [hg]; exact (below_size (by repeat (first | (with_reducible first | exact HB.out | apply blA | apply pbN | apply blD) | exact HB.out))) : w.heap.size ≤ gb442)); clear HB; have HB := n0_; have BK442 := n1_; have GW442 := n2_; have GE442 := n3_; clear n0_ n1_ n2_ n3_; clear hb hbox hg; have hcz6_0 : w5.cell? ⟨gb442, 0, none⟩ = some (.int .i64 a0_0) := (bkC BK442.out 0).trans rfl; have hcz6_1 : w5.cell? ⟨gb442, 1, none⟩ = some (.int .i64 a0_1) := (bkC BK442.out 1).trans rfl; have hcz6_2 : w5.cell? ⟨gb442, 2, none⟩ = some (.int .i64 a0_2) := (bkC BK442.out 2).trans rfl; have hcz6_3 : w5.cell? ⟨gb442, 3, none⟩ = some (.string a0_3) := (bkC BK442.out 3).trans rfl; have hcz6_4 : w5.cell? ⟨gb442, 4, none⟩ = some (.int .i64 a0_4) := (bkC BK442.out 4).trans rfl; have hcz6_5 : w5.cell? ⟨gb442, 5, none⟩ = some (.int .i64 a0_5) := (bkC BK442.out 5).trans rfl; have hcz6_6 : w5.cell? ⟨gb442, 6, none⟩ = some (.int .i64 a0_6) := (bkC BK442.out 6).trans rfl; have hcz6_7 : w5.cell? ⟨gb442, 7, none⟩ = some (.string a0_7) := (bkC BK442.out 7).trans rfl; have hcz6_8 : w5.cell? ⟨gb442, 8, none⟩ = some (.slice A0_8 l0_8.length c0_8) := (bkC BK442.out 8).trans rfl; have hfz6_0 := bkF BK442.out 0; have hfz6_1 := bkF BK442.out 1; have hfz6_2 := bkF BK442.out 2; have hfz6_3 := bkF BK442.out 3; have hfz6_4 := bkF BK442.out 4; have hfz6_5 := bkF BK442.out 5; have hfz6_6 := bkF BK442.out 6; have hfz6_7 := bkF BK442.out 7; have hfz6_8 := bkF BK442.out 8)); go_upto_block 0 with (first | ((with_reducible refine gate_dst (N := 3) rfl ?_); (try (refine gate_guard (by rfl) ?_; dsimp only)); refine box_event ?hg (N := 3) ?hd (cs := #[.int .i64 a0_0, .int .i64 a0_1, .int .i64 a0_2, .string a0_3, .int .i64 a0_4, .int .i64 a0_5, .int .i64 a0_6, .string a0_7, .slice A0_8 l0_8.length c0_8]) (t := 26) ?hr ?_; (case hd => rfl); (case hg => rfl); (case hr => first | (go_simp; done) | (go_simp; rfl)); intro gb442 hg w5 hbox hb; have n0_ := Asd.mk (below_step (by repeat (first | (with_reducible first | exact HB.out | apply blA | apply pbN | apply blD) | exact HB.out)) hb); have n1_ := Asd.mk (hbox); have n2_ := Asd.mk ((by rw [hg]; exact (below_size (by repeat (first | (with_reducible first | exact HB.out | apply blA | apply pbN | apply blD) | exact HB.out))) : w.heap.size ≤ gb442)); have n3_ := Asd.mk ((by rw [hg]; exact (below_size (by repeat (first | (with_reducible first | exact HB.out | apply blA | apply pbN | apply blD) | exact HB.out))) : w.heap.size ≤ gb442)); clear HB; have HB := n0_; have BK442 := n1_; have GW442 := n2_; have GE442 := n3_; clear n0_ n1_ n2_ n3_; clear hb hbox hg; have hcz6_0 : w5.cell? ⟨gb442, 0, none⟩ = some (.int .i64 a0_0) := (bkC BK442.out 0).trans rfl; have hcz6_1 : w5.cell? ⟨gb442, 1, none⟩ = some (.int .i64 a0_1) := (bkC BK442.out 1).trans rfl; have hcz6_2 : w5.cell? ⟨gb442, 2, none⟩ = some (.int .i64 a0_2) := (bkC BK442.out 2).trans rfl; have hcz6_3 : w5.cell? ⟨gb442, 3, none⟩ = some (.string a0_3) := (bkC BK442.out 3).trans rfl; have hcz6_4 : w5.cell? ⟨gb442, 4, none⟩ = some (.int .i64 a0_4) := (bkC BK442.out 4).trans rfl; have hcz6_5 : w5.cell? ⟨gb442, 5, none⟩ = some (.int .i64 a0_5) := (bkC BK442.out 5).trans rfl; have hcz6_6 : w5.cell? ⟨gb442, 6, none⟩ = some (.int .i64 a0_6) := (bkC BK442.out 6).trans rfl; have hcz6_7 : w5.cell? ⟨gb442, 7, none⟩ = some (.string a0_7) := (bkC BK442.out 7).trans rfl; have hcz6_8 : w5.cell? ⟨gb442, 8, none⟩ = some (.slice A0_8 l0_8.length c0_8) := (bkC BK442.out 8).trans rfl; have hfz6_0 := bkF BK442.out 0; have hfz6_1 := bkF BK442.out 1; have hfz6_2 := bkF BK442.out 2; have hfz6_3 := bkF BK442.out 3; have hfz6_4 := bkF BK442.out 4; have hfz6_5 := bkF BK442.out 5; have hfz6_6 := bkF BK442.out 6; have hfz6_7 := bkF BK442.out 7; have hfz6_8 := bkF BK442.out 8)))
 (try simp only [Act.put, List.setIfInBounds_toArray, List.set_cons_zero, List.set_cons_succ])
 go_cut [7] (fun v7 wc => ∃ (kq : Nat) (x7_3 : Int), v7 = .int .i64 x7_3 ∧ Asd (q08_known.j0 kq l1 l2 x7_3 a0_0 a0_1 a0_2 a0_3 a0_4 a0_5 a0_6 a0_7 l0_8 = some r) ∧ Asd (kq ≤ k) ∧ Asd (wc.heap[gb442]? = some (.cells #[.int .i64 a0_0, .int .i64 a0_1, .int .i64 a0_2, .string a0_3, .int .i64 a0_4, .int .i64 a0_5, .int .i64 a0_6, .string a0_7, (.slice A0_8 l0_8.length c0_8)] 26 (0, 0))) ∧ Asd (Below w.heap.size w wc))
 case first =>
  have H := HC4.out
  clear HC4
  by_cases c7 : a0_0 = 2
  ·rw [if_pos c7] at H
   have c7b0 : (a0_0 == 2) = true := beq_iff_eq.mpr c7
   have c7b1 : (a0_0 != 2) = false := bne_eq_false_iff_eq.mpr c7
   clear c7
   (first | rw [c7b0] | (simp only [i64_w, i32_w]; rw [c7b0]) | skip)
   by_cases c8 : a0_4 ≥ (l1.length : Int)
   ·rw [if_pos c8] at H
    have c8b0 : decide ((l1.length : Int) ≤ a0_4) = true := decide_eq_true c8
    clear c8
    obtain rfl := Option.some.inj H
    have hcz9_0 : w5.cell? ⟨gb442, 0, none⟩ = some (.int .i64 a0_0) := (bkC BK442.out 0).trans rfl
    have hcz9_1 : w5.cell? ⟨gb442, 1, none⟩ = some (.int .i64 a0_1) := (bkC BK442.out 1).trans rfl
    have hcz9_2 : w5.cell? ⟨gb442, 2, none⟩ = some (.int .i64 a0_2) := (bkC BK442.out 2).trans rfl
    have hcz9_3 : w5.cell? ⟨gb442, 3, none⟩ = some (.string a0_3) := (bkC BK442.out 3).trans rfl
    have hcz9_4 : w5.cell? ⟨gb442, 4, none⟩ = some (.int .i64 a0_4) := (bkC BK442.out 4).trans rfl
    have hcz9_5 : w5.cell? ⟨gb442, 5, none⟩ = some (.int .i64 a0_5) := (bkC BK442.out 5).trans rfl
    have hcz9_6 : w5.cell? ⟨gb442, 6, none⟩ = some (.int .i64 a0_6) := (bkC BK442.out 6).trans rfl
    have hcz9_7 : w5.cell? ⟨gb442, 7, none⟩ = some (.string a0_7) := (bkC BK442.out 7).trans rfl
    have hcz9_8 : w5.cell? ⟨gb442, 8, none⟩ = some (.slice A0_8 l0_8.length c0_8) := (bkC BK442.out 8).trans rfl
    have hfz9_0 := bkF BK442.out 0
    have hfz9_1 := bkF BK442.out 1
    have hfz9_2 := bkF BK442.out 2
    have hfz9_3 := bkF BK442.out 3
    have hfz9_4 := bkF BK442.out 4
    have hfz9_5 := bkF BK442.out 5
    have hfz9_6 := bkF BK442.out 6
    have hfz9_7 := bkF BK442.out 7
    have hfz9_8 := bkF BK442.out 8
    go_wp2
    repeat (go_quiet (fail); try go_wp2)
    go_ret
    exact ⟨by first | rfl | (simp [errW_none, errW_some] <;> rfl) | (simp [*, errW_none, errW_some] <;> rfl), by repeat (first | (with_reducible first | exact HB.out | apply blA | apply pbN | apply blD | refine blS ?_ GE442.out) | exact HB.out)⟩
   ·rw [if_neg c8] at H
    have c8b0 : decide ((l1.length : Int) ≤ a0_4) = false := decide_eq_false c8
    clear c8
    by_cases c10 : 0 ≤ a0_4
    ·rw [if_pos c10] at H
     have c10b0 : decide (0 ≤ a0_4) = true := decide_eq_true c10
     clear c10
     by_cases c11 : a0_4 < (l1.length : Int)
     ·rw [if_pos c11] at H
      have c11b0 : decide (a0_4 < (l1.length : Int)) = true := decide_eq_true c11
      clear c11
      by_cases c12 : a0_5 ≥ ((rd_L4 l1 a0_4).length : Int)
      ·rw [if_pos c12] at H
       have c12b0 : decide (((rd_L4 l1 a0_4).length : Int) ≤ a0_5) = true := decide_eq_true c12
       clear c12
       obtain rfl := Option.some.inj H
       have hcz13_0 : w5.cell? ⟨gb442, 0, none⟩ = some (.int .i64 a0_0) := (bkC BK442.out 0).trans rfl
       have hcz13_1 : w5.cell? ⟨gb442, 1, none⟩ = some (.int .i64 a0_1) := (bkC BK442.out 1).trans rfl
       have hcz13_2 : w5.cell? ⟨gb442, 2, none⟩ = some (.int .i64 a0_2) := (bkC BK442.out 2).trans rfl
       have hcz13_3 : w5.cell? ⟨gb442, 3, none⟩ = some (.string a0_3) := (bkC BK442.out 3).trans rfl
       have hcz13_4 : w5.cell? ⟨gb442, 4, none⟩ = some (.int .i64 a0_4) := (bkC BK442.out 4).trans rfl
       have hcz13_5 : w5.cell? ⟨gb442, 5, none⟩ = some (.int .i64 a0_5) := (bkC BK442.out 5).trans rfl
       have hcz13_6 : w5.cell? ⟨gb442, 6, none⟩ = some (.int .i64 a0_6) := (bkC BK442.out 6).trans rfl
       have hcz13_7 : w5.cell? ⟨gb442, 7, none⟩ = some (.string a0_7) := (bkC BK442.out 7).trans rfl
       have hcz13_8 : w5.cell? ⟨gb442, 8, none⟩ = some (.slice A0_8 l0_8.length c0_8) := (bkC BK442.out 8).trans rfl
       have hfz13_0 := bkF BK442.out 0
       have hfz13_1 := bkF BK442.out 1
       have hfz13_2 := bkF BK442.out 2
       have hfz13_3 := bkF BK442.out 3
       have hfz13_4 := bkF BK442.out 4
       have hfz13_5 := bkF BK442.out 5
       have hfz13_6 := bkF BK442.out 6
       have hfz13_7 := bkF BK442.out 7
       have hfz13_8 := bkF BK442.out 8
       have p443 : 0 ≤ (a0_4 : Int) := of_decide_eq_true (by first | (with_reducible assumption) | assumption)
       have q443 : a0_4 < (l1.length : Int) := of_decide_eq_true (by first | (with_reducible assumption) | assumption)
       obtain ⟨ad443, A443_0, c443_0, e443, hx443_0, hl443_0, hi443_0⟩ := at_L4 HR1.out a0_4 p443 q443
       cases e443
       replace hx443_0 := (HB.out.cell (World.block_lt_of_cell? w _ hx443_0)).trans hx443_0
       have HR443_0 := Asd.mk hi443_0
       have HC443_0 := Asd.mk hl443_0
       clear hi443_0 hl443_0
       replace p443 := eq_true p443
       replace q443 := eq_true q443
       go_wp2
       repeat (go_quiet (fail); try go_wp2)
       go_ret
       exact ⟨by first | rfl | (simp [errW_none, errW_some] <;> rfl) | (simp [*, errW_none, errW_some] <;> rfl), by repeat (first | (with_reducible first | exact HB.out | apply blA | apply pbN | apply blD | refine blS ?_ GE442.out) | exact HB.out)⟩
      ·rw [if_neg c12] at H
       have c12b0 : decide (((rd_L4 l1 a0_4).length : Int) ≤ a0_5) = false := decide_eq_false c12
       clear c12
       by_cases c14 : 0 ≤ a0_5
       ·rw [if_pos c14] at H
        have c14b0 : decide (0 ≤ a0_5) = true := decide_eq_true c14
        clear c14
        by_cases c15 : a0_5 < ((rd_L4 l1 a0_4).length : Int)
        ·rw [if_pos c15] at H
         have c15b0 : decide (a0_5 < ((rd_L4 l1 a0_4).length : Int)) = true := decide_eq_true c15
         clear c15
         have H' := Asd.mk H
         clear H
         have hcz16_0 : w5.cell? ⟨gb442, 0, none⟩ = some (.int .i64 a0_0) := (bkC BK442.out 0).trans rfl
         have hcz16_1 : w5.cell? ⟨gb442, 1, none⟩ = some (.int .i64 a0_1) := (bkC BK442.out 1).trans rfl
         have hcz16_2 : w5.cell? ⟨gb442, 2, none⟩ = some (.int .i64 a0_2) := (bkC BK442.out 2).trans rfl
         have hcz16_3 : w5.cell? ⟨gb442, 3, none⟩ = some (.string a0_3) := (bkC BK442.out 3).trans rfl
         have hcz16_4 : w5.cell? ⟨gb442, 4, none⟩ = some (.int .i64 a0_4) := (bkC BK442.out 4).trans rfl
         have hcz16_5 : w5.cell? ⟨gb442, 5, none⟩ = some (.int .i64 a0_5) := (bkC BK442.out 5).trans rfl
         have hcz16_6 : w5.cell? ⟨gb442, 6, none⟩ = some (.int .i64 a0_6) := (bkC BK442.out 6).trans rfl
         have hcz16_7 : w5.cell? ⟨gb442, 7, none⟩ = some (.string a0_7) := (bkC BK442.out 7).trans rfl
         have hcz16_8 : w5.cell? ⟨gb442, 8, none⟩ = some (.slice A0_8 l0_8.length c0_8) := (bkC BK442.out 8).trans rfl
         have hfz16_0 := bkF BK442.out 0
         have hfz16_1 := bkF BK442.out 1
         have hfz16_2 := bkF BK442.out 2
         have hfz16_3 := bkF BK442.out 3
         have hfz16_4 := bkF BK442.out 4
         have hfz16_5 := bkF BK442.out 5
         have hfz16_6 := bkF BK442.out 6
         have hfz16_7 := bkF BK442.out 7
         have hfz16_8 := bkF BK442.out 8
         have p443 : 0 ≤ (a0_4 : Int) := of_decide_eq_true (by first | (with_reducible assumption) | assumption)
         have q443 : a0_4 < (l1.length : Int) := of_decide_eq_true (by first | (with_reducible assumption) | assumption)
         obtain ⟨ad443, A443_0, c443_0, e443, hx443_0, hl443_0, hi443_0⟩ := at_L4 HR1.out a0_4 p443 q443
         cases e443
         replace hx443_0 := (HB.out.cell (World.block_lt_of_cell? w _ hx443_0)).trans hx443_0
         have HR443_0 := Asd.mk hi443_0
         have HC443_0 := Asd.mk hl443_0
         clear hi443_0 hl443_0
         replace p443 := eq_true p443
         replace q443 := eq_true q443
         have p444 : 0 ≤ (a0_4 : Int) := of_decide_eq_true (by first | (with_reducible assumption) | assumption)
         have q444 : a0_4 < (l1.length : Int) := of_decide_eq_true (by first | (with_reducible assumption) | assumption)
         obtain ⟨ad444, A444_0, c444_0, e444, hx444_0, hl444_0, hi444_0⟩ := at_L4 HR1.out a0_4 p444 q444
         obtain rfl : ad443 = ad444 := (by injection e444)
         replace hx444_0 := (HB.out.cell (World.block_lt_of_cell? w _ hx444_0)).trans hx444_0
         have HR444_0 := Asd.mk hi444_0
         have HC444_0 := Asd.mk hl444_0
         clear hi444_0 hl444_0
         replace p444 := eq_true p444
         replace q444 := eq_true q444
         have ea_ := Option.some.inj (hx443_0.symm.trans hx444_0)
         injection ea_ with ea_ en_ ec_
         subst ea_
         subst ec_
         clear en_
         have p445 : 0 ≤ (a0_5 : Int) := of_decide_eq_true (by first | (with_reducible assumption) | assumption)
         have q445 : a0_5 < ((rd_L4 l1 a0_4).length : Int) := of_decide_eq_true (by first | (with_reducible assumption) | assumption)
         obtain ⟨ad445, e445, hx445_0⟩ := Kd.at_int HR444_0.out a0_5 p445 q445
         cases e445
         replace hx445_0 := (HB.out.cell (World.block_lt_of_cell? w _ hx445_0)).trans hx445_0
         replace p445 := eq_true p445
         replace q445 := eq_true q445
         go_wp2
         repeat (go_quiet (fail); try go_wp2)
         go_meet
         case rel => exact ⟨_, (rd (rd_L4 l1 a0_4) a0_5), (by first | rfl | (simp; done) | (simp [*]; done)), H', ⟨by first | omega | exact Nat.le_refl _⟩, ⟨by (with_reducible repeat (first | refine bkN ?_ _ | refine bkD ?_ | refine bkA ?_ _)); exact BK442.out⟩, ⟨by repeat (first | (with_reducible first | exact HB.out | apply blA | apply pbN | apply blD | refine blS ?_ GE442.out) | exact HB.out)⟩⟩
        ·rw [if_neg c15] at H
         exact absurd H (by simp)
       ·rw [if_neg c14] at H
        exact absurd H (by simp)
     ·rw [if_neg c11] at H
      exact absurd H (by simp)
    ·rw [if_neg c10] at H
     exact absurd H (by simp)
  ·rw [if_neg c7] at H
   have c7b0 : (a0_0 == 2) = false := beq_eq_false_iff_ne.mpr c7
   have c7b1 : (a0_0 != 2) = true := bne_iff_ne.mpr c7
   (first | rw [c7b0] | (simp only [i64_w, i32_w]; rw [c7b0]) | skip)
   by_cases c17 : a0_0 = 3
   ·rw [if_pos c17] at H
    have c17b0 : (a0_0 == 3) = true := beq_iff_eq.mpr c17
    have c17b1 : (a0_0 != 3) = false := bne_eq_false_iff_eq.mpr c17
    clear c17
    by_cases c18 : a0_6 > (l2.length : Int)
    ·rw [if_pos c18] at H
     have c18b0 : decide ((l2.length : Int) < a0_6) = true := decide_eq_true c18
     clear c18
     obtain rfl := Option.some.inj H
     have hcz19_0 : w5.cell? ⟨gb442, 0, none⟩ = some (.int .i64 a0_0) := (bkC BK442.out 0).trans rfl
     have hcz19_1 : w5.cell? ⟨gb442, 1, none⟩ = some (.int .i64 a0_1) := (bkC BK442.out 1).trans rfl
     have hcz19_2 : w5.cell? ⟨gb442, 2, none⟩ = some (.int .i64 a0_2) := (bkC BK442.out 2).trans rfl
     have hcz19_3 : w5.cell? ⟨gb442, 3, none⟩ = some (.string a0_3) := (bkC BK442.out 3).trans rfl
     have hcz19_4 : w5.cell? ⟨gb442, 4, none⟩ = some (.int .i64 a0_4) := (bkC BK442.out 4).trans rfl
     have hcz19_5 : w5.cell? ⟨gb442, 5, none⟩ = some (.int .i64 a0_5) := (bkC BK442.out 5).trans rfl
     have hcz19_6 : w5.cell? ⟨gb442, 6, none⟩ = some (.int .i64 a0_6) := (bkC BK442.out 6).trans rfl
     have hcz19_7 : w5.cell? ⟨gb442, 7, none⟩ = some (.string a0_7) := (bkC BK442.out 7).trans rfl
     have hcz19_8 : w5.cell? ⟨gb442, 8, none⟩ = some (.slice A0_8 l0_8.length c0_8) := (bkC BK442.out 8).trans rfl
     have hfz19_0 := bkF BK442.out 0
     have hfz19_1 := bkF BK442.out 1
     have hfz19_2 := bkF BK442.out 2
     have hfz19_3 := bkF BK442.out 3
     have hfz19_4 := bkF BK442.out 4
     have hfz19_5 := bkF BK442.out 5
     have hfz19_6 := bkF BK442.out 6
     have hfz19_7 := bkF BK442.out 7
     have hfz19_8 := bkF BK442.out 8
     go_wp2
     repeat (go_quiet (fail); try go_wp2)
     go_ret
     exact ⟨by first | rfl | (simp [errW_none, errW_some] <;> rfl) | (simp [*, errW_none, errW_some] <;> rfl), by repeat (first | (with_reducible first | exact HB.out | apply blA | apply pbN | apply blD | refine blS ?_ GE442.out) | exact HB.out)⟩
    ·rw [if_neg c18] at H
     have c18b0 : decide ((l2.length : Int) < a0_6) = false := decide_eq_false c18
     clear c18
     obtain ⟨ji20, hji20⟩ : ∃ j_ : Int, (wrap64 (a0_6 - 1)) = j_ := ⟨_, rfl⟩
     replace H : (if 0 ≤ (ji20) then (if (ji20) < (l2.length : Int) then (q08_known.j0 k l1 l2 (rd l2 (ji20)) a0_0 a0_1 a0_2 a0_3 a0_4 a0_5 a0_6 a0_7 l0_8) else (none)) else (none)) = some r := by first | (rw [hji20] at H; exact H) | (simp only [hji20] at H ⊢; exact H)
     have hji20w : (IntKind.i64.wrap (a0_6 - 1)) = ji20 := (i64_w _).trans hji20
     by_cases c21 : 0 ≤ (ji20)
     ·rw [if_pos c21] at H
      have c21b0 : decide (0 ≤ (ji20)) = true := decide_eq_true c21
      clear c21
      by_cases c22 : (ji20) < (l2.length : Int)
      ·rw [if_pos c22] at H
       have c22b0 : decide ((ji20) < (l2.length : Int)) = true := decide_eq_true c22
       clear c22
       have H' := Asd.mk H
       clear H
       have hcz23_0 : w5.cell? ⟨gb442, 0, none⟩ = some (.int .i64 a0_0) := (bkC BK442.out 0).trans rfl
       have hcz23_1 : w5.cell? ⟨gb442, 1, none⟩ = some (.int .i64 a0_1) := (bkC BK442.out 1).trans rfl
       have hcz23_2 : w5.cell? ⟨gb442, 2, none⟩ = some (.int .i64 a0_2) := (bkC BK442.out 2).trans rfl
       have hcz23_3 : w5.cell? ⟨gb442, 3, none⟩ = some (.string a0_3) := (bkC BK442.out 3).trans rfl
       have hcz23_4 : w5.cell? ⟨gb442, 4, none⟩ = some (.int .i64 a0_4) := (bkC BK442.out 4).trans rfl
       have hcz23_5 : w5.cell? ⟨gb442, 5, none⟩ = some (.int .i64 a0_5) := (bkC BK442.out 5).trans rfl
       have hcz23_6 : w5.cell? ⟨gb442, 6, none⟩ = some (.int .i64 a0_6) := (bkC BK442.out 6).trans rfl
       have hcz23_7 : w5.cell? ⟨gb442, 7, none⟩ = some (.string a0_7) := (bkC BK442.out 7).trans rfl
       have hcz23_8 : w5.cell? ⟨gb442, 8, none⟩ = some (.slice A0_8 l0_8.length c0_8) := (bkC BK442.out 8).trans rfl
       have hfz23_0 := bkF BK442.out 0
       have hfz23_1 := bkF BK442.out 1
       have hfz23_2 := bkF BK442.out 2
       have hfz23_3 := bkF BK442.out 3
       have hfz23_4 := bkF BK442.out 4
       have hfz23_5 := bkF BK442.out 5
       have hfz23_6 := bkF BK442.out 6
       have hfz23_7 := bkF BK442.out 7
       have hfz23_8 := bkF BK442.out 8
       have p446 : 0 ≤ ((ji20) : Int) := of_decide_eq_true (by first | (with_reducible assumption) | assumption)
       have q446 : (ji20) < (l2.length : Int) := of_decide_eq_true (by first | (with_reducible assumption) | assumption)
       obtain ⟨ad446, e446, hx446_0⟩ := Kd.at_int HR2.out (ji20) p446 q446
       cases e446
       replace hx446_0 := (HB.out.cell (World.block_lt_of_cell? w _ hx446_0)).trans hx446_0
       replace p446 := eq_true p446
       replace q446 := eq_true q446
       go_wp2
       repeat (go_quiet (fail); try go_wp2)
       go_meet
       case rel => exact ⟨_, (rd l2 (ji20)), (by first | rfl | (simp; done) | (simp only [← hji20] <;> (first | rfl | simp)) | (simp [*]; done)), H', ⟨by first | omega | exact Nat.le_refl _⟩, ⟨by (with_reducible repeat (first | refine bkN ?_ _ | refine bkD ?_ | refine bkA ?_ _)); exact BK442.out⟩, ⟨by repeat (first | (with_reducible first | exact HB.out | apply blA | apply pbN | apply blD | refine blS ?_ GE442.out) | exact HB.out)⟩⟩
      ·rw [if_neg c22] at H
       exact absurd H (by simp)
     ·rw [if_neg c21] at H
      exact absurd H (by simp)
   ·rw [if_neg c17] at H
    have c17b0 : (a0_0 == 3) = false := beq_eq_false_iff_ne.mpr c17
    have c17b1 : (a0_0 != 3) = true := bne_iff_ne.mpr c17
    have H' := Asd.mk H
    clear H
    go_wp2
    repeat (go_quiet (fail); try go_wp2)
    go_meet
    case rel => exact ⟨_, (0), (by first | rfl | (simp; done) | (simp [*]; done)), H', ⟨by first | omega | exact Nat.le_refl _⟩, ⟨by (with_reducible repeat (first | refine bkN ?_ _ | refine bkD ?_ | refine bkA ?_ _)); exact BK442.out⟩, ⟨by repeat (first | (with_reducible first | exact HB.out | apply blA | apply pbN | apply blD | refine blS ?_ GE442.out) | exact HB.out)⟩⟩
 case rest =>
  clear HC4
  try clear c1
  try clear c2
  try clear p2
  try clear c4
  try clear p4
  try clear q4
  try clear hx4
  try clear p6
  try clear c7
  try clear c7b0
  try clear c7b1
  try clear c8
  try clear c8b0
  try clear c10
  try clear c10b0
  try clear c11
  try clear c11b0
  try clear c12
  try clear c12b0
  try clear c14
  try clear c14b0
  try clear c15
  try clear c15b0
  try clear c17
  try clear c17b0
  try clear c17b1
  try clear c18
  try clear c18b0
  try clear c21
  try clear c21b0
  try clear c22
  try clear c22b0
  try clear hcz13_0
  try clear hcz13_1
  try clear hcz13_2
  try clear hcz13_3
  try clear hcz13_4
  try clear hcz13_5
  try clear hcz13_6
  try clear hcz13_7
  try clear hcz13_8
  try clear hcz16_0
  try clear hcz16_1
  try clear hcz16_2
  try clear hcz16_3
  try clear hcz16_4
  try clear hcz16_5
  try clear hcz16_6
  try clear hcz16_7
  try clear hcz16_8
  try clear hcz19_0
  try clear hcz19_1
  try clear hcz19_2
  try clear hcz19_3
  try clear hcz19_4
  try clear hcz19_5
  try clear hcz19_6
  try clear hcz19_7
  try clear hcz19_8
  try clear hcz23_0
  try clear hcz23_1
  try clear hcz23_2
  try clear hcz23_3
  try clear hcz23_4
  try clear hcz23_5
  try clear hcz23_6
  try clear hcz23_7
  try clear hcz23_8
  try clear hcz6_0
  try clear hcz6_1
  try clear hcz6_2
  try clear hcz6_3
  try clear hcz6_4
  try clear hcz6_5
  try clear hcz6_6
  try clear hcz6_7
  try clear hcz6_8
  try clear hcz9_0
  try clear hcz9_1
  try clear hcz9_2
  try clear hcz9_3
  try clear hcz9_4
  try clear hcz9_5
  try clear hcz9_6
  try clear hcz9_7
  try clear hcz9_8
  try clear hfz13_0
  try clear hfz13_1
  try clear hfz13_2
  try clear hfz13_3
  try clear hfz13_4
  try clear hfz13_5
  try clear hfz13_6
  try clear hfz13_7
  try clear hfz13_8
  try clear hfz16_0
  try clear hfz16_1
  try clear hfz16_2
  try clear hfz16_3
  try clear hfz16_4
  try clear hfz16_5
  try clear hfz16_6
  try clear hfz16_7
  try clear hfz16_8
  try clear hfz19_0
  try clear hfz19_1
  try clear hfz19_2
  try clear hfz19_3
  try clear hfz19_4
  try clear hfz19_5
  try clear hfz19_6
  try clear hfz19_7
  try clear hfz19_8
  try clear hfz23_0
  try clear hfz23_1
  try clear hfz23_2
  try clear hfz23_3
  try clear hfz23_4
  try clear hfz23_5
  try clear hfz23_6
  try clear hfz23_7
  try clear hfz23_8
  try clear hfz6_0
  try clear hfz6_1
  try clear hfz6_2
  try clear hfz6_3
  try clear hfz6_4
  try clear hfz6_5
  try clear hfz6_6
  try clear hfz6_7
  try clear hfz6_8
  try clear hfz9_0
  try clear hfz9_1
  try clear hfz9_2
  try clear hfz9_3
  try clear hfz9_4
  try clear hfz9_5
  try clear hfz9_6
  try clear hfz9_7
  try clear hfz9_8
  try clear hx443_0
  try clear hx444_0
  try clear hx445_0
  try clear hx446_0
  try clear p443
  try clear p444
  try clear p445
  try clear p446
  try clear q443
  try clear q444
  try clear q445
  try clear q446
  obtain ⟨kq, x7_3, rfl, HA, HJ3, BK442, HB⟩ := hcut
  cases kq with
  | zero => exact absurd HA.out (by simp [q08_known.j0])
  | succ kj3 =>
   have H := HA.out
   clear HA
   simp only [q08_known.j0] at H
   have HC24 := Asd.mk H
   clear H
   go_upto_region 11 with (fail)
   repeat (go_quiet (fail); go_upto_region 11 with (fail))
   go_cut [57] (fun v57 wc => ∃ (kq : Nat) (x57_23 : Bool), v57 = .bool x57_23 ∧ Asd (q08_known.j1 kq l1 l2 x57_23 a0_0 a0_1 a0_2 a0_3 a0_4 a0_5 a0_6 a0_7 l0_8 = some r) ∧ Asd (kq ≤ kj3) ∧ Asd (wc.heap[gb442]? = some (.cells #[.int .i64 a0_0, .int .i64 a0_1, .int .i64 a0_2, .string a0_3, .int .i64 a0_4, .int .i64 a0_5, .int .i64 a0_6, .string a0_7, (.slice A0_8 l0_8.length c0_8)] 26 (0, 0))) ∧ Asd (Below w.heap.size w wc))
   case first =>
    have H := HC24.out
    clear HC24
    by_cases c25 : x7_3 < 0
    ·rw [if_pos c25] at H
     have c25b0 : decide (x7_3 < 0) = true := decide_eq_true c25
     clear c25
     (first | rw [c25b0] | (simp only [i64_w, i32_w]; rw [c25b0]) | skip)
     have H' := Asd.mk H
     clear H
     go_wp2
     repeat (go_quiet (fail); try go_wp2)
     go_meet
     case rel => exact ⟨_, (true), (by first | rfl | (simp; done) | (simp [*]; done)), H', ⟨by have := HJ3.out; first | omega | exact Nat.le_refl _⟩, ⟨by (with_reducible repeat (first | refine bkN ?_ _ | refine bkD ?_ | refine bkA ?_ _)); exact BK442.out⟩, ⟨by repeat (first | (with_reducible first | exact HB.out | apply blA | apply pbN | apply blD | refine blS ?_ GE442.out) | exact HB.out)⟩⟩
    ·rw [if_neg c25] at H
     have c25b0 : decide (x7_3 < 0) = false := decide_eq_false c25
     clear c25
     (first | rw [c25b0] | (simp only [i64_w, i32_w]; rw [c25b0]) | skip)
     have H' := Asd.mk H
     clear H
     go_wp2
     repeat (go_quiet (fail); try go_wp2)
     go_meet
     case rel => exact ⟨_, (decide (x7_3 > 3)), (by first | rfl | (simp; done) | (simp [*]; done)), H', ⟨by have := HJ3.out; first | omega | exact Nat.le_refl _⟩, ⟨by (with_reducible repeat (first | refine bkN ?_ _ | refine bkD ?_ | refine bkA ?_ _)); exact BK442.out⟩, ⟨by repeat (first | (with_reducible first | exact HB.out | apply blA | apply pbN | apply blD | refine blS ?_ GE442.out) | exact HB.out)⟩⟩
   case rest =>
    clear HC24
    try clear c1
    try clear c2
    try clear p2
    try clear c4
    try clear p4
    try clear q4
    try clear hx4
    try clear p6
    try clear c7
    try clear c7b0
    try clear c7b1
    try clear c8
    try clear c8b0
    try clear c10
    try clear c10b0
    try clear c11
    try clear c11b0
    try clear c12
    try clear c12b0
    try clear c14
    try clear c14b0
    try clear c15
    try clear c15b0
    try clear c17
    try clear c17b0
    try clear c17b1
    try clear c18
    try clear c18b0
    try clear c21
    try clear c21b0
    try clear c22
    try clear c22b0
    try clear c25
    try clear c25b0
    try clear hcz13_0
    try clear hcz13_1
    try clear hcz13_2
    try clear hcz13_3
    try clear hcz13_4
    try clear hcz13_5
    try clear hcz13_6
    try clear hcz13_7
    try clear hcz13_8
    try clear hcz16_0
    try clear hcz16_1
    try clear hcz16_2
    try clear hcz16_3
    try clear hcz16_4
    try clear hcz16_5
    try clear hcz16_6
    try clear hcz16_7
    try clear hcz16_8
    try clear hcz19_0
    try clear hcz19_1
    try clear hcz19_2
    try clear hcz19_3
    try clear hcz19_4
    try clear hcz19_5
    try clear hcz19_6
    try clear hcz19_7
    try clear hcz19_8
    try clear hcz23_0
    try clear hcz23_1
    try clear hcz23_2
    try clear hcz23_3
    try clear hcz23_4
    try clear hcz23_5
    try clear hcz23_6
    try clear hcz23_7
    try clear hcz23_8
    try clear hcz6_0
    try clear hcz6_1
    try clear hcz6_2
    try clear hcz6_3
    try clear hcz6_4
    try clear hcz6_5
    try clear hcz6_6
    try clear hcz6_7
    try clear hcz6_8
    try clear hcz9_0
    try clear hcz9_1
    try clear hcz9_2
    try clear hcz9_3
    try clear hcz9_4
    try clear hcz9_5
    try clear hcz9_6
    try clear hcz9_7
    try clear hcz9_8
    try clear hfz13_0
    try clear hfz13_1
    try clear hfz13_2
    try clear hfz13_3
    try clear hfz13_4
    try clear hfz13_5
    try clear hfz13_6
    try clear hfz13_7
    try clear hfz13_8
    try clear hfz16_0
    try clear hfz16_1
    try clear hfz16_2
    try clear hfz16_3
    try clear hfz16_4
    try clear hfz16_5
    try clear hfz16_6
    try clear hfz16_7
    try clear hfz16_8
    try clear hfz19_0
    try clear hfz19_1
    try clear hfz19_2
    try clear hfz19_3
    try clear hfz19_4
    try clear hfz19_5
    try clear hfz19_6
    try clear hfz19_7
    try clear hfz19_8
    try clear hfz23_0
    try clear hfz23_1
    try clear hfz23_2
    try clear hfz23_3
    try clear hfz23_4
    try clear hfz23_5
    try clear hfz23_6
    try clear hfz23_7
    try clear hfz23_8
    try clear hfz6_0
    try clear hfz6_1
    try clear hfz6_2
    try clear hfz6_3
    try clear hfz6_4
    try clear hfz6_5
    try clear hfz6_6
    try clear hfz6_7
    try clear hfz6_8
    try clear hfz9_0
    try clear hfz9_1
    try clear hfz9_2
    try clear hfz9_3
    try clear hfz9_4
    try clear hfz9_5
    try clear hfz9_6
    try clear hfz9_7
    try clear hfz9_8
    try clear hx443_0
    try clear hx444_0
    try clear hx445_0
    try clear hx446_0
    try clear p2
    try clear p4
    try clear p443
    try clear p444
    try clear p445
    try clear p446
    try clear p6
    try clear q4
    try clear q443
    try clear q444
    try clear q445
    try clear q446
    obtain ⟨kq, x57_23, rfl, HA, HJ23, BK442, HB⟩ := hcut
    cases kq with
    | zero => exact absurd HA.out (by simp [q08_known.j1])
    | succ kj23 =>
     have H := HA.out
     clear HA
     simp only [q08_known.j1] at H
     by_cases c26 : x57_23 = true
     ·subst c26
      have H1 : (some false) = some r := by rw [if_pos rfl] at H; exact H
      clear H
      have H := H1
      clear H1
      obtain rfl := Option.some.inj H
      go_wp2
      repeat (go_quiet (fail); try go_wp2)
      go_ret
      exact ⟨by first | rfl | (simp [errW_none, errW_some] <;> rfl) | (simp [*, errW_none, errW_some] <;> rfl), by repeat (first | (with_reducible first | exact HB.out | apply blA | apply pbN | apply blD | refine blS ?_ GE442.out) | exact HB.out)⟩
     ·replace c26 := Bool.eq_false_iff.mpr c26
      subst c26
      have H1 : (q08_known.l0 kj23 l1 l2 0 a0_0 a0_1 a0_2 a0_3 a0_4 a0_5 a0_6 a0_7 l0_8) = some r := by rw [if_neg (show ¬ (false = true) by decide)] at H; exact H
      clear H
      have H := H1
      clear H1
      have H' := Asd.mk H
      clear H
      go_wp2
      repeat (go_quiet (fail); try go_wp2)
      go_loopg [8] kj23 (fun kq v8 w' => ∃ (x8_3 : Int), v8 = .int .i64 x8_3 ∧ Asd (q08_known.l0 kq l1 l2 x8_3 a0_0 a0_1 a0_2 a0_3 a0_4 a0_5 a0_6 a0_7 l0_8 = some r) ∧ Asd (kq ≤ kj23) ∧ Asd (w'.heap[gb442]? = some (.cells #[.int .i64 a0_0, .int .i64 a0_1, .int .i64 a0_2, .string a0_3, .int .i64 a0_4, .int .i64 a0_5, .int .i64 a0_6, .string a0_7, (.slice A0_8 l0_8.length c0_8)] 26 (0, 0))) ∧ Asd (Below w.heap.size w w'))
      case atStart => exact ⟨(0), (by first | rfl | (simp; done) | (simp [*]; done)), H', ⟨Nat.le_refl _⟩, ⟨by (with_reducible repeat (first | refine bkN ?_ _ | refine bkD ?_ | refine bkA ?_ _)); exact BK442.out⟩, ⟨by repeat (first | (with_reducible first | exact HB.out | apply blA | apply pbN | apply blD | refine blS ?_ GE442.out) | exact HB.out)⟩⟩
      case round =>
       clear H'
       try clear c1
       try clear c2
       try clear p2
       try clear c4
       try clear p4
       try clear q4
       try clear hx4
       try clear p6
       try clear c7
       try clear c7b0
       try clear c7b1
       try clear c8
       try clear c8b0
       try clear c10
       try clear c10b0
       try clear c11
       try clear c11b0
       try clear c12
       try clear c12b0
       try clear c14
       try clear c14b0
       try clear c15
       try clear c15b0
       try clear c17
       try clear c17b0
       try clear c17b1
       try clear c18
       try clear c18b0
       try clear c21
       try clear c21b0
       try clear c22
       try clear c22b0
       try clear c25
       try clear c25b0
       try clear c26
       try clear hcz13_0
       try clear hcz13_1
       try clear hcz13_2
       try clear hcz13_3
       try clear hcz13_4
       try clear hcz13_5
       try clear hcz13_6
       try clear hcz13_7
       try clear hcz13_8
       try clear hcz16_0
       try clear hcz16_1
       try clear hcz16_2
       try clear hcz16_3
       try clear hcz16_4
       try clear hcz16_5
       try clear hcz16_6
       try clear hcz16_7
       try clear hcz16_8
       try clear hcz19_0
       try clear hcz19_1
       try clear hcz19_2
       try clear hcz19_3
       try clear hcz19_4
       try clear hcz19_5
       try clear hcz19_6
       try clear hcz19_7
       try clear hcz19_8
       try clear hcz23_0
       try clear hcz23_1
       try clear hcz23_2
       try clear hcz23_3
       try clear hcz23_4
       try clear hcz23_5
       try clear hcz23_6
       try clear hcz23_7
       try clear hcz23_8
       try clear hcz6_0
       try clear hcz6_1
       try clear hcz6_2
       try clear hcz6_3
       try clear hcz6_4
       try clear hcz6_5
       try clear hcz6_6
       try clear hcz6_7
       try clear hcz6_8
       try clear hcz9_0
       try clear hcz9_1
       try clear hcz9_2
       try clear hcz9_3
       try clear hcz9_4
       try clear hcz9_5
       try clear hcz9_6
       try clear hcz9_7
       try clear hcz9_8
       try clear hfz13_0
       try clear hfz13_1
       try clear hfz13_2
       try clear hfz13_3
       try clear hfz13_4
       try clear hfz13_5
       try clear hfz13_6
       try clear hfz13_7
       try clear hfz13_8
       try clear hfz16_0
       try clear hfz16_1
       try clear hfz16_2
       try clear hfz16_3
       try clear hfz16_4
       try clear hfz16_5
       try clear hfz16_6
       try clear hfz16_7
       try clear hfz16_8
       try clear hfz19_0
       try clear hfz19_1
       try clear hfz19_2
       try clear hfz19_3
       try clear hfz19_4
       try clear hfz19_5
       try clear hfz19_6
       try clear hfz19_7
       try clear hfz19_8
       try clear hfz23_0
       try clear hfz23_1
       try clear hfz23_2
       try clear hfz23_3
       try clear hfz23_4
       try clear hfz23_5
       try clear hfz23_6
       try clear hfz23_7
       try clear hfz23_8
       try clear hfz6_0
       try clear hfz6_1
       try clear hfz6_2
       try clear hfz6_3
       try clear hfz6_4
       try clear hfz6_5
       try clear hfz6_6
       try clear hfz6_7
       try clear hfz6_8
       try clear hfz9_0
       try clear hfz9_1
       try clear hfz9_2
       try clear hfz9_3
       try clear hfz9_4
       try clear hfz9_5
       try clear hfz9_6
       try clear hfz9_7
       try clear hfz9_8
       try clear hx443_0
       try clear hx444_0
       try clear hx445_0
       try clear hx446_0
       try clear p2
       try clear p4
       try clear p443
       try clear p444
       try clear p445
       try clear p446
       try clear p6
       try clear q4
       try clear q443
       try clear q444
       try clear q445
       try clear q446
       obtain ⟨x8_3, rfl, HA, HK3, BK442, HB⟩ := hrel
       cases gk with
       | zero => exact absurd HA.out (by simp [q08_known.l0])
       | succ k3 =>
        have H := HA.out
        clear HA
        simp only [q08_known.l0] at H
        by_cases c27 : x8_3 < (l0_8.length : Int)
        ·rw [if_pos c27] at H
         have c27b0 : decide (x8_3 < (l0_8.length : Int)) = true := decide_eq_true c27
         clear c27
         by_cases c28 : 0 ≤ x8_3
         ·rw [if_pos c28] at H
          have c28b0 : decide (0 ≤ x8_3) = true := decide_eq_true c28
          clear c28
          replace H := Option.bind_eq_some_iff.mp H
          obtain ⟨t448, A290, H⟩ := H
          replace H : (if t448 = true then (q08_known.l0 k3 l1 l2 (wrap64 (x8_3 + 1)) a0_0 a0_1 a0_2 a0_3 a0_4 a0_5 a0_6 a0_7 l0_8) else (some false)) = some r := H
          have A29 := Asd.mk A290
          clear A290
          by_cases c30 : t448 = true
          ·subst c30
           have H1 : (q08_known.l0 k3 l1 l2 (wrap64 (x8_3 + 1)) a0_0 a0_1 a0_2 a0_3 a0_4 a0_5 a0_6 a0_7 l0_8) = some r := by rw [if_pos rfl] at H; exact H
           clear H
           have H := H1
           clear H1
           have H' := Asd.mk H
           clear H
           have hcz31_0 : wr.cell? ⟨gb442, 0, none⟩ = some (.int .i64 a0_0) := (bkC BK442.out 0).trans rfl
           have hcz31_1 : wr.cell? ⟨gb442, 1, none⟩ = some (.int .i64 a0_1) := (bkC BK442.out 1).trans rfl
           have hcz31_2 : wr.cell? ⟨gb442, 2, none⟩ = some (.int .i64 a0_2) := (bkC BK442.out 2).trans rfl
           have hcz31_3 : wr.cell? ⟨gb442, 3, none⟩ = some (.string a0_3) := (bkC BK442.out 3).trans rfl
           have hcz31_4 : wr.cell? ⟨gb442, 4, none⟩ = some (.int .i64 a0_4) := (bkC BK442.out 4).trans rfl
           have hcz31_5 : wr.cell? ⟨gb442, 5, none⟩ = some (.int .i64 a0_5) := (bkC BK442.out 5).trans rfl
           have hcz31_6 : wr.cell? ⟨gb442, 6, none⟩ = some (.int .i64 a0_6) := (bkC BK442.out 6).trans rfl
           have hcz31_7 : wr.cell? ⟨gb442, 7, none⟩ = some (.string a0_7) := (bkC BK442.out 7).trans rfl
           have hcz31_8 : wr.cell? ⟨gb442, 8, none⟩ = some (.slice A0_8 l0_8.length c0_8) := (bkC BK442.out 8).trans rfl
           have hfz31_0 := bkF BK442.out 0
           have hfz31_1 := bkF BK442.out 1
           have hfz31_2 := bkF BK442.out 2
           have hfz31_3 := bkF BK442.out 3
           have hfz31_4 := bkF BK442.out 4
           have hfz31_5 := bkF BK442.out 5
           have hfz31_6 := bkF BK442.out 6
           have hfz31_7 := bkF BK442.out 7
           have hfz31_8 := bkF BK442.out 8
           have p447 : 0 ≤ (x8_3 : Int) := of_decide_eq_true (by first | (with_reducible assumption) | assumption)
           have q447 : x8_3 < (l0_8.length : Int) := of_decide_eq_true (by first | (with_reducible assumption) | assumption)
           obtain ⟨ad447, A447_8, c447_8, e447, hx447_0, hx447_1, hx447_2, hx447_3, hx447_4, hx447_5, hx447_6, hx447_7, hx447_8, hl447_8, hi447_8⟩ := at_T26 HR0_8.out x8_3 p447 q447
           cases e447
           replace hx447_0 := (HB.out.cell (World.block_lt_of_cell? w _ hx447_0)).trans hx447_0
           replace hx447_1 := (HB.out.cell (World.block_lt_of_cell? w _ hx447_1)).trans hx447_1
           replace hx447_2 := (HB.out.cell (World.block_lt_of_cell? w _ hx447_2)).trans hx447_2
           replace hx447_3 := (HB.out.cell (World.block_lt_of_cell? w _ hx447_3)).trans hx447_3
           replace hx447_4 := (HB.out.cell (World.block_lt_of_cell? w _ hx447_4)).trans hx447_4
           replace hx447_5 := (HB.out.cell (World.block_lt_of_cell? w _ hx447_5)).trans hx447_5
           replace hx447_6 := (HB.out.cell (World.block_lt_of_cell? w _ hx447_6)).trans hx447_6
           replace hx447_7 := (HB.out.cell (World.block_lt_of_cell? w _ hx447_7)).trans hx447_7
           replace hx447_8 := (HB.out.cell (World.block_lt_of_cell? w _ hx447_8)).trans hx447_8
           have HR447_8 := Asd.mk hi447_8
           have HC447_8 := Asd.mk hl447_8
           clear hi447_8 hl447_8
           replace p447 := eq_true p447
           replace q447 := eq_true q447
           go_wp2_with (first | (go_at_call 40; (with_reducible refine (ih k3 (by have := HJ3.out; have := HJ23.out; have := HK3.out; omega) ((rd_T26 l0_8 x8_3).f0) ((rd_T26 l0_8 x8_3).f1.f0) ((rd_T26 l0_8 x8_3).f1.f1) ((rd_T26 l0_8 x8_3).f1.f2) ((rd_T26 l0_8 x8_3).f2) ((rd_T26 l0_8 x8_3).f3) ((rd_T26 l0_8 x8_3).f4) ((rd_T26 l0_8 x8_3).f5) _ _ ((rd_T26 l0_8 x8_3).f6) _ _ l1 _ _ l2 true _ ?side1 ?side2 ?side3 ?side4 ?side5 ?side6 A29.out).mono ?_); (case side1 => repeat (first | exact (Kd.C_below HR447_8.out HB.out) | (with_reducible refine Kd.C_alloc ?_ _) | (with_reducible refine Kd.C_drewN ?_ _) | (with_reducible refine Kd.C_drew ?_))); (case side2 => exact HC447_8.out); (case side3 => repeat (first | exact (Kd.C_below HR1.out HB.out) | (with_reducible refine Kd.C_alloc ?_ _) | (with_reducible refine Kd.C_drewN ?_ _) | (with_reducible refine Kd.C_drew ?_))); (case side4 => exact HC1.out); (case side5 => repeat (first | exact (Kd.C_below HR2.out HB.out) | (with_reducible refine Kd.C_alloc ?_ _) | (with_reducible refine Kd.C_drewN ?_ _) | (with_reducible refine Kd.C_drew ?_))); (case side6 => exact HC2.out); rintro e w32 ⟨rfl, hb⟩; have n0_ := Asd.mk (blk_below (g := gb442) (o := .cells #[.int .i64 a0_0, .int .i64 a0_1, .int .i64 a0_2, .string a0_3, .int .i64 a0_4, .int .i64 a0_5, .int .i64 a0_6, .string a0_7, .slice (some ad447) l0_8.length c0_8] 26 (0, 0)) (by (with_reducible repeat (first | refine bkN ?_ _ | refine bkD ?_ | refine bkA ?_ _)); exact BK442.out) hb); have n1_ := Asd.mk (below_step (by repeat (first | (with_reducible first | exact HB.out | apply blA | apply pbN | apply blD | refine blS ?_ GE442.out) | exact HB.out)) hb); clear BK442; clear HB; have BK442 := n0_; have HB := n1_; clear n0_ n1_; (try clear hb); (try clear hb2); (try clear hk); (try clear hi)))
           repeat (go_quiet (first | (go_at_call 40; (with_reducible refine (ih k3 (by have := HJ3.out; have := HJ23.out; have := HK3.out; omega) ((rd_T26 l0_8 x8_3).f0) ((rd_T26 l0_8 x8_3).f1.f0) ((rd_T26 l0_8 x8_3).f1.f1) ((rd_T26 l0_8 x8_3).f1.f2) ((rd_T26 l0_8 x8_3).f2) ((rd_T26 l0_8 x8_3).f3) ((rd_T26 l0_8 x8_3).f4) ((rd_T26 l0_8 x8_3).f5) _ _ ((rd_T26 l0_8 x8_3).f6) _ _ l1 _ _ l2 true _ ?side1 ?side2 ?side3 ?side4 ?side5 ?side6 A29.out).mono ?_); (case side1 => repeat (first | exact (Kd.C_below HR447_8.out HB.out) | (with_reducible refine Kd.C_alloc ?_ _) | (with_reducible refine Kd.C_drewN ?_ _) | (with_reducible refine Kd.C_drew ?_))); (case side2 => exact HC447_8.out); (case side3 => repeat (first | exact (Kd.C_below HR1.out HB.out) | (with_reducible refine Kd.C_alloc ?_ _) | (with_reducible refine Kd.C_drewN ?_ _) | (with_reducible refine Kd.C_drew ?_))); (case side4 => exact HC1.out); (case side5 => repeat (first | exact (Kd.C_below HR2.out HB.out) | (with_reducible refine Kd.C_alloc ?_ _) | (with_reducible refine Kd.C_drewN ?_ _) | (with_reducible refine Kd.C_drew ?_))); (case side6 => exact HC2.out); rintro e w32 ⟨rfl, hb⟩; have n0_ := Asd.mk (blk_below (g := gb442) (o := .cells #[.int .i64 a0_0, .int .i64 a0_1, .int .i64 a0_2, .string a0_3, .int .i64 a0_4, .int .i64 a0_5, .int .i64 a0_6, .string a0_7, .slice (some ad447) l0_8.length c0_8] 26 (0, 0)) (by (with_reducible repeat (first | refine bkN ?_ _ | refine bkD ?_ | refine bkA ?_ _)); exact BK442.out) hb); have n1_ := Asd.mk (below_step (by repeat (first | (with_reducible first | exact HB.out | apply blA | apply pbN | apply blD | refine blS ?_ GE442.out) | exact HB.out)) hb); clear BK442; clear HB; have BK442 := n0_; have HB := n1_; clear n0_ n1_; (try clear hb); (try clear hb2); (try clear hk); (try clear hi))); try go_wp2_with (first | (go_at_call 40; (with_reducible refine (ih k3 (by have := HJ3.out; have := HJ23.out; have := HK3.out; omega) ((rd_T26 l0_8 x8_3).f0) ((rd_T26 l0_8 x8_3).f1.f0) ((rd_T26 l0_8 x8_3).f1.f1) ((rd_T26 l0_8 x8_3).f1.f2) ((rd_T26 l0_8 x8_3).f2) ((rd_T26 l0_8 x8_3).f3) ((rd_T26 l0_8 x8_3).f4) ((rd_T26 l0_8 x8_3).f5) _ _ ((rd_T26 l0_8 x8_3).f6) _ _ l1 _ _ l2 true _ ?side1 ?side2 ?side3 ?side4 ?side5 ?side6 A29.out).mono ?_); (case side1 => repeat (first | exact (Kd.C_below HR447_8.out HB.out) | (with_reducible refine Kd.C_alloc ?_ _) | (with_reducible refine Kd.C_drewN ?_ _) | (with_reducible refine Kd.C_drew ?_))); (case side2 => exact HC447_8.out); (case side3 => repeat (first | exact (Kd.C_below HR1.out HB.out) | (with_reducible refine Kd.C_alloc ?_ _) | (with_reducible refine Kd.C_drewN ?_ _) | (with_reducible refine Kd.C_drew ?_))); (case side4 => exact HC1.out); (case side5 => repeat (first | exact (Kd.C_below HR2.out HB.out) | (with_reducible refine Kd.C_alloc ?_ _) | (with_reducible refine Kd.C_drewN ?_ _) | (with_reducible refine Kd.C_drew ?_))); (case side6 => exact HC2.out); rintro e w32 ⟨rfl, hb⟩; have n0_ := Asd.mk (blk_below (g := gb442) (o := .cells #[.int .i64 a0_0, .int .i64 a0_1, .int .i64 a0_2, .string a0_3, .int .i64 a0_4, .int .i64 a0_5, .int .i64 a0_6, .string a0_7, .slice (some ad447) l0_8.length c0_8] 26 (0, 0)) (by (with_reducible repeat (first | refine bkN ?_ _ | refine bkD ?_ | refine bkA ?_ _)); exact BK442.out) hb); have n1_ := Asd.mk (below_step (by repeat (first | (with_reducible first | exact HB.out | apply blA | apply pbN | apply blD | refine blS ?_ GE442.out) | exact HB.out)) hb); clear BK442; clear HB; have BK442 := n0_; have HB := n1_; clear n0_ n1_; (try clear hb); (try clear hb2); (try clear hk); (try clear hi))))
           go_roundg k3
           case measure => have := HJ3.out; have := HJ23.out; have := HK3.out; omega
           case rel => exact ⟨(wrap64 (x8_3 + 1)), (by first | rfl | (simp; done) | (simp [*]; done)), H', ⟨by have := HJ3.out; have := HJ23.out; have := HK3.out; omega⟩, ⟨by (with_reducible repeat (first | refine bkN ?_ _ | refine bkD ?_ | refine bkA ?_ _)); exact BK442.out⟩, ⟨by repeat (first | (with_reducible first | exact HB.out | apply blA | apply pbN | apply blD | refine blS ?_ GE442.out) | exact HB.out)⟩⟩
          ·replace c30 := Bool.eq_false_iff.mpr c30
           subst c30
           have H1 : (some false) = some r := by rw [if_neg (show ¬ (false = true) by decide)] at H; exact H
           clear H
           have H := H1
           clear H1
           obtain rfl := Option.some.inj H
           have hcz33_0 : wr.cell? ⟨gb442, 0, none⟩ = some (.int .i64 a0_0) := (bkC BK442.out 0).trans rfl
           have hcz33_1 : wr.cell? ⟨gb442, 1, none⟩ = some (.int .i64 a0_1) := (bkC BK442.out 1).trans rfl
           have hcz33_2 : wr.cell? ⟨gb442, 2, none⟩ = some (.int .i64 a0_2) := (bkC BK442.out 2).trans rfl
           have hcz33_3 : wr.cell? ⟨gb442, 3, none⟩ = some (.string a0_3) := (bkC BK442.out 3).trans rfl
           have hcz33_4 : wr.cell? ⟨gb442, 4, none⟩ = some (.int .i64 a0_4) := (bkC BK442.out 4).trans rfl
           have hcz33_5 : wr.cell? ⟨gb442, 5, none⟩ = some (.int .i64 a0_5) := (bkC BK442.out 5).trans rfl
           have hcz33_6 : wr.cell? ⟨gb442, 6, none⟩ = some (.int .i64 a0_6) := (bkC BK442.out 6).trans rfl
           have hcz33_7 : wr.cell? ⟨gb442, 7, none⟩ = some (.string a0_7) := (bkC BK442.out 7).trans rfl
           have hcz33_8 : wr.cell? ⟨gb442, 8, none⟩ = some (.slice A0_8 l0_8.length c0_8) := (bkC BK442.out 8).trans rfl
           have hfz33_0 := bkF BK442.out 0
           have hfz33_1 := bkF BK442.out 1
           have hfz33_2 := bkF BK442.out 2
           have hfz33_3 := bkF BK442.out 3
           have hfz33_4 := bkF BK442.out 4
           have hfz33_5 := bkF BK442.out 5
           have hfz33_6 := bkF BK442.out 6
           have hfz33_7 := bkF BK442.out 7
           have hfz33_8 := bkF BK442.out 8
           have p447 : 0 ≤ (x8_3 : Int) := of_decide_eq_true (by first | (with_reducible assumption) | assumption)
           have q447 : x8_3 < (l0_8.length : Int) := of_decide_eq_true (by first | (with_reducible assumption) | assumption)
           obtain ⟨ad447, A447_8, c447_8, e447, hx447_0, hx447_1, hx447_2, hx447_3, hx447_4, hx447_5, hx447_6, hx447_7, hx447_8, hl447_8, hi447_8⟩ := at_T26 HR0_8.out x8_3 p447 q447
           cases e447
           replace hx447_0 := (HB.out.cell (World.block_lt_of_cell? w _ hx447_0)).trans hx447_0
           replace hx447_1 := (HB.out.cell (World.block_lt_of_cell? w _ hx447_1)).trans hx447_1
           replace hx447_2 := (HB.out.cell (World.block_lt_of_cell? w _ hx447_2)).trans hx447_2
           replace hx447_3 := (HB.out.cell (World.block_lt_of_cell? w _ hx447_3)).trans hx447_3
           replace hx447_4 := (HB.out.cell (World.block_lt_of_cell? w _ hx447_4)).trans hx447_4
           replace hx447_5 := (HB.out.cell (World.block_lt_of_cell? w _ hx447_5)).trans hx447_5
           replace hx447_6 := (HB.out.cell (World.block_lt_of_cell? w _ hx447_6)).trans hx447_6
           replace hx447_7 := (HB.out.cell (World.block_lt_of_cell? w _ hx447_7)).trans hx447_7
           replace hx447_8 := (HB.out.cell (World.block_lt_of_cell? w _ hx447_8)).trans hx447_8
           have HR447_8 := Asd.mk hi447_8
           have HC447_8 := Asd.mk hl447_8
           clear hi447_8 hl447_8
           replace p447 := eq_true p447
           replace q447 := eq_true q447
           go_wp2_with (first | (go_at_call 40; (with_reducible refine (ih k3 (by have := HJ3.out; have := HJ23.out; have := HK3.out; omega) ((rd_T26 l0_8 x8_3).f0) ((rd_T26 l0_8 x8_3).f1.f0) ((rd_T26 l0_8 x8_3).f1.f1) ((rd_T26 l0_8 x8_3).f1.f2) ((rd_T26 l0_8 x8_3).f2) ((rd_T26 l0_8 x8_3).f3) ((rd_T26 l0_8 x8_3).f4) ((rd_T26 l0_8 x8_3).f5) _ _ ((rd_T26 l0_8 x8_3).f6) _ _ l1 _ _ l2 false _ ?side1 ?side2 ?side3 ?side4 ?side5 ?side6 A29.out).mono ?_); (case side1 => repeat (first | exact (Kd.C_below HR447_8.out HB.out) | (with_reducible refine Kd.C_alloc ?_ _) | (with_reducible refine Kd.C_drewN ?_ _) | (with_reducible refine Kd.C_drew ?_))); (case side2 => exact HC447_8.out); (case side3 => repeat (first | exact (Kd.C_below HR1.out HB.out) | (with_reducible refine Kd.C_alloc ?_ _) | (with_reducible refine Kd.C_drewN ?_ _) | (with_reducible refine Kd.C_drew ?_))); (case side4 => exact HC1.out); (case side5 => repeat (first | exact (Kd.C_below HR2.out HB.out) | (with_reducible refine Kd.C_alloc ?_ _) | (with_reducible refine Kd.C_drewN ?_ _) | (with_reducible refine Kd.C_drew ?_))); (case side6 => exact HC2.out); rintro e w34 ⟨rfl, hb⟩; have n0_ := Asd.mk (blk_below (g := gb442) (o := .cells #[.int .i64 a0_0, .int .i64 a0_1, .int .i64 a0_2, .string a0_3, .int .i64 a0_4, .int .i64 a0_5, .int .i64 a0_6, .string a0_7, .slice (some ad447) l0_8.length c0_8] 26 (0, 0)) (by (with_reducible repeat (first | refine bkN ?_ _ | refine bkD ?_ | refine bkA ?_ _)); exact BK442.out) hb); have n1_ := Asd.mk (below_step (by repeat (first | (with_reducible first | exact HB.out | apply blA | apply pbN | apply blD | refine blS ?_ GE442.out) | exact HB.out)) hb); clear BK442; clear HB; have BK442 := n0_; have HB := n1_; clear n0_ n1_; (try clear hb); (try clear hb2); (try clear hk); (try clear hi)))
           repeat (go_quiet (first | (go_at_call 40; (with_reducible refine (ih k3 (by have := HJ3.out; have := HJ23.out; have := HK3.out; omega) ((rd_T26 l0_8 x8_3).f0) ((rd_T26 l0_8 x8_3).f1.f0) ((rd_T26 l0_8 x8_3).f1.f1) ((rd_T26 l0_8 x8_3).f1.f2) ((rd_T26 l0_8 x8_3).f2) ((rd_T26 l0_8 x8_3).f3) ((rd_T26 l0_8 x8_3).f4) ((rd_T26 l0_8 x8_3).f5) _ _ ((rd_T26 l0_8 x8_3).f6) _ _ l1 _ _ l2 false _ ?side1 ?side2 ?side3 ?side4 ?side5 ?side6 A29.out).mono ?_); (case side1 => repeat (first | exact (Kd.C_below HR447_8.out HB.out) | (with_reducible refine Kd.C_alloc ?_ _) | (with_reducible refine Kd.C_drewN ?_ _) | (with_reducible refine Kd.C_drew ?_))); (case side2 => exact HC447_8.out); (case side3 => repeat (first | exact (Kd.C_below HR1.out HB.out) | (with_reducible refine Kd.C_alloc ?_ _) | (with_reducible refine Kd.C_drewN ?_ _) | (with_reducible refine Kd.C_drew ?_))); (case side4 => exact HC1.out); (case side5 => repeat (first | exact (Kd.C_below HR2.out HB.out) | (with_reducible refine Kd.C_alloc ?_ _) | (with_reducible refine Kd.C_drewN ?_ _) | (with_reducible refine Kd.C_drew ?_))); (case side6 => exact HC2.out); rintro e w34 ⟨rfl, hb⟩; have n0_ := Asd.mk (blk_below (g := gb442) (o := .cells #[.int .i64 a0_0, .int .i64 a0_1, .int .i64 a0_2, .string a0_3, .int .i64 a0_4, .int .i64 a0_5, .int .i64 a0_6, .string a0_7, .slice (some ad447) l0_8.length c0_8] 26 (0, 0)) (by (with_reducible repeat (first | refine bkN ?_ _ | refine bkD ?_ | refine bkA ?_ _)); exact BK442.out) hb); have n1_ := Asd.mk (below_step (by repeat (first | (with_reducible first | exact HB.out | apply blA | apply pbN | apply blD | refine blS ?_ GE442.out) | exact HB.out)) hb); clear BK442; clear HB; have BK442 := n0_; have HB := n1_; clear n0_ n1_; (try clear hb); (try clear hb2); (try clear hk); (try clear hi))); try go_wp2_with (first | (go_at_call 40; (with_reducible refine (ih k3 (by have := HJ3.out; have := HJ23.out; have := HK3.out; omega) ((rd_T26 l0_8 x8_3).f0) ((rd_T26 l0_8 x8_3).f1.f0) ((rd_T26 l0_8 x8_3).f1.f1) ((rd_T26 l0_8 x8_3).f1.f2) ((rd_T26 l0_8 x8_3).f2) ((rd_T26 l0_8 x8_3).f3) ((rd_T26 l0_8 x8_3).f4) ((rd_T26 l0_8 x8_3).f5) _ _ ((rd_T26 l0_8 x8_3).f6) _ _ l1 _ _ l2 false _ ?side1 ?side2 ?side3 ?side4 ?side5 ?side6 A29.out).mono ?_); (case side1 => repeat (first | exact (Kd.C_below HR447_8.out HB.out) | (with_reducible refine Kd.C_alloc ?_ _) | (with_reducible refine Kd.C_drewN ?_ _) | (with_reducible refine Kd.C_drew ?_))); (case side2 => exact HC447_8.out); (case side3 => repeat (first | exact (Kd.C_below HR1.out HB.out) | (with_reducible refine Kd.C_alloc ?_ _) | (with_reducible refine Kd.C_drewN ?_ _) | (with_reducible refine Kd.C_drew ?_))); (case side4 => exact HC1.out); (case side5 => repeat (first | exact (Kd.C_below HR2.out HB.out) | (with_reducible refine Kd.C_alloc ?_ _) | (with_reducible refine Kd.C_drewN ?_ _) | (with_reducible refine Kd.C_drew ?_))); (case side6 => exact HC2.out); rintro e w34 ⟨rfl, hb⟩; have n0_ := Asd.mk (blk_below (g := gb442) (o := .cells #[.int .i64 a0_0, .int .i64 a0_1, .int .i64 a0_2, .string a0_3, .int .i64 a0_4, .int .i64 a0_5, .int .i64 a0_6, .string a0_7, .slice (some ad447) l0_8.length c0_8] 26 (0, 0)) (by (with_reducible repeat (first | refine bkN ?_ _ | refine bkD ?_ | refine bkA ?_ _)); exact BK442.out) hb); have n1_ := Asd.mk (below_step (by repeat (first | (with_reducible first | exact HB.out | apply blA | apply pbN | apply blD | refine blS ?_ GE442.out) | exact HB.out)) hb); clear BK442; clear HB; have BK442 := n0_; have HB := n1_; clear n0_ n1_; (try clear hb); (try clear hb2); (try clear hk); (try clear hi))))
           go_ret
           exact ⟨by first | rfl | (simp [errW_none, errW_some] <;> rfl) | (simp [*, errW_none, errW_some] <;> rfl), by repeat (first | (with_reducible first | exact HB.out | apply blA | apply pbN | apply blD | refine blS ?_ GE442.out) | exact HB.out)⟩
         ·rw [if_neg c28] at H
          exact absurd H (by simp)
        ·rw [if_neg c27] at H
         have c27b0 : decide (x8_3 < (l0_8.length : Int)) = false := decide_eq_false c27
         clear c27
         obtain rfl := Option.some.inj H
         have hcz35_0 : wr.cell? ⟨gb442, 0, none⟩ = some (.int .i64 a0_0) := (bkC BK442.out 0).trans rfl
         have hcz35_1 : wr.cell? ⟨gb442, 1, none⟩ = some (.int .i64 a0_1) := (bkC BK442.out 1).trans rfl
         have hcz35_2 : wr.cell? ⟨gb442, 2, none⟩ = some (.int .i64 a0_2) := (bkC BK442.out 2).trans rfl
         have hcz35_3 : wr.cell? ⟨gb442, 3, none⟩ = some (.string a0_3) := (bkC BK442.out 3).trans rfl
         have hcz35_4 : wr.cell? ⟨gb442, 4, none⟩ = some (.int .i64 a0_4) := (bkC BK442.out 4).trans rfl
         have hcz35_5 : wr.cell? ⟨gb442, 5, none⟩ = some (.int .i64 a0_5) := (bkC BK442.out 5).trans rfl
         have hcz35_6 : wr.cell? ⟨gb442, 6, none⟩ = some (.int .i64 a0_6) := (bkC BK442.out 6).trans rfl
         have hcz35_7 : wr.cell? ⟨gb442, 7, none⟩ = some (.string a0_7) := (bkC BK442.out 7).trans rfl
         have hcz35_8 : wr.cell? ⟨gb442, 8, none⟩ = some (.slice A0_8 l0_8.length c0_8) := (bkC BK442.out 8).trans rfl
         have hfz35_0 := bkF BK442.out 0
         have hfz35_1 := bkF BK442.out 1
         have hfz35_2 := bkF BK442.out 2
         have hfz35_3 := bkF BK442.out 3
         have hfz35_4 := bkF BK442.out 4
         have hfz35_5 := bkF BK442.out 5
         have hfz35_6 := bkF BK442.out 6
         have hfz35_7 := bkF BK442.out 7
         have hfz35_8 := bkF BK442.out 8
         go_wp2
         repeat (go_quiet (fail); try go_wp2)
         go_ret
         exact ⟨by first | rfl | (simp [errW_none, errW_some] <;> rfl) | (simp [*, errW_none, errW_some] <;> rfl), by repeat (first | (with_reducible first | exact HB.out | apply blA | apply pbN | apply blD | refine blS ?_ GE442.out) | exact HB.out)⟩
end Go.Proofs.YtkboodfnegedaaaDoor.E
