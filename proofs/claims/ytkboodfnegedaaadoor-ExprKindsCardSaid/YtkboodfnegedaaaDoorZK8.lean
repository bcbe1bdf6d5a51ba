/- Contracts and plain lemmas of the functions that the law reaches, part 8. -/
import Derived.Test.YtkboodfnegedaaaDoorZK3
namespace Go.Proofs.YtkboodfnegedaaaDoor.E
open Go.RowKit Go.Proofs.YtkboodfnegedaaaDoorW.PrintWords Go.Proofs.YtkboodfnegedaaaDoorW.PrintLast Go.Proofs.YtkboodfnegedaaaDoorW.PrintMore
attribute [local go_sem] max2_int min2_int max_two min_two max_three min_three max_four min_four   -- for this text's walks alone
set_option linter.unusedVariables false
set_option linter.unusedSimpArgs false
mutual
def q08_kind.l0 : Nat → List (List Int) → List Int → List Int → Int → Int → Int → Int → ByteArray → Int → Int → Int → ByteArray → List (S26) → Option (Int × Bool)
 | 0, _, _, _, _, _, _, _, _, _, _, _, _, _ => none
 | k + 1, x1, x2, x8, x9, x450000, x450001, x450002, x450003, x450004, x450005, x450006, x450007, x450008 => if x9 < (x450008.length : Int) then (if 0 ≤ x9 then ((q08_kind.f k ((rd_T26 x450008 x9).f0) ((rd_T26 x450008 x9).f1.f0) ((rd_T26 x450008 x9).f1.f1) ((rd_T26 x450008 x9).f1.f2) ((rd_T26 x450008 x9).f2) ((rd_T26 x450008 x9).f3) ((rd_T26 x450008 x9).f4) ((rd_T26 x450008 x9).f5) ((rd_T26 x450008 x9).f6) x1 x2).bind fun bt454 => (if bt454.2 = true then (if x8.length < 17592186044416 then (q08_kind.l0 k x1 x2 (x8 ++ [bt454.1]) (wrap64 (x9 + 1)) x450000 x450001 x450002 x450003 x450004 x450005 x450006 x450007 x450008) else (none)) else (some (0, false)))) else (none)) else (if x450000 ≤ 8 then (q08_kind.l1 k x8 0) else (if x450000 ≤ 14 then (if 0 < (x8.length : Int) then (if 1 < (x8.length : Int) then (if (rd x8 0) = (rd x8 1) then (some (2, true)) else (if (rd x8 0) = 0 then (some (2, true)) else (some (2, ((rd x8 1) == 0))))) else (none)) else (none)) else (if x450000 = 18 then (some (2, true)) else (q08_kind.l2 k x8 0))))
def q08_kind.l1 : Nat → List Int → Int → Option (Int × Bool)
 | 0, _, _ => none
 | k + 1, x8, x12 => if x12 < (x8.length : Int) then (if 0 ≤ x12 then (if (rd x8 x12) = 1 then (q08_kind.l1 k x8 (wrap64 (x12 + 1))) else (if (rd x8 x12) = 0 then (q08_kind.l1 k x8 (wrap64 (x12 + 1))) else (some (0, false)))) else (none)) else (some (1, true))
def q08_kind.l2 : Nat → List Int → Int → Option (Int × Bool)
 | 0, _, _ => none
 | k + 1, x8, x13 => if x13 < (x8.length : Int) then (if 0 ≤ x13 then (if (rd x8 x13) = 2 then (q08_kind.l2 k x8 (wrap64 (x13 + 1))) else (if (rd x8 x13) = 0 then (q08_kind.l2 k x8 (wrap64 (x13 + 1))) else (some (0, false)))) else (none)) else (some (2, true))
def q08_kind.f : Nat → Int → Int → Int → ByteArray → Int → Int → Int → ByteArray → List (S26) → List (List Int) → List Int → Option (Int × Bool)
 | 0, _, _, _, _, _, _, _, _, _, _, _ => none
 | k + 1, a0_0, a0_1, a0_2, a0_3, a0_4, a0_5, a0_6, a0_7, l0_8, l1, l2 => if a0_0 = 1 then (some (a0_1, true)) else (if a0_0 = 2 then (if 0 ≤ a0_4 then (if a0_4 < (l1.length : Int) then (if 0 ≤ a0_5 then (if a0_5 < ((rd_L4 l1 a0_4).length : Int) then (some (rd (rd_L4 l1 a0_4) a0_5, true)) else (none)) else (none)) else (none)) else (none)) else (if a0_0 = 3 then (if 0 ≤ (wrap64 (a0_6 - 1)) then (if (wrap64 (a0_6 - 1)) < (l2.length : Int) then (some (rd l2 (wrap64 (a0_6 - 1)), true)) else (none)) else (none)) else (q08_kind.l0 k l1 l2 ([] : List Int) 0 a0_0 a0_1 a0_2 a0_3 a0_4 a0_5 a0_6 a0_7 l0_8)))
end
set_option maxHeartbeats 8000000 in
set_option maxRecDepth 100000 in
theorem q08_kind.calls (k : Nat) : ∀ (a0_0 : Int) (a0_1 : Int) (a0_2 : Int) (a0_3 : ByteArray) (a0_4 : Int) (a0_5 : Int) (a0_6 : Int) (a0_7 : ByteArray) (A0_8 : Option Addr) (c0_8 : Nat) (l0_8 : List (S26)) (A1 : Option Addr) (c1 : Nat) (l1 : List (List Int)) (A2 : Option Addr) (c2 : Nat) (l2 : List Int) (r1 : Int) (r2 : Bool) (w : World) (hr0_8 : Kd.C k26 w A0_8 l0_8.length l0_8) (hc0_8 : l0_8.length ≤ c0_8) (hr1 : Kd.C (Kd.slice 3 (Kd.int .i64)) w A1 l1.length l1) (hc1 : l1.length ≤ c1) (hr2 : Kd.C (Kd.int .i64) w A2 l2.length l2) (hc2 : l2.length ≤ c2) (h : q08_kind.f k a0_0 a0_1 a0_2 a0_3 a0_4 a0_5 a0_6 a0_7 l0_8 l1 l2 = some (r1, r2)),
  Calls Tryd.prog 41 #[.agg #[.int .i64 a0_0, .int .i64 a0_1, .int .i64 a0_2, .string a0_3, .int .i64 a0_4, .int .i64 a0_5, .int .i64 a0_6, .string a0_7, .slice A0_8 l0_8.length c0_8], .slice A1 l1.length c1, .slice A2 l2.length c2] w fun e w' => e = .returned (.tuple #[.int .i64 r1, .bool r2]) ∧ Below w.heap.size w w' := by
 induction k using Nat.strongRecOn with
 | _ k ih =>
 intro a0_0 a0_1 a0_2 a0_3 a0_4 a0_5 a0_6 a0_7 A0_8 c0_8 l0_8 A1 c1 l1 A2 c2 l2 r1 r2 w hr0_8 hc0_8 hr1 hc1 hr2 hc2 h
 cases k with
 | zero => exact absurd h (by simp [q08_kind.f])
 | succ k =>
 simp only [q08_kind.f] at h
 have hu26 := Tryd.underlying26
 have HR0_8 := Asd.mk hr0_8
 have HC0_8 := Asd.mk hc0_8
 clear hr0_8 hc0_8
 have HR1 := Asd.mk hr1
 have HC1 := Asd.mk hc1
 clear hr1 hc1
 have HR2 := Asd.mk hr2
 have HC2 := Asd.mk hc2
 clear hr2 hc2
 have HB := Asd.mk (Below.refl w.heap.size w)
 have H : (if a0_0 = 1 then (some (a0_1, true)) else (if a0_0 = 2 then (if 0 ≤ a0_4 then (if a0_4 < (l1.length : Int) then (if 0 ≤ a0_5 then (if a0_5 < ((rd_L4 l1 a0_4).length : Int) then (some (rd (rd_L4 l1 a0_4) a0_5, true)) else (none)) else (none)) else (none)) else (none)) else (if a0_0 = 3 then (if 0 ≤ (wrap64 (a0_6 - 1)) then (if (wrap64 (a0_6 - 1)) < (l2.length : Int) then (some (rd l2 (wrap64 (a0_6 - 1)), true)) else (none)) else (none)) else (q08_kind.l0 k l1 l2 ([] : List Int) 0 a0_0 a0_1 a0_2 a0_3 a0_4 a0_5 a0_6 a0_7 l0_8)))) = some (r1, r2) := h
 clear h
 by_cases c4 : a0_0 = 1
 ·rw [if_pos c4] at H
  have c4b0 : (a0_0 == 1) = true := beq_iff_eq.mpr c4
  have c4b1 : (a0_0 != 1) = false := bne_eq_false_iff_eq.mpr c4
  clear c4
  simp only [Option.some.injEq, Prod.mk.injEq] at H
  obtain ⟨rfl, rfl⟩ := H
  go_enter Tryd.func41, Tryd.ntmps41
  go_wp2_with (first | ((with_reducible refine gate_dst (N := 3) rfl ?_); refine box_event ?hg (N := 3) ?hd (cs := #[.int .i64 a0_0, .int .i64 a0_1, .int .i64 a0_2, .string a0_3, .int .i64 a0_4, .int .i64 a0_5, .int .i64 a0_6, .string a0_7, .slice A0_8 l0_8.length c0_8]) (t := 26) ?hr ?_; (case hd => rfl); (case hg => rfl); (case hr => first | (go_simp; done) | (go_simp; rfl)); intro gb449 hg w5 hbox hb; have n0_ := Asd.mk (below_step (by repeat (first | (with_reducible first | exact HB.out | apply blA | apply pbN | apply blD) | exact HB.out)) hb); have n1_ := Asd.mk (hbox); have n2_ := Asd.mk ((by rw [hg]; exact (below_size (by repeat (first | (with_reducible first | exact HB.out | apply blA | apply pbN | apply blD) | exact HB.out))) : w.heap.size ≤ gb449)); have n3_ := Asd.mk ((by rw [hg]; exact (below_size (by repeat (first | (with_reducible first | exact HB.out | apply blA | apply pbN | apply blD) | exact HB.out))) : w.heap.size ≤ gb449)); clear HB; have HB := n0_; have BK449 := n1_; have GW449 := n2_; have GE449 := n3_; clear n0_ n1_ n2_ n3_; clear hb hbox hg; have hcz6_0 : w5.cell? ⟨gb449, 0, none⟩ = some (.int .i64 a0_0) := (bkC BK449.out 0).trans rfl; have hcz6_1 : w5.cell? ⟨gb449, 1, none⟩ = some (.int .i64 a0_1) := (bkC BK449.out 1).trans rfl; have hcz6_2 : w5.cell? ⟨gb449, 2, none⟩ = some (.int .i64 a0_2) := (bkC BK449.out 2).trans rfl; have hcz6_3 : w5.cell? ⟨gb449, 3, none⟩ = some (.string a0_3) := (bkC BK449.out 3).trans rfl; have hcz6_4 : w5.cell? ⟨gb449, 4, none⟩ = some (.int .i64 a0_4) := (bkC BK449.out 4).trans rfl; have hcz6_5 : w5.cell? ⟨gb449, 5, none⟩ = some (.int .i64 a0_5) := (bkC BK449.out 5).trans rfl; have hcz6_6 : w5.cell? ⟨gb449, 6, none⟩ = some (.int .i64 a0_6) := (bkC BK449.out 6).trans rfl; have hcz6_7 : w5.cell? ⟨gb449, 7, none⟩ = some (.string a0_7) := (bkC BK449.out 7).trans rfl; have hcz6_8 : w5.cell? ⟨gb449, 8, none⟩ = some (.slice A0_8 l0_8.length c0_8) := (bkC BK449.out 8).trans rfl; have hfz6_0 := bkF BK449.out 0; have hfz6_1 := bkF BK449.out 1; have hfz6_2 := bkF BK449.out 2; have hfz6_3 := bkF BK449.out 3; have hfz6_4 := bkF BK449.out 4; have hfz6_5 := bkF BK449.out 5; have hfz6_6 := bkF BK449.out 6; have hfz6_7 := bkF BK449.out 7; have hfz6_8 := bkF BK449.out 8))
  repeat (go_quiet (first | ((with_reducible refine gate_dst (N := 3) rfl ?_); refine box_event ?hg (N := 3) ?hd (cs := #[.int .i64 a0_0, .int .i64 a0_1, .int .i64 a0_2, .string a0_3, .int .i64 a0_4, .int .i64 a0_5, .int .i64 a0_6, .string a0_7, .slice A0_8 l0_8.length c0_8]) (t := 26) ?hr ?_; (case hd => rfl); (case hg => rfl); (case hr => first | (go_simp; done) | (go_simp; rfl)); intro gb449 hg w5 hbox hb; have n0_ := Asd.mk (below_step (by repeat (first | (with_reducible first | exact HB.out | apply blA | apply pbN | apply blD) | exact HB.out)) hb); have n1_ := Asd.mk (hbox); have n2_ := Asd.mk ((by rw [hg]; exact (below_size (by repeat (first | (with_reducible first | exact HB.out | apply blA | apply pbN | apply blD) | exact HB.out))) : w.heap.size ≤ gb449)); have n3_ := Asd.mk ((by rw [hg]; exact (below_size (by repeat (first | (with_reducible first | exact HB.out | apply blA | apply pbN | apply blD) | exact HB.out))) : w.heap.size ≤ gb449)); clear HB; have HB := n0_; have BK449 := n1_; have GW449 := n2_; have GE449 := n3_; clear n0_ n1_ n2_ n3_; clear hb hbox hg; have hcz6_0 : w5.cell? ⟨gb449, 0, none⟩ = some (.int .i64 a0_0) := (bkC BK449.out 0).trans rfl; have hcz6_1 : w5.cell? ⟨gb449, 1, none⟩ = some (.int .i64 a0_1) := (bkC BK449.out 1).trans rfl; have hcz6_2 : w5.cell? ⟨gb449, 2, none⟩ = some (.int .i64 a0_2) := (bkC BK449.out 2).trans rfl; have hcz6_3 : w5.cell? ⟨gb449, 3, none⟩ = some (.string a0_3) := (bkC BK449.out 3).trans rfl; have hcz6_4 : w5.cell? ⟨gb449, 4, none⟩ = some (.int .i64 a0_4) := (bkC BK449.out 4).trans rfl; have hcz6_5 : w5.cell? ⟨gb449, 5, none⟩ = some (.int .i64 a0_5) := (bkC BK449.out 5).trans rfl; have hcz6_6 : w5.cell? ⟨gb449, 6, none⟩ = some (.int .i64 a0_6) := (bkC BK449.out 6).trans rfl; have hcz6_7 : w5.cell? ⟨gb449, 7, none⟩ = some (.string a0_7) := (bkC BK449.out 7).trans rfl; have hcz6_8 : w5.cell? ⟨gb449, 8, none⟩ = some (.slice A0_8 l0_8.length c0_8) := (bkC BK449.out 8).trans rfl; have hfz6_0 := bkF BK449.out 0; have hfz6_1 := bkF BK449.out 1; have hfz6_2 := bkF BK449.out 2; have hfz6_3 := bkF BK449.out 3; have hfz6_4 := bkF BK449.out 4; have hfz6_5 := bkF BK449.out 5; have hfz6_6 := bkF BK449.out 6; have hfz6_7 := bkF BK449.out 7; have hfz6_8 := bkF BK449.out 8)); try go_wp2_with (first | ((with_reducible refine gate_dst (N := 3) rfl ?_); refine box_event ?hg (N := 3) ?hd (cs := #[.int .i64 a0_0, .int .i64 a0_1, .int .i64 a0_2, .string a0_3, .int .i64 a0_4, .int .i64 a0_5, .int .i64 a0_6, .string a0_7, .slice A0_8 l0_8.length c0_8]) (t := 26) ?hr ?_; (case hd => rfl); (case hg => rfl); (case hr => first | (go_simp; done) | (go_simp; rfl)); intro gb449 hg w5 hbox hb; have n0_ := Asd.mk (below_step (by repeat (first | (with_reducible first | exact HB.out | apply blA | apply pbN | apply blD) | exact HB.out)) hb); have n1_ := Asd.mk (hbox); have n2_ := Asd.mk ((by rw [hg]; exact (below_size (by repeat (first | (with_reducible first | exact HB.out | apply blA | apply pbN | apply blD) | exact HB.out))) : w.heap.size ≤ gb449)); have n3_ := Asd.mk ((by rw [hg]; exact (below_size (by repeat (first | (with_reducible first | exact HB.out | apply blA | apply pbN | apply blD) | exact HB.out))) : w.heap.size ≤ gb449)); clear HB; have HB := n0_; have BK449 := n1_; have GW449 := n2_; have GE449 := n3_; clear n0_ n1_ n2_ n3_; clear hb hbox hg; have hcz6_0 : w5.cell? ⟨gb449, 0, none⟩ = some (.int .i64 a0_0) := (bkC BK449.out 0).trans rfl; have hcz6_1 : w5.cell? ⟨gb449, 1, none⟩ = some (.int .i64 a0_1) := (bkC BK449.out 1).trans rfl; have hcz6_2 : w5.cell? ⟨gb449, 2, none⟩ = some (.int .i64 a0_2) := (bkC BK449.out 2).trans rfl; have hcz6_3 : w5.cell? ⟨gb449, 3, none⟩ = some (.string a0_3) := (bkC BK449.out 3).trans rfl; have hcz6_4 : w5.cell? ⟨gb449, 4, none⟩ = some (.int .i64 a0_4) := (bkC BK449.out 4).trans rfl; have hcz6_5 : w5.cell? ⟨gb449, 5, none⟩ = some (.int .i64 a0_5) := (bkC BK449.out 5).trans rfl; have hcz6_6 : w5.cell? ⟨gb449, 6, none⟩ = some (.int .i64 a0_6) := (bkC BK449.out 6).trans rfl; have hcz6_7 : w5.cell? ⟨gb449, 7, none⟩ = some (.string a0_7) := (bkC BK449.out 7).trans rfl; have hcz6_8 : w5.cell? ⟨gb449, 8, none⟩ = some (.slice A0_8 l0_8.length c0_8) := (bkC BK449.out 8).trans rfl; have hfz6_0 := bkF BK449.out 0; have hfz6_1 := bkF BK449.out 1; have hfz6_2 := bkF BK449.out 2; have hfz6_3 := bkF BK449.out 3; have hfz6_4 := bkF BK449.out 4; have hfz6_5 := bkF BK449.out 5; have hfz6_6 := bkF BK449.out 6; have hfz6_7 := bkF BK449.out 7; have hfz6_8 := bkF BK449.out 8)))
  go_ret2
  exact ⟨by first | rfl | (simp [errW_none, errW_some] <;> rfl) | (simp [*, errW_none, errW_some] <;> rfl), by repeat (first | (with_reducible first | exact HB.out | apply blA | apply pbN | apply blD | refine blS ?_ GE449.out) | exact HB.out)⟩
 ·rw [if_neg c4] at H
  have c4b0 : (a0_0 == 1) = false := beq_eq_false_iff_ne.mpr c4
  have c4b1 : (a0_0 != 1) = true := bne_iff_ne.mpr c4
  by_cases c7 : a0_0 = 2
  ·rw [if_pos c7] at H
   have c7b0 : (a0_0 == 2) = true := beq_iff_eq.mpr c7
   have c7b1 : (a0_0 != 2) = false := bne_eq_false_iff_eq.mpr c7
   clear c7
   by_cases c8 : 0 ≤ a0_4
   ·rw [if_pos c8] at H
    have c8b0 : decide (0 ≤ a0_4) = true := decide_eq_true c8
    clear c8
    by_cases c9 : a0_4 < (l1.length : Int)
    ·rw [if_pos c9] at H
     have c9b0 : decide (a0_4 < (l1.length : Int)) = true := decide_eq_true c9
     clear c9
     by_cases c10 : 0 ≤ a0_5
     ·rw [if_pos c10] at H
      have c10b0 : decide (0 ≤ a0_5) = true := decide_eq_true c10
      clear c10
      by_cases c11 : a0_5 < ((rd_L4 l1 a0_4).length : Int)
      ·rw [if_pos c11] at H
       have c11b0 : decide (a0_5 < ((rd_L4 l1 a0_4).length : Int)) = true := decide_eq_true c11
       clear c11
       simp only [Option.some.injEq, Prod.mk.injEq] at H
       obtain ⟨rfl, rfl⟩ := H
       go_enter Tryd.func41, Tryd.ntmps41
       go_wp2_with (first | ((with_reducible refine gate_dst (N := 3) rfl ?_); refine box_event ?hg (N := 3) ?hd (cs := #[.int .i64 a0_0, .int .i64 a0_1, .int .i64 a0_2, .string a0_3, .int .i64 a0_4, .int .i64 a0_5, .int .i64 a0_6, .string a0_7, .slice A0_8 l0_8.length c0_8]) (t := 26) ?hr ?_; (case hd => rfl); (case hg => rfl); (case hr => first | (go_simp; done) | (go_simp; rfl)); intro gb449 hg w12 hbox hb; have n0_ := Asd.mk (below_step (by repeat (first | (with_reducible first | exact HB.out | apply blA | apply pbN | apply blD) | exact HB.out)) hb); have n1_ := Asd.mk (hbox); have n2_ := Asd.mk ((by rw [hg]; exact (below_size (by repeat (first | (with_reducible first | exact HB.out | apply blA | apply pbN | apply blD) | exact HB.out))) : w.heap.size ≤ gb449)); have n3_ := Asd.mk ((by rw [hg]; exact (below_size (by repeat (first | (with_reducible first | exact HB.out | apply blA | apply pbN | apply blD) | exact HB.out))) : w.heap.size ≤ gb449)); clear HB; have HB := n0_; have BK449 := n1_; have GW449 := n2_; have GE449 := n3_; clear n0_ n1_ n2_ n3_; clear hb hbox hg; have hcz13_0 : w12.cell? ⟨gb449, 0, none⟩ = some (.int .i64 a0_0) := (bkC BK449.out 0).trans rfl; have hcz13_1 : w12.cell? ⟨gb449, 1, none⟩ = some (.int .i64 a0_1) := (bkC BK449.out 1).trans rfl; have hcz13_2 : w12.cell? ⟨gb449, 2, none⟩ = some (.int .i64 a0_2) := (bkC BK449.out 2).trans rfl; have hcz13_3 : w12.cell? ⟨gb449, 3, none⟩ = some (.string a0_3) := (bkC BK449.out 3).trans rfl; have hcz13_4 : w12.cell? ⟨gb449, 4, none⟩ = some (.int .i64 a0_4) := (bkC BK449.out 4).trans rfl; have hcz13_5 : w12.cell? ⟨gb449, 5, none⟩ = some (.int .i64 a0_5) := (bkC BK449.out 5).trans rfl; have hcz13_6 : w12.cell? ⟨gb449, 6, none⟩ = some (.int .i64 a0_6) := (bkC BK449.out 6).trans rfl; have hcz13_7 : w12.cell? ⟨gb449, 7, none⟩ = some (.string a0_7) := (bkC BK449.out 7).trans rfl; have hcz13_8 : w12.cell? ⟨gb449, 8, none⟩ = some (.slice A0_8 l0_8.length c0_8) := (bkC BK449.out 8).trans rfl; have hfz13_0 := bkF BK449.out 0; have hfz13_1 := bkF BK449.out 1; have hfz13_2 := bkF BK449.out 2; have hfz13_3 := bkF BK449.out 3; have hfz13_4 := bkF BK449.out 4; have hfz13_5 := bkF BK449.out 5; have hfz13_6 := bkF BK449.out 6; have hfz13_7 := bkF BK449.out 7; have hfz13_8 := bkF BK449.out 8; have p450 : 0 ≤ (a0_4 : Int) := of_decide_eq_true (by first | (with_reducible assumption) | assumption); have q450 : a0_4 < (l1.length : Int) := of_decide_eq_true (by first | (with_reducible assumption) | assumption); obtain ⟨ad450, A450_0, c450_0, e450, hx450_0, hl450_0, hi450_0⟩ := at_L4 HR1.out a0_4 p450 q450; cases e450; replace hx450_0 := (HB.out.cell (World.block_lt_of_cell? w _ hx450_0)).trans hx450_0; have HR450_0 := Asd.mk hi450_0; have HC450_0 := Asd.mk hl450_0; clear hi450_0 hl450_0; replace p450 := eq_true p450; replace q450 := eq_true q450; have p451 : 0 ≤ (a0_5 : Int) := of_decide_eq_true (by first | (with_reducible assumption) | assumption); have q451 : a0_5 < ((rd_L4 l1 a0_4).length : Int) := of_decide_eq_true (by first | (with_reducible assumption) | assumption); obtain ⟨ad451, e451, hx451_0⟩ := Kd.at_int HR450_0.out a0_5 p451 q451; cases e451; replace hx451_0 := (HB.out.cell (World.block_lt_of_cell? w _ hx451_0)).trans hx451_0; replace p451 := eq_true p451; replace q451 := eq_true q451))
       repeat (go_quiet (first | ((with_reducible refine gate_dst (N := 3) rfl ?_); refine box_event ?hg (N := 3) ?hd (cs := #[.int .i64 a0_0, .int .i64 a0_1, .int .i64 a0_2, .string a0_3, .int .i64 a0_4, .int .i64 a0_5, .int .i64 a0_6, .string a0_7, .slice A0_8 l0_8.length c0_8]) (t := 26) ?hr ?_; (case hd => rfl); (case hg => rfl); (case hr => first | (go_simp; done) | (go_simp; rfl)); intro gb449 hg w12 hbox hb; have n0_ := Asd.mk (below_step (by repeat (first | (with_reducible first | exact HB.out | apply blA | apply pbN | apply blD) | exact HB.out)) hb); have n1_ := Asd.mk (hbox); have n2_ := Asd.mk ((by rw [hg]; exact (below_size (by repeat (first | (with_reducible first | exact HB.out | apply blA | apply pbN | apply blD) | exact HB.out))) : w.heap.size ≤ gb449)); have n3_ := Asd.mk ((by rw [hg]; exact (below_size (by repeat (first | (with_reducible first | exact HB.out | apply blA | apply pbN | apply blD) | exact HB.out))) : w.heap.size ≤ gb449)); clear HB; have HB := n0_; have BK449 := n1_; have GW449 := n2_; have GE449 := n3_; clear n0_ n1_ n2_ n3_; clear hb hbox hg; have hcz13_0 : w12.cell? ⟨gb449, 0, none⟩ = some (.int .i64 a0_0) := (bkC BK449.out 0).trans rfl; have hcz13_1 : w12.cell? ⟨gb449, 1, none⟩ = some (.int .i64 a0_1) := (bkC BK449.out 1).trans rfl; have hcz13_2 : w12.cell? ⟨gb449, 2, none⟩ = some (.int .i64 a0_2) := (bkC BK449.out 2).trans rfl; have hcz13_3 : w12.cell? ⟨gb449, 3, none⟩ = some (.string a0_3) := (bkC BK449.out 3).trans rfl; have hcz13_4 : w12.cell? ⟨gb449, 4, none⟩ = some (.int .i64 a0_4) := (bkC BK449.out 4).trans rfl; have hcz13_5 : w12.cell? ⟨gb449, 5, none⟩ = some (.int .i64 a0_5) := (bkC BK449.out 5).trans rfl; have hcz13_6 : w12.cell? ⟨gb449, 6, none⟩ = some (.int .i64 a0_6) := (bkC BK449.out 6).trans rfl; have hcz13_7 : w12.cell? ⟨gb449, 7, none⟩ = some (.string a0_7) := (bkC BK449.out 7).trans rfl; have hcz13_8 : w12.cell? ⟨gb449, 8, none⟩ = some (.slice A0_8 l0_8.length c0_8) := (bkC BK449.out 8).trans rfl; have hfz13_0 := bkF BK449.out 0; have hfz13_1 := bkF BK449.out 1; have hfz13_2 := bkF BK449.out 2; have hfz13_3 := bkF BK449.out 3; have hfz13_4 := bkF BK449.out 4; have hfz13_5 := bkF BK449.out 5; have hfz13_6 := bkF BK449.out 6; have hfz13_7 := bkF BK449.out 7; have hfz13_8 := bkF BK449.out 8; have p450 : 0 ≤ (a0_4 : Int) := of_decide_eq_true (by first | (with_reducible assumption) | assumption); have q450 : a0_4 < (l1.length : Int) := of_decide_eq_true (by first | (with_reducible assumption) | assumption); obtain ⟨ad450, A450_0, c450_0, e450, hx450_0, hl450_0, hi450_0⟩ := at_L4 HR1.out a0_4 p450 q450; cases e450; replace hx450_0 := (HB.out.cell (World.block_lt_of_cell? w _ hx450_0)).trans hx450_0; have HR450_0 := Asd.mk hi450_0; have HC450_0 := Asd.mk hl450_0; clear hi450_0 hl450_0; replace p450 := eq_true p450; replace q450 := eq_true q450; have p451 : 0 ≤ (a0_5 : Int) := of_decide_eq_true (by first | (with_reducible assumption) | assumption); have q451 : a0_5 < ((rd_L4 l1 a0_4).length : Int) := of_decide_eq_true (by first | (with_reducible assumption) | assumption); obtain ⟨ad451, e451, hx451_0⟩ := Kd.at_int HR450_0.out a0_5 p451 q451; cases e451; replace hx451_0 := (HB.out.cell (World.block_lt_of_cell? w _ hx451_0)).trans hx451_0; replace p451 := eq_true p451; replace q451 := eq_true q451)); try go_wp2_with (first | ((with_reducible refine gate_dst (N := 3) rfl ?_); refine box_event ?hg (N := 3) ?hd (cs := #[.int .i64 a0_0, .int .i64 a0_1, .int .i64 a0_2, .string a0_3, .int .i64 a0_4, .int .i64 a0_5, .int .i64 a0_6, .string a0_7, .slice A0_8 l0_8.length c0_8]) (t := 26) ?hr ?_; (case hd => rfl); (case hg => rfl); (case hr => first | (go_simp; done) | (go_simp; rfl)); intro gb449 hg w12 hbox hb; have n0_ := Asd.mk (below_step (by repeat (first | (with_reducible first | exact HB.out | apply blA | apply pbN | apply blD) | exact HB.out)) hb); have n1_ := Asd.mk (hbox); have n2_ := Asd.mk ((by rw [hg]; exact (below_size (by repeat (first | (with_reducible first | exact HB.out | apply blA | apply pbN | apply blD) | exact HB.out))) : w.heap.size ≤ gb449)); have n3_ := Asd.mk ((by rw [hg]; exact (below_size (by repeat (first | (with_reducible first | exact HB.out | apply blA | apply pbN | apply blD) | exact HB.out))) : w.heap.size ≤ gb449)); clear HB; have HB := n0_; have BK449 := n1_; have GW449 := n2_; have GE449 := n3_; clear n0_ n1_ n2_ n3_; clear hb hbox hg; have hcz13_0 : w12.cell? ⟨gb449, 0, none⟩ = some (.int .i64 a0_0) := (bkC BK449.out 0).trans rfl; have hcz13_1 : w12.cell? ⟨gb449, 1, none⟩ = some (.int .i64 a0_1) := (bkC BK449.out 1).trans rfl; have hcz13_2 : w12.cell? ⟨gb449, 2, none⟩ = some (.int .i64 a0_2) := (bkC BK449.out 2).trans rfl; have hcz13_3 : w12.cell? ⟨gb449, 3, none⟩ = some (.string a0_3) := (bkC BK449.out 3).trans rfl; have hcz13_4 : w12.cell? ⟨gb449, 4, none⟩ = some (.int .i64 a0_4) := (bkC BK449.out 4).trans rfl; have hcz13_5 : w12.cell? ⟨gb449, 5, none⟩ = some (.int .i64 a0_5) := (bkC BK449.out 5).trans rfl; have hcz13_6 : w12.cell? ⟨gb449, 6, none⟩ = some (.int .i64 a0_6) := (bkC BK449.out 6).trans rfl; have hcz13_7 : w12.cell? ⟨gb449, 7, none⟩ = some (.string a0_7) := (bkC BK449.out 7).trans rfl; have hcz13_8 : w12.cell? ⟨gb449, 8, none⟩ = some (.slice A0_8 l0_8.length c0_8) := (bkC BK449.out 8).trans rfl; have hfz13_0 := bkF BK449.out 0; have hfz13_1 := bkF BK449.out 1; have hfz13_2 := bkF BK449.out 2; have hfz13_3 := bkF BK449.out 3; have hfz13_4 := bkF BK449.out 4; have hfz13_5 := bkF BK449.out 5; have hfz13_6 := bkF BK449.out 6; have hfz13_7 := bkF BK449.out 7; have hfz13_8 := bkF BK449.out 8; have p450 : 0 ≤ (a0_4 : Int) := of_decide_eq_true (by first | (with_reducible assumption) | assumption); have q450 : a0_4 < (l1.length : Int) := of_decide_eq_true (by first | (with_reducible assumption) | assumption); obtain ⟨ad450, A450_0, c450_0, e450, hx450_0, hl450_0, hi450_0⟩ := at_L4 HR1.out a0_4 p450 q450; cases e450; replace hx450_0 := (HB.out.cell (World.block_lt_of_cell? w _ hx450_0)).trans hx450_0; have HR450_0 := Asd.mk hi450_0; have HC450_0 := Asd.mk hl450_0; clear hi450_0 hl450_0; replace p450 := eq_true p450; replace q450 := eq_true q450; have p451 : 0 ≤ (a0_5 : Int) := of_decide_eq_true (by first | (with_reducible assumption) | assumption); have q451 : a0_5 < ((rd_L4 l1 a0_4).length : Int) := of_decide_eq_true (by first | (with_reducible assumption) | assumption); obtain ⟨ad451, e451, hx451_0⟩ := Kd.at_int HR450_0.out a0_5 p451 q451; cases e451; replace hx451_0 := (HB.out.cell (World.block_lt_of_cell? w _ hx451_0)).trans hx451_0; replace p451 := eq_true p451; replace q451 := eq_true q451)))
       go_ret2
       exact ⟨by first | rfl | (simp [errW_none, errW_some] <;> rfl) | (simp [*, errW_none, errW_some] <;> rfl), by repeat (first | (with_reducible first | exact HB.out | apply blA | apply pbN | apply blD | refine blS ?_ GE449.out) | exact HB.out)⟩
      ·rw [if_neg c11] at H
       exact absurd H (by simp)
     ·rw [if_neg c10] at H
      exact absurd H (by simp)
    ·rw [if_neg c9] at H
     exact absurd H (by simp)
   ·rw [if_neg c8] at H
    exact absurd H (by simp)
  ·rw [if_neg c7] at H
   have c7b0 : (a0_0 == 2) = false := beq_eq_false_iff_ne.mpr c7
   have c7b1 : (a0_0 != 2) = true := bne_iff_ne.mpr c7
   by_cases c14 : a0_0 = 3
   ·rw [if_pos c14] at H
    have c14b0 : (a0_0 == 3) = true := beq_iff_eq.mpr c14
    have c14b1 : (a0_0 != 3) = false := bne_eq_false_iff_eq.mpr c14
    clear c14
    obtain ⟨ji15, hji15⟩ : ∃ j_ : Int, (wrap64 (a0_6 - 1)) = j_ := ⟨_, rfl⟩
    replace H : (if 0 ≤ (ji15) then (if (ji15) < (l2.length : Int) then (some (rd l2 (ji15), true)) else (none)) else (none)) = some (r1, r2) := by first | (rw [hji15] at H; exact H) | (simp only [hji15] at H ⊢; exact H)
    have hji15w : (IntKind.i64.wrap (a0_6 - 1)) = ji15 := (i64_w _).trans hji15
    by_cases c16 : 0 ≤ (ji15)
    ·rw [if_pos c16] at H
     have c16b0 : decide (0 ≤ (ji15)) = true := decide_eq_true c16
     clear c16
     by_cases c17 : (ji15) < (l2.length : Int)
     ·rw [if_pos c17] at H
      have c17b0 : decide ((ji15) < (l2.length : Int)) = true := decide_eq_true c17
      clear c17
      simp only [Option.some.injEq, Prod.mk.injEq] at H
      obtain ⟨rfl, rfl⟩ := H
      go_enter Tryd.func41, Tryd.ntmps41
      go_wp2_with (first | ((with_reducible refine gate_dst (N := 3) rfl ?_); refine box_event ?hg (N := 3) ?hd (cs := #[.int .i64 a0_0, .int .i64 a0_1, .int .i64 a0_2, .string a0_3, .int .i64 a0_4, .int .i64 a0_5, .int .i64 a0_6, .string a0_7, .slice A0_8 l0_8.length c0_8]) (t := 26) ?hr ?_; (case hd => rfl); (case hg => rfl); (case hr => first | (go_simp; done) | (go_simp; rfl)); intro gb449 hg w18 hbox hb; have n0_ := Asd.mk (below_step (by repeat (first | (with_reducible first | exact HB.out | apply blA | apply pbN | apply blD) | exact HB.out)) hb); have n1_ := Asd.mk (hbox); have n2_ := Asd.mk ((by rw [hg]; exact (below_size (by repeat (first | (with_reducible first | exact HB.out | apply blA | apply pbN | apply blD) | exact HB.out))) : w.heap.size ≤ gb449)); have n3_ := Asd.mk ((by rw [hg]; exact (below_size (by repeat (first | (with_reducible first | exact HB.out | apply blA | apply pbN | apply blD) | exact HB.out))) : w.heap.size ≤ gb449)); clear HB; have HB := n0_; have BK449 := n1_; have GW449 := n2_; have GE449 := n3_; clear n0_ n1_ n2_ n3_; clear hb hbox hg; have hcz19_0 : w18.cell? ⟨gb449, 0, none⟩ = some (.int .i64 a0_0) := (bkC BK449.out 0).trans rfl; have hcz19_1 : w18.cell? ⟨gb449, 1, none⟩ = some (.int .i64 a0_1) := (bkC BK449.out 1).trans rfl; have hcz19_2 : w18.cell? ⟨gb449, 2, none⟩ = some (.int .i64 a0_2) := (bkC BK449.out 2).trans rfl; have hcz19_3 : w18.cell? ⟨gb449, 3, none⟩ = some (.string a0_3) := (bkC BK449.out 3).trans rfl; have hcz19_4 : w18.cell? ⟨gb449, 4, none⟩ = some (.int .i64 a0_4) := (bkC BK449.out 4).trans rfl; have hcz19_5 : w18.cell? ⟨gb449, 5, none⟩ = some (.int .i64 a0_5) := (bkC BK449.out 5).trans rfl; have hcz19_6 : w18.cell? ⟨gb449, 6, none⟩ = some (.int .i64 a0_6) := (bkC BK449.out 6).trans rfl; have hcz19_7 : w18.cell? ⟨gb449, 7, none⟩ = some (.string a0_7) := (bkC BK449.out 7).trans rfl; have hcz19_8 : w18.cell? ⟨gb449, 8, none⟩ = some (.slice A0_8 l0_8.length c0_8) := (bkC BK449.out 8).trans rfl; have hfz19_0 := bkF BK449.out 0; have hfz19_1 := bkF BK449.out 1; have hfz19_2 := bkF BK449.out 2; have hfz19_3 := bkF BK449.out 3; have hfz19_4 := bkF BK449.out 4; have hfz19_5 := bkF BK449.out 5; have hfz19_6 := bkF BK449.out 6; have hfz19_7 := bkF BK449.out 7; have hfz19_8 := bkF BK449.out 8; have p452 : 0 ≤ ((ji15) : Int) := of_decide_eq_true (by first | (with_reducible assumption) | assumption); have q452 : (ji15) < (l2.length : Int) := of_decide_eq_true (by first | (with_reducible assumption) | assumption); obtain ⟨ad452, e452, hx452_0⟩ := Kd.at_int HR2.out (ji15) p452 q452; cases e452; replace hx452_0 := (HB.out.cell (World.block_lt_of_cell? w _ hx452_0)).trans hx452_0; replace p452 := eq_true p452; replace q452 := eq_true q452))
      repeat (go_quiet (first | ((with_reducible refine gate_dst (N := 3) rfl ?_); refine box_event ?hg (N := 3) ?hd (cs := #[.int .i64 a0_0, .int .i64 a0_1, .int .i64 a0_2, .string a0_3, .int .i64 a0_4, .int .i64 a0_5, .int .i64 a0_6, .string a0_7, .slice A0_8 l0_8.length c0_8]) (t := 26) ?hr ?_; (case hd => rfl); (case hg => rfl); (case hr => first | (go_simp; done) | (go_simp; rfl)); intro gb449 hg w18 hbox hb; have n0_ := Asd.mk (below_step (by repeat (first | (with_reducible first | exact HB.out | apply blA | apply pbN | apply blD) | exact HB.out)) hb); have n1_ := Asd.mk (hbox); have n2_ := Asd.mk ((by rw [hg]; exact (below_size (by repeat (first | (with_reducible first | exact HB.out | apply blA | apply pbN | apply blD) | exact HB.out))) : w.heap.size ≤ gb449)); have n3_ := Asd.mk ((by rw [hg]; exact (below_size (by repeat (first | (with_reducible first | exact HB.out | apply blA | apply pbN | apply blD) | exact HB.out))) : w.heap.size ≤ gb449)); clear HB; have HB := n0_; have BK449 := n1_; have GW449 := n2_; have GE449 := n3_; clear n0_ n1_ n2_ n3_; clear hb hbox hg; have hcz19_0 : w18.cell? ⟨gb449, 0, none⟩ = some (.int .i64 a0_0) := (bkC BK449.out 0).trans rfl; have hcz19_1 : w18.cell? ⟨gb449, 1, none⟩ = some (.int .i64 a0_1) := (bkC BK449.out 1).trans rfl; have hcz19_2 : w18.cell? ⟨gb449, 2, none⟩ = some (.int .i64 a0_2) := (bkC BK449.out 2).trans rfl; have hcz19_3 : w18.cell? ⟨gb449, 3, none⟩ = some (.string a0_3) := (bkC BK449.out 3).trans rfl; have hcz19_4 : w18.cell? ⟨gb449, 4, none⟩ = some (.int .i64 a0_4) := (bkC BK449.out 4).trans rfl; have hcz19_5 : w18.cell? ⟨gb449, 5, none⟩ = some (.int .i64 a0_5) := (bkC BK449.out 5).trans rfl; have hcz19_6 : w18.cell? ⟨gb449, 6, none⟩ = some (.int .i64 a0_6) := (bkC BK449.out 6).trans rfl; have hcz19_7 : w18.cell? ⟨gb449, 7, none⟩ = some (.string a0_7) := (bkC BK449.out 7).trans rfl; have hcz19_8 : w18.cell? ⟨gb449, 8, none⟩ = some (.slice A0_8 l0_8.length c0_8) := (bkC BK449.out 8).trans rfl; have hfz19_0 := bkF BK449.out 0; have hfz19_1 := bkF BK449.out 1; have hfz19_2 := bkF BK449.out 2; have hfz19_3 := bkF BK449.out 3; have hfz19_4 := bkF BK449.out 4; have hfz19_5 := bkF BK449.out 5; have hfz19_6 := bkF BK449.out 6; have hfz19_7 := bkF BK449.out 7; have hfz19_8 := bkF BK449.out 8; have p452 : 0 ≤ ((ji15) : Int) := of_decide_eq_true (by first | (with_reducible assumption) | assumption); have q452 : (ji15) < (l2.length : Int) := of_decide_eq_true (by first | (with_reducible assumption) | assumption); obtain ⟨ad452, e452, hx452_0⟩ := Kd.at_int HR2.out (ji15) p452 q452; cases e452; replace hx452_0 := (HB.out.cell (World.block_lt_of_cell? w _ hx452_0)).trans hx452_0; replace p452 := eq_true p452; replace q452 := eq_true q452)); try go_wp2_with (first | ((with_reducible refine gate_dst (N := 3) rfl ?_); refine box_event ?hg (N := 3) ?hd (cs := #[.int .i64 a0_0, .int .i64 a0_1, .int .i64 a0_2, .string a0_3, .int .i64 a0_4, .int .i64 a0_5, .int .i64 a0_6, .string a0_7, .slice A0_8 l0_8.length c0_8]) (t := 26) ?hr ?_; (case hd => rfl); (case hg => rfl); (case hr => first | (go_simp; done) | (go_simp; rfl)); intro gb449 hg w18 hbox hb; have n0_ := Asd.mk (below_step (by repeat (first | (with_reducible first | exact HB.out | apply blA | apply pbN | apply blD) | exact HB.out)) hb); have n1_ := Asd.mk (hbox); have n2_ := Asd.mk ((by rw [hg]; exact (below_size (by repeat (first | (with_reducible first | exact HB.out | apply blA | apply pbN | apply blD) | exact HB.out))) : w.heap.size ≤ gb449)); have n3_ := Asd.mk ((by rw [hg]; exact (below_size (by repeat (first | (with_reducible first | exact HB.out | apply blA | apply pbN | apply blD) | exact HB.out))) : w.heap.size ≤ gb449)); clear HB; have HB := n0_; have BK449 := n1_; have GW449 := n2_; have GE449 := n3_; clear n0_ n1_ n2_ n3_; clear hb hbox hg; have hcz19_0 : w18.cell? ⟨gb449, 0, none⟩ = some (.int .i64 a0_0) := (bkC BK449.out 0).trans rfl; have hcz19_1 : w18.cell? ⟨gb449, 1, none⟩ = some (.int .i64 a0_1) := (bkC BK449.out 1).trans rfl; have hcz19_2 : w18.cell? ⟨gb449, 2, none⟩ = some (.int .i64 a0_2) := (bkC BK449.out 2).trans rfl; have hcz19_3 : w18.cell? ⟨gb449, 3, none⟩ = some (.string a0_3) := (bkC BK449.out 3).trans rfl; have hcz19_4 : w18.cell? ⟨gb449, 4, none⟩ = some (.int .i64 a0_4) := (bkC BK449.out 4).trans rfl; have hcz19_5 : w18.cell? ⟨gb449, 5, none⟩ = some (.int .i64 a0_5) := (bkC BK449.out 5).trans rfl; have hcz19_6 : w18.cell? ⟨gb449, 6, none⟩ = some (.int .i64 a0_6) := (bkC BK449.out 6).trans rfl; have hcz19_7 : w18.cell? ⟨gb449, 7, none⟩ = some (.string a0_7) := (bkC BK449.out 7).trans rfl; have hcz19_8 : w18.cell? ⟨gb449, 8, none⟩ = some (.slice A0_8 l0_8.length c0_8) := (bkC BK449.out 8).trans rfl; have hfz19_0 := bkF BK449.out 0; have hfz19_1 := bkF BK449.out 1; have hfz19_2 := bkF BK449.out 2; have hfz19_3 := bkF BK449.out 3; have hfz19_4 := bkF BK449.out 4; have hfz19_5 := bkF BK449.out 5; have hfz19_6 := bkF BK449.out 6; have hfz19_7 := bkF BK449.out 7; have hfz19_8 := bkF BK449.out 8; have p452 : 0 ≤ ((ji15) : Int) := of_decide_eq_true (by first | (with_reducible assumption) | assumption); have q452 : (ji15) < (l2.length : Int) := of_decide_eq_true (by first | (with_reducible assumption) | assumption); obtain ⟨ad452, e452, hx452_0⟩ := Kd.at_int HR2.out (ji15) p452 q452; cases e452; replace hx452_0 := (HB.out.cell (World.block_lt_of_cell? w _ hx452_0)).trans hx452_0; replace p452 := eq_true p452; replace q452 := eq_true q452)))
      go_ret2
      exact ⟨by first | rfl | (simp [errW_none, errW_some] <;> rfl) | (simp only [← hji15]; first | rfl | (simp [errW_none, errW_some] <;> rfl)) | (simp [*, errW_none, errW_some] <;> rfl), by repeat (first | (with_reducible first | exact HB.out | apply blA | apply pbN | apply blD | refine blS ?_ GE449.out) | exact HB.out)⟩
     ·rw [if_neg c17] at H
      exact absurd H (by simp)
    ·rw [if_neg c16] at H
     exact absurd H (by simp)
   ·rw [if_neg c14] at H
    have c14b0 : (a0_0 == 3) = false := beq_eq_false_iff_ne.mpr c14
    have c14b1 : (a0_0 != 3) = true := bne_iff_ne.mpr c14
    have H' := Asd.mk H
    clear H
    go_enter Tryd.func41, Tryd.ntmps41
    go_wp2_with (first | ((with_reducible refine gate_dst (N := 3) rfl ?_); refine box_event ?hg (N := 3) ?hd (cs := #[.int .i64 a0_0, .int .i64 a0_1, .int .i64 a0_2, .string a0_3, .int .i64 a0_4, .int .i64 a0_5, .int .i64 a0_6, .string a0_7, .slice A0_8 l0_8.length c0_8]) (t := 26) ?hr ?_; (case hd => rfl); (case hg => rfl); (case hr => first | (go_simp; done) | (go_simp; rfl)); intro gb449 hg w20 hbox hb; have n0_ := Asd.mk (below_step (by repeat (first | (with_reducible first | exact HB.out | apply blA | apply pbN | apply blD) | exact HB.out)) hb); have n1_ := Asd.mk (hbox); have n2_ := Asd.mk ((by rw [hg]; exact (below_size (by repeat (first | (with_reducible first | exact HB.out | apply blA | apply pbN | apply blD) | exact HB.out))) : w.heap.size ≤ gb449)); have n3_ := Asd.mk ((by rw [hg]; exact (below_size (by repeat (first | (with_reducible first | exact HB.out | apply blA | apply pbN | apply blD) | exact HB.out))) : w.heap.size ≤ gb449)); clear HB; have HB := n0_; have BK449 := n1_; have GW449 := n2_; have GE449 := n3_; clear n0_ n1_ n2_ n3_; clear hb hbox hg; have hcz21_0 : w20.cell? ⟨gb449, 0, none⟩ = some (.int .i64 a0_0) := (bkC BK449.out 0).trans rfl; have hcz21_1 : w20.cell? ⟨gb449, 1, none⟩ = some (.int .i64 a0_1) := (bkC BK449.out 1).trans rfl; have hcz21_2 : w20.cell? ⟨gb449, 2, none⟩ = some (.int .i64 a0_2) := (bkC BK449.out 2).trans rfl; have hcz21_3 : w20.cell? ⟨gb449, 3, none⟩ = some (.string a0_3) := (bkC BK449.out 3).trans rfl; have hcz21_4 : w20.cell? ⟨gb449, 4, none⟩ = some (.int .i64 a0_4) := (bkC BK449.out 4).trans rfl; have hcz21_5 : w20.cell? ⟨gb449, 5, none⟩ = some (.int .i64 a0_5) := (bkC BK449.out 5).trans rfl; have hcz21_6 : w20.cell? ⟨gb449, 6, none⟩ = some (.int .i64 a0_6) := (bkC BK449.out 6).trans rfl; have hcz21_7 : w20.cell? ⟨gb449, 7, none⟩ = some (.string a0_7) := (bkC BK449.out 7).trans rfl; have hcz21_8 : w20.cell? ⟨gb449, 8, none⟩ = some (.slice A0_8 l0_8.length c0_8) := (bkC BK449.out 8).trans rfl; have hfz21_0 := bkF BK449.out 0; have hfz21_1 := bkF BK449.out 1; have hfz21_2 := bkF BK449.out 2; have hfz21_3 := bkF BK449.out 3; have hfz21_4 := bkF BK449.out 4; have hfz21_5 := bkF BK449.out 5; have hfz21_6 := bkF BK449.out 6; have hfz21_7 := bkF BK449.out 7; have hfz21_8 := bkF BK449.out 8))
    repeat (go_quiet (first | ((with_reducible refine gate_dst (N := 3) rfl ?_); refine box_event ?hg (N := 3) ?hd (cs := #[.int .i64 a0_0, .int .i64 a0_1, .int .i64 a0_2, .string a0_3, .int .i64 a0_4, .int .i64 a0_5, .int .i64 a0_6, .string a0_7, .slice A0_8 l0_8.length c0_8]) (t := 26) ?hr ?_; (case hd => rfl); (case hg => rfl); (case hr => first | (go_simp; done) | (go_simp; rfl)); intro gb449 hg w20 hbox hb; have n0_ := Asd.mk (below_step (by repeat (first | (with_reducible first | exact HB.out | apply blA | apply pbN | apply blD) | exact HB.out)) hb); have n1_ := Asd.mk (hbox); have n2_ := Asd.mk ((by rw [hg]; exact (below_size (by repeat (first | (with_reducible first | exact HB.out | apply blA | apply pbN | apply blD) | exact HB.out))) : w.heap.size ≤ gb449)); have n3_ := Asd.mk ((by rw [hg]; exact (below_size (by repeat (first | (with_reducible first | exact HB.out | apply blA | apply pbN | apply blD) | exact HB.out))) : w.heap.size ≤ gb449)); clear HB; have HB := n0_; have BK449 := n1_; have GW449 := n2_; have GE449 := n3_; clear n0_ n1_ n2_ n3_; clear hb hbox hg; have hcz21_0 : w20.cell? ⟨gb449, 0, none⟩ = some (.int .i64 a0_0) := (bkC BK449.out 0).trans rfl; have hcz21_1 : w20.cell? ⟨gb449, 1, none⟩ = some (.int .i64 a0_1) := (bkC BK449.out 1).trans rfl; have hcz21_2 : w20.cell? ⟨gb449, 2, none⟩ = some (.int .i64 a0_2) := (bkC BK449.out 2).trans rfl; have hcz21_3 : w20.cell? ⟨gb449, 3, none⟩ = some (.string a0_3) := (bkC BK449.out 3).trans rfl; have hcz21_4 : w20.cell? ⟨gb449, 4, none⟩ = some (.int .i64 a0_4) := (bkC BK449.out 4).trans rfl; have hcz21_5 : w20.cell? ⟨gb449, 5, none⟩ = some (.int .i64 a0_5) := (bkC BK449.out 5).trans rfl; have hcz21_6 : w20.cell? ⟨gb449, 6, none⟩ = some (.int .i64 a0_6) := (bkC BK449.out 6).trans rfl; have hcz21_7 : w20.cell? ⟨gb449, 7, none⟩ = some (.string a0_7) := (bkC BK449.out 7).trans rfl; have hcz21_8 : w20.cell? ⟨gb449, 8, none⟩ = some (.slice A0_8 l0_8.length c0_8) := (bkC BK449.out 8).trans rfl; have hfz21_0 := bkF BK449.out 0; have hfz21_1 := bkF BK449.out 1; have hfz21_2 := bkF BK449.out 2; have hfz21_3 := bkF BK449.out 3; have hfz21_4 := bkF BK449.out 4; have hfz21_5 := bkF BK449.out 5; have hfz21_6 := bkF BK449.out 6; have hfz21_7 := bkF BK449.out 7; have hfz21_8 := bkF BK449.out 8)); try go_wp2_with (first | ((with_reducible refine gate_dst (N := 3) rfl ?_); refine box_event ?hg (N := 3) ?hd (cs := #[.int .i64 a0_0, .int .i64 a0_1, .int .i64 a0_2, .string a0_3, .int .i64 a0_4, .int .i64 a0_5, .int .i64 a0_6, .string a0_7, .slice A0_8 l0_8.length c0_8]) (t := 26) ?hr ?_; (case hd => rfl); (case hg => rfl); (case hr => first | (go_simp; done) | (go_simp; rfl)); intro gb449 hg w20 hbox hb; have n0_ := Asd.mk (below_step (by repeat (first | (with_reducible first | exact HB.out | apply blA | apply pbN | apply blD) | exact HB.out)) hb); have n1_ := Asd.mk (hbox); have n2_ := Asd.mk ((by rw [hg]; exact (below_size (by repeat (first | (with_reducible first | exact HB.out | apply blA | apply pbN | apply blD) | exact HB.out))) : w.heap.size ≤ gb449)); have n3_ := Asd.mk ((by rw [hg]; exact (below_size (by repeat (first | (with_reducible first | exact HB.out | apply blA | apply pbN | apply blD) | exact HB.out))) : w.heap.size ≤ gb449)); clear HB; have HB := n0_; have BK449 := n1_; have GW449 := n2_; have GE449 := n3_; clear n0_ n1_ n2_ n3_; clear hb hbox hg; have hcz21_0 : w20.cell? ⟨gb449, 0, none⟩ = some (.int .i64 a0_0) := (bkC BK449.out 0).trans rfl; have hcz21_1 : w20.cell? ⟨gb449, 1, none⟩ = some (.int .i64 a0_1) := (bkC BK449.out 1).trans rfl; have hcz21_2 : w20.cell? ⟨gb449, 2, none⟩ = some (.int .i64 a0_2) := (bkC BK449.out 2).trans rfl; have hcz21_3 : w20.cell? ⟨gb449, 3, none⟩ = some (.string a0_3) := (bkC BK449.out 3).trans rfl; have hcz21_4 : w20.cell? ⟨gb449, 4, none⟩ = some (.int .i64 a0_4) := (bkC BK449.out 4).trans rfl; have hcz21_5 : w20.cell? ⟨gb449, 5, none⟩ = some (.int .i64 a0_5) := (bkC BK449.out 5).trans rfl; have hcz21_6 : w20.cell? ⟨gb449, 6, none⟩ = some (.int .i64 a0_6) := (bkC BK449.out 6).trans rfl; have hcz21_7 : w20.cell? ⟨gb449, 7, none⟩ = some (.string a0_7) := (bkC BK449.out 7).trans rfl; have hcz21_8 : w20.cell? ⟨gb449, 8, none⟩ = some (.slice A0_8 l0_8.length c0_8) := (bkC BK449.out 8).trans rfl; have hfz21_0 := bkF BK449.out 0; have hfz21_1 := bkF BK449.out 1; have hfz21_2 := bkF BK449.out 2; have hfz21_3 := bkF BK449.out 3; have hfz21_4 := bkF BK449.out 4; have hfz21_5 := bkF BK449.out 5; have hfz21_6 := bkF BK449.out 6; have hfz21_7 := bkF BK449.out 7; have hfz21_8 := bkF BK449.out 8)))
    go_loopg [8, 9] k (fun kq v8 v9 w' => ∃ (x8_1 : List Int) (x9_1 : Int), v9 = .int .i64 x9_1 ∧ Asd (q08_kind.l0 kq l1 l2 x8_1 x9_1 a0_0 a0_1 a0_2 a0_3 a0_4 a0_5 a0_6 a0_7 l0_8 = some (r1, r2)) ∧ Asd (kq ≤ k) ∧ Asd (Kd.R (Kd.int .i64) 3 w' w.heap.size (fun _ => True) v8 x8_1) ∧ Asd (w'.heap[gb449]? = some (.cells #[.int .i64 a0_0, .int .i64 a0_1, .int .i64 a0_2, .string a0_3, .int .i64 a0_4, .int .i64 a0_5, .int .i64 a0_6, .string a0_7, (.slice A0_8 l0_8.length c0_8)] 26 (0, 0))) ∧ Asd (Below w.heap.size w w'))
    case atStart => exact ⟨(([] : List Int)), (0), (by first | rfl | (simp; done) | (simp [*]; done)), H', ⟨Nat.le_refl _⟩, ⟨by first | exact Kd.R_nil _ _ _ _ _ | exact Kd.N_nil _ _ _ _ _ | exact Kd.V_nil _ _ _ _ _ | exact Kd.Q_nil _ _ _ _ _ | exact Kd.S_nil _ _ _ _ _⟩, ⟨by (with_reducible repeat (first | refine bkN ?_ _ | refine bkD ?_ | refine bkA ?_ _)); exact BK449.out⟩, ⟨by repeat (first | (with_reducible first | exact HB.out | apply blA | apply pbN | apply blD | refine blS ?_ GE449.out) | exact HB.out)⟩⟩
    case round =>
     clear H'
     try clear c1
     try clear c2
     try clear p2
     try clear c4
     try clear c4b0
     try clear c4b1
     try clear p4
     try clear q4
     try clear hx4
     try clear p6
     try clear c7
     try clear c7b0
     try clear c7b1
     try clear c8
     try clear c8b0
     try clear c9
     try clear c9b0
     try clear c10
     try clear c10b0
     try clear c11
     try clear c11b0
     try clear c14
     try clear c14b0
     try clear c14b1
     try clear c16
     try clear c16b0
     try clear c17
     try clear c17b0
     try clear hcz13_0
     try clear hcz13_1
     try clear hcz13_2
     try clear hcz13_3
     try clear hcz13_4
     try clear hcz13_5
     try clear hcz13_6
     try clear hcz13_7
     try clear hcz13_8
     try clear hcz19_0
     try clear hcz19_1
     try clear hcz19_2
     try clear hcz19_3
     try clear hcz19_4
     try clear hcz19_5
     try clear hcz19_6
     try clear hcz19_7
     try clear hcz19_8
     try clear hcz21_0
     try clear hcz21_1
     try clear hcz21_2
     try clear hcz21_3
     try clear hcz21_4
     try clear hcz21_5
     try clear hcz21_6
     try clear hcz21_7
     try clear hcz21_8
     try clear hcz6_0
     try clear hcz6_1
     try clear hcz6_2
     try clear hcz6_3
     try clear hcz6_4
     try clear hcz6_5
     try clear hcz6_6
     try clear hcz6_7
     try clear hcz6_8
     try clear hfz13_0
     try clear hfz13_1
     try clear hfz13_2
     try clear hfz13_3
     try clear hfz13_4
     try clear hfz13_5
     try clear hfz13_6
     try clear hfz13_7
     try clear hfz13_8
     try clear hfz19_0
     try clear hfz19_1
     try clear hfz19_2
     try clear hfz19_3
     try clear hfz19_4
     try clear hfz19_5
     try clear hfz19_6
     try clear hfz19_7
     try clear hfz19_8
     try clear hfz21_0
     try clear hfz21_1
     try clear hfz21_2
     try clear hfz21_3
     try clear hfz21_4
     try clear hfz21_5
     try clear hfz21_6
     try clear hfz21_7
     try clear hfz21_8
     try clear hfz6_0
     try clear hfz6_1
     try clear hfz6_2
     try clear hfz6_3
     try clear hfz6_4
     try clear hfz6_5
     try clear hfz6_6
     try clear hfz6_7
     try clear hfz6_8
     try clear hx450_0
     try clear hx451_0
     try clear hx452_0
     try clear p450
     try clear p451
     try clear p452
     try clear q450
     try clear q451
     try clear q452
     obtain ⟨x8_1, x9_1, rfl, HA, HK1, HO_8, BK449, HB⟩ := hrel
     cases gk with
     | zero => exact absurd HA.out (by simp [q08_kind.l0])
     | succ k1 =>
      have H := HA.out
      clear HA
      simp only [q08_kind.l0] at H
      by_cases c22 : x9_1 < (l0_8.length : Int)
      ·rw [if_pos c22] at H
       have c22b0 : decide (x9_1 < (l0_8.length : Int)) = true := decide_eq_true c22
       clear c22
       by_cases c23 : 0 ≤ x9_1
       ·rw [if_pos c23] at H
        have c23b0 : decide (0 ≤ x9_1) = true := decide_eq_true c23
        clear c23
        replace H := Option.bind_eq_some_iff.mp H
        obtain ⟨⟨t454, t455⟩, A240, H⟩ := H
        replace H : (if t455 = true then (if x8_1.length < 17592186044416 then (q08_kind.l0 k1 l1 l2 (x8_1 ++ [t454]) (wrap64 (x9_1 + 1)) a0_0 a0_1 a0_2 a0_3 a0_4 a0_5 a0_6 a0_7 l0_8) else (none)) else (some (0, false))) = some (r1, r2) := H
        have A24 := Asd.mk A240
        clear A240
        by_cases c25 : t455 = true
        ·subst c25
         have H1 : (if x8_1.length < 17592186044416 then (q08_kind.l0 k1 l1 l2 (x8_1 ++ [t454]) (wrap64 (x9_1 + 1)) a0_0 a0_1 a0_2 a0_3 a0_4 a0_5 a0_6 a0_7 l0_8) else (none)) = some (r1, r2) := by rw [if_pos rfl] at H; exact H
         clear H
         have H := H1
         clear H1
         by_cases c26 : x8_1.length < 17592186044416
         ·rw [if_pos c26] at H
          have LMc26 := Asd.mk c26
          clear c26
          obtain ⟨y456, hy456⟩ : ∃ y_ : List Int, y_ = (x8_1 ++ [t454]) := ⟨_, rfl⟩
          replace H : (q08_kind.l0 k1 l1 l2 y456 (wrap64 (x9_1 + 1)) a0_0 a0_1 a0_2 a0_3 a0_4 a0_5 a0_6 a0_7 l0_8) = some (r1, r2) := by first | (rw [hy456]; with_reducible exact H) | (have H2_ := (Option.bind_some _ _).symm.trans H; rw [hy456]; with_reducible exact H2_) | (have H2_ := (Option.bind_some _ _).symm.trans H; with_reducible exact H2_) | with_reducible exact H | (rw [hy456]; exact H) | exact H
          have Ny456 := Asd.mk hy456
          clear hy456
          have H' := Asd.mk H
          clear H
          have hcz27_0 : wr.cell? ⟨gb449, 0, none⟩ = some (.int .i64 a0_0) := (bkC BK449.out 0).trans rfl
          have hcz27_1 : wr.cell? ⟨gb449, 1, none⟩ = some (.int .i64 a0_1) := (bkC BK449.out 1).trans rfl
          have hcz27_2 : wr.cell? ⟨gb449, 2, none⟩ = some (.int .i64 a0_2) := (bkC BK449.out 2).trans rfl
          have hcz27_3 : wr.cell? ⟨gb449, 3, none⟩ = some (.string a0_3) := (bkC BK449.out 3).trans rfl
          have hcz27_4 : wr.cell? ⟨gb449, 4, none⟩ = some (.int .i64 a0_4) := (bkC BK449.out 4).trans rfl
          have hcz27_5 : wr.cell? ⟨gb449, 5, none⟩ = some (.int .i64 a0_5) := (bkC BK449.out 5).trans rfl
          have hcz27_6 : wr.cell? ⟨gb449, 6, none⟩ = some (.int .i64 a0_6) := (bkC BK449.out 6).trans rfl
          have hcz27_7 : wr.cell? ⟨gb449, 7, none⟩ = some (.string a0_7) := (bkC BK449.out 7).trans rfl
          have hcz27_8 : wr.cell? ⟨gb449, 8, none⟩ = some (.slice A0_8 l0_8.length c0_8) := (bkC BK449.out 8).trans rfl
          have hfz27_0 := bkF BK449.out 0
          have hfz27_1 := bkF BK449.out 1
          have hfz27_2 := bkF BK449.out 2
          have hfz27_3 := bkF BK449.out 3
          have hfz27_4 := bkF BK449.out 4
          have hfz27_5 := bkF BK449.out 5
          have hfz27_6 := bkF BK449.out 6
          have hfz27_7 := bkF BK449.out 7
          have hfz27_8 := bkF BK449.out 8
          have p453 : 0 ≤ (x9_1 : Int) := of_decide_eq_true (by first | (with_reducible assumption) | assumption)
          have q453 : x9_1 < (l0_8.length : Int) := of_decide_eq_true (by first | (with_reducible assumption) | assumption)
          obtain ⟨ad453, A453_8, c453_8, e453, hx453_0, hx453_1, hx453_2, hx453_3, hx453_4, hx453_5, hx453_6, hx453_7, hx453_8, hl453_8, hi453_8⟩ := at_T26 HR0_8.out x9_1 p453 q453
          cases e453
          replace hx453_0 := (HB.out.cell (World.block_lt_of_cell? w _ hx453_0)).trans hx453_0
          replace hx453_1 := (HB.out.cell (World.block_lt_of_cell? w _ hx453_1)).trans hx453_1
          replace hx453_2 := (HB.out.cell (World.block_lt_of_cell? w _ hx453_2)).trans hx453_2
          replace hx453_3 := (HB.out.cell (World.block_lt_of_cell? w _ hx453_3)).trans hx453_3
          replace hx453_4 := (HB.out.cell (World.block_lt_of_cell? w _ hx453_4)).trans hx453_4
          replace hx453_5 := (HB.out.cell (World.block_lt_of_cell? w _ hx453_5)).trans hx453_5
          replace hx453_6 := (HB.out.cell (World.block_lt_of_cell? w _ hx453_6)).trans hx453_6
          replace hx453_7 := (HB.out.cell (World.block_lt_of_cell? w _ hx453_7)).trans hx453_7
          replace hx453_8 := (HB.out.cell (World.block_lt_of_cell? w _ hx453_8)).trans hx453_8
          have HR453_8 := Asd.mk hi453_8
          have HC453_8 := Asd.mk hl453_8
          clear hi453_8 hl453_8
          replace p453 := eq_true p453
          replace q453 := eq_true q453
          go_wp2_with (first | (go_at_call 41; (with_reducible refine (ih k1 (by have := HK1.out; omega) ((rd_T26 l0_8 x9_1).f0) ((rd_T26 l0_8 x9_1).f1.f0) ((rd_T26 l0_8 x9_1).f1.f1) ((rd_T26 l0_8 x9_1).f1.f2) ((rd_T26 l0_8 x9_1).f2) ((rd_T26 l0_8 x9_1).f3) ((rd_T26 l0_8 x9_1).f4) ((rd_T26 l0_8 x9_1).f5) _ _ ((rd_T26 l0_8 x9_1).f6) _ _ l1 _ _ l2 t454 true _ ?side1 ?side2 ?side3 ?side4 ?side5 ?side6 A24.out).mono ?_); (case side1 => repeat (first | exact (Kd.C_below HR453_8.out HB.out) | (with_reducible refine Kd.C_alloc ?_ _) | (with_reducible refine Kd.C_drewN ?_ _) | (with_reducible refine Kd.C_drew ?_))); (case side2 => exact HC453_8.out); (case side3 => repeat (first | exact (Kd.C_below HR1.out HB.out) | (with_reducible refine Kd.C_alloc ?_ _) | (with_reducible refine Kd.C_drewN ?_ _) | (with_reducible refine Kd.C_drew ?_))); (case side4 => exact HC1.out); (case side5 => repeat (first | exact (Kd.C_below HR2.out HB.out) | (with_reducible refine Kd.C_alloc ?_ _) | (with_reducible refine Kd.C_drewN ?_ _) | (with_reducible refine Kd.C_drew ?_))); (case side6 => exact HC2.out); rintro e w28 ⟨rfl, hb⟩; have n0_ := Asd.mk (Kd.R_below (by (with_reducible repeat (first | apply Kd.R_alloc | apply Kd.R_drewN | apply Kd.R_drew)); exact HO_8.out) hb); have n1_ := Asd.mk (blk_below (g := gb449) (o := .cells #[.int .i64 a0_0, .int .i64 a0_1, .int .i64 a0_2, .string a0_3, .int .i64 a0_4, .int .i64 a0_5, .int .i64 a0_6, .string a0_7, .slice (some ad453) l0_8.length c0_8] 26 (0, 0)) (by (with_reducible repeat (first | refine bkN ?_ _ | refine bkD ?_ | refine bkA ?_ _)); exact BK449.out) hb); have n2_ := Asd.mk (below_step (by repeat (first | (with_reducible first | exact HB.out | apply blA | apply pbN | apply blD | refine blS ?_ GE449.out) | exact HB.out)) hb); clear HO_8; clear BK449; clear HB; have HO_8 := n0_; have BK449 := n1_; have HB := n2_; clear n0_ n1_ n2_; (try clear hb); (try clear hb2); (try clear hk); (try clear hi)) | ((with_reducible refine gate_builtin (b := .append) (xs := #[.tmp 60, .tmp 62]) rfl ?_); at_builtin; refine Kd.R_append (Kd.int .i64) (w0 := w) w.heap.size rfl (.tmp 60) (.tmp 62) 28 3 (.int .i64 0) 8 rfl Tryd.underlying28 info3 rfl (by decide) (by omega) u8 x8_1 t454 [.int .i64 t454] (fun _ => True) (fun _ => False) rfl rfl ?aP (fun _ hk => hk.elim) ?aF ?aO ?aB ?aS ?aL ?_; (case aP => exact rfl); (case aB => exact (by repeat (first | (with_reducible first | exact HB.out | apply blA | apply pbN | apply blD | refine blS ?_ GE449.out) | exact HB.out))); (case aF => exact (fun _ _ => trivial)); (case aO => exact (by (with_reducible repeat (first | apply Kd.R_alloc | apply Kd.R_drewN | apply Kd.R_drew)); exact HO_8.out)); (case aS => exact (below_size (by repeat (first | (with_reducible first | exact HB.out | apply blA | apply pbN | apply blD | refine blS ?_ GE449.out) | exact HB.out)))); (case aL => have := LMc26.out; omega); intro v457 w29 ho hb hg hat; rw [← Ny456.out] at ho; have n0_ := Asd.mk (blk_grown (g := gb449) (o := .cells #[.int .i64 a0_0, .int .i64 a0_1, .int .i64 a0_2, .string a0_3, .int .i64 a0_4, .int .i64 a0_5, .int .i64 a0_6, .string a0_7, .slice (some ad453) l0_8.length c0_8] 26 (0, 0)) (by (with_reducible repeat (first | refine bkN ?_ _ | refine bkD ?_ | refine bkA ?_ _)); exact BK449.out) hg (Kd.R_ne HO_8.out BK449.out (by decide))); have n1_ := Asd.mk (hb); have n2_ := Asd.mk (ho); clear BK449; clear HB; clear HO_8; have BK449 := n0_; have HB := n1_; have HO458 := n2_; clear n0_ n1_ n2_; clear ho hb hg hat))
          repeat (go_quiet (first | (go_at_call 41; (with_reducible refine (ih k1 (by have := HK1.out; omega) ((rd_T26 l0_8 x9_1).f0) ((rd_T26 l0_8 x9_1).f1.f0) ((rd_T26 l0_8 x9_1).f1.f1) ((rd_T26 l0_8 x9_1).f1.f2) ((rd_T26 l0_8 x9_1).f2) ((rd_T26 l0_8 x9_1).f3) ((rd_T26 l0_8 x9_1).f4) ((rd_T26 l0_8 x9_1).f5) _ _ ((rd_T26 l0_8 x9_1).f6) _ _ l1 _ _ l2 t454 true _ ?side1 ?side2 ?side3 ?side4 ?side5 ?side6 A24.out).mono ?_); (case side1 => repeat (first | exact (Kd.C_below HR453_8.out HB.out) | (with_reducible refine Kd.C_alloc ?_ _) | (with_reducible refine Kd.C_drewN ?_ _) | (with_reducible refine Kd.C_drew ?_))); (case side2 => exact HC453_8.out); (case side3 => repeat (first | exact (Kd.C_below HR1.out HB.out) | (with_reducible refine Kd.C_alloc ?_ _) | (with_reducible refine Kd.C_drewN ?_ _) | (with_reducible refine Kd.C_drew ?_))); (case side4 => exact HC1.out); (case side5 => repeat (first | exact (Kd.C_below HR2.out HB.out) | (with_reducible refine Kd.C_alloc ?_ _) | (with_reducible refine Kd.C_drewN ?_ _) | (with_reducible refine Kd.C_drew ?_))); (case side6 => exact HC2.out); rintro e w28 ⟨rfl, hb⟩; have n0_ := Asd.mk (Kd.R_below (by (with_reducible repeat (first | apply Kd.R_alloc | apply Kd.R_drewN | apply Kd.R_drew)); exact HO_8.out) hb); have n1_ := Asd.mk (blk_below (g := gb449) (o := .cells #[.int .i64 a0_0, .int .i64 a0_1, .int .i64 a0_2, .string a0_3, .int .i64 a0_4, .int .i64 a0_5, .int .i64 a0_6, .string a0_7, .slice (some ad453) l0_8.length c0_8] 26 (0, 0)) (by (with_reducible repeat (first | refine bkN ?_ _ | refine bkD ?_ | refine bkA ?_ _)); exact BK449.out) hb); have n2_ := Asd.mk (below_step (by repeat (first | (with_reducible first | exact HB.out | apply blA | apply pbN | apply blD | refine blS ?_ GE449.out) | exact HB.out)) hb); clear HO_8; clear BK449; clear HB; have HO_8 := n0_; have BK449 := n1_; have HB := n2_; clear n0_ n1_ n2_; (try clear hb); (try clear hb2); (try clear hk); (try clear hi)) | ((with_reducible refine gate_builtin (b := .append) (xs := #[.tmp 60, .tmp 62]) rfl ?_); at_builtin; refine Kd.R_append (Kd.int .i64) (w0 := w) w.heap.size rfl (.tmp 60) (.tmp 62) 28 3 (.int .i64 0) 8 rfl Tryd.underlying28 info3 rfl (by decide) (by omega) u8 x8_1 t454 [.int .i64 t454] (fun _ => True) (fun _ => False) rfl rfl ?aP (fun _ hk => hk.elim) ?aF ?aO ?aB ?aS ?aL ?_; (case aP => exact rfl); (case aB => exact (by repeat (first | (with_reducible first | exact HB.out | apply blA | apply pbN | apply blD | refine blS ?_ GE449.out) | exact HB.out))); (case aF => exact (fun _ _ => trivial)); (case aO => exact (by (with_reducible repeat (first | apply Kd.R_alloc | apply Kd.R_drewN | apply Kd.R_drew)); exact HO_8.out)); (case aS => exact (below_size (by repeat (first | (with_reducible first | exact HB.out | apply blA | apply pbN | apply blD | refine blS ?_ GE449.out) | exact HB.out)))); (case aL => have := LMc26.out; omega); intro v457 w29 ho hb hg hat; rw [← Ny456.out] at ho; have n0_ := Asd.mk (blk_grown (g := gb449) (o := .cells #[.int .i64 a0_0, .int .i64 a0_1, .int .i64 a0_2, .string a0_3, .int .i64 a0_4, .int .i64 a0_5, .int .i64 a0_6, .string a0_7, .slice (some ad453) l0_8.length c0_8] 26 (0, 0)) (by (with_reducible repeat (first | refine bkN ?_ _ | refine bkD ?_ | refine bkA ?_ _)); exact BK449.out) hg (Kd.R_ne HO_8.out BK449.out (by decide))); have n1_ := Asd.mk (hb); have n2_ := Asd.mk (ho); clear BK449; clear HB; clear HO_8; have BK449 := n0_; have HB := n1_; have HO458 := n2_; clear n0_ n1_ n2_; clear ho hb hg hat)); try go_wp2_with (first | (go_at_call 41; (with_reducible refine (ih k1 (by have := HK1.out; omega) ((rd_T26 l0_8 x9_1).f0) ((rd_T26 l0_8 x9_1).f1.f0) ((rd_T26 l0_8 x9_1).f1.f1) ((rd_T26 l0_8 x9_1).f1.f2) ((rd_T26 l0_8 x9_1).f2) ((rd_T26 l0_8 x9_1).f3) ((rd_T26 l0_8 x9_1).f4) ((rd_T26 l0_8 x9_1).f5) _ _ ((rd_T26 l0_8 x9_1).f6) _ _ l1 _ _ l2 t454 true _ ?side1 ?side2 ?side3 ?side4 ?side5 ?side6 A24.out).mono ?_); (case side1 => repeat (first | exact (Kd.C_below HR453_8.out HB.out) | (with_reducible refine Kd.C_alloc ?_ _) | (with_reducible refine Kd.C_drewN ?_ _) | (with_reducible refine Kd.C_drew ?_))); (case side2 => exact HC453_8.out); (case side3 => repeat (first | exact (Kd.C_below HR1.out HB.out) | (with_reducible refine Kd.C_alloc ?_ _) | (with_reducible refine Kd.C_drewN ?_ _) | (with_reducible refine Kd.C_drew ?_))); (case side4 => exact HC1.out); (case side5 => repeat (first | exact (Kd.C_below HR2.out HB.out) | (with_reducible refine Kd.C_alloc ?_ _) | (with_reducible refine Kd.C_drewN ?_ _) | (with_reducible refine Kd.C_drew ?_))); (case side6 => exact HC2.out); rintro e w28 ⟨rfl, hb⟩; have n0_ := Asd.mk (Kd.R_below (by (with_reducible repeat (first | apply Kd.R_alloc | apply Kd.R_drewN | apply Kd.R_drew)); exact HO_8.out) hb); have n1_ := Asd.mk (blk_below (g := gb449) (o := .cells #[.int .i64 a0_0, .int .i64 a0_1, .int .i64 a0_2, .string a0_3, .int .i64 a0_4, .int .i64 a0_5, .int .i64 a0_6, .string a0_7, .slice (some ad453) l0_8.length c0_8] 26 (0, 0)) (by (with_reducible repeat (first | refine bkN ?_ _ | refine bkD ?_ | refine bkA ?_ _)); exact BK449.out) hb); have n2_ := Asd.mk (below_step (by repeat (first | (with_reducible first | exact HB.out | apply blA | apply pbN | apply blD | refine blS ?_ GE449.out) | exact HB.out)) hb); clear HO_8; clear BK449; clear HB; have HO_8 := n0_; have BK449 := n1_; have HB := n2_; clear n0_ n1_ n2_; (try clear hb); (try clear hb2); (try clear hk); (try clear hi)) | ((with_reducible refine gate_builtin (b := .append) (xs := #[.tmp 60, .tmp 62]) rfl ?_); at_builtin; refine Kd.R_append (Kd.int .i64) (w0 := w) w.heap.size rfl (.tmp 60) (.tmp 62) 28 3 (.int .i64 0) 8 rfl Tryd.underlying28 info3 rfl (by decide) (by omega) u8 x8_1 t454 [.int .i64 t454] (fun _ => True) (fun _ => False) rfl rfl ?aP (fun _ hk => hk.elim) ?aF ?aO ?aB ?aS ?aL ?_; (case aP => exact rfl); (case aB => exact (by repeat (first | (with_reducible first | exact HB.out | apply blA | apply pbN | apply blD | refine blS ?_ GE449.out) | exact HB.out))); (case aF => exact (fun _ _ => trivial)); (case aO => exact (by (with_reducible repeat (first | apply Kd.R_alloc | apply Kd.R_drewN | apply Kd.R_drew)); exact HO_8.out)); (case aS => exact (below_size (by repeat (first | (with_reducible first | exact HB.out | apply blA | apply pbN | apply blD | refine blS ?_ GE449.out) | exact HB.out)))); (case aL => have := LMc26.out; omega); intro v457 w29 ho hb hg hat; rw [← Ny456.out] at ho; have n0_ := Asd.mk (blk_grown (g := gb449) (o := .cells #[.int .i64 a0_0, .int .i64 a0_1, .int .i64 a0_2, .string a0_3, .int .i64 a0_4, .int .i64 a0_5, .int .i64 a0_6, .string a0_7, .slice (some ad453) l0_8.length c0_8] 26 (0, 0)) (by (with_reducible repeat (first | refine bkN ?_ _ | refine bkD ?_ | refine bkA ?_ _)); exact BK449.out) hg (Kd.R_ne HO_8.out BK449.out (by decide))); have n1_ := Asd.mk (hb); have n2_ := Asd.mk (ho); clear BK449; clear HB; clear HO_8; have BK449 := n0_; have HB := n1_; have HO458 := n2_; clear n0_ n1_ n2_; clear ho hb hg hat)))
          go_roundg k1
          case measure => have := HK1.out; omega
          case rel => exact ⟨(y456), (wrap64 (x9_1 + 1)), (by first | rfl | (simp; done) | (simp [*]; done)), H', ⟨by have := HK1.out; omega⟩, ⟨by (with_reducible repeat (first | apply Kd.R_alloc | apply Kd.R_drewN | apply Kd.R_drew)); exact HO458.out⟩, ⟨by (with_reducible repeat (first | refine bkN ?_ _ | refine bkD ?_ | refine bkA ?_ _)); exact BK449.out⟩, ⟨by repeat (first | (with_reducible first | exact HB.out | apply blA | apply pbN | apply blD | refine blS ?_ GE449.out) | exact HB.out)⟩⟩
         ·rw [if_neg c26] at H
          exact absurd H (by simp)
        ·replace c25 := Bool.eq_false_iff.mpr c25
         subst c25
         have H1 : (some (0, false)) = some (r1, r2) := by rw [if_neg (show ¬ (false = true) by decide)] at H; exact H
         clear H
         have H := H1
         clear H1
         simp only [Option.some.injEq, Prod.mk.injEq] at H
         obtain ⟨rfl, rfl⟩ := H
         have hcz30_0 : wr.cell? ⟨gb449, 0, none⟩ = some (.int .i64 a0_0) := (bkC BK449.out 0).trans rfl
         have hcz30_1 : wr.cell? ⟨gb449, 1, none⟩ = some (.int .i64 a0_1) := (bkC BK449.out 1).trans rfl
         have hcz30_2 : wr.cell? ⟨gb449, 2, none⟩ = some (.int .i64 a0_2) := (bkC BK449.out 2).trans rfl
         have hcz30_3 : wr.cell? ⟨gb449, 3, none⟩ = some (.string a0_3) := (bkC BK449.out 3).trans rfl
         have hcz30_4 : wr.cell? ⟨gb449, 4, none⟩ = some (.int .i64 a0_4) := (bkC BK449.out 4).trans rfl
         have hcz30_5 : wr.cell? ⟨gb449, 5, none⟩ = some (.int .i64 a0_5) := (bkC BK449.out 5).trans rfl
         have hcz30_6 : wr.cell? ⟨gb449, 6, none⟩ = some (.int .i64 a0_6) := (bkC BK449.out 6).trans rfl
         have hcz30_7 : wr.cell? ⟨gb449, 7, none⟩ = some (.string a0_7) := (bkC BK449.out 7).trans rfl
         have hcz30_8 : wr.cell? ⟨gb449, 8, none⟩ = some (.slice A0_8 l0_8.length c0_8) := (bkC BK449.out 8).trans rfl
         have hfz30_0 := bkF BK449.out 0
         have hfz30_1 := bkF BK449.out 1
         have hfz30_2 := bkF BK449.out 2
         have hfz30_3 := bkF BK449.out 3
         have hfz30_4 := bkF BK449.out 4
         have hfz30_5 := bkF BK449.out 5
         have hfz30_6 := bkF BK449.out 6
         have hfz30_7 := bkF BK449.out 7
         have hfz30_8 := bkF BK449.out 8
         have p453 : 0 ≤ (x9_1 : Int) := of_decide_eq_true (by first | (with_reducible assumption) | assumption)
         have q453 : x9_1 < (l0_8.length : Int) := of_decide_eq_true (by first | (with_reducible assumption) | assumption)
         obtain ⟨ad453, A453_8, c453_8, e453, hx453_0, hx453_1, hx453_2, hx453_3, hx453_4, hx453_5, hx453_6, hx453_7, hx453_8, hl453_8, hi453_8⟩ := at_T26 HR0_8.out x9_1 p453 q453
         cases e453
         replace hx453_0 := (HB.out.cell (World.block_lt_of_cell? w _ hx453_0)).trans hx453_0
         replace hx453_1 := (HB.out.cell (World.block_lt_of_cell? w _ hx453_1)).trans hx453_1
         replace hx453_2 := (HB.out.cell (World.block_lt_of_cell? w _ hx453_2)).trans hx453_2
         replace hx453_3 := (HB.out.cell (World.block_lt_of_cell? w _ hx453_3)).trans hx453_3
         replace hx453_4 := (HB.out.cell (World.block_lt_of_cell? w _ hx453_4)).trans hx453_4
         replace hx453_5 := (HB.out.cell (World.block_lt_of_cell? w _ hx453_5)).trans hx453_5
         replace hx453_6 := (HB.out.cell (World.block_lt_of_cell? w _ hx453_6)).trans hx453_6
         replace hx453_7 := (HB.out.cell (World.block_lt_of_cell? w _ hx453_7)).trans hx453_7
         replace hx453_8 := (HB.out.cell (World.block_lt_of_cell? w _ hx453_8)).trans hx453_8
         have HR453_8 := Asd.mk hi453_8
         have HC453_8 := Asd.mk hl453_8
         clear hi453_8 hl453_8
         replace p453 := eq_true p453
         replace q453 := eq_true q453
         go_wp2_with (first | (go_at_call 41; (with_reducible refine (ih k1 (by have := HK1.out; omega) ((rd_T26 l0_8 x9_1).f0) ((rd_T26 l0_8 x9_1).f1.f0) ((rd_T26 l0_8 x9_1).f1.f1) ((rd_T26 l0_8 x9_1).f1.f2) ((rd_T26 l0_8 x9_1).f2) ((rd_T26 l0_8 x9_1).f3) ((rd_T26 l0_8 x9_1).f4) ((rd_T26 l0_8 x9_1).f5) _ _ ((rd_T26 l0_8 x9_1).f6) _ _ l1 _ _ l2 t454 false _ ?side1 ?side2 ?side3 ?side4 ?side5 ?side6 A24.out).mono ?_); (case side1 => repeat (first | exact (Kd.C_below HR453_8.out HB.out) | (with_reducible refine Kd.C_alloc ?_ _) | (with_reducible refine Kd.C_drewN ?_ _) | (with_reducible refine Kd.C_drew ?_))); (case side2 => exact HC453_8.out); (case side3 => repeat (first | exact (Kd.C_below HR1.out HB.out) | (with_reducible refine Kd.C_alloc ?_ _) | (with_reducible refine Kd.C_drewN ?_ _) | (with_reducible refine Kd.C_drew ?_))); (case side4 => exact HC1.out); (case side5 => repeat (first | exact (Kd.C_below HR2.out HB.out) | (with_reducible refine Kd.C_alloc ?_ _) | (with_reducible refine Kd.C_drewN ?_ _) | (with_reducible refine Kd.C_drew ?_))); (case side6 => exact HC2.out); rintro e w31 ⟨rfl, hb⟩; have n0_ := Asd.mk (Kd.R_below (by (with_reducible repeat (first | apply Kd.R_alloc | apply Kd.R_drewN | apply Kd.R_drew)); exact HO_8.out) hb); have n1_ := Asd.mk (blk_below (g := gb449) (o := .cells #[.int .i64 a0_0, .int .i64 a0_1, .int .i64 a0_2, .string a0_3, .int .i64 a0_4, .int .i64 a0_5, .int .i64 a0_6, .string a0_7, .slice (some ad453) l0_8.length c0_8] 26 (0, 0)) (by (with_reducible repeat (first | refine bkN ?_ _ | refine bkD ?_ | refine bkA ?_ _)); exact BK449.out) hb); have n2_ := Asd.mk (below_step (by repeat (first | (with_reducible first | exact HB.out | apply blA | apply pbN | apply blD | refine blS ?_ GE449.out) | exact HB.out)) hb); clear HO_8; clear BK449; clear HB; have HO_8 := n0_; have BK449 := n1_; have HB := n2_; clear n0_ n1_ n2_; (try clear hb); (try clear hb2); (try clear hk); (try clear hi)))
         repeat (go_quiet (first | (go_at_call 41; (with_reducible refine (ih k1 (by have := HK1.out; omega) ((rd_T26 l0_8 x9_1).f0) ((rd_T26 l0_8 x9_1).f1.f0) ((rd_T26 l0_8 x9_1).f1.f1) ((rd_T26 l0_8 x9_1).f1.f2) ((rd_T26 l0_8 x9_1).f2) ((rd_T26 l0_8 x9_1).f3) ((rd_T26 l0_8 x9_1).f4) ((rd_T26 l0_8 x9_1).f5) _ _ ((rd_T26 l0_8 x9_1).f6) _ _ l1 _ _ l2 t454 false _ ?side1 ?side2 ?side3 ?side4 ?side5 ?side6 A24.out).mono ?_); (case side1 => repeat (first | exact (Kd.C_below HR453_8.out HB.out) | (with_reducible refine Kd.C_alloc ?_ _) | (with_reducible refine Kd.C_drewN ?_ _) | (with_reducible refine Kd.C_drew ?_))); (case side2 => exact HC453_8.out); (case side3 => repeat (first | exact (Kd.C_below HR1.out HB.out) | (with_reducible refine Kd.C_alloc ?_ _) | (with_reducible refine Kd.C_drewN ?_ _) | (with_reducible refine Kd.C_drew ?_))); (case side4 => exact HC1.out); (case side5 => repeat (first | exact (Kd.C_below HR2.out HB.out) | (with_reducible refine Kd.C_alloc ?_ _) | (with_reducible refine Kd.C_drewN ?_ _) | (with_reducible refine Kd.C_drew ?_))); (case side6 => exact HC2.out); rintro e w31 ⟨rfl, hb⟩; have n0_ := Asd.mk (Kd.R_below (by (with_reducible repeat (first | apply Kd.R_alloc | apply Kd.R_drewN | apply Kd.R_drew)); exact HO_8.out) hb); have n1_ := Asd.mk (blk_below (g := gb449) (o := .cells #[.int .i64 a0_0, .int .i64 a0_1, .int .i64 a0_2, .string a0_3, .int .i64 a0_4, .int .i64 a0_5, .int .i64 a0_6, .string a0_7, .slice (some ad453) l0_8.length c0_8] 26 (0, 0)) (by (with_reducible repeat (first | refine bkN ?_ _ | refine bkD ?_ | refine bkA ?_ _)); exact BK449.out) hb); have n2_ := Asd.mk (below_step (by repeat (first | (with_reducible first | exact HB.out | apply blA | apply pbN | apply blD | refine blS ?_ GE449.out) | exact HB.out)) hb); clear HO_8; clear BK449; clear HB; have HO_8 := n0_; have BK449 := n1_; have HB := n2_; clear n0_ n1_ n2_; (try clear hb); (try clear hb2); (try clear hk); (try clear hi))); try go_wp2_with (first | (go_at_call 41; (with_reducible refine (ih k1 (by have := HK1.out; omega) ((rd_T26 l0_8 x9_1).f0) ((rd_T26 l0_8 x9_1).f1.f0) ((rd_T26 l0_8 x9_1).f1.f1) ((rd_T26 l0_8 x9_1).f1.f2) ((rd_T26 l0_8 x9_1).f2) ((rd_T26 l0_8 x9_1).f3) ((rd_T26 l0_8 x9_1).f4) ((rd_T26 l0_8 x9_1).f5) _ _ ((rd_T26 l0_8 x9_1).f6) _ _ l1 _ _ l2 t454 false _ ?side1 ?side2 ?side3 ?side4 ?side5 ?side6 A24.out).mono ?_); (case side1 => repeat (first | exact (Kd.C_below HR453_8.out HB.out) | (with_reducible refine Kd.C_alloc ?_ _) | (with_reducible refine Kd.C_drewN ?_ _) | (with_reducible refine Kd.C_drew ?_))); (case side2 => exact HC453_8.out); (case side3 => repeat (first | exact (Kd.C_below HR1.out HB.out) | (with_reducible refine Kd.C_alloc ?_ _) | (with_reducible refine Kd.C_drewN ?_ _) | (with_reducible refine Kd.C_drew ?_))); (case side4 => exact HC1.out); (case side5 => repeat (first | exact (Kd.C_below HR2.out HB.out) | (with_reducible refine Kd.C_alloc ?_ _) | (with_reducible refine Kd.C_drewN ?_ _) | (with_reducible refine Kd.C_drew ?_))); (case side6 => exact HC2.out); rintro e w31 ⟨rfl, hb⟩; have n0_ := Asd.mk (Kd.R_below (by (with_reducible repeat (first | apply Kd.R_alloc | apply Kd.R_drewN | apply Kd.R_drew)); exact HO_8.out) hb); have n1_ := Asd.mk (blk_below (g := gb449) (o := .cells #[.int .i64 a0_0, .int .i64 a0_1, .int .i64 a0_2, .string a0_3, .int .i64 a0_4, .int .i64 a0_5, .int .i64 a0_6, .string a0_7, .slice (some ad453) l0_8.length c0_8] 26 (0, 0)) (by (with_reducible repeat (first | refine bkN ?_ _ | refine bkD ?_ | refine bkA ?_ _)); exact BK449.out) hb); have n2_ := Asd.mk (below_step (by repeat (first | (with_reducible first | exact HB.out | apply blA | apply pbN | apply blD | refine blS ?_ GE449.out) | exact HB.out)) hb); clear HO_8; clear BK449; clear HB; have HO_8 := n0_; have BK449 := n1_; have HB := n2_; clear n0_ n1_ n2_; (try clear hb); (try clear hb2); (try clear hk); (try clear hi))))
         go_ret2
         exact ⟨by first | rfl | (simp [errW_none, errW_some] <;> rfl) | (simp [*, errW_none, errW_some] <;> rfl), by repeat (first | (with_reducible first | exact HB.out | apply blA | apply pbN | apply blD | refine blS ?_ GE449.out) | exact HB.out)⟩
       ·rw [if_neg c23] at H
        exact absurd H (by simp)
      ·rw [if_neg c22] at H
       have c22b0 : decide (x9_1 < (l0_8.length : Int)) = false := decide_eq_false c22
       clear c22
       by_cases c32 : a0_0 ≤ 8
       ·rw [if_pos c32] at H
        have c32b0 : decide (a0_0 ≤ 8) = true := decide_eq_true c32
        clear c32
        have H' := Asd.mk H
        clear H
        have hcz33_0 : wr.cell? ⟨gb449, 0, none⟩ = some (.int .i64 a0_0) := (bkC BK449.out 0).trans rfl
        have hcz33_1 : wr.cell? ⟨gb449, 1, none⟩ = some (.int .i64 a0_1) := (bkC BK449.out 1).trans rfl
        have hcz33_2 : wr.cell? ⟨gb449, 2, none⟩ = some (.int .i64 a0_2) := (bkC BK449.out 2).trans rfl
        have hcz33_3 : wr.cell? ⟨gb449, 3, none⟩ = some (.string a0_3) := (bkC BK449.out 3).trans rfl
        have hcz33_4 : wr.cell? ⟨gb449, 4, none⟩ = some (.int .i64 a0_4) := (bkC BK449.out 4).trans rfl
        have hcz33_5 : wr.cell? ⟨gb449, 5, none⟩ = some (.int .i64 a0_5) := (bkC BK449.out 5).trans rfl
        have hcz33_6 : wr.cell? ⟨gb449, 6, none⟩ = some (.int .i64 a0_6) := (bkC BK449.out 6).trans rfl
        have hcz33_7 : wr.cell? ⟨gb449, 7, none⟩ = some (.string a0_7) := (bkC BK449.out 7).trans rfl
        have hcz33_8 : wr.cell? ⟨gb449, 8, none⟩ = some (.slice A0_8 l0_8.length c0_8) := (bkC BK449.out 8).trans rfl
        have hfz33_0 := bkF BK449.out 0
        have hfz33_1 := bkF BK449.out 1
        have hfz33_2 := bkF BK449.out 2
        have hfz33_3 := bkF BK449.out 3
        have hfz33_4 := bkF BK449.out 4
        have hfz33_5 := bkF BK449.out 5
        have hfz33_6 := bkF BK449.out 6
        have hfz33_7 := bkF BK449.out 7
        have hfz33_8 := bkF BK449.out 8
        go_wp2
        repeat (go_quiet (fail); try go_wp2)
        go_loopg [12] k1 (fun kq v12 w' => ∃ (x12_2 : Int), v12 = .int .i64 x12_2 ∧ Asd (q08_kind.l1 kq x8_1 x12_2 = some (r1, r2)) ∧ Asd (kq ≤ k1) ∧ Asd (Kd.R (Kd.int .i64) 3 w' w.heap.size (fun _ => True) u8 x8_1) ∧ Asd (w'.heap[gb449]? = some (.cells #[.int .i64 a0_0, .int .i64 a0_1, .int .i64 a0_2, .string a0_3, .int .i64 a0_4, .int .i64 a0_5, .int .i64 a0_6, .string a0_7, (.slice A0_8 l0_8.length c0_8)] 26 (0, 0))) ∧ Asd (Below w.heap.size w w'))
        case atStart => exact ⟨(0), (by first | rfl | (simp; done) | (simp [*]; done)), H', ⟨Nat.le_refl _⟩, ⟨by (with_reducible repeat (first | apply Kd.R_alloc | apply Kd.R_drewN | apply Kd.R_drew)); exact HO_8.out⟩, ⟨by (with_reducible repeat (first | refine bkN ?_ _ | refine bkD ?_ | refine bkA ?_ _)); exact BK449.out⟩, ⟨by repeat (first | (with_reducible first | exact HB.out | apply blA | apply pbN | apply blD | refine blS ?_ GE449.out) | exact HB.out)⟩⟩
        case round =>
         clear H'
         try clear c1
         try clear c2
         try clear p2
         try clear c3
         try clear c4
         try clear c4b0
         try clear c4b1
         try clear p4
         try clear q4
         try clear hx4
         try clear p6
         try clear c7
         try clear c7b0
         try clear c7b1
         try clear c8
         try clear c8b0
         try clear c9
         try clear c9b0
         try clear c10
         try clear c10b0
         try clear c11
         try clear c11b0
         try clear c14
         try clear c14b0
         try clear c14b1
         try clear c16
         try clear c16b0
         try clear c17
         try clear c17b0
         try clear c22
         try clear c22b0
         try clear c23
         try clear c23b0
         try clear c25
         try clear c26
         try clear c32
         try clear c32b0
         try clear hcz13_0
         try clear hcz13_1
         try clear hcz13_2
         try clear hcz13_3
         try clear hcz13_4
         try clear hcz13_5
         try clear hcz13_6
         try clear hcz13_7
         try clear hcz13_8
         try clear hcz19_0
         try clear hcz19_1
         try clear hcz19_2
         try clear hcz19_3
         try clear hcz19_4
         try clear hcz19_5
         try clear hcz19_6
         try clear hcz19_7
         try clear hcz19_8
         try clear hcz21_0
         try clear hcz21_1
         try clear hcz21_2
         try clear hcz21_3
         try clear hcz21_4
         try clear hcz21_5
         try clear hcz21_6
         try clear hcz21_7
         try clear hcz21_8
         try clear hcz27_0
         try clear hcz27_1
         try clear hcz27_2
         try clear hcz27_3
         try clear hcz27_4
         try clear hcz27_5
         try clear hcz27_6
         try clear hcz27_7
         try clear hcz27_8
         try clear hcz30_0
         try clear hcz30_1
         try clear hcz30_2
         try clear hcz30_3
         try clear hcz30_4
         try clear hcz30_5
         try clear hcz30_6
         try clear hcz30_7
         try clear hcz30_8
         try clear hcz33_0
         try clear hcz33_1
         try clear hcz33_2
         try clear hcz33_3
         try clear hcz33_4
         try clear hcz33_5
         try clear hcz33_6
         try clear hcz33_7
         try clear hcz33_8
         try clear hcz6_0
         try clear hcz6_1
         try clear hcz6_2
         try clear hcz6_3
         try clear hcz6_4
         try clear hcz6_5
         try clear hcz6_6
         try clear hcz6_7
         try clear hcz6_8
         try clear hfz13_0
         try clear hfz13_1
         try clear hfz13_2
         try clear hfz13_3
         try clear hfz13_4
         try clear hfz13_5
         try clear hfz13_6
         try clear hfz13_7
         try clear hfz13_8
         try clear hfz19_0
         try clear hfz19_1
         try clear hfz19_2
         try clear hfz19_3
         try clear hfz19_4
         try clear hfz19_5
         try clear hfz19_6
         try clear hfz19_7
         try clear hfz19_8
         try clear hfz21_0
         try clear hfz21_1
         try clear hfz21_2
         try clear hfz21_3
         try clear hfz21_4
         try clear hfz21_5
         try clear hfz21_6
         try clear hfz21_7
         try clear hfz21_8
         try clear hfz27_0
         try clear hfz27_1
         try clear hfz27_2
         try clear hfz27_3
         try clear hfz27_4
         try clear hfz27_5
         try clear hfz27_6
         try clear hfz27_7
         try clear hfz27_8
         try clear hfz30_0
         try clear hfz30_1
         try clear hfz30_2
         try clear hfz30_3
         try clear hfz30_4
         try clear hfz30_5
         try clear hfz30_6
         try clear hfz30_7
         try clear hfz30_8
         try clear hfz33_0
         try clear hfz33_1
         try clear hfz33_2
         try clear hfz33_3
         try clear hfz33_4
         try clear hfz33_5
         try clear hfz33_6
         try clear hfz33_7
         try clear hfz33_8
         try clear hfz6_0
         try clear hfz6_1
         try clear hfz6_2
         try clear hfz6_3
         try clear hfz6_4
         try clear hfz6_5
         try clear hfz6_6
         try clear hfz6_7
         try clear hfz6_8
         try clear hx450_0
         try clear hx451_0
         try clear hx452_0
         try clear hx453_0
         try clear hx453_1
         try clear hx453_2
         try clear hx453_3
         try clear hx453_4
         try clear hx453_5
         try clear hx453_6
         try clear hx453_7
         try clear hx453_8
         try clear p2
         try clear p4
         try clear p450
         try clear p451
         try clear p452
         try clear p453
         try clear p6
         try clear q4
         try clear q450
         try clear q451
         try clear q452
         try clear q453
         obtain ⟨x12_2, rfl, HA, HK2, HO_8, BK449, HB⟩ := hrel
         cases gk with
         | zero => exact absurd HA.out (by simp [q08_kind.l1])
         | succ k2 =>
          have H := HA.out
          clear HA
          simp only [q08_kind.l1] at H
          by_cases c34 : x12_2 < (x8_1.length : Int)
          ·rw [if_pos c34] at H
           have c34b0 : decide (x12_2 < (x8_1.length : Int)) = true := decide_eq_true c34
           clear c34
           by_cases c35 : 0 ≤ x12_2
           ·rw [if_pos c35] at H
            have c35b0 : decide (0 ≤ x12_2) = true := decide_eq_true c35
            clear c35
            by_cases c36 : (rd x8_1 x12_2) = 1
            ·rw [if_pos c36] at H
             have c36b0 : ((rd x8_1 x12_2) == 1) = true := beq_iff_eq.mpr c36
             have c36b1 : ((rd x8_1 x12_2) != 1) = false := bne_eq_false_iff_eq.mpr c36
             clear c36
             have H' := Asd.mk H
             clear H
             obtain ⟨Ao37, co37, eo37⟩ := Kd.R_slice HO_8.out
             subst eo37
             have p459 : 0 ≤ (x12_2 : Int) := of_decide_eq_true (by first | (with_reducible assumption) | assumption)
             have q459 : x12_2 < (x8_1.length : Int) := of_decide_eq_true (by first | (with_reducible assumption) | assumption)
             obtain ⟨ad459, e459, hx459_0⟩ := Kd.at_int (Kd.R_reads' HO_8.out).2.2 x12_2 p459 q459
             cases e459
             replace p459 := eq_true p459
             replace q459 := eq_true q459
             go_wp2
             repeat (go_quiet (fail); try go_wp2)
             go_roundg k2
             case measure => have := HK1.out; have := HK2.out; omega
             case rel => exact ⟨(wrap64 (x12_2 + 1)), (by first | rfl | (simp; done) | (simp [*]; done)), H', ⟨by have := HK1.out; have := HK2.out; omega⟩, ⟨by (with_reducible repeat (first | apply Kd.R_alloc | apply Kd.R_drewN | apply Kd.R_drew)); exact HO_8.out⟩, ⟨by (with_reducible repeat (first | refine bkN ?_ _ | refine bkD ?_ | refine bkA ?_ _)); exact BK449.out⟩, ⟨by repeat (first | (with_reducible first | exact HB.out | apply blA | apply pbN | apply blD | refine blS ?_ GE449.out) | exact HB.out)⟩⟩
            ·rw [if_neg c36] at H
             have c36b0 : ((rd x8_1 x12_2) == 1) = false := beq_eq_false_iff_ne.mpr c36
             have c36b1 : ((rd x8_1 x12_2) != 1) = true := bne_iff_ne.mpr c36
             by_cases c38 : (rd x8_1 x12_2) = 0
             ·rw [if_pos c38] at H
              have c38b0 : ((rd x8_1 x12_2) == 0) = true := beq_iff_eq.mpr c38
              have c38b1 : ((rd x8_1 x12_2) != 0) = false := bne_eq_false_iff_eq.mpr c38
              clear c38
              have H' := Asd.mk H
              clear H
              obtain ⟨Ao39, co39, eo39⟩ := Kd.R_slice HO_8.out
              subst eo39
              have p459 : 0 ≤ (x12_2 : Int) := of_decide_eq_true (by first | (with_reducible assumption) | assumption)
              have q459 : x12_2 < (x8_1.length : Int) := of_decide_eq_true (by first | (with_reducible assumption) | assumption)
              obtain ⟨ad459, e459, hx459_0⟩ := Kd.at_int (Kd.R_reads' HO_8.out).2.2 x12_2 p459 q459
              cases e459
              replace p459 := eq_true p459
              replace q459 := eq_true q459
              have p460 : 0 ≤ (x12_2 : Int) := of_decide_eq_true (by first | (with_reducible assumption) | assumption)
              have q460 : x12_2 < (x8_1.length : Int) := of_decide_eq_true (by first | (with_reducible assumption) | assumption)
              obtain ⟨ad460, e460, hx460_0⟩ := Kd.at_int (Kd.R_reads' HO_8.out).2.2 x12_2 p460 q460
              obtain rfl : ad459 = ad460 := (by injection e460)
              replace p460 := eq_true p460
              replace q460 := eq_true q460
              go_wp2
              repeat (go_quiet (fail); try go_wp2)
              go_roundg k2
              case measure => have := HK1.out; have := HK2.out; omega
              case rel => exact ⟨(wrap64 (x12_2 + 1)), (by first | rfl | (simp; done) | (simp [*]; done)), H', ⟨by have := HK1.out; have := HK2.out; omega⟩, ⟨by (with_reducible repeat (first | apply Kd.R_alloc | apply Kd.R_drewN | apply Kd.R_drew)); exact HO_8.out⟩, ⟨by (with_reducible repeat (first | refine bkN ?_ _ | refine bkD ?_ | refine bkA ?_ _)); exact BK449.out⟩, ⟨by repeat (first | (with_reducible first | exact HB.out | apply blA | apply pbN | apply blD | refine blS ?_ GE449.out) | exact HB.out)⟩⟩
             ·rw [if_neg c38] at H
              have c38b0 : ((rd x8_1 x12_2) == 0) = false := beq_eq_false_iff_ne.mpr c38
              have c38b1 : ((rd x8_1 x12_2) != 0) = true := bne_iff_ne.mpr c38
              simp only [Option.some.injEq, Prod.mk.injEq] at H
              obtain ⟨rfl, rfl⟩ := H
              obtain ⟨Ao40, co40, eo40⟩ := Kd.R_slice HO_8.out
              subst eo40
              have p459 : 0 ≤ (x12_2 : Int) := of_decide_eq_true (by first | (with_reducible assumption) | assumption)
              have q459 : x12_2 < (x8_1.length : Int) := of_decide_eq_true (by first | (with_reducible assumption) | assumption)
              obtain ⟨ad459, e459, hx459_0⟩ := Kd.at_int (Kd.R_reads' HO_8.out).2.2 x12_2 p459 q459
              cases e459
              replace p459 := eq_true p459
              replace q459 := eq_true q459
              have p460 : 0 ≤ (x12_2 : Int) := of_decide_eq_true (by first | (with_reducible assumption) | assumption)
              have q460 : x12_2 < (x8_1.length : Int) := of_decide_eq_true (by first | (with_reducible assumption) | assumption)
              obtain ⟨ad460, e460, hx460_0⟩ := Kd.at_int (Kd.R_reads' HO_8.out).2.2 x12_2 p460 q460
              obtain rfl : ad459 = ad460 := (by injection e460)
              replace p460 := eq_true p460
              replace q460 := eq_true q460
              go_wp2
              repeat (go_quiet (fail); try go_wp2)
              go_ret2
              exact ⟨by first | rfl | (simp [errW_none, errW_some] <;> rfl) | (simp [*, errW_none, errW_some] <;> rfl), by repeat (first | (with_reducible first | exact HB.out | apply blA | apply pbN | apply blD | refine blS ?_ GE449.out) | exact HB.out)⟩
           ·rw [if_neg c35] at H
            exact absurd H (by simp)
          ·rw [if_neg c34] at H
           have c34b0 : decide (x12_2 < (x8_1.length : Int)) = false := decide_eq_false c34
           clear c34
           simp only [Option.some.injEq, Prod.mk.injEq] at H
           obtain ⟨rfl, rfl⟩ := H
           obtain ⟨Ao41, co41, eo41⟩ := Kd.R_slice HO_8.out
           subst eo41
           go_wp2
           repeat (go_quiet (fail); try go_wp2)
           go_ret2
           exact ⟨by first | rfl | (simp [errW_none, errW_some] <;> rfl) | (simp [*, errW_none, errW_some] <;> rfl), by repeat (first | (with_reducible first | exact HB.out | apply blA | apply pbN | apply blD | refine blS ?_ GE449.out) | exact HB.out)⟩
       ·rw [if_neg c32] at H
        have c32b0 : decide (a0_0 ≤ 8) = false := decide_eq_false c32
        clear c32
        by_cases c42 : a0_0 ≤ 14
        ·rw [if_pos c42] at H
         have c42b0 : decide (a0_0 ≤ 14) = true := decide_eq_true c42
         clear c42
         by_cases c43 : 0 < (x8_1.length : Int)
         ·rw [if_pos c43] at H
          have c43b0 : decide (0 < (x8_1.length : Int)) = true := decide_eq_true c43
          have c43b1 : decide (0 < x8_1.length) = true := decide_eq_true (by omega)
          clear c43
          by_cases c44 : 1 < (x8_1.length : Int)
          ·rw [if_pos c44] at H
           have c44b0 : decide (1 < (x8_1.length : Int)) = true := decide_eq_true c44
           have c44b1 : decide (1 < x8_1.length) = true := decide_eq_true (by omega)
           clear c44
           by_cases c45 : (rd x8_1 0) = (rd x8_1 1)
           ·rw [if_pos c45] at H
            have c45b0 : ((rd x8_1 0) == (rd x8_1 1)) = true := beq_iff_eq.mpr c45
            have c45b1 : ((rd x8_1 0) != (rd x8_1 1)) = false := bne_eq_false_iff_eq.mpr c45
            clear c45
            simp only [Option.some.injEq, Prod.mk.injEq] at H
            obtain ⟨rfl, rfl⟩ := H
            have hcz46_0 : wr.cell? ⟨gb449, 0, none⟩ = some (.int .i64 a0_0) := (bkC BK449.out 0).trans rfl
            have hcz46_1 : wr.cell? ⟨gb449, 1, none⟩ = some (.int .i64 a0_1) := (bkC BK449.out 1).trans rfl
            have hcz46_2 : wr.cell? ⟨gb449, 2, none⟩ = some (.int .i64 a0_2) := (bkC BK449.out 2).trans rfl
            have hcz46_3 : wr.cell? ⟨gb449, 3, none⟩ = some (.string a0_3) := (bkC BK449.out 3).trans rfl
            have hcz46_4 : wr.cell? ⟨gb449, 4, none⟩ = some (.int .i64 a0_4) := (bkC BK449.out 4).trans rfl
            have hcz46_5 : wr.cell? ⟨gb449, 5, none⟩ = some (.int .i64 a0_5) := (bkC BK449.out 5).trans rfl
            have hcz46_6 : wr.cell? ⟨gb449, 6, none⟩ = some (.int .i64 a0_6) := (bkC BK449.out 6).trans rfl
            have hcz46_7 : wr.cell? ⟨gb449, 7, none⟩ = some (.string a0_7) := (bkC BK449.out 7).trans rfl
            have hcz46_8 : wr.cell? ⟨gb449, 8, none⟩ = some (.slice A0_8 l0_8.length c0_8) := (bkC BK449.out 8).trans rfl
            have hfz46_0 := bkF BK449.out 0
            have hfz46_1 := bkF BK449.out 1
            have hfz46_2 := bkF BK449.out 2
            have hfz46_3 := bkF BK449.out 3
            have hfz46_4 := bkF BK449.out 4
            have hfz46_5 := bkF BK449.out 5
            have hfz46_6 := bkF BK449.out 6
            have hfz46_7 := bkF BK449.out 7
            have hfz46_8 := bkF BK449.out 8
            obtain ⟨Ao47, co47, eo47⟩ := Kd.R_slice HO_8.out
            subst eo47
            have p461 : 0 ≤ (0 : Int) := (by omega)
            have q461 : 0 < (x8_1.length : Int) := of_decide_eq_true (by first | (with_reducible assumption) | assumption)
            obtain ⟨ad461, e461, hx461_0⟩ := Kd.at_int (Kd.R_reads' HO_8.out).2.2 0 p461 q461
            cases e461
            have qi461 : (0 < x8_1.length) = True := eq_true (by omega)
            (try rw [show ((0 : Int)).toNat = 0 from rfl] at hx461_0)
            (try rw [Addr.add_zero'] at hx461_0)
            replace p461 := eq_true p461
            replace q461 := eq_true q461
            have p462 : 0 ≤ (1 : Int) := (by omega)
            have q462 : 1 < (x8_1.length : Int) := of_decide_eq_true (by first | (with_reducible assumption) | assumption)
            obtain ⟨ad462, e462, hx462_0⟩ := Kd.at_int (Kd.R_reads' HO_8.out).2.2 1 p462 q462
            obtain rfl : ad461 = ad462 := (by injection e462)
            (try simp only [show (1 : Int).toNat = 1 from rfl, Nat.reduceMul, Nat.reduceEqDiff, Go.Addr.add, ↓reduceIte] at hx462_0)
            have qi462 : (1 < x8_1.length) = True := eq_true (by omega)
            (try rw [show ((1 : Int)).toNat = 1 from rfl] at hx462_0)
            replace p462 := eq_true p462
            replace q462 := eq_true q462
            go_wp2
            repeat (go_quiet (fail); try go_wp2)
            go_ret2
            exact ⟨by first | rfl | (simp [errW_none, errW_some] <;> rfl) | (simp [*, errW_none, errW_some] <;> rfl), by repeat (first | (with_reducible first | exact HB.out | apply blA | apply pbN | apply blD | refine blS ?_ GE449.out) | exact HB.out)⟩
           ·rw [if_neg c45] at H
            have c45b0 : ((rd x8_1 0) == (rd x8_1 1)) = false := beq_eq_false_iff_ne.mpr c45
            have c45b1 : ((rd x8_1 0) != (rd x8_1 1)) = true := bne_iff_ne.mpr c45
            by_cases c48 : (rd x8_1 0) = 0
            ·rw [if_pos c48] at H
             have c48b0 : ((rd x8_1 0) == 0) = true := beq_iff_eq.mpr c48
             have c48b1 : ((rd x8_1 0) != 0) = false := bne_eq_false_iff_eq.mpr c48
             clear c48
             simp only [Option.some.injEq, Prod.mk.injEq] at H
             obtain ⟨rfl, rfl⟩ := H
             have hcz49_0 : wr.cell? ⟨gb449, 0, none⟩ = some (.int .i64 a0_0) := (bkC BK449.out 0).trans rfl
             have hcz49_1 : wr.cell? ⟨gb449, 1, none⟩ = some (.int .i64 a0_1) := (bkC BK449.out 1).trans rfl
             have hcz49_2 : wr.cell? ⟨gb449, 2, none⟩ = some (.int .i64 a0_2) := (bkC BK449.out 2).trans rfl
             have hcz49_3 : wr.cell? ⟨gb449, 3, none⟩ = some (.string a0_3) := (bkC BK449.out 3).trans rfl
             have hcz49_4 : wr.cell? ⟨gb449, 4, none⟩ = some (.int .i64 a0_4) := (bkC BK449.out 4).trans rfl
             have hcz49_5 : wr.cell? ⟨gb449, 5, none⟩ = some (.int .i64 a0_5) := (bkC BK449.out 5).trans rfl
             have hcz49_6 : wr.cell? ⟨gb449, 6, none⟩ = some (.int .i64 a0_6) := (bkC BK449.out 6).trans rfl
             have hcz49_7 : wr.cell? ⟨gb449, 7, none⟩ = some (.string a0_7) := (bkC BK449.out 7).trans rfl
             have hcz49_8 : wr.cell? ⟨gb449, 8, none⟩ = some (.slice A0_8 l0_8.length c0_8) := (bkC BK449.out 8).trans rfl
             have hfz49_0 := bkF BK449.out 0
             have hfz49_1 := bkF BK449.out 1
             have hfz49_2 := bkF BK449.out 2
             have hfz49_3 := bkF BK449.out 3
             have hfz49_4 := bkF BK449.out 4
             have hfz49_5 := bkF BK449.out 5
             have hfz49_6 := bkF BK449.out 6
             have hfz49_7 := bkF BK449.out 7
             have hfz49_8 := bkF BK449.out 8
             obtain ⟨Ao50, co50, eo50⟩ := Kd.R_slice HO_8.out
             subst eo50
             have p461 : 0 ≤ (0 : Int) := (by omega)
             have q461 : 0 < (x8_1.length : Int) := of_decide_eq_true (by first | (with_reducible assumption) | assumption)
             obtain ⟨ad461, e461, hx461_0⟩ := Kd.at_int (Kd.R_reads' HO_8.out).2.2 0 p461 q461
             cases e461
             have qi461 : (0 < x8_1.length) = True := eq_true (by omega)
             (try rw [show ((0 : Int)).toNat = 0 from rfl] at hx461_0)
             (try rw [Addr.add_zero'] at hx461_0)
             replace p461 := eq_true p461
             replace q461 := eq_true q461
             have p462 : 0 ≤ (1 : Int) := (by omega)
             have q462 : 1 < (x8_1.length : Int) := of_decide_eq_true (by first | (with_reducible assumption) | assumption)
             obtain ⟨ad462, e462, hx462_0⟩ := Kd.at_int (Kd.R_reads' HO_8.out).2.2 1 p462 q462
             obtain rfl : ad461 = ad462 := (by injection e462)
             (try simp only [show (1 : Int).toNat = 1 from rfl, Nat.reduceMul, Nat.reduceEqDiff, Go.Addr.add, ↓reduceIte] at hx462_0)
             have qi462 : (1 < x8_1.length) = True := eq_true (by omega)
             (try rw [show ((1 : Int)).toNat = 1 from rfl] at hx462_0)
             replace p462 := eq_true p462
             replace q462 := eq_true q462
             have p463 : 0 ≤ (0 : Int) := (by omega)
             have q463 : 0 < (x8_1.length : Int) := of_decide_eq_true (by first | (with_reducible assumption) | assumption)
             obtain ⟨ad463, e463, hx463_0⟩ := Kd.at_int (Kd.R_reads' HO_8.out).2.2 0 p463 q463
             obtain rfl : ad461 = ad463 := (by injection e463)
             have qi463 : (0 < x8_1.length) = True := eq_true (by omega)
             (try rw [show ((0 : Int)).toNat = 0 from rfl] at hx463_0)
             (try rw [Addr.add_zero'] at hx463_0)
             replace p463 := eq_true p463
             replace q463 := eq_true q463
             go_wp2
             repeat (go_quiet (fail); try go_wp2)
             go_ret2
             exact ⟨by first | rfl | (simp [errW_none, errW_some] <;> rfl) | (simp [*, errW_none, errW_some] <;> rfl), by repeat (first | (with_reducible first | exact HB.out | apply blA | apply pbN | apply blD | refine blS ?_ GE449.out) | exact HB.out)⟩
            ·rw [if_neg c48] at H
             have c48b0 : ((rd x8_1 0) == 0) = false := beq_eq_false_iff_ne.mpr c48
             have c48b1 : ((rd x8_1 0) != 0) = true := bne_iff_ne.mpr c48
             simp only [Option.some.injEq, Prod.mk.injEq] at H
             obtain ⟨rfl, rfl⟩ := H
             have hcz51_0 : wr.cell? ⟨gb449, 0, none⟩ = some (.int .i64 a0_0) := (bkC BK449.out 0).trans rfl
             have hcz51_1 : wr.cell? ⟨gb449, 1, none⟩ = some (.int .i64 a0_1) := (bkC BK449.out 1).trans rfl
             have hcz51_2 : wr.cell? ⟨gb449, 2, none⟩ = some (.int .i64 a0_2) := (bkC BK449.out 2).trans rfl
             have hcz51_3 : wr.cell? ⟨gb449, 3, none⟩ = some (.string a0_3) := (bkC BK449.out 3).trans rfl
             have hcz51_4 : wr.cell? ⟨gb449, 4, none⟩ = some (.int .i64 a0_4) := (bkC BK449.out 4).trans rfl
             have hcz51_5 : wr.cell? ⟨gb449, 5, none⟩ = some (.int .i64 a0_5) := (bkC BK449.out 5).trans rfl
             have hcz51_6 : wr.cell? ⟨gb449, 6, none⟩ = some (.int .i64 a0_6) := (bkC BK449.out 6).trans rfl
             have hcz51_7 : wr.cell? ⟨gb449, 7, none⟩ = some (.string a0_7) := (bkC BK449.out 7).trans rfl
             have hcz51_8 : wr.cell? ⟨gb449, 8, none⟩ = some (.slice A0_8 l0_8.length c0_8) := (bkC BK449.out 8).trans rfl
             have hfz51_0 := bkF BK449.out 0
             have hfz51_1 := bkF BK449.out 1
             have hfz51_2 := bkF BK449.out 2
             have hfz51_3 := bkF BK449.out 3
             have hfz51_4 := bkF BK449.out 4
             have hfz51_5 := bkF BK449.out 5
             have hfz51_6 := bkF BK449.out 6
             have hfz51_7 := bkF BK449.out 7
             have hfz51_8 := bkF BK449.out 8
             obtain ⟨Ao52, co52, eo52⟩ := Kd.R_slice HO_8.out
             subst eo52
             have p461 : 0 ≤ (0 : Int) := (by omega)
             have q461 : 0 < (x8_1.length : Int) := of_decide_eq_true (by first | (with_reducible assumption) | assumption)
             obtain ⟨ad461, e461, hx461_0⟩ := Kd.at_int (Kd.R_reads' HO_8.out).2.2 0 p461 q461
             cases e461
             have qi461 : (0 < x8_1.length) = True := eq_true (by omega)
             (try rw [show ((0 : Int)).toNat = 0 from rfl] at hx461_0)
             (try rw [Addr.add_zero'] at hx461_0)
             replace p461 := eq_true p461
             replace q461 := eq_true q461
             have p462 : 0 ≤ (1 : Int) := (by omega)
             have q462 : 1 < (x8_1.length : Int) := of_decide_eq_true (by first | (with_reducible assumption) | assumption)
             obtain ⟨ad462, e462, hx462_0⟩ := Kd.at_int (Kd.R_reads' HO_8.out).2.2 1 p462 q462
             obtain rfl : ad461 = ad462 := (by injection e462)
             (try simp only [show (1 : Int).toNat = 1 from rfl, Nat.reduceMul, Nat.reduceEqDiff, Go.Addr.add, ↓reduceIte] at hx462_0)
             have qi462 : (1 < x8_1.length) = True := eq_true (by omega)
             (try rw [show ((1 : Int)).toNat = 1 from rfl] at hx462_0)
             replace p462 := eq_true p462
             replace q462 := eq_true q462
             have p463 : 0 ≤ (0 : Int) := (by omega)
             have q463 : 0 < (x8_1.length : Int) := of_decide_eq_true (by first | (with_reducible assumption) | assumption)
             obtain ⟨ad463, e463, hx463_0⟩ := Kd.at_int (Kd.R_reads' HO_8.out).2.2 0 p463 q463
             obtain rfl : ad461 = ad463 := (by injection e463)
             have qi463 : (0 < x8_1.length) = True := eq_true (by omega)
             (try rw [show ((0 : Int)).toNat = 0 from rfl] at hx463_0)
             (try rw [Addr.add_zero'] at hx463_0)
             replace p463 := eq_true p463
             replace q463 := eq_true q463
             have p464 : 0 ≤ (1 : Int) := (by omega)
             have q464 : 1 < (x8_1.length : Int) := of_decide_eq_true (by first | (with_reducible assumption) | assumption)
             obtain ⟨ad464, e464, hx464_0⟩ := Kd.at_int (Kd.R_reads' HO_8.out).2.2 1 p464 q464
             obtain rfl : ad461 = ad464 := (by injection e464)
             (try simp only [show (1 : Int).toNat = 1 from rfl, Nat.reduceMul, Nat.reduceEqDiff, Go.Addr.add, ↓reduceIte] at hx464_0)
             have qi464 : (1 < x8_1.length) = True := eq_true (by omega)
             (try rw [show ((1 : Int)).toNat = 1 from rfl] at hx464_0)
             replace p464 := eq_true p464
             replace q464 := eq_true q464
             go_wp2
             repeat (go_quiet (fail); try go_wp2)
             go_ret2
             exact ⟨by first | rfl | (simp [errW_none, errW_some] <;> rfl) | (simp [*, errW_none, errW_some] <;> rfl), by repeat (first | (with_reducible first | exact HB.out | apply blA | apply pbN | apply blD | refine blS ?_ GE449.out) | exact HB.out)⟩
          ·rw [if_neg c44] at H
           exact absurd H (by simp)
         ·rw [if_neg c43] at H
          exact absurd H (by simp)
        ·rw [if_neg c42] at H
         have c42b0 : decide (a0_0 ≤ 14) = false := decide_eq_false c42
         clear c42
         by_cases c53 : a0_0 = 18
         ·rw [if_pos c53] at H
          have c53b0 : (a0_0 == 18) = true := beq_iff_eq.mpr c53
          have c53b1 : (a0_0 != 18) = false := bne_eq_false_iff_eq.mpr c53
          clear c53
          simp only [Option.some.injEq, Prod.mk.injEq] at H
          obtain ⟨rfl, rfl⟩ := H
          have hcz54_0 : wr.cell? ⟨gb449, 0, none⟩ = some (.int .i64 a0_0) := (bkC BK449.out 0).trans rfl
          have hcz54_1 : wr.cell? ⟨gb449, 1, none⟩ = some (.int .i64 a0_1) := (bkC BK449.out 1).trans rfl
          have hcz54_2 : wr.cell? ⟨gb449, 2, none⟩ = some (.int .i64 a0_2) := (bkC BK449.out 2).trans rfl
          have hcz54_3 : wr.cell? ⟨gb449, 3, none⟩ = some (.string a0_3) := (bkC BK449.out 3).trans rfl
          have hcz54_4 : wr.cell? ⟨gb449, 4, none⟩ = some (.int .i64 a0_4) := (bkC BK449.out 4).trans rfl
          have hcz54_5 : wr.cell? ⟨gb449, 5, none⟩ = some (.int .i64 a0_5) := (bkC BK449.out 5).trans rfl
          have hcz54_6 : wr.cell? ⟨gb449, 6, none⟩ = some (.int .i64 a0_6) := (bkC BK449.out 6).trans rfl
          have hcz54_7 : wr.cell? ⟨gb449, 7, none⟩ = some (.string a0_7) := (bkC BK449.out 7).trans rfl
          have hcz54_8 : wr.cell? ⟨gb449, 8, none⟩ = some (.slice A0_8 l0_8.length c0_8) := (bkC BK449.out 8).trans rfl
          have hfz54_0 := bkF BK449.out 0
          have hfz54_1 := bkF BK449.out 1
          have hfz54_2 := bkF BK449.out 2
          have hfz54_3 := bkF BK449.out 3
          have hfz54_4 := bkF BK449.out 4
          have hfz54_5 := bkF BK449.out 5
          have hfz54_6 := bkF BK449.out 6
          have hfz54_7 := bkF BK449.out 7
          have hfz54_8 := bkF BK449.out 8
          go_wp2
          repeat (go_quiet (fail); try go_wp2)
          go_ret2
          exact ⟨by first | rfl | (simp [errW_none, errW_some] <;> rfl) | (simp [*, errW_none, errW_some] <;> rfl), by repeat (first | (with_reducible first | exact HB.out | apply blA | apply pbN | apply blD | refine blS ?_ GE449.out) | exact HB.out)⟩
         ·rw [if_neg c53] at H
          have c53b0 : (a0_0 == 18) = false := beq_eq_false_iff_ne.mpr c53
          have c53b1 : (a0_0 != 18) = true := bne_iff_ne.mpr c53
          have H' := Asd.mk H
          clear H
          have hcz55_0 : wr.cell? ⟨gb449, 0, none⟩ = some (.int .i64 a0_0) := (bkC BK449.out 0).trans rfl
          have hcz55_1 : wr.cell? ⟨gb449, 1, none⟩ = some (.int .i64 a0_1) := (bkC BK449.out 1).trans rfl
          have hcz55_2 : wr.cell? ⟨gb449, 2, none⟩ = some (.int .i64 a0_2) := (bkC BK449.out 2).trans rfl
          have hcz55_3 : wr.cell? ⟨gb449, 3, none⟩ = some (.string a0_3) := (bkC BK449.out 3).trans rfl
          have hcz55_4 : wr.cell? ⟨gb449, 4, none⟩ = some (.int .i64 a0_4) := (bkC BK449.out 4).trans rfl
          have hcz55_5 : wr.cell? ⟨gb449, 5, none⟩ = some (.int .i64 a0_5) := (bkC BK449.out 5).trans rfl
          have hcz55_6 : wr.cell? ⟨gb449, 6, none⟩ = some (.int .i64 a0_6) := (bkC BK449.out 6).trans rfl
          have hcz55_7 : wr.cell? ⟨gb449, 7, none⟩ = some (.string a0_7) := (bkC BK449.out 7).trans rfl
          have hcz55_8 : wr.cell? ⟨gb449, 8, none⟩ = some (.slice A0_8 l0_8.length c0_8) := (bkC BK449.out 8).trans rfl
          have hfz55_0 := bkF BK449.out 0
          have hfz55_1 := bkF BK449.out 1
          have hfz55_2 := bkF BK449.out 2
          have hfz55_3 := bkF BK449.out 3
          have hfz55_4 := bkF BK449.out 4
          have hfz55_5 := bkF BK449.out 5
          have hfz55_6 := bkF BK449.out 6
          have hfz55_7 := bkF BK449.out 7
          have hfz55_8 := bkF BK449.out 8
          go_wp2
          repeat (go_quiet (fail); try go_wp2)
          go_loopg [13] k1 (fun kq v13 w' => ∃ (x13_2 : Int), v13 = .int .i64 x13_2 ∧ Asd (q08_kind.l2 kq x8_1 x13_2 = some (r1, r2)) ∧ Asd (kq ≤ k1) ∧ Asd (Kd.R (Kd.int .i64) 3 w' w.heap.size (fun _ => True) u8 x8_1) ∧ Asd (w'.heap[gb449]? = some (.cells #[.int .i64 a0_0, .int .i64 a0_1, .int .i64 a0_2, .string a0_3, .int .i64 a0_4, .int .i64 a0_5, .int .i64 a0_6, .string a0_7, (.slice A0_8 l0_8.length c0_8)] 26 (0, 0))) ∧ Asd (Below w.heap.size w w'))
          case atStart => exact ⟨(0), (by first | rfl | (simp; done) | (simp [*]; done)), H', ⟨Nat.le_refl _⟩, ⟨by (with_reducible repeat (first | apply Kd.R_alloc | apply Kd.R_drewN | apply Kd.R_drew)); exact HO_8.out⟩, ⟨by (with_reducible repeat (first | refine bkN ?_ _ | refine bkD ?_ | refine bkA ?_ _)); exact BK449.out⟩, ⟨by repeat (first | (with_reducible first | exact HB.out | apply blA | apply pbN | apply blD | refine blS ?_ GE449.out) | exact HB.out)⟩⟩
          case round =>
           clear H'
           try clear c1
           try clear c2
           try clear p2
           try clear c3
           try clear c4
           try clear c4b0
           try clear c4b1
           try clear p4
           try clear q4
           try clear hx4
           try clear qi4
           try clear c5
           try clear p6
           try clear c7
           try clear c7b0
           try clear c7b1
           try clear c8
           try clear c8b0
           try clear c9
           try clear c9b0
           try clear c10
           try clear c10b0
           try clear c11
           try clear c11b0
           try clear c14
           try clear c14b0
           try clear c14b1
           try clear c16
           try clear c16b0
           try clear c17
           try clear c17b0
           try clear c22
           try clear c22b0
           try clear c23
           try clear c23b0
           try clear c25
           try clear c26
           try clear c32
           try clear c32b0
           try clear c34
           try clear c34b0
           try clear c35
           try clear c35b0
           try clear c36
           try clear c36b0
           try clear c36b1
           try clear c38
           try clear c38b0
           try clear c38b1
           try clear c42
           try clear c42b0
           try clear c43
           try clear c43b0
           try clear c43b1
           try clear c44
           try clear c44b0
           try clear c44b1
           try clear c45
           try clear c45b0
           try clear c45b1
           try clear p45
           try clear q45
           try clear hx45
           try clear p46
           try clear q46
           try clear hx46
           try clear qi46
           try clear c48
           try clear c48b0
           try clear c48b1
           try clear c53
           try clear c53b0
           try clear c53b1
           try clear hcz13_0
           try clear hcz13_1
           try clear hcz13_2
           try clear hcz13_3
           try clear hcz13_4
           try clear hcz13_5
           try clear hcz13_6
           try clear hcz13_7
           try clear hcz13_8
           try clear hcz19_0
           try clear hcz19_1
           try clear hcz19_2
           try clear hcz19_3
           try clear hcz19_4
           try clear hcz19_5
           try clear hcz19_6
           try clear hcz19_7
           try clear hcz19_8
           try clear hcz21_0
           try clear hcz21_1
           try clear hcz21_2
           try clear hcz21_3
           try clear hcz21_4
           try clear hcz21_5
           try clear hcz21_6
           try clear hcz21_7
           try clear hcz21_8
           try clear hcz27_0
           try clear hcz27_1
           try clear hcz27_2
           try clear hcz27_3
           try clear hcz27_4
           try clear hcz27_5
           try clear hcz27_6
           try clear hcz27_7
           try clear hcz27_8
           try clear hcz30_0
           try clear hcz30_1
           try clear hcz30_2
           try clear hcz30_3
           try clear hcz30_4
           try clear hcz30_5
           try clear hcz30_6
           try clear hcz30_7
           try clear hcz30_8
           try clear hcz33_0
           try clear hcz33_1
           try clear hcz33_2
           try clear hcz33_3
           try clear hcz33_4
           try clear hcz33_5
           try clear hcz33_6
           try clear hcz33_7
           try clear hcz33_8
           try clear hcz46_0
           try clear hcz46_1
           try clear hcz46_2
           try clear hcz46_3
           try clear hcz46_4
           try clear hcz46_5
           try clear hcz46_6
           try clear hcz46_7
           try clear hcz46_8
           try clear hcz49_0
           try clear hcz49_1
           try clear hcz49_2
           try clear hcz49_3
           try clear hcz49_4
           try clear hcz49_5
           try clear hcz49_6
           try clear hcz49_7
           try clear hcz49_8
           try clear hcz51_0
           try clear hcz51_1
           try clear hcz51_2
           try clear hcz51_3
           try clear hcz51_4
           try clear hcz51_5
           try clear hcz51_6
           try clear hcz51_7
           try clear hcz51_8
           try clear hcz54_0
           try clear hcz54_1
           try clear hcz54_2
           try clear hcz54_3
           try clear hcz54_4
           try clear hcz54_5
           try clear hcz54_6
           try clear hcz54_7
           try clear hcz54_8
           try clear hcz55_0
           try clear hcz55_1
           try clear hcz55_2
           try clear hcz55_3
           try clear hcz55_4
           try clear hcz55_5
           try clear hcz55_6
           try clear hcz55_7
           try clear hcz55_8
           try clear hcz6_0
           try clear hcz6_1
           try clear hcz6_2
           try clear hcz6_3
           try clear hcz6_4
           try clear hcz6_5
           try clear hcz6_6
           try clear hcz6_7
           try clear hcz6_8
           try clear hfz13_0
           try clear hfz13_1
           try clear hfz13_2
           try clear hfz13_3
           try clear hfz13_4
           try clear hfz13_5
           try clear hfz13_6
           try clear hfz13_7
           try clear hfz13_8
           try clear hfz19_0
           try clear hfz19_1
           try clear hfz19_2
           try clear hfz19_3
           try clear hfz19_4
           try clear hfz19_5
           try clear hfz19_6
           try clear hfz19_7
           try clear hfz19_8
           try clear hfz21_0
           try clear hfz21_1
           try clear hfz21_2
           try clear hfz21_3
           try clear hfz21_4
           try clear hfz21_5
           try clear hfz21_6
           try clear hfz21_7
           try clear hfz21_8
           try clear hfz27_0
           try clear hfz27_1
           try clear hfz27_2
           try clear hfz27_3
           try clear hfz27_4
           try clear hfz27_5
           try clear hfz27_6
           try clear hfz27_7
           try clear hfz27_8
           try clear hfz30_0
           try clear hfz30_1
           try clear hfz30_2
           try clear hfz30_3
           try clear hfz30_4
           try clear hfz30_5
           try clear hfz30_6
           try clear hfz30_7
           try clear hfz30_8
           try clear hfz33_0
           try clear hfz33_1
           try clear hfz33_2
           try clear hfz33_3
           try clear hfz33_4
           try clear hfz33_5
           try clear hfz33_6
           try clear hfz33_7
           try clear hfz33_8
           try clear hfz46_0
           try clear hfz46_1
           try clear hfz46_2
           try clear hfz46_3
           try clear hfz46_4
           try clear hfz46_5
           try clear hfz46_6
           try clear hfz46_7
           try clear hfz46_8
           try clear hfz49_0
           try clear hfz49_1
           try clear hfz49_2
           try clear hfz49_3
           try clear hfz49_4
           try clear hfz49_5
           try clear hfz49_6
           try clear hfz49_7
           try clear hfz49_8
           try clear hfz51_0
           try clear hfz51_1
           try clear hfz51_2
           try clear hfz51_3
           try clear hfz51_4
           try clear hfz51_5
           try clear hfz51_6
           try clear hfz51_7
           try clear hfz51_8
           try clear hfz54_0
           try clear hfz54_1
           try clear hfz54_2
           try clear hfz54_3
           try clear hfz54_4
           try clear hfz54_5
           try clear hfz54_6
           try clear hfz54_7
           try clear hfz54_8
           try clear hfz55_0
           try clear hfz55_1
           try clear hfz55_2
           try clear hfz55_3
           try clear hfz55_4
           try clear hfz55_5
           try clear hfz55_6
           try clear hfz55_7
           try clear hfz55_8
           try clear hfz6_0
           try clear hfz6_1
           try clear hfz6_2
           try clear hfz6_3
           try clear hfz6_4
           try clear hfz6_5
           try clear hfz6_6
           try clear hfz6_7
           try clear hfz6_8
           try clear hx450_0
           try clear hx451_0
           try clear hx452_0
           try clear hx453_0
           try clear hx453_1
           try clear hx453_2
           try clear hx453_3
           try clear hx453_4
           try clear hx453_5
           try clear hx453_6
           try clear hx453_7
           try clear hx453_8
           try clear hx459_0
           try clear hx460_0
           try clear hx461_0
           try clear hx462_0
           try clear hx463_0
           try clear hx464_0
           try clear p2
           try clear p4
           try clear p450
           try clear p451
           try clear p452
           try clear p453
           try clear p459
           try clear p460
           try clear p461
           try clear p462
           try clear p463
           try clear p464
           try clear p6
           try clear q4
           try clear q450
           try clear q451
           try clear q452
           try clear q453
           try clear q459
           try clear q460
           try clear q461
           try clear q462
           try clear q463
           try clear q464
           obtain ⟨x13_2, rfl, HA, HK2, HO_8, BK449, HB⟩ := hrel
           cases gk with
           | zero => exact absurd HA.out (by simp [q08_kind.l2])
           | succ k2 =>
            have H := HA.out
            clear HA
            simp only [q08_kind.l2] at H
            by_cases c56 : x13_2 < (x8_1.length : Int)
            ·rw [if_pos c56] at H
             have c56b0 : decide (x13_2 < (x8_1.length : Int)) = true := decide_eq_true c56
             clear c56
             by_cases c57 : 0 ≤ x13_2
             ·rw [if_pos c57] at H
              have c57b0 : decide (0 ≤ x13_2) = true := decide_eq_true c57
              clear c57
              by_cases c58 : (rd x8_1 x13_2) = 2
              ·rw [if_pos c58] at H
               have c58b0 : ((rd x8_1 x13_2) == 2) = true := beq_iff_eq.mpr c58
               have c58b1 : ((rd x8_1 x13_2) != 2) = false := bne_eq_false_iff_eq.mpr c58
               clear c58
               have H' := Asd.mk H
               clear H
               obtain ⟨Ao59, co59, eo59⟩ := Kd.R_slice HO_8.out
               subst eo59
               have p465 : 0 ≤ (x13_2 : Int) := of_decide_eq_true (by first | (with_reducible assumption) | assumption)
               have q465 : x13_2 < (x8_1.length : Int) := of_decide_eq_true (by first | (with_reducible assumption) | assumption)
               obtain ⟨ad465, e465, hx465_0⟩ := Kd.at_int (Kd.R_reads' HO_8.out).2.2 x13_2 p465 q465
               cases e465
               replace p465 := eq_true p465
               replace q465 := eq_true q465
               go_wp2
               repeat (go_quiet (fail); try go_wp2)
               go_roundg k2
               case measure => have := HK1.out; have := HK2.out; omega
               case rel => exact ⟨(wrap64 (x13_2 + 1)), (by first | rfl | (simp; done) | (simp [*]; done)), H', ⟨by have := HK1.out; have := HK2.out; omega⟩, ⟨by (with_reducible repeat (first | apply Kd.R_alloc | apply Kd.R_drewN | apply Kd.R_drew)); exact HO_8.out⟩, ⟨by (with_reducible repeat (first | refine bkN ?_ _ | refine bkD ?_ | refine bkA ?_ _)); exact BK449.out⟩, ⟨by repeat (first | (with_reducible first | exact HB.out | apply blA | apply pbN | apply blD | refine blS ?_ GE449.out) | exact HB.out)⟩⟩
              ·rw [if_neg c58] at H
               have c58b0 : ((rd x8_1 x13_2) == 2) = false := beq_eq_false_iff_ne.mpr c58
               have c58b1 : ((rd x8_1 x13_2) != 2) = true := bne_iff_ne.mpr c58
               by_cases c60 : (rd x8_1 x13_2) = 0
               ·rw [if_pos c60] at H
                have c60b0 : ((rd x8_1 x13_2) == 0) = true := beq_iff_eq.mpr c60
                have c60b1 : ((rd x8_1 x13_2) != 0) = false := bne_eq_false_iff_eq.mpr c60
                clear c60
                have H' := Asd.mk H
                clear H
                obtain ⟨Ao61, co61, eo61⟩ := Kd.R_slice HO_8.out
                subst eo61
                have p465 : 0 ≤ (x13_2 : Int) := of_decide_eq_true (by first | (with_reducible assumption) | assumption)
                have q465 : x13_2 < (x8_1.length : Int) := of_decide_eq_true (by first | (with_reducible assumption) | assumption)
                obtain ⟨ad465, e465, hx465_0⟩ := Kd.at_int (Kd.R_reads' HO_8.out).2.2 x13_2 p465 q465
                cases e465
                replace p465 := eq_true p465
                replace q465 := eq_true q465
                have p466 : 0 ≤ (x13_2 : Int) := of_decide_eq_true (by first | (with_reducible assumption) | assumption)
                have q466 : x13_2 < (x8_1.length : Int) := of_decide_eq_true (by first | (with_reducible assumption) | assumption)
                obtain ⟨ad466, e466, hx466_0⟩ := Kd.at_int (Kd.R_reads' HO_8.out).2.2 x13_2 p466 q466
                obtain rfl : ad465 = ad466 := (by injection e466)
                replace p466 := eq_true p466
                replace q466 := eq_true q466
                go_wp2
                repeat (go_quiet (fail); try go_wp2)
                go_roundg k2
                case measure => have := HK1.out; have := HK2.out; omega
                case rel => exact ⟨(wrap64 (x13_2 + 1)), (by first | rfl | (simp; done) | (simp [*]; done)), H', ⟨by have := HK1.out; have := HK2.out; omega⟩, ⟨by (with_reducible repeat (first | apply Kd.R_alloc | apply Kd.R_drewN | apply Kd.R_drew)); exact HO_8.out⟩, ⟨by (with_reducible repeat (first | refine bkN ?_ _ | refine bkD ?_ | refine bkA ?_ _)); exact BK449.out⟩, ⟨by repeat (first | (with_reducible first | exact HB.out | apply blA | apply pbN | apply blD | refine blS ?_ GE449.out) | exact HB.out)⟩⟩
               ·rw [if_neg c60] at H
                have c60b0 : ((rd x8_1 x13_2) == 0) = false := beq_eq_false_iff_ne.mpr c60
                have c60b1 : ((rd x8_1 x13_2) != 0) = true := bne_iff_ne.mpr c60
                simp only [Option.some.injEq, Prod.mk.injEq] at H
                obtain ⟨rfl, rfl⟩ := H
                obtain ⟨Ao62, co62, eo62⟩ := Kd.R_slice HO_8.out
                subst eo62
                have p465 : 0 ≤ (x13_2 : Int) := of_decide_eq_true (by first | (with_reducible assumption) | assumption)
                have q465 : x13_2 < (x8_1.length : Int) := of_decide_eq_true (by first | (with_reducible assumption) | assumption)
                obtain ⟨ad465, e465, hx465_0⟩ := Kd.at_int (Kd.R_reads' HO_8.out).2.2 x13_2 p465 q465
                cases e465
                replace p465 := eq_true p465
                replace q465 := eq_true q465
                have p466 : 0 ≤ (x13_2 : Int) := of_decide_eq_true (by first | (with_reducible assumption) | assumption)
                have q466 : x13_2 < (x8_1.length : Int) := of_decide_eq_true (by first | (with_reducible assumption) | assumption)
                obtain ⟨ad466, e466, hx466_0⟩ := Kd.at_int (Kd.R_reads' HO_8.out).2.2 x13_2 p466 q466
                obtain rfl : ad465 = ad466 := (by injection e466)
                replace p466 := eq_true p466
                replace q466 := eq_true q466
                go_wp2
                repeat (go_quiet (fail); try go_wp2)
                go_ret2
                exact ⟨by first | rfl | (simp [errW_none, errW_some] <;> rfl) | (simp [*, errW_none, errW_some] <;> rfl), by repeat (first | (with_reducible first | exact HB.out | apply blA | apply pbN | apply blD | refine blS ?_ GE449.out) | exact HB.out)⟩
             ·rw [if_neg c57] at H
              exact absurd H (by simp)
            ·rw [if_neg c56] at H
             have c56b0 : decide (x13_2 < (x8_1.length : Int)) = false := decide_eq_false c56
             clear c56
             simp only [Option.some.injEq, Prod.mk.injEq] at H
             obtain ⟨rfl, rfl⟩ := H
             obtain ⟨Ao63, co63, eo63⟩ := Kd.R_slice HO_8.out
             subst eo63
             go_wp2
             repeat (go_quiet (fail); try go_wp2)
             go_ret2
             exact ⟨by first | rfl | (simp [errW_none, errW_some] <;> rfl) | (simp [*, errW_none, errW_some] <;> rfl), by repeat (first | (with_reducible first | exact HB.out | apply blA | apply pbN | apply blD | refine blS ?_ GE449.out) | exact HB.out)⟩
end Go.Proofs.YtkboodfnegedaaaDoor.E
