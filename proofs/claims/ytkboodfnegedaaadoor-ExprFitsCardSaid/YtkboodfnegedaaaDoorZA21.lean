/- Contracts and plain lemmas of the functions that the law reaches, part 21. -/
import Derived.Test.YtkboodfnegedaaaDoorZA3
import Derived.Test.YtkboodfnegedaaaDoorZA6
import Derived.Test.YtkboodfnegedaaaDoorZA11
import Derived.Test.YtkboodfnegedaaaDoorZA13
import Derived.Test.YtkboodfnegedaaaDoorZA20
namespace Go.Proofs.YtkboodfnegedaaaDoor.E
open Go.RowKit Go.Proofs.YtkboodfnegedaaaDoorW.PrintWords Go.Proofs.YtkboodfnegedaaaDoorW.PrintLast Go.Proofs.YtkboodfnegedaaaDoorW.PrintMore
attribute [local go_sem] max2_int min2_int max_two min_two max_three min_three max_four min_four   -- for this text's walks alone
set_option linter.unusedVariables false
set_option linter.unusedSimpArgs false
mutual
def w08_ExprFits.l0 : Nat → List (List (S23)) → List (S23) → Bool → Int → Int → Int → Int → ByteArray → Int → Int → Int → ByteArray → List (S26) → Option (Bool)
 | 0, _, _, _, _, _, _, _, _, _, _, _, _, _ => none
 | k + 1, x1, x2, x7, x8, x512000, x512001, x512002, x512003, x512004, x512005, x512006, x512007, x512008 => if x8 < (x1.length : Int) then (if 0 ≤ x8 then ((w08_right.f k (rd_L6 x1 x8)).bind fun t514 => (if t514 = true then (w08_ExprFits.l0 k x1 x2 x7 (wrap64 (x8 + 1)) x512000 x512001 x512002 x512003 x512004 x512005 x512006 x512007 x512008) else (some x7))) else (none)) else ((w08_kinds.f k x1).bind fun t515 => ((w08_row.f k x2).bind fun t518 => ((expr_Kind.f x512000 x512001 x512002 x512003 x512004 x512005 x512006 x512007 x512008 t515 t518).bind fun bt521 => ((w08_right.f k x2).bind fun t523 => (if t523 = true then (w08_ExprFits.j1 k x1 x2 x7 bt521.1 (bt521.2 != 0) x512000 x512001 x512002 x512003 x512004 x512005 x512006 x512007 x512008) else (w08_ExprFits.j1 k x1 x2 x7 bt521.1 true x512000 x512001 x512002 x512003 x512004 x512005 x512006 x512007 x512008))))))
def w08_ExprFits.j1 : Nat → List (List (S23)) → List (S23) → Bool → Int → Bool → Int → Int → Int → ByteArray → Int → Int → Int → ByteArray → List (S26) → Option (Bool)
 | 0, _, _, _, _, _, _, _, _, _, _, _, _, _, _ => none
 | k + 1, x1, x2, x7, x9, x42, x512000, x512001, x512002, x512003, x512004, x512005, x512006, x512007, x512008 => if x42 = true then (some x7) else ((expr_Eval.f x512000 x512001 x512002 x512003 x512004 x512005 x512006 x512007 x512008 x1 x2).bind fun bt524 => (if bt524.2.2.2 = 0 then (if x7 = true then ((value_Right.f bt524.1 bt524.2.1 bt524.2.2.1).bind fun t529 => (if t529 = true then (if bt524.1 = x9 then (some true) else (if bt524.1 = 0 then (some true) else (if x9 = 0 then (some (bt524.1 == 0)) else (some false)))) else (some false))) else (some false)) else (if x7 = true then ((expr_Safe.f x512000 x512001 x512002 x512003 x512004 x512005 x512006 x512007 x512008).bind fun t530 => (if t530 = true then (some false) else (if bt524.2.2.2 = 3 then (some true) else (some (bt524.2.2.2 == 4))))) else (some false))))
end
def w08_ExprFits.f (k : Nat) (a0_0 : Int) (a0_1 : Int) (a0_2 : Int) (a0_3 : ByteArray) (a0_4 : Int) (a0_5 : Int) (a0_6 : Int) (a0_7 : ByteArray) (l0_8 : List (S26)) (l1 : List (List (S23))) (l2 : List (S23)) : Option (Bool) := (w08_examples.f).bind fun t512 => (w08_ExprFits.l0 k l1 l2 t512 0 a0_0 a0_1 a0_2 a0_3 a0_4 a0_5 a0_6 a0_7 l0_8)
def w08_ExprFits.T7 : Bool × List (List Nat × List Nat) := (true, [([], []), ([], []), ([1], [1]), ([], []), ([3, 2], [3]), ([0, 2, 4, 4], [0, 2, 4]), ([5], [5]), ([6], [6]), ([6], [6]), ([7, 5, 0, 1, 2, 3, 4, 5, 6, 7], [7]), ([8, 9, 0, 1, 2, 3, 4, 5, 6, 7, 8, 9], [8])])
def w08_ExprFits.B7 : List Nat := [0, 0, 2, 0, 14, 31, 63, 127, 127, 255, 1023]
theorem w08_ExprFits.tab7 : rtab .any (opsOf Tryd.f6 7) = w08_ExprFits.T7 := by kernel_rfl
theorem w08_ExprFits.bits7 : waitsOk w08_ExprFits.T7.2 w08_ExprFits.B7 = true := by kernel_rfl
set_option maxHeartbeats 8000000 in
set_option maxRecDepth 100000 in
theorem w08_ExprFits.calls (k : Nat) (a0_0 : Int) (a0_1 : Int) (a0_2 : Int) (a0_3 : ByteArray) (a0_4 : Int) (a0_5 : Int) (a0_6 : Int) (a0_7 : ByteArray) (A0_8 : Option Addr) (c0_8 : Nat) (l0_8 : List (S26)) (A1 : Option Addr) (c1 : Nat) (l1 : List (List (S23))) (A2 : Option Addr) (c2 : Nat) (l2 : List (S23)) (r : Bool) (w : World) (hr0_8 : Kd.C k26 w A0_8 l0_8.length l0_8) (hc0_8 : l0_8.length ≤ c0_8) (hr1 : Kd.C (Kd.slice 23 k23) w A1 l1.length l1) (hc1 : l1.length ≤ c1) (hr2 : Kd.C k23 w A2 l2.length l2) (hc2 : l2.length ≤ c2) (h : w08_ExprFits.f k a0_0 a0_1 a0_2 a0_3 a0_4 a0_5 a0_6 a0_7 l0_8 l1 l2 = some r) (hT : TabW w) :
  Calls Tryd.prog 6 #[.agg #[.int .i64 a0_0, .int .i64 a0_1, .int .i64 a0_2, .string a0_3, .int .i64 a0_4, .int .i64 a0_5, .int .i64 a0_6, .string a0_7, .slice A0_8 l0_8.length c0_8], .slice A1 l1.length c1, .slice A2 l2.length c2] w fun e w' => e = .returned (.bool r) ∧ Below w.heap.size w w' := by
 have HT := Asd.mk hT
 clear hT
 have hu26 := Tryd.underlying26
 have hu23 := Tryd.underlying23
 have HR0_8 := Asd.mk hr0_8
 have HC0_8 := Asd.mk hc0_8
 clear hr0_8 hc0_8
 have HR1 := Asd.mk hr1
 have HC1 := Asd.mk hc1
 clear hr1 hc1
 have HR2 := Asd.mk hr2
 have HC2 := Asd.mk hc2
 clear hr2 hc2
 have HB := Asd.mk (Below.refl w.heap.size w)
 have H : ((w08_examples.f).bind fun t512 => (w08_ExprFits.l0 k l1 l2 t512 0 a0_0 a0_1 a0_2 a0_3 a0_4 a0_5 a0_6 a0_7 l0_8)) = some r := h
 clear h
 replace H := Option.bind_eq_some_iff.mp H
 obtain ⟨t512, A40, H⟩ := H
 replace H : (w08_ExprFits.l0 k l1 l2 t512 0 a0_0 a0_1 a0_2 a0_3 a0_4 a0_5 a0_6 a0_7 l0_8) = some r := H
 have A4 := Asd.mk A40
 clear A40
 have H' := Asd.mk H
 clear H
 go_enter Tryd.func6, Tryd.ntmps6
 go_wp2_with (first | ((with_reducible refine gate_dst (N := 3) rfl ?_); refine box_event ?hg (N := 3) ?hd (cs := #[.int .i64 a0_0, .int .i64 a0_1, .int .i64 a0_2, .string a0_3, .int .i64 a0_4, .int .i64 a0_5, .int .i64 a0_6, .string a0_7, .slice A0_8 l0_8.length c0_8]) (t := 26) ?hr ?_; (case hd => rfl); (case hg => rfl); (case hr => first | (go_simp; done) | (go_simp; rfl)); intro gb511 hg w5 hbox hb; have n0_ := Asd.mk (below_step (by repeat (first | (with_reducible first | exact HB.out | apply blA | apply pbN | apply blD) | exact HB.out)) hb); have n1_ := Asd.mk (hbox); have n2_ := Asd.mk ((by rw [hg]; exact (below_size (by repeat (first | (with_reducible first | exact HB.out | apply blA | apply pbN | apply blD) | exact HB.out))) : w.heap.size ≤ gb511)); have n3_ := Asd.mk ((by rw [hg]; exact (below_size (by repeat (first | (with_reducible first | exact HB.out | apply blA | apply pbN | apply blD) | exact HB.out))) : w.heap.size ≤ gb511)); clear HB; have HB := n0_; have BK511 := n1_; have GW511 := n2_; have GE511 := n3_; clear n0_ n1_ n2_ n3_; clear hb hbox hg) | ((with_reducible refine gate_callee (f := 11) rfl ?_); refine goesL_ (some 13) rfl rfl Tryd.func11 (by kernel_rfl) rfl #[] rfl (by (try simp only [List.map_toArray, List.map_cons, List.map_nil]); first | done | rfl | (simp only [List.length_drop, List.length_take]; rfl)) ?_; (with_reducible refine (w08_examples.calls  t512 _ A4.out (tab_at HT.out (by repeat (first | (with_reducible first | exact HB.out | apply blA | apply pbN | apply blD | refine blS ?_ GE511.out) | exact HB.out)))).mono ?_); rintro e w6 ⟨rfl, hb⟩; refine ⟨_, rfl, ?_⟩; have n0_ := Asd.mk (blk_below (g := gb511) (o := .cells #[.int .i64 a0_0, .int .i64 a0_1, .int .i64 a0_2, .string a0_3, .int .i64 a0_4, .int .i64 a0_5, .int .i64 a0_6, .string a0_7, .slice A0_8 l0_8.length c0_8] 26 (0, 0)) (by (with_reducible repeat (first | refine bkN ?_ _ | refine bkD ?_ | refine bkA ?_ _)); exact BK511.out) hb); have n1_ := Asd.mk (below_step (by repeat (first | (with_reducible first | exact HB.out | apply blA | apply pbN | apply blD | refine blS ?_ GE511.out) | exact HB.out)) hb); clear BK511; clear HB; have BK511 := n0_; have HB := n1_; clear n0_ n1_; (try clear hb); (try clear hb2); (try clear hk); (try clear hi)))
 go_loopg [8] k (fun kq v8 w' => ∃ (x8_1 : Int), v8 = .int .i64 x8_1 ∧ Asd (w08_ExprFits.l0 kq l1 l2 t512 x8_1 a0_0 a0_1 a0_2 a0_3 a0_4 a0_5 a0_6 a0_7 l0_8 = some r) ∧ Asd (kq ≤ k) ∧ Asd (w'.heap[gb511]? = some (.cells #[.int .i64 a0_0, .int .i64 a0_1, .int .i64 a0_2, .string a0_3, .int .i64 a0_4, .int .i64 a0_5, .int .i64 a0_6, .string a0_7, (.slice A0_8 l0_8.length c0_8)] 26 (0, 0))) ∧ Asd (Below w.heap.size w w'))
 case atStart => exact ⟨(0), (by first | rfl | (simp; done) | (simp [*]; done)), H', ⟨Nat.le_refl _⟩, ⟨by (with_reducible repeat (first | refine bkN ?_ _ | refine bkD ?_ | refine bkA ?_ _)); exact BK511.out⟩, ⟨by repeat (first | (with_reducible first | exact HB.out | apply blA | apply pbN | apply blD | refine blS ?_ GE511.out) | exact HB.out)⟩⟩
 case round =>
  clear H'
  try clear c1
  try clear c2
  try clear p2
  try clear c6
  obtain ⟨x8_1, rfl, HA, HK1, BK511, HB⟩ := hrel
  cases gk with
  | zero => exact absurd HA.out (by simp [w08_ExprFits.l0])
  | succ k1 =>
   have H := HA.out
   clear HA
   simp only [w08_ExprFits.l0] at H
   by_cases c7 : x8_1 < (l1.length : Int)
   ·rw [if_pos c7] at H
    have c7b0 : decide (x8_1 < (l1.length : Int)) = true := decide_eq_true c7
    clear c7
    by_cases c8 : 0 ≤ x8_1
    ·rw [if_pos c8] at H
     have c8b0 : decide (0 ≤ x8_1) = true := decide_eq_true c8
     clear c8
     replace H := Option.bind_eq_some_iff.mp H
     obtain ⟨t514, A90, H⟩ := H
     replace H : (if t514 = true then (w08_ExprFits.l0 k1 l1 l2 t512 (wrap64 (x8_1 + 1)) a0_0 a0_1 a0_2 a0_3 a0_4 a0_5 a0_6 a0_7 l0_8) else (some t512)) = some r := H
     have A9 := Asd.mk A90
     clear A90
     by_cases c10 : t514 = true
     ·subst c10
      have H1 : (w08_ExprFits.l0 k1 l1 l2 t512 (wrap64 (x8_1 + 1)) a0_0 a0_1 a0_2 a0_3 a0_4 a0_5 a0_6 a0_7 l0_8) = some r := by rw [if_pos rfl] at H; exact H
      clear H
      have H := H1
      clear H1
      have H' := Asd.mk H
      clear H
      have p513 : 0 ≤ (x8_1 : Int) := of_decide_eq_true (by first | (with_reducible assumption) | assumption)
      have q513 : x8_1 < (l1.length : Int) := of_decide_eq_true (by first | (with_reducible assumption) | assumption)
      obtain ⟨ad513, A513_0, c513_0, e513, hx513_0, hl513_0, hi513_0⟩ := at_L6 HR1.out x8_1 p513 q513
      cases e513
      replace hx513_0 := (HB.out.cell (World.block_lt_of_cell? w _ hx513_0)).trans hx513_0
      have HR513_0 := Asd.mk hi513_0
      have HC513_0 := Asd.mk hl513_0
      clear hi513_0 hl513_0
      replace p513 := eq_true p513
      replace q513 := eq_true q513
      go_wp2_with (first | ((with_reducible refine gate_callee (f := 18) rfl ?_); refine goesL_ (some 24) rfl rfl Tryd.func18 (by kernel_rfl) rfl #[.slice A513_0 (rd_L6 l1 x8_1).length c513_0] rfl (by (try simp only [List.map_toArray, List.map_cons, List.map_nil]); first | done | rfl | (simp only [List.length_drop, List.length_take]; rfl)) ?_; (with_reducible refine (w08_right.calls k1 _ _ (rd_L6 l1 x8_1) true _ ?side1 ?side2 A9.out).mono ?_); (case side1 => repeat (first | exact (Kd.C_below HR513_0.out HB.out) | (with_reducible refine Kd.C_alloc ?_ _) | (with_reducible refine Kd.C_drewN ?_ _) | (with_reducible refine Kd.C_drew ?_))); (case side2 => exact HC513_0.out); rintro e w11 ⟨rfl, hb⟩; refine ⟨_, rfl, ?_⟩; have n0_ := Asd.mk (blk_below (g := gb511) (o := .cells #[.int .i64 a0_0, .int .i64 a0_1, .int .i64 a0_2, .string a0_3, .int .i64 a0_4, .int .i64 a0_5, .int .i64 a0_6, .string a0_7, .slice A0_8 l0_8.length c0_8] 26 (0, 0)) (by (with_reducible repeat (first | refine bkN ?_ _ | refine bkD ?_ | refine bkA ?_ _)); exact BK511.out) hb); have n1_ := Asd.mk (below_step (by repeat (first | (with_reducible first | exact HB.out | apply blA | apply pbN | apply blD | refine blS ?_ GE511.out) | exact HB.out)) hb); clear BK511; clear HB; have BK511 := n0_; have HB := n1_; clear n0_ n1_; (try clear hb); (try clear hb2); (try clear hk); (try clear hi)))
      go_roundg k1
      case measure => have := HK1.out; omega
      case rel => exact ⟨(wrap64 (x8_1 + 1)), (by first | rfl | (simp; done) | (simp [*]; done)), H', ⟨by have := HK1.out; omega⟩, ⟨by (with_reducible repeat (first | refine bkN ?_ _ | refine bkD ?_ | refine bkA ?_ _)); exact BK511.out⟩, ⟨by repeat (first | (with_reducible first | exact HB.out | apply blA | apply pbN | apply blD | refine blS ?_ GE511.out) | exact HB.out)⟩⟩
     ·replace c10 := Bool.eq_false_iff.mpr c10
      subst c10
      have H1 : (some t512) = some r := by rw [if_neg (show ¬ (false = true) by decide)] at H; exact H
      clear H
      have H := H1
      clear H1
      obtain rfl := Option.some.inj H
      have p513 : 0 ≤ (x8_1 : Int) := of_decide_eq_true (by first | (with_reducible assumption) | assumption)
      have q513 : x8_1 < (l1.length : Int) := of_decide_eq_true (by first | (with_reducible assumption) | assumption)
      obtain ⟨ad513, A513_0, c513_0, e513, hx513_0, hl513_0, hi513_0⟩ := at_L6 HR1.out x8_1 p513 q513
      cases e513
      replace hx513_0 := (HB.out.cell (World.block_lt_of_cell? w _ hx513_0)).trans hx513_0
      have HR513_0 := Asd.mk hi513_0
      have HC513_0 := Asd.mk hl513_0
      clear hi513_0 hl513_0
      replace p513 := eq_true p513
      replace q513 := eq_true q513
      go_wp2_with (first | ((with_reducible refine gate_callee (f := 18) rfl ?_); refine goesL_ (some 24) rfl rfl Tryd.func18 (by kernel_rfl) rfl #[.slice A513_0 (rd_L6 l1 x8_1).length c513_0] rfl (by (try simp only [List.map_toArray, List.map_cons, List.map_nil]); first | done | rfl | (simp only [List.length_drop, List.length_take]; rfl)) ?_; (with_reducible refine (w08_right.calls k1 _ _ (rd_L6 l1 x8_1) false _ ?side1 ?side2 A9.out).mono ?_); (case side1 => repeat (first | exact (Kd.C_below HR513_0.out HB.out) | (with_reducible refine Kd.C_alloc ?_ _) | (with_reducible refine Kd.C_drewN ?_ _) | (with_reducible refine Kd.C_drew ?_))); (case side2 => exact HC513_0.out); rintro e w12 ⟨rfl, hb⟩; refine ⟨_, rfl, ?_⟩; have n0_ := Asd.mk (blk_below (g := gb511) (o := .cells #[.int .i64 a0_0, .int .i64 a0_1, .int .i64 a0_2, .string a0_3, .int .i64 a0_4, .int .i64 a0_5, .int .i64 a0_6, .string a0_7, .slice A0_8 l0_8.length c0_8] 26 (0, 0)) (by (with_reducible repeat (first | refine bkN ?_ _ | refine bkD ?_ | refine bkA ?_ _)); exact BK511.out) hb); have n1_ := Asd.mk (below_step (by repeat (first | (with_reducible first | exact HB.out | apply blA | apply pbN | apply blD | refine blS ?_ GE511.out) | exact HB.out)) hb); clear BK511; clear HB; have BK511 := n0_; have HB := n1_; clear n0_ n1_; (try clear hb); (try clear hb2); (try clear hk); (try clear hi)))
      go_ret
      exact ⟨by first | rfl | (simp [errW_none, errW_some] <;> rfl) | (simp [*, errW_none, errW_some] <;> rfl), by repeat (first | (with_reducible first | exact HB.out | apply blA | apply pbN | apply blD | refine blS ?_ GE511.out) | exact HB.out)⟩
    ·rw [if_neg c8] at H
     exact absurd H (by simp)
   ·rw [if_neg c7] at H
    have c7b0 : decide (x8_1 < (l1.length : Int)) = false := decide_eq_false c7
    clear c7
    replace H := Option.bind_eq_some_iff.mp H
    obtain ⟨t515, A130, H⟩ := H
    replace H : ((w08_row.f k1 l2).bind fun t518 => ((expr_Kind.f a0_0 a0_1 a0_2 a0_3 a0_4 a0_5 a0_6 a0_7 l0_8 t515 t518).bind fun bt521 => ((w08_right.f k1 l2).bind fun t523 => (if t523 = true then (w08_ExprFits.j1 k1 l1 l2 t512 bt521.1 (bt521.2 != 0) a0_0 a0_1 a0_2 a0_3 a0_4 a0_5 a0_6 a0_7 l0_8) else (w08_ExprFits.j1 k1 l1 l2 t512 bt521.1 true a0_0 a0_1 a0_2 a0_3 a0_4 a0_5 a0_6 a0_7 l0_8))))) = some r := H
    have A13 := Asd.mk A130
    clear A130
    replace H := Option.bind_eq_some_iff.mp H
    obtain ⟨t518, A140, H⟩ := H
    replace H : ((expr_Kind.f a0_0 a0_1 a0_2 a0_3 a0_4 a0_5 a0_6 a0_7 l0_8 t515 t518).bind fun bt521 => ((w08_right.f k1 l2).bind fun t523 => (if t523 = true then (w08_ExprFits.j1 k1 l1 l2 t512 bt521.1 (bt521.2 != 0) a0_0 a0_1 a0_2 a0_3 a0_4 a0_5 a0_6 a0_7 l0_8) else (w08_ExprFits.j1 k1 l1 l2 t512 bt521.1 true a0_0 a0_1 a0_2 a0_3 a0_4 a0_5 a0_6 a0_7 l0_8)))) = some r := H
    have A14 := Asd.mk A140
    clear A140
    replace H := Option.bind_eq_some_iff.mp H
    obtain ⟨⟨t521, t522⟩, A150, H⟩ := H
    replace H : ((w08_right.f k1 l2).bind fun t523 => (if t523 = true then (w08_ExprFits.j1 k1 l1 l2 t512 t521 (t522 != 0) a0_0 a0_1 a0_2 a0_3 a0_4 a0_5 a0_6 a0_7 l0_8) else (w08_ExprFits.j1 k1 l1 l2 t512 t521 true a0_0 a0_1 a0_2 a0_3 a0_4 a0_5 a0_6 a0_7 l0_8))) = some r := H
    have A15 := Asd.mk A150
    clear A150
    have HC16 := Asd.mk H
    clear H
    try go_wp2
    have n0_ := Asd.mk (bkD BK511.out)
    have n1_ := Asd.mk (blD HB.out)
    clear BK511 HB
    have BK511 := n0_
    have HB := n1_
    clear n0_ n1_
    refine start_ (n := 11) (S := fun w' => w'.cell? ⟨gb511, 0, none⟩ = some (.int .i64 a0_0) ∧ w'.cell? ⟨gb511, 1, none⟩ = some (.int .i64 a0_1) ∧ w'.cell? ⟨gb511, 2, none⟩ = some (.int .i64 a0_2) ∧ w'.cell? ⟨gb511, 3, none⟩ = some (.string a0_3) ∧ w'.cell? ⟨gb511, 4, none⟩ = some (.int .i64 a0_4) ∧ w'.cell? ⟨gb511, 5, none⟩ = some (.int .i64 a0_5) ∧ w'.cell? ⟨gb511, 6, none⟩ = some (.int .i64 a0_6) ∧ w'.cell? ⟨gb511, 7, none⟩ = some (.string a0_7) ∧ w'.cell? ⟨gb511, 8, none⟩ = some (.slice A0_8 l0_8.length c0_8)) (ds := []) #[false, false, false, false, false, false, false, false, false, false, false] (by kernel_rfl) rfl rfl ⟨(bkC BK511.out 0).trans rfl, (bkC BK511.out 1).trans rfl, (bkC BK511.out 2).trans rfl, (bkC BK511.out 3).trans rfl, (bkC BK511.out 4).trans rfl, (bkC BK511.out 5).trans rfl, (bkC BK511.out 6).trans rfl, (bkC BK511.out 7).trans rfl, (bkC BK511.out 8).trans rfl⟩ (fun hHeld => ?_); refine with_tabW w08_ExprFits.tab7 w08_ExprFits.bits7 (fun HT_ HW_ => ?_)
    generalize wr.drew = w17 at BK511 HB hHeld ⊢
    refine pure_ (i := 1) (N := some 29) (v := ?_) (a' := ?_) #[false, true, false, false, false, false, false, false, false, false, false] rfl rfl (any_of HT_.out (by kernel_rfl)) (fun _ _ _ h => h) (Or.inl ⟨by rfl, ?_⟩) ?_ ?_
    rotate_left
    ·intro w'
     go_simp
     with_reducible rfl
    rotate_left
    ·simp only [Act.put, List.setIfInBounds_toArray, List.set_cons_zero, List.set_cons_succ, i64_w, i32_w]
     rfl
    refine pure_ (i := 3) (N := some 31) (v := ?_) (a' := ?_) #[false, true, false, true, false, false, false, false, false, false, false] rfl rfl (any_of HT_.out (by kernel_rfl)) (fun _ _ _ h => h) (Or.inl ⟨by rfl, ?_⟩) ?_ ?_
    rotate_left
    ·intro w'
     go_simp
     with_reducible rfl
    rotate_left
    ·simp only [Act.put, List.setIfInBounds_toArray, List.set_cons_zero, List.set_cons_succ, i64_w, i32_w]
     rfl
    refine take_ (i := 0) (N := some 28) (v := ?_) (a' := ?_) #[true, true, false, true, false, false, false, false, false, false, false] rfl rfl (take_ofW HT_.out HW_.out (by kernel_rfl)) (fun _ _ _ h => h) (Or.inl ⟨by rfl, ?_⟩) hHeld ?_ ?_
    rotate_left
    ·rintro w' ⟨s0, s1, s2, s3, s4, s5, s6, s7, s8⟩
     go_simp
     with_reducible rfl
    rotate_left
    ·simp only [Act.put, List.setIfInBounds_toArray, List.set_cons_zero, List.set_cons_succ, i64_w, i32_w]
     rfl
    refine one_ (i := 2) (N := some 30) #[true, true, true, true, false, false, false, false, false, false, false] rfl rfl (one_of HT_.out (by kernel_rfl)) (by decide) (fun K hK => ?_)
    refine goes_ Tryd.func19 (by kernel_rfl) rfl #[.slice A1 l1.length c1] (by rfl) rfl rfl (by (try simp only [List.map_toArray, List.map_cons, List.map_nil]); first | done | rfl | (simp only [List.length_drop, List.length_take]; rfl)) ?_
    with_reducible refine (w08_kinds.calls k1 _ _ l1 t515 _ ?side1 ?side2 A13.out).mono ?_
    (case side1 => repeat (first | exact (Kd.C_below HR1.out HB.out) | (with_reducible refine Kd.C_alloc ?_ _) | (with_reducible refine Kd.C_drewN ?_ _) | (with_reducible refine Kd.C_drew ?_)))
    (case side2 => exact HC1.out)
    rintro e w18 ⟨v516, rfl, ho0, hb⟩
    refine ⟨_, rfl, ?_⟩
    have n0_ := Asd.mk (Kd.S_lower ho0 (below_size (by repeat (first | (with_reducible first | exact HB.out | apply blA | apply pbN | apply blD | refine blS ?_ GE511.out) | exact HB.out))))
    have n1_ := Asd.mk (blk_below (g := gb511) (o := .cells #[.int .i64 a0_0, .int .i64 a0_1, .int .i64 a0_2, .string a0_3, .int .i64 a0_4, .int .i64 a0_5, .int .i64 a0_6, .string a0_7, .slice A0_8 l0_8.length c0_8] 26 (0, 0)) (by (with_reducible repeat (first | refine bkN ?_ _ | refine bkD ?_ | refine bkA ?_ _)); exact BK511.out) hb)
    have n2_ := Asd.mk (below_step (by repeat (first | (with_reducible first | exact HB.out | apply blA | apply pbN | apply blD | refine blS ?_ GE511.out) | exact HB.out)) hb)
    clear BK511 HB
    have HO517 := n0_
    have BK511 := n1_
    have HB := n2_
    clear n0_ n1_ n2_
    (try clear hb)
    (try clear hb2)
    (try clear hk)
    (try clear hi)
    (try clear ho0)
    refine hK.out _ _ ⟨(bkC BK511.out 0).trans rfl, (bkC BK511.out 1).trans rfl, (bkC BK511.out 2).trans rfl, (bkC BK511.out 3).trans rfl, (bkC BK511.out 4).trans rfl, (bkC BK511.out 5).trans rfl, (bkC BK511.out 6).trans rfl, (bkC BK511.out 7).trans rfl, (bkC BK511.out 8).trans rfl⟩ (fun hHeld => ?_)
    clear hK K
    refine norm_ (a' := ?_) ?_ ?_
    rotate_left
    ·show Act.put _ (some 30) _ = _
     simp only [Act.put, List.setIfInBounds_toArray, List.set_cons_zero, List.set_cons_succ, i64_w, i32_w]
     rfl
    refine one_ (i := 4) (N := some 32) #[true, true, true, true, true, false, false, false, false, false, false] rfl rfl (one_of HT_.out (by kernel_rfl)) (by decide) (fun K hK => ?_)
    refine goes_ Tryd.func20 (by kernel_rfl) rfl #[.slice A2 l2.length c2] (by rfl) rfl rfl (by (try simp only [List.map_toArray, List.map_cons, List.map_nil]); first | done | rfl | (simp only [List.length_drop, List.length_take]; rfl)) ?_
    with_reducible refine (w08_row.calls k1 _ _ l2 t518 _ ?side1 ?side2 A14.out).mono ?_
    (case side1 => repeat (first | exact (Kd.C_below HR2.out HB.out) | (with_reducible refine Kd.C_alloc ?_ _) | (with_reducible refine Kd.C_drewN ?_ _) | (with_reducible refine Kd.C_drew ?_)))
    (case side2 => exact HC2.out)
    rintro e w19 ⟨v519, rfl, ho0, hb⟩
    refine ⟨_, rfl, ?_⟩
    have n0_ := Asd.mk (Kd.S_elder' (by (with_reducible repeat (first | apply Kd.S_alloc | apply Kd.S_drewN | apply Kd.S_drew)); exact HO517.out) (Kd.R_base ho0) hb)
    have n1_ := Asd.mk (Kd.R_lower ho0 (below_size (by repeat (first | (with_reducible first | exact HB.out | apply blA | apply pbN | apply blD | refine blS ?_ GE511.out) | exact HB.out))))
    have n2_ := Asd.mk (blk_below (g := gb511) (o := .cells #[.int .i64 a0_0, .int .i64 a0_1, .int .i64 a0_2, .string a0_3, .int .i64 a0_4, .int .i64 a0_5, .int .i64 a0_6, .string a0_7, .slice A0_8 l0_8.length c0_8] 26 (0, 0)) (by (with_reducible repeat (first | refine bkN ?_ _ | refine bkD ?_ | refine bkA ?_ _)); exact BK511.out) hb)
    have n3_ := Asd.mk (below_step (by repeat (first | (with_reducible first | exact HB.out | apply blA | apply pbN | apply blD | refine blS ?_ GE511.out) | exact HB.out)) hb)
    clear HO517 BK511 HB
    have HO517 := n0_
    have HO520 := n1_
    have BK511 := n2_
    have HB := n3_
    clear n0_ n1_ n2_ n3_
    (try clear hb)
    (try clear hb2)
    (try clear hk)
    (try clear hi)
    (try clear ho0)
    obtain ⟨Ao20, co20, eo20⟩ := Kd.S_slice HO517.out
    (first | subst eo20 | (injection eo20 with f1_ f2_ f3_; have f4_ := f1_.symm; have f5_ := f3_.symm; clear f1_ f2_ f3_; subst f4_; subst f5_))
    obtain ⟨Ao21, co21, eo21⟩ := Kd.R_slice HO520.out
    (first | subst eo21 | (injection eo21 with f1_ f2_ f3_; have f4_ := f1_.symm; have f5_ := f3_.symm; clear f1_ f2_ f3_; subst f4_; subst f5_))
    refine hK.out _ _ ⟨(bkC BK511.out 0).trans rfl, (bkC BK511.out 1).trans rfl, (bkC BK511.out 2).trans rfl, (bkC BK511.out 3).trans rfl, (bkC BK511.out 4).trans rfl, (bkC BK511.out 5).trans rfl, (bkC BK511.out 6).trans rfl, (bkC BK511.out 7).trans rfl, (bkC BK511.out 8).trans rfl⟩ (fun hHeld => ?_)
    clear hK K
    refine norm_ (a' := ?_) ?_ ?_
    rotate_left
    ·show Act.put _ (some 32) _ = _
     simp only [Act.put, List.setIfInBounds_toArray, List.set_cons_zero, List.set_cons_succ, i64_w, i32_w]
     rfl
    refine one_ (i := 5) (N := some 33) #[true, true, true, true, true, true, false, false, false, false, false] rfl rfl (one_of HT_.out (by kernel_rfl)) (by decide) (fun K hK => ?_)
    refine goes_ Tryd.func12 (by kernel_rfl) rfl #[.agg #[.int .i64 a0_0, .int .i64 a0_1, .int .i64 a0_2, .string a0_3, .int .i64 a0_4, .int .i64 a0_5, .int .i64 a0_6, .string a0_7, .slice A0_8 l0_8.length c0_8], .slice Ao20 t515.length co20, .slice Ao21 t518.length co21] (by rfl) rfl rfl (by (try simp only [List.map_toArray, List.map_cons, List.map_nil]); first | done | rfl | (simp only [List.length_drop, List.length_take]; rfl)) ?_
    with_reducible refine (expr_Kind.calls a0_0 a0_1 a0_2 a0_3 a0_4 a0_5 a0_6 a0_7 _ _ l0_8 _ _ t515 _ _ t518 t521 t522 _ ?side1 ?side2 ?side3 ?side4 ?side5 ?side6 A15.out).mono ?_
    (case side1 => repeat (first | exact (Kd.C_below HR0_8.out HB.out) | (with_reducible refine Kd.C_alloc ?_ _) | (with_reducible refine Kd.C_drewN ?_ _) | (with_reducible refine Kd.C_drew ?_)))
    (case side2 => exact HC0_8.out)
    (case side3 => repeat (first | exact (Kd.S_reads' HO517.out).2.2 | (with_reducible refine Kd.C_alloc ?_ _) | (with_reducible refine Kd.C_drewN ?_ _) | (with_reducible refine Kd.C_drew ?_)))
    (case side4 => exact (Kd.S_reads' HO517.out).2.1)
    (case side5 => repeat (first | exact (Kd.R_reads' HO520.out).2.2 | (with_reducible refine Kd.C_alloc ?_ _) | (with_reducible refine Kd.C_drewN ?_ _) | (with_reducible refine Kd.C_drew ?_)))
    (case side6 => exact (Kd.R_reads' HO520.out).2.1)
    rintro e w22 ⟨rfl, hb⟩
    refine ⟨_, rfl, ?_⟩
    have n0_ := Asd.mk (Kd.S_below (by (with_reducible repeat (first | apply Kd.S_alloc | apply Kd.S_drewN | apply Kd.S_drew)); exact HO517.out) hb)
    have n1_ := Asd.mk (Kd.R_below (by (with_reducible repeat (first | apply Kd.R_alloc | apply Kd.R_drewN | apply Kd.R_drew)); exact HO520.out) hb)
    have n2_ := Asd.mk (blk_below (g := gb511) (o := .cells #[.int .i64 a0_0, .int .i64 a0_1, .int .i64 a0_2, .string a0_3, .int .i64 a0_4, .int .i64 a0_5, .int .i64 a0_6, .string a0_7, .slice A0_8 l0_8.length c0_8] 26 (0, 0)) (by (with_reducible repeat (first | refine bkN ?_ _ | refine bkD ?_ | refine bkA ?_ _)); exact BK511.out) hb)
    have n3_ := Asd.mk (below_step (by repeat (first | (with_reducible first | exact HB.out | apply blA | apply pbN | apply blD | refine blS ?_ GE511.out) | exact HB.out)) hb)
    clear HO517 HO520 BK511 HB
    have HO517 := n0_
    have HO520 := n1_
    have BK511 := n2_
    have HB := n3_
    clear n0_ n1_ n2_ n3_
    (try clear hb)
    (try clear hb2)
    (try clear hk)
    (try clear hi)
    refine hK.out _ _ ⟨(bkC BK511.out 0).trans rfl, (bkC BK511.out 1).trans rfl, (bkC BK511.out 2).trans rfl, (bkC BK511.out 3).trans rfl, (bkC BK511.out 4).trans rfl, (bkC BK511.out 5).trans rfl, (bkC BK511.out 6).trans rfl, (bkC BK511.out 7).trans rfl, (bkC BK511.out 8).trans rfl⟩ (fun hHeld => ?_)
    clear hK K
    refine norm_ (a' := ?_) ?_ ?_
    rotate_left
    ·show Act.put _ (some 33) _ = _
     simp only [Act.put, List.setIfInBounds_toArray, List.set_cons_zero, List.set_cons_succ, i64_w, i32_w]
     rfl
    refine pure_ (i := 6) (N := some 27) (v := ?_) (a' := ?_) #[true, true, true, true, true, true, true, false, false, false, false] rfl rfl (any_of HT_.out (by kernel_rfl)) (fun _ _ _ h => h) (Or.inl ⟨by rfl, ?_⟩) ?_ ?_
    rotate_left
    ·intro w'
     go_simp
     with_reducible rfl
    rotate_left
    ·simp only [Act.put, List.setIfInBounds_toArray, List.set_cons_zero, List.set_cons_succ, i64_w, i32_w]
     rfl
    refine pure_ (i := 7) (N := some 34) (v := ?_) (a' := ?_) #[true, true, true, true, true, true, true, true, false, false, false] rfl rfl (any_of HT_.out (by kernel_rfl)) (fun _ _ _ h => h) (Or.inl ⟨by rfl, ?_⟩) ?_ ?_
    rotate_left
    ·intro w'
     go_simp
     with_reducible rfl
    rotate_left
    ·simp only [Act.put, List.setIfInBounds_toArray, List.set_cons_zero, List.set_cons_succ, i64_w, i32_w]
     rfl
    refine pure_ (i := 8) (N := some 35) (v := ?_) (a' := ?_) #[true, true, true, true, true, true, true, true, true, false, false] rfl rfl (any_of HT_.out (by kernel_rfl)) (fun _ _ _ h => h) (Or.inl ⟨by rfl, ?_⟩) ?_ ?_
    rotate_left
    ·intro w'
     go_simp
     with_reducible rfl
    rotate_left
    ·simp only [Act.put, List.setIfInBounds_toArray, List.set_cons_zero, List.set_cons_succ, i64_w, i32_w]
     rfl
    refine pure_ (i := 9) (N := some 9) (v := ?_) (a' := ?_) #[true, true, true, true, true, true, true, true, true, true, false] rfl rfl (any_of HT_.out (by kernel_rfl)) (fun _ _ _ h => h) (Or.inl ⟨by rfl, ?_⟩) ?_ ?_
    rotate_left
    ·intro w'
     go_simp
     with_reducible rfl
    rotate_left
    ·simp only [Act.put, List.setIfInBounds_toArray, List.set_cons_zero, List.set_cons_succ, i64_w, i32_w]
     rfl
    refine pure_ (i := 10) (N := some 10) (v := ?_) (a' := ?_) #[true, true, true, true, true, true, true, true, true, true, true] rfl rfl (any_of HT_.out (by kernel_rfl)) (fun _ _ _ h => h) (Or.inl ⟨by rfl, ?_⟩) ?_ ?_
    rotate_left
    ·intro w'
     go_simp
     with_reducible rfl
    rotate_left
    ·simp only [Act.put, List.setIfInBounds_toArray, List.set_cons_zero, List.set_cons_succ, i64_w, i32_w]
     rfl
    refine done_ (done_of HT_.out (by kernel_rfl)) ?_
    go_upto_region 8 with (fail)
    go_cut [42] (fun v42 wc => ∃ (kq : Nat) (x42_15 : Bool), v42 = .bool x42_15 ∧ Asd (w08_ExprFits.j1 kq l1 l2 t512 t521 x42_15 a0_0 a0_1 a0_2 a0_3 a0_4 a0_5 a0_6 a0_7 l0_8 = some r) ∧ Asd (kq ≤ k1) ∧ Asd (wc.heap[gb511]? = some (.cells #[.int .i64 a0_0, .int .i64 a0_1, .int .i64 a0_2, .string a0_3, .int .i64 a0_4, .int .i64 a0_5, .int .i64 a0_6, .string a0_7, (.slice A0_8 l0_8.length c0_8)] 26 (0, 0))) ∧ Asd (Below w.heap.size w wc))
    case first =>
     have H := HC16.out
     clear HC16
     replace H := Option.bind_eq_some_iff.mp H
     obtain ⟨t523, A230, H⟩ := H
     replace H : (if t523 = true then (w08_ExprFits.j1 k1 l1 l2 t512 t521 (t522 != 0) a0_0 a0_1 a0_2 a0_3 a0_4 a0_5 a0_6 a0_7 l0_8) else (w08_ExprFits.j1 k1 l1 l2 t512 t521 true a0_0 a0_1 a0_2 a0_3 a0_4 a0_5 a0_6 a0_7 l0_8)) = some r := H
     have A23 := Asd.mk A230
     clear A230
     by_cases c24 : t523 = true
     ·subst c24
      have H1 : (w08_ExprFits.j1 k1 l1 l2 t512 t521 (t522 != 0) a0_0 a0_1 a0_2 a0_3 a0_4 a0_5 a0_6 a0_7 l0_8) = some r := by rw [if_pos rfl] at H; exact H
      clear H
      have H := H1
      clear H1
      have H' := Asd.mk H
      clear H
      go_wp2_with (first | ((with_reducible refine gate_callee (f := 18) rfl ?_); refine goesL_ (some 37) rfl rfl Tryd.func18 (by kernel_rfl) rfl #[.slice A2 l2.length c2] rfl (by (try simp only [List.map_toArray, List.map_cons, List.map_nil]); first | done | rfl | (simp only [List.length_drop, List.length_take]; rfl)) ?_; (with_reducible refine (w08_right.calls k1 _ _ l2 true _ ?side1 ?side2 A23.out).mono ?_); (case side1 => repeat (first | exact (Kd.C_below HR2.out HB.out) | (with_reducible refine Kd.C_alloc ?_ _) | (with_reducible refine Kd.C_drewN ?_ _) | (with_reducible refine Kd.C_drew ?_))); (case side2 => exact HC2.out); rintro e w25 ⟨rfl, hb⟩; refine ⟨_, rfl, ?_⟩; have n0_ := Asd.mk (Kd.S_below (by (with_reducible repeat (first | apply Kd.S_alloc | apply Kd.S_drewN | apply Kd.S_drew)); exact HO517.out) hb); have n1_ := Asd.mk (Kd.R_below (by (with_reducible repeat (first | apply Kd.R_alloc | apply Kd.R_drewN | apply Kd.R_drew)); exact HO520.out) hb); have n2_ := Asd.mk (blk_below (g := gb511) (o := .cells #[.int .i64 a0_0, .int .i64 a0_1, .int .i64 a0_2, .string a0_3, .int .i64 a0_4, .int .i64 a0_5, .int .i64 a0_6, .string a0_7, .slice A0_8 l0_8.length c0_8] 26 (0, 0)) (by (with_reducible repeat (first | refine bkN ?_ _ | refine bkD ?_ | refine bkA ?_ _)); exact BK511.out) hb); have n3_ := Asd.mk (below_step (by repeat (first | (with_reducible first | exact HB.out | apply blA | apply pbN | apply blD | refine blS ?_ GE511.out) | exact HB.out)) hb); clear HO517; clear HO520; clear BK511; clear HB; have HO517 := n0_; have HO520 := n1_; have BK511 := n2_; have HB := n3_; clear n0_ n1_ n2_ n3_; (try clear hb); (try clear hb2); (try clear hk); (try clear hi)))
      go_meet
      case rel => exact ⟨_, ((t522 != 0)), (by first | rfl | (simp; done) | (simp [*]; done)), H', ⟨by have := HK1.out; first | omega | exact Nat.le_refl _⟩, ⟨by (with_reducible repeat (first | refine bkN ?_ _ | refine bkD ?_ | refine bkA ?_ _)); exact BK511.out⟩, ⟨by repeat (first | (with_reducible first | exact HB.out | apply blA | apply pbN | apply blD | refine blS ?_ GE511.out) | exact HB.out)⟩⟩
     ·replace c24 := Bool.eq_false_iff.mpr c24
      subst c24
      have H1 : (w08_ExprFits.j1 k1 l1 l2 t512 t521 true a0_0 a0_1 a0_2 a0_3 a0_4 a0_5 a0_6 a0_7 l0_8) = some r := by rw [if_neg (show ¬ (false = true) by decide)] at H; exact H
      clear H
      have H := H1
      clear H1
      have H' := Asd.mk H
      clear H
      go_wp2_with (first | ((with_reducible refine gate_callee (f := 18) rfl ?_); refine goesL_ (some 37) rfl rfl Tryd.func18 (by kernel_rfl) rfl #[.slice A2 l2.length c2] rfl (by (try simp only [List.map_toArray, List.map_cons, List.map_nil]); first | done | rfl | (simp only [List.length_drop, List.length_take]; rfl)) ?_; (with_reducible refine (w08_right.calls k1 _ _ l2 false _ ?side1 ?side2 A23.out).mono ?_); (case side1 => repeat (first | exact (Kd.C_below HR2.out HB.out) | (with_reducible refine Kd.C_alloc ?_ _) | (with_reducible refine Kd.C_drewN ?_ _) | (with_reducible refine Kd.C_drew ?_))); (case side2 => exact HC2.out); rintro e w26 ⟨rfl, hb⟩; refine ⟨_, rfl, ?_⟩; have n0_ := Asd.mk (Kd.S_below (by (with_reducible repeat (first | apply Kd.S_alloc | apply Kd.S_drewN | apply Kd.S_drew)); exact HO517.out) hb); have n1_ := Asd.mk (Kd.R_below (by (with_reducible repeat (first | apply Kd.R_alloc | apply Kd.R_drewN | apply Kd.R_drew)); exact HO520.out) hb); have n2_ := Asd.mk (blk_below (g := gb511) (o := .cells #[.int .i64 a0_0, .int .i64 a0_1, .int .i64 a0_2, .string a0_3, .int .i64 a0_4, .int .i64 a0_5, .int .i64 a0_6, .string a0_7, .slice A0_8 l0_8.length c0_8] 26 (0, 0)) (by (with_reducible repeat (first | refine bkN ?_ _ | refine bkD ?_ | refine bkA ?_ _)); exact BK511.out) hb); have n3_ := Asd.mk (below_step (by repeat (first | (with_reducible first | exact HB.out | apply blA | apply pbN | apply blD | refine blS ?_ GE511.out) | exact HB.out)) hb); clear HO517; clear HO520; clear BK511; clear HB; have HO517 := n0_; have HO520 := n1_; have BK511 := n2_; have HB := n3_; clear n0_ n1_ n2_ n3_; (try clear hb); (try clear hb2); (try clear hk); (try clear hi)))
      go_meet
      case rel => exact ⟨_, (true), (by first | rfl | (simp; done) | (simp [*]; done)), H', ⟨by have := HK1.out; first | omega | exact Nat.le_refl _⟩, ⟨by (with_reducible repeat (first | refine bkN ?_ _ | refine bkD ?_ | refine bkA ?_ _)); exact BK511.out⟩, ⟨by repeat (first | (with_reducible first | exact HB.out | apply blA | apply pbN | apply blD | refine blS ?_ GE511.out) | exact HB.out)⟩⟩
    case rest =>
     clear HC16
     try clear c1
     try clear c2
     try clear p2
     try clear c5
     try clear p5
     try clear q5
     try clear hx5
     try clear c6
     try clear p6
     try clear c7
     try clear c7b0
     try clear c8
     try clear c8b0
     try clear c10
     try clear c11
     try clear c12
     try clear c18
     try clear c19
     try clear c20
     try clear c24
     try clear hx513_0
     try clear p2
     try clear p513
     try clear q513
     obtain ⟨kq, x42_15, rfl, HA, HJ15, BK511, HB⟩ := hcut
     cases kq with
     | zero => exact absurd HA.out (by simp [w08_ExprFits.j1])
     | succ kj15 =>
      have H := HA.out
      clear HA
      simp only [w08_ExprFits.j1] at H
      by_cases c27 : x42_15 = true
      ·subst c27
       have H1 : (some t512) = some r := by rw [if_pos rfl] at H; exact H
       clear H
       have H := H1
       clear H1
       obtain rfl := Option.some.inj H
       go_wp2
       go_ret
       exact ⟨by first | rfl | (simp [errW_none, errW_some] <;> rfl) | (simp [*, errW_none, errW_some] <;> rfl), by repeat (first | (with_reducible first | exact HB.out | apply blA | apply pbN | apply blD | refine blS ?_ GE511.out) | exact HB.out)⟩
      ·replace c27 := Bool.eq_false_iff.mpr c27
       subst c27
       have H1 : ((expr_Eval.f a0_0 a0_1 a0_2 a0_3 a0_4 a0_5 a0_6 a0_7 l0_8 l1 l2).bind fun bt524 => (if bt524.2.2.2 = 0 then (if t512 = true then ((value_Right.f bt524.1 bt524.2.1 bt524.2.2.1).bind fun t529 => (if t529 = true then (if bt524.1 = t521 then (some true) else (if bt524.1 = 0 then (some true) else (if t521 = 0 then (some (bt524.1 == 0)) else (some false)))) else (some false))) else (some false)) else (if t512 = true then ((expr_Safe.f a0_0 a0_1 a0_2 a0_3 a0_4 a0_5 a0_6 a0_7 l0_8).bind fun t530 => (if t530 = true then (some false) else (if bt524.2.2.2 = 3 then (some true) else (some (bt524.2.2.2 == 4))))) else (some false)))) = some r := by rw [if_neg (show ¬ (false = true) by decide)] at H; exact H
       clear H
       have H := H1
       clear H1
       replace H := Option.bind_eq_some_iff.mp H
       obtain ⟨⟨t524, t525, t526, t527⟩, A280, H⟩ := H
       replace H : (if t527 = 0 then (if t512 = true then ((value_Right.f t524 t525 t526).bind fun t529 => (if t529 = true then (if t524 = t521 then (some true) else (if t524 = 0 then (some true) else (if t521 = 0 then (some (t524 == 0)) else (some false)))) else (some false))) else (some false)) else (if t512 = true then ((expr_Safe.f a0_0 a0_1 a0_2 a0_3 a0_4 a0_5 a0_6 a0_7 l0_8).bind fun t530 => (if t530 = true then (some false) else (if t527 = 3 then (some true) else (some (t527 == 4))))) else (some false))) = some r := H
       have A28 := Asd.mk A280
       clear A280
       by_cases c29 : t527 = 0
       ·rw [if_pos c29] at H
        have c29b0 : (t527 == 0) = true := beq_iff_eq.mpr c29
        have c29b1 : (t527 != 0) = false := bne_eq_false_iff_eq.mpr c29
        clear c29
        by_cases c30 : t512 = true
        ·subst c30
         have H1 : ((value_Right.f t524 t525 t526).bind fun t529 => (if t529 = true then (if t524 = t521 then (some true) else (if t524 = 0 then (some true) else (if t521 = 0 then (some (t524 == 0)) else (some false)))) else (some false))) = some r := by rw [if_pos rfl] at H; exact H
         clear H
         have H := H1
         clear H1
         replace H := Option.bind_eq_some_iff.mp H
         obtain ⟨t529, A310, H⟩ := H
         replace H : (if t529 = true then (if t524 = t521 then (some true) else (if t524 = 0 then (some true) else (if t521 = 0 then (some (t524 == 0)) else (some false)))) else (some false)) = some r := H
         have A31 := Asd.mk A310
         clear A310
         by_cases c32 : t529 = true
         ·subst c32
          have H1 : (if t524 = t521 then (some true) else (if t524 = 0 then (some true) else (if t521 = 0 then (some (t524 == 0)) else (some false)))) = some r := by rw [if_pos rfl] at H; exact H
          clear H
          have H := H1
          clear H1
          by_cases c33 : t524 = t521
          ·rw [if_pos c33] at H
           have c33b0 : (t524 == t521) = true := beq_iff_eq.mpr c33
           have c33b1 : (t524 != t521) = false := bne_eq_false_iff_eq.mpr c33
           clear c33
           obtain rfl := Option.some.inj H
           have hcz34_0 : wc.cell? ⟨gb511, 0, none⟩ = some (.int .i64 a0_0) := (bkC BK511.out 0).trans rfl
           have hcz34_1 : wc.cell? ⟨gb511, 1, none⟩ = some (.int .i64 a0_1) := (bkC BK511.out 1).trans rfl
           have hcz34_2 : wc.cell? ⟨gb511, 2, none⟩ = some (.int .i64 a0_2) := (bkC BK511.out 2).trans rfl
           have hcz34_3 : wc.cell? ⟨gb511, 3, none⟩ = some (.string a0_3) := (bkC BK511.out 3).trans rfl
           have hcz34_4 : wc.cell? ⟨gb511, 4, none⟩ = some (.int .i64 a0_4) := (bkC BK511.out 4).trans rfl
           have hcz34_5 : wc.cell? ⟨gb511, 5, none⟩ = some (.int .i64 a0_5) := (bkC BK511.out 5).trans rfl
           have hcz34_6 : wc.cell? ⟨gb511, 6, none⟩ = some (.int .i64 a0_6) := (bkC BK511.out 6).trans rfl
           have hcz34_7 : wc.cell? ⟨gb511, 7, none⟩ = some (.string a0_7) := (bkC BK511.out 7).trans rfl
           have hcz34_8 : wc.cell? ⟨gb511, 8, none⟩ = some (.slice A0_8 l0_8.length c0_8) := (bkC BK511.out 8).trans rfl
           have hfz34_0 := bkF BK511.out 0
           have hfz34_1 := bkF BK511.out 1
           have hfz34_2 := bkF BK511.out 2
           have hfz34_3 := bkF BK511.out 3
           have hfz34_4 := bkF BK511.out 4
           have hfz34_5 := bkF BK511.out 5
           have hfz34_6 := bkF BK511.out 6
           have hfz34_7 := bkF BK511.out 7
           have hfz34_8 := bkF BK511.out 8
           go_wp2_with (first | ((with_reducible refine gate_callee (f := 14) rfl ?_); refine goesL_ (some 48) rfl rfl Tryd.func14 (by kernel_rfl) rfl #[.agg #[.int .i64 a0_0, .int .i64 a0_1, .int .i64 a0_2, .string a0_3, .int .i64 a0_4, .int .i64 a0_5, .int .i64 a0_6, .string a0_7, .slice A0_8 l0_8.length c0_8], .slice A1 l1.length c1, .slice A2 l2.length c2] rfl (by (try simp only [List.map_toArray, List.map_cons, List.map_nil]); first | done | rfl | (simp only [List.length_drop, List.length_take]; rfl)) ?_; (with_reducible refine (expr_Eval.calls a0_0 a0_1 a0_2 a0_3 a0_4 a0_5 a0_6 a0_7 _ _ l0_8 _ _ l1 _ _ l2 t524 t525 t526 t527 _ ?side1 ?side2 ?side3 ?side4 ?side5 ?side6 A28.out).mono ?_); (case side1 => repeat (first | exact (Kd.C_below HR0_8.out HB.out) | (with_reducible refine Kd.C_alloc ?_ _) | (with_reducible refine Kd.C_drewN ?_ _) | (with_reducible refine Kd.C_drew ?_))); (case side2 => exact HC0_8.out); (case side3 => repeat (first | exact (Kd.C_below HR1.out HB.out) | (with_reducible refine Kd.C_alloc ?_ _) | (with_reducible refine Kd.C_drewN ?_ _) | (with_reducible refine Kd.C_drew ?_))); (case side4 => exact HC1.out); (case side5 => repeat (first | exact (Kd.C_below HR2.out HB.out) | (with_reducible refine Kd.C_alloc ?_ _) | (with_reducible refine Kd.C_drewN ?_ _) | (with_reducible refine Kd.C_drew ?_))); (case side6 => exact HC2.out); rintro e w35 ⟨rfl, hb⟩; refine ⟨_, rfl, ?_⟩; have n0_ := Asd.mk (blk_below (g := gb511) (o := .cells #[.int .i64 a0_0, .int .i64 a0_1, .int .i64 a0_2, .string a0_3, .int .i64 a0_4, .int .i64 a0_5, .int .i64 a0_6, .string a0_7, .slice A0_8 l0_8.length c0_8] 26 (0, 0)) (by (with_reducible repeat (first | refine bkN ?_ _ | refine bkD ?_ | refine bkA ?_ _)); exact BK511.out) hb); have n1_ := Asd.mk (below_step (by repeat (first | (with_reducible first | exact HB.out | apply blA | apply pbN | apply blD | refine blS ?_ GE511.out) | exact HB.out)) hb); clear BK511; clear HB; have BK511 := n0_; have HB := n1_; clear n0_ n1_; (try clear hb); (try clear hb2); (try clear hk); (try clear hi)) | ((with_reducible refine gate_dst (N := 11) rfl ?_); refine box_event ?hg (N := 11) ?hd (cs := #[.int .i64 0, .int .i64 0, .string (⟨#[]⟩ : ByteArray)]) (t := 23) ?hr ?_; (case hd => rfl); (case hg => rfl); (case hr => first | (go_simp; done) | (go_simp; rfl)); intro gb528 hg w36 hbox hb; have n0_ := Asd.mk (blk_below (g := gb511) (o := .cells #[.int .i64 a0_0, .int .i64 a0_1, .int .i64 a0_2, .string a0_3, .int .i64 a0_4, .int .i64 a0_5, .int .i64 a0_6, .string a0_7, .slice A0_8 l0_8.length c0_8] 26 (0, 0)) (by (with_reducible repeat (first | refine bkN ?_ _ | refine bkD ?_ | refine bkA ?_ _)); exact BK511.out) hb); have n1_ := Asd.mk (below_step (by repeat (first | (with_reducible first | exact HB.out | apply blA | apply pbN | apply blD | refine blS ?_ GE511.out) | exact HB.out)) hb); have n2_ := Asd.mk (hbox); have n3_ := Asd.mk ((by rw [hg]; exact (below_size (by repeat (first | (with_reducible first | exact HB.out | apply blA | apply pbN | apply blD | refine blS ?_ GE511.out) | exact HB.out))) : w.heap.size ≤ gb528)); have n4_ := Asd.mk ((by rw [hg]; exact (below_size (by repeat (first | (with_reducible first | exact HB.out | apply blA | apply pbN | apply blD | refine blS ?_ GE511.out) | exact HB.out))) : w.heap.size ≤ gb528)); have n5_ := Asd.mk ((by rw [hg]; exact Nat.ne_of_lt (blk_lt (g := gb511) (o := .cells #[.int .i64 a0_0, .int .i64 a0_1, .int .i64 a0_2, .string a0_3, .int .i64 a0_4, .int .i64 a0_5, .int .i64 a0_6, .string a0_7, .slice A0_8 l0_8.length c0_8] 26 (0, 0)) (by (with_reducible repeat (first | refine bkN ?_ _ | refine bkD ?_ | refine bkA ?_ _)); exact BK511.out)) : gb511 ≠ gb528)); have n6_ := Asd.mk ((by rw [hg]; exact Nat.ne_of_gt (blk_lt (g := gb511) (o := .cells #[.int .i64 a0_0, .int .i64 a0_1, .int .i64 a0_2, .string a0_3, .int .i64 a0_4, .int .i64 a0_5, .int .i64 a0_6, .string a0_7, .slice A0_8 l0_8.length c0_8] 26 (0, 0)) (by (with_reducible repeat (first | refine bkN ?_ _ | refine bkD ?_ | refine bkA ?_ _)); exact BK511.out)) : gb528 ≠ gb511)); clear BK511; clear HB; have BK511 := n0_; have HB := n1_; have BK528 := n2_; have GW528 := n3_; have GE528 := n4_; have NB511_528 := n5_; have NB528_511 := n6_; clear n0_ n1_ n2_ n3_ n4_ n5_ n6_; clear hb hbox hg; have hnb37 := NB528_511.out; have hnc37 := NB511_528.out; have hcz38_0 : w36.cell? ⟨gb528, 0, none⟩ = some (.int .i64 0) := (bkC BK528.out 0).trans rfl; have hcz38_1 : w36.cell? ⟨gb528, 1, none⟩ = some (.int .i64 0) := (bkC BK528.out 1).trans rfl; have hcz38_2 : w36.cell? ⟨gb528, 2, none⟩ = some (.string (⟨#[]⟩ : ByteArray)) := (bkC BK528.out 2).trans rfl; have hfz38_0 := bkF BK528.out 0; have hfz38_1 := bkF BK528.out 1; have hfz38_2 := bkF BK528.out 2) | (go_at_call 22; (with_reducible refine (value_Right.calls t524 t525 t526 true _ A31.out).mono ?_); rintro e w39 ⟨rfl, hb⟩; have n0_ := Asd.mk (blk_below (g := gb511) (o := .cells #[.int .i64 a0_0, .int .i64 a0_1, .int .i64 a0_2, .string a0_3, .int .i64 a0_4, .int .i64 a0_5, .int .i64 a0_6, .string a0_7, .slice A0_8 l0_8.length c0_8] 26 (0, 0)) (by (with_reducible repeat (first | refine bkN ?_ _ | refine bkD ?_ | refine bkA ?_ _)); refine blk_far ?_ NB511_528.out _; (with_reducible repeat (first | refine bkN ?_ _ | refine bkD ?_ | refine bkA ?_ _)); refine blk_far ?_ NB511_528.out _; (with_reducible repeat (first | refine bkN ?_ _ | refine bkD ?_ | refine bkA ?_ _)); refine blk_far ?_ NB511_528.out _; (with_reducible repeat (first | refine bkN ?_ _ | refine bkD ?_ | refine bkA ?_ _)); exact BK511.out) hb); have n1_ := Asd.mk (blk_below (g := gb528) (o := .cells #[.int .i64 t524, .int .i64 t525, .string t526] 23 (0, 0)) (by (with_reducible repeat (first | refine bkN ?_ _ | refine bkD ?_ | refine bkA ?_ _)); refine blk_put (cs := #[.int .i64 t524, .int .i64 t525, .string (⟨#[]⟩ : ByteArray)]) ?_ 2 _ rfl; (with_reducible repeat (first | refine bkN ?_ _ | refine bkD ?_ | refine bkA ?_ _)); refine blk_put (cs := #[.int .i64 t524, .int .i64 0, .string (⟨#[]⟩ : ByteArray)]) ?_ 1 _ rfl; (with_reducible repeat (first | refine bkN ?_ _ | refine bkD ?_ | refine bkA ?_ _)); refine blk_put (cs := #[.int .i64 0, .int .i64 0, .string (⟨#[]⟩ : ByteArray)]) ?_ 0 _ rfl; (with_reducible repeat (first | refine bkN ?_ _ | refine bkD ?_ | refine bkA ?_ _)); exact BK528.out) hb); have n2_ := Asd.mk (below_step (by repeat (first | (with_reducible first | exact HB.out | apply blA | apply pbN | apply blD | refine blS ?_ GE511.out | refine blS ?_ GE528.out) | exact HB.out)) hb); clear BK511; clear BK528; clear HB; have BK511 := n0_; have BK528 := n1_; have HB := n2_; clear n0_ n1_ n2_; (try clear hb); (try clear hb2); (try clear hk); (try clear hi); have hcz40_0 : w39.cell? ⟨gb528, 0, none⟩ = some (.int .i64 t524) := (bkC BK528.out 0).trans rfl; have hcz40_1 : w39.cell? ⟨gb528, 1, none⟩ = some (.int .i64 t525) := (bkC BK528.out 1).trans rfl; have hcz40_2 : w39.cell? ⟨gb528, 2, none⟩ = some (.string t526) := (bkC BK528.out 2).trans rfl; have hfz40_0 := bkF BK528.out 0; have hfz40_1 := bkF BK528.out 1; have hfz40_2 := bkF BK528.out 2))
           go_ret
           exact ⟨by first | rfl | (simp [errW_none, errW_some] <;> rfl) | (simp [*, errW_none, errW_some] <;> rfl), by repeat (first | (with_reducible first | exact HB.out | apply blA | apply pbN | apply blD | refine blS ?_ GE511.out | refine blS ?_ GE528.out) | exact HB.out)⟩
          ·rw [if_neg c33] at H
           have c33b0 : (t524 == t521) = false := beq_eq_false_iff_ne.mpr c33
           have c33b1 : (t524 != t521) = true := bne_iff_ne.mpr c33
           by_cases c41 : t524 = 0
           ·rw [if_pos c41] at H
            have c41b0 : (t524 == 0) = true := beq_iff_eq.mpr c41
            have c41b1 : (t524 != 0) = false := bne_eq_false_iff_eq.mpr c41
            clear c41
            obtain rfl := Option.some.inj H
            have hcz42_0 : wc.cell? ⟨gb511, 0, none⟩ = some (.int .i64 a0_0) := (bkC BK511.out 0).trans rfl
            have hcz42_1 : wc.cell? ⟨gb511, 1, none⟩ = some (.int .i64 a0_1) := (bkC BK511.out 1).trans rfl
            have hcz42_2 : wc.cell? ⟨gb511, 2, none⟩ = some (.int .i64 a0_2) := (bkC BK511.out 2).trans rfl
            have hcz42_3 : wc.cell? ⟨gb511, 3, none⟩ = some (.string a0_3) := (bkC BK511.out 3).trans rfl
            have hcz42_4 : wc.cell? ⟨gb511, 4, none⟩ = some (.int .i64 a0_4) := (bkC BK511.out 4).trans rfl
            have hcz42_5 : wc.cell? ⟨gb511, 5, none⟩ = some (.int .i64 a0_5) := (bkC BK511.out 5).trans rfl
            have hcz42_6 : wc.cell? ⟨gb511, 6, none⟩ = some (.int .i64 a0_6) := (bkC BK511.out 6).trans rfl
            have hcz42_7 : wc.cell? ⟨gb511, 7, none⟩ = some (.string a0_7) := (bkC BK511.out 7).trans rfl
            have hcz42_8 : wc.cell? ⟨gb511, 8, none⟩ = some (.slice A0_8 l0_8.length c0_8) := (bkC BK511.out 8).trans rfl
            have hfz42_0 := bkF BK511.out 0
            have hfz42_1 := bkF BK511.out 1
            have hfz42_2 := bkF BK511.out 2
            have hfz42_3 := bkF BK511.out 3
            have hfz42_4 := bkF BK511.out 4
            have hfz42_5 := bkF BK511.out 5
            have hfz42_6 := bkF BK511.out 6
            have hfz42_7 := bkF BK511.out 7
            have hfz42_8 := bkF BK511.out 8
            go_wp2_with (first | ((with_reducible refine gate_callee (f := 14) rfl ?_); refine goesL_ (some 48) rfl rfl Tryd.func14 (by kernel_rfl) rfl #[.agg #[.int .i64 a0_0, .int .i64 a0_1, .int .i64 a0_2, .string a0_3, .int .i64 a0_4, .int .i64 a0_5, .int .i64 a0_6, .string a0_7, .slice A0_8 l0_8.length c0_8], .slice A1 l1.length c1, .slice A2 l2.length c2] rfl (by (try simp only [List.map_toArray, List.map_cons, List.map_nil]); first | done | rfl | (simp only [List.length_drop, List.length_take]; rfl)) ?_; (with_reducible refine (expr_Eval.calls a0_0 a0_1 a0_2 a0_3 a0_4 a0_5 a0_6 a0_7 _ _ l0_8 _ _ l1 _ _ l2 t524 t525 t526 t527 _ ?side1 ?side2 ?side3 ?side4 ?side5 ?side6 A28.out).mono ?_); (case side1 => repeat (first | exact (Kd.C_below HR0_8.out HB.out) | (with_reducible refine Kd.C_alloc ?_ _) | (with_reducible refine Kd.C_drewN ?_ _) | (with_reducible refine Kd.C_drew ?_))); (case side2 => exact HC0_8.out); (case side3 => repeat (first | exact (Kd.C_below HR1.out HB.out) | (with_reducible refine Kd.C_alloc ?_ _) | (with_reducible refine Kd.C_drewN ?_ _) | (with_reducible refine Kd.C_drew ?_))); (case side4 => exact HC1.out); (case side5 => repeat (first | exact (Kd.C_below HR2.out HB.out) | (with_reducible refine Kd.C_alloc ?_ _) | (with_reducible refine Kd.C_drewN ?_ _) | (with_reducible refine Kd.C_drew ?_))); (case side6 => exact HC2.out); rintro e w43 ⟨rfl, hb⟩; refine ⟨_, rfl, ?_⟩; have n0_ := Asd.mk (blk_below (g := gb511) (o := .cells #[.int .i64 a0_0, .int .i64 a0_1, .int .i64 a0_2, .string a0_3, .int .i64 a0_4, .int .i64 a0_5, .int .i64 a0_6, .string a0_7, .slice A0_8 l0_8.length c0_8] 26 (0, 0)) (by (with_reducible repeat (first | refine bkN ?_ _ | refine bkD ?_ | refine bkA ?_ _)); exact BK511.out) hb); have n1_ := Asd.mk (below_step (by repeat (first | (with_reducible first | exact HB.out | apply blA | apply pbN | apply blD | refine blS ?_ GE511.out) | exact HB.out)) hb); clear BK511; clear HB; have BK511 := n0_; have HB := n1_; clear n0_ n1_; (try clear hb); (try clear hb2); (try clear hk); (try clear hi)) | ((with_reducible refine gate_dst (N := 11) rfl ?_); refine box_event ?hg (N := 11) ?hd (cs := #[.int .i64 0, .int .i64 0, .string (⟨#[]⟩ : ByteArray)]) (t := 23) ?hr ?_; (case hd => rfl); (case hg => rfl); (case hr => first | (go_simp; done) | (go_simp; rfl)); intro gb528 hg w44 hbox hb; have n0_ := Asd.mk (blk_below (g := gb511) (o := .cells #[.int .i64 a0_0, .int .i64 a0_1, .int .i64 a0_2, .string a0_3, .int .i64 a0_4, .int .i64 a0_5, .int .i64 a0_6, .string a0_7, .slice A0_8 l0_8.length c0_8] 26 (0, 0)) (by (with_reducible repeat (first | refine bkN ?_ _ | refine bkD ?_ | refine bkA ?_ _)); exact BK511.out) hb); have n1_ := Asd.mk (below_step (by repeat (first | (with_reducible first | exact HB.out | apply blA | apply pbN | apply blD | refine blS ?_ GE511.out) | exact HB.out)) hb); have n2_ := Asd.mk (hbox); have n3_ := Asd.mk ((by rw [hg]; exact (below_size (by repeat (first | (with_reducible first | exact HB.out | apply blA | apply pbN | apply blD | refine blS ?_ GE511.out) | exact HB.out))) : w.heap.size ≤ gb528)); have n4_ := Asd.mk ((by rw [hg]; exact (below_size (by repeat (first | (with_reducible first | exact HB.out | apply blA | apply pbN | apply blD | refine blS ?_ GE511.out) | exact HB.out))) : w.heap.size ≤ gb528)); have n5_ := Asd.mk ((by rw [hg]; exact Nat.ne_of_lt (blk_lt (g := gb511) (o := .cells #[.int .i64 a0_0, .int .i64 a0_1, .int .i64 a0_2, .string a0_3, .int .i64 a0_4, .int .i64 a0_5, .int .i64 a0_6, .string a0_7, .slice A0_8 l0_8.length c0_8] 26 (0, 0)) (by (with_reducible repeat (first | refine bkN ?_ _ | refine bkD ?_ | refine bkA ?_ _)); exact BK511.out)) : gb511 ≠ gb528)); have n6_ := Asd.mk ((by rw [hg]; exact Nat.ne_of_gt (blk_lt (g := gb511) (o := .cells #[.int .i64 a0_0, .int .i64 a0_1, .int .i64 a0_2, .string a0_3, .int .i64 a0_4, .int .i64 a0_5, .int .i64 a0_6, .string a0_7, .slice A0_8 l0_8.length c0_8] 26 (0, 0)) (by (with_reducible repeat (first | refine bkN ?_ _ | refine bkD ?_ | refine bkA ?_ _)); exact BK511.out)) : gb528 ≠ gb511)); clear BK511; clear HB; have BK511 := n0_; have HB := n1_; have BK528 := n2_; have GW528 := n3_; have GE528 := n4_; have NB511_528 := n5_; have NB528_511 := n6_; clear n0_ n1_ n2_ n3_ n4_ n5_ n6_; clear hb hbox hg; have hnb45 := NB528_511.out; have hnc45 := NB511_528.out; have hcz46_0 : w44.cell? ⟨gb528, 0, none⟩ = some (.int .i64 0) := (bkC BK528.out 0).trans rfl; have hcz46_1 : w44.cell? ⟨gb528, 1, none⟩ = some (.int .i64 0) := (bkC BK528.out 1).trans rfl; have hcz46_2 : w44.cell? ⟨gb528, 2, none⟩ = some (.string (⟨#[]⟩ : ByteArray)) := (bkC BK528.out 2).trans rfl; have hfz46_0 := bkF BK528.out 0; have hfz46_1 := bkF BK528.out 1; have hfz46_2 := bkF BK528.out 2) | (go_at_call 22; (with_reducible refine (value_Right.calls t524 t525 t526 true _ A31.out).mono ?_); rintro e w47 ⟨rfl, hb⟩; have n0_ := Asd.mk (blk_below (g := gb511) (o := .cells #[.int .i64 a0_0, .int .i64 a0_1, .int .i64 a0_2, .string a0_3, .int .i64 a0_4, .int .i64 a0_5, .int .i64 a0_6, .string a0_7, .slice A0_8 l0_8.length c0_8] 26 (0, 0)) (by (with_reducible repeat (first | refine bkN ?_ _ | refine bkD ?_ | refine bkA ?_ _)); refine blk_far ?_ NB511_528.out _; (with_reducible repeat (first | refine bkN ?_ _ | refine bkD ?_ | refine bkA ?_ _)); refine blk_far ?_ NB511_528.out _; (with_reducible repeat (first | refine bkN ?_ _ | refine bkD ?_ | refine bkA ?_ _)); refine blk_far ?_ NB511_528.out _; (with_reducible repeat (first | refine bkN ?_ _ | refine bkD ?_ | refine bkA ?_ _)); exact BK511.out) hb); have n1_ := Asd.mk (blk_below (g := gb528) (o := .cells #[.int .i64 t524, .int .i64 t525, .string t526] 23 (0, 0)) (by (with_reducible repeat (first | refine bkN ?_ _ | refine bkD ?_ | refine bkA ?_ _)); refine blk_put (cs := #[.int .i64 t524, .int .i64 t525, .string (⟨#[]⟩ : ByteArray)]) ?_ 2 _ rfl; (with_reducible repeat (first | refine bkN ?_ _ | refine bkD ?_ | refine bkA ?_ _)); refine blk_put (cs := #[.int .i64 t524, .int .i64 0, .string (⟨#[]⟩ : ByteArray)]) ?_ 1 _ rfl; (with_reducible repeat (first | refine bkN ?_ _ | refine bkD ?_ | refine bkA ?_ _)); refine blk_put (cs := #[.int .i64 0, .int .i64 0, .string (⟨#[]⟩ : ByteArray)]) ?_ 0 _ rfl; (with_reducible repeat (first | refine bkN ?_ _ | refine bkD ?_ | refine bkA ?_ _)); exact BK528.out) hb); have n2_ := Asd.mk (below_step (by repeat (first | (with_reducible first | exact HB.out | apply blA | apply pbN | apply blD | refine blS ?_ GE511.out | refine blS ?_ GE528.out) | exact HB.out)) hb); clear BK511; clear BK528; clear HB; have BK511 := n0_; have BK528 := n1_; have HB := n2_; clear n0_ n1_ n2_; (try clear hb); (try clear hb2); (try clear hk); (try clear hi); have hcz48_0 : w47.cell? ⟨gb528, 0, none⟩ = some (.int .i64 t524) := (bkC BK528.out 0).trans rfl; have hcz48_1 : w47.cell? ⟨gb528, 1, none⟩ = some (.int .i64 t525) := (bkC BK528.out 1).trans rfl; have hcz48_2 : w47.cell? ⟨gb528, 2, none⟩ = some (.string t526) := (bkC BK528.out 2).trans rfl; have hfz48_0 := bkF BK528.out 0; have hfz48_1 := bkF BK528.out 1; have hfz48_2 := bkF BK528.out 2))
            go_ret
            exact ⟨by first | rfl | (simp [errW_none, errW_some] <;> rfl) | (simp [*, errW_none, errW_some] <;> rfl), by repeat (first | (with_reducible first | exact HB.out | apply blA | apply pbN | apply blD | refine blS ?_ GE511.out | refine blS ?_ GE528.out) | exact HB.out)⟩
           ·rw [if_neg c41] at H
            have c41b0 : (t524 == 0) = false := beq_eq_false_iff_ne.mpr c41
            have c41b1 : (t524 != 0) = true := bne_iff_ne.mpr c41
            by_cases c49 : t521 = 0
            ·rw [if_pos c49] at H
             have c49b0 : (t521 == 0) = true := beq_iff_eq.mpr c49
             have c49b1 : (t521 != 0) = false := bne_eq_false_iff_eq.mpr c49
             clear c49
             obtain rfl := Option.some.inj H
             have hcz50_0 : wc.cell? ⟨gb511, 0, none⟩ = some (.int .i64 a0_0) := (bkC BK511.out 0).trans rfl
             have hcz50_1 : wc.cell? ⟨gb511, 1, none⟩ = some (.int .i64 a0_1) := (bkC BK511.out 1).trans rfl
             have hcz50_2 : wc.cell? ⟨gb511, 2, none⟩ = some (.int .i64 a0_2) := (bkC BK511.out 2).trans rfl
             have hcz50_3 : wc.cell? ⟨gb511, 3, none⟩ = some (.string a0_3) := (bkC BK511.out 3).trans rfl
             have hcz50_4 : wc.cell? ⟨gb511, 4, none⟩ = some (.int .i64 a0_4) := (bkC BK511.out 4).trans rfl
             have hcz50_5 : wc.cell? ⟨gb511, 5, none⟩ = some (.int .i64 a0_5) := (bkC BK511.out 5).trans rfl
             have hcz50_6 : wc.cell? ⟨gb511, 6, none⟩ = some (.int .i64 a0_6) := (bkC BK511.out 6).trans rfl
             have hcz50_7 : wc.cell? ⟨gb511, 7, none⟩ = some (.string a0_7) := (bkC BK511.out 7).trans rfl
             have hcz50_8 : wc.cell? ⟨gb511, 8, none⟩ = some (.slice A0_8 l0_8.length c0_8) := (bkC BK511.out 8).trans rfl
             have hfz50_0 := bkF BK511.out 0
             have hfz50_1 := bkF BK511.out 1
             have hfz50_2 := bkF BK511.out 2
             have hfz50_3 := bkF BK511.out 3
             have hfz50_4 := bkF BK511.out 4
             have hfz50_5 := bkF BK511.out 5
             have hfz50_6 := bkF BK511.out 6
             have hfz50_7 := bkF BK511.out 7
             have hfz50_8 := bkF BK511.out 8
             go_wp2_with (first | ((with_reducible refine gate_callee (f := 14) rfl ?_); refine goesL_ (some 48) rfl rfl Tryd.func14 (by kernel_rfl) rfl #[.agg #[.int .i64 a0_0, .int .i64 a0_1, .int .i64 a0_2, .string a0_3, .int .i64 a0_4, .int .i64 a0_5, .int .i64 a0_6, .string a0_7, .slice A0_8 l0_8.length c0_8], .slice A1 l1.length c1, .slice A2 l2.length c2] rfl (by (try simp only [List.map_toArray, List.map_cons, List.map_nil]); first | done | rfl | (simp only [List.length_drop, List.length_take]; rfl)) ?_; (with_reducible refine (expr_Eval.calls a0_0 a0_1 a0_2 a0_3 a0_4 a0_5 a0_6 a0_7 _ _ l0_8 _ _ l1 _ _ l2 t524 t525 t526 t527 _ ?side1 ?side2 ?side3 ?side4 ?side5 ?side6 A28.out).mono ?_); (case side1 => repeat (first | exact (Kd.C_below HR0_8.out HB.out) | (with_reducible refine Kd.C_alloc ?_ _) | (with_reducible refine Kd.C_drewN ?_ _) | (with_reducible refine Kd.C_drew ?_))); (case side2 => exact HC0_8.out); (case side3 => repeat (first | exact (Kd.C_below HR1.out HB.out) | (with_reducible refine Kd.C_alloc ?_ _) | (with_reducible refine Kd.C_drewN ?_ _) | (with_reducible refine Kd.C_drew ?_))); (case side4 => exact HC1.out); (case side5 => repeat (first | exact (Kd.C_below HR2.out HB.out) | (with_reducible refine Kd.C_alloc ?_ _) | (with_reducible refine Kd.C_drewN ?_ _) | (with_reducible refine Kd.C_drew ?_))); (case side6 => exact HC2.out); rintro e w51 ⟨rfl, hb⟩; refine ⟨_, rfl, ?_⟩; have n0_ := Asd.mk (blk_below (g := gb511) (o := .cells #[.int .i64 a0_0, .int .i64 a0_1, .int .i64 a0_2, .string a0_3, .int .i64 a0_4, .int .i64 a0_5, .int .i64 a0_6, .string a0_7, .slice A0_8 l0_8.length c0_8] 26 (0, 0)) (by (with_reducible repeat (first | refine bkN ?_ _ | refine bkD ?_ | refine bkA ?_ _)); exact BK511.out) hb); have n1_ := Asd.mk (below_step (by repeat (first | (with_reducible first | exact HB.out | apply blA | apply pbN | apply blD | refine blS ?_ GE511.out) | exact HB.out)) hb); clear BK511; clear HB; have BK511 := n0_; have HB := n1_; clear n0_ n1_; (try clear hb); (try clear hb2); (try clear hk); (try clear hi)) | ((with_reducible refine gate_dst (N := 11) rfl ?_); refine box_event ?hg (N := 11) ?hd (cs := #[.int .i64 0, .int .i64 0, .string (⟨#[]⟩ : ByteArray)]) (t := 23) ?hr ?_; (case hd => rfl); (case hg => rfl); (case hr => first | (go_simp; done) | (go_simp; rfl)); intro gb528 hg w52 hbox hb; have n0_ := Asd.mk (blk_below (g := gb511) (o := .cells #[.int .i64 a0_0, .int .i64 a0_1, .int .i64 a0_2, .string a0_3, .int .i64 a0_4, .int .i64 a0_5, .int .i64 a0_6, .string a0_7, .slice A0_8 l0_8.length c0_8] 26 (0, 0)) (by (with_reducible repeat (first | refine bkN ?_ _ | refine bkD ?_ | refine bkA ?_ _)); exact BK511.out) hb); have n1_ := Asd.mk (below_step (by repeat (first | (with_reducible first | exact HB.out | apply blA | apply pbN | apply blD | refine blS ?_ GE511.out) | exact HB.out)) hb); have n2_ := Asd.mk (hbox); have n3_ := Asd.mk ((by rw [hg]; exact (below_size (by repeat (first | (with_reducible first | exact HB.out | apply blA | apply pbN | apply blD | refine blS ?_ GE511.out) | exact HB.out))) : w.heap.size ≤ gb528)); have n4_ := Asd.mk ((by rw [hg]; exact (below_size (by repeat (first | (with_reducible first | exact HB.out | apply blA | apply pbN | apply blD | refine blS ?_ GE511.out) | exact HB.out))) : w.heap.size ≤ gb528)); have n5_ := Asd.mk ((by rw [hg]; exact Nat.ne_of_lt (blk_lt (g := gb511) (o := .cells #[.int .i64 a0_0, .int .i64 a0_1, .int .i64 a0_2, .string a0_3, .int .i64 a0_4, .int .i64 a0_5, .int .i64 a0_6, .string a0_7, .slice A0_8 l0_8.length c0_8] 26 (0, 0)) (by (with_reducible repeat (first | refine bkN ?_ _ | refine bkD ?_ | refine bkA ?_ _)); exact BK511.out)) : gb511 ≠ gb528)); have n6_ := Asd.mk ((by rw [hg]; exact Nat.ne_of_gt (blk_lt (g := gb511) (o := .cells #[.int .i64 a0_0, .int .i64 a0_1, .int .i64 a0_2, .string a0_3, .int .i64 a0_4, .int .i64 a0_5, .int .i64 a0_6, .string a0_7, .slice A0_8 l0_8.length c0_8] 26 (0, 0)) (by (with_reducible repeat (first | refine bkN ?_ _ | refine bkD ?_ | refine bkA ?_ _)); exact BK511.out)) : gb528 ≠ gb511)); clear BK511; clear HB; have BK511 := n0_; have HB := n1_; have BK528 := n2_; have GW528 := n3_; have GE528 := n4_; have NB511_528 := n5_; have NB528_511 := n6_; clear n0_ n1_ n2_ n3_ n4_ n5_ n6_; clear hb hbox hg; have hnb53 := NB528_511.out; have hnc53 := NB511_528.out; have hcz54_0 : w52.cell? ⟨gb528, 0, none⟩ = some (.int .i64 0) := (bkC BK528.out 0).trans rfl; have hcz54_1 : w52.cell? ⟨gb528, 1, none⟩ = some (.int .i64 0) := (bkC BK528.out 1).trans rfl; have hcz54_2 : w52.cell? ⟨gb528, 2, none⟩ = some (.string (⟨#[]⟩ : ByteArray)) := (bkC BK528.out 2).trans rfl; have hfz54_0 := bkF BK528.out 0; have hfz54_1 := bkF BK528.out 1; have hfz54_2 := bkF BK528.out 2) | (go_at_call 22; (with_reducible refine (value_Right.calls t524 t525 t526 true _ A31.out).mono ?_); rintro e w55 ⟨rfl, hb⟩; have n0_ := Asd.mk (blk_below (g := gb511) (o := .cells #[.int .i64 a0_0, .int .i64 a0_1, .int .i64 a0_2, .string a0_3, .int .i64 a0_4, .int .i64 a0_5, .int .i64 a0_6, .string a0_7, .slice A0_8 l0_8.length c0_8] 26 (0, 0)) (by (with_reducible repeat (first | refine bkN ?_ _ | refine bkD ?_ | refine bkA ?_ _)); refine blk_far ?_ NB511_528.out _; (with_reducible repeat (first | refine bkN ?_ _ | refine bkD ?_ | refine bkA ?_ _)); refine blk_far ?_ NB511_528.out _; (with_reducible repeat (first | refine bkN ?_ _ | refine bkD ?_ | refine bkA ?_ _)); refine blk_far ?_ NB511_528.out _; (with_reducible repeat (first | refine bkN ?_ _ | refine bkD ?_ | refine bkA ?_ _)); exact BK511.out) hb); have n1_ := Asd.mk (blk_below (g := gb528) (o := .cells #[.int .i64 t524, .int .i64 t525, .string t526] 23 (0, 0)) (by (with_reducible repeat (first | refine bkN ?_ _ | refine bkD ?_ | refine bkA ?_ _)); refine blk_put (cs := #[.int .i64 t524, .int .i64 t525, .string (⟨#[]⟩ : ByteArray)]) ?_ 2 _ rfl; (with_reducible repeat (first | refine bkN ?_ _ | refine bkD ?_ | refine bkA ?_ _)); refine blk_put (cs := #[.int .i64 t524, .int .i64 0, .string (⟨#[]⟩ : ByteArray)]) ?_ 1 _ rfl; (with_reducible repeat (first | refine bkN ?_ _ | refine bkD ?_ | refine bkA ?_ _)); refine blk_put (cs := #[.int .i64 0, .int .i64 0, .string (⟨#[]⟩ : ByteArray)]) ?_ 0 _ rfl; (with_reducible repeat (first | refine bkN ?_ _ | refine bkD ?_ | refine bkA ?_ _)); exact BK528.out) hb); have n2_ := Asd.mk (below_step (by repeat (first | (with_reducible first | exact HB.out | apply blA | apply pbN | apply blD | refine blS ?_ GE511.out | refine blS ?_ GE528.out) | exact HB.out)) hb); clear BK511; clear BK528; clear HB; have BK511 := n0_; have BK528 := n1_; have HB := n2_; clear n0_ n1_ n2_; (try clear hb); (try clear hb2); (try clear hk); (try clear hi); have hcz56_0 : w55.cell? ⟨gb528, 0, none⟩ = some (.int .i64 t524) := (bkC BK528.out 0).trans rfl; have hcz56_1 : w55.cell? ⟨gb528, 1, none⟩ = some (.int .i64 t525) := (bkC BK528.out 1).trans rfl; have hcz56_2 : w55.cell? ⟨gb528, 2, none⟩ = some (.string t526) := (bkC BK528.out 2).trans rfl; have hfz56_0 := bkF BK528.out 0; have hfz56_1 := bkF BK528.out 1; have hfz56_2 := bkF BK528.out 2))
             go_ret
             exact ⟨by first | rfl | (simp [errW_none, errW_some] <;> rfl) | (simp [*, errW_none, errW_some] <;> rfl), by repeat (first | (with_reducible first | exact HB.out | apply blA | apply pbN | apply blD | refine blS ?_ GE511.out | refine blS ?_ GE528.out) | exact HB.out)⟩
            ·rw [if_neg c49] at H
             have c49b0 : (t521 == 0) = false := beq_eq_false_iff_ne.mpr c49
             have c49b1 : (t521 != 0) = true := bne_iff_ne.mpr c49
             obtain rfl := Option.some.inj H
             have hcz57_0 : wc.cell? ⟨gb511, 0, none⟩ = some (.int .i64 a0_0) := (bkC BK511.out 0).trans rfl
             have hcz57_1 : wc.cell? ⟨gb511, 1, none⟩ = some (.int .i64 a0_1) := (bkC BK511.out 1).trans rfl
             have hcz57_2 : wc.cell? ⟨gb511, 2, none⟩ = some (.int .i64 a0_2) := (bkC BK511.out 2).trans rfl
             have hcz57_3 : wc.cell? ⟨gb511, 3, none⟩ = some (.string a0_3) := (bkC BK511.out 3).trans rfl
             have hcz57_4 : wc.cell? ⟨gb511, 4, none⟩ = some (.int .i64 a0_4) := (bkC BK511.out 4).trans rfl
             have hcz57_5 : wc.cell? ⟨gb511, 5, none⟩ = some (.int .i64 a0_5) := (bkC BK511.out 5).trans rfl
             have hcz57_6 : wc.cell? ⟨gb511, 6, none⟩ = some (.int .i64 a0_6) := (bkC BK511.out 6).trans rfl
             have hcz57_7 : wc.cell? ⟨gb511, 7, none⟩ = some (.string a0_7) := (bkC BK511.out 7).trans rfl
             have hcz57_8 : wc.cell? ⟨gb511, 8, none⟩ = some (.slice A0_8 l0_8.length c0_8) := (bkC BK511.out 8).trans rfl
             have hfz57_0 := bkF BK511.out 0
             have hfz57_1 := bkF BK511.out 1
             have hfz57_2 := bkF BK511.out 2
             have hfz57_3 := bkF BK511.out 3
             have hfz57_4 := bkF BK511.out 4
             have hfz57_5 := bkF BK511.out 5
             have hfz57_6 := bkF BK511.out 6
             have hfz57_7 := bkF BK511.out 7
             have hfz57_8 := bkF BK511.out 8
             go_wp2_with (first | ((with_reducible refine gate_callee (f := 14) rfl ?_); refine goesL_ (some 48) rfl rfl Tryd.func14 (by kernel_rfl) rfl #[.agg #[.int .i64 a0_0, .int .i64 a0_1, .int .i64 a0_2, .string a0_3, .int .i64 a0_4, .int .i64 a0_5, .int .i64 a0_6, .string a0_7, .slice A0_8 l0_8.length c0_8], .slice A1 l1.length c1, .slice A2 l2.length c2] rfl (by (try simp only [List.map_toArray, List.map_cons, List.map_nil]); first | done | rfl | (simp only [List.length_drop, List.length_take]; rfl)) ?_; (with_reducible refine (expr_Eval.calls a0_0 a0_1 a0_2 a0_3 a0_4 a0_5 a0_6 a0_7 _ _ l0_8 _ _ l1 _ _ l2 t524 t525 t526 t527 _ ?side1 ?side2 ?side3 ?side4 ?side5 ?side6 A28.out).mono ?_); (case side1 => repeat (first | exact (Kd.C_below HR0_8.out HB.out) | (with_reducible refine Kd.C_alloc ?_ _) | (with_reducible refine Kd.C_drewN ?_ _) | (with_reducible refine Kd.C_drew ?_))); (case side2 => exact HC0_8.out); (case side3 => repeat (first | exact (Kd.C_below HR1.out HB.out) | (with_reducible refine Kd.C_alloc ?_ _) | (with_reducible refine Kd.C_drewN ?_ _) | (with_reducible refine Kd.C_drew ?_))); (case side4 => exact HC1.out); (case side5 => repeat (first | exact (Kd.C_below HR2.out HB.out) | (with_reducible refine Kd.C_alloc ?_ _) | (with_reducible refine Kd.C_drewN ?_ _) | (with_reducible refine Kd.C_drew ?_))); (case side6 => exact HC2.out); rintro e w58 ⟨rfl, hb⟩; refine ⟨_, rfl, ?_⟩; have n0_ := Asd.mk (blk_below (g := gb511) (o := .cells #[.int .i64 a0_0, .int .i64 a0_1, .int .i64 a0_2, .string a0_3, .int .i64 a0_4, .int .i64 a0_5, .int .i64 a0_6, .string a0_7, .slice A0_8 l0_8.length c0_8] 26 (0, 0)) (by (with_reducible repeat (first | refine bkN ?_ _ | refine bkD ?_ | refine bkA ?_ _)); exact BK511.out) hb); have n1_ := Asd.mk (below_step (by repeat (first | (with_reducible first | exact HB.out | apply blA | apply pbN | apply blD | refine blS ?_ GE511.out) | exact HB.out)) hb); clear BK511; clear HB; have BK511 := n0_; have HB := n1_; clear n0_ n1_; (try clear hb); (try clear hb2); (try clear hk); (try clear hi)) | ((with_reducible refine gate_dst (N := 11) rfl ?_); refine box_event ?hg (N := 11) ?hd (cs := #[.int .i64 0, .int .i64 0, .string (⟨#[]⟩ : ByteArray)]) (t := 23) ?hr ?_; (case hd => rfl); (case hg => rfl); (case hr => first | (go_simp; done) | (go_simp; rfl)); intro gb528 hg w59 hbox hb; have n0_ := Asd.mk (blk_below (g := gb511) (o := .cells #[.int .i64 a0_0, .int .i64 a0_1, .int .i64 a0_2, .string a0_3, .int .i64 a0_4, .int .i64 a0_5, .int .i64 a0_6, .string a0_7, .slice A0_8 l0_8.length c0_8] 26 (0, 0)) (by (with_reducible repeat (first | refine bkN ?_ _ | refine bkD ?_ | refine bkA ?_ _)); exact BK511.out) hb); have n1_ := Asd.mk (below_step (by repeat (first | (with_reducible first | exact HB.out | apply blA | apply pbN | apply blD | refine blS ?_ GE511.out) | exact HB.out)) hb); have n2_ := Asd.mk (hbox); have n3_ := Asd.mk ((by rw [hg]; exact (below_size (by repeat (first | (with_reducible first | exact HB.out | apply blA | apply pbN | apply blD | refine blS ?_ GE511.out) | exact HB.out))) : w.heap.size ≤ gb528)); have n4_ := Asd.mk ((by rw [hg]; exact (below_size (by repeat (first | (with_reducible first | exact HB.out | apply blA | apply pbN | apply blD | refine blS ?_ GE511.out) | exact HB.out))) : w.heap.size ≤ gb528)); have n5_ := Asd.mk ((by rw [hg]; exact Nat.ne_of_lt (blk_lt (g := gb511) (o := .cells #[.int .i64 a0_0, .int .i64 a0_1, .int .i64 a0_2, .string a0_3, .int .i64 a0_4, .int .i64 a0_5, .int .i64 a0_6, .string a0_7, .slice A0_8 l0_8.length c0_8] 26 (0, 0)) (by (with_reducible repeat (first | refine bkN ?_ _ | refine bkD ?_ | refine bkA ?_ _)); exact BK511.out)) : gb511 ≠ gb528)); have n6_ := Asd.mk ((by rw [hg]; exact Nat.ne_of_gt (blk_lt (g := gb511) (o := .cells #[.int .i64 a0_0, .int .i64 a0_1, .int .i64 a0_2, .string a0_3, .int .i64 a0_4, .int .i64 a0_5, .int .i64 a0_6, .string a0_7, .slice A0_8 l0_8.length c0_8] 26 (0, 0)) (by (with_reducible repeat (first | refine bkN ?_ _ | refine bkD ?_ | refine bkA ?_ _)); exact BK511.out)) : gb528 ≠ gb511)); clear BK511; clear HB; have BK511 := n0_; have HB := n1_; have BK528 := n2_; have GW528 := n3_; have GE528 := n4_; have NB511_528 := n5_; have NB528_511 := n6_; clear n0_ n1_ n2_ n3_ n4_ n5_ n6_; clear hb hbox hg; have hnb60 := NB528_511.out; have hnc60 := NB511_528.out; have hcz61_0 : w59.cell? ⟨gb528, 0, none⟩ = some (.int .i64 0) := (bkC BK528.out 0).trans rfl; have hcz61_1 : w59.cell? ⟨gb528, 1, none⟩ = some (.int .i64 0) := (bkC BK528.out 1).trans rfl; have hcz61_2 : w59.cell? ⟨gb528, 2, none⟩ = some (.string (⟨#[]⟩ : ByteArray)) := (bkC BK528.out 2).trans rfl; have hfz61_0 := bkF BK528.out 0; have hfz61_1 := bkF BK528.out 1; have hfz61_2 := bkF BK528.out 2) | (go_at_call 22; (with_reducible refine (value_Right.calls t524 t525 t526 true _ A31.out).mono ?_); rintro e w62 ⟨rfl, hb⟩; have n0_ := Asd.mk (blk_below (g := gb511) (o := .cells #[.int .i64 a0_0, .int .i64 a0_1, .int .i64 a0_2, .string a0_3, .int .i64 a0_4, .int .i64 a0_5, .int .i64 a0_6, .string a0_7, .slice A0_8 l0_8.length c0_8] 26 (0, 0)) (by (with_reducible repeat (first | refine bkN ?_ _ | refine bkD ?_ | refine bkA ?_ _)); refine blk_far ?_ NB511_528.out _; (with_reducible repeat (first | refine bkN ?_ _ | refine bkD ?_ | refine bkA ?_ _)); refine blk_far ?_ NB511_528.out _; (with_reducible repeat (first | refine bkN ?_ _ | refine bkD ?_ | refine bkA ?_ _)); refine blk_far ?_ NB511_528.out _; (with_reducible repeat (first | refine bkN ?_ _ | refine bkD ?_ | refine bkA ?_ _)); exact BK511.out) hb); have n1_ := Asd.mk (blk_below (g := gb528) (o := .cells #[.int .i64 t524, .int .i64 t525, .string t526] 23 (0, 0)) (by (with_reducible repeat (first | refine bkN ?_ _ | refine bkD ?_ | refine bkA ?_ _)); refine blk_put (cs := #[.int .i64 t524, .int .i64 t525, .string (⟨#[]⟩ : ByteArray)]) ?_ 2 _ rfl; (with_reducible repeat (first | refine bkN ?_ _ | refine bkD ?_ | refine bkA ?_ _)); refine blk_put (cs := #[.int .i64 t524, .int .i64 0, .string (⟨#[]⟩ : ByteArray)]) ?_ 1 _ rfl; (with_reducible repeat (first | refine bkN ?_ _ | refine bkD ?_ | refine bkA ?_ _)); refine blk_put (cs := #[.int .i64 0, .int .i64 0, .string (⟨#[]⟩ : ByteArray)]) ?_ 0 _ rfl; (with_reducible repeat (first | refine bkN ?_ _ | refine bkD ?_ | refine bkA ?_ _)); exact BK528.out) hb); have n2_ := Asd.mk (below_step (by repeat (first | (with_reducible first | exact HB.out | apply blA | apply pbN | apply blD | refine blS ?_ GE511.out | refine blS ?_ GE528.out) | exact HB.out)) hb); clear BK511; clear BK528; clear HB; have BK511 := n0_; have BK528 := n1_; have HB := n2_; clear n0_ n1_ n2_; (try clear hb); (try clear hb2); (try clear hk); (try clear hi); have hcz63_0 : w62.cell? ⟨gb528, 0, none⟩ = some (.int .i64 t524) := (bkC BK528.out 0).trans rfl; have hcz63_1 : w62.cell? ⟨gb528, 1, none⟩ = some (.int .i64 t525) := (bkC BK528.out 1).trans rfl; have hcz63_2 : w62.cell? ⟨gb528, 2, none⟩ = some (.string t526) := (bkC BK528.out 2).trans rfl; have hfz63_0 := bkF BK528.out 0; have hfz63_1 := bkF BK528.out 1; have hfz63_2 := bkF BK528.out 2))
             go_ret
             exact ⟨by first | rfl | (simp [errW_none, errW_some] <;> rfl) | (simp [*, errW_none, errW_some] <;> rfl), by repeat (first | (with_reducible first | exact HB.out | apply blA | apply pbN | apply blD | refine blS ?_ GE511.out | refine blS ?_ GE528.out) | exact HB.out)⟩
         ·replace c32 := Bool.eq_false_iff.mpr c32
          subst c32
          have H1 : (some false) = some r := by rw [if_neg (show ¬ (false = true) by decide)] at H; exact H
          clear H
          have H := H1
          clear H1
          obtain rfl := Option.some.inj H
          have hcz64_0 : wc.cell? ⟨gb511, 0, none⟩ = some (.int .i64 a0_0) := (bkC BK511.out 0).trans rfl
          have hcz64_1 : wc.cell? ⟨gb511, 1, none⟩ = some (.int .i64 a0_1) := (bkC BK511.out 1).trans rfl
          have hcz64_2 : wc.cell? ⟨gb511, 2, none⟩ = some (.int .i64 a0_2) := (bkC BK511.out 2).trans rfl
          have hcz64_3 : wc.cell? ⟨gb511, 3, none⟩ = some (.string a0_3) := (bkC BK511.out 3).trans rfl
          have hcz64_4 : wc.cell? ⟨gb511, 4, none⟩ = some (.int .i64 a0_4) := (bkC BK511.out 4).trans rfl
          have hcz64_5 : wc.cell? ⟨gb511, 5, none⟩ = some (.int .i64 a0_5) := (bkC BK511.out 5).trans rfl
          have hcz64_6 : wc.cell? ⟨gb511, 6, none⟩ = some (.int .i64 a0_6) := (bkC BK511.out 6).trans rfl
          have hcz64_7 : wc.cell? ⟨gb511, 7, none⟩ = some (.string a0_7) := (bkC BK511.out 7).trans rfl
          have hcz64_8 : wc.cell? ⟨gb511, 8, none⟩ = some (.slice A0_8 l0_8.length c0_8) := (bkC BK511.out 8).trans rfl
          have hfz64_0 := bkF BK511.out 0
          have hfz64_1 := bkF BK511.out 1
          have hfz64_2 := bkF BK511.out 2
          have hfz64_3 := bkF BK511.out 3
          have hfz64_4 := bkF BK511.out 4
          have hfz64_5 := bkF BK511.out 5
          have hfz64_6 := bkF BK511.out 6
          have hfz64_7 := bkF BK511.out 7
          have hfz64_8 := bkF BK511.out 8
          go_wp2_with (first | ((with_reducible refine gate_callee (f := 14) rfl ?_); refine goesL_ (some 48) rfl rfl Tryd.func14 (by kernel_rfl) rfl #[.agg #[.int .i64 a0_0, .int .i64 a0_1, .int .i64 a0_2, .string a0_3, .int .i64 a0_4, .int .i64 a0_5, .int .i64 a0_6, .string a0_7, .slice A0_8 l0_8.length c0_8], .slice A1 l1.length c1, .slice A2 l2.length c2] rfl (by (try simp only [List.map_toArray, List.map_cons, List.map_nil]); first | done | rfl | (simp only [List.length_drop, List.length_take]; rfl)) ?_; (with_reducible refine (expr_Eval.calls a0_0 a0_1 a0_2 a0_3 a0_4 a0_5 a0_6 a0_7 _ _ l0_8 _ _ l1 _ _ l2 t524 t525 t526 t527 _ ?side1 ?side2 ?side3 ?side4 ?side5 ?side6 A28.out).mono ?_); (case side1 => repeat (first | exact (Kd.C_below HR0_8.out HB.out) | (with_reducible refine Kd.C_alloc ?_ _) | (with_reducible refine Kd.C_drewN ?_ _) | (with_reducible refine Kd.C_drew ?_))); (case side2 => exact HC0_8.out); (case side3 => repeat (first | exact (Kd.C_below HR1.out HB.out) | (with_reducible refine Kd.C_alloc ?_ _) | (with_reducible refine Kd.C_drewN ?_ _) | (with_reducible refine Kd.C_drew ?_))); (case side4 => exact HC1.out); (case side5 => repeat (first | exact (Kd.C_below HR2.out HB.out) | (with_reducible refine Kd.C_alloc ?_ _) | (with_reducible refine Kd.C_drewN ?_ _) | (with_reducible refine Kd.C_drew ?_))); (case side6 => exact HC2.out); rintro e w65 ⟨rfl, hb⟩; refine ⟨_, rfl, ?_⟩; have n0_ := Asd.mk (blk_below (g := gb511) (o := .cells #[.int .i64 a0_0, .int .i64 a0_1, .int .i64 a0_2, .string a0_3, .int .i64 a0_4, .int .i64 a0_5, .int .i64 a0_6, .string a0_7, .slice A0_8 l0_8.length c0_8] 26 (0, 0)) (by (with_reducible repeat (first | refine bkN ?_ _ | refine bkD ?_ | refine bkA ?_ _)); exact BK511.out) hb); have n1_ := Asd.mk (below_step (by repeat (first | (with_reducible first | exact HB.out | apply blA | apply pbN | apply blD | refine blS ?_ GE511.out) | exact HB.out)) hb); clear BK511; clear HB; have BK511 := n0_; have HB := n1_; clear n0_ n1_; (try clear hb); (try clear hb2); (try clear hk); (try clear hi)) | ((with_reducible refine gate_dst (N := 11) rfl ?_); refine box_event ?hg (N := 11) ?hd (cs := #[.int .i64 0, .int .i64 0, .string (⟨#[]⟩ : ByteArray)]) (t := 23) ?hr ?_; (case hd => rfl); (case hg => rfl); (case hr => first | (go_simp; done) | (go_simp; rfl)); intro gb528 hg w66 hbox hb; have n0_ := Asd.mk (blk_below (g := gb511) (o := .cells #[.int .i64 a0_0, .int .i64 a0_1, .int .i64 a0_2, .string a0_3, .int .i64 a0_4, .int .i64 a0_5, .int .i64 a0_6, .string a0_7, .slice A0_8 l0_8.length c0_8] 26 (0, 0)) (by (with_reducible repeat (first | refine bkN ?_ _ | refine bkD ?_ | refine bkA ?_ _)); exact BK511.out) hb); have n1_ := Asd.mk (below_step (by repeat (first | (with_reducible first | exact HB.out | apply blA | apply pbN | apply blD | refine blS ?_ GE511.out) | exact HB.out)) hb); have n2_ := Asd.mk (hbox); have n3_ := Asd.mk ((by rw [hg]; exact (below_size (by repeat (first | (with_reducible first | exact HB.out | apply blA | apply pbN | apply blD | refine blS ?_ GE511.out) | exact HB.out))) : w.heap.size ≤ gb528)); have n4_ := Asd.mk ((by rw [hg]; exact (below_size (by repeat (first | (with_reducible first | exact HB.out | apply blA | apply pbN | apply blD | refine blS ?_ GE511.out) | exact HB.out))) : w.heap.size ≤ gb528)); have n5_ := Asd.mk ((by rw [hg]; exact Nat.ne_of_lt (blk_lt (g := gb511) (o := .cells #[.int .i64 a0_0, .int .i64 a0_1, .int .i64 a0_2, .string a0_3, .int .i64 a0_4, .int .i64 a0_5, .int .i64 a0_6, .string a0_7, .slice A0_8 l0_8.length c0_8] 26 (0, 0)) (by (with_reducible repeat (first | refine bkN ?_ _ | refine bkD ?_ | refine bkA ?_ _)); exact BK511.out)) : gb511 ≠ gb528)); have n6_ := Asd.mk ((by rw [hg]; exact Nat.ne_of_gt (blk_lt (g := gb511) (o := .cells #[.int .i64 a0_0, .int .i64 a0_1, .int .i64 a0_2, .string a0_3, .int .i64 a0_4, .int .i64 a0_5, .int .i64 a0_6, .string a0_7, .slice A0_8 l0_8.length c0_8] 26 (0, 0)) (by (with_reducible repeat (first | refine bkN ?_ _ | refine bkD ?_ | refine bkA ?_ _)); exact BK511.out)) : gb528 ≠ gb511)); clear BK511; clear HB; have BK511 := n0_; have HB := n1_; have BK528 := n2_; have GW528 := n3_; have GE528 := n4_; have NB511_528 := n5_; have NB528_511 := n6_; clear n0_ n1_ n2_ n3_ n4_ n5_ n6_; clear hb hbox hg; have hnb67 := NB528_511.out; have hnc67 := NB511_528.out; have hcz68_0 : w66.cell? ⟨gb528, 0, none⟩ = some (.int .i64 0) := (bkC BK528.out 0).trans rfl; have hcz68_1 : w66.cell? ⟨gb528, 1, none⟩ = some (.int .i64 0) := (bkC BK528.out 1).trans rfl; have hcz68_2 : w66.cell? ⟨gb528, 2, none⟩ = some (.string (⟨#[]⟩ : ByteArray)) := (bkC BK528.out 2).trans rfl; have hfz68_0 := bkF BK528.out 0; have hfz68_1 := bkF BK528.out 1; have hfz68_2 := bkF BK528.out 2) | (go_at_call 22; (with_reducible refine (value_Right.calls t524 t525 t526 false _ A31.out).mono ?_); rintro e w69 ⟨rfl, hb⟩; have n0_ := Asd.mk (blk_below (g := gb511) (o := .cells #[.int .i64 a0_0, .int .i64 a0_1, .int .i64 a0_2, .string a0_3, .int .i64 a0_4, .int .i64 a0_5, .int .i64 a0_6, .string a0_7, .slice A0_8 l0_8.length c0_8] 26 (0, 0)) (by (with_reducible repeat (first | refine bkN ?_ _ | refine bkD ?_ | refine bkA ?_ _)); refine blk_far ?_ NB511_528.out _; (with_reducible repeat (first | refine bkN ?_ _ | refine bkD ?_ | refine bkA ?_ _)); refine blk_far ?_ NB511_528.out _; (with_reducible repeat (first | refine bkN ?_ _ | refine bkD ?_ | refine bkA ?_ _)); refine blk_far ?_ NB511_528.out _; (with_reducible repeat (first | refine bkN ?_ _ | refine bkD ?_ | refine bkA ?_ _)); exact BK511.out) hb); have n1_ := Asd.mk (blk_below (g := gb528) (o := .cells #[.int .i64 t524, .int .i64 t525, .string t526] 23 (0, 0)) (by (with_reducible repeat (first | refine bkN ?_ _ | refine bkD ?_ | refine bkA ?_ _)); refine blk_put (cs := #[.int .i64 t524, .int .i64 t525, .string (⟨#[]⟩ : ByteArray)]) ?_ 2 _ rfl; (with_reducible repeat (first | refine bkN ?_ _ | refine bkD ?_ | refine bkA ?_ _)); refine blk_put (cs := #[.int .i64 t524, .int .i64 0, .string (⟨#[]⟩ : ByteArray)]) ?_ 1 _ rfl; (with_reducible repeat (first | refine bkN ?_ _ | refine bkD ?_ | refine bkA ?_ _)); refine blk_put (cs := #[.int .i64 0, .int .i64 0, .string (⟨#[]⟩ : ByteArray)]) ?_ 0 _ rfl; (with_reducible repeat (first | refine bkN ?_ _ | refine bkD ?_ | refine bkA ?_ _)); exact BK528.out) hb); have n2_ := Asd.mk (below_step (by repeat (first | (with_reducible first | exact HB.out | apply blA | apply pbN | apply blD | refine blS ?_ GE511.out | refine blS ?_ GE528.out) | exact HB.out)) hb); clear BK511; clear BK528; clear HB; have BK511 := n0_; have BK528 := n1_; have HB := n2_; clear n0_ n1_ n2_; (try clear hb); (try clear hb2); (try clear hk); (try clear hi)))
          go_ret
          exact ⟨by first | rfl | (simp [errW_none, errW_some] <;> rfl) | (simp [*, errW_none, errW_some] <;> rfl), by repeat (first | (with_reducible first | exact HB.out | apply blA | apply pbN | apply blD | refine blS ?_ GE511.out | refine blS ?_ GE528.out) | exact HB.out)⟩
        ·replace c30 := Bool.eq_false_iff.mpr c30
         subst c30
         have H1 : (some false) = some r := by rw [if_neg (show ¬ (false = true) by decide)] at H; exact H
         clear H
         have H := H1
         clear H1
         obtain rfl := Option.some.inj H
         have hcz70_0 : wc.cell? ⟨gb511, 0, none⟩ = some (.int .i64 a0_0) := (bkC BK511.out 0).trans rfl
         have hcz70_1 : wc.cell? ⟨gb511, 1, none⟩ = some (.int .i64 a0_1) := (bkC BK511.out 1).trans rfl
         have hcz70_2 : wc.cell? ⟨gb511, 2, none⟩ = some (.int .i64 a0_2) := (bkC BK511.out 2).trans rfl
         have hcz70_3 : wc.cell? ⟨gb511, 3, none⟩ = some (.string a0_3) := (bkC BK511.out 3).trans rfl
         have hcz70_4 : wc.cell? ⟨gb511, 4, none⟩ = some (.int .i64 a0_4) := (bkC BK511.out 4).trans rfl
         have hcz70_5 : wc.cell? ⟨gb511, 5, none⟩ = some (.int .i64 a0_5) := (bkC BK511.out 5).trans rfl
         have hcz70_6 : wc.cell? ⟨gb511, 6, none⟩ = some (.int .i64 a0_6) := (bkC BK511.out 6).trans rfl
         have hcz70_7 : wc.cell? ⟨gb511, 7, none⟩ = some (.string a0_7) := (bkC BK511.out 7).trans rfl
         have hcz70_8 : wc.cell? ⟨gb511, 8, none⟩ = some (.slice A0_8 l0_8.length c0_8) := (bkC BK511.out 8).trans rfl
         have hfz70_0 := bkF BK511.out 0
         have hfz70_1 := bkF BK511.out 1
         have hfz70_2 := bkF BK511.out 2
         have hfz70_3 := bkF BK511.out 3
         have hfz70_4 := bkF BK511.out 4
         have hfz70_5 := bkF BK511.out 5
         have hfz70_6 := bkF BK511.out 6
         have hfz70_7 := bkF BK511.out 7
         have hfz70_8 := bkF BK511.out 8
         go_wp2_with (first | ((with_reducible refine gate_callee (f := 14) rfl ?_); refine goesL_ (some 48) rfl rfl Tryd.func14 (by kernel_rfl) rfl #[.agg #[.int .i64 a0_0, .int .i64 a0_1, .int .i64 a0_2, .string a0_3, .int .i64 a0_4, .int .i64 a0_5, .int .i64 a0_6, .string a0_7, .slice A0_8 l0_8.length c0_8], .slice A1 l1.length c1, .slice A2 l2.length c2] rfl (by (try simp only [List.map_toArray, List.map_cons, List.map_nil]); first | done | rfl | (simp only [List.length_drop, List.length_take]; rfl)) ?_; (with_reducible refine (expr_Eval.calls a0_0 a0_1 a0_2 a0_3 a0_4 a0_5 a0_6 a0_7 _ _ l0_8 _ _ l1 _ _ l2 t524 t525 t526 t527 _ ?side1 ?side2 ?side3 ?side4 ?side5 ?side6 A28.out).mono ?_); (case side1 => repeat (first | exact (Kd.C_below HR0_8.out HB.out) | (with_reducible refine Kd.C_alloc ?_ _) | (with_reducible refine Kd.C_drewN ?_ _) | (with_reducible refine Kd.C_drew ?_))); (case side2 => exact HC0_8.out); (case side3 => repeat (first | exact (Kd.C_below HR1.out HB.out) | (with_reducible refine Kd.C_alloc ?_ _) | (with_reducible refine Kd.C_drewN ?_ _) | (with_reducible refine Kd.C_drew ?_))); (case side4 => exact HC1.out); (case side5 => repeat (first | exact (Kd.C_below HR2.out HB.out) | (with_reducible refine Kd.C_alloc ?_ _) | (with_reducible refine Kd.C_drewN ?_ _) | (with_reducible refine Kd.C_drew ?_))); (case side6 => exact HC2.out); rintro e w71 ⟨rfl, hb⟩; refine ⟨_, rfl, ?_⟩; have n0_ := Asd.mk (blk_below (g := gb511) (o := .cells #[.int .i64 a0_0, .int .i64 a0_1, .int .i64 a0_2, .string a0_3, .int .i64 a0_4, .int .i64 a0_5, .int .i64 a0_6, .string a0_7, .slice A0_8 l0_8.length c0_8] 26 (0, 0)) (by (with_reducible repeat (first | refine bkN ?_ _ | refine bkD ?_ | refine bkA ?_ _)); exact BK511.out) hb); have n1_ := Asd.mk (below_step (by repeat (first | (with_reducible first | exact HB.out | apply blA | apply pbN | apply blD | refine blS ?_ GE511.out) | exact HB.out)) hb); clear BK511; clear HB; have BK511 := n0_; have HB := n1_; clear n0_ n1_; (try clear hb); (try clear hb2); (try clear hk); (try clear hi)) | ((with_reducible refine gate_dst (N := 11) rfl ?_); refine box_event ?hg (N := 11) ?hd (cs := #[.int .i64 0, .int .i64 0, .string (⟨#[]⟩ : ByteArray)]) (t := 23) ?hr ?_; (case hd => rfl); (case hg => rfl); (case hr => first | (go_simp; done) | (go_simp; rfl)); intro gb528 hg w72 hbox hb; have n0_ := Asd.mk (blk_below (g := gb511) (o := .cells #[.int .i64 a0_0, .int .i64 a0_1, .int .i64 a0_2, .string a0_3, .int .i64 a0_4, .int .i64 a0_5, .int .i64 a0_6, .string a0_7, .slice A0_8 l0_8.length c0_8] 26 (0, 0)) (by (with_reducible repeat (first | refine bkN ?_ _ | refine bkD ?_ | refine bkA ?_ _)); exact BK511.out) hb); have n1_ := Asd.mk (below_step (by repeat (first | (with_reducible first | exact HB.out | apply blA | apply pbN | apply blD | refine blS ?_ GE511.out) | exact HB.out)) hb); have n2_ := Asd.mk (hbox); have n3_ := Asd.mk ((by rw [hg]; exact (below_size (by repeat (first | (with_reducible first | exact HB.out | apply blA | apply pbN | apply blD | refine blS ?_ GE511.out) | exact HB.out))) : w.heap.size ≤ gb528)); have n4_ := Asd.mk ((by rw [hg]; exact (below_size (by repeat (first | (with_reducible first | exact HB.out | apply blA | apply pbN | apply blD | refine blS ?_ GE511.out) | exact HB.out))) : w.heap.size ≤ gb528)); have n5_ := Asd.mk ((by rw [hg]; exact Nat.ne_of_lt (blk_lt (g := gb511) (o := .cells #[.int .i64 a0_0, .int .i64 a0_1, .int .i64 a0_2, .string a0_3, .int .i64 a0_4, .int .i64 a0_5, .int .i64 a0_6, .string a0_7, .slice A0_8 l0_8.length c0_8] 26 (0, 0)) (by (with_reducible repeat (first | refine bkN ?_ _ | refine bkD ?_ | refine bkA ?_ _)); exact BK511.out)) : gb511 ≠ gb528)); have n6_ := Asd.mk ((by rw [hg]; exact Nat.ne_of_gt (blk_lt (g := gb511) (o := .cells #[.int .i64 a0_0, .int .i64 a0_1, .int .i64 a0_2, .string a0_3, .int .i64 a0_4, .int .i64 a0_5, .int .i64 a0_6, .string a0_7, .slice A0_8 l0_8.length c0_8] 26 (0, 0)) (by (with_reducible repeat (first | refine bkN ?_ _ | refine bkD ?_ | refine bkA ?_ _)); exact BK511.out)) : gb528 ≠ gb511)); clear BK511; clear HB; have BK511 := n0_; have HB := n1_; have BK528 := n2_; have GW528 := n3_; have GE528 := n4_; have NB511_528 := n5_; have NB528_511 := n6_; clear n0_ n1_ n2_ n3_ n4_ n5_ n6_; clear hb hbox hg; have hnb73 := NB528_511.out; have hnc73 := NB511_528.out; have hcz74_0 : w72.cell? ⟨gb528, 0, none⟩ = some (.int .i64 0) := (bkC BK528.out 0).trans rfl; have hcz74_1 : w72.cell? ⟨gb528, 1, none⟩ = some (.int .i64 0) := (bkC BK528.out 1).trans rfl; have hcz74_2 : w72.cell? ⟨gb528, 2, none⟩ = some (.string (⟨#[]⟩ : ByteArray)) := (bkC BK528.out 2).trans rfl; have hfz74_0 := bkF BK528.out 0; have hfz74_1 := bkF BK528.out 1; have hfz74_2 := bkF BK528.out 2))
         go_ret
         exact ⟨by first | rfl | (simp [errW_none, errW_some] <;> rfl) | (simp [*, errW_none, errW_some] <;> rfl), by repeat (first | (with_reducible first | exact HB.out | apply blA | apply pbN | apply blD | refine blS ?_ GE511.out | refine blS ?_ GE528.out) | exact HB.out)⟩
       ·rw [if_neg c29] at H
        have c29b0 : (t527 == 0) = false := beq_eq_false_iff_ne.mpr c29
        have c29b1 : (t527 != 0) = true := bne_iff_ne.mpr c29
        by_cases c75 : t512 = true
        ·subst c75
         have H1 : ((expr_Safe.f a0_0 a0_1 a0_2 a0_3 a0_4 a0_5 a0_6 a0_7 l0_8).bind fun t530 => (if t530 = true then (some false) else (if t527 = 3 then (some true) else (some (t527 == 4))))) = some r := by rw [if_pos rfl] at H; exact H
         clear H
         have H := H1
         clear H1
         replace H := Option.bind_eq_some_iff.mp H
         obtain ⟨t530, A760, H⟩ := H
         replace H : (if t530 = true then (some false) else (if t527 = 3 then (some true) else (some (t527 == 4)))) = some r := H
         have A76 := Asd.mk A760
         clear A760
         by_cases c77 : t530 = true
         ·subst c77
          have H1 : (some false) = some r := by rw [if_pos rfl] at H; exact H
          clear H
          have H := H1
          clear H1
          obtain rfl := Option.some.inj H
          have hcz78_0 : wc.cell? ⟨gb511, 0, none⟩ = some (.int .i64 a0_0) := (bkC BK511.out 0).trans rfl
          have hcz78_1 : wc.cell? ⟨gb511, 1, none⟩ = some (.int .i64 a0_1) := (bkC BK511.out 1).trans rfl
          have hcz78_2 : wc.cell? ⟨gb511, 2, none⟩ = some (.int .i64 a0_2) := (bkC BK511.out 2).trans rfl
          have hcz78_3 : wc.cell? ⟨gb511, 3, none⟩ = some (.string a0_3) := (bkC BK511.out 3).trans rfl
          have hcz78_4 : wc.cell? ⟨gb511, 4, none⟩ = some (.int .i64 a0_4) := (bkC BK511.out 4).trans rfl
          have hcz78_5 : wc.cell? ⟨gb511, 5, none⟩ = some (.int .i64 a0_5) := (bkC BK511.out 5).trans rfl
          have hcz78_6 : wc.cell? ⟨gb511, 6, none⟩ = some (.int .i64 a0_6) := (bkC BK511.out 6).trans rfl
          have hcz78_7 : wc.cell? ⟨gb511, 7, none⟩ = some (.string a0_7) := (bkC BK511.out 7).trans rfl
          have hcz78_8 : wc.cell? ⟨gb511, 8, none⟩ = some (.slice A0_8 l0_8.length c0_8) := (bkC BK511.out 8).trans rfl
          have hfz78_0 := bkF BK511.out 0
          have hfz78_1 := bkF BK511.out 1
          have hfz78_2 := bkF BK511.out 2
          have hfz78_3 := bkF BK511.out 3
          have hfz78_4 := bkF BK511.out 4
          have hfz78_5 := bkF BK511.out 5
          have hfz78_6 := bkF BK511.out 6
          have hfz78_7 := bkF BK511.out 7
          have hfz78_8 := bkF BK511.out 8
          go_wp2_with (first | ((with_reducible refine gate_callee (f := 14) rfl ?_); refine goesL_ (some 48) rfl rfl Tryd.func14 (by kernel_rfl) rfl #[.agg #[.int .i64 a0_0, .int .i64 a0_1, .int .i64 a0_2, .string a0_3, .int .i64 a0_4, .int .i64 a0_5, .int .i64 a0_6, .string a0_7, .slice A0_8 l0_8.length c0_8], .slice A1 l1.length c1, .slice A2 l2.length c2] rfl (by (try simp only [List.map_toArray, List.map_cons, List.map_nil]); first | done | rfl | (simp only [List.length_drop, List.length_take]; rfl)) ?_; (with_reducible refine (expr_Eval.calls a0_0 a0_1 a0_2 a0_3 a0_4 a0_5 a0_6 a0_7 _ _ l0_8 _ _ l1 _ _ l2 t524 t525 t526 t527 _ ?side1 ?side2 ?side3 ?side4 ?side5 ?side6 A28.out).mono ?_); (case side1 => repeat (first | exact (Kd.C_below HR0_8.out HB.out) | (with_reducible refine Kd.C_alloc ?_ _) | (with_reducible refine Kd.C_drewN ?_ _) | (with_reducible refine Kd.C_drew ?_))); (case side2 => exact HC0_8.out); (case side3 => repeat (first | exact (Kd.C_below HR1.out HB.out) | (with_reducible refine Kd.C_alloc ?_ _) | (with_reducible refine Kd.C_drewN ?_ _) | (with_reducible refine Kd.C_drew ?_))); (case side4 => exact HC1.out); (case side5 => repeat (first | exact (Kd.C_below HR2.out HB.out) | (with_reducible refine Kd.C_alloc ?_ _) | (with_reducible refine Kd.C_drewN ?_ _) | (with_reducible refine Kd.C_drew ?_))); (case side6 => exact HC2.out); rintro e w79 ⟨rfl, hb⟩; refine ⟨_, rfl, ?_⟩; have n0_ := Asd.mk (blk_below (g := gb511) (o := .cells #[.int .i64 a0_0, .int .i64 a0_1, .int .i64 a0_2, .string a0_3, .int .i64 a0_4, .int .i64 a0_5, .int .i64 a0_6, .string a0_7, .slice A0_8 l0_8.length c0_8] 26 (0, 0)) (by (with_reducible repeat (first | refine bkN ?_ _ | refine bkD ?_ | refine bkA ?_ _)); exact BK511.out) hb); have n1_ := Asd.mk (below_step (by repeat (first | (with_reducible first | exact HB.out | apply blA | apply pbN | apply blD | refine blS ?_ GE511.out) | exact HB.out)) hb); clear BK511; clear HB; have BK511 := n0_; have HB := n1_; clear n0_ n1_; (try clear hb); (try clear hb2); (try clear hk); (try clear hi)) | ((with_reducible refine gate_dst (N := 11) rfl ?_); refine box_event ?hg (N := 11) ?hd (cs := #[.int .i64 0, .int .i64 0, .string (⟨#[]⟩ : ByteArray)]) (t := 23) ?hr ?_; (case hd => rfl); (case hg => rfl); (case hr => first | (go_simp; done) | (go_simp; rfl)); intro gb528 hg w80 hbox hb; have n0_ := Asd.mk (blk_below (g := gb511) (o := .cells #[.int .i64 a0_0, .int .i64 a0_1, .int .i64 a0_2, .string a0_3, .int .i64 a0_4, .int .i64 a0_5, .int .i64 a0_6, .string a0_7, .slice A0_8 l0_8.length c0_8] 26 (0, 0)) (by (with_reducible repeat (first | refine bkN ?_ _ | refine bkD ?_ | refine bkA ?_ _)); exact BK511.out) hb); have n1_ := Asd.mk (below_step (by repeat (first | (with_reducible first | exact HB.out | apply blA | apply pbN | apply blD | refine blS ?_ GE511.out) | exact HB.out)) hb); have n2_ := Asd.mk (hbox); have n3_ := Asd.mk ((by rw [hg]; exact (below_size (by repeat (first | (with_reducible first | exact HB.out | apply blA | apply pbN | apply blD | refine blS ?_ GE511.out) | exact HB.out))) : w.heap.size ≤ gb528)); have n4_ := Asd.mk ((by rw [hg]; exact (below_size (by repeat (first | (with_reducible first | exact HB.out | apply blA | apply pbN | apply blD | refine blS ?_ GE511.out) | exact HB.out))) : w.heap.size ≤ gb528)); have n5_ := Asd.mk ((by rw [hg]; exact Nat.ne_of_lt (blk_lt (g := gb511) (o := .cells #[.int .i64 a0_0, .int .i64 a0_1, .int .i64 a0_2, .string a0_3, .int .i64 a0_4, .int .i64 a0_5, .int .i64 a0_6, .string a0_7, .slice A0_8 l0_8.length c0_8] 26 (0, 0)) (by (with_reducible repeat (first | refine bkN ?_ _ | refine bkD ?_ | refine bkA ?_ _)); exact BK511.out)) : gb511 ≠ gb528)); have n6_ := Asd.mk ((by rw [hg]; exact Nat.ne_of_gt (blk_lt (g := gb511) (o := .cells #[.int .i64 a0_0, .int .i64 a0_1, .int .i64 a0_2, .string a0_3, .int .i64 a0_4, .int .i64 a0_5, .int .i64 a0_6, .string a0_7, .slice A0_8 l0_8.length c0_8] 26 (0, 0)) (by (with_reducible repeat (first | refine bkN ?_ _ | refine bkD ?_ | refine bkA ?_ _)); exact BK511.out)) : gb528 ≠ gb511)); clear BK511; clear HB; have BK511 := n0_; have HB := n1_; have BK528 := n2_; have GW528 := n3_; have GE528 := n4_; have NB511_528 := n5_; have NB528_511 := n6_; clear n0_ n1_ n2_ n3_ n4_ n5_ n6_; clear hb hbox hg; have hnb81 := NB528_511.out; have hnc81 := NB511_528.out; have hcz82_0 : w80.cell? ⟨gb528, 0, none⟩ = some (.int .i64 0) := (bkC BK528.out 0).trans rfl; have hcz82_1 : w80.cell? ⟨gb528, 1, none⟩ = some (.int .i64 0) := (bkC BK528.out 1).trans rfl; have hcz82_2 : w80.cell? ⟨gb528, 2, none⟩ = some (.string (⟨#[]⟩ : ByteArray)) := (bkC BK528.out 2).trans rfl; have hfz82_0 := bkF BK528.out 0; have hfz82_1 := bkF BK528.out 1; have hfz82_2 := bkF BK528.out 2; have hcz83_0 : w80.cell? ⟨gb511, 0, none⟩ = some (.int .i64 a0_0) := (bkC BK511.out 0).trans rfl; have hcz83_1 : w80.cell? ⟨gb511, 1, none⟩ = some (.int .i64 a0_1) := (bkC BK511.out 1).trans rfl; have hcz83_2 : w80.cell? ⟨gb511, 2, none⟩ = some (.int .i64 a0_2) := (bkC BK511.out 2).trans rfl; have hcz83_3 : w80.cell? ⟨gb511, 3, none⟩ = some (.string a0_3) := (bkC BK511.out 3).trans rfl; have hcz83_4 : w80.cell? ⟨gb511, 4, none⟩ = some (.int .i64 a0_4) := (bkC BK511.out 4).trans rfl; have hcz83_5 : w80.cell? ⟨gb511, 5, none⟩ = some (.int .i64 a0_5) := (bkC BK511.out 5).trans rfl; have hcz83_6 : w80.cell? ⟨gb511, 6, none⟩ = some (.int .i64 a0_6) := (bkC BK511.out 6).trans rfl; have hcz83_7 : w80.cell? ⟨gb511, 7, none⟩ = some (.string a0_7) := (bkC BK511.out 7).trans rfl; have hcz83_8 : w80.cell? ⟨gb511, 8, none⟩ = some (.slice A0_8 l0_8.length c0_8) := (bkC BK511.out 8).trans rfl; have hfz83_0 := bkF BK511.out 0; have hfz83_1 := bkF BK511.out 1; have hfz83_2 := bkF BK511.out 2; have hfz83_3 := bkF BK511.out 3; have hfz83_4 := bkF BK511.out 4; have hfz83_5 := bkF BK511.out 5; have hfz83_6 := bkF BK511.out 6; have hfz83_7 := bkF BK511.out 7; have hfz83_8 := bkF BK511.out 8) | (go_at_call 21; (with_reducible refine (expr_Safe.calls a0_0 a0_1 a0_2 a0_3 a0_4 a0_5 a0_6 a0_7 _ _ l0_8 true _ ?side1 ?side2 A76.out).mono ?_); (case side1 => exact Kd.C_below HR0_8.out (by repeat (first | (with_reducible first | exact HB.out | apply blA | apply pbN | apply blD | refine blS ?_ GE511.out | refine blS ?_ GE528.out) | exact HB.out))); (case side2 => exact HC0_8.out); rintro e w84 ⟨rfl, hb⟩; have n0_ := Asd.mk (blk_below (g := gb511) (o := .cells #[.int .i64 a0_0, .int .i64 a0_1, .int .i64 a0_2, .string a0_3, .int .i64 a0_4, .int .i64 a0_5, .int .i64 a0_6, .string a0_7, .slice A0_8 l0_8.length c0_8] 26 (0, 0)) (by (with_reducible repeat (first | refine bkN ?_ _ | refine bkD ?_ | refine bkA ?_ _)); refine blk_far ?_ NB511_528.out _; (with_reducible repeat (first | refine bkN ?_ _ | refine bkD ?_ | refine bkA ?_ _)); refine blk_far ?_ NB511_528.out _; (with_reducible repeat (first | refine bkN ?_ _ | refine bkD ?_ | refine bkA ?_ _)); refine blk_far ?_ NB511_528.out _; (with_reducible repeat (first | refine bkN ?_ _ | refine bkD ?_ | refine bkA ?_ _)); exact BK511.out) hb); have n1_ := Asd.mk (blk_below (g := gb528) (o := .cells #[.int .i64 t524, .int .i64 t525, .string t526] 23 (0, 0)) (by (with_reducible repeat (first | refine bkN ?_ _ | refine bkD ?_ | refine bkA ?_ _)); refine blk_put (cs := #[.int .i64 t524, .int .i64 t525, .string (⟨#[]⟩ : ByteArray)]) ?_ 2 _ rfl; (with_reducible repeat (first | refine bkN ?_ _ | refine bkD ?_ | refine bkA ?_ _)); refine blk_put (cs := #[.int .i64 t524, .int .i64 0, .string (⟨#[]⟩ : ByteArray)]) ?_ 1 _ rfl; (with_reducible repeat (first | refine bkN ?_ _ | refine bkD ?_ | refine bkA ?_ _)); refine blk_put (cs := #[.int .i64 0, .int .i64 0, .string (⟨#[]⟩ : ByteArray)]) ?_ 0 _ rfl; (with_reducible repeat (first | refine bkN ?_ _ | refine bkD ?_ | refine bkA ?_ _)); exact BK528.out) hb); have n2_ := Asd.mk (below_step (by repeat (first | (with_reducible first | exact HB.out | apply blA | apply pbN | apply blD | refine blS ?_ GE511.out | refine blS ?_ GE528.out) | exact HB.out)) hb); clear BK511; clear BK528; clear HB; have BK511 := n0_; have BK528 := n1_; have HB := n2_; clear n0_ n1_ n2_; (try clear hb); (try clear hb2); (try clear hk); (try clear hi)))
          go_ret
          exact ⟨by first | rfl | (simp [errW_none, errW_some] <;> rfl) | (simp [*, errW_none, errW_some] <;> rfl), by repeat (first | (with_reducible first | exact HB.out | apply blA | apply pbN | apply blD | refine blS ?_ GE511.out | refine blS ?_ GE528.out) | exact HB.out)⟩
         ·replace c77 := Bool.eq_false_iff.mpr c77
          subst c77
          have H1 : (if t527 = 3 then (some true) else (some (t527 == 4))) = some r := by rw [if_neg (show ¬ (false = true) by decide)] at H; exact H
          clear H
          have H := H1
          clear H1
          by_cases c85 : t527 = 3
          ·rw [if_pos c85] at H
           have c85b0 : (t527 == 3) = true := beq_iff_eq.mpr c85
           have c85b1 : (t527 != 3) = false := bne_eq_false_iff_eq.mpr c85
           clear c85
           obtain rfl := Option.some.inj H
           have hcz86_0 : wc.cell? ⟨gb511, 0, none⟩ = some (.int .i64 a0_0) := (bkC BK511.out 0).trans rfl
           have hcz86_1 : wc.cell? ⟨gb511, 1, none⟩ = some (.int .i64 a0_1) := (bkC BK511.out 1).trans rfl
           have hcz86_2 : wc.cell? ⟨gb511, 2, none⟩ = some (.int .i64 a0_2) := (bkC BK511.out 2).trans rfl
           have hcz86_3 : wc.cell? ⟨gb511, 3, none⟩ = some (.string a0_3) := (bkC BK511.out 3).trans rfl
           have hcz86_4 : wc.cell? ⟨gb511, 4, none⟩ = some (.int .i64 a0_4) := (bkC BK511.out 4).trans rfl
           have hcz86_5 : wc.cell? ⟨gb511, 5, none⟩ = some (.int .i64 a0_5) := (bkC BK511.out 5).trans rfl
           have hcz86_6 : wc.cell? ⟨gb511, 6, none⟩ = some (.int .i64 a0_6) := (bkC BK511.out 6).trans rfl
           have hcz86_7 : wc.cell? ⟨gb511, 7, none⟩ = some (.string a0_7) := (bkC BK511.out 7).trans rfl
           have hcz86_8 : wc.cell? ⟨gb511, 8, none⟩ = some (.slice A0_8 l0_8.length c0_8) := (bkC BK511.out 8).trans rfl
           have hfz86_0 := bkF BK511.out 0
           have hfz86_1 := bkF BK511.out 1
           have hfz86_2 := bkF BK511.out 2
           have hfz86_3 := bkF BK511.out 3
           have hfz86_4 := bkF BK511.out 4
           have hfz86_5 := bkF BK511.out 5
           have hfz86_6 := bkF BK511.out 6
           have hfz86_7 := bkF BK511.out 7
           have hfz86_8 := bkF BK511.out 8
           go_wp2_with (first | ((with_reducible refine gate_callee (f := 14) rfl ?_); refine goesL_ (some 48) rfl rfl Tryd.func14 (by kernel_rfl) rfl #[.agg #[.int .i64 a0_0, .int .i64 a0_1, .int .i64 a0_2, .string a0_3, .int .i64 a0_4, .int .i64 a0_5, .int .i64 a0_6, .string a0_7, .slice A0_8 l0_8.length c0_8], .slice A1 l1.length c1, .slice A2 l2.length c2] rfl (by (try simp only [List.map_toArray, List.map_cons, List.map_nil]); first | done | rfl | (simp only [List.length_drop, List.length_take]; rfl)) ?_; (with_reducible refine (expr_Eval.calls a0_0 a0_1 a0_2 a0_3 a0_4 a0_5 a0_6 a0_7 _ _ l0_8 _ _ l1 _ _ l2 t524 t525 t526 t527 _ ?side1 ?side2 ?side3 ?side4 ?side5 ?side6 A28.out).mono ?_); (case side1 => repeat (first | exact (Kd.C_below HR0_8.out HB.out) | (with_reducible refine Kd.C_alloc ?_ _) | (with_reducible refine Kd.C_drewN ?_ _) | (with_reducible refine Kd.C_drew ?_))); (case side2 => exact HC0_8.out); (case side3 => repeat (first | exact (Kd.C_below HR1.out HB.out) | (with_reducible refine Kd.C_alloc ?_ _) | (with_reducible refine Kd.C_drewN ?_ _) | (with_reducible refine Kd.C_drew ?_))); (case side4 => exact HC1.out); (case side5 => repeat (first | exact (Kd.C_below HR2.out HB.out) | (with_reducible refine Kd.C_alloc ?_ _) | (with_reducible refine Kd.C_drewN ?_ _) | (with_reducible refine Kd.C_drew ?_))); (case side6 => exact HC2.out); rintro e w87 ⟨rfl, hb⟩; refine ⟨_, rfl, ?_⟩; have n0_ := Asd.mk (blk_below (g := gb511) (o := .cells #[.int .i64 a0_0, .int .i64 a0_1, .int .i64 a0_2, .string a0_3, .int .i64 a0_4, .int .i64 a0_5, .int .i64 a0_6, .string a0_7, .slice A0_8 l0_8.length c0_8] 26 (0, 0)) (by (with_reducible repeat (first | refine bkN ?_ _ | refine bkD ?_ | refine bkA ?_ _)); exact BK511.out) hb); have n1_ := Asd.mk (below_step (by repeat (first | (with_reducible first | exact HB.out | apply blA | apply pbN | apply blD | refine blS ?_ GE511.out) | exact HB.out)) hb); clear BK511; clear HB; have BK511 := n0_; have HB := n1_; clear n0_ n1_; (try clear hb); (try clear hb2); (try clear hk); (try clear hi)) | ((with_reducible refine gate_dst (N := 11) rfl ?_); refine box_event ?hg (N := 11) ?hd (cs := #[.int .i64 0, .int .i64 0, .string (⟨#[]⟩ : ByteArray)]) (t := 23) ?hr ?_; (case hd => rfl); (case hg => rfl); (case hr => first | (go_simp; done) | (go_simp; rfl)); intro gb528 hg w88 hbox hb; have n0_ := Asd.mk (blk_below (g := gb511) (o := .cells #[.int .i64 a0_0, .int .i64 a0_1, .int .i64 a0_2, .string a0_3, .int .i64 a0_4, .int .i64 a0_5, .int .i64 a0_6, .string a0_7, .slice A0_8 l0_8.length c0_8] 26 (0, 0)) (by (with_reducible repeat (first | refine bkN ?_ _ | refine bkD ?_ | refine bkA ?_ _)); exact BK511.out) hb); have n1_ := Asd.mk (below_step (by repeat (first | (with_reducible first | exact HB.out | apply blA | apply pbN | apply blD | refine blS ?_ GE511.out) | exact HB.out)) hb); have n2_ := Asd.mk (hbox); have n3_ := Asd.mk ((by rw [hg]; exact (below_size (by repeat (first | (with_reducible first | exact HB.out | apply blA | apply pbN | apply blD | refine blS ?_ GE511.out) | exact HB.out))) : w.heap.size ≤ gb528)); have n4_ := Asd.mk ((by rw [hg]; exact (below_size (by repeat (first | (with_reducible first | exact HB.out | apply blA | apply pbN | apply blD | refine blS ?_ GE511.out) | exact HB.out))) : w.heap.size ≤ gb528)); have n5_ := Asd.mk ((by rw [hg]; exact Nat.ne_of_lt (blk_lt (g := gb511) (o := .cells #[.int .i64 a0_0, .int .i64 a0_1, .int .i64 a0_2, .string a0_3, .int .i64 a0_4, .int .i64 a0_5, .int .i64 a0_6, .string a0_7, .slice A0_8 l0_8.length c0_8] 26 (0, 0)) (by (with_reducible repeat (first | refine bkN ?_ _ | refine bkD ?_ | refine bkA ?_ _)); exact BK511.out)) : gb511 ≠ gb528)); have n6_ := Asd.mk ((by rw [hg]; exact Nat.ne_of_gt (blk_lt (g := gb511) (o := .cells #[.int .i64 a0_0, .int .i64 a0_1, .int .i64 a0_2, .string a0_3, .int .i64 a0_4, .int .i64 a0_5, .int .i64 a0_6, .string a0_7, .slice A0_8 l0_8.length c0_8] 26 (0, 0)) (by (with_reducible repeat (first | refine bkN ?_ _ | refine bkD ?_ | refine bkA ?_ _)); exact BK511.out)) : gb528 ≠ gb511)); clear BK511; clear HB; have BK511 := n0_; have HB := n1_; have BK528 := n2_; have GW528 := n3_; have GE528 := n4_; have NB511_528 := n5_; have NB528_511 := n6_; clear n0_ n1_ n2_ n3_ n4_ n5_ n6_; clear hb hbox hg; have hnb89 := NB528_511.out; have hnc89 := NB511_528.out; have hcz90_0 : w88.cell? ⟨gb528, 0, none⟩ = some (.int .i64 0) := (bkC BK528.out 0).trans rfl; have hcz90_1 : w88.cell? ⟨gb528, 1, none⟩ = some (.int .i64 0) := (bkC BK528.out 1).trans rfl; have hcz90_2 : w88.cell? ⟨gb528, 2, none⟩ = some (.string (⟨#[]⟩ : ByteArray)) := (bkC BK528.out 2).trans rfl; have hfz90_0 := bkF BK528.out 0; have hfz90_1 := bkF BK528.out 1; have hfz90_2 := bkF BK528.out 2; have hcz91_0 : w88.cell? ⟨gb511, 0, none⟩ = some (.int .i64 a0_0) := (bkC BK511.out 0).trans rfl; have hcz91_1 : w88.cell? ⟨gb511, 1, none⟩ = some (.int .i64 a0_1) := (bkC BK511.out 1).trans rfl; have hcz91_2 : w88.cell? ⟨gb511, 2, none⟩ = some (.int .i64 a0_2) := (bkC BK511.out 2).trans rfl; have hcz91_3 : w88.cell? ⟨gb511, 3, none⟩ = some (.string a0_3) := (bkC BK511.out 3).trans rfl; have hcz91_4 : w88.cell? ⟨gb511, 4, none⟩ = some (.int .i64 a0_4) := (bkC BK511.out 4).trans rfl; have hcz91_5 : w88.cell? ⟨gb511, 5, none⟩ = some (.int .i64 a0_5) := (bkC BK511.out 5).trans rfl; have hcz91_6 : w88.cell? ⟨gb511, 6, none⟩ = some (.int .i64 a0_6) := (bkC BK511.out 6).trans rfl; have hcz91_7 : w88.cell? ⟨gb511, 7, none⟩ = some (.string a0_7) := (bkC BK511.out 7).trans rfl; have hcz91_8 : w88.cell? ⟨gb511, 8, none⟩ = some (.slice A0_8 l0_8.length c0_8) := (bkC BK511.out 8).trans rfl; have hfz91_0 := bkF BK511.out 0; have hfz91_1 := bkF BK511.out 1; have hfz91_2 := bkF BK511.out 2; have hfz91_3 := bkF BK511.out 3; have hfz91_4 := bkF BK511.out 4; have hfz91_5 := bkF BK511.out 5; have hfz91_6 := bkF BK511.out 6; have hfz91_7 := bkF BK511.out 7; have hfz91_8 := bkF BK511.out 8) | (go_at_call 21; (with_reducible refine (expr_Safe.calls a0_0 a0_1 a0_2 a0_3 a0_4 a0_5 a0_6 a0_7 _ _ l0_8 false _ ?side1 ?side2 A76.out).mono ?_); (case side1 => exact Kd.C_below HR0_8.out (by repeat (first | (with_reducible first | exact HB.out | apply blA | apply pbN | apply blD | refine blS ?_ GE511.out | refine blS ?_ GE528.out) | exact HB.out))); (case side2 => exact HC0_8.out); rintro e w92 ⟨rfl, hb⟩; have n0_ := Asd.mk (blk_below (g := gb511) (o := .cells #[.int .i64 a0_0, .int .i64 a0_1, .int .i64 a0_2, .string a0_3, .int .i64 a0_4, .int .i64 a0_5, .int .i64 a0_6, .string a0_7, .slice A0_8 l0_8.length c0_8] 26 (0, 0)) (by (with_reducible repeat (first | refine bkN ?_ _ | refine bkD ?_ | refine bkA ?_ _)); refine blk_far ?_ NB511_528.out _; (with_reducible repeat (first | refine bkN ?_ _ | refine bkD ?_ | refine bkA ?_ _)); refine blk_far ?_ NB511_528.out _; (with_reducible repeat (first | refine bkN ?_ _ | refine bkD ?_ | refine bkA ?_ _)); refine blk_far ?_ NB511_528.out _; (with_reducible repeat (first | refine bkN ?_ _ | refine bkD ?_ | refine bkA ?_ _)); exact BK511.out) hb); have n1_ := Asd.mk (blk_below (g := gb528) (o := .cells #[.int .i64 t524, .int .i64 t525, .string t526] 23 (0, 0)) (by (with_reducible repeat (first | refine bkN ?_ _ | refine bkD ?_ | refine bkA ?_ _)); refine blk_put (cs := #[.int .i64 t524, .int .i64 t525, .string (⟨#[]⟩ : ByteArray)]) ?_ 2 _ rfl; (with_reducible repeat (first | refine bkN ?_ _ | refine bkD ?_ | refine bkA ?_ _)); refine blk_put (cs := #[.int .i64 t524, .int .i64 0, .string (⟨#[]⟩ : ByteArray)]) ?_ 1 _ rfl; (with_reducible repeat (first | refine bkN ?_ _ | refine bkD ?_ | refine bkA ?_ _)); refine blk_put (cs := #[.int .i64 0, .int .i64 0, .string (⟨#[]⟩ : ByteArray)]) ?_ 0 _ rfl; (with_reducible repeat (first | refine bkN ?_ _ | refine bkD ?_ | refine bkA ?_ _)); exact BK528.out) hb); have n2_ := Asd.mk (below_step (by repeat (first | (with_reducible first | exact HB.out | apply blA | apply pbN | apply blD | refine blS ?_ GE511.out | refine blS ?_ GE528.out) | exact HB.out)) hb); clear BK511; clear BK528; clear HB; have BK511 := n0_; have BK528 := n1_; have HB := n2_; clear n0_ n1_ n2_; (try clear hb); (try clear hb2); (try clear hk); (try clear hi)))
           go_ret
           exact ⟨by first | rfl | (simp [errW_none, errW_some] <;> rfl) | (simp [*, errW_none, errW_some] <;> rfl), by repeat (first | (with_reducible first | exact HB.out | apply blA | apply pbN | apply blD | refine blS ?_ GE511.out | refine blS ?_ GE528.out) | exact HB.out)⟩
          ·rw [if_neg c85] at H
           have c85b0 : (t527 == 3) = false := beq_eq_false_iff_ne.mpr c85
           have c85b1 : (t527 != 3) = true := bne_iff_ne.mpr c85
           obtain rfl := Option.some.inj H
           have hcz93_0 : wc.cell? ⟨gb511, 0, none⟩ = some (.int .i64 a0_0) := (bkC BK511.out 0).trans rfl
           have hcz93_1 : wc.cell? ⟨gb511, 1, none⟩ = some (.int .i64 a0_1) := (bkC BK511.out 1).trans rfl
           have hcz93_2 : wc.cell? ⟨gb511, 2, none⟩ = some (.int .i64 a0_2) := (bkC BK511.out 2).trans rfl
           have hcz93_3 : wc.cell? ⟨gb511, 3, none⟩ = some (.string a0_3) := (bkC BK511.out 3).trans rfl
           have hcz93_4 : wc.cell? ⟨gb511, 4, none⟩ = some (.int .i64 a0_4) := (bkC BK511.out 4).trans rfl
           have hcz93_5 : wc.cell? ⟨gb511, 5, none⟩ = some (.int .i64 a0_5) := (bkC BK511.out 5).trans rfl
           have hcz93_6 : wc.cell? ⟨gb511, 6, none⟩ = some (.int .i64 a0_6) := (bkC BK511.out 6).trans rfl
           have hcz93_7 : wc.cell? ⟨gb511, 7, none⟩ = some (.string a0_7) := (bkC BK511.out 7).trans rfl
           have hcz93_8 : wc.cell? ⟨gb511, 8, none⟩ = some (.slice A0_8 l0_8.length c0_8) := (bkC BK511.out 8).trans rfl
           have hfz93_0 := bkF BK511.out 0
           have hfz93_1 := bkF BK511.out 1
           have hfz93_2 := bkF BK511.out 2
           have hfz93_3 := bkF BK511.out 3
           have hfz93_4 := bkF BK511.out 4
           have hfz93_5 := bkF BK511.out 5
           have hfz93_6 := bkF BK511.out 6
           have hfz93_7 := bkF BK511.out 7
           have hfz93_8 := bkF BK511.out 8
           go_wp2_with (first | ((with_reducible refine gate_callee (f := 14) rfl ?_); refine goesL_ (some 48) rfl rfl Tryd.func14 (by kernel_rfl) rfl #[.agg #[.int .i64 a0_0, .int .i64 a0_1, .int .i64 a0_2, .string a0_3, .int .i64 a0_4, .int .i64 a0_5, .int .i64 a0_6, .string a0_7, .slice A0_8 l0_8.length c0_8], .slice A1 l1.length c1, .slice A2 l2.length c2] rfl (by (try simp only [List.map_toArray, List.map_cons, List.map_nil]); first | done | rfl | (simp only [List.length_drop, List.length_take]; rfl)) ?_; (with_reducible refine (expr_Eval.calls a0_0 a0_1 a0_2 a0_3 a0_4 a0_5 a0_6 a0_7 _ _ l0_8 _ _ l1 _ _ l2 t524 t525 t526 t527 _ ?side1 ?side2 ?side3 ?side4 ?side5 ?side6 A28.out).mono ?_); (case side1 => repeat (first | exact (Kd.C_below HR0_8.out HB.out) | (with_reducible refine Kd.C_alloc ?_ _) | (with_reducible refine Kd.C_drewN ?_ _) | (with_reducible refine Kd.C_drew ?_))); (case side2 => exact HC0_8.out); (case side3 => repeat (first | exact (Kd.C_below HR1.out HB.out) | (with_reducible refine Kd.C_alloc ?_ _) | (with_reducible refine Kd.C_drewN ?_ _) | (with_reducible refine Kd.C_drew ?_))); (case side4 => exact HC1.out); (case side5 => repeat (first | exact (Kd.C_below HR2.out HB.out) | (with_reducible refine Kd.C_alloc ?_ _) | (with_reducible refine Kd.C_drewN ?_ _) | (with_reducible refine Kd.C_drew ?_))); (case side6 => exact HC2.out); rintro e w94 ⟨rfl, hb⟩; refine ⟨_, rfl, ?_⟩; have n0_ := Asd.mk (blk_below (g := gb511) (o := .cells #[.int .i64 a0_0, .int .i64 a0_1, .int .i64 a0_2, .string a0_3, .int .i64 a0_4, .int .i64 a0_5, .int .i64 a0_6, .string a0_7, .slice A0_8 l0_8.length c0_8] 26 (0, 0)) (by (with_reducible repeat (first | refine bkN ?_ _ | refine bkD ?_ | refine bkA ?_ _)); exact BK511.out) hb); have n1_ := Asd.mk (below_step (by repeat (first | (with_reducible first | exact HB.out | apply blA | apply pbN | apply blD | refine blS ?_ GE511.out) | exact HB.out)) hb); clear BK511; clear HB; have BK511 := n0_; have HB := n1_; clear n0_ n1_; (try clear hb); (try clear hb2); (try clear hk); (try clear hi)) | ((with_reducible refine gate_dst (N := 11) rfl ?_); refine box_event ?hg (N := 11) ?hd (cs := #[.int .i64 0, .int .i64 0, .string (⟨#[]⟩ : ByteArray)]) (t := 23) ?hr ?_; (case hd => rfl); (case hg => rfl); (case hr => first | (go_simp; done) | (go_simp; rfl)); intro gb528 hg w95 hbox hb; have n0_ := Asd.mk (blk_below (g := gb511) (o := .cells #[.int .i64 a0_0, .int .i64 a0_1, .int .i64 a0_2, .string a0_3, .int .i64 a0_4, .int .i64 a0_5, .int .i64 a0_6, .string a0_7, .slice A0_8 l0_8.length c0_8] 26 (0, 0)) (by (with_reducible repeat (first | refine bkN ?_ _ | refine bkD ?_ | refine bkA ?_ _)); exact BK511.out) hb); have n1_ := Asd.mk (below_step (by repeat (first | (with_reducible first | exact HB.out | apply blA | apply pbN | apply blD | refine blS ?_ GE511.out) | exact HB.out)) hb); have n2_ := Asd.mk (hbox); have n3_ := Asd.mk ((by rw [hg]; exact (below_size (by repeat (first | (with_reducible first | exact HB.out | apply blA | apply pbN | apply blD | refine blS ?_ GE511.out) | exact HB.out))) : w.heap.size ≤ gb528)); have n4_ := Asd.mk ((by rw [hg]; exact (below_size (by repeat (first | (with_reducible first | exact HB.out | apply blA | apply pbN | apply blD | refine blS ?_ GE511.out) | exact HB.out))) : w.heap.size ≤ gb528)); have n5_ := Asd.mk ((by rw [hg]; exact Nat.ne_of_lt (blk_lt (g := gb511) (o := .cells #[.int .i64 a0_0, .int .i64 a0_1, .int .i64 a0_2, .string a0_3, .int .i64 a0_4, .int .i64 a0_5, .int .i64 a0_6, .string a0_7, .slice A0_8 l0_8.length c0_8] 26 (0, 0)) (by (with_reducible repeat (first | refine bkN ?_ _ | refine bkD ?_ | refine bkA ?_ _)); exact BK511.out)) : gb511 ≠ gb528)); have n6_ := Asd.mk ((by rw [hg]; exact Nat.ne_of_gt (blk_lt (g := gb511) (o := .cells #[.int .i64 a0_0, .int .i64 a0_1, .int .i64 a0_2, .string a0_3, .int .i64 a0_4, .int .i64 a0_5, .int .i64 a0_6, .string a0_7, .slice A0_8 l0_8.length c0_8] 26 (0, 0)) (by (with_reducible repeat (first | refine bkN ?_ _ | refine bkD ?_ | refine bkA ?_ _)); exact BK511.out)) : gb528 ≠ gb511)); clear BK511; clear HB; have BK511 := n0_; have HB := n1_; have BK528 := n2_; have GW528 := n3_; have GE528 := n4_; have NB511_528 := n5_; have NB528_511 := n6_; clear n0_ n1_ n2_ n3_ n4_ n5_ n6_; clear hb hbox hg; have hnb96 := NB528_511.out; have hnc96 := NB511_528.out; have hcz97_0 : w95.cell? ⟨gb528, 0, none⟩ = some (.int .i64 0) := (bkC BK528.out 0).trans rfl; have hcz97_1 : w95.cell? ⟨gb528, 1, none⟩ = some (.int .i64 0) := (bkC BK528.out 1).trans rfl; have hcz97_2 : w95.cell? ⟨gb528, 2, none⟩ = some (.string (⟨#[]⟩ : ByteArray)) := (bkC BK528.out 2).trans rfl; have hfz97_0 := bkF BK528.out 0; have hfz97_1 := bkF BK528.out 1; have hfz97_2 := bkF BK528.out 2; have hcz98_0 : w95.cell? ⟨gb511, 0, none⟩ = some (.int .i64 a0_0) := (bkC BK511.out 0).trans rfl; have hcz98_1 : w95.cell? ⟨gb511, 1, none⟩ = some (.int .i64 a0_1) := (bkC BK511.out 1).trans rfl; have hcz98_2 : w95.cell? ⟨gb511, 2, none⟩ = some (.int .i64 a0_2) := (bkC BK511.out 2).trans rfl; have hcz98_3 : w95.cell? ⟨gb511, 3, none⟩ = some (.string a0_3) := (bkC BK511.out 3).trans rfl; have hcz98_4 : w95.cell? ⟨gb511, 4, none⟩ = some (.int .i64 a0_4) := (bkC BK511.out 4).trans rfl; have hcz98_5 : w95.cell? ⟨gb511, 5, none⟩ = some (.int .i64 a0_5) := (bkC BK511.out 5).trans rfl; have hcz98_6 : w95.cell? ⟨gb511, 6, none⟩ = some (.int .i64 a0_6) := (bkC BK511.out 6).trans rfl; have hcz98_7 : w95.cell? ⟨gb511, 7, none⟩ = some (.string a0_7) := (bkC BK511.out 7).trans rfl; have hcz98_8 : w95.cell? ⟨gb511, 8, none⟩ = some (.slice A0_8 l0_8.length c0_8) := (bkC BK511.out 8).trans rfl; have hfz98_0 := bkF BK511.out 0; have hfz98_1 := bkF BK511.out 1; have hfz98_2 := bkF BK511.out 2; have hfz98_3 := bkF BK511.out 3; have hfz98_4 := bkF BK511.out 4; have hfz98_5 := bkF BK511.out 5; have hfz98_6 := bkF BK511.out 6; have hfz98_7 := bkF BK511.out 7; have hfz98_8 := bkF BK511.out 8) | (go_at_call 21; (with_reducible refine (expr_Safe.calls a0_0 a0_1 a0_2 a0_3 a0_4 a0_5 a0_6 a0_7 _ _ l0_8 false _ ?side1 ?side2 A76.out).mono ?_); (case side1 => exact Kd.C_below HR0_8.out (by repeat (first | (with_reducible first | exact HB.out | apply blA | apply pbN | apply blD | refine blS ?_ GE511.out | refine blS ?_ GE528.out) | exact HB.out))); (case side2 => exact HC0_8.out); rintro e w99 ⟨rfl, hb⟩; have n0_ := Asd.mk (blk_below (g := gb511) (o := .cells #[.int .i64 a0_0, .int .i64 a0_1, .int .i64 a0_2, .string a0_3, .int .i64 a0_4, .int .i64 a0_5, .int .i64 a0_6, .string a0_7, .slice A0_8 l0_8.length c0_8] 26 (0, 0)) (by (with_reducible repeat (first | refine bkN ?_ _ | refine bkD ?_ | refine bkA ?_ _)); refine blk_far ?_ NB511_528.out _; (with_reducible repeat (first | refine bkN ?_ _ | refine bkD ?_ | refine bkA ?_ _)); refine blk_far ?_ NB511_528.out _; (with_reducible repeat (first | refine bkN ?_ _ | refine bkD ?_ | refine bkA ?_ _)); refine blk_far ?_ NB511_528.out _; (with_reducible repeat (first | refine bkN ?_ _ | refine bkD ?_ | refine bkA ?_ _)); exact BK511.out) hb); have n1_ := Asd.mk (blk_below (g := gb528) (o := .cells #[.int .i64 t524, .int .i64 t525, .string t526] 23 (0, 0)) (by (with_reducible repeat (first | refine bkN ?_ _ | refine bkD ?_ | refine bkA ?_ _)); refine blk_put (cs := #[.int .i64 t524, .int .i64 t525, .string (⟨#[]⟩ : ByteArray)]) ?_ 2 _ rfl; (with_reducible repeat (first | refine bkN ?_ _ | refine bkD ?_ | refine bkA ?_ _)); refine blk_put (cs := #[.int .i64 t524, .int .i64 0, .string (⟨#[]⟩ : ByteArray)]) ?_ 1 _ rfl; (with_reducible repeat (first | refine bkN ?_ _ | refine bkD ?_ | refine bkA ?_ _)); refine blk_put (cs := #[.int .i64 0, .int .i64 0, .string (⟨#[]⟩ : ByteArray)]) ?_ 0 _ rfl; (with_reducible repeat (first | refine bkN ?_ _ | refine bkD ?_ | refine bkA ?_ _)); exact BK528.out) hb); have n2_ := Asd.mk (below_step (by repeat (first | (with_reducible first | exact HB.out | apply blA | apply pbN | apply blD | refine blS ?_ GE511.out | refine blS ?_ GE528.out) | exact HB.out)) hb); clear BK511; clear BK528; clear HB; have BK511 := n0_; have BK528 := n1_; have HB := n2_; clear n0_ n1_ n2_; (try clear hb); (try clear hb2); (try clear hk); (try clear hi)))
           go_ret
           exact ⟨by first | rfl | (simp [errW_none, errW_some] <;> rfl) | (simp [*, errW_none, errW_some] <;> rfl), by repeat (first | (with_reducible first | exact HB.out | apply blA | apply pbN | apply blD | refine blS ?_ GE511.out | refine blS ?_ GE528.out) | exact HB.out)⟩
        ·replace c75 := Bool.eq_false_iff.mpr c75
         subst c75
         have H1 : (some false) = some r := by rw [if_neg (show ¬ (false = true) by decide)] at H; exact H
         clear H
         have H := H1
         clear H1
         obtain rfl := Option.some.inj H
         have hcz100_0 : wc.cell? ⟨gb511, 0, none⟩ = some (.int .i64 a0_0) := (bkC BK511.out 0).trans rfl
         have hcz100_1 : wc.cell? ⟨gb511, 1, none⟩ = some (.int .i64 a0_1) := (bkC BK511.out 1).trans rfl
         have hcz100_2 : wc.cell? ⟨gb511, 2, none⟩ = some (.int .i64 a0_2) := (bkC BK511.out 2).trans rfl
         have hcz100_3 : wc.cell? ⟨gb511, 3, none⟩ = some (.string a0_3) := (bkC BK511.out 3).trans rfl
         have hcz100_4 : wc.cell? ⟨gb511, 4, none⟩ = some (.int .i64 a0_4) := (bkC BK511.out 4).trans rfl
         have hcz100_5 : wc.cell? ⟨gb511, 5, none⟩ = some (.int .i64 a0_5) := (bkC BK511.out 5).trans rfl
         have hcz100_6 : wc.cell? ⟨gb511, 6, none⟩ = some (.int .i64 a0_6) := (bkC BK511.out 6).trans rfl
         have hcz100_7 : wc.cell? ⟨gb511, 7, none⟩ = some (.string a0_7) := (bkC BK511.out 7).trans rfl
         have hcz100_8 : wc.cell? ⟨gb511, 8, none⟩ = some (.slice A0_8 l0_8.length c0_8) := (bkC BK511.out 8).trans rfl
         have hfz100_0 := bkF BK511.out 0
         have hfz100_1 := bkF BK511.out 1
         have hfz100_2 := bkF BK511.out 2
         have hfz100_3 := bkF BK511.out 3
         have hfz100_4 := bkF BK511.out 4
         have hfz100_5 := bkF BK511.out 5
         have hfz100_6 := bkF BK511.out 6
         have hfz100_7 := bkF BK511.out 7
         have hfz100_8 := bkF BK511.out 8
         go_wp2_with (first | ((with_reducible refine gate_callee (f := 14) rfl ?_); refine goesL_ (some 48) rfl rfl Tryd.func14 (by kernel_rfl) rfl #[.agg #[.int .i64 a0_0, .int .i64 a0_1, .int .i64 a0_2, .string a0_3, .int .i64 a0_4, .int .i64 a0_5, .int .i64 a0_6, .string a0_7, .slice A0_8 l0_8.length c0_8], .slice A1 l1.length c1, .slice A2 l2.length c2] rfl (by (try simp only [List.map_toArray, List.map_cons, List.map_nil]); first | done | rfl | (simp only [List.length_drop, List.length_take]; rfl)) ?_; (with_reducible refine (expr_Eval.calls a0_0 a0_1 a0_2 a0_3 a0_4 a0_5 a0_6 a0_7 _ _ l0_8 _ _ l1 _ _ l2 t524 t525 t526 t527 _ ?side1 ?side2 ?side3 ?side4 ?side5 ?side6 A28.out).mono ?_); (case side1 => repeat (first | exact (Kd.C_below HR0_8.out HB.out) | (with_reducible refine Kd.C_alloc ?_ _) | (with_reducible refine Kd.C_drewN ?_ _) | (with_reducible refine Kd.C_drew ?_))); (case side2 => exact HC0_8.out); (case side3 => repeat (first | exact (Kd.C_below HR1.out HB.out) | (with_reducible refine Kd.C_alloc ?_ _) | (with_reducible refine Kd.C_drewN ?_ _) | (with_reducible refine Kd.C_drew ?_))); (case side4 => exact HC1.out); (case side5 => repeat (first | exact (Kd.C_below HR2.out HB.out) | (with_reducible refine Kd.C_alloc ?_ _) | (with_reducible refine Kd.C_drewN ?_ _) | (with_reducible refine Kd.C_drew ?_))); (case side6 => exact HC2.out); rintro e w101 ⟨rfl, hb⟩; refine ⟨_, rfl, ?_⟩; have n0_ := Asd.mk (blk_below (g := gb511) (o := .cells #[.int .i64 a0_0, .int .i64 a0_1, .int .i64 a0_2, .string a0_3, .int .i64 a0_4, .int .i64 a0_5, .int .i64 a0_6, .string a0_7, .slice A0_8 l0_8.length c0_8] 26 (0, 0)) (by (with_reducible repeat (first | refine bkN ?_ _ | refine bkD ?_ | refine bkA ?_ _)); exact BK511.out) hb); have n1_ := Asd.mk (below_step (by repeat (first | (with_reducible first | exact HB.out | apply blA | apply pbN | apply blD | refine blS ?_ GE511.out) | exact HB.out)) hb); clear BK511; clear HB; have BK511 := n0_; have HB := n1_; clear n0_ n1_; (try clear hb); (try clear hb2); (try clear hk); (try clear hi)) | ((with_reducible refine gate_dst (N := 11) rfl ?_); refine box_event ?hg (N := 11) ?hd (cs := #[.int .i64 0, .int .i64 0, .string (⟨#[]⟩ : ByteArray)]) (t := 23) ?hr ?_; (case hd => rfl); (case hg => rfl); (case hr => first | (go_simp; done) | (go_simp; rfl)); intro gb528 hg w102 hbox hb; have n0_ := Asd.mk (blk_below (g := gb511) (o := .cells #[.int .i64 a0_0, .int .i64 a0_1, .int .i64 a0_2, .string a0_3, .int .i64 a0_4, .int .i64 a0_5, .int .i64 a0_6, .string a0_7, .slice A0_8 l0_8.length c0_8] 26 (0, 0)) (by (with_reducible repeat (first | refine bkN ?_ _ | refine bkD ?_ | refine bkA ?_ _)); exact BK511.out) hb); have n1_ := Asd.mk (below_step (by repeat (first | (with_reducible first | exact HB.out | apply blA | apply pbN | apply blD | refine blS ?_ GE511.out) | exact HB.out)) hb); have n2_ := Asd.mk (hbox); have n3_ := Asd.mk ((by rw [hg]; exact (below_size (by repeat (first | (with_reducible first | exact HB.out | apply blA | apply pbN | apply blD | refine blS ?_ GE511.out) | exact HB.out))) : w.heap.size ≤ gb528)); have n4_ := Asd.mk ((by rw [hg]; exact (below_size (by repeat (first | (with_reducible first | exact HB.out | apply blA | apply pbN | apply blD | refine blS ?_ GE511.out) | exact HB.out))) : w.heap.size ≤ gb528)); have n5_ := Asd.mk ((by rw [hg]; exact Nat.ne_of_lt (blk_lt (g := gb511) (o := .cells #[.int .i64 a0_0, .int .i64 a0_1, .int .i64 a0_2, .string a0_3, .int .i64 a0_4, .int .i64 a0_5, .int .i64 a0_6, .string a0_7, .slice A0_8 l0_8.length c0_8] 26 (0, 0)) (by (with_reducible repeat (first | refine bkN ?_ _ | refine bkD ?_ | refine bkA ?_ _)); exact BK511.out)) : gb511 ≠ gb528)); have n6_ := Asd.mk ((by rw [hg]; exact Nat.ne_of_gt (blk_lt (g := gb511) (o := .cells #[.int .i64 a0_0, .int .i64 a0_1, .int .i64 a0_2, .string a0_3, .int .i64 a0_4, .int .i64 a0_5, .int .i64 a0_6, .string a0_7, .slice A0_8 l0_8.length c0_8] 26 (0, 0)) (by (with_reducible repeat (first | refine bkN ?_ _ | refine bkD ?_ | refine bkA ?_ _)); exact BK511.out)) : gb528 ≠ gb511)); clear BK511; clear HB; have BK511 := n0_; have HB := n1_; have BK528 := n2_; have GW528 := n3_; have GE528 := n4_; have NB511_528 := n5_; have NB528_511 := n6_; clear n0_ n1_ n2_ n3_ n4_ n5_ n6_; clear hb hbox hg; have hnb103 := NB528_511.out; have hnc103 := NB511_528.out; have hcz104_0 : w102.cell? ⟨gb528, 0, none⟩ = some (.int .i64 0) := (bkC BK528.out 0).trans rfl; have hcz104_1 : w102.cell? ⟨gb528, 1, none⟩ = some (.int .i64 0) := (bkC BK528.out 1).trans rfl; have hcz104_2 : w102.cell? ⟨gb528, 2, none⟩ = some (.string (⟨#[]⟩ : ByteArray)) := (bkC BK528.out 2).trans rfl; have hfz104_0 := bkF BK528.out 0; have hfz104_1 := bkF BK528.out 1; have hfz104_2 := bkF BK528.out 2))
         go_ret
         exact ⟨by first | rfl | (simp [errW_none, errW_some] <;> rfl) | (simp [*, errW_none, errW_some] <;> rfl), by repeat (first | (with_reducible first | exact HB.out | apply blA | apply pbN | apply blD | refine blS ?_ GE511.out | refine blS ?_ GE528.out) | exact HB.out)⟩
end Go.Proofs.YtkboodfnegedaaaDoor.E
