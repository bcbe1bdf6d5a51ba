/- Contracts and plain lemmas of the functions that the law reaches, part 29. -/
import Derived.Test.YtkboodfnegedaaaDoorZA3
import Derived.Test.YtkboodfnegedaaaDoorZA6
namespace Go.Proofs.YtkboodfnegedaaaDoor.E
open Go.RowKit Go.Proofs.YtkboodfnegedaaaDoorW.PrintWords Go.Proofs.YtkboodfnegedaaaDoorW.PrintLast Go.Proofs.YtkboodfnegedaaaDoorW.PrintMore
attribute [local go_sem] max2_int min2_int max_two min_two max_three min_three max_four min_four   -- for this text's walks alone
set_option linter.unusedVariables false
set_option linter.unusedSimpArgs false
def expr_Split.f : Nat → Int → Int → Int → ByteArray → Int → Int → Int → ByteArray → List (S26) → Option ((List (S26)))
 | 0, _, _, _, _, _, _, _, _, _ => none
 | k + 1, a0_0, a0_1, a0_2, a0_3, a0_4, a0_5, a0_6, a0_7, l0_8 => (expr_Right.f a0_0 a0_1 a0_2 a0_3 a0_4 a0_5 a0_6 a0_7 l0_8).bind fun t552 => (if t552 = true then (if a0_0 = 15 then (if 0 < (l0_8.length : Int) then ((expr_Split.f k ((rd_T26 l0_8 0).f0) ((rd_T26 l0_8 0).f1.f0) ((rd_T26 l0_8 0).f1.f1) ((rd_T26 l0_8 0).f1.f2) ((rd_T26 l0_8 0).f2) ((rd_T26 l0_8 0).f3) ((rd_T26 l0_8 0).f4) ((rd_T26 l0_8 0).f5) ((rd_T26 l0_8 0).f6)).bind fun t554 => (if 1 < (l0_8.length : Int) then ((expr_Split.f k ((rd_T26 l0_8 1).f0) ((rd_T26 l0_8 1).f1.f0) ((rd_T26 l0_8 1).f1.f1) ((rd_T26 l0_8 1).f1.f2) ((rd_T26 l0_8 1).f2) ((rd_T26 l0_8 1).f3) ((rd_T26 l0_8 1).f4) ((rd_T26 l0_8 1).f5) ((rd_T26 l0_8 1).f6)).bind fun t558 => (if t554.length + t558.length < 1353245080339 then (some (t554 ++ t558)) else (none))) else (none))) else (none)) else (some (([(⟨a0_0, (⟨a0_1, a0_2, a0_3⟩ : S23), a0_4, a0_5, a0_6, a0_7, l0_8⟩ : S26)] : List (S26))))) else (some ([] : List (S26))))
def expr_Split.T5 : Bool × List (List Nat × List Nat) := (true, [([], []), ([0], [0]), ([1], [1]), ([2], [2]), ([3], [3]), ([], []), ([5], [5]), ([6], [6]), ([7], [7]), ([8, 4], [8]), ([4, 9, 9], [4, 9]), ([10, 10, 0, 1, 2, 3, 4, 5, 6, 7, 8, 9, 10], [10])])
def expr_Split.B5 : List Nat := [0, 1, 3, 7, 15, 0, 32, 96, 224, 511, 1023, 2047]
theorem expr_Split.tab5 : rtab .any (opsOf Tryd.f26 5) = expr_Split.T5 := by kernel_rfl
theorem expr_Split.bits5 : waitsOk expr_Split.T5.2 expr_Split.B5 = true := by kernel_rfl
set_option maxHeartbeats 8000000 in
set_option maxRecDepth 100000 in
theorem expr_Split.calls (k : Nat) : ∀ (a0_0 : Int) (a0_1 : Int) (a0_2 : Int) (a0_3 : ByteArray) (a0_4 : Int) (a0_5 : Int) (a0_6 : Int) (a0_7 : ByteArray) (P0_8_ : Nat → Prop) (A0_8 : Option Addr) (c0_8 : Nat) (l0_8 : List (S26)) (r : List (S26)) (w : World) (hs0_8 : Kd.V k26 26 w w.heap.size (fun k_ => P0_8_ k_) (.slice A0_8 l0_8.length c0_8) l0_8) (h : expr_Split.f k a0_0 a0_1 a0_2 a0_3 a0_4 a0_5 a0_6 a0_7 l0_8 = some r),
  Calls Tryd.prog 26 #[.agg #[.int .i64 a0_0, .int .i64 a0_1, .int .i64 a0_2, .string a0_3, .int .i64 a0_4, .int .i64 a0_5, .int .i64 a0_6, .string a0_7, .slice A0_8 l0_8.length c0_8]] w fun e w' => ∃ v0_ : Value, e = .returned (v0_) ∧ Kd.N k26 26 w' w.heap.size (fun k_ => (P0_8_ k_ ∨ w.heap.size ≤ k_)) v0_ r ∧ Below w.heap.size w w' := by
 induction k using Nat.strongRecOn with
 | _ k ih =>
 intro a0_0 a0_1 a0_2 a0_3 a0_4 a0_5 a0_6 a0_7 P0_8_ A0_8 c0_8 l0_8 r w hs0_8 h
 cases k with
 | zero => exact absurd h (by simp [expr_Split.f])
 | succ k =>
 simp only [expr_Split.f] at h
 have hu26 := Tryd.underlying26
 have HO0_8 := Asd.mk (show Kd.V k26 26 w w.heap.size (fun k_ => (P0_8_ k_ ∨ w.heap.size ≤ k_)) (.slice A0_8 l0_8.length c0_8) l0_8 from Kd.V_mono hs0_8 (fun k_ hk => .inl hk))
 have HB := Asd.mk (Below.refl w.heap.size w)
 have H : ((expr_Right.f a0_0 a0_1 a0_2 a0_3 a0_4 a0_5 a0_6 a0_7 l0_8).bind fun t552 => (if t552 = true then (if a0_0 = 15 then (if 0 < (l0_8.length : Int) then ((expr_Split.f k ((rd_T26 l0_8 0).f0) ((rd_T26 l0_8 0).f1.f0) ((rd_T26 l0_8 0).f1.f1) ((rd_T26 l0_8 0).f1.f2) ((rd_T26 l0_8 0).f2) ((rd_T26 l0_8 0).f3) ((rd_T26 l0_8 0).f4) ((rd_T26 l0_8 0).f5) ((rd_T26 l0_8 0).f6)).bind fun t554 => (if 1 < (l0_8.length : Int) then ((expr_Split.f k ((rd_T26 l0_8 1).f0) ((rd_T26 l0_8 1).f1.f0) ((rd_T26 l0_8 1).f1.f1) ((rd_T26 l0_8 1).f1.f2) ((rd_T26 l0_8 1).f2) ((rd_T26 l0_8 1).f3) ((rd_T26 l0_8 1).f4) ((rd_T26 l0_8 1).f5) ((rd_T26 l0_8 1).f6)).bind fun t558 => (if t554.length + t558.length < 1353245080339 then (some (t554 ++ t558)) else (none))) else (none))) else (none)) else (some (([(⟨a0_0, (⟨a0_1, a0_2, a0_3⟩ : S23), a0_4, a0_5, a0_6, a0_7, l0_8⟩ : S26)] : List (S26))))) else (some ([] : List (S26))))) = some r := h
 clear h
 replace H := Option.bind_eq_some_iff.mp H
 obtain ⟨t552, A20, H⟩ := H
 replace H : (if t552 = true then (if a0_0 = 15 then (if 0 < (l0_8.length : Int) then ((expr_Split.f k ((rd_T26 l0_8 0).f0) ((rd_T26 l0_8 0).f1.f0) ((rd_T26 l0_8 0).f1.f1) ((rd_T26 l0_8 0).f1.f2) ((rd_T26 l0_8 0).f2) ((rd_T26 l0_8 0).f3) ((rd_T26 l0_8 0).f4) ((rd_T26 l0_8 0).f5) ((rd_T26 l0_8 0).f6)).bind fun t554 => (if 1 < (l0_8.length : Int) then ((expr_Split.f k ((rd_T26 l0_8 1).f0) ((rd_T26 l0_8 1).f1.f0) ((rd_T26 l0_8 1).f1.f1) ((rd_T26 l0_8 1).f1.f2) ((rd_T26 l0_8 1).f2) ((rd_T26 l0_8 1).f3) ((rd_T26 l0_8 1).f4) ((rd_T26 l0_8 1).f5) ((rd_T26 l0_8 1).f6)).bind fun t558 => (if t554.length + t558.length < 1353245080339 then (some (t554 ++ t558)) else (none))) else (none))) else (none)) else (some (([(⟨a0_0, (⟨a0_1, a0_2, a0_3⟩ : S23), a0_4, a0_5, a0_6, a0_7, l0_8⟩ : S26)] : List (S26))))) else (some ([] : List (S26)))) = some r := H
 have A2 := Asd.mk A20
 clear A20
 by_cases c3 : t552 = true
 ·subst c3
  have H1 : (if a0_0 = 15 then (if 0 < (l0_8.length : Int) then ((expr_Split.f k ((rd_T26 l0_8 0).f0) ((rd_T26 l0_8 0).f1.f0) ((rd_T26 l0_8 0).f1.f1) ((rd_T26 l0_8 0).f1.f2) ((rd_T26 l0_8 0).f2) ((rd_T26 l0_8 0).f3) ((rd_T26 l0_8 0).f4) ((rd_T26 l0_8 0).f5) ((rd_T26 l0_8 0).f6)).bind fun t554 => (if 1 < (l0_8.length : Int) then ((expr_Split.f k ((rd_T26 l0_8 1).f0) ((rd_T26 l0_8 1).f1.f0) ((rd_T26 l0_8 1).f1.f1) ((rd_T26 l0_8 1).f1.f2) ((rd_T26 l0_8 1).f2) ((rd_T26 l0_8 1).f3) ((rd_T26 l0_8 1).f4) ((rd_T26 l0_8 1).f5) ((rd_T26 l0_8 1).f6)).bind fun t558 => (if t554.length + t558.length < 1353245080339 then (some (t554 ++ t558)) else (none))) else (none))) else (none)) else (some (([(⟨a0_0, (⟨a0_1, a0_2, a0_3⟩ : S23), a0_4, a0_5, a0_6, a0_7, l0_8⟩ : S26)] : List (S26))))) = some r := by rw [if_pos rfl] at H; exact H
  clear H
  have H := H1
  clear H1
  by_cases c4 : a0_0 = 15
  ·rw [if_pos c4] at H
   have c4b0 : (a0_0 == 15) = true := beq_iff_eq.mpr c4
   have c4b1 : (a0_0 != 15) = false := bne_eq_false_iff_eq.mpr c4
   clear c4
   by_cases c5 : 0 < (l0_8.length : Int)
   ·rw [if_pos c5] at H
    have c5b0 : decide (0 < (l0_8.length : Int)) = true := decide_eq_true c5
    have c5b1 : decide (0 < l0_8.length) = true := decide_eq_true (by omega)
    clear c5
    replace H := Option.bind_eq_some_iff.mp H
    obtain ⟨t554, A60, H⟩ := H
    replace H : (if 1 < (l0_8.length : Int) then ((expr_Split.f k ((rd_T26 l0_8 1).f0) ((rd_T26 l0_8 1).f1.f0) ((rd_T26 l0_8 1).f1.f1) ((rd_T26 l0_8 1).f1.f2) ((rd_T26 l0_8 1).f2) ((rd_T26 l0_8 1).f3) ((rd_T26 l0_8 1).f4) ((rd_T26 l0_8 1).f5) ((rd_T26 l0_8 1).f6)).bind fun t558 => (if t554.length + t558.length < 1353245080339 then (some (t554 ++ t558)) else (none))) else (none)) = some r := H
    have A6 := Asd.mk A60
    clear A60
    by_cases c7 : 1 < (l0_8.length : Int)
    ·rw [if_pos c7] at H
     have c7b0 : decide (1 < (l0_8.length : Int)) = true := decide_eq_true c7
     have c7b1 : decide (1 < l0_8.length) = true := decide_eq_true (by omega)
     clear c7
     replace H := Option.bind_eq_some_iff.mp H
     obtain ⟨t558, A80, H⟩ := H
     replace H : (if t554.length + t558.length < 1353245080339 then (some (t554 ++ t558)) else (none)) = some r := H
     have A8 := Asd.mk A80
     clear A80
     by_cases c9 : t554.length + t558.length < 1353245080339
     ·rw [if_pos c9] at H
      have LMc9 := Asd.mk c9
      clear c9
      obtain ⟨y561, hy561⟩ : ∃ y_ : List (S26), y_ = (t554 ++ t558) := ⟨_, rfl⟩
      replace H : (some y561) = some r := by first | (rw [hy561]; with_reducible exact H) | (have H2_ := (Option.bind_some _ _).symm.trans H; rw [hy561]; with_reducible exact H2_) | (have H2_ := (Option.bind_some _ _).symm.trans H; with_reducible exact H2_) | with_reducible exact H | (rw [hy561]; exact H) | exact H
      have Ny561 := Asd.mk hy561
      clear hy561
      obtain rfl := Option.some.inj H
      go_enter Tryd.func26, Tryd.ntmps26
      try go_wp2_with (first | ((with_reducible refine gate_dst (N := 1) rfl ?_); refine box_event ?hg (N := 1) ?hd (cs := #[.int .i64 a0_0, .int .i64 a0_1, .int .i64 a0_2, .string a0_3, .int .i64 a0_4, .int .i64 a0_5, .int .i64 a0_6, .string a0_7, .slice A0_8 l0_8.length c0_8]) (t := 26) ?hr ?_; (case hd => rfl); (case hg => rfl); (case hr => first | (go_simp; done) | (go_simp; rfl)); intro gb551 hg w10 hbox hb; have n0_ := Asd.mk (Kd.V_below (Kd.V_elderB (by (with_reducible repeat (first | apply Kd.V_alloc | apply Kd.V_drewN | apply Kd.V_drew)); exact HO0_8.out) gb551 (Nat.le_of_eq hg.symm)) hb); have n1_ := Asd.mk (below_step (by repeat (first | (with_reducible first | exact HB.out | apply blA | apply pbN | apply blD) | exact HB.out)) hb); have n2_ := Asd.mk (hbox); have n3_ := Asd.mk ((by rw [hg]; exact (below_size (by repeat (first | (with_reducible first | exact HB.out | apply blA | apply pbN | apply blD) | exact HB.out))) : w.heap.size ≤ gb551)); have n4_ := Asd.mk ((by rw [hg]; exact (below_size (by repeat (first | (with_reducible first | exact HB.out | apply blA | apply pbN | apply blD) | exact HB.out))) : w.heap.size ≤ gb551)); clear HO0_8; clear HB; have HO0_8 := n0_; have HB := n1_; have BK551 := n2_; have GW551 := n3_; have GE551 := n4_; clear n0_ n1_ n2_ n3_ n4_; clear hb hbox hg; have hcz11_0 : w10.cell? ⟨gb551, 0, none⟩ = some (.int .i64 a0_0) := (bkC BK551.out 0).trans rfl; have hcz11_1 : w10.cell? ⟨gb551, 1, none⟩ = some (.int .i64 a0_1) := (bkC BK551.out 1).trans rfl; have hcz11_2 : w10.cell? ⟨gb551, 2, none⟩ = some (.int .i64 a0_2) := (bkC BK551.out 2).trans rfl; have hcz11_3 : w10.cell? ⟨gb551, 3, none⟩ = some (.string a0_3) := (bkC BK551.out 3).trans rfl; have hcz11_4 : w10.cell? ⟨gb551, 4, none⟩ = some (.int .i64 a0_4) := (bkC BK551.out 4).trans rfl; have hcz11_5 : w10.cell? ⟨gb551, 5, none⟩ = some (.int .i64 a0_5) := (bkC BK551.out 5).trans rfl; have hcz11_6 : w10.cell? ⟨gb551, 6, none⟩ = some (.int .i64 a0_6) := (bkC BK551.out 6).trans rfl; have hcz11_7 : w10.cell? ⟨gb551, 7, none⟩ = some (.string a0_7) := (bkC BK551.out 7).trans rfl; have hcz11_8 : w10.cell? ⟨gb551, 8, none⟩ = some (.slice A0_8 l0_8.length c0_8) := (bkC BK551.out 8).trans rfl; have hfz11_0 := bkF BK551.out 0; have hfz11_1 := bkF BK551.out 1; have hfz11_2 := bkF BK551.out 2; have hfz11_3 := bkF BK551.out 3; have hfz11_4 := bkF BK551.out 4; have hfz11_5 := bkF BK551.out 5; have hfz11_6 := bkF BK551.out 6; have hfz11_7 := bkF BK551.out 7; have hfz11_8 := bkF BK551.out 8) | ((with_reducible refine gate_callee (f := 17) rfl ?_); refine goesL_ (some 4) rfl rfl Tryd.func17 (by kernel_rfl) rfl #[.agg #[.int .i64 a0_0, .int .i64 a0_1, .int .i64 a0_2, .string a0_3, .int .i64 a0_4, .int .i64 a0_5, .int .i64 a0_6, .string a0_7, .slice A0_8 l0_8.length c0_8]] rfl (by (try simp only [List.map_toArray, List.map_cons, List.map_nil]); first | done | rfl | (simp only [List.length_drop, List.length_take]; rfl)) ?_; (with_reducible refine (expr_Right.calls a0_0 a0_1 a0_2 a0_3 a0_4 a0_5 a0_6 a0_7 _ _ l0_8 true _ ?side1 ?side2 A2.out).mono ?_); (case side1 => repeat (first | exact (Kd.V_reads' HO0_8.out).2.2 | (with_reducible refine Kd.C_alloc ?_ _) | (with_reducible refine Kd.C_drewN ?_ _) | (with_reducible refine Kd.C_drew ?_))); (case side2 => exact (Kd.V_reads' HO0_8.out).2.1); rintro e w12 ⟨rfl, hb⟩; refine ⟨_, rfl, ?_⟩; have n0_ := Asd.mk (Kd.V_below (by (with_reducible repeat (first | apply Kd.V_alloc | apply Kd.V_drewN | apply Kd.V_drew)); exact HO0_8.out) hb); have n1_ := Asd.mk (blk_below (g := gb551) (o := .cells #[.int .i64 a0_0, .int .i64 a0_1, .int .i64 a0_2, .string a0_3, .int .i64 a0_4, .int .i64 a0_5, .int .i64 a0_6, .string a0_7, .slice A0_8 l0_8.length c0_8] 26 (0, 0)) (by (with_reducible repeat (first | refine bkN ?_ _ | refine bkD ?_ | refine bkA ?_ _)); exact BK551.out) hb); have n2_ := Asd.mk (below_step (by repeat (first | (with_reducible first | exact HB.out | apply blA | apply pbN | apply blD | refine blS ?_ GE551.out) | exact HB.out)) hb); clear HO0_8; clear BK551; clear HB; have HO0_8 := n0_; have BK551 := n1_; have HB := n2_; clear n0_ n1_ n2_; (try clear hb); (try clear hb2); (try clear hk); (try clear hi); have hcz13_0 : w12.cell? ⟨gb551, 0, none⟩ = some (.int .i64 a0_0) := (bkC BK551.out 0).trans rfl; have hcz13_1 : w12.cell? ⟨gb551, 1, none⟩ = some (.int .i64 a0_1) := (bkC BK551.out 1).trans rfl; have hcz13_2 : w12.cell? ⟨gb551, 2, none⟩ = some (.int .i64 a0_2) := (bkC BK551.out 2).trans rfl; have hcz13_3 : w12.cell? ⟨gb551, 3, none⟩ = some (.string a0_3) := (bkC BK551.out 3).trans rfl; have hcz13_4 : w12.cell? ⟨gb551, 4, none⟩ = some (.int .i64 a0_4) := (bkC BK551.out 4).trans rfl; have hcz13_5 : w12.cell? ⟨gb551, 5, none⟩ = some (.int .i64 a0_5) := (bkC BK551.out 5).trans rfl; have hcz13_6 : w12.cell? ⟨gb551, 6, none⟩ = some (.int .i64 a0_6) := (bkC BK551.out 6).trans rfl; have hcz13_7 : w12.cell? ⟨gb551, 7, none⟩ = some (.string a0_7) := (bkC BK551.out 7).trans rfl; have hcz13_8 : w12.cell? ⟨gb551, 8, none⟩ = some (.slice A0_8 l0_8.length c0_8) := (bkC BK551.out 8).trans rfl; have hfz13_0 := bkF BK551.out 0; have hfz13_1 := bkF BK551.out 1; have hfz13_2 := bkF BK551.out 2; have hfz13_3 := bkF BK551.out 3; have hfz13_4 := bkF BK551.out 4; have hfz13_5 := bkF BK551.out 5; have hfz13_6 := bkF BK551.out 6; have hfz13_7 := bkF BK551.out 7; have hfz13_8 := bkF BK551.out 8))
      have n0_ := Asd.mk (Kd.V_drew HO0_8.out)
      have n1_ := Asd.mk (bkD BK551.out)
      have n2_ := Asd.mk (blD HB.out)
      clear HO0_8 BK551 HB
      have HO0_8 := n0_
      have BK551 := n1_
      have HB := n2_
      clear n0_ n1_ n2_
      have p553 : 0 ≤ (0 : Int) := (by omega)
      have q553 : 0 < (l0_8.length : Int) := of_decide_eq_true (by first | (with_reducible assumption) | assumption)
      obtain ⟨ad553, A553_8, c553_8, e553, hx553_0, hx553_1, hx553_2, hx553_3, hx553_4, hx553_5, hx553_6, hx553_7, hx553_8, hl553_8, hi553_8⟩ := at_T26 (Kd.V_reads' HO0_8.out).2.2 0 p553 q553
      cases e553
      obtain ⟨ce553, hce553, hMe553, hcc553⟩ := Kd.V_get HO0_8.out z26 0 p553 (by first | exact q553 | exact of_decide_eq_true (by first | (with_reducible assumption) | assumption) | (have e_ := (Kd.V_reads' HO0_8.out).1; omega))
      obtain ⟨ua553_8, uc553_8, rfl, ul553_8, ge553_8⟩ := k26_openF hMe553
      have hv553_8 := hcc553 8 _ rfl
      rw [add_field _ _ 8 (by omega)] at hv553_8
      replace hv553_8 := Option.some.inj (hv553_8.symm.trans hx553_8)
      injection hv553_8 with hva_ hvn_ hvc_
      rw [hva_] at ge553_8
      rw [hvc_] at ul553_8
      have HL553_8 := Asd.mk (show Kd.V k26 26 _ w.heap.size _ _ ((rd_T26 l0_8 0).f6) from Kd.V_mk ul553_8 ge553_8)
      clear hva_ hvn_ hvc_ ge553_8 ul553_8 hcc553 hce553
      have qi553 : (0 < l0_8.length) = True := eq_true (by omega)
      (try rw [show ((0 : Int)).toNat = 0 from rfl] at hx553_0)
      (try rw [show 0 * 9 = 0 from rfl] at hx553_0)
      (try rw [Addr.add_zero'] at hx553_0)
      (try rw [show ((0 : Int)).toNat = 0 from rfl] at hx553_1)
      (try rw [show 0 * 9 = 0 from rfl] at hx553_1)
      (try rw [Addr.add_zero'] at hx553_1)
      (try rw [show ((0 : Int)).toNat = 0 from rfl] at hx553_2)
      (try rw [show 0 * 9 = 0 from rfl] at hx553_2)
      (try rw [Addr.add_zero'] at hx553_2)
      (try rw [show ((0 : Int)).toNat = 0 from rfl] at hx553_3)
      (try rw [show 0 * 9 = 0 from rfl] at hx553_3)
      (try rw [Addr.add_zero'] at hx553_3)
      (try rw [show ((0 : Int)).toNat = 0 from rfl] at hx553_4)
      (try rw [show 0 * 9 = 0 from rfl] at hx553_4)
      (try rw [Addr.add_zero'] at hx553_4)
      (try rw [show ((0 : Int)).toNat = 0 from rfl] at hx553_5)
      (try rw [show 0 * 9 = 0 from rfl] at hx553_5)
      (try rw [Addr.add_zero'] at hx553_5)
      (try rw [show ((0 : Int)).toNat = 0 from rfl] at hx553_6)
      (try rw [show 0 * 9 = 0 from rfl] at hx553_6)
      (try rw [Addr.add_zero'] at hx553_6)
      (try rw [show ((0 : Int)).toNat = 0 from rfl] at hx553_7)
      (try rw [show 0 * 9 = 0 from rfl] at hx553_7)
      (try rw [Addr.add_zero'] at hx553_7)
      (try rw [show ((0 : Int)).toNat = 0 from rfl] at hx553_8)
      (try rw [show 0 * 9 = 0 from rfl] at hx553_8)
      (try rw [Addr.add_zero'] at hx553_8)
      have HR553_8 := Asd.mk hi553_8
      have HC553_8 := Asd.mk hl553_8
      clear hi553_8 hl553_8
      replace p553 := eq_true p553
      replace q553 := eq_true q553
      have p557 : 0 ≤ (1 : Int) := (by omega)
      have q557 : 1 < (l0_8.length : Int) := of_decide_eq_true (by first | (with_reducible assumption) | assumption)
      obtain ⟨ad557, A557_8, c557_8, e557, hx557_0, hx557_1, hx557_2, hx557_3, hx557_4, hx557_5, hx557_6, hx557_7, hx557_8, hl557_8, hi557_8⟩ := at_T26 (Kd.V_reads' HO0_8.out).2.2 1 p557 q557
      obtain rfl : ad553 = ad557 := (by injection e557)
      obtain ⟨ce557, hce557, hMe557, hcc557⟩ := Kd.V_get HO0_8.out z26 1 p557 (by first | exact q557 | exact of_decide_eq_true (by first | (with_reducible assumption) | assumption) | (have e_ := (Kd.V_reads' HO0_8.out).1; omega))
      obtain ⟨ua557_8, uc557_8, rfl, ul557_8, ge557_8⟩ := k26_openF hMe557
      have hv557_8 := hcc557 8 _ rfl
      rw [add_field _ _ 8 (by omega)] at hv557_8
      replace hv557_8 := Option.some.inj (hv557_8.symm.trans hx557_8)
      injection hv557_8 with hva_ hvn_ hvc_
      rw [hva_] at ge557_8
      rw [hvc_] at ul557_8
      have HL557_8 := Asd.mk (show Kd.V k26 26 _ w.heap.size _ _ ((rd_T26 l0_8 1).f6) from Kd.V_mk ul557_8 ge557_8)
      clear hva_ hvn_ hvc_ ge557_8 ul557_8 hcc557 hce557
      (try simp only [show (1 : Int).toNat = 1 from rfl, Nat.reduceMul, Nat.reduceEqDiff, Go.Addr.add, ↓reduceIte] at hx557_0)
      (try simp only [show (1 : Int).toNat = 1 from rfl, Nat.reduceMul, Nat.reduceEqDiff, Go.Addr.add, ↓reduceIte] at hx557_1)
      (try simp only [show (1 : Int).toNat = 1 from rfl, Nat.reduceMul, Nat.reduceEqDiff, Go.Addr.add, ↓reduceIte] at hx557_2)
      (try simp only [show (1 : Int).toNat = 1 from rfl, Nat.reduceMul, Nat.reduceEqDiff, Go.Addr.add, ↓reduceIte] at hx557_3)
      (try simp only [show (1 : Int).toNat = 1 from rfl, Nat.reduceMul, Nat.reduceEqDiff, Go.Addr.add, ↓reduceIte] at hx557_4)
      (try simp only [show (1 : Int).toNat = 1 from rfl, Nat.reduceMul, Nat.reduceEqDiff, Go.Addr.add, ↓reduceIte] at hx557_5)
      (try simp only [show (1 : Int).toNat = 1 from rfl, Nat.reduceMul, Nat.reduceEqDiff, Go.Addr.add, ↓reduceIte] at hx557_6)
      (try simp only [show (1 : Int).toNat = 1 from rfl, Nat.reduceMul, Nat.reduceEqDiff, Go.Addr.add, ↓reduceIte] at hx557_7)
      (try simp only [show (1 : Int).toNat = 1 from rfl, Nat.reduceMul, Nat.reduceEqDiff, Go.Addr.add, ↓reduceIte] at hx557_8)
      have qi557 : (1 < l0_8.length) = True := eq_true (by omega)
      (try rw [show ((1 : Int)).toNat = 1 from rfl] at hx557_0)
      (try rw [show 1 * 9 = 9 from rfl] at hx557_0)
      (try rw [show ((1 : Int)).toNat = 1 from rfl] at hx557_1)
      (try rw [show 1 * 9 = 9 from rfl] at hx557_1)
      (try rw [show ((1 : Int)).toNat = 1 from rfl] at hx557_2)
      (try rw [show 1 * 9 = 9 from rfl] at hx557_2)
      (try rw [show ((1 : Int)).toNat = 1 from rfl] at hx557_3)
      (try rw [show 1 * 9 = 9 from rfl] at hx557_3)
      (try rw [show ((1 : Int)).toNat = 1 from rfl] at hx557_4)
      (try rw [show 1 * 9 = 9 from rfl] at hx557_4)
      (try rw [show ((1 : Int)).toNat = 1 from rfl] at hx557_5)
      (try rw [show 1 * 9 = 9 from rfl] at hx557_5)
      (try rw [show ((1 : Int)).toNat = 1 from rfl] at hx557_6)
      (try rw [show 1 * 9 = 9 from rfl] at hx557_6)
      (try rw [show ((1 : Int)).toNat = 1 from rfl] at hx557_7)
      (try rw [show 1 * 9 = 9 from rfl] at hx557_7)
      (try rw [show ((1 : Int)).toNat = 1 from rfl] at hx557_8)
      (try rw [show 1 * 9 = 9 from rfl] at hx557_8)
      have HR557_8 := Asd.mk hi557_8
      have HC557_8 := Asd.mk hl557_8
      clear hi557_8 hl557_8
      replace p557 := eq_true p557
      replace q557 := eq_true q557
      refine start_ (n := 12) (S := fun w' => w'.cell? ⟨gb551, 0, none⟩ = some (.int .i64 a0_0) ∧ w'.cell? ⟨gb551, 1, none⟩ = some (.int .i64 a0_1) ∧ w'.cell? ⟨gb551, 2, none⟩ = some (.int .i64 a0_2) ∧ w'.cell? ⟨gb551, 3, none⟩ = some (.string a0_3) ∧ w'.cell? ⟨gb551, 4, none⟩ = some (.int .i64 a0_4) ∧ w'.cell? ⟨gb551, 5, none⟩ = some (.int .i64 a0_5) ∧ w'.cell? ⟨gb551, 6, none⟩ = some (.int .i64 a0_6) ∧ w'.cell? ⟨gb551, 7, none⟩ = some (.string a0_7) ∧ w'.cell? ⟨gb551, 8, none⟩ = some (.slice (some ad553) l0_8.length c0_8) ∧ w'.cell? ad553 = some (.int .i64 ((rd_T26 l0_8 0).f0)) ∧ w'.cell? ⟨ad553.block, ad553.off + 1, none⟩ = some (.int .i64 ((rd_T26 l0_8 0).f1.f0)) ∧ w'.cell? ⟨ad553.block, ad553.off + 2, none⟩ = some (.int .i64 ((rd_T26 l0_8 0).f1.f1)) ∧ w'.cell? ⟨ad553.block, ad553.off + 3, none⟩ = some (.string ((rd_T26 l0_8 0).f1.f2)) ∧ w'.cell? ⟨ad553.block, ad553.off + 4, none⟩ = some (.int .i64 ((rd_T26 l0_8 0).f2)) ∧ w'.cell? ⟨ad553.block, ad553.off + 5, none⟩ = some (.int .i64 ((rd_T26 l0_8 0).f3)) ∧ w'.cell? ⟨ad553.block, ad553.off + 6, none⟩ = some (.int .i64 ((rd_T26 l0_8 0).f4)) ∧ w'.cell? ⟨ad553.block, ad553.off + 7, none⟩ = some (.string ((rd_T26 l0_8 0).f5)) ∧ w'.cell? ⟨ad553.block, ad553.off + 8, none⟩ = some (.slice A553_8 ((rd_T26 l0_8 0).f6).length c553_8) ∧ w'.cell? ⟨ad553.block, ad553.off + 9, none⟩ = some (.int .i64 ((rd_T26 l0_8 1).f0)) ∧ w'.cell? ⟨ad553.block, ad553.off + 9 + 1, none⟩ = some (.int .i64 ((rd_T26 l0_8 1).f1.f0)) ∧ w'.cell? ⟨ad553.block, ad553.off + 9 + 2, none⟩ = some (.int .i64 ((rd_T26 l0_8 1).f1.f1)) ∧ w'.cell? ⟨ad553.block, ad553.off + 9 + 3, none⟩ = some (.string ((rd_T26 l0_8 1).f1.f2)) ∧ w'.cell? ⟨ad553.block, ad553.off + 9 + 4, none⟩ = some (.int .i64 ((rd_T26 l0_8 1).f2)) ∧ w'.cell? ⟨ad553.block, ad553.off + 9 + 5, none⟩ = some (.int .i64 ((rd_T26 l0_8 1).f3)) ∧ w'.cell? ⟨ad553.block, ad553.off + 9 + 6, none⟩ = some (.int .i64 ((rd_T26 l0_8 1).f4)) ∧ w'.cell? ⟨ad553.block, ad553.off + 9 + 7, none⟩ = some (.string ((rd_T26 l0_8 1).f5)) ∧ w'.cell? ⟨ad553.block, ad553.off + 9 + 8, none⟩ = some (.slice A557_8 ((rd_T26 l0_8 1).f6).length c557_8)) (ds := [10]) #[false, false, false, false, false, false, false, false, false, false, false, false] (by kernel_rfl) rfl rfl ⟨(bkC BK551.out 0).trans rfl, (bkC BK551.out 1).trans rfl, (bkC BK551.out 2).trans rfl, (bkC BK551.out 3).trans rfl, (bkC BK551.out 4).trans rfl, (bkC BK551.out 5).trans rfl, (bkC BK551.out 6).trans rfl, (bkC BK551.out 7).trans rfl, (bkC BK551.out 8).trans rfl, hx553_0, hx553_1, hx553_2, hx553_3, hx553_4, hx553_5, hx553_6, hx553_7, hx553_8, hx557_0, hx557_1, hx557_2, hx557_3, hx557_4, hx557_5, hx557_6, hx557_7, hx557_8⟩ (fun hHeld => ?_); refine with_tabW expr_Split.tab5 expr_Split.bits5 (fun HT_ HW_ => ?_)
      generalize w12.drew = w14 at HO0_8 BK551 HB HL553_8 HL557_8 HR553_8 HR557_8 hx553_0 hx553_1 hx553_2 hx553_3 hx553_4 hx553_5 hx553_6 hx553_7 hx553_8 hx557_0 hx557_1 hx557_2 hx557_3 hx557_4 hx557_5 hx557_6 hx557_7 hx557_8 hHeld ⊢
      refine pure_ (i := 0) (N := some 11) (v := ?_) (a' := ?_) #[true, false, false, false, false, false, false, false, false, false, false, false] rfl rfl (any_of HT_.out (by kernel_rfl)) (fun _ _ _ h => h) (Or.inl ⟨by rfl, ?_⟩) ?_ ?_
      rotate_left
      ·intro w'
       go_simp
       with_reducible rfl
      rotate_left
      ·simp only [Act.put, List.setIfInBounds_toArray, List.set_cons_zero, List.set_cons_succ, i64_w, i32_w]
       rfl
      refine pure_ (i := 5) (N := some 16) (v := ?_) (a' := ?_) #[true, false, false, false, false, true, false, false, false, false, false, false] rfl rfl (any_of HT_.out (by kernel_rfl)) (fun _ _ _ h => h) (Or.inl ⟨by rfl, ?_⟩) ?_ ?_
      rotate_left
      ·intro w'
       go_simp
       with_reducible rfl
      rotate_left
      ·simp only [Act.put, List.setIfInBounds_toArray, List.set_cons_zero, List.set_cons_succ, i64_w, i32_w]
       rfl
      refine take_ (i := 1) (N := some 12) (v := ?_) (a' := ?_) #[true, true, false, false, false, true, false, false, false, false, false, false] rfl rfl (take_ofW HT_.out HW_.out (by kernel_rfl)) (fun _ _ _ h => h) (Or.inl ⟨by rfl, ?_⟩) hHeld ?_ ?_
      rotate_left
      ·rintro w' ⟨s0, s1, s2, s3, s4, s5, s6, s7, s8, s9, s10, s11, s12, s13, s14, s15, s16, s17, s18, s19, s20, s21, s22, s23, s24, s25, s26⟩
       go_simp
       with_reducible rfl
      rotate_left
      ·simp only [Act.put, List.setIfInBounds_toArray, List.set_cons_zero, List.set_cons_succ, i64_w, i32_w]
       rfl
      refine pure_ (i := 2) (N := some 13) (v := ?_) (a' := ?_) #[true, true, true, false, false, true, false, false, false, false, false, false] rfl rfl (any_of HT_.out (by kernel_rfl)) (fun _ _ _ h => h) (Or.inl ⟨by rfl, ?_⟩) ?_ ?_
      rotate_left
      ·intro w'
       go_simp
       with_reducible rfl
      rotate_left
      ·simp only [Act.put, List.setIfInBounds_toArray, List.set_cons_zero, List.set_cons_succ, i64_w, i32_w]
       rfl
      refine take_ (i := 3) (N := some 14) (v := ?_) (a' := ?_) #[true, true, true, true, false, true, false, false, false, false, false, false] rfl rfl (take_ofW HT_.out HW_.out (by kernel_rfl)) (fun _ _ _ h => h) (Or.inl ⟨by rfl, ?_⟩) hHeld ?_ ?_
      rotate_left
      ·rintro w' ⟨s0, s1, s2, s3, s4, s5, s6, s7, s8, s9, s10, s11, s12, s13, s14, s15, s16, s17, s18, s19, s20, s21, s22, s23, s24, s25, s26⟩
       go_simp
       with_reducible rfl
      rotate_left
      ·simp only [Act.put, List.setIfInBounds_toArray, List.set_cons_zero, List.set_cons_succ, i64_w, i32_w]
       rfl
      refine take_ (i := 6) (N := some 17) (v := ?_) (a' := ?_) #[true, true, true, true, false, true, true, false, false, false, false, false] rfl rfl (take_ofW HT_.out HW_.out (by kernel_rfl)) (fun _ _ _ h => h) (Or.inl ⟨by rfl, ?_⟩) hHeld ?_ ?_
      rotate_left
      ·rintro w' ⟨s0, s1, s2, s3, s4, s5, s6, s7, s8, s9, s10, s11, s12, s13, s14, s15, s16, s17, s18, s19, s20, s21, s22, s23, s24, s25, s26⟩
       go_simp
       with_reducible rfl
      rotate_left
      ·simp only [Act.put, List.setIfInBounds_toArray, List.set_cons_zero, List.set_cons_succ, i64_w, i32_w]
       rfl
      refine pure_ (i := 7) (N := some 18) (v := ?_) (a' := ?_) #[true, true, true, true, false, true, true, true, false, false, false, false] rfl rfl (any_of HT_.out (by kernel_rfl)) (fun _ _ _ h => h) (Or.inl ⟨by rfl, ?_⟩) ?_ ?_
      rotate_left
      ·intro w'
       go_simp
       with_reducible rfl
      rotate_left
      ·simp only [Act.put, List.setIfInBounds_toArray, List.set_cons_zero, List.set_cons_succ, i64_w, i32_w]
       rfl
      refine take_ (i := 8) (N := some 19) (v := ?_) (a' := ?_) #[true, true, true, true, false, true, true, true, true, false, false, false] rfl rfl (take_ofW HT_.out HW_.out (by kernel_rfl)) (fun _ _ _ h => h) (Or.inl ⟨by rfl, ?_⟩) hHeld ?_ ?_
      rotate_left
      ·rintro w' ⟨s0, s1, s2, s3, s4, s5, s6, s7, s8, s9, s10, s11, s12, s13, s14, s15, s16, s17, s18, s19, s20, s21, s22, s23, s24, s25, s26⟩
       go_simp
       with_reducible rfl
      rotate_left
      ·simp only [Act.put, List.setIfInBounds_toArray, List.set_cons_zero, List.set_cons_succ, i64_w, i32_w]
       rfl
      refine one_ (i := 4) (N := some 15) #[true, true, true, true, true, true, true, true, true, false, false, false] rfl rfl (one_of HT_.out (by kernel_rfl)) (by decide) (fun K hK => ?_)
      refine goes_ Tryd.func26 (by kernel_rfl) rfl #[.agg #[.int .i64 ((rd_T26 l0_8 0).f0), .int .i64 ((rd_T26 l0_8 0).f1.f0), .int .i64 ((rd_T26 l0_8 0).f1.f1), .string ((rd_T26 l0_8 0).f1.f2), .int .i64 ((rd_T26 l0_8 0).f2), .int .i64 ((rd_T26 l0_8 0).f3), .int .i64 ((rd_T26 l0_8 0).f4), .string ((rd_T26 l0_8 0).f5), .slice A553_8 ((rd_T26 l0_8 0).f6).length c553_8]] (by rfl) rfl rfl (by (try simp only [List.map_toArray, List.map_cons, List.map_nil]); first | done | rfl | (simp only [List.length_drop, List.length_take]; rfl)) ?_
      with_reducible refine (ih k (by omega) ((rd_T26 l0_8 0).f0) ((rd_T26 l0_8 0).f1.f0) ((rd_T26 l0_8 0).f1.f1) ((rd_T26 l0_8 0).f1.f2) ((rd_T26 l0_8 0).f2) ((rd_T26 l0_8 0).f3) ((rd_T26 l0_8 0).f4) ((rd_T26 l0_8 0).f5) (fun k_ => ((P0_8_ k_ ∨ w.heap.size ≤ k_) ∧ k_ ≠ gb551)) _ _ ((rd_T26 l0_8 0).f6) t554 _ ?side1 A6.out).mono ?_
      (case side1 => exact HL553_8.out)
      rintro e w15 ⟨v555, rfl, ho0, hb⟩
      have HS9_ := (hb.cell (World.block_lt_of_cell? _ _ (hHeld.2.2.2.2.2.2.2.2.2.1))).trans (hHeld.2.2.2.2.2.2.2.2.2.1)
      have HS10_ := (hb.cell (World.block_lt_of_cell? _ _ (hHeld.2.2.2.2.2.2.2.2.2.2.1))).trans (hHeld.2.2.2.2.2.2.2.2.2.2.1)
      have HS11_ := (hb.cell (World.block_lt_of_cell? _ _ (hHeld.2.2.2.2.2.2.2.2.2.2.2.1))).trans (hHeld.2.2.2.2.2.2.2.2.2.2.2.1)
      have HS12_ := (hb.cell (World.block_lt_of_cell? _ _ (hHeld.2.2.2.2.2.2.2.2.2.2.2.2.1))).trans (hHeld.2.2.2.2.2.2.2.2.2.2.2.2.1)
      have HS13_ := (hb.cell (World.block_lt_of_cell? _ _ (hHeld.2.2.2.2.2.2.2.2.2.2.2.2.2.1))).trans (hHeld.2.2.2.2.2.2.2.2.2.2.2.2.2.1)
      have HS14_ := (hb.cell (World.block_lt_of_cell? _ _ (hHeld.2.2.2.2.2.2.2.2.2.2.2.2.2.2.1))).trans (hHeld.2.2.2.2.2.2.2.2.2.2.2.2.2.2.1)
      have HS15_ := (hb.cell (World.block_lt_of_cell? _ _ (hHeld.2.2.2.2.2.2.2.2.2.2.2.2.2.2.2.1))).trans (hHeld.2.2.2.2.2.2.2.2.2.2.2.2.2.2.2.1)
      have HS16_ := (hb.cell (World.block_lt_of_cell? _ _ (hHeld.2.2.2.2.2.2.2.2.2.2.2.2.2.2.2.2.1))).trans (hHeld.2.2.2.2.2.2.2.2.2.2.2.2.2.2.2.2.1)
      have HS17_ := (hb.cell (World.block_lt_of_cell? _ _ (hHeld.2.2.2.2.2.2.2.2.2.2.2.2.2.2.2.2.2.1))).trans (hHeld.2.2.2.2.2.2.2.2.2.2.2.2.2.2.2.2.2.1)
      have HS18_ := (hb.cell (World.block_lt_of_cell? _ _ (hHeld.2.2.2.2.2.2.2.2.2.2.2.2.2.2.2.2.2.2.1))).trans (hHeld.2.2.2.2.2.2.2.2.2.2.2.2.2.2.2.2.2.2.1)
      have HS19_ := (hb.cell (World.block_lt_of_cell? _ _ (hHeld.2.2.2.2.2.2.2.2.2.2.2.2.2.2.2.2.2.2.2.1))).trans (hHeld.2.2.2.2.2.2.2.2.2.2.2.2.2.2.2.2.2.2.2.1)
      have HS20_ := (hb.cell (World.block_lt_of_cell? _ _ (hHeld.2.2.2.2.2.2.2.2.2.2.2.2.2.2.2.2.2.2.2.2.1))).trans (hHeld.2.2.2.2.2.2.2.2.2.2.2.2.2.2.2.2.2.2.2.2.1)
      have HS21_ := (hb.cell (World.block_lt_of_cell? _ _ (hHeld.2.2.2.2.2.2.2.2.2.2.2.2.2.2.2.2.2.2.2.2.2.1))).trans (hHeld.2.2.2.2.2.2.2.2.2.2.2.2.2.2.2.2.2.2.2.2.2.1)
      have HS22_ := (hb.cell (World.block_lt_of_cell? _ _ (hHeld.2.2.2.2.2.2.2.2.2.2.2.2.2.2.2.2.2.2.2.2.2.2.1))).trans (hHeld.2.2.2.2.2.2.2.2.2.2.2.2.2.2.2.2.2.2.2.2.2.2.1)
      have HS23_ := (hb.cell (World.block_lt_of_cell? _ _ (hHeld.2.2.2.2.2.2.2.2.2.2.2.2.2.2.2.2.2.2.2.2.2.2.2.1))).trans (hHeld.2.2.2.2.2.2.2.2.2.2.2.2.2.2.2.2.2.2.2.2.2.2.2.1)
      have HS24_ := (hb.cell (World.block_lt_of_cell? _ _ (hHeld.2.2.2.2.2.2.2.2.2.2.2.2.2.2.2.2.2.2.2.2.2.2.2.2.1))).trans (hHeld.2.2.2.2.2.2.2.2.2.2.2.2.2.2.2.2.2.2.2.2.2.2.2.2.1)
      have HS25_ := (hb.cell (World.block_lt_of_cell? _ _ (hHeld.2.2.2.2.2.2.2.2.2.2.2.2.2.2.2.2.2.2.2.2.2.2.2.2.2.1))).trans (hHeld.2.2.2.2.2.2.2.2.2.2.2.2.2.2.2.2.2.2.2.2.2.2.2.2.2.1)
      have HS26_ := (hb.cell (World.block_lt_of_cell? _ _ (hHeld.2.2.2.2.2.2.2.2.2.2.2.2.2.2.2.2.2.2.2.2.2.2.2.2.2.2))).trans (hHeld.2.2.2.2.2.2.2.2.2.2.2.2.2.2.2.2.2.2.2.2.2.2.2.2.2.2)
      refine ⟨_, rfl, ?_⟩
      have n0_ := Asd.mk (Kd.V_elder' (by (with_reducible repeat (first | apply Kd.V_alloc | apply Kd.V_drewN | apply Kd.V_drew)); exact HO0_8.out) (Kd.N_base ho0) hb)
      have n1_ := Asd.mk (Kd.V_elder' (by (with_reducible repeat (first | apply Kd.V_alloc | apply Kd.V_drewN | apply Kd.V_drew)); exact HL553_8.out) (Kd.N_base ho0) hb)
      have n2_ := Asd.mk (Kd.V_elder' (by (with_reducible repeat (first | apply Kd.V_alloc | apply Kd.V_drewN | apply Kd.V_drew)); exact HL557_8.out) (Kd.N_base ho0) hb)
      have n3_ := Asd.mk (Kd.N_lower (Kd.N_mono (ok' := fun k_ => (P0_8_ k_ ∨ w.heap.size ≤ k_) ∧ k_ ≠ gb551) ho0 (fun k_ hk_ => ⟨Or.elim hk_ (fun hs_ => hs_.1) (fun hn_ => (.inr (Nat.le_trans (below_size (by repeat (first | (with_reducible first | exact HB.out | apply blA | apply pbN | apply blD | refine blS ?_ GE551.out) | exact HB.out))) hn_))), Or.elim hk_ (fun hs_ => hs_.2) (fun hn_ => (Kd.freshB (g := gb551) (o := .cells #[.int .i64 a0_0, .int .i64 a0_1, .int .i64 a0_2, .string a0_3, .int .i64 a0_4, .int .i64 a0_5, .int .i64 a0_6, .string a0_7, .slice (some ad553) l0_8.length c0_8] 26 (0, 0)) (by (with_reducible repeat (first | refine bkN ?_ _ | refine bkD ?_ | refine bkA ?_ _)); exact BK551.out) k_ hn_))⟩)) (below_size (by repeat (first | (with_reducible first | exact HB.out | apply blA | apply pbN | apply blD | refine blS ?_ GE551.out) | exact HB.out))))
      have n4_ := Asd.mk (blk_below (g := gb551) (o := .cells #[.int .i64 a0_0, .int .i64 a0_1, .int .i64 a0_2, .string a0_3, .int .i64 a0_4, .int .i64 a0_5, .int .i64 a0_6, .string a0_7, .slice (some ad553) l0_8.length c0_8] 26 (0, 0)) (by (with_reducible repeat (first | refine bkN ?_ _ | refine bkD ?_ | refine bkA ?_ _)); exact BK551.out) hb)
      have n5_ := Asd.mk (Kd.C_below (by repeat (first | (with_reducible exact HR553_8.out) | (with_reducible refine Kd.C_alloc ?_ _) | (with_reducible refine Kd.C_drewN ?_ _) | (with_reducible refine Kd.C_drew ?_) | exact HR553_8.out)) hb)
      have n6_ := Asd.mk (Kd.C_below (by repeat (first | (with_reducible exact HR557_8.out) | (with_reducible refine Kd.C_alloc ?_ _) | (with_reducible refine Kd.C_drewN ?_ _) | (with_reducible refine Kd.C_drew ?_) | exact HR557_8.out)) hb)
      have n7_ := Asd.mk (below_step (by repeat (first | (with_reducible first | exact HB.out | apply blA | apply pbN | apply blD | refine blS ?_ GE551.out) | exact HB.out)) hb)
      clear HO0_8 HL553_8 HL557_8 BK551 HR553_8 HR557_8 HB
      have HO0_8 := n0_
      have HL553_8 := n1_
      have HL557_8 := n2_
      have HO556 := n3_
      have BK551 := n4_
      have HR553_8 := n5_
      have HR557_8 := n6_
      have HB := n7_
      clear n0_ n1_ n2_ n3_ n4_ n5_ n6_ n7_
      (try clear hb)
      (try clear hb2)
      (try clear hk)
      (try clear hi)
      (try clear ho0)
      refine hK.out _ _ ⟨(bkC BK551.out 0).trans rfl, (bkC BK551.out 1).trans rfl, (bkC BK551.out 2).trans rfl, (bkC BK551.out 3).trans rfl, (bkC BK551.out 4).trans rfl, (bkC BK551.out 5).trans rfl, (bkC BK551.out 6).trans rfl, (bkC BK551.out 7).trans rfl, (bkC BK551.out 8).trans rfl, HS9_, HS10_, HS11_, HS12_, HS13_, HS14_, HS15_, HS16_, HS17_, HS18_, HS19_, HS20_, HS21_, HS22_, HS23_, HS24_, HS25_, HS26_⟩ (fun hHeld => ?_)
      clear hK K
      refine norm_ (a' := ?_) ?_ ?_
      rotate_left
      ·show Act.put _ (some 15) _ = _
       simp only [Act.put, List.setIfInBounds_toArray, List.set_cons_zero, List.set_cons_succ, i64_w, i32_w]
       rfl
      refine one_ (i := 9) (N := some 20) #[true, true, true, true, true, true, true, true, true, true, false, false] rfl rfl (one_of HT_.out (by kernel_rfl)) (by decide) (fun K hK => ?_)
      refine goes_ Tryd.func26 (by kernel_rfl) rfl #[.agg #[.int .i64 ((rd_T26 l0_8 1).f0), .int .i64 ((rd_T26 l0_8 1).f1.f0), .int .i64 ((rd_T26 l0_8 1).f1.f1), .string ((rd_T26 l0_8 1).f1.f2), .int .i64 ((rd_T26 l0_8 1).f2), .int .i64 ((rd_T26 l0_8 1).f3), .int .i64 ((rd_T26 l0_8 1).f4), .string ((rd_T26 l0_8 1).f5), .slice A557_8 ((rd_T26 l0_8 1).f6).length c557_8]] (by rfl) rfl rfl (by (try simp only [List.map_toArray, List.map_cons, List.map_nil]); first | done | rfl | (simp only [List.length_drop, List.length_take]; rfl)) ?_
      with_reducible refine (ih k (by omega) ((rd_T26 l0_8 1).f0) ((rd_T26 l0_8 1).f1.f0) ((rd_T26 l0_8 1).f1.f1) ((rd_T26 l0_8 1).f1.f2) ((rd_T26 l0_8 1).f2) ((rd_T26 l0_8 1).f3) ((rd_T26 l0_8 1).f4) ((rd_T26 l0_8 1).f5) (fun k_ => (((P0_8_ k_ ∨ w.heap.size ≤ k_) ∧ k_ ≠ gb551) ∧ some k_ ≠ (v555 : Value).ownBlock)) _ _ ((rd_T26 l0_8 1).f6) t558 _ ?side1 A8.out).mono ?_
      (case side1 => exact HL557_8.out)
      rintro e w16 ⟨v559, rfl, ho0, hb⟩
      have HS9_ := (hb.cell (World.block_lt_of_cell? _ _ (hHeld.2.2.2.2.2.2.2.2.2.1))).trans (hHeld.2.2.2.2.2.2.2.2.2.1)
      have HS10_ := (hb.cell (World.block_lt_of_cell? _ _ (hHeld.2.2.2.2.2.2.2.2.2.2.1))).trans (hHeld.2.2.2.2.2.2.2.2.2.2.1)
      have HS11_ := (hb.cell (World.block_lt_of_cell? _ _ (hHeld.2.2.2.2.2.2.2.2.2.2.2.1))).trans (hHeld.2.2.2.2.2.2.2.2.2.2.2.1)
      have HS12_ := (hb.cell (World.block_lt_of_cell? _ _ (hHeld.2.2.2.2.2.2.2.2.2.2.2.2.1))).trans (hHeld.2.2.2.2.2.2.2.2.2.2.2.2.1)
      have HS13_ := (hb.cell (World.block_lt_of_cell? _ _ (hHeld.2.2.2.2.2.2.2.2.2.2.2.2.2.1))).trans (hHeld.2.2.2.2.2.2.2.2.2.2.2.2.2.1)
      have HS14_ := (hb.cell (World.block_lt_of_cell? _ _ (hHeld.2.2.2.2.2.2.2.2.2.2.2.2.2.2.1))).trans (hHeld.2.2.2.2.2.2.2.2.2.2.2.2.2.2.1)
      have HS15_ := (hb.cell (World.block_lt_of_cell? _ _ (hHeld.2.2.2.2.2.2.2.2.2.2.2.2.2.2.2.1))).trans (hHeld.2.2.2.2.2.2.2.2.2.2.2.2.2.2.2.1)
      have HS16_ := (hb.cell (World.block_lt_of_cell? _ _ (hHeld.2.2.2.2.2.2.2.2.2.2.2.2.2.2.2.2.1))).trans (hHeld.2.2.2.2.2.2.2.2.2.2.2.2.2.2.2.2.1)
      have HS17_ := (hb.cell (World.block_lt_of_cell? _ _ (hHeld.2.2.2.2.2.2.2.2.2.2.2.2.2.2.2.2.2.1))).trans (hHeld.2.2.2.2.2.2.2.2.2.2.2.2.2.2.2.2.2.1)
      have HS18_ := (hb.cell (World.block_lt_of_cell? _ _ (hHeld.2.2.2.2.2.2.2.2.2.2.2.2.2.2.2.2.2.2.1))).trans (hHeld.2.2.2.2.2.2.2.2.2.2.2.2.2.2.2.2.2.2.1)
      have HS19_ := (hb.cell (World.block_lt_of_cell? _ _ (hHeld.2.2.2.2.2.2.2.2.2.2.2.2.2.2.2.2.2.2.2.1))).trans (hHeld.2.2.2.2.2.2.2.2.2.2.2.2.2.2.2.2.2.2.2.1)
      have HS20_ := (hb.cell (World.block_lt_of_cell? _ _ (hHeld.2.2.2.2.2.2.2.2.2.2.2.2.2.2.2.2.2.2.2.2.1))).trans (hHeld.2.2.2.2.2.2.2.2.2.2.2.2.2.2.2.2.2.2.2.2.1)
      have HS21_ := (hb.cell (World.block_lt_of_cell? _ _ (hHeld.2.2.2.2.2.2.2.2.2.2.2.2.2.2.2.2.2.2.2.2.2.1))).trans (hHeld.2.2.2.2.2.2.2.2.2.2.2.2.2.2.2.2.2.2.2.2.2.1)
      have HS22_ := (hb.cell (World.block_lt_of_cell? _ _ (hHeld.2.2.2.2.2.2.2.2.2.2.2.2.2.2.2.2.2.2.2.2.2.2.1))).trans (hHeld.2.2.2.2.2.2.2.2.2.2.2.2.2.2.2.2.2.2.2.2.2.2.1)
      have HS23_ := (hb.cell (World.block_lt_of_cell? _ _ (hHeld.2.2.2.2.2.2.2.2.2.2.2.2.2.2.2.2.2.2.2.2.2.2.2.1))).trans (hHeld.2.2.2.2.2.2.2.2.2.2.2.2.2.2.2.2.2.2.2.2.2.2.2.1)
      have HS24_ := (hb.cell (World.block_lt_of_cell? _ _ (hHeld.2.2.2.2.2.2.2.2.2.2.2.2.2.2.2.2.2.2.2.2.2.2.2.2.1))).trans (hHeld.2.2.2.2.2.2.2.2.2.2.2.2.2.2.2.2.2.2.2.2.2.2.2.2.1)
      have HS25_ := (hb.cell (World.block_lt_of_cell? _ _ (hHeld.2.2.2.2.2.2.2.2.2.2.2.2.2.2.2.2.2.2.2.2.2.2.2.2.2.1))).trans (hHeld.2.2.2.2.2.2.2.2.2.2.2.2.2.2.2.2.2.2.2.2.2.2.2.2.2.1)
      have HS26_ := (hb.cell (World.block_lt_of_cell? _ _ (hHeld.2.2.2.2.2.2.2.2.2.2.2.2.2.2.2.2.2.2.2.2.2.2.2.2.2.2))).trans (hHeld.2.2.2.2.2.2.2.2.2.2.2.2.2.2.2.2.2.2.2.2.2.2.2.2.2.2)
      refine ⟨_, rfl, ?_⟩
      have n0_ := Asd.mk (Kd.V_elder' (by (with_reducible repeat (first | apply Kd.V_alloc | apply Kd.V_drewN | apply Kd.V_drew)); exact HO0_8.out) (Kd.N_base ho0) hb)
      have n1_ := Asd.mk (Kd.V_elder' (by (with_reducible repeat (first | apply Kd.V_alloc | apply Kd.V_drewN | apply Kd.V_drew)); exact HL553_8.out) (Kd.N_base ho0) hb)
      have n2_ := Asd.mk (Kd.V_elder' (by (with_reducible repeat (first | apply Kd.V_alloc | apply Kd.V_drewN | apply Kd.V_drew)); exact HL557_8.out) (Kd.N_base ho0) hb)
      have n3_ := Asd.mk (Kd.N_elder' (by (with_reducible repeat (first | apply Kd.N_alloc | apply Kd.N_drewN | apply Kd.N_drew)); exact HO556.out) (Kd.N_base ho0) hb)
      have n4_ := Asd.mk (Kd.N_lower (Kd.N_mono (ok' := fun k_ => (P0_8_ k_ ∨ w.heap.size ≤ k_) ∧ some k_ ≠ (v555 : Value).ownBlock ∧ k_ ≠ gb551) ho0 (fun k_ hk_ => ⟨Or.elim hk_ (fun hs_ => hs_.1.1) (fun hn_ => (.inr (Nat.le_trans (below_size (by repeat (first | (with_reducible first | exact HB.out | apply blA | apply pbN | apply blD | refine blS ?_ GE551.out) | exact HB.out))) hn_))), Or.elim hk_ (fun hs_ => hs_.2) (fun hn_ => (Kd.fresh' (Kd.N_lt (by (with_reducible repeat (first | apply Kd.N_alloc | apply Kd.N_drewN | apply Kd.N_drew)); exact HO556.out)) k_ hn_)), Or.elim hk_ (fun hs_ => hs_.1.2) (fun hn_ => (Kd.freshB (g := gb551) (o := .cells #[.int .i64 a0_0, .int .i64 a0_1, .int .i64 a0_2, .string a0_3, .int .i64 a0_4, .int .i64 a0_5, .int .i64 a0_6, .string a0_7, .slice (some ad553) l0_8.length c0_8] 26 (0, 0)) (by (with_reducible repeat (first | refine bkN ?_ _ | refine bkD ?_ | refine bkA ?_ _)); exact BK551.out) k_ hn_))⟩)) (below_size (by repeat (first | (with_reducible first | exact HB.out | apply blA | apply pbN | apply blD | refine blS ?_ GE551.out) | exact HB.out))))
      have n5_ := Asd.mk (blk_below (g := gb551) (o := .cells #[.int .i64 a0_0, .int .i64 a0_1, .int .i64 a0_2, .string a0_3, .int .i64 a0_4, .int .i64 a0_5, .int .i64 a0_6, .string a0_7, .slice (some ad553) l0_8.length c0_8] 26 (0, 0)) (by (with_reducible repeat (first | refine bkN ?_ _ | refine bkD ?_ | refine bkA ?_ _)); exact BK551.out) hb)
      have n6_ := Asd.mk (Kd.C_below (by repeat (first | (with_reducible exact HR553_8.out) | (with_reducible refine Kd.C_alloc ?_ _) | (with_reducible refine Kd.C_drewN ?_ _) | (with_reducible refine Kd.C_drew ?_) | exact HR553_8.out)) hb)
      have n7_ := Asd.mk (Kd.C_below (by repeat (first | (with_reducible exact HR557_8.out) | (with_reducible refine Kd.C_alloc ?_ _) | (with_reducible refine Kd.C_drewN ?_ _) | (with_reducible refine Kd.C_drew ?_) | exact HR557_8.out)) hb)
      have n8_ := Asd.mk (below_step (by repeat (first | (with_reducible first | exact HB.out | apply blA | apply pbN | apply blD | refine blS ?_ GE551.out) | exact HB.out)) hb)
      clear HO0_8 HL553_8 HL557_8 HO556 BK551 HR553_8 HR557_8 HB
      have HO0_8 := n0_
      have HL553_8 := n1_
      have HL557_8 := n2_
      have HO556 := n3_
      have HO560 := n4_
      have BK551 := n5_
      have HR553_8 := n6_
      have HR557_8 := n7_
      have HB := n8_
      clear n0_ n1_ n2_ n3_ n4_ n5_ n6_ n7_ n8_
      (try clear hb)
      (try clear hb2)
      (try clear hk)
      (try clear hi)
      (try clear ho0)
      obtain ⟨Ao18, co18, eo18⟩ := Kd.N_slice HO560.out
      (first | subst eo18 | (injection eo18 with f1_ f2_ f3_; have f4_ := f1_.symm; have f5_ := f3_.symm; clear f1_ f2_ f3_; subst f4_; subst f5_))
      refine hK.out _ _ ⟨(bkC BK551.out 0).trans rfl, (bkC BK551.out 1).trans rfl, (bkC BK551.out 2).trans rfl, (bkC BK551.out 3).trans rfl, (bkC BK551.out 4).trans rfl, (bkC BK551.out 5).trans rfl, (bkC BK551.out 6).trans rfl, (bkC BK551.out 7).trans rfl, (bkC BK551.out 8).trans rfl, HS9_, HS10_, HS11_, HS12_, HS13_, HS14_, HS15_, HS16_, HS17_, HS18_, HS19_, HS20_, HS21_, HS22_, HS23_, HS24_, HS25_, HS26_⟩ (fun hHeld => ?_)
      clear hK K
      refine norm_ (a' := ?_) ?_ ?_
      rotate_left
      ·show Act.put _ (some 20) _ = _
       simp only [Act.put, List.setIfInBounds_toArray, List.set_cons_zero, List.set_cons_succ, i64_w, i32_w]
       rfl
      refine last_ (i := 10) (N := some 21) #[true, true, true, true, true, true, true, true, true, true, true, false] rfl rfl (one_of HT_.out (by kernel_rfl)) (by decide) (fun K hK => ?_)
      refine Kd.N_append_rows_step k26 (w0 := w) w.heap.size (by rfl) (.tmp 15) (.tmp 20) 24 26 (.agg #[(.int .i64 0), (.int .i64 0), (.int .i64 0), (.string ⟨#[]⟩), (.int .i64 0), (.int .i64 0), (.int .i64 0), (.string ⟨#[]⟩), (.slice none 0 0)]) 104 rfl Tryd.underlying24 info26 rfl (by decide) (by omega) v555 t554 t558 _ _ _ (fun k_ => (P0_8_ k_ ∨ w.heap.size ≤ k_) ∧ k_ ≠ gb551) (fun k_ => ((fun k_ => (P0_8_ k_ ∨ w.heap.size ≤ k_) ∧ k_ ≠ gb551)) k_ ∧ some k_ ≠ (v555 : Value).ownBlock) rfl rfl ?aO ?aR (fun _ hk => hk) ?aF ?aB ?aS ?aL ?_
      (case aR => exact (by skip; exact Kd.N_F (Kd.N_mono (ok' := (fun k_ => ((fun k_ => (P0_8_ k_ ∨ w.heap.size ≤ k_) ∧ k_ ≠ gb551)) k_ ∧ some k_ ≠ (v555 : Value).ownBlock)) (HO560.out) (fun k_ hk => ⟨⟨hk.1, hk.2.2⟩, hk.2.1⟩))))
      (case aB => exact (by repeat (first | (with_reducible first | exact HB.out | apply blA | apply pbN | apply blD | refine blS ?_ GE551.out) | exact HB.out)))
      (case aF => exact (fun k_ hk => ⟨(.inr (Nat.le_trans (below_size (by repeat (first | (with_reducible first | exact HB.out | apply blA | apply pbN | apply blD | refine blS ?_ GE551.out) | exact HB.out))) hk)), Kd.freshB (g := gb551) (o := .cells #[.int .i64 a0_0, .int .i64 a0_1, .int .i64 a0_2, .string a0_3, .int .i64 a0_4, .int .i64 a0_5, .int .i64 a0_6, .string a0_7, .slice (some ad553) l0_8.length c0_8] 26 (0, 0)) (by (with_reducible repeat (first | refine bkN ?_ _ | refine bkD ?_ | refine bkA ?_ _)); exact BK551.out) k_ hk⟩))
      (case aO => exact (by (with_reducible repeat (first | apply Kd.N_alloc | apply Kd.N_drewN | apply Kd.N_drew)); exact Kd.N_mono HO556.out (fun _ hk => ⟨hk.1.1, hk.1.2⟩)))
      (case aS => exact (below_size (by repeat (first | (with_reducible first | exact HB.out | apply blA | apply pbN | apply blD | refine blS ?_ GE551.out) | exact HB.out))))
      (case aL => have := LMc9.out; omega)
      intro v562 w17 ho hb hg hat
      rw [← Ny561.out] at ho
      have n0_ := Asd.mk (Kd.V_afterv (ok := (fun k_ => (P0_8_ k_ ∨ w.heap.size ≤ k_) ∧ some k_ ≠ (.slice Ao18 t558.length co18 : Value).ownBlock ∧ k_ ≠ gb551)) (by (with_reducible repeat (first | apply Kd.V_alloc | apply Kd.V_drewN | apply Kd.V_drew)); exact Kd.V_mono HO0_8.out (fun _ hk => ⟨⟨hk.1.1.1, ⟨hk.2, hk.1.1.2⟩⟩, hk.1.2⟩)) hg hat)
      have n1_ := Asd.mk (blk_grown (g := gb551) (o := .cells #[.int .i64 a0_0, .int .i64 a0_1, .int .i64 a0_2, .string a0_3, .int .i64 a0_4, .int .i64 a0_5, .int .i64 a0_6, .string a0_7, .slice (some ad553) l0_8.length c0_8] 26 (0, 0)) (by (with_reducible repeat (first | refine bkN ?_ _ | refine bkD ?_ | refine bkA ?_ _)); exact BK551.out) hg (Kd.N_away HO556.out (fun _ hk => hk.1.2)))
      have n2_ := Asd.mk (Kd.V_afterv (ok := (fun k_ => (P0_8_ k_ ∨ w.heap.size ≤ k_) ∧ some k_ ≠ (.slice Ao18 t558.length co18 : Value).ownBlock ∧ k_ ≠ gb551)) (by (with_reducible repeat (first | apply Kd.V_alloc | apply Kd.V_drewN | apply Kd.V_drew)); exact Kd.V_mono HL553_8.out (fun _ hk => ⟨⟨hk.1.1.1, ⟨hk.2, hk.1.1.2⟩⟩, hk.1.2⟩)) hg hat)
      have n3_ := Asd.mk (Kd.V_afterv (ok := (fun k_ => (P0_8_ k_ ∨ w.heap.size ≤ k_) ∧ some k_ ≠ (.slice Ao18 t558.length co18 : Value).ownBlock ∧ k_ ≠ gb551)) (by (with_reducible repeat (first | apply Kd.V_alloc | apply Kd.V_drewN | apply Kd.V_drew)); exact Kd.V_mono HL557_8.out (fun _ hk => ⟨⟨hk.1.1.1, ⟨hk.2, hk.1.1.2⟩⟩, hk.1.2⟩)) hg hat)
      have n4_ := Asd.mk (Kd.N_afterv (ok := (fun k_ => (P0_8_ k_ ∨ w.heap.size ≤ k_) ∧ k_ ≠ gb551)) (by (with_reducible repeat (first | apply Kd.N_alloc | apply Kd.N_drewN | apply Kd.N_drew)); exact Kd.N_mono HO560.out (fun _ hk => ⟨⟨hk.1, hk.2.2⟩, hk.2.1⟩)) hg hat)
      have n5_ := Asd.mk (hb)
      have n6_ := Asd.mk (ho)
      clear HO0_8 BK551 HL553_8 HL557_8 HO560 HB HO556
      have HO0_8 := n0_
      have BK551 := n1_
      have HL553_8 := n2_
      have HL557_8 := n3_
      have HO560 := n4_
      have HB := n5_
      have HO563 := n6_
      clear n0_ n1_ n2_ n3_ n4_ n5_ n6_ ho hb hg hat
      refine hK.out _ _ ?_
      clear hK K
      refine norm_ (a' := ?_) ?_ ?_
      rotate_left
      ·show Act.put _ (some 21) _ = _
       simp only [Act.put, List.setIfInBounds_toArray, List.set_cons_zero, List.set_cons_succ, i64_w, i32_w]
       rfl
      refine pure_ (i := 11) (N := some 2) (v := ?_) (a' := ?_) #[true, true, true, true, true, true, true, true, true, true, true, true] rfl rfl (any_of HT_.out (by kernel_rfl)) (fun _ _ _ h => h) (Or.inl ⟨by rfl, ?_⟩) ?_ ?_
      rotate_left
      ·intro w'
       go_simp
       with_reducible rfl
      rotate_left
      ·simp only [Act.put, List.setIfInBounds_toArray, List.set_cons_zero, List.set_cons_succ, i64_w, i32_w]
       rfl
      refine done_ (done_of HT_.out (by kernel_rfl)) ?_
      try go_wp2
      go_ret
      exact ⟨_, by first | rfl | (simp [errW_none, errW_some] <;> rfl) | (simp [*, errW_none, errW_some] <;> rfl), by (with_reducible repeat (first | apply Kd.N_alloc | apply Kd.N_drewN | apply Kd.N_drew)); exact Kd.N_mono HO563.out (fun _ hk => hk.1), by repeat (first | (with_reducible first | exact HB.out | apply blA | apply pbN | apply blD | refine blS ?_ GE551.out) | exact HB.out)⟩
     ·rw [if_neg c9] at H
      exact absurd H (by simp)
    ·rw [if_neg c7] at H
     exact absurd H (by simp)
   ·rw [if_neg c5] at H
    exact absurd H (by simp)
  ·rw [if_neg c4] at H
   have c4b0 : (a0_0 == 15) = false := beq_eq_false_iff_ne.mpr c4
   have c4b1 : (a0_0 != 15) = true := bne_iff_ne.mpr c4
   obtain ⟨y564, hy564⟩ : ∃ y_ : List (S26), y_ = (([(⟨a0_0, (⟨a0_1, a0_2, a0_3⟩ : S23), a0_4, a0_5, a0_6, a0_7, l0_8⟩ : S26)] : List (S26))) := ⟨_, rfl⟩
   replace H : (some y564) = some r := by first | (rw [hy564]; with_reducible exact H) | (have H2_ := (Option.bind_some _ _).symm.trans H; rw [hy564]; with_reducible exact H2_) | (have H2_ := (Option.bind_some _ _).symm.trans H; with_reducible exact H2_) | with_reducible exact H | (rw [hy564]; exact H) | exact H
   have Ny564 := Asd.mk hy564
   clear hy564
   obtain rfl := Option.some.inj H
   go_enter Tryd.func26, Tryd.ntmps26
   go_wp2_with (first | ((with_reducible refine gate_dst (N := 1) rfl ?_); refine box_event ?hg (N := 1) ?hd (cs := #[.int .i64 a0_0, .int .i64 a0_1, .int .i64 a0_2, .string a0_3, .int .i64 a0_4, .int .i64 a0_5, .int .i64 a0_6, .string a0_7, .slice A0_8 l0_8.length c0_8]) (t := 26) ?hr ?_; (case hd => rfl); (case hg => rfl); (case hr => first | (go_simp; done) | (go_simp; rfl)); intro gb551 hg w19 hbox hb; have n0_ := Asd.mk (Kd.V_below (Kd.V_elderB (by (with_reducible repeat (first | apply Kd.V_alloc | apply Kd.V_drewN | apply Kd.V_drew)); exact HO0_8.out) gb551 (Nat.le_of_eq hg.symm)) hb); have n1_ := Asd.mk (below_step (by repeat (first | (with_reducible first | exact HB.out | apply blA | apply pbN | apply blD) | exact HB.out)) hb); have n2_ := Asd.mk (hbox); have n3_ := Asd.mk ((by rw [hg]; exact (below_size (by repeat (first | (with_reducible first | exact HB.out | apply blA | apply pbN | apply blD) | exact HB.out))) : w.heap.size ≤ gb551)); have n4_ := Asd.mk ((by rw [hg]; exact (below_size (by repeat (first | (with_reducible first | exact HB.out | apply blA | apply pbN | apply blD) | exact HB.out))) : w.heap.size ≤ gb551)); clear HO0_8; clear HB; have HO0_8 := n0_; have HB := n1_; have BK551 := n2_; have GW551 := n3_; have GE551 := n4_; clear n0_ n1_ n2_ n3_ n4_; clear hb hbox hg; have hcz20_0 : w19.cell? ⟨gb551, 0, none⟩ = some (.int .i64 a0_0) := (bkC BK551.out 0).trans rfl; have hcz20_1 : w19.cell? ⟨gb551, 1, none⟩ = some (.int .i64 a0_1) := (bkC BK551.out 1).trans rfl; have hcz20_2 : w19.cell? ⟨gb551, 2, none⟩ = some (.int .i64 a0_2) := (bkC BK551.out 2).trans rfl; have hcz20_3 : w19.cell? ⟨gb551, 3, none⟩ = some (.string a0_3) := (bkC BK551.out 3).trans rfl; have hcz20_4 : w19.cell? ⟨gb551, 4, none⟩ = some (.int .i64 a0_4) := (bkC BK551.out 4).trans rfl; have hcz20_5 : w19.cell? ⟨gb551, 5, none⟩ = some (.int .i64 a0_5) := (bkC BK551.out 5).trans rfl; have hcz20_6 : w19.cell? ⟨gb551, 6, none⟩ = some (.int .i64 a0_6) := (bkC BK551.out 6).trans rfl; have hcz20_7 : w19.cell? ⟨gb551, 7, none⟩ = some (.string a0_7) := (bkC BK551.out 7).trans rfl; have hcz20_8 : w19.cell? ⟨gb551, 8, none⟩ = some (.slice A0_8 l0_8.length c0_8) := (bkC BK551.out 8).trans rfl; have hfz20_0 := bkF BK551.out 0; have hfz20_1 := bkF BK551.out 1; have hfz20_2 := bkF BK551.out 2; have hfz20_3 := bkF BK551.out 3; have hfz20_4 := bkF BK551.out 4; have hfz20_5 := bkF BK551.out 5; have hfz20_6 := bkF BK551.out 6; have hfz20_7 := bkF BK551.out 7; have hfz20_8 := bkF BK551.out 8) | ((with_reducible refine gate_callee (f := 17) rfl ?_); refine goesL_ (some 4) rfl rfl Tryd.func17 (by kernel_rfl) rfl #[.agg #[.int .i64 a0_0, .int .i64 a0_1, .int .i64 a0_2, .string a0_3, .int .i64 a0_4, .int .i64 a0_5, .int .i64 a0_6, .string a0_7, .slice A0_8 l0_8.length c0_8]] rfl (by (try simp only [List.map_toArray, List.map_cons, List.map_nil]); first | done | rfl | (simp only [List.length_drop, List.length_take]; rfl)) ?_; (with_reducible refine (expr_Right.calls a0_0 a0_1 a0_2 a0_3 a0_4 a0_5 a0_6 a0_7 _ _ l0_8 true _ ?side1 ?side2 A2.out).mono ?_); (case side1 => repeat (first | exact (Kd.V_reads' HO0_8.out).2.2 | (with_reducible refine Kd.C_alloc ?_ _) | (with_reducible refine Kd.C_drewN ?_ _) | (with_reducible refine Kd.C_drew ?_))); (case side2 => exact (Kd.V_reads' HO0_8.out).2.1); rintro e w21 ⟨rfl, hb⟩; refine ⟨_, rfl, ?_⟩; have n0_ := Asd.mk (Kd.V_below (by (with_reducible repeat (first | apply Kd.V_alloc | apply Kd.V_drewN | apply Kd.V_drew)); exact HO0_8.out) hb); have n1_ := Asd.mk (blk_below (g := gb551) (o := .cells #[.int .i64 a0_0, .int .i64 a0_1, .int .i64 a0_2, .string a0_3, .int .i64 a0_4, .int .i64 a0_5, .int .i64 a0_6, .string a0_7, .slice A0_8 l0_8.length c0_8] 26 (0, 0)) (by (with_reducible repeat (first | refine bkN ?_ _ | refine bkD ?_ | refine bkA ?_ _)); exact BK551.out) hb); have n2_ := Asd.mk (below_step (by repeat (first | (with_reducible first | exact HB.out | apply blA | apply pbN | apply blD | refine blS ?_ GE551.out) | exact HB.out)) hb); clear HO0_8; clear BK551; clear HB; have HO0_8 := n0_; have BK551 := n1_; have HB := n2_; clear n0_ n1_ n2_; (try clear hb); (try clear hb2); (try clear hk); (try clear hi); have hcz22_0 : w21.cell? ⟨gb551, 0, none⟩ = some (.int .i64 a0_0) := (bkC BK551.out 0).trans rfl; have hcz22_1 : w21.cell? ⟨gb551, 1, none⟩ = some (.int .i64 a0_1) := (bkC BK551.out 1).trans rfl; have hcz22_2 : w21.cell? ⟨gb551, 2, none⟩ = some (.int .i64 a0_2) := (bkC BK551.out 2).trans rfl; have hcz22_3 : w21.cell? ⟨gb551, 3, none⟩ = some (.string a0_3) := (bkC BK551.out 3).trans rfl; have hcz22_4 : w21.cell? ⟨gb551, 4, none⟩ = some (.int .i64 a0_4) := (bkC BK551.out 4).trans rfl; have hcz22_5 : w21.cell? ⟨gb551, 5, none⟩ = some (.int .i64 a0_5) := (bkC BK551.out 5).trans rfl; have hcz22_6 : w21.cell? ⟨gb551, 6, none⟩ = some (.int .i64 a0_6) := (bkC BK551.out 6).trans rfl; have hcz22_7 : w21.cell? ⟨gb551, 7, none⟩ = some (.string a0_7) := (bkC BK551.out 7).trans rfl; have hcz22_8 : w21.cell? ⟨gb551, 8, none⟩ = some (.slice A0_8 l0_8.length c0_8) := (bkC BK551.out 8).trans rfl; have hfz22_0 := bkF BK551.out 0; have hfz22_1 := bkF BK551.out 1; have hfz22_2 := bkF BK551.out 2; have hfz22_3 := bkF BK551.out 3; have hfz22_4 := bkF BK551.out 4; have hfz22_5 := bkF BK551.out 5; have hfz22_6 := bkF BK551.out 6; have hfz22_7 := bkF BK551.out 7; have hfz22_8 := bkF BK551.out 8) | ((with_reducible refine gate_dst (N := 10) rfl ?_); refine Kd.N_lit k26 _ 26 ?hg (N' := 10) ?hd (xs := ([(⟨a0_0, (⟨a0_1, a0_2, a0_3⟩ : S23), a0_4, a0_5, a0_6, a0_7, l0_8⟩ : S26)] : List (S26))) (inner := [.int .i64 a0_0, .int .i64 a0_1, .int .i64 a0_2, .string a0_3, .int .i64 a0_4, .int .i64 a0_5, .int .i64 a0_6, .string a0_7, .slice A0_8 l0_8.length c0_8]) (ok := (fun k_ => (P0_8_ k_ ∨ w.heap.size ≤ k_) ∧ k_ ≠ gb551)) (okp := (fun k_ => (P0_8_ k_ ∨ w.heap.size ≤ k_) ∧ k_ ≠ gb551)) ?hr ?hp (fun _ hk => hk) ((show ∀ k_, w21.heap.size ≤ k_ → (fun k_ => (P0_8_ k_ ∨ w.heap.size ≤ k_) ∧ k_ ≠ gb551) k_ from fun k_ hk => ⟨(.inr (Nat.le_trans (below_size (by repeat (first | (with_reducible first | exact HB.out | apply blA | apply pbN | apply blD | refine blS ?_ GE551.out) | exact HB.out))) hk)), Kd.freshB (g := gb551) (o := .cells #[.int .i64 a0_0, .int .i64 a0_1, .int .i64 a0_2, .string a0_3, .int .i64 a0_4, .int .i64 a0_5, .int .i64 a0_6, .string a0_7, .slice A0_8 l0_8.length c0_8] 26 (0, 0)) (by (with_reducible repeat (first | refine bkN ?_ _ | refine bkD ?_ | refine bkA ?_ _)); exact BK551.out) k_ hk⟩) _ (Nat.le_refl _)) (Below.refl _ _) (Nat.le_refl _) (by simp) ?_; (case hd => rfl); (case hg => rfl); (case hr => first | (go_simp; done) | (go_simp; rfl)); (case hp => exact (Reps.c9 (show Kd.FK k26 _ _ (⟨a0_0, (⟨a0_1, a0_2, a0_3⟩ : S23), a0_4, a0_5, a0_6, a0_7, l0_8⟩ : S26) [.int .i64 a0_0, .int .i64 a0_1, .int .i64 a0_2, .string a0_3, .int .i64 a0_4, .int .i64 a0_5, .int .i64 a0_6, .string a0_7, .slice A0_8 l0_8.length c0_8] from (k26_mkF _ _ (⟨a0_0, (⟨a0_1, a0_2, a0_3⟩ : S23), a0_4, a0_5, a0_6, a0_7, l0_8⟩ : S26) (Kd.V_reads' (Kd.V_mono (ok' := (fun k_ => (P0_8_ k_ ∨ w.heap.size ≤ k_) ∧ k_ ≠ gb551)) (HO0_8.out) (fun k_ hk => ⟨hk.1, hk.2⟩))).2.1 (Kd.V_F (Kd.V_mono (ok' := (fun k_ => (P0_8_ k_ ∨ w.heap.size ≤ k_) ∧ k_ ≠ gb551)) (HO0_8.out) (fun k_ hk => ⟨hk.1, hk.2⟩))))) (Reps.none _ _))); intro v565 w23 ho24 hb hg_ hnew_; clear hg_ hnew_; (first | rw [← Ny564.out] at ho24 | (simp only [Int.reduceToNat] at ho24; rw [← Ny564.out] at ho24)); have n0_ := Asd.mk (Kd.V_elder' (by (with_reducible repeat (first | apply Kd.V_alloc | apply Kd.V_drewN | apply Kd.V_drew)); exact HO0_8.out) (Kd.N_base ho24) hb); have n1_ := Asd.mk (Kd.N_lower ho24 (below_size (by repeat (first | (with_reducible first | exact HB.out | apply blA | apply pbN | apply blD | refine blS ?_ GE551.out) | exact HB.out)))); have n2_ := Asd.mk (blk_below (g := gb551) (o := .cells #[.int .i64 a0_0, .int .i64 a0_1, .int .i64 a0_2, .string a0_3, .int .i64 a0_4, .int .i64 a0_5, .int .i64 a0_6, .string a0_7, .slice A0_8 l0_8.length c0_8] 26 (0, 0)) (by (with_reducible repeat (first | refine bkN ?_ _ | refine bkD ?_ | refine bkA ?_ _)); exact BK551.out) hb); have n3_ := Asd.mk (below_step (by repeat (first | (with_reducible first | exact HB.out | apply blA | apply pbN | apply blD | refine blS ?_ GE551.out) | exact HB.out)) hb); clear HO0_8; clear BK551; clear HB; have HO0_8 := n0_; have HO566 := n1_; have BK551 := n2_; have HB := n3_; clear n0_ n1_ n2_ n3_; clear hb ho24))
   go_ret
   exact ⟨_, by first | rfl | (simp [errW_none, errW_some] <;> rfl) | (simp [*, errW_none, errW_some] <;> rfl), by (with_reducible repeat (first | apply Kd.N_alloc | apply Kd.N_drewN | apply Kd.N_drew)); exact Kd.N_mono HO566.out (fun _ hk => hk.1), by repeat (first | (with_reducible first | exact HB.out | apply blA | apply pbN | apply blD | refine blS ?_ GE551.out) | exact HB.out)⟩
 ·replace c3 := Bool.eq_false_iff.mpr c3
  subst c3
  have H1 : (some ([] : List (S26))) = some r := by rw [if_neg (show ¬ (false = true) by decide)] at H; exact H
  clear H
  have H := H1
  clear H1
  obtain rfl := Option.some.inj H
  go_enter Tryd.func26, Tryd.ntmps26
  go_wp2_with (first | ((with_reducible refine gate_dst (N := 1) rfl ?_); refine box_event ?hg (N := 1) ?hd (cs := #[.int .i64 a0_0, .int .i64 a0_1, .int .i64 a0_2, .string a0_3, .int .i64 a0_4, .int .i64 a0_5, .int .i64 a0_6, .string a0_7, .slice A0_8 l0_8.length c0_8]) (t := 26) ?hr ?_; (case hd => rfl); (case hg => rfl); (case hr => first | (go_simp; done) | (go_simp; rfl)); intro gb551 hg w25 hbox hb; have n0_ := Asd.mk (Kd.V_below (Kd.V_elderB (by (with_reducible repeat (first | apply Kd.V_alloc | apply Kd.V_drewN | apply Kd.V_drew)); exact HO0_8.out) gb551 (Nat.le_of_eq hg.symm)) hb); have n1_ := Asd.mk (below_step (by repeat (first | (with_reducible first | exact HB.out | apply blA | apply pbN | apply blD) | exact HB.out)) hb); have n2_ := Asd.mk (hbox); have n3_ := Asd.mk ((by rw [hg]; exact (below_size (by repeat (first | (with_reducible first | exact HB.out | apply blA | apply pbN | apply blD) | exact HB.out))) : w.heap.size ≤ gb551)); have n4_ := Asd.mk ((by rw [hg]; exact (below_size (by repeat (first | (with_reducible first | exact HB.out | apply blA | apply pbN | apply blD) | exact HB.out))) : w.heap.size ≤ gb551)); clear HO0_8; clear HB; have HO0_8 := n0_; have HB := n1_; have BK551 := n2_; have GW551 := n3_; have GE551 := n4_; clear n0_ n1_ n2_ n3_ n4_; clear hb hbox hg; have hcz26_0 : w25.cell? ⟨gb551, 0, none⟩ = some (.int .i64 a0_0) := (bkC BK551.out 0).trans rfl; have hcz26_1 : w25.cell? ⟨gb551, 1, none⟩ = some (.int .i64 a0_1) := (bkC BK551.out 1).trans rfl; have hcz26_2 : w25.cell? ⟨gb551, 2, none⟩ = some (.int .i64 a0_2) := (bkC BK551.out 2).trans rfl; have hcz26_3 : w25.cell? ⟨gb551, 3, none⟩ = some (.string a0_3) := (bkC BK551.out 3).trans rfl; have hcz26_4 : w25.cell? ⟨gb551, 4, none⟩ = some (.int .i64 a0_4) := (bkC BK551.out 4).trans rfl; have hcz26_5 : w25.cell? ⟨gb551, 5, none⟩ = some (.int .i64 a0_5) := (bkC BK551.out 5).trans rfl; have hcz26_6 : w25.cell? ⟨gb551, 6, none⟩ = some (.int .i64 a0_6) := (bkC BK551.out 6).trans rfl; have hcz26_7 : w25.cell? ⟨gb551, 7, none⟩ = some (.string a0_7) := (bkC BK551.out 7).trans rfl; have hcz26_8 : w25.cell? ⟨gb551, 8, none⟩ = some (.slice A0_8 l0_8.length c0_8) := (bkC BK551.out 8).trans rfl; have hfz26_0 := bkF BK551.out 0; have hfz26_1 := bkF BK551.out 1; have hfz26_2 := bkF BK551.out 2; have hfz26_3 := bkF BK551.out 3; have hfz26_4 := bkF BK551.out 4; have hfz26_5 := bkF BK551.out 5; have hfz26_6 := bkF BK551.out 6; have hfz26_7 := bkF BK551.out 7; have hfz26_8 := bkF BK551.out 8) | ((with_reducible refine gate_callee (f := 17) rfl ?_); refine goesL_ (some 4) rfl rfl Tryd.func17 (by kernel_rfl) rfl #[.agg #[.int .i64 a0_0, .int .i64 a0_1, .int .i64 a0_2, .string a0_3, .int .i64 a0_4, .int .i64 a0_5, .int .i64 a0_6, .string a0_7, .slice A0_8 l0_8.length c0_8]] rfl (by (try simp only [List.map_toArray, List.map_cons, List.map_nil]); first | done | rfl | (simp only [List.length_drop, List.length_take]; rfl)) ?_; (with_reducible refine (expr_Right.calls a0_0 a0_1 a0_2 a0_3 a0_4 a0_5 a0_6 a0_7 _ _ l0_8 false _ ?side1 ?side2 A2.out).mono ?_); (case side1 => repeat (first | exact (Kd.V_reads' HO0_8.out).2.2 | (with_reducible refine Kd.C_alloc ?_ _) | (with_reducible refine Kd.C_drewN ?_ _) | (with_reducible refine Kd.C_drew ?_))); (case side2 => exact (Kd.V_reads' HO0_8.out).2.1); rintro e w27 ⟨rfl, hb⟩; refine ⟨_, rfl, ?_⟩; have n0_ := Asd.mk (Kd.V_below (by (with_reducible repeat (first | apply Kd.V_alloc | apply Kd.V_drewN | apply Kd.V_drew)); exact HO0_8.out) hb); have n1_ := Asd.mk (blk_below (g := gb551) (o := .cells #[.int .i64 a0_0, .int .i64 a0_1, .int .i64 a0_2, .string a0_3, .int .i64 a0_4, .int .i64 a0_5, .int .i64 a0_6, .string a0_7, .slice A0_8 l0_8.length c0_8] 26 (0, 0)) (by (with_reducible repeat (first | refine bkN ?_ _ | refine bkD ?_ | refine bkA ?_ _)); exact BK551.out) hb); have n2_ := Asd.mk (below_step (by repeat (first | (with_reducible first | exact HB.out | apply blA | apply pbN | apply blD | refine blS ?_ GE551.out) | exact HB.out)) hb); clear HO0_8; clear BK551; clear HB; have HO0_8 := n0_; have BK551 := n1_; have HB := n2_; clear n0_ n1_ n2_; (try clear hb); (try clear hb2); (try clear hk); (try clear hi)))
  go_ret
  exact ⟨_, by first | rfl | (simp [errW_none, errW_some] <;> rfl) | (simp [*, errW_none, errW_some] <;> rfl), by first | exact Kd.R_nil _ _ _ _ _ | exact Kd.N_nil _ _ _ _ _ | exact Kd.V_nil _ _ _ _ _ | exact Kd.Q_nil _ _ _ _ _ | exact Kd.S_nil _ _ _ _ _, by repeat (first | (with_reducible first | exact HB.out | apply blA | apply pbN | apply blD | refine blS ?_ GE551.out) | exact HB.out)⟩
end Go.Proofs.YtkboodfnegedaaaDoor.E
