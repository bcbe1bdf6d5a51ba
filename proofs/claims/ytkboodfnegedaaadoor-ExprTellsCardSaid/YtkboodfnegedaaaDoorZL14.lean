/- Contracts and plain lemmas of the functions that the law reaches, part 14. -/
import Derived.Test.YtkboodfnegedaaaDoorZL3
import Derived.Test.YtkboodfnegedaaaDoorZL6
namespace Go.Proofs.YtkboodfnegedaaaDoor.E
open Go.RowKit Go.Proofs.YtkboodfnegedaaaDoorW.PrintWords Go.Proofs.YtkboodfnegedaaaDoorW.PrintLast Go.Proofs.YtkboodfnegedaaaDoorW.PrintMore
attribute [local go_sem] max2_int min2_int max_two min_two max_three min_three max_four min_four   -- for this text's walks alone
set_option linter.unusedVariables false
set_option linter.unusedSimpArgs false
def expr_Split.f : Nat → Int → Int → Int → ByteArray → Int → Int → Int → ByteArray → List (S26) → Option ((List (S26)))
 | 0, _, _, _, _, _, _, _, _, _ => none
 | k + 1, a0_0, a0_1, a0_2, a0_3, a0_4, a0_5, a0_6, a0_7, l0_8 => (expr_Right.f a0_0 a0_1 a0_2 a0_3 a0_4 a0_5 a0_6 a0_7 l0_8).bind fun t542 => (if t542 = true then (if a0_0 = 15 then (if 0 < (l0_8.length : Int) then ((expr_Split.f k ((rd_T26 l0_8 0).f0) ((rd_T26 l0_8 0).f1.f0) ((rd_T26 l0_8 0).f1.f1) ((rd_T26 l0_8 0).f1.f2) ((rd_T26 l0_8 0).f2) ((rd_T26 l0_8 0).f3) ((rd_T26 l0_8 0).f4) ((rd_T26 l0_8 0).f5) ((rd_T26 l0_8 0).f6)).bind fun t544 => (if 1 < (l0_8.length : Int) then ((expr_Split.f k ((rd_T26 l0_8 1).f0) ((rd_T26 l0_8 1).f1.f0) ((rd_T26 l0_8 1).f1.f1) ((rd_T26 l0_8 1).f1.f2) ((rd_T26 l0_8 1).f2) ((rd_T26 l0_8 1).f3) ((rd_T26 l0_8 1).f4) ((rd_T26 l0_8 1).f5) ((rd_T26 l0_8 1).f6)).bind fun t548 => (if t544.length + t548.length < 1353245080339 then (some (t544 ++ t548)) else (none))) else (none))) else (none)) else (some (([(⟨a0_0, (⟨a0_1, a0_2, a0_3⟩ : S23), a0_4, a0_5, a0_6, a0_7, l0_8⟩ : S26)] : List (S26))))) else (some ([] : List (S26))))
def expr_Split.T5 : Bool × List (List Nat × List Nat) := (true, [([], []), ([0], [0]), ([1], [1]), ([2], [2]), ([3], [3]), ([], []), ([5], [5]), ([6], [6]), ([7], [7]), ([8, 4], [8]), ([4, 9, 9], [4, 9]), ([10, 10, 0, 1, 2, 3, 4, 5, 6, 7, 8, 9, 10], [10])])
def expr_Split.B5 : List Nat := [0, 1, 3, 7, 15, 0, 32, 96, 224, 511, 1023, 2047]
theorem expr_Split.tab5 : rtab .any (opsOf Tryd.f26 5) = expr_Split.T5 := by kernel_rfl
theorem expr_Split.bits5 : waitsOk expr_Split.T5.2 expr_Split.B5 = true := by kernel_rfl
set_option maxHeartbeats 8000000 in
set_option maxRecDepth 100000 in
theorem expr_Split.calls (k : Nat) : ∀ (a0_0 : Int) (a0_1 : Int) (a0_2 : Int) (a0_3 : ByteArray) (a0_4 : Int) (a0_5 : Int) (a0_6 : Int) (a0_7 : ByteArray) (P0_8_ : Nat → Prop) (A0_8 : Option Addr) (c0_8 : Nat) (l0_8 : List (S26)) (r : List (S26)) (w : World) (hs0_8 : Kd.V k26 26 w w.heap.size (fun k_ => P0_8_ k_) (.slice A0_8 l0_8.length c0_8) l0_8) (h : expr_Split.f k a0_0 a0_1 a0_2 a0_3 a0_4 a0_5 a0_6 a0_7 l0_8 = some r),
  Calls Tryd.prog 26 #[.agg #[.int .i64 a0_0, .int .i64 a0_1, .int .i64 a0_2, .string a0_3, .int .i64 a0_4, .int .i64 a0_5, .int .i64 a0_6, .string a0_7, .slice A0_8 l0_8.length c0_8]] w fun e w' => ∃ v0_ : Value, e = .returned (v0_) ∧ Kd.N k26 26 w' w.heap.size (fun k_ => (P0_8_ k_ ∨ w.heap.size ≤ k_)) v0_ r ∧ Below w.heap.size w w' := by
 induction k using Nat.strongRecOn with
 | _ k ih =>
 intro a0_0 a0_1 a0_2 a0_3 a0_4 a0_5 a0_6 a0_7 P0_8_ A0_8 c0_8 l0_8 r w hs0_8 h
 cases k with
 | zero => exact absurd h (by simp [expr_Split.f])
 | succ k =>
 simp only [expr_Split.f] at h
 have hu26 := Tryd.underlying26
 have HO0_8 := Asd.mk (show Kd.V k26 26 w w.heap.size (fun k_ => (P0_8_ k_ ∨ w.heap.size ≤ k_)) (.slice A0_8 l0_8.length c0_8) l0_8 from Kd.V_mono hs0_8 (fun k_ hk => .inl hk))
 have HB := Asd.mk (Below.refl w.heap.size w)
 have H : ((expr_Right.f a0_0 a0_1 a0_2 a0_3 a0_4 a0_5 a0_6 a0_7 l0_8).bind fun t542 => (if t542 = true then (if a0_0 = 15 then (if 0 < (l0_8.length : Int) then ((expr_Split.f k ((rd_T26 l0_8 0).f0) ((rd_T26 l0_8 0).f1.f0) ((rd_T26 l0_8 0).f1.f1) ((rd_T26 l0_8 0).f1.f2) ((rd_T26 l0_8 0).f2) ((rd_T26 l0_8 0).f3) ((rd_T26 l0_8 0).f4) ((rd_T26 l0_8 0).f5) ((rd_T26 l0_8 0).f6)).bind fun t544 => (if 1 < (l0_8.length : Int) then ((expr_Split.f k ((rd_T26 l0_8 1).f0) ((rd_T26 l0_8 1).f1.f0) ((rd_T26 l0_8 1).f1.f1) ((rd_T26 l0_8 1).f1.f2) ((rd_T26 l0_8 1).f2) ((rd_T26 l0_8 1).f3) ((rd_T26 l0_8 1).f4) ((rd_T26 l0_8 1).f5) ((rd_T26 l0_8 1).f6)).bind fun t548 => (if t544.length + t548.length < 1353245080339 then (some (t544 ++ t548)) else (none))) else (none))) else (none)) else (some (([(⟨a0_0, (⟨a0_1, a0_2, a0_3⟩ : S23), a0_4, a0_5, a0_6, a0_7, l0_8⟩ : S26)] : List (S26))))) else (some ([] : List (S26))))) = some r := h
 clear h
 replace H := Option.bind_eq_some_iff.mp H
 obtain ⟨t542, A20, H⟩ := H
 replace H : (if t542 = true then (if a0_0 = 15 then (if 0 < (l0_8.length : Int) then ((expr_Split.f k ((rd_T26 l0_8 0).f0) ((rd_T26 l0_8 0).f1.f0) ((rd_T26 l0_8 0).f1.f1) ((rd_T26 l0_8 0).f1.f2) ((rd_T26 l0_8 0).f2) ((rd_T26 l0_8 0).f3) ((rd_T26 l0_8 0).f4) ((rd_T26 l0_8 0).f5) ((rd_T26 l0_8 0).f6)).bind fun t544 => (if 1 < (l0_8.length : Int) then ((expr_Split.f k ((rd_T26 l0_8 1).f0) ((rd_T26 l0_8 1).f1.f0) ((rd_T26 l0_8 1).f1.f1) ((rd_T26 l0_8 1).f1.f2) ((rd_T26 l0_8 1).f2) ((rd_T26 l0_8 1).f3) ((rd_T26 l0_8 1).f4) ((rd_T26 l0_8 1).f5) ((rd_T26 l0_8 1).f6)).bind fun t548 => (if t544.length + t548.length < 1353245080339 then (some (t544 ++ t548)) else (none))) else (none))) else (none)) else (some (([(⟨a0_0, (⟨a0_1, a0_2, a0_3⟩ : S23), a0_4, a0_5, a0_6, a0_7, l0_8⟩ : S26)] : List (S26))))) else (some ([] : List (S26)))) = some r := H
 have A2 := Asd.mk A20
 clear A20
 by_cases c3 : t542 = true
 ·subst c3
  have H1 : (if a0_0 = 15 then (if 0 < (l0_8.length : Int) then ((expr_Split.f k ((rd_T26 l0_8 0).f0) ((rd_T26 l0_8 0).f1.f0) ((rd_T26 l0_8 0).f1.f1) ((rd_T26 l0_8 0).f1.f2) ((rd_T26 l0_8 0).f2) ((rd_T26 l0_8 0).f3) ((rd_T26 l0_8 0).f4) ((rd_T26 l0_8 0).f5) ((rd_T26 l0_8 0).f6)).bind fun t544 => (if 1 < (l0_8.length : Int) then ((expr_Split.f k ((rd_T26 l0_8 1).f0) ((rd_T26 l0_8 1).f1.f0) ((rd_T26 l0_8 1).f1.f1) ((rd_T26 l0_8 1).f1.f2) ((rd_T26 l0_8 1).f2) ((rd_T26 l0_8 1).f3) ((rd_T26 l0_8 1).f4) ((rd_T26 l0_8 1).f5) ((rd_T26 l0_8 1).f6)).bind fun t548 => (if t544.length + t548.length < 1353245080339 then (some (t544 ++ t548)) else (none))) else (none))) else (none)) else (some (([(⟨a0_0, (⟨a0_1, a0_2, a0_3⟩ : S23), a0_4, a0_5, a0_6, a0_7, l0_8⟩ : S26)] : List (S26))))) = some r := by rw [if_pos rfl] at H; exact H
  clear H
  have H := H1
  clear H1
  by_cases c4 : a0_0 = 15
  ·rw [if_pos c4] at H
   have c4b0 : (a0_0 == 15) = true := beq_iff_eq.mpr c4
   have c4b1 : (a0_0 != 15) = false := bne_eq_false_iff_eq.mpr c4
   clear c4
   by_cases c5 : 0 < (l0_8.length : Int)
   ·rw [if_pos c5] at H
    have c5b0 : decide (0 < (l0_8.length : Int)) = true := decide_eq_true c5
    have c5b1 : decide (0 < l0_8.length) = true := decide_eq_true (by omega)
    clear c5
    replace H := Option.bind_eq_some_iff.mp H
    obtain ⟨t544, A60, H⟩ := H
    replace H : (if 1 < (l0_8.length : Int) then ((expr_Split.f k ((rd_T26 l0_8 1).f0) ((rd_T26 l0_8 1).f1.f0) ((rd_T26 l0_8 1).f1.f1) ((rd_T26 l0_8 1).f1.f2) ((rd_T26 l0_8 1).f2) ((rd_T26 l0_8 1).f3) ((rd_T26 l0_8 1).f4) ((rd_T26 l0_8 1).f5) ((rd_T26 l0_8 1).f6)).bind fun t548 => (if t544.length + t548.length < 1353245080339 then (some (t544 ++ t548)) else (none))) else (none)) = some r := H
    have A6 := Asd.mk A60
    clear A60
    by_cases c7 : 1 < (l0_8.length : Int)
    ·rw [if_pos c7] at H
     have c7b0 : decide (1 < (l0_8.length : Int)) = true := decide_eq_true c7
     have c7b1 : decide (1 < l0_8.length) = true := decide_eq_true (by omega)
     clear c7
     replace H := Option.bind_eq_some_iff.mp H
     obtain ⟨t548, A80, H⟩ := H
     replace H : (if t544.length + t548.length < 1353245080339 then (some (t544 ++ t548)) else (none)) = some r := H
     have A8 := Asd.mk A80
     clear A80
     by_cases c9 : t544.length + t548.length < 1353245080339
     ·rw [if_pos c9] at H
      have LMc9 := Asd.mk c9
      clear c9
      obtain ⟨y551, hy551⟩ : ∃ y_ : List (S26), y_ = (t544 ++ t548) := ⟨_, rfl⟩
      replace H : (some y551) = some r := by first | (rw [hy551]; with_reducible exact H) | (have H2_ := (Option.bind_some _ _).symm.trans H; rw [hy551]; with_reducible exact H2_) | (have H2_ := (Option.bind_some _ _).symm.trans H; with_reducible exact H2_) | with_reducible exact H | (rw [hy551]; exact H) | exact H
      have Ny551 := Asd.mk hy551
      clear hy551
      obtain rfl := Option.some.inj H
      go_enter Tryd.func26, Tryd.ntmps26
      try go_wp2_with (first | ((with_reducible refine gate_dst (N := 1) rfl ?_); refine box_event rfl (N := 1) rfl (cs := #[.int .i64 a0_0, .int .i64 a0_1, .int .i64 a0_2, .string a0_3, .int .i64 a0_4, .int .i64 a0_5, .int .i64 a0_6, .string a0_7, .slice A0_8 l0_8.length c0_8]) (t := 26) (by first | (go_simp; done) | (go_simp; rfl)) ?_; intro gb541 hg w10 hbox hb; have n0_ := Asd.mk (Kd.V_below (Kd.V_elderB (by (with_reducible repeat (first | apply Kd.V_alloc | apply Kd.V_drewN | apply Kd.V_drew)); exact HO0_8.out) gb541 (Nat.le_of_eq hg.symm)) hb); have n1_ := Asd.mk (bS hb HB.out); have n2_ := Asd.mk (hbox); have n3_ := Asd.mk (bZ hg HB.out); have n4_ := Asd.mk (bZ hg HB.out); clear HO0_8; clear HB; have HO0_8 := n0_; have HB := n1_; have BK541 := n2_; have GW541 := n3_; have GE541 := n4_; clear n0_ n1_ n2_ n3_ n4_; clear hb hbox hg; obtain ⟨hcz11_0, hcz11_1, hcz11_2, hcz11_3, hcz11_4, hcz11_5, hcz11_6, hcz11_7, hcz11_8⟩ := bkC9 BK541.out; obtain ⟨hfz11_0, hfz11_1, hfz11_2, hfz11_3, hfz11_4, hfz11_5, hfz11_6, hfz11_7, hfz11_8⟩ := bkF9 BK541.out) | ((with_reducible refine gate_callee (f := 17) rfl ?_); refine goesL_ (some 4) rfl rfl Tryd.func17 (by kernel_rfl) rfl #[.agg #[.int .i64 a0_0, .int .i64 a0_1, .int .i64 a0_2, .string a0_3, .int .i64 a0_4, .int .i64 a0_5, .int .i64 a0_6, .string a0_7, .slice A0_8 l0_8.length c0_8]] rfl (by (try simp only [List.map_toArray, List.map_cons, List.map_nil]); first | done | rfl | (simp only [List.length_drop, List.length_take]; rfl)) ?_; (with_reducible refine (expr_Right.calls a0_0 a0_1 a0_2 a0_3 a0_4 a0_5 a0_6 a0_7 _ _ l0_8 true _ ?side1 ?side2 A2.out).mono ?_); (case side1 => repeat (first | exact (Kd.V_reads' HO0_8.out).2.2 | (with_reducible refine Kd.C_alloc ?_ _) | (with_reducible refine Kd.C_drewN ?_ _) | (with_reducible refine Kd.C_drew ?_))); (case side2 => exact (Kd.V_reads' HO0_8.out).2.1); rintro e w12 ⟨rfl, hb⟩; refine ⟨_, rfl, ?_⟩; have n0_ := Asd.mk (Kd.V_below (by (with_reducible repeat (first | apply Kd.V_alloc | apply Kd.V_drewN | apply Kd.V_drew)); exact HO0_8.out) hb); have n1_ := Asd.mk (bB hb BK541.out); have n2_ := Asd.mk (bS hb HB.out); clear HO0_8; clear BK541; clear HB; have HO0_8 := n0_; have BK541 := n1_; have HB := n2_; clear n0_ n1_ n2_; (try clear hb); (try clear hb2); (try clear hk); (try clear hi); obtain ⟨hcz13_0, hcz13_1, hcz13_2, hcz13_3, hcz13_4, hcz13_5, hcz13_6, hcz13_7, hcz13_8⟩ := bkC9 BK541.out; obtain ⟨hfz13_0, hfz13_1, hfz13_2, hfz13_3, hfz13_4, hfz13_5, hfz13_6, hfz13_7, hfz13_8⟩ := bkF9 BK541.out))
      have n0_ := Asd.mk (Kd.V_drew HO0_8.out)
      have n1_ := Asd.mk (bkD BK541.out)
      have n2_ := Asd.mk (blD HB.out)
      clear HO0_8 BK541 HB
      have HO0_8 := n0_
      have BK541 := n1_
      have HB := n2_
      clear n0_ n1_ n2_
      have p543 : 0 ≤ (0 : Int) := (by omega)
      have q543 : 0 < (l0_8.length : Int) := of_decide_eq_true (by first | (with_reducible assumption) | assumption)
      obtain ⟨ad543, A543_8, c543_8, e543, hx543_0, hx543_1, hx543_2, hx543_3, hx543_4, hx543_5, hx543_6, hx543_7, hx543_8, hl543_8, hi543_8⟩ := at_T26 (Kd.V_reads' HO0_8.out).2.2 0 p543 q543
      cases e543
      obtain ⟨ce543, hce543, hMe543, hcc543⟩ := Kd.V_get HO0_8.out z26 0 p543 (by first | exact q543 | exact of_decide_eq_true (by first | (with_reducible assumption) | assumption) | (have e_ := (Kd.V_reads' HO0_8.out).1; omega))
      obtain ⟨ua543_8, uc543_8, rfl, ul543_8, ge543_8⟩ := k26_openF hMe543
      have hv543_8 := hcc543 8 _ rfl
      rw [add_field _ _ 8 (by omega)] at hv543_8
      replace hv543_8 := Option.some.inj (hv543_8.symm.trans hx543_8)
      injection hv543_8 with hva_ hvn_ hvc_
      rw [hva_] at ge543_8
      rw [hvc_] at ul543_8
      have HL543_8 := Asd.mk (show Kd.V k26 26 _ w.heap.size _ _ ((rd_T26 l0_8 0).f6) from Kd.V_mk ul543_8 ge543_8)
      clear hva_ hvn_ hvc_ ge543_8 ul543_8 hcc543 hce543
      have qi543 : (0 < l0_8.length) = True := eq_true (by omega)
      (try rw [show ((0 : Int)).toNat = 0 from rfl] at hx543_0)
      (try rw [show 0 * 9 = 0 from rfl] at hx543_0)
      (try rw [Addr.add_zero'] at hx543_0)
      (try rw [show ((0 : Int)).toNat = 0 from rfl] at hx543_1)
      (try rw [show 0 * 9 = 0 from rfl] at hx543_1)
      (try rw [Addr.add_zero'] at hx543_1)
      (try rw [show ((0 : Int)).toNat = 0 from rfl] at hx543_2)
      (try rw [show 0 * 9 = 0 from rfl] at hx543_2)
      (try rw [Addr.add_zero'] at hx543_2)
      (try rw [show ((0 : Int)).toNat = 0 from rfl] at hx543_3)
      (try rw [show 0 * 9 = 0 from rfl] at hx543_3)
      (try rw [Addr.add_zero'] at hx543_3)
      (try rw [show ((0 : Int)).toNat = 0 from rfl] at hx543_4)
      (try rw [show 0 * 9 = 0 from rfl] at hx543_4)
      (try rw [Addr.add_zero'] at hx543_4)
      (try rw [show ((0 : Int)).toNat = 0 from rfl] at hx543_5)
      (try rw [show 0 * 9 = 0 from rfl] at hx543_5)
      (try rw [Addr.add_zero'] at hx543_5)
      (try rw [show ((0 : Int)).toNat = 0 from rfl] at hx543_6)
      (try rw [show 0 * 9 = 0 from rfl] at hx543_6)
      (try rw [Addr.add_zero'] at hx543_6)
      (try rw [show ((0 : Int)).toNat = 0 from rfl] at hx543_7)
      (try rw [show 0 * 9 = 0 from rfl] at hx543_7)
      (try rw [Addr.add_zero'] at hx543_7)
      (try rw [show ((0 : Int)).toNat = 0 from rfl] at hx543_8)
      (try rw [show 0 * 9 = 0 from rfl] at hx543_8)
      (try rw [Addr.add_zero'] at hx543_8)
      have HR543_8 := Asd.mk hi543_8
      have HC543_8 := Asd.mk hl543_8
      clear hi543_8 hl543_8
      replace p543 := eq_true p543
      replace q543 := eq_true q543
      have p547 : 0 ≤ (1 : Int) := (by omega)
      have q547 : 1 < (l0_8.length : Int) := of_decide_eq_true (by first | (with_reducible assumption) | assumption)
      obtain ⟨ad547, A547_8, c547_8, e547, hx547_0, hx547_1, hx547_2, hx547_3, hx547_4, hx547_5, hx547_6, hx547_7, hx547_8, hl547_8, hi547_8⟩ := at_T26 (Kd.V_reads' HO0_8.out).2.2 1 p547 q547
      obtain rfl : ad543 = ad547 := (by injection e547)
      obtain ⟨ce547, hce547, hMe547, hcc547⟩ := Kd.V_get HO0_8.out z26 1 p547 (by first | exact q547 | exact of_decide_eq_true (by first | (with_reducible assumption) | assumption) | (have e_ := (Kd.V_reads' HO0_8.out).1; omega))
      obtain ⟨ua547_8, uc547_8, rfl, ul547_8, ge547_8⟩ := k26_openF hMe547
      have hv547_8 := hcc547 8 _ rfl
      rw [add_field _ _ 8 (by omega)] at hv547_8
      replace hv547_8 := Option.some.inj (hv547_8.symm.trans hx547_8)
      injection hv547_8 with hva_ hvn_ hvc_
      rw [hva_] at ge547_8
      rw [hvc_] at ul547_8
      have HL547_8 := Asd.mk (show Kd.V k26 26 _ w.heap.size _ _ ((rd_T26 l0_8 1).f6) from Kd.V_mk ul547_8 ge547_8)
      clear hva_ hvn_ hvc_ ge547_8 ul547_8 hcc547 hce547
      (try simp only [show (1 : Int).toNat = 1 from rfl, Nat.reduceMul, Nat.reduceEqDiff, Go.Addr.add, ↓reduceIte] at hx547_0)
      (try simp only [show (1 : Int).toNat = 1 from rfl, Nat.reduceMul, Nat.reduceEqDiff, Go.Addr.add, ↓reduceIte] at hx547_1)
      (try simp only [show (1 : Int).toNat = 1 from rfl, Nat.reduceMul, Nat.reduceEqDiff, Go.Addr.add, ↓reduceIte] at hx547_2)
      (try simp only [show (1 : Int).toNat = 1 from rfl, Nat.reduceMul, Nat.reduceEqDiff, Go.Addr.add, ↓reduceIte] at hx547_3)
      (try simp only [show (1 : Int).toNat = 1 from rfl, Nat.reduceMul, Nat.reduceEqDiff, Go.Addr.add, ↓reduceIte] at hx547_4)
      (try simp only [show (1 : Int).toNat = 1 from rfl, Nat.reduceMul, Nat.reduceEqDiff, Go.Addr.add, ↓reduceIte] at hx547_5)
      (try simp only [show (1 : Int).toNat = 1 from rfl, Nat.reduceMul, Nat.reduceEqDiff, Go.Addr.add, ↓reduceIte] at hx547_6)
      (try simp only [show (1 : Int).toNat = 1 from rfl, Nat.reduceMul, Nat.reduceEqDiff, Go.Addr.add, ↓reduceIte] at hx547_7)
      (try simp only [show (1 : Int).toNat = 1 from rfl, Nat.reduceMul, Nat.reduceEqDiff, Go.Addr.add, ↓reduceIte] at hx547_8)
      have qi547 : (1 < l0_8.length) = True := eq_true (by omega)
      (try rw [show ((1 : Int)).toNat = 1 from rfl] at hx547_0)
      (try rw [show 1 * 9 = 9 from rfl] at hx547_0)
      (try rw [show ((1 : Int)).toNat = 1 from rfl] at hx547_1)
      (try rw [show 1 * 9 = 9 from rfl] at hx547_1)
      (try rw [show ((1 : Int)).toNat = 1 from rfl] at hx547_2)
      (try rw [show 1 * 9 = 9 from rfl] at hx547_2)
      (try rw [show ((1 : Int)).toNat = 1 from rfl] at hx547_3)
      (try rw [show 1 * 9 = 9 from rfl] at hx547_3)
      (try rw [show ((1 : Int)).toNat = 1 from rfl] at hx547_4)
      (try rw [show 1 * 9 = 9 from rfl] at hx547_4)
      (try rw [show ((1 : Int)).toNat = 1 from rfl] at hx547_5)
      (try rw [show 1 * 9 = 9 from rfl] at hx547_5)
      (try rw [show ((1 : Int)).toNat = 1 from rfl] at hx547_6)
      (try rw [show 1 * 9 = 9 from rfl] at hx547_6)
      (try rw [show ((1 : Int)).toNat = 1 from rfl] at hx547_7)
      (try rw [show 1 * 9 = 9 from rfl] at hx547_7)
      (try rw [show ((1 : Int)).toNat = 1 from rfl] at hx547_8)
      (try rw [show 1 * 9 = 9 from rfl] at hx547_8)
      have HR547_8 := Asd.mk hi547_8
      have HC547_8 := Asd.mk hl547_8
      clear hi547_8 hl547_8
      replace p547 := eq_true p547
      replace q547 := eq_true q547
      refine start_ (n := 12) (S := fun w' => w'.cell? ⟨gb541, 0, none⟩ = some (.int .i64 a0_0) ∧ w'.cell? ⟨gb541, 1, none⟩ = some (.int .i64 a0_1) ∧ w'.cell? ⟨gb541, 2, none⟩ = some (.int .i64 a0_2) ∧ w'.cell? ⟨gb541, 3, none⟩ = some (.string a0_3) ∧ w'.cell? ⟨gb541, 4, none⟩ = some (.int .i64 a0_4) ∧ w'.cell? ⟨gb541, 5, none⟩ = some (.int .i64 a0_5) ∧ w'.cell? ⟨gb541, 6, none⟩ = some (.int .i64 a0_6) ∧ w'.cell? ⟨gb541, 7, none⟩ = some (.string a0_7) ∧ w'.cell? ⟨gb541, 8, none⟩ = some (.slice (some ad543) l0_8.length c0_8) ∧ w'.cell? ad543 = some (.int .i64 ((rd_T26 l0_8 0).f0)) ∧ w'.cell? ⟨ad543.block, ad543.off + 1, none⟩ = some (.int .i64 ((rd_T26 l0_8 0).f1.f0)) ∧ w'.cell? ⟨ad543.block, ad543.off + 2, none⟩ = some (.int .i64 ((rd_T26 l0_8 0).f1.f1)) ∧ w'.cell? ⟨ad543.block, ad543.off + 3, none⟩ = some (.string ((rd_T26 l0_8 0).f1.f2)) ∧ w'.cell? ⟨ad543.block, ad543.off + 4, none⟩ = some (.int .i64 ((rd_T26 l0_8 0).f2)) ∧ w'.cell? ⟨ad543.block, ad543.off + 5, none⟩ = some (.int .i64 ((rd_T26 l0_8 0).f3)) ∧ w'.cell? ⟨ad543.block, ad543.off + 6, none⟩ = some (.int .i64 ((rd_T26 l0_8 0).f4)) ∧ w'.cell? ⟨ad543.block, ad543.off + 7, none⟩ = some (.string ((rd_T26 l0_8 0).f5)) ∧ w'.cell? ⟨ad543.block, ad543.off + 8, none⟩ = some (.slice A543_8 ((rd_T26 l0_8 0).f6).length c543_8) ∧ w'.cell? ⟨ad543.block, ad543.off + 9, none⟩ = some (.int .i64 ((rd_T26 l0_8 1).f0)) ∧ w'.cell? ⟨ad543.block, ad543.off + 9 + 1, none⟩ = some (.int .i64 ((rd_T26 l0_8 1).f1.f0)) ∧ w'.cell? ⟨ad543.block, ad543.off + 9 + 2, none⟩ = some (.int .i64 ((rd_T26 l0_8 1).f1.f1)) ∧ w'.cell? ⟨ad543.block, ad543.off + 9 + 3, none⟩ = some (.string ((rd_T26 l0_8 1).f1.f2)) ∧ w'.cell? ⟨ad543.block, ad543.off + 9 + 4, none⟩ = some (.int .i64 ((rd_T26 l0_8 1).f2)) ∧ w'.cell? ⟨ad543.block, ad543.off + 9 + 5, none⟩ = some (.int .i64 ((rd_T26 l0_8 1).f3)) ∧ w'.cell? ⟨ad543.block, ad543.off + 9 + 6, none⟩ = some (.int .i64 ((rd_T26 l0_8 1).f4)) ∧ w'.cell? ⟨ad543.block, ad543.off + 9 + 7, none⟩ = some (.string ((rd_T26 l0_8 1).f5)) ∧ w'.cell? ⟨ad543.block, ad543.off + 9 + 8, none⟩ = some (.slice A547_8 ((rd_T26 l0_8 1).f6).length c547_8)) (ds := [10]) #[false, false, false, false, false, false, false, false, false, false, false, false] (by kernel_rfl) rfl rfl ⟨(bkC BK541.out 0).trans rfl, (bkC BK541.out 1).trans rfl, (bkC BK541.out 2).trans rfl, (bkC BK541.out 3).trans rfl, (bkC BK541.out 4).trans rfl, (bkC BK541.out 5).trans rfl, (bkC BK541.out 6).trans rfl, (bkC BK541.out 7).trans rfl, (bkC BK541.out 8).trans rfl, hx543_0, hx543_1, hx543_2, hx543_3, hx543_4, hx543_5, hx543_6, hx543_7, hx543_8, hx547_0, hx547_1, hx547_2, hx547_3, hx547_4, hx547_5, hx547_6, hx547_7, hx547_8⟩ (fun hHeld => ?_); refine with_tabW expr_Split.tab5 expr_Split.bits5 (fun HT_ HW_ => ?_)
      generalize w12.drew = w14 at HO0_8 BK541 HB HL543_8 HL547_8 HR543_8 HR547_8 hx543_0 hx543_1 hx543_2 hx543_3 hx543_4 hx543_5 hx543_6 hx543_7 hx543_8 hx547_0 hx547_1 hx547_2 hx547_3 hx547_4 hx547_5 hx547_6 hx547_7 hx547_8 hHeld ⊢
      refine pure_ (i := 0) (N := some 11) (v := ?_) (a' := ?_) #[true, false, false, false, false, false, false, false, false, false, false, false] rfl rfl (any_of HT_.out (by kernel_rfl)) (fun _ _ _ h => h) (Or.inl ⟨by rfl, ?_⟩) ?_ ?_
      rotate_left
      ·intro w'
       go_simp
       with_reducible rfl
      rotate_left
      ·simp only [Act.put, List.setIfInBounds_toArray, List.set_cons_zero, List.set_cons_succ, i64_w, i32_w]
       rfl
      refine pure_ (i := 5) (N := some 16) (v := ?_) (a' := ?_) #[true, false, false, false, false, true, false, false, false, false, false, false] rfl rfl (any_of HT_.out (by kernel_rfl)) (fun _ _ _ h => h) (Or.inl ⟨by rfl, ?_⟩) ?_ ?_
      rotate_left
      ·intro w'
       go_simp
       with_reducible rfl
      rotate_left
      ·simp only [Act.put, List.setIfInBounds_toArray, List.set_cons_zero, List.set_cons_succ, i64_w, i32_w]
       rfl
      refine take_ (i := 1) (N := some 12) (v := ?_) (a' := ?_) #[true, true, false, false, false, true, false, false, false, false, false, false] rfl rfl (take_ofW HT_.out HW_.out (by kernel_rfl)) (fun _ _ _ h => h) (Or.inl ⟨by rfl, ?_⟩) hHeld ?_ ?_
      rotate_left
      ·rintro w' ⟨s0, s1, s2, s3, s4, s5, s6, s7, s8, s9, s10, s11, s12, s13, s14, s15, s16, s17, s18, s19, s20, s21, s22, s23, s24, s25, s26⟩
       go_simp
       with_reducible rfl
      rotate_left
      ·simp only [Act.put, List.setIfInBounds_toArray, List.set_cons_zero, List.set_cons_succ, i64_w, i32_w]
       rfl
      refine pure_ (i := 2) (N := some 13) (v := ?_) (a' := ?_) #[true, true, true, false, false, true, false, false, false, false, false, false] rfl rfl (any_of HT_.out (by kernel_rfl)) (fun _ _ _ h => h) (Or.inl ⟨by rfl, ?_⟩) ?_ ?_
      rotate_left
      ·intro w'
       go_simp
       with_reducible rfl
      rotate_left
      ·simp only [Act.put, List.setIfInBounds_toArray, List.set_cons_zero, List.set_cons_succ, i64_w, i32_w]
       rfl
      refine take_ (i := 3) (N := some 14) (v := ?_) (a' := ?_) #[true, true, true, true, false, true, false, false, false, false, false, false] rfl rfl (take_ofW HT_.out HW_.out (by kernel_rfl)) (fun _ _ _ h => h) (Or.inl ⟨by rfl, ?_⟩) hHeld ?_ ?_
      rotate_left
      ·rintro w' ⟨s0, s1, s2, s3, s4, s5, s6, s7, s8, s9, s10, s11, s12, s13, s14, s15, s16, s17, s18, s19, s20, s21, s22, s23, s24, s25, s26⟩
       go_simp
       with_reducible rfl
      rotate_left
      ·simp only [Act.put, List.setIfInBounds_toArray, List.set_cons_zero, List.set_cons_succ, i64_w, i32_w]
       rfl
      refine take_ (i := 6) (N := some 17) (v := ?_) (a' := ?_) #[true, true, true, true, false, true, true, false, false, false, false, false] rfl rfl (take_ofW HT_.out HW_.out (by kernel_rfl)) (fun _ _ _ h => h) (Or.inl ⟨by rfl, ?_⟩) hHeld ?_ ?_
      rotate_left
      ·rintro w' ⟨s0, s1, s2, s3, s4, s5, s6, s7, s8, s9, s10, s11, s12, s13, s14, s15, s16, s17, s18, s19, s20, s21, s22, s23, s24, s25, s26⟩
       go_simp
       with_reducible rfl
      rotate_left
      ·simp only [Act.put, List.setIfInBounds_toArray, List.set_cons_zero, List.set_cons_succ, i64_w, i32_w]
       rfl
      refine pure_ (i := 7) (N := some 18) (v := ?_) (a' := ?_) #[true, true, true, true, false, true, true, true, false, false, false, false] rfl rfl (any_of HT_.out (by kernel_rfl)) (fun _ _ _ h => h) (Or.inl ⟨by rfl, ?_⟩) ?_ ?_
      rotate_left
      ·intro w'
       go_simp
       with_reducible rfl
      rotate_left
      ·simp only [Act.put, List.setIfInBounds_toArray, List.set_cons_zero, List.set_cons_succ, i64_w, i32_w]
       rfl
      refine take_ (i := 8) (N := some 19) (v := ?_) (a' := ?_) #[true, true, true, true, false, true, true, true, true, false, false, false] rfl rfl (take_ofW HT_.out HW_.out (by kernel_rfl)) (fun _ _ _ h => h) (Or.inl ⟨by rfl, ?_⟩) hHeld ?_ ?_
      rotate_left
      ·rintro w' ⟨s0, s1, s2, s3, s4, s5, s6, s7, s8, s9, s10, s11, s12, s13, s14, s15, s16, s17, s18, s19, s20, s21, s22, s23, s24, s25, s26⟩
       go_simp
       with_reducible rfl
      rotate_left
      ·simp only [Act.put, List.setIfInBounds_toArray, List.set_cons_zero, List.set_cons_succ, i64_w, i32_w]
       rfl
      refine one_ (i := 4) (N := some 15) #[true, true, true, true, true, true, true, true, true, false, false, false] rfl rfl (one_of HT_.out (by kernel_rfl)) (by decide) (fun K hK => ?_)
      refine goes_ Tryd.func26 (by kernel_rfl) rfl #[.agg #[.int .i64 ((rd_T26 l0_8 0).f0), .int .i64 ((rd_T26 l0_8 0).f1.f0), .int .i64 ((rd_T26 l0_8 0).f1.f1), .string ((rd_T26 l0_8 0).f1.f2), .int .i64 ((rd_T26 l0_8 0).f2), .int .i64 ((rd_T26 l0_8 0).f3), .int .i64 ((rd_T26 l0_8 0).f4), .string ((rd_T26 l0_8 0).f5), .slice A543_8 ((rd_T26 l0_8 0).f6).length c543_8]] (by rfl) rfl rfl (by (try simp only [List.map_toArray, List.map_cons, List.map_nil]); first | done | rfl | (simp only [List.length_drop, List.length_take]; rfl)) ?_
      with_reducible refine (ih k (by omega) ((rd_T26 l0_8 0).f0) ((rd_T26 l0_8 0).f1.f0) ((rd_T26 l0_8 0).f1.f1) ((rd_T26 l0_8 0).f1.f2) ((rd_T26 l0_8 0).f2) ((rd_T26 l0_8 0).f3) ((rd_T26 l0_8 0).f4) ((rd_T26 l0_8 0).f5) (fun k_ => ((P0_8_ k_ ∨ w.heap.size ≤ k_) ∧ k_ ≠ gb541)) _ _ ((rd_T26 l0_8 0).f6) t544 _ ?side1 A6.out).mono ?_
      (case side1 => exact HL543_8.out)
      rintro e w15 ⟨v545, rfl, ho0, hb⟩
      have HS9_ := (hb.cell (World.block_lt_of_cell? _ _ (hHeld.2.2.2.2.2.2.2.2.2.1))).trans (hHeld.2.2.2.2.2.2.2.2.2.1)
      have HS10_ := (hb.cell (World.block_lt_of_cell? _ _ (hHeld.2.2.2.2.2.2.2.2.2.2.1))).trans (hHeld.2.2.2.2.2.2.2.2.2.2.1)
      have HS11_ := (hb.cell (World.block_lt_of_cell? _ _ (hHeld.2.2.2.2.2.2.2.2.2.2.2.1))).trans (hHeld.2.2.2.2.2.2.2.2.2.2.2.1)
      have HS12_ := (hb.cell (World.block_lt_of_cell? _ _ (hHeld.2.2.2.2.2.2.2.2.2.2.2.2.1))).trans (hHeld.2.2.2.2.2.2.2.2.2.2.2.2.1)
      have HS13_ := (hb.cell (World.block_lt_of_cell? _ _ (hHeld.2.2.2.2.2.2.2.2.2.2.2.2.2.1))).trans (hHeld.2.2.2.2.2.2.2.2.2.2.2.2.2.1)
      have HS14_ := (hb.cell (World.block_lt_of_cell? _ _ (hHeld.2.2.2.2.2.2.2.2.2.2.2.2.2.2.1))).trans (hHeld.2.2.2.2.2.2.2.2.2.2.2.2.2.2.1)
      have HS15_ := (hb.cell (World.block_lt_of_cell? _ _ (hHeld.2.2.2.2.2.2.2.2.2.2.2.2.2.2.2.1))).trans (hHeld.2.2.2.2.2.2.2.2.2.2.2.2.2.2.2.1)
      have HS16_ := (hb.cell (World.block_lt_of_cell? _ _ (hHeld.2.2.2.2.2.2.2.2.2.2.2.2.2.2.2.2.1))).trans (hHeld.2.2.2.2.2.2.2.2.2.2.2.2.2.2.2.2.1)
      have HS17_ := (hb.cell (World.block_lt_of_cell? _ _ (hHeld.2.2.2.2.2.2.2.2.2.2.2.2.2.2.2.2.2.1))).trans (hHeld.2.2.2.2.2.2.2.2.2.2.2.2.2.2.2.2.2.1)
      have HS18_ := (hb.cell (World.block_lt_of_cell? _ _ (hHeld.2.2.2.2.2.2.2.2.2.2.2.2.2.2.2.2.2.2.1))).trans (hHeld.2.2.2.2.2.2.2.2.2.2.2.2.2.2.2.2.2.2.1)
      have HS19_ := (hb.cell (World.block_lt_of_cell? _ _ (hHeld.2.2.2.2.2.2.2.2.2.2.2.2.2.2.2.2.2.2.2.1))).trans (hHeld.2.2.2.2.2.2.2.2.2.2.2.2.2.2.2.2.2.2.2.1)
      have HS20_ := (hb.cell (World.block_lt_of_cell? _ _ (hHeld.2.2.2.2.2.2.2.2.2.2.2.2.2.2.2.2.2.2.2.2.1))).trans (hHeld.2.2.2.2.2.2.2.2.2.2.2.2.2.2.2.2.2.2.2.2.1)
      have HS21_ := (hb.cell (World.block_lt_of_cell? _ _ (hHeld.2.2.2.2.2.2.2.2.2.2.2.2.2.2.2.2.2.2.2.2.2.1))).trans (hHeld.2.2.2.2.2.2.2.2.2.2.2.2.2.2.2.2.2.2.2.2.2.1)
      have HS22_ := (hb.cell (World.block_lt_of_cell? _ _ (hHeld.2.2.2.2.2.2.2.2.2.2.2.2.2.2.2.2.2.2.2.2.2.2.1))).trans (hHeld.2.2.2.2.2.2.2.2.2.2.2.2.2.2.2.2.2.2.2.2.2.2.1)
      have HS23_ := (hb.cell (World.block_lt_of_cell? _ _ (hHeld.2.2.2.2.2.2.2.2.2.2.2.2.2.2.2.2.2.2.2.2.2.2.2.1))).trans (hHeld.2.2.2.2.2.2.2.2.2.2.2.2.2.2.2.2.2.2.2.2.2.2.2.1)
      have HS24_ := (hb.cell (World.block_lt_of_cell? _ _ (hHeld.2.2.2.2.2.2.2.2.2.2.2.2.2.2.2.2.2.2.2.2.2.2.2.2.1))).trans (hHeld.2.2.2.2.2.2.2.2.2.2.2.2.2.2.2.2.2.2.2.2.2.2.2.2.1)
      have HS25_ := (hb.cell (World.block_lt_of_cell? _ _ (hHeld.2.2.2.2.2.2.2.2.2.2.2.2.2.2.2.2.2.2.2.2.2.2.2.2.2.1))).trans (hHeld.2.2.2.2.2.2.2.2.2.2.2.2.2.2.2.2.2.2.2.2.2.2.2.2.2.1)
      have HS26_ := (hb.cell (World.block_lt_of_cell? _ _ (hHeld.2.2.2.2.2.2.2.2.2.2.2.2.2.2.2.2.2.2.2.2.2.2.2.2.2.2))).trans (hHeld.2.2.2.2.2.2.2.2.2.2.2.2.2.2.2.2.2.2.2.2.2.2.2.2.2.2)
      refine ⟨_, rfl, ?_⟩
      have n0_ := Asd.mk (Kd.V_elder' (by (with_reducible repeat (first | apply Kd.V_alloc | apply Kd.V_drewN | apply Kd.V_drew)); exact HO0_8.out) (Kd.N_base ho0) hb)
      have n1_ := Asd.mk (Kd.V_elder' (by (with_reducible repeat (first | apply Kd.V_alloc | apply Kd.V_drewN | apply Kd.V_drew)); exact HL543_8.out) (Kd.N_base ho0) hb)
      have n2_ := Asd.mk (Kd.V_elder' (by (with_reducible repeat (first | apply Kd.V_alloc | apply Kd.V_drewN | apply Kd.V_drew)); exact HL547_8.out) (Kd.N_base ho0) hb)
      have n3_ := Asd.mk (Kd.N_lower (Kd.N_mono (ok' := fun k_ => (P0_8_ k_ ∨ w.heap.size ≤ k_) ∧ k_ ≠ gb541) ho0 (fun k_ hk_ => ⟨Or.elim hk_ (fun hs_ => hs_.1) (fun hn_ => (.inr (Nat.le_trans (below_size (by repeat (first | (with_reducible first | exact HB.out | apply blA | apply pbN | apply blD | refine blS ?_ GE541.out) | exact HB.out))) hn_))), Or.elim hk_ (fun hs_ => hs_.2) (fun hn_ => (Kd.freshB (g := gb541) (o := .cells #[.int .i64 a0_0, .int .i64 a0_1, .int .i64 a0_2, .string a0_3, .int .i64 a0_4, .int .i64 a0_5, .int .i64 a0_6, .string a0_7, .slice (some ad543) l0_8.length c0_8] 26 (0, 0)) (by exact BK541.out) k_ hn_))⟩)) (below_size (by repeat (first | (with_reducible first | exact HB.out | apply blA | apply pbN | apply blD | refine blS ?_ GE541.out) | exact HB.out))))
      have n4_ := Asd.mk (bB hb BK541.out)
      have n5_ := Asd.mk (Kd.C_below (by repeat (first | (with_reducible exact HR543_8.out) | (with_reducible refine Kd.C_alloc ?_ _) | (with_reducible refine Kd.C_drewN ?_ _) | (with_reducible refine Kd.C_drew ?_) | exact HR543_8.out)) hb)
      have n6_ := Asd.mk (Kd.C_below (by repeat (first | (with_reducible exact HR547_8.out) | (with_reducible refine Kd.C_alloc ?_ _) | (with_reducible refine Kd.C_drewN ?_ _) | (with_reducible refine Kd.C_drew ?_) | exact HR547_8.out)) hb)
      have n7_ := Asd.mk (bS hb HB.out)
      clear HO0_8 HL543_8 HL547_8 BK541 HR543_8 HR547_8 HB
      have HO0_8 := n0_
      have HL543_8 := n1_
      have HL547_8 := n2_
      have HO546 := n3_
      have BK541 := n4_
      have HR543_8 := n5_
      have HR547_8 := n6_
      have HB := n7_
      clear n0_ n1_ n2_ n3_ n4_ n5_ n6_ n7_
      (try clear hb)
      (try clear hb2)
      (try clear hk)
      (try clear hi)
      (try clear ho0)
      refine hK.out _ _ ⟨(bkC BK541.out 0).trans rfl, (bkC BK541.out 1).trans rfl, (bkC BK541.out 2).trans rfl, (bkC BK541.out 3).trans rfl, (bkC BK541.out 4).trans rfl, (bkC BK541.out 5).trans rfl, (bkC BK541.out 6).trans rfl, (bkC BK541.out 7).trans rfl, (bkC BK541.out 8).trans rfl, HS9_, HS10_, HS11_, HS12_, HS13_, HS14_, HS15_, HS16_, HS17_, HS18_, HS19_, HS20_, HS21_, HS22_, HS23_, HS24_, HS25_, HS26_⟩ (fun hHeld => ?_)
      clear hK K
      refine norm_ (a' := ?_) ?_ ?_
      rotate_left
      ·show Act.put _ (some 15) _ = _
       simp only [Act.put, List.setIfInBounds_toArray, List.set_cons_zero, List.set_cons_succ, i64_w, i32_w]
       rfl
      refine one_ (i := 9) (N := some 20) #[true, true, true, true, true, true, true, true, true, true, false, false] rfl rfl (one_of HT_.out (by kernel_rfl)) (by decide) (fun K hK => ?_)
      refine goes_ Tryd.func26 (by kernel_rfl) rfl #[.agg #[.int .i64 ((rd_T26 l0_8 1).f0), .int .i64 ((rd_T26 l0_8 1).f1.f0), .int .i64 ((rd_T26 l0_8 1).f1.f1), .string ((rd_T26 l0_8 1).f1.f2), .int .i64 ((rd_T26 l0_8 1).f2), .int .i64 ((rd_T26 l0_8 1).f3), .int .i64 ((rd_T26 l0_8 1).f4), .string ((rd_T26 l0_8 1).f5), .slice A547_8 ((rd_T26 l0_8 1).f6).length c547_8]] (by rfl) rfl rfl (by (try simp only [List.map_toArray, List.map_cons, List.map_nil]); first | done | rfl | (simp only [List.length_drop, List.length_take]; rfl)) ?_
      with_reducible refine (ih k (by omega) ((rd_T26 l0_8 1).f0) ((rd_T26 l0_8 1).f1.f0) ((rd_T26 l0_8 1).f1.f1) ((rd_T26 l0_8 1).f1.f2) ((rd_T26 l0_8 1).f2) ((rd_T26 l0_8 1).f3) ((rd_T26 l0_8 1).f4) ((rd_T26 l0_8 1).f5) (fun k_ => (((P0_8_ k_ ∨ w.heap.size ≤ k_) ∧ k_ ≠ gb541) ∧ some k_ ≠ (v545 : Value).ownBlock)) _ _ ((rd_T26 l0_8 1).f6) t548 _ ?side1 A8.out).mono ?_
      (case side1 => exact HL547_8.out)
      rintro e w16 ⟨v549, rfl, ho0, hb⟩
      have HS9_ := (hb.cell (World.block_lt_of_cell? _ _ (hHeld.2.2.2.2.2.2.2.2.2.1))).trans (hHeld.2.2.2.2.2.2.2.2.2.1)
      have HS10_ := (hb.cell (World.block_lt_of_cell? _ _ (hHeld.2.2.2.2.2.2.2.2.2.2.1))).trans (hHeld.2.2.2.2.2.2.2.2.2.2.1)
      have HS11_ := (hb.cell (World.block_lt_of_cell? _ _ (hHeld.2.2.2.2.2.2.2.2.2.2.2.1))).trans (hHeld.2.2.2.2.2.2.2.2.2.2.2.1)
      have HS12_ := (hb.cell (World.block_lt_of_cell? _ _ (hHeld.2.2.2.2.2.2.2.2.2.2.2.2.1))).trans (hHeld.2.2.2.2.2.2.2.2.2.2.2.2.1)
      have HS13_ := (hb.cell (World.block_lt_of_cell? _ _ (hHeld.2.2.2.2.2.2.2.2.2.2.2.2.2.1))).trans (hHeld.2.2.2.2.2.2.2.2.2.2.2.2.2.1)
      have HS14_ := (hb.cell (World.block_lt_of_cell? _ _ (hHeld.2.2.2.2.2.2.2.2.2.2.2.2.2.2.1))).trans (hHeld.2.2.2.2.2.2.2.2.2.2.2.2.2.2.1)
      have HS15_ := (hb.cell (World.block_lt_of_cell? _ _ (hHeld.2.2.2.2.2.2.2.2.2.2.2.2.2.2.2.1))).trans (hHeld.2.2.2.2.2.2.2.2.2.2.2.2.2.2.2.1)
      have HS16_ := (hb.cell (World.block_lt_of_cell? _ _ (hHeld.2.2.2.2.2.2.2.2.2.2.2.2.2.2.2.2.1))).trans (hHeld.2.2.2.2.2.2.2.2.2.2.2.2.2.2.2.2.1)
      have HS17_ := (hb.cell (World.block_lt_of_cell? _ _ (hHeld.2.2.2.2.2.2.2.2.2.2.2.2.2.2.2.2.2.1))).trans (hHeld.2.2.2.2.2.2.2.2.2.2.2.2.2.2.2.2.2.1)
      have HS18_ := (hb.cell (World.block_lt_of_cell? _ _ (hHeld.2.2.2.2.2.2.2.2.2.2.2.2.2.2.2.2.2.2.1))).trans (hHeld.2.2.2.2.2.2.2.2.2.2.2.2.2.2.2.2.2.2.1)
      have HS19_ := (hb.cell (World.block_lt_of_cell? _ _ (hHeld.2.2.2.2.2.2.2.2.2.2.2.2.2.2.2.2.2.2.2.1))).trans (hHeld.2.2.2.2.2.2.2.2.2.2.2.2.2.2.2.2.2.2.2.1)
      have HS20_ := (hb.cell (World.block_lt_of_cell? _ _ (hHeld.2.2.2.2.2.2.2.2.2.2.2.2.2.2.2.2.2.2.2.2.1))).trans (hHeld.2.2.2.2.2.2.2.2.2.2.2.2.2.2.2.2.2.2.2.2.1)
      have HS21_ := (hb.cell (World.block_lt_of_cell? _ _ (hHeld.2.2.2.2.2.2.2.2.2.2.2.2.2.2.2.2.2.2.2.2.2.1))).trans (hHeld.2.2.2.2.2.2.2.2.2.2.2.2.2.2.2.2.2.2.2.2.2.1)
      have HS22_ := (hb.cell (World.block_lt_of_cell? _ _ (hHeld.2.2.2.2.2.2.2.2.2.2.2.2.2.2.2.2.2.2.2.2.2.2.1))).trans (hHeld.2.2.2.2.2.2.2.2.2.2.2.2.2.2.2.2.2.2.2.2.2.2.1)
      have HS23_ := (hb.cell (World.block_lt_of_cell? _ _ (hHeld.2.2.2.2.2.2.2.2.2.2.2.2.2.2.2.2.2.2.2.2.2.2.2.1))).trans (hHeld.2.2.2.2.2.2.2.2.2.2.2.2.2.2.2.2.2.2.2.2.2.2.2.1)
      have HS24_ := (hb.cell (World.block_lt_of_cell? _ _ (hHeld.2.2.2.2.2.2.2.2.2.2.2.2.2.2.2.2.2.2.2.2.2.2.2.2.1))).trans (hHeld.2.2.2.2.2.2.2.2.2.2.2.2.2.2.2.2.2.2.2.2.2.2.2.2.1)
      have HS25_ := (hb.cell (World.block_lt_of_cell? _ _ (hHeld.2.2.2.2.2.2.2.2.2.2.2.2.2.2.2.2.2.2.2.2.2.2.2.2.2.1))).trans (hHeld.2.2.2.2.2.2.2.2.2.2.2.2.2.2.2.2.2.2.2.2.2.2.2.2.2.1)
      have HS26_ := (hb.cell (World.block_lt_of_cell? _ _ (hHeld.2.2.2.2.2.2.2.2.2.2.2.2.2.2.2.2.2.2.2.2.2.2.2.2.2.2))).trans (hHeld.2.2.2.2.2.2.2.2.2.2.2.2.2.2.2.2.2.2.2.2.2.2.2.2.2.2)
      refine ⟨_, rfl, ?_⟩
      have n0_ := Asd.mk (Kd.V_elder' (by (with_reducible repeat (first | apply Kd.V_alloc | apply Kd.V_drewN | apply Kd.V_drew)); exact HO0_8.out) (Kd.N_base ho0) hb)
      have n1_ := Asd.mk (Kd.V_elder' (by (with_reducible repeat (first | apply Kd.V_alloc | apply Kd.V_drewN | apply Kd.V_drew)); exact HL543_8.out) (Kd.N_base ho0) hb)
      have n2_ := Asd.mk (Kd.V_elder' (by (with_reducible repeat (first | apply Kd.V_alloc | apply Kd.V_drewN | apply Kd.V_drew)); exact HL547_8.out) (Kd.N_base ho0) hb)
      have n3_ := Asd.mk (Kd.N_elder' (by (with_reducible repeat (first | apply Kd.N_alloc | apply Kd.N_drewN | apply Kd.N_drew)); exact HO546.out) (Kd.N_base ho0) hb)
      have n4_ := Asd.mk (Kd.N_lower (Kd.N_mono (ok' := fun k_ => (P0_8_ k_ ∨ w.heap.size ≤ k_) ∧ some k_ ≠ (v545 : Value).ownBlock ∧ k_ ≠ gb541) ho0 (fun k_ hk_ => ⟨Or.elim hk_ (fun hs_ => hs_.1.1) (fun hn_ => (.inr (Nat.le_trans (below_size (by repeat (first | (with_reducible first | exact HB.out | apply blA | apply pbN | apply blD | refine blS ?_ GE541.out) | exact HB.out))) hn_))), Or.elim hk_ (fun hs_ => hs_.2) (fun hn_ => (Kd.fresh' (Kd.N_lt (by (with_reducible repeat (first | apply Kd.N_alloc | apply Kd.N_drewN | apply Kd.N_drew)); exact HO546.out)) k_ hn_)), Or.elim hk_ (fun hs_ => hs_.1.2) (fun hn_ => (Kd.freshB (g := gb541) (o := .cells #[.int .i64 a0_0, .int .i64 a0_1, .int .i64 a0_2, .string a0_3, .int .i64 a0_4, .int .i64 a0_5, .int .i64 a0_6, .string a0_7, .slice (some ad543) l0_8.length c0_8] 26 (0, 0)) (by exact BK541.out) k_ hn_))⟩)) (below_size (by repeat (first | (with_reducible first | exact HB.out | apply blA | apply pbN | apply blD | refine blS ?_ GE541.out) | exact HB.out))))
      have n5_ := Asd.mk (bB hb BK541.out)
      have n6_ := Asd.mk (Kd.C_below (by repeat (first | (with_reducible exact HR543_8.out) | (with_reducible refine Kd.C_alloc ?_ _) | (with_reducible refine Kd.C_drewN ?_ _) | (with_reducible refine Kd.C_drew ?_) | exact HR543_8.out)) hb)
      have n7_ := Asd.mk (Kd.C_below (by repeat (first | (with_reducible exact HR547_8.out) | (with_reducible refine Kd.C_alloc ?_ _) | (with_reducible refine Kd.C_drewN ?_ _) | (with_reducible refine Kd.C_drew ?_) | exact HR547_8.out)) hb)
      have n8_ := Asd.mk (bS hb HB.out)
      clear HO0_8 HL543_8 HL547_8 HO546 BK541 HR543_8 HR547_8 HB
      have HO0_8 := n0_
      have HL543_8 := n1_
      have HL547_8 := n2_
      have HO546 := n3_
      have HO550 := n4_
      have BK541 := n5_
      have HR543_8 := n6_
      have HR547_8 := n7_
      have HB := n8_
      clear n0_ n1_ n2_ n3_ n4_ n5_ n6_ n7_ n8_
      (try clear hb)
      (try clear hb2)
      (try clear hk)
      (try clear hi)
      (try clear ho0)
      obtain ⟨Ao18, co18, eo18⟩ := Kd.N_slice HO550.out
      (first | subst eo18 | (injection eo18 with f1_ f2_ f3_; have f4_ := f1_.symm; have f5_ := f3_.symm; clear f1_ f2_ f3_; subst f4_; subst f5_))
      refine hK.out _ _ ⟨(bkC BK541.out 0).trans rfl, (bkC BK541.out 1).trans rfl, (bkC BK541.out 2).trans rfl, (bkC BK541.out 3).trans rfl, (bkC BK541.out 4).trans rfl, (bkC BK541.out 5).trans rfl, (bkC BK541.out 6).trans rfl, (bkC BK541.out 7).trans rfl, (bkC BK541.out 8).trans rfl, HS9_, HS10_, HS11_, HS12_, HS13_, HS14_, HS15_, HS16_, HS17_, HS18_, HS19_, HS20_, HS21_, HS22_, HS23_, HS24_, HS25_, HS26_⟩ (fun hHeld => ?_)
      clear hK K
      refine norm_ (a' := ?_) ?_ ?_
      rotate_left
      ·show Act.put _ (some 20) _ = _
       simp only [Act.put, List.setIfInBounds_toArray, List.set_cons_zero, List.set_cons_succ, i64_w, i32_w]
       rfl
      refine last_ (i := 10) (N := some 21) #[true, true, true, true, true, true, true, true, true, true, true, false] rfl rfl (one_of HT_.out (by kernel_rfl)) (by decide) (fun K hK => ?_)
      refine Kd.N_append_rows_step k26 (w0 := w) w.heap.size (by rfl) (.tmp 15) (.tmp 20) 24 26 (.agg #[(.int .i64 0), (.int .i64 0), (.int .i64 0), (.string ⟨#[]⟩), (.int .i64 0), (.int .i64 0), (.int .i64 0), (.string ⟨#[]⟩), (.slice none 0 0)]) 104 rfl Tryd.underlying24 info26 rfl (by decide) (by omega) v545 t544 t548 _ _ _ (fun k_ => (P0_8_ k_ ∨ w.heap.size ≤ k_) ∧ k_ ≠ gb541) (fun k_ => ((fun k_ => (P0_8_ k_ ∨ w.heap.size ≤ k_) ∧ k_ ≠ gb541)) k_ ∧ some k_ ≠ (v545 : Value).ownBlock) rfl rfl ?aO ?aR (fun _ hk => hk) ?aF ?aB ?aS ?aL ?_
      (case aR => exact (by skip; exact Kd.N_F (Kd.N_mono (ok' := (fun k_ => ((fun k_ => (P0_8_ k_ ∨ w.heap.size ≤ k_) ∧ k_ ≠ gb541)) k_ ∧ some k_ ≠ (v545 : Value).ownBlock)) (HO550.out) (fun k_ hk => ⟨⟨hk.1, hk.2.2⟩, hk.2.1⟩))))
      (case aB => exact (by repeat (first | (with_reducible first | exact HB.out | apply blA | apply pbN | apply blD | refine blS ?_ GE541.out) | exact HB.out)))
      (case aF => exact (fun k_ hk => ⟨(.inr (Nat.le_trans (below_size (by repeat (first | (with_reducible first | exact HB.out | apply blA | apply pbN | apply blD | refine blS ?_ GE541.out) | exact HB.out))) hk)), Kd.freshB (g := gb541) (o := .cells #[.int .i64 a0_0, .int .i64 a0_1, .int .i64 a0_2, .string a0_3, .int .i64 a0_4, .int .i64 a0_5, .int .i64 a0_6, .string a0_7, .slice (some ad543) l0_8.length c0_8] 26 (0, 0)) (by exact BK541.out) k_ hk⟩))
      (case aO => exact (by (with_reducible repeat (first | apply Kd.N_alloc | apply Kd.N_drewN | apply Kd.N_drew)); exact Kd.N_mono HO546.out (fun _ hk => ⟨hk.1.1, hk.1.2⟩)))
      (case aS => exact (below_size (by repeat (first | (with_reducible first | exact HB.out | apply blA | apply pbN | apply blD | refine blS ?_ GE541.out) | exact HB.out))))
      (case aL => have := LMc9.out; omega)
      intro v552 w17 ho hb hg hat
      rw [← Ny551.out] at ho
      have n0_ := Asd.mk (Kd.V_afterv (ok := (fun k_ => (P0_8_ k_ ∨ w.heap.size ≤ k_) ∧ some k_ ≠ (.slice Ao18 t548.length co18 : Value).ownBlock ∧ k_ ≠ gb541)) (by (with_reducible repeat (first | apply Kd.V_alloc | apply Kd.V_drewN | apply Kd.V_drew)); exact Kd.V_mono HO0_8.out (fun _ hk => ⟨⟨hk.1.1.1, ⟨hk.2, hk.1.1.2⟩⟩, hk.1.2⟩)) hg hat)
      have n1_ := Asd.mk (blk_grown (g := gb541) (o := .cells #[.int .i64 a0_0, .int .i64 a0_1, .int .i64 a0_2, .string a0_3, .int .i64 a0_4, .int .i64 a0_5, .int .i64 a0_6, .string a0_7, .slice (some ad543) l0_8.length c0_8] 26 (0, 0)) (by exact BK541.out) hg (Kd.N_away HO546.out (fun _ hk => hk.1.2)))
      have n2_ := Asd.mk (Kd.V_afterv (ok := (fun k_ => (P0_8_ k_ ∨ w.heap.size ≤ k_) ∧ some k_ ≠ (.slice Ao18 t548.length co18 : Value).ownBlock ∧ k_ ≠ gb541)) (by (with_reducible repeat (first | apply Kd.V_alloc | apply Kd.V_drewN | apply Kd.V_drew)); exact Kd.V_mono HL543_8.out (fun _ hk => ⟨⟨hk.1.1.1, ⟨hk.2, hk.1.1.2⟩⟩, hk.1.2⟩)) hg hat)
      have n3_ := Asd.mk (Kd.V_afterv (ok := (fun k_ => (P0_8_ k_ ∨ w.heap.size ≤ k_) ∧ some k_ ≠ (.slice Ao18 t548.length co18 : Value).ownBlock ∧ k_ ≠ gb541)) (by (with_reducible repeat (first | apply Kd.V_alloc | apply Kd.V_drewN | apply Kd.V_drew)); exact Kd.V_mono HL547_8.out (fun _ hk => ⟨⟨hk.1.1.1, ⟨hk.2, hk.1.1.2⟩⟩, hk.1.2⟩)) hg hat)
      have n4_ := Asd.mk (Kd.N_afterv (ok := (fun k_ => (P0_8_ k_ ∨ w.heap.size ≤ k_) ∧ k_ ≠ gb541)) (by (with_reducible repeat (first | apply Kd.N_alloc | apply Kd.N_drewN | apply Kd.N_drew)); exact Kd.N_mono HO550.out (fun _ hk => ⟨⟨hk.1, hk.2.2⟩, hk.2.1⟩)) hg hat)
      have n5_ := Asd.mk (hb)
      have n6_ := Asd.mk (ho)
      clear HO0_8 BK541 HL543_8 HL547_8 HO550 HB HO546
      have HO0_8 := n0_
      have BK541 := n1_
      have HL543_8 := n2_
      have HL547_8 := n3_
      have HO550 := n4_
      have HB := n5_
      have HO553 := n6_
      clear n0_ n1_ n2_ n3_ n4_ n5_ n6_ ho hb hg hat
      refine hK.out _ _ ?_
      clear hK K
      refine norm_ (a' := ?_) ?_ ?_
      rotate_left
      ·show Act.put _ (some 21) _ = _
       simp only [Act.put, List.setIfInBounds_toArray, List.set_cons_zero, List.set_cons_succ, i64_w, i32_w]
       rfl
      refine pure_ (i := 11) (N := some 2) (v := ?_) (a' := ?_) #[true, true, true, true, true, true, true, true, true, true, true, true] rfl rfl (any_of HT_.out (by kernel_rfl)) (fun _ _ _ h => h) (Or.inl ⟨by rfl, ?_⟩) ?_ ?_
      rotate_left
      ·intro w'
       go_simp
       with_reducible rfl
      rotate_left
      ·simp only [Act.put, List.setIfInBounds_toArray, List.set_cons_zero, List.set_cons_succ, i64_w, i32_w]
       rfl
      refine done_ (done_of HT_.out (by kernel_rfl)) ?_
      try go_wp2
      go_ret
      exact ⟨_, by first | rfl | (simp [errW_none, errW_some] <;> rfl) | (simp [*, errW_none, errW_some] <;> rfl), by (with_reducible repeat (first | apply Kd.N_alloc | apply Kd.N_drewN | apply Kd.N_drew)); exact Kd.N_mono HO553.out (fun _ hk => hk.1), by repeat (first | (with_reducible first | exact HB.out | apply blA | apply pbN | apply blD | refine blS ?_ GE541.out) | exact HB.out)⟩
     ·rw [if_neg c9] at H
      exact absurd H (by simp)
    ·rw [if_neg c7] at H
     exact absurd H (by simp)
   ·rw [if_neg c5] at H
    exact absurd H (by simp)
  ·rw [if_neg c4] at H
   have c4b0 : (a0_0 == 15) = false := beq_eq_false_iff_ne.mpr c4
   have c4b1 : (a0_0 != 15) = true := bne_iff_ne.mpr c4
   obtain ⟨y554, hy554⟩ : ∃ y_ : List (S26), y_ = (([(⟨a0_0, (⟨a0_1, a0_2, a0_3⟩ : S23), a0_4, a0_5, a0_6, a0_7, l0_8⟩ : S26)] : List (S26))) := ⟨_, rfl⟩
   replace H : (some y554) = some r := by first | (rw [hy554]; with_reducible exact H) | (have H2_ := (Option.bind_some _ _).symm.trans H; rw [hy554]; with_reducible exact H2_) | (have H2_ := (Option.bind_some _ _).symm.trans H; with_reducible exact H2_) | with_reducible exact H | (rw [hy554]; exact H) | exact H
   have Ny554 := Asd.mk hy554
   clear hy554
   obtain rfl := Option.some.inj H
   go_enter Tryd.func26, Tryd.ntmps26
   go_wp2_with (first | ((with_reducible refine gate_dst (N := 1) rfl ?_); refine box_event rfl (N := 1) rfl (cs := #[.int .i64 a0_0, .int .i64 a0_1, .int .i64 a0_2, .string a0_3, .int .i64 a0_4, .int .i64 a0_5, .int .i64 a0_6, .string a0_7, .slice A0_8 l0_8.length c0_8]) (t := 26) (by first | (go_simp; done) | (go_simp; rfl)) ?_; intro gb541 hg w19 hbox hb; have n0_ := Asd.mk (Kd.V_below (Kd.V_elderB (by (with_reducible repeat (first | apply Kd.V_alloc | apply Kd.V_drewN | apply Kd.V_drew)); exact HO0_8.out) gb541 (Nat.le_of_eq hg.symm)) hb); have n1_ := Asd.mk (bS hb HB.out); have n2_ := Asd.mk (hbox); have n3_ := Asd.mk (bZ hg HB.out); have n4_ := Asd.mk (bZ hg HB.out); clear HO0_8; clear HB; have HO0_8 := n0_; have HB := n1_; have BK541 := n2_; have GW541 := n3_; have GE541 := n4_; clear n0_ n1_ n2_ n3_ n4_; clear hb hbox hg; obtain ⟨hcz20_0, hcz20_1, hcz20_2, hcz20_3, hcz20_4, hcz20_5, hcz20_6, hcz20_7, hcz20_8⟩ := bkC9 BK541.out; obtain ⟨hfz20_0, hfz20_1, hfz20_2, hfz20_3, hfz20_4, hfz20_5, hfz20_6, hfz20_7, hfz20_8⟩ := bkF9 BK541.out) | ((with_reducible refine gate_callee (f := 17) rfl ?_); refine goesL_ (some 4) rfl rfl Tryd.func17 (by kernel_rfl) rfl #[.agg #[.int .i64 a0_0, .int .i64 a0_1, .int .i64 a0_2, .string a0_3, .int .i64 a0_4, .int .i64 a0_5, .int .i64 a0_6, .string a0_7, .slice A0_8 l0_8.length c0_8]] rfl (by (try simp only [List.map_toArray, List.map_cons, List.map_nil]); first | done | rfl | (simp only [List.length_drop, List.length_take]; rfl)) ?_; (with_reducible refine (expr_Right.calls a0_0 a0_1 a0_2 a0_3 a0_4 a0_5 a0_6 a0_7 _ _ l0_8 true _ ?side1 ?side2 A2.out).mono ?_); (case side1 => repeat (first | exact (Kd.V_reads' HO0_8.out).2.2 | (with_reducible refine Kd.C_alloc ?_ _) | (with_reducible refine Kd.C_drewN ?_ _) | (with_reducible refine Kd.C_drew ?_))); (case side2 => exact (Kd.V_reads' HO0_8.out).2.1); rintro e w21 ⟨rfl, hb⟩; refine ⟨_, rfl, ?_⟩; have n0_ := Asd.mk (Kd.V_below (by (with_reducible repeat (first | apply Kd.V_alloc | apply Kd.V_drewN | apply Kd.V_drew)); exact HO0_8.out) hb); have n1_ := Asd.mk (bB hb BK541.out); have n2_ := Asd.mk (bS hb HB.out); clear HO0_8; clear BK541; clear HB; have HO0_8 := n0_; have BK541 := n1_; have HB := n2_; clear n0_ n1_ n2_; (try clear hb); (try clear hb2); (try clear hk); (try clear hi); obtain ⟨hcz22_0, hcz22_1, hcz22_2, hcz22_3, hcz22_4, hcz22_5, hcz22_6, hcz22_7, hcz22_8⟩ := bkC9 BK541.out; obtain ⟨hfz22_0, hfz22_1, hfz22_2, hfz22_3, hfz22_4, hfz22_5, hfz22_6, hfz22_7, hfz22_8⟩ := bkF9 BK541.out) | ((with_reducible refine gate_dst (N := 10) rfl ?_); refine Kd.N_lit k26 _ 26 ?hg (N' := 10) ?hd (xs := ([(⟨a0_0, (⟨a0_1, a0_2, a0_3⟩ : S23), a0_4, a0_5, a0_6, a0_7, l0_8⟩ : S26)] : List (S26))) (inner := [.int .i64 a0_0, .int .i64 a0_1, .int .i64 a0_2, .string a0_3, .int .i64 a0_4, .int .i64 a0_5, .int .i64 a0_6, .string a0_7, .slice A0_8 l0_8.length c0_8]) (ok := (fun k_ => (P0_8_ k_ ∨ w.heap.size ≤ k_) ∧ k_ ≠ gb541)) (okp := (fun k_ => (P0_8_ k_ ∨ w.heap.size ≤ k_) ∧ k_ ≠ gb541)) ?hr ?hp (fun _ hk => hk) ((show ∀ k_, w21.heap.size ≤ k_ → (fun k_ => (P0_8_ k_ ∨ w.heap.size ≤ k_) ∧ k_ ≠ gb541) k_ from fun k_ hk => ⟨(.inr (Nat.le_trans (below_size (by repeat (first | (with_reducible first | exact HB.out | apply blA | apply pbN | apply blD | refine blS ?_ GE541.out) | exact HB.out))) hk)), Kd.freshB (g := gb541) (o := .cells #[.int .i64 a0_0, .int .i64 a0_1, .int .i64 a0_2, .string a0_3, .int .i64 a0_4, .int .i64 a0_5, .int .i64 a0_6, .string a0_7, .slice A0_8 l0_8.length c0_8] 26 (0, 0)) (by exact BK541.out) k_ hk⟩) _ (Nat.le_refl _)) (Below.refl _ _) (Nat.le_refl _) (by simp) ?_; (case hd => rfl); (case hg => rfl); (case hr => first | (go_simp; done) | (go_simp; rfl)); (case hp => exact (Reps.c9 (show Kd.FK k26 _ _ (⟨a0_0, (⟨a0_1, a0_2, a0_3⟩ : S23), a0_4, a0_5, a0_6, a0_7, l0_8⟩ : S26) [.int .i64 a0_0, .int .i64 a0_1, .int .i64 a0_2, .string a0_3, .int .i64 a0_4, .int .i64 a0_5, .int .i64 a0_6, .string a0_7, .slice A0_8 l0_8.length c0_8] from (k26_mkF _ _ (⟨a0_0, (⟨a0_1, a0_2, a0_3⟩ : S23), a0_4, a0_5, a0_6, a0_7, l0_8⟩ : S26) (Kd.V_reads' (Kd.V_mono (ok' := (fun k_ => (P0_8_ k_ ∨ w.heap.size ≤ k_) ∧ k_ ≠ gb541)) (HO0_8.out) (fun k_ hk => ⟨hk.1, hk.2⟩))).2.1 (Kd.V_F (Kd.V_mono (ok' := (fun k_ => (P0_8_ k_ ∨ w.heap.size ≤ k_) ∧ k_ ≠ gb541)) (HO0_8.out) (fun k_ hk => ⟨hk.1, hk.2⟩))))) (Reps.none _ _))); intro v555 w23 ho24 hb hg_ hnew_; clear hg_ hnew_; (first | rw [← Ny554.out] at ho24 | (simp only [Int.reduceToNat] at ho24; rw [← Ny554.out] at ho24)); have n0_ := Asd.mk (Kd.V_elder' (by (with_reducible repeat (first | apply Kd.V_alloc | apply Kd.V_drewN | apply Kd.V_drew)); exact HO0_8.out) (Kd.N_base ho24) hb); have n1_ := Asd.mk (Kd.N_lower ho24 (below_size (by repeat (first | (with_reducible first | exact HB.out | apply blA | apply pbN | apply blD | refine blS ?_ GE541.out) | exact HB.out)))); have n2_ := Asd.mk (bB hb BK541.out); have n3_ := Asd.mk (bS hb HB.out); clear HO0_8; clear BK541; clear HB; have HO0_8 := n0_; have HO556 := n1_; have BK541 := n2_; have HB := n3_; clear n0_ n1_ n2_ n3_; clear hb ho24))
   go_ret
   exact ⟨_, by first | rfl | (simp [errW_none, errW_some] <;> rfl) | (simp [*, errW_none, errW_some] <;> rfl), by (with_reducible repeat (first | apply Kd.N_alloc | apply Kd.N_drewN | apply Kd.N_drew)); exact Kd.N_mono HO556.out (fun _ hk => hk.1), by repeat (first | (with_reducible first | exact HB.out | apply blA | apply pbN | apply blD | refine blS ?_ GE541.out) | exact HB.out)⟩
 ·replace c3 := Bool.eq_false_iff.mpr c3
  subst c3
  have H1 : (some ([] : List (S26))) = some r := by rw [if_neg (show ¬ (false = true) by decide)] at H; exact H
  clear H
  have H := H1
  clear H1
  obtain rfl := Option.some.inj H
  go_enter Tryd.func26, Tryd.ntmps26
  go_wp2_with (first | ((with_reducible refine gate_dst (N := 1) rfl ?_); refine box_event rfl (N := 1) rfl (cs := #[.int .i64 a0_0, .int .i64 a0_1, .int .i64 a0_2, .string a0_3, .int .i64 a0_4, .int .i64 a0_5, .int .i64 a0_6, .string a0_7, .slice A0_8 l0_8.length c0_8]) (t := 26) (by first | (go_simp; done) | (go_simp; rfl)) ?_; intro gb541 hg w25 hbox hb; have n0_ := Asd.mk (Kd.V_below (Kd.V_elderB (by (with_reducible repeat (first | apply Kd.V_alloc | apply Kd.V_drewN | apply Kd.V_drew)); exact HO0_8.out) gb541 (Nat.le_of_eq hg.symm)) hb); have n1_ := Asd.mk (bS hb HB.out); have n2_ := Asd.mk (hbox); have n3_ := Asd.mk (bZ hg HB.out); have n4_ := Asd.mk (bZ hg HB.out); clear HO0_8; clear HB; have HO0_8 := n0_; have HB := n1_; have BK541 := n2_; have GW541 := n3_; have GE541 := n4_; clear n0_ n1_ n2_ n3_ n4_; clear hb hbox hg; obtain ⟨hcz26_0, hcz26_1, hcz26_2, hcz26_3, hcz26_4, hcz26_5, hcz26_6, hcz26_7, hcz26_8⟩ := bkC9 BK541.out; obtain ⟨hfz26_0, hfz26_1, hfz26_2, hfz26_3, hfz26_4, hfz26_5, hfz26_6, hfz26_7, hfz26_8⟩ := bkF9 BK541.out) | ((with_reducible refine gate_callee (f := 17) rfl ?_); refine goesL_ (some 4) rfl rfl Tryd.func17 (by kernel_rfl) rfl #[.agg #[.int .i64 a0_0, .int .i64 a0_1, .int .i64 a0_2, .string a0_3, .int .i64 a0_4, .int .i64 a0_5, .int .i64 a0_6, .string a0_7, .slice A0_8 l0_8.length c0_8]] rfl (by (try simp only [List.map_toArray, List.map_cons, List.map_nil]); first | done | rfl | (simp only [List.length_drop, List.length_take]; rfl)) ?_; (with_reducible refine (expr_Right.calls a0_0 a0_1 a0_2 a0_3 a0_4 a0_5 a0_6 a0_7 _ _ l0_8 false _ ?side1 ?side2 A2.out).mono ?_); (case side1 => repeat (first | exact (Kd.V_reads' HO0_8.out).2.2 | (with_reducible refine Kd.C_alloc ?_ _) | (with_reducible refine Kd.C_drewN ?_ _) | (with_reducible refine Kd.C_drew ?_))); (case side2 => exact (Kd.V_reads' HO0_8.out).2.1); rintro e w27 ⟨rfl, hb⟩; refine ⟨_, rfl, ?_⟩; have n0_ := Asd.mk (Kd.V_below (by (with_reducible repeat (first | apply Kd.V_alloc | apply Kd.V_drewN | apply Kd.V_drew)); exact HO0_8.out) hb); have n1_ := Asd.mk (bB hb BK541.out); have n2_ := Asd.mk (bS hb HB.out); clear HO0_8; clear BK541; clear HB; have HO0_8 := n0_; have BK541 := n1_; have HB := n2_; clear n0_ n1_ n2_; (try clear hb); (try clear hb2); (try clear hk); (try clear hi)))
  go_ret
  exact ⟨_, by first | rfl | (simp [errW_none, errW_some] <;> rfl) | (simp [*, errW_none, errW_some] <;> rfl), by first | exact Kd.R_nil _ _ _ _ _ | exact Kd.N_nil _ _ _ _ _ | exact Kd.V_nil _ _ _ _ _ | exact Kd.Q_nil _ _ _ _ _ | exact Kd.S_nil _ _ _ _ _, by repeat (first | (with_reducible first | exact HB.out | apply blA | apply pbN | apply blD | refine blS ?_ GE541.out) | exact HB.out)⟩
end Go.Proofs.YtkboodfnegedaaaDoor.E
