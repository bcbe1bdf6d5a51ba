/- Contracts and plain lemmas of the functions that the law reaches, part 10. -/
import Derived.Test.YtkboodfnegedaaaDoorZL3
namespace Go.Proofs.YtkboodfnegedaaaDoor.E
open Go.RowKit Go.Proofs.YtkboodfnegedaaaDoorW.PrintWords Go.Proofs.YtkboodfnegedaaaDoorW.PrintLast Go.Proofs.YtkboodfnegedaaaDoorW.PrintMore
attribute [local go_sem] max2_int min2_int max_two min_two max_three min_three max_four min_four   -- for this text's walks alone
set_option linter.unusedVariables false
set_option linter.unusedSimpArgs false
def q08_split.f : Nat → Int → Int → Int → ByteArray → Int → Int → Int → ByteArray → List (S26) → Option ((List (S26)))
 | 0, _, _, _, _, _, _, _, _, _ => none
 | k + 1, a0_0, a0_1, a0_2, a0_3, a0_4, a0_5, a0_6, a0_7, l0_8 => if a0_0 = 15 then (if 0 < (l0_8.length : Int) then ((q08_split.f k ((rd_T26 l0_8 0).f0) ((rd_T26 l0_8 0).f1.f0) ((rd_T26 l0_8 0).f1.f1) ((rd_T26 l0_8 0).f1.f2) ((rd_T26 l0_8 0).f2) ((rd_T26 l0_8 0).f3) ((rd_T26 l0_8 0).f4) ((rd_T26 l0_8 0).f5) ((rd_T26 l0_8 0).f6)).bind fun t378 => (if 1 < (l0_8.length : Int) then ((q08_split.f k ((rd_T26 l0_8 1).f0) ((rd_T26 l0_8 1).f1.f0) ((rd_T26 l0_8 1).f1.f1) ((rd_T26 l0_8 1).f1.f2) ((rd_T26 l0_8 1).f2) ((rd_T26 l0_8 1).f3) ((rd_T26 l0_8 1).f4) ((rd_T26 l0_8 1).f5) ((rd_T26 l0_8 1).f6)).bind fun t382 => (if t378.length + t382.length < 1353245080339 then (some (t378 ++ t382)) else (none))) else (none))) else (none)) else (some (([(⟨a0_0, (⟨a0_1, a0_2, a0_3⟩ : S23), a0_4, a0_5, a0_6, a0_7, l0_8⟩ : S26)] : List (S26))))
def q08_split.T3 : Bool × List (List Nat × List Nat) := (true, [([], []), ([0], [0]), ([1], [1]), ([2], [2]), ([3], [3]), ([], []), ([5], [5]), ([6], [6]), ([7], [7]), ([8, 4], [8]), ([4, 9, 9], [4, 9]), ([10, 10, 0, 1, 2, 3, 4, 5, 6, 7, 8, 9, 10], [10])])
def q08_split.B3 : List Nat := [0, 1, 3, 7, 15, 0, 32, 96, 224, 511, 1023, 2047]
theorem q08_split.tab3 : rtab .any (opsOf Tryd.f56 3) = q08_split.T3 := by kernel_rfl
theorem q08_split.bits3 : waitsOk q08_split.T3.2 q08_split.B3 = true := by kernel_rfl
set_option maxHeartbeats 8000000 in
set_option maxRecDepth 100000 in
theorem q08_split.calls (k : Nat) : ∀ (a0_0 : Int) (a0_1 : Int) (a0_2 : Int) (a0_3 : ByteArray) (a0_4 : Int) (a0_5 : Int) (a0_6 : Int) (a0_7 : ByteArray) (P0_8_ : Nat → Prop) (A0_8 : Option Addr) (c0_8 : Nat) (l0_8 : List (S26)) (r : List (S26)) (w : World) (hs0_8 : Kd.V k26 26 w w.heap.size (fun k_ => P0_8_ k_) (.slice A0_8 l0_8.length c0_8) l0_8) (h : q08_split.f k a0_0 a0_1 a0_2 a0_3 a0_4 a0_5 a0_6 a0_7 l0_8 = some r),
  Calls Tryd.prog 56 #[.agg #[.int .i64 a0_0, .int .i64 a0_1, .int .i64 a0_2, .string a0_3, .int .i64 a0_4, .int .i64 a0_5, .int .i64 a0_6, .string a0_7, .slice A0_8 l0_8.length c0_8]] w fun e w' => ∃ v0_ : Value, e = .returned (v0_) ∧ Kd.N k26 26 w' w.heap.size (fun k_ => (P0_8_ k_ ∨ w.heap.size ≤ k_)) v0_ r ∧ Below w.heap.size w w' := by
 induction k using Nat.strongRecOn with
 | _ k ih =>
 intro a0_0 a0_1 a0_2 a0_3 a0_4 a0_5 a0_6 a0_7 P0_8_ A0_8 c0_8 l0_8 r w hs0_8 h
 cases k with
 | zero => exact absurd h (by simp [q08_split.f])
 | succ k =>
 simp only [q08_split.f] at h
 have hu26 := Tryd.underlying26
 have HO0_8 := Asd.mk (show Kd.V k26 26 w w.heap.size (fun k_ => (P0_8_ k_ ∨ w.heap.size ≤ k_)) (.slice A0_8 l0_8.length c0_8) l0_8 from Kd.V_mono hs0_8 (fun k_ hk => .inl hk))
 have HB := Asd.mk (Below.refl w.heap.size w)
 have H : (if a0_0 = 15 then (if 0 < (l0_8.length : Int) then ((q08_split.f k ((rd_T26 l0_8 0).f0) ((rd_T26 l0_8 0).f1.f0) ((rd_T26 l0_8 0).f1.f1) ((rd_T26 l0_8 0).f1.f2) ((rd_T26 l0_8 0).f2) ((rd_T26 l0_8 0).f3) ((rd_T26 l0_8 0).f4) ((rd_T26 l0_8 0).f5) ((rd_T26 l0_8 0).f6)).bind fun t378 => (if 1 < (l0_8.length : Int) then ((q08_split.f k ((rd_T26 l0_8 1).f0) ((rd_T26 l0_8 1).f1.f0) ((rd_T26 l0_8 1).f1.f1) ((rd_T26 l0_8 1).f1.f2) ((rd_T26 l0_8 1).f2) ((rd_T26 l0_8 1).f3) ((rd_T26 l0_8 1).f4) ((rd_T26 l0_8 1).f5) ((rd_T26 l0_8 1).f6)).bind fun t382 => (if t378.length + t382.length < 1353245080339 then (some (t378 ++ t382)) else (none))) else (none))) else (none)) else (some (([(⟨a0_0, (⟨a0_1, a0_2, a0_3⟩ : S23), a0_4, a0_5, a0_6, a0_7, l0_8⟩ : S26)] : List (S26))))) = some r := h
 clear h
 by_cases c2 : a0_0 = 15
 ·rw [if_pos c2] at H
  have c2b0 : (a0_0 == 15) = true := beq_iff_eq.mpr c2
  have c2b1 : (a0_0 != 15) = false := bne_eq_false_iff_eq.mpr c2
  clear c2
  by_cases c3 : 0 < (l0_8.length : Int)
  ·rw [if_pos c3] at H
   have c3b0 : decide (0 < (l0_8.length : Int)) = true := decide_eq_true c3
   have c3b1 : decide (0 < l0_8.length) = true := decide_eq_true (by omega)
   clear c3
   replace H := Option.bind_eq_some_iff.mp H
   obtain ⟨t378, A40, H⟩ := H
   replace H : (if 1 < (l0_8.length : Int) then ((q08_split.f k ((rd_T26 l0_8 1).f0) ((rd_T26 l0_8 1).f1.f0) ((rd_T26 l0_8 1).f1.f1) ((rd_T26 l0_8 1).f1.f2) ((rd_T26 l0_8 1).f2) ((rd_T26 l0_8 1).f3) ((rd_T26 l0_8 1).f4) ((rd_T26 l0_8 1).f5) ((rd_T26 l0_8 1).f6)).bind fun t382 => (if t378.length + t382.length < 1353245080339 then (some (t378 ++ t382)) else (none))) else (none)) = some r := H
   have A4 := Asd.mk A40
   clear A40
   by_cases c5 : 1 < (l0_8.length : Int)
   ·rw [if_pos c5] at H
    have c5b0 : decide (1 < (l0_8.length : Int)) = true := decide_eq_true c5
    have c5b1 : decide (1 < l0_8.length) = true := decide_eq_true (by omega)
    clear c5
    replace H := Option.bind_eq_some_iff.mp H
    obtain ⟨t382, A60, H⟩ := H
    replace H : (if t378.length + t382.length < 1353245080339 then (some (t378 ++ t382)) else (none)) = some r := H
    have A6 := Asd.mk A60
    clear A60
    by_cases c7 : t378.length + t382.length < 1353245080339
    ·rw [if_pos c7] at H
     have LMc7 := Asd.mk c7
     clear c7
     obtain ⟨y385, hy385⟩ : ∃ y_ : List (S26), y_ = (t378 ++ t382) := ⟨_, rfl⟩
     replace H : (some y385) = some r := by first | (rw [hy385]; with_reducible exact H) | (have H2_ := (Option.bind_some _ _).symm.trans H; rw [hy385]; with_reducible exact H2_) | (have H2_ := (Option.bind_some _ _).symm.trans H; with_reducible exact H2_) | with_reducible exact H | (rw [hy385]; exact H) | exact H
     have Ny385 := Asd.mk hy385
     clear hy385
     obtain rfl := Option.some.inj H
     go_enter Tryd.func56, Tryd.ntmps56
     try go_wp2_with (first | ((with_reducible refine gate_dst (N := 1) rfl ?_); refine box_event rfl (N := 1) rfl (cs := #[.int .i64 a0_0, .int .i64 a0_1, .int .i64 a0_2, .string a0_3, .int .i64 a0_4, .int .i64 a0_5, .int .i64 a0_6, .string a0_7, .slice A0_8 l0_8.length c0_8]) (t := 26) (by first | (go_simp; done) | (go_simp; rfl)) ?_; intro gb376 hg w8 hbox hb; have n0_ := Asd.mk (Kd.V_below (Kd.V_elderB (by (with_reducible repeat (first | apply Kd.V_alloc | apply Kd.V_drewN | apply Kd.V_drew)); exact HO0_8.out) gb376 (Nat.le_of_eq hg.symm)) hb); have n1_ := Asd.mk (bS hb HB.out); have n2_ := Asd.mk (hbox); have n3_ := Asd.mk (bZ hg HB.out); have n4_ := Asd.mk (bZ hg HB.out); clear HO0_8; clear HB; have HO0_8 := n0_; have HB := n1_; have BK376 := n2_; have GW376 := n3_; have GE376 := n4_; clear n0_ n1_ n2_ n3_ n4_; clear hb hbox hg; obtain ⟨hcz9_0, hcz9_1, hcz9_2, hcz9_3, hcz9_4, hcz9_5, hcz9_6, hcz9_7, hcz9_8⟩ := bkC9 BK376.out; obtain ⟨hfz9_0, hfz9_1, hfz9_2, hfz9_3, hfz9_4, hfz9_5, hfz9_6, hfz9_7, hfz9_8⟩ := bkF9 BK376.out))
     have n0_ := Asd.mk (Kd.V_drew HO0_8.out)
     have n1_ := Asd.mk (bkD BK376.out)
     have n2_ := Asd.mk (blD HB.out)
     clear HO0_8 BK376 HB
     have HO0_8 := n0_
     have BK376 := n1_
     have HB := n2_
     clear n0_ n1_ n2_
     have p377 : 0 ≤ (0 : Int) := (by omega)
     have q377 : 0 < (l0_8.length : Int) := of_decide_eq_true (by first | (with_reducible assumption) | assumption)
     obtain ⟨ad377, A377_8, c377_8, e377, hx377_0, hx377_1, hx377_2, hx377_3, hx377_4, hx377_5, hx377_6, hx377_7, hx377_8, hl377_8, hi377_8⟩ := at_T26 (Kd.V_reads' HO0_8.out).2.2 0 p377 q377
     cases e377
     obtain ⟨ce377, hce377, hMe377, hcc377⟩ := Kd.V_get HO0_8.out z26 0 p377 (by first | exact q377 | exact of_decide_eq_true (by first | (with_reducible assumption) | assumption) | (have e_ := (Kd.V_reads' HO0_8.out).1; omega))
     obtain ⟨ua377_8, uc377_8, rfl, ul377_8, ge377_8⟩ := k26_openF hMe377
     have hv377_8 := hcc377 8 _ rfl
     rw [add_field _ _ 8 (by omega)] at hv377_8
     replace hv377_8 := Option.some.inj (hv377_8.symm.trans hx377_8)
     injection hv377_8 with hva_ hvn_ hvc_
     rw [hva_] at ge377_8
     rw [hvc_] at ul377_8
     have HL377_8 := Asd.mk (show Kd.V k26 26 _ w.heap.size _ _ ((rd_T26 l0_8 0).f6) from Kd.V_mk ul377_8 ge377_8)
     clear hva_ hvn_ hvc_ ge377_8 ul377_8 hcc377 hce377
     have qi377 : (0 < l0_8.length) = True := eq_true (by omega)
     (try rw [show ((0 : Int)).toNat = 0 from rfl] at hx377_0)
     (try rw [show 0 * 9 = 0 from rfl] at hx377_0)
     (try rw [Addr.add_zero'] at hx377_0)
     (try rw [show ((0 : Int)).toNat = 0 from rfl] at hx377_1)
     (try rw [show 0 * 9 = 0 from rfl] at hx377_1)
     (try rw [Addr.add_zero'] at hx377_1)
     (try rw [show ((0 : Int)).toNat = 0 from rfl] at hx377_2)
     (try rw [show 0 * 9 = 0 from rfl] at hx377_2)
     (try rw [Addr.add_zero'] at hx377_2)
     (try rw [show ((0 : Int)).toNat = 0 from rfl] at hx377_3)
     (try rw [show 0 * 9 = 0 from rfl] at hx377_3)
     (try rw [Addr.add_zero'] at hx377_3)
     (try rw [show ((0 : Int)).toNat = 0 from rfl] at hx377_4)
     (try rw [show 0 * 9 = 0 from rfl] at hx377_4)
     (try rw [Addr.add_zero'] at hx377_4)
     (try rw [show ((0 : Int)).toNat = 0 from rfl] at hx377_5)
     (try rw [show 0 * 9 = 0 from rfl] at hx377_5)
     (try rw [Addr.add_zero'] at hx377_5)
     (try rw [show ((0 : Int)).toNat = 0 from rfl] at hx377_6)
     (try rw [show 0 * 9 = 0 from rfl] at hx377_6)
     (try rw [Addr.add_zero'] at hx377_6)
     (try rw [show ((0 : Int)).toNat = 0 from rfl] at hx377_7)
     (try rw [show 0 * 9 = 0 from rfl] at hx377_7)
     (try rw [Addr.add_zero'] at hx377_7)
     (try rw [show ((0 : Int)).toNat = 0 from rfl] at hx377_8)
     (try rw [show 0 * 9 = 0 from rfl] at hx377_8)
     (try rw [Addr.add_zero'] at hx377_8)
     have HR377_8 := Asd.mk hi377_8
     have HC377_8 := Asd.mk hl377_8
     clear hi377_8 hl377_8
     replace p377 := eq_true p377
     replace q377 := eq_true q377
     have p381 : 0 ≤ (1 : Int) := (by omega)
     have q381 : 1 < (l0_8.length : Int) := of_decide_eq_true (by first | (with_reducible assumption) | assumption)
     obtain ⟨ad381, A381_8, c381_8, e381, hx381_0, hx381_1, hx381_2, hx381_3, hx381_4, hx381_5, hx381_6, hx381_7, hx381_8, hl381_8, hi381_8⟩ := at_T26 (Kd.V_reads' HO0_8.out).2.2 1 p381 q381
     obtain rfl : ad377 = ad381 := (by injection e381)
     obtain ⟨ce381, hce381, hMe381, hcc381⟩ := Kd.V_get HO0_8.out z26 1 p381 (by first | exact q381 | exact of_decide_eq_true (by first | (with_reducible assumption) | assumption) | (have e_ := (Kd.V_reads' HO0_8.out).1; omega))
     obtain ⟨ua381_8, uc381_8, rfl, ul381_8, ge381_8⟩ := k26_openF hMe381
     have hv381_8 := hcc381 8 _ rfl
     rw [add_field _ _ 8 (by omega)] at hv381_8
     replace hv381_8 := Option.some.inj (hv381_8.symm.trans hx381_8)
     injection hv381_8 with hva_ hvn_ hvc_
     rw [hva_] at ge381_8
     rw [hvc_] at ul381_8
     have HL381_8 := Asd.mk (show Kd.V k26 26 _ w.heap.size _ _ ((rd_T26 l0_8 1).f6) from Kd.V_mk ul381_8 ge381_8)
     clear hva_ hvn_ hvc_ ge381_8 ul381_8 hcc381 hce381
     (try simp only [show (1 : Int).toNat = 1 from rfl, Nat.reduceMul, Nat.reduceEqDiff, Go.Addr.add, ↓reduceIte] at hx381_0)
     (try simp only [show (1 : Int).toNat = 1 from rfl, Nat.reduceMul, Nat.reduceEqDiff, Go.Addr.add, ↓reduceIte] at hx381_1)
     (try simp only [show (1 : Int).toNat = 1 from rfl, Nat.reduceMul, Nat.reduceEqDiff, Go.Addr.add, ↓reduceIte] at hx381_2)
     (try simp only [show (1 : Int).toNat = 1 from rfl, Nat.reduceMul, Nat.reduceEqDiff, Go.Addr.add, ↓reduceIte] at hx381_3)
     (try simp only [show (1 : Int).toNat = 1 from rfl, Nat.reduceMul, Nat.reduceEqDiff, Go.Addr.add, ↓reduceIte] at hx381_4)
     (try simp only [show (1 : Int).toNat = 1 from rfl, Nat.reduceMul, Nat.reduceEqDiff, Go.Addr.add, ↓reduceIte] at hx381_5)
     (try simp only [show (1 : Int).toNat = 1 from rfl, Nat.reduceMul, Nat.reduceEqDiff, Go.Addr.add, ↓reduceIte] at hx381_6)
     (try simp only [show (1 : Int).toNat = 1 from rfl, Nat.reduceMul, Nat.reduceEqDiff, Go.Addr.add, ↓reduceIte] at hx381_7)
     (try simp only [show (1 : Int).toNat = 1 from rfl, Nat.reduceMul, Nat.reduceEqDiff, Go.Addr.add, ↓reduceIte] at hx381_8)
     have qi381 : (1 < l0_8.length) = True := eq_true (by omega)
     (try rw [show ((1 : Int)).toNat = 1 from rfl] at hx381_0)
     (try rw [show 1 * 9 = 9 from rfl] at hx381_0)
     (try rw [show ((1 : Int)).toNat = 1 from rfl] at hx381_1)
     (try rw [show 1 * 9 = 9 from rfl] at hx381_1)
     (try rw [show ((1 : Int)).toNat = 1 from rfl] at hx381_2)
     (try rw [show 1 * 9 = 9 from rfl] at hx381_2)
     (try rw [show ((1 : Int)).toNat = 1 from rfl] at hx381_3)
     (try rw [show 1 * 9 = 9 from rfl] at hx381_3)
     (try rw [show ((1 : Int)).toNat = 1 from rfl] at hx381_4)
     (try rw [show 1 * 9 = 9 from rfl] at hx381_4)
     (try rw [show ((1 : Int)).toNat = 1 from rfl] at hx381_5)
     (try rw [show 1 * 9 = 9 from rfl] at hx381_5)
     (try rw [show ((1 : Int)).toNat = 1 from rfl] at hx381_6)
     (try rw [show 1 * 9 = 9 from rfl] at hx381_6)
     (try rw [show ((1 : Int)).toNat = 1 from rfl] at hx381_7)
     (try rw [show 1 * 9 = 9 from rfl] at hx381_7)
     (try rw [show ((1 : Int)).toNat = 1 from rfl] at hx381_8)
     (try rw [show 1 * 9 = 9 from rfl] at hx381_8)
     have HR381_8 := Asd.mk hi381_8
     have HC381_8 := Asd.mk hl381_8
     clear hi381_8 hl381_8
     replace p381 := eq_true p381
     replace q381 := eq_true q381
     refine start_ (n := 12) (S := fun w' => w'.cell? ⟨gb376, 0, none⟩ = some (.int .i64 a0_0) ∧ w'.cell? ⟨gb376, 1, none⟩ = some (.int .i64 a0_1) ∧ w'.cell? ⟨gb376, 2, none⟩ = some (.int .i64 a0_2) ∧ w'.cell? ⟨gb376, 3, none⟩ = some (.string a0_3) ∧ w'.cell? ⟨gb376, 4, none⟩ = some (.int .i64 a0_4) ∧ w'.cell? ⟨gb376, 5, none⟩ = some (.int .i64 a0_5) ∧ w'.cell? ⟨gb376, 6, none⟩ = some (.int .i64 a0_6) ∧ w'.cell? ⟨gb376, 7, none⟩ = some (.string a0_7) ∧ w'.cell? ⟨gb376, 8, none⟩ = some (.slice (some ad377) l0_8.length c0_8) ∧ w'.cell? ad377 = some (.int .i64 ((rd_T26 l0_8 0).f0)) ∧ w'.cell? ⟨ad377.block, ad377.off + 1, none⟩ = some (.int .i64 ((rd_T26 l0_8 0).f1.f0)) ∧ w'.cell? ⟨ad377.block, ad377.off + 2, none⟩ = some (.int .i64 ((rd_T26 l0_8 0).f1.f1)) ∧ w'.cell? ⟨ad377.block, ad377.off + 3, none⟩ = some (.string ((rd_T26 l0_8 0).f1.f2)) ∧ w'.cell? ⟨ad377.block, ad377.off + 4, none⟩ = some (.int .i64 ((rd_T26 l0_8 0).f2)) ∧ w'.cell? ⟨ad377.block, ad377.off + 5, none⟩ = some (.int .i64 ((rd_T26 l0_8 0).f3)) ∧ w'.cell? ⟨ad377.block, ad377.off + 6, none⟩ = some (.int .i64 ((rd_T26 l0_8 0).f4)) ∧ w'.cell? ⟨ad377.block, ad377.off + 7, none⟩ = some (.string ((rd_T26 l0_8 0).f5)) ∧ w'.cell? ⟨ad377.block, ad377.off + 8, none⟩ = some (.slice A377_8 ((rd_T26 l0_8 0).f6).length c377_8) ∧ w'.cell? ⟨ad377.block, ad377.off + 9, none⟩ = some (.int .i64 ((rd_T26 l0_8 1).f0)) ∧ w'.cell? ⟨ad377.block, ad377.off + 9 + 1, none⟩ = some (.int .i64 ((rd_T26 l0_8 1).f1.f0)) ∧ w'.cell? ⟨ad377.block, ad377.off + 9 + 2, none⟩ = some (.int .i64 ((rd_T26 l0_8 1).f1.f1)) ∧ w'.cell? ⟨ad377.block, ad377.off + 9 + 3, none⟩ = some (.string ((rd_T26 l0_8 1).f1.f2)) ∧ w'.cell? ⟨ad377.block, ad377.off + 9 + 4, none⟩ = some (.int .i64 ((rd_T26 l0_8 1).f2)) ∧ w'.cell? ⟨ad377.block, ad377.off + 9 + 5, none⟩ = some (.int .i64 ((rd_T26 l0_8 1).f3)) ∧ w'.cell? ⟨ad377.block, ad377.off + 9 + 6, none⟩ = some (.int .i64 ((rd_T26 l0_8 1).f4)) ∧ w'.cell? ⟨ad377.block, ad377.off + 9 + 7, none⟩ = some (.string ((rd_T26 l0_8 1).f5)) ∧ w'.cell? ⟨ad377.block, ad377.off + 9 + 8, none⟩ = some (.slice A381_8 ((rd_T26 l0_8 1).f6).length c381_8)) (ds := [10]) #[false, false, false, false, false, false, false, false, false, false, false, false] (by kernel_rfl) rfl rfl ⟨(bkC BK376.out 0).trans rfl, (bkC BK376.out 1).trans rfl, (bkC BK376.out 2).trans rfl, (bkC BK376.out 3).trans rfl, (bkC BK376.out 4).trans rfl, (bkC BK376.out 5).trans rfl, (bkC BK376.out 6).trans rfl, (bkC BK376.out 7).trans rfl, (bkC BK376.out 8).trans rfl, hx377_0, hx377_1, hx377_2, hx377_3, hx377_4, hx377_5, hx377_6, hx377_7, hx377_8, hx381_0, hx381_1, hx381_2, hx381_3, hx381_4, hx381_5, hx381_6, hx381_7, hx381_8⟩ (fun hHeld => ?_); refine with_tabW q08_split.tab3 q08_split.bits3 (fun HT_ HW_ => ?_)
     generalize w8.drew = w10 at HO0_8 BK376 HB HL377_8 HL381_8 HR377_8 HR381_8 hx377_0 hx377_1 hx377_2 hx377_3 hx377_4 hx377_5 hx377_6 hx377_7 hx377_8 hx381_0 hx381_1 hx381_2 hx381_3 hx381_4 hx381_5 hx381_6 hx381_7 hx381_8 hHeld ⊢
     refine pure_ (i := 0) (N := some 8) (v := ?_) (a' := ?_) #[true, false, false, false, false, false, false, false, false, false, false, false] rfl rfl (any_of HT_.out (by kernel_rfl)) (fun _ _ _ h => h) (Or.inl ⟨by rfl, ?_⟩) ?_ ?_
     rotate_left
     ·intro w'
      go_simp
      with_reducible rfl
     rotate_left
     ·simp only [Act.put, List.setIfInBounds_toArray, List.set_cons_zero, List.set_cons_succ, i64_w, i32_w]
      rfl
     refine pure_ (i := 5) (N := some 13) (v := ?_) (a' := ?_) #[true, false, false, false, false, true, false, false, false, false, false, false] rfl rfl (any_of HT_.out (by kernel_rfl)) (fun _ _ _ h => h) (Or.inl ⟨by rfl, ?_⟩) ?_ ?_
     rotate_left
     ·intro w'
      go_simp
      with_reducible rfl
     rotate_left
     ·simp only [Act.put, List.setIfInBounds_toArray, List.set_cons_zero, List.set_cons_succ, i64_w, i32_w]
      rfl
     refine take_ (i := 1) (N := some 9) (v := ?_) (a' := ?_) #[true, true, false, false, false, true, false, false, false, false, false, false] rfl rfl (take_ofW HT_.out HW_.out (by kernel_rfl)) (fun _ _ _ h => h) (Or.inl ⟨by rfl, ?_⟩) hHeld ?_ ?_
     rotate_left
     ·rintro w' ⟨s0, s1, s2, s3, s4, s5, s6, s7, s8, s9, s10, s11, s12, s13, s14, s15, s16, s17, s18, s19, s20, s21, s22, s23, s24, s25, s26⟩
      go_simp
      with_reducible rfl
     rotate_left
     ·simp only [Act.put, List.setIfInBounds_toArray, List.set_cons_zero, List.set_cons_succ, i64_w, i32_w]
      rfl
     refine pure_ (i := 2) (N := some 10) (v := ?_) (a' := ?_) #[true, true, true, false, false, true, false, false, false, false, false, false] rfl rfl (any_of HT_.out (by kernel_rfl)) (fun _ _ _ h => h) (Or.inl ⟨by rfl, ?_⟩) ?_ ?_
     rotate_left
     ·intro w'
      go_simp
      with_reducible rfl
     rotate_left
     ·simp only [Act.put, List.setIfInBounds_toArray, List.set_cons_zero, List.set_cons_succ, i64_w, i32_w]
      rfl
     refine take_ (i := 3) (N := some 11) (v := ?_) (a' := ?_) #[true, true, true, true, false, true, false, false, false, false, false, false] rfl rfl (take_ofW HT_.out HW_.out (by kernel_rfl)) (fun _ _ _ h => h) (Or.inl ⟨by rfl, ?_⟩) hHeld ?_ ?_
     rotate_left
     ·rintro w' ⟨s0, s1, s2, s3, s4, s5, s6, s7, s8, s9, s10, s11, s12, s13, s14, s15, s16, s17, s18, s19, s20, s21, s22, s23, s24, s25, s26⟩
      go_simp
      with_reducible rfl
     rotate_left
     ·simp only [Act.put, List.setIfInBounds_toArray, List.set_cons_zero, List.set_cons_succ, i64_w, i32_w]
      rfl
     refine take_ (i := 6) (N := some 14) (v := ?_) (a' := ?_) #[true, true, true, true, false, true, true, false, false, false, false, false] rfl rfl (take_ofW HT_.out HW_.out (by kernel_rfl)) (fun _ _ _ h => h) (Or.inl ⟨by rfl, ?_⟩) hHeld ?_ ?_
     rotate_left
     ·rintro w' ⟨s0, s1, s2, s3, s4, s5, s6, s7, s8, s9, s10, s11, s12, s13, s14, s15, s16, s17, s18, s19, s20, s21, s22, s23, s24, s25, s26⟩
      go_simp
      with_reducible rfl
     rotate_left
     ·simp only [Act.put, List.setIfInBounds_toArray, List.set_cons_zero, List.set_cons_succ, i64_w, i32_w]
      rfl
     refine pure_ (i := 7) (N := some 15) (v := ?_) (a' := ?_) #[true, true, true, true, false, true, true, true, false, false, false, false] rfl rfl (any_of HT_.out (by kernel_rfl)) (fun _ _ _ h => h) (Or.inl ⟨by rfl, ?_⟩) ?_ ?_
     rotate_left
     ·intro w'
      go_simp
      with_reducible rfl
     rotate_left
     ·simp only [Act.put, List.setIfInBounds_toArray, List.set_cons_zero, List.set_cons_succ, i64_w, i32_w]
      rfl
     refine take_ (i := 8) (N := some 16) (v := ?_) (a' := ?_) #[true, true, true, true, false, true, true, true, true, false, false, false] rfl rfl (take_ofW HT_.out HW_.out (by kernel_rfl)) (fun _ _ _ h => h) (Or.inl ⟨by rfl, ?_⟩) hHeld ?_ ?_
     rotate_left
     ·rintro w' ⟨s0, s1, s2, s3, s4, s5, s6, s7, s8, s9, s10, s11, s12, s13, s14, s15, s16, s17, s18, s19, s20, s21, s22, s23, s24, s25, s26⟩
      go_simp
      with_reducible rfl
     rotate_left
     ·simp only [Act.put, List.setIfInBounds_toArray, List.set_cons_zero, List.set_cons_succ, i64_w, i32_w]
      rfl
     refine one_ (i := 4) (N := some 12) #[true, true, true, true, true, true, true, true, true, false, false, false] rfl rfl (one_of HT_.out (by kernel_rfl)) (by decide) (fun K hK => ?_)
     refine goes_ Tryd.func56 (by kernel_rfl) rfl #[.agg #[.int .i64 ((rd_T26 l0_8 0).f0), .int .i64 ((rd_T26 l0_8 0).f1.f0), .int .i64 ((rd_T26 l0_8 0).f1.f1), .string ((rd_T26 l0_8 0).f1.f2), .int .i64 ((rd_T26 l0_8 0).f2), .int .i64 ((rd_T26 l0_8 0).f3), .int .i64 ((rd_T26 l0_8 0).f4), .string ((rd_T26 l0_8 0).f5), .slice A377_8 ((rd_T26 l0_8 0).f6).length c377_8]] (by rfl) rfl rfl (by (try simp only [List.map_toArray, List.map_cons, List.map_nil]); first | done | rfl | (simp only [List.length_drop, List.length_take]; rfl)) ?_
     with_reducible refine (ih k (by omega) ((rd_T26 l0_8 0).f0) ((rd_T26 l0_8 0).f1.f0) ((rd_T26 l0_8 0).f1.f1) ((rd_T26 l0_8 0).f1.f2) ((rd_T26 l0_8 0).f2) ((rd_T26 l0_8 0).f3) ((rd_T26 l0_8 0).f4) ((rd_T26 l0_8 0).f5) (fun k_ => ((P0_8_ k_ ∨ w.heap.size ≤ k_) ∧ k_ ≠ gb376)) _ _ ((rd_T26 l0_8 0).f6) t378 _ ?side1 A4.out).mono ?_
     (case side1 => exact HL377_8.out)
     rintro e w11 ⟨v379, rfl, ho0, hb⟩
     have HS9_ := (hb.cell (World.block_lt_of_cell? _ _ (hHeld.2.2.2.2.2.2.2.2.2.1))).trans (hHeld.2.2.2.2.2.2.2.2.2.1)
     have HS10_ := (hb.cell (World.block_lt_of_cell? _ _ (hHeld.2.2.2.2.2.2.2.2.2.2.1))).trans (hHeld.2.2.2.2.2.2.2.2.2.2.1)
     have HS11_ := (hb.cell (World.block_lt_of_cell? _ _ (hHeld.2.2.2.2.2.2.2.2.2.2.2.1))).trans (hHeld.2.2.2.2.2.2.2.2.2.2.2.1)
     have HS12_ := (hb.cell (World.block_lt_of_cell? _ _ (hHeld.2.2.2.2.2.2.2.2.2.2.2.2.1))).trans (hHeld.2.2.2.2.2.2.2.2.2.2.2.2.1)
     have HS13_ := (hb.cell (World.block_lt_of_cell? _ _ (hHeld.2.2.2.2.2.2.2.2.2.2.2.2.2.1))).trans (hHeld.2.2.2.2.2.2.2.2.2.2.2.2.2.1)
     have HS14_ := (hb.cell (World.block_lt_of_cell? _ _ (hHeld.2.2.2.2.2.2.2.2.2.2.2.2.2.2.1))).trans (hHeld.2.2.2.2.2.2.2.2.2.2.2.2.2.2.1)
     have HS15_ := (hb.cell (World.block_lt_of_cell? _ _ (hHeld.2.2.2.2.2.2.2.2.2.2.2.2.2.2.2.1))).trans (hHeld.2.2.2.2.2.2.2.2.2.2.2.2.2.2.2.1)
     have HS16_ := (hb.cell (World.block_lt_of_cell? _ _ (hHeld.2.2.2.2.2.2.2.2.2.2.2.2.2.2.2.2.1))).trans (hHeld.2.2.2.2.2.2.2.2.2.2.2.2.2.2.2.2.1)
     have HS17_ := (hb.cell (World.block_lt_of_cell? _ _ (hHeld.2.2.2.2.2.2.2.2.2.2.2.2.2.2.2.2.2.1))).trans (hHeld.2.2.2.2.2.2.2.2.2.2.2.2.2.2.2.2.2.1)
     have HS18_ := (hb.cell (World.block_lt_of_cell? _ _ (hHeld.2.2.2.2.2.2.2.2.2.2.2.2.2.2.2.2.2.2.1))).trans (hHeld.2.2.2.2.2.2.2.2.2.2.2.2.2.2.2.2.2.2.1)
     have HS19_ := (hb.cell (World.block_lt_of_cell? _ _ (hHeld.2.2.2.2.2.2.2.2.2.2.2.2.2.2.2.2.2.2.2.1))).trans (hHeld.2.2.2.2.2.2.2.2.2.2.2.2.2.2.2.2.2.2.2.1)
     have HS20_ := (hb.cell (World.block_lt_of_cell? _ _ (hHeld.2.2.2.2.2.2.2.2.2.2.2.2.2.2.2.2.2.2.2.2.1))).trans (hHeld.2.2.2.2.2.2.2.2.2.2.2.2.2.2.2.2.2.2.2.2.1)
     have HS21_ := (hb.cell (World.block_lt_of_cell? _ _ (hHeld.2.2.2.2.2.2.2.2.2.2.2.2.2.2.2.2.2.2.2.2.2.1))).trans (hHeld.2.2.2.2.2.2.2.2.2.2.2.2.2.2.2.2.2.2.2.2.2.1)
     have HS22_ := (hb.cell (World.block_lt_of_cell? _ _ (hHeld.2.2.2.2.2.2.2.2.2.2.2.2.2.2.2.2.2.2.2.2.2.2.1))).trans (hHeld.2.2.2.2.2.2.2.2.2.2.2.2.2.2.2.2.2.2.2.2.2.2.1)
     have HS23_ := (hb.cell (World.block_lt_of_cell? _ _ (hHeld.2.2.2.2.2.2.2.2.2.2.2.2.2.2.2.2.2.2.2.2.2.2.2.1))).trans (hHeld.2.2.2.2.2.2.2.2.2.2.2.2.2.2.2.2.2.2.2.2.2.2.2.1)
     have HS24_ := (hb.cell (World.block_lt_of_cell? _ _ (hHeld.2.2.2.2.2.2.2.2.2.2.2.2.2.2.2.2.2.2.2.2.2.2.2.2.1))).trans (hHeld.2.2.2.2.2.2.2.2.2.2.2.2.2.2.2.2.2.2.2.2.2.2.2.2.1)
     have HS25_ := (hb.cell (World.block_lt_of_cell? _ _ (hHeld.2.2.2.2.2.2.2.2.2.2.2.2.2.2.2.2.2.2.2.2.2.2.2.2.2.1))).trans (hHeld.2.2.2.2.2.2.2.2.2.2.2.2.2.2.2.2.2.2.2.2.2.2.2.2.2.1)
     have HS26_ := (hb.cell (World.block_lt_of_cell? _ _ (hHeld.2.2.2.2.2.2.2.2.2.2.2.2.2.2.2.2.2.2.2.2.2.2.2.2.2.2))).trans (hHeld.2.2.2.2.2.2.2.2.2.2.2.2.2.2.2.2.2.2.2.2.2.2.2.2.2.2)
     refine ⟨_, rfl, ?_⟩
     have n0_ := Asd.mk (Kd.V_elder' (by (with_reducible repeat (first | apply Kd.V_alloc | apply Kd.V_drewN | apply Kd.V_drew)); exact HO0_8.out) (Kd.N_base ho0) hb)
     have n1_ := Asd.mk (Kd.V_elder' (by (with_reducible repeat (first | apply Kd.V_alloc | apply Kd.V_drewN | apply Kd.V_drew)); exact HL377_8.out) (Kd.N_base ho0) hb)
     have n2_ := Asd.mk (Kd.V_elder' (by (with_reducible repeat (first | apply Kd.V_alloc | apply Kd.V_drewN | apply Kd.V_drew)); exact HL381_8.out) (Kd.N_base ho0) hb)
     have n3_ := Asd.mk (Kd.N_lower (Kd.N_mono (ok' := fun k_ => (P0_8_ k_ ∨ w.heap.size ≤ k_) ∧ k_ ≠ gb376) ho0 (fun k_ hk_ => ⟨Or.elim hk_ (fun hs_ => hs_.1) (fun hn_ => (.inr (Nat.le_trans (below_size (by repeat (first | (with_reducible first | exact HB.out | apply blA | apply pbN | apply blD | refine blS ?_ GE376.out) | exact HB.out))) hn_))), Or.elim hk_ (fun hs_ => hs_.2) (fun hn_ => (Kd.freshB (g := gb376) (o := .cells #[.int .i64 a0_0, .int .i64 a0_1, .int .i64 a0_2, .string a0_3, .int .i64 a0_4, .int .i64 a0_5, .int .i64 a0_6, .string a0_7, .slice (some ad377) l0_8.length c0_8] 26 (0, 0)) (by exact BK376.out) k_ hn_))⟩)) (below_size (by repeat (first | (with_reducible first | exact HB.out | apply blA | apply pbN | apply blD | refine blS ?_ GE376.out) | exact HB.out))))
     have n4_ := Asd.mk (bB hb BK376.out)
     have n5_ := Asd.mk (Kd.C_below (by repeat (first | (with_reducible exact HR377_8.out) | (with_reducible refine Kd.C_alloc ?_ _) | (with_reducible refine Kd.C_drewN ?_ _) | (with_reducible refine Kd.C_drew ?_) | exact HR377_8.out)) hb)
     have n6_ := Asd.mk (Kd.C_below (by repeat (first | (with_reducible exact HR381_8.out) | (with_reducible refine Kd.C_alloc ?_ _) | (with_reducible refine Kd.C_drewN ?_ _) | (with_reducible refine Kd.C_drew ?_) | exact HR381_8.out)) hb)
     have n7_ := Asd.mk (bS hb HB.out)
     clear HO0_8 HL377_8 HL381_8 BK376 HR377_8 HR381_8 HB
     have HO0_8 := n0_
     have HL377_8 := n1_
     have HL381_8 := n2_
     have HO380 := n3_
     have BK376 := n4_
     have HR377_8 := n5_
     have HR381_8 := n6_
     have HB := n7_
     clear n0_ n1_ n2_ n3_ n4_ n5_ n6_ n7_
     (try clear hb)
     (try clear hb2)
     (try clear hk)
     (try clear hi)
     (try clear ho0)
     refine hK.out _ _ ⟨(bkC BK376.out 0).trans rfl, (bkC BK376.out 1).trans rfl, (bkC BK376.out 2).trans rfl, (bkC BK376.out 3).trans rfl, (bkC BK376.out 4).trans rfl, (bkC BK376.out 5).trans rfl, (bkC BK376.out 6).trans rfl, (bkC BK376.out 7).trans rfl, (bkC BK376.out 8).trans rfl, HS9_, HS10_, HS11_, HS12_, HS13_, HS14_, HS15_, HS16_, HS17_, HS18_, HS19_, HS20_, HS21_, HS22_, HS23_, HS24_, HS25_, HS26_⟩ (fun hHeld => ?_)
     clear hK K
     refine norm_ (a' := ?_) ?_ ?_
     rotate_left
     ·show Act.put _ (some 12) _ = _
      simp only [Act.put, List.setIfInBounds_toArray, List.set_cons_zero, List.set_cons_succ, i64_w, i32_w]
      rfl
     refine one_ (i := 9) (N := some 17) #[true, true, true, true, true, true, true, true, true, true, false, false] rfl rfl (one_of HT_.out (by kernel_rfl)) (by decide) (fun K hK => ?_)
     refine goes_ Tryd.func56 (by kernel_rfl) rfl #[.agg #[.int .i64 ((rd_T26 l0_8 1).f0), .int .i64 ((rd_T26 l0_8 1).f1.f0), .int .i64 ((rd_T26 l0_8 1).f1.f1), .string ((rd_T26 l0_8 1).f1.f2), .int .i64 ((rd_T26 l0_8 1).f2), .int .i64 ((rd_T26 l0_8 1).f3), .int .i64 ((rd_T26 l0_8 1).f4), .string ((rd_T26 l0_8 1).f5), .slice A381_8 ((rd_T26 l0_8 1).f6).length c381_8]] (by rfl) rfl rfl (by (try simp only [List.map_toArray, List.map_cons, List.map_nil]); first | done | rfl | (simp only [List.length_drop, List.length_take]; rfl)) ?_
     with_reducible refine (ih k (by omega) ((rd_T26 l0_8 1).f0) ((rd_T26 l0_8 1).f1.f0) ((rd_T26 l0_8 1).f1.f1) ((rd_T26 l0_8 1).f1.f2) ((rd_T26 l0_8 1).f2) ((rd_T26 l0_8 1).f3) ((rd_T26 l0_8 1).f4) ((rd_T26 l0_8 1).f5) (fun k_ => (((P0_8_ k_ ∨ w.heap.size ≤ k_) ∧ k_ ≠ gb376) ∧ some k_ ≠ (v379 : Value).ownBlock)) _ _ ((rd_T26 l0_8 1).f6) t382 _ ?side1 A6.out).mono ?_
     (case side1 => exact HL381_8.out)
     rintro e w12 ⟨v383, rfl, ho0, hb⟩
     have HS9_ := (hb.cell (World.block_lt_of_cell? _ _ (hHeld.2.2.2.2.2.2.2.2.2.1))).trans (hHeld.2.2.2.2.2.2.2.2.2.1)
     have HS10_ := (hb.cell (World.block_lt_of_cell? _ _ (hHeld.2.2.2.2.2.2.2.2.2.2.1))).trans (hHeld.2.2.2.2.2.2.2.2.2.2.1)
     have HS11_ := (hb.cell (World.block_lt_of_cell? _ _ (hHeld.2.2.2.2.2.2.2.2.2.2.2.1))).trans (hHeld.2.2.2.2.2.2.2.2.2.2.2.1)
     have HS12_ := (hb.cell (World.block_lt_of_cell? _ _ (hHeld.2.2.2.2.2.2.2.2.2.2.2.2.1))).trans (hHeld.2.2.2.2.2.2.2.2.2.2.2.2.1)
     have HS13_ := (hb.cell (World.block_lt_of_cell? _ _ (hHeld.2.2.2.2.2.2.2.2.2.2.2.2.2.1))).trans (hHeld.2.2.2.2.2.2.2.2.2.2.2.2.2.1)
     have HS14_ := (hb.cell (World.block_lt_of_cell? _ _ (hHeld.2.2.2.2.2.2.2.2.2.2.2.2.2.2.1))).trans (hHeld.2.2.2.2.2.2.2.2.2.2.2.2.2.2.1)
     have HS15_ := (hb.cell (World.block_lt_of_cell? _ _ (hHeld.2.2.2.2.2.2.2.2.2.2.2.2.2.2.2.1))).trans (hHeld.2.2.2.2.2.2.2.2.2.2.2.2.2.2.2.1)
     have HS16_ := (hb.cell (World.block_lt_of_cell? _ _ (hHeld.2.2.2.2.2.2.2.2.2.2.2.2.2.2.2.2.1))).trans (hHeld.2.2.2.2.2.2.2.2.2.2.2.2.2.2.2.2.1)
     have HS17_ := (hb.cell (World.block_lt_of_cell? _ _ (hHeld.2.2.2.2.2.2.2.2.2.2.2.2.2.2.2.2.2.1))).trans (hHeld.2.2.2.2.2.2.2.2.2.2.2.2.2.2.2.2.2.1)
     have HS18_ := (hb.cell (World.block_lt_of_cell? _ _ (hHeld.2.2.2.2.2.2.2.2.2.2.2.2.2.2.2.2.2.2.1))).trans (hHeld.2.2.2.2.2.2.2.2.2.2.2.2.2.2.2.2.2.2.1)
     have HS19_ := (hb.cell (World.block_lt_of_cell? _ _ (hHeld.2.2.2.2.2.2.2.2.2.2.2.2.2.2.2.2.2.2.2.1))).trans (hHeld.2.2.2.2.2.2.2.2.2.2.2.2.2.2.2.2.2.2.2.1)
     have HS20_ := (hb.cell (World.block_lt_of_cell? _ _ (hHeld.2.2.2.2.2.2.2.2.2.2.2.2.2.2.2.2.2.2.2.2.1))).trans (hHeld.2.2.2.2.2.2.2.2.2.2.2.2.2.2.2.2.2.2.2.2.1)
     have HS21_ := (hb.cell (World.block_lt_of_cell? _ _ (hHeld.2.2.2.2.2.2.2.2.2.2.2.2.2.2.2.2.2.2.2.2.2.1))).trans (hHeld.2.2.2.2.2.2.2.2.2.2.2.2.2.2.2.2.2.2.2.2.2.1)
     have HS22_ := (hb.cell (World.block_lt_of_cell? _ _ (hHeld.2.2.2.2.2.2.2.2.2.2.2.2.2.2.2.2.2.2.2.2.2.2.1))).trans (hHeld.2.2.2.2.2.2.2.2.2.2.2.2.2.2.2.2.2.2.2.2.2.2.1)
     have HS23_ := (hb.cell (World.block_lt_of_cell? _ _ (hHeld.2.2.2.2.2.2.2.2.2.2.2.2.2.2.2.2.2.2.2.2.2.2.2.1))).trans (hHeld.2.2.2.2.2.2.2.2.2.2.2.2.2.2.2.2.2.2.2.2.2.2.2.1)
     have HS24_ := (hb.cell (World.block_lt_of_cell? _ _ (hHeld.2.2.2.2.2.2.2.2.2.2.2.2.2.2.2.2.2.2.2.2.2.2.2.2.1))).trans (hHeld.2.2.2.2.2.2.2.2.2.2.2.2.2.2.2.2.2.2.2.2.2.2.2.2.1)
     have HS25_ := (hb.cell (World.block_lt_of_cell? _ _ (hHeld.2.2.2.2.2.2.2.2.2.2.2.2.2.2.2.2.2.2.2.2.2.2.2.2.2.1))).trans (hHeld.2.2.2.2.2.2.2.2.2.2.2.2.2.2.2.2.2.2.2.2.2.2.2.2.2.1)
     have HS26_ := (hb.cell (World.block_lt_of_cell? _ _ (hHeld.2.2.2.2.2.2.2.2.2.2.2.2.2.2.2.2.2.2.2.2.2.2.2.2.2.2))).trans (hHeld.2.2.2.2.2.2.2.2.2.2.2.2.2.2.2.2.2.2.2.2.2.2.2.2.2.2)
     refine ⟨_, rfl, ?_⟩
     have n0_ := Asd.mk (Kd.V_elder' (by (with_reducible repeat (first | apply Kd.V_alloc | apply Kd.V_drewN | apply Kd.V_drew)); exact HO0_8.out) (Kd.N_base ho0) hb)
     have n1_ := Asd.mk (Kd.V_elder' (by (with_reducible repeat (first | apply Kd.V_alloc | apply Kd.V_drewN | apply Kd.V_drew)); exact HL377_8.out) (Kd.N_base ho0) hb)
     have n2_ := Asd.mk (Kd.V_elder' (by (with_reducible repeat (first | apply Kd.V_alloc | apply Kd.V_drewN | apply Kd.V_drew)); exact HL381_8.out) (Kd.N_base ho0) hb)
     have n3_ := Asd.mk (Kd.N_elder' (by (with_reducible repeat (first | apply Kd.N_alloc | apply Kd.N_drewN | apply Kd.N_drew)); exact HO380.out) (Kd.N_base ho0) hb)
     have n4_ := Asd.mk (Kd.N_lower (Kd.N_mono (ok' := fun k_ => (P0_8_ k_ ∨ w.heap.size ≤ k_) ∧ some k_ ≠ (v379 : Value).ownBlock ∧ k_ ≠ gb376) ho0 (fun k_ hk_ => ⟨Or.elim hk_ (fun hs_ => hs_.1.1) (fun hn_ => (.inr (Nat.le_trans (below_size (by repeat (first | (with_reducible first | exact HB.out | apply blA | apply pbN | apply blD | refine blS ?_ GE376.out) | exact HB.out))) hn_))), Or.elim hk_ (fun hs_ => hs_.2) (fun hn_ => (Kd.fresh' (Kd.N_lt (by (with_reducible repeat (first | apply Kd.N_alloc | apply Kd.N_drewN | apply Kd.N_drew)); exact HO380.out)) k_ hn_)), Or.elim hk_ (fun hs_ => hs_.1.2) (fun hn_ => (Kd.freshB (g := gb376) (o := .cells #[.int .i64 a0_0, .int .i64 a0_1, .int .i64 a0_2, .string a0_3, .int .i64 a0_4, .int .i64 a0_5, .int .i64 a0_6, .string a0_7, .slice (some ad377) l0_8.length c0_8] 26 (0, 0)) (by exact BK376.out) k_ hn_))⟩)) (below_size (by repeat (first | (with_reducible first | exact HB.out | apply blA | apply pbN | apply blD | refine blS ?_ GE376.out) | exact HB.out))))
     have n5_ := Asd.mk (bB hb BK376.out)
     have n6_ := Asd.mk (Kd.C_below (by repeat (first | (with_reducible exact HR377_8.out) | (with_reducible refine Kd.C_alloc ?_ _) | (with_reducible refine Kd.C_drewN ?_ _) | (with_reducible refine Kd.C_drew ?_) | exact HR377_8.out)) hb)
     have n7_ := Asd.mk (Kd.C_below (by repeat (first | (with_reducible exact HR381_8.out) | (with_reducible refine Kd.C_alloc ?_ _) | (with_reducible refine Kd.C_drewN ?_ _) | (with_reducible refine Kd.C_drew ?_) | exact HR381_8.out)) hb)
     have n8_ := Asd.mk (bS hb HB.out)
     clear HO0_8 HL377_8 HL381_8 HO380 BK376 HR377_8 HR381_8 HB
     have HO0_8 := n0_
     have HL377_8 := n1_
     have HL381_8 := n2_
     have HO380 := n3_
     have HO384 := n4_
     have BK376 := n5_
     have HR377_8 := n6_
     have HR381_8 := n7_
     have HB := n8_
     clear n0_ n1_ n2_ n3_ n4_ n5_ n6_ n7_ n8_
     (try clear hb)
     (try clear hb2)
     (try clear hk)
     (try clear hi)
     (try clear ho0)
     obtain ⟨Ao14, co14, eo14⟩ := Kd.N_slice HO384.out
     (first | subst eo14 | (injection eo14 with f1_ f2_ f3_; have f4_ := f1_.symm; have f5_ := f3_.symm; clear f1_ f2_ f3_; subst f4_; subst f5_))
     refine hK.out _ _ ⟨(bkC BK376.out 0).trans rfl, (bkC BK376.out 1).trans rfl, (bkC BK376.out 2).trans rfl, (bkC BK376.out 3).trans rfl, (bkC BK376.out 4).trans rfl, (bkC BK376.out 5).trans rfl, (bkC BK376.out 6).trans rfl, (bkC BK376.out 7).trans rfl, (bkC BK376.out 8).trans rfl, HS9_, HS10_, HS11_, HS12_, HS13_, HS14_, HS15_, HS16_, HS17_, HS18_, HS19_, HS20_, HS21_, HS22_, HS23_, HS24_, HS25_, HS26_⟩ (fun hHeld => ?_)
     clear hK K
     refine norm_ (a' := ?_) ?_ ?_
     rotate_left
     ·show Act.put _ (some 17) _ = _
      simp only [Act.put, List.setIfInBounds_toArray, List.set_cons_zero, List.set_cons_succ, i64_w, i32_w]
      rfl
     refine last_ (i := 10) (N := some 18) #[true, true, true, true, true, true, true, true, true, true, true, false] rfl rfl (one_of HT_.out (by kernel_rfl)) (by decide) (fun K hK => ?_)
     refine Kd.N_append_rows_step k26 (w0 := w) w.heap.size (by rfl) (.tmp 12) (.tmp 17) 24 26 (.agg #[(.int .i64 0), (.int .i64 0), (.int .i64 0), (.string ⟨#[]⟩), (.int .i64 0), (.int .i64 0), (.int .i64 0), (.string ⟨#[]⟩), (.slice none 0 0)]) 104 rfl Tryd.underlying24 info26 rfl (by decide) (by omega) v379 t378 t382 _ _ _ (fun k_ => (P0_8_ k_ ∨ w.heap.size ≤ k_) ∧ k_ ≠ gb376) (fun k_ => ((fun k_ => (P0_8_ k_ ∨ w.heap.size ≤ k_) ∧ k_ ≠ gb376)) k_ ∧ some k_ ≠ (v379 : Value).ownBlock) rfl rfl ?aO ?aR (fun _ hk => hk) ?aF ?aB ?aS ?aL ?_
     (case aR => exact (by skip; exact Kd.N_F (Kd.N_mono (ok' := (fun k_ => ((fun k_ => (P0_8_ k_ ∨ w.heap.size ≤ k_) ∧ k_ ≠ gb376)) k_ ∧ some k_ ≠ (v379 : Value).ownBlock)) (HO384.out) (fun k_ hk => ⟨⟨hk.1, hk.2.2⟩, hk.2.1⟩))))
     (case aB => exact (by repeat (first | (with_reducible first | exact HB.out | apply blA | apply pbN | apply blD | refine blS ?_ GE376.out) | exact HB.out)))
     (case aF => exact (fun k_ hk => ⟨(.inr (Nat.le_trans (below_size (by repeat (first | (with_reducible first | exact HB.out | apply blA | apply pbN | apply blD | refine blS ?_ GE376.out) | exact HB.out))) hk)), Kd.freshB (g := gb376) (o := .cells #[.int .i64 a0_0, .int .i64 a0_1, .int .i64 a0_2, .string a0_3, .int .i64 a0_4, .int .i64 a0_5, .int .i64 a0_6, .string a0_7, .slice (some ad377) l0_8.length c0_8] 26 (0, 0)) (by exact BK376.out) k_ hk⟩))
     (case aO => exact (by (with_reducible repeat (first | apply Kd.N_alloc | apply Kd.N_drewN | apply Kd.N_drew)); exact Kd.N_mono HO380.out (fun _ hk => ⟨hk.1.1, hk.1.2⟩)))
     (case aS => exact (below_size (by repeat (first | (with_reducible first | exact HB.out | apply blA | apply pbN | apply blD | refine blS ?_ GE376.out) | exact HB.out))))
     (case aL => have := LMc7.out; omega)
     intro v386 w13 ho hb hg hat
     rw [← Ny385.out] at ho
     have n0_ := Asd.mk (Kd.V_afterv (ok := (fun k_ => (P0_8_ k_ ∨ w.heap.size ≤ k_) ∧ some k_ ≠ (.slice Ao14 t382.length co14 : Value).ownBlock ∧ k_ ≠ gb376)) (by (with_reducible repeat (first | apply Kd.V_alloc | apply Kd.V_drewN | apply Kd.V_drew)); exact Kd.V_mono HO0_8.out (fun _ hk => ⟨⟨hk.1.1.1, ⟨hk.2, hk.1.1.2⟩⟩, hk.1.2⟩)) hg hat)
     have n1_ := Asd.mk (blk_grown (g := gb376) (o := .cells #[.int .i64 a0_0, .int .i64 a0_1, .int .i64 a0_2, .string a0_3, .int .i64 a0_4, .int .i64 a0_5, .int .i64 a0_6, .string a0_7, .slice (some ad377) l0_8.length c0_8] 26 (0, 0)) (by exact BK376.out) hg (Kd.N_away HO380.out (fun _ hk => hk.1.2)))
     have n2_ := Asd.mk (Kd.V_afterv (ok := (fun k_ => (P0_8_ k_ ∨ w.heap.size ≤ k_) ∧ some k_ ≠ (.slice Ao14 t382.length co14 : Value).ownBlock ∧ k_ ≠ gb376)) (by (with_reducible repeat (first | apply Kd.V_alloc | apply Kd.V_drewN | apply Kd.V_drew)); exact Kd.V_mono HL377_8.out (fun _ hk => ⟨⟨hk.1.1.1, ⟨hk.2, hk.1.1.2⟩⟩, hk.1.2⟩)) hg hat)
     have n3_ := Asd.mk (Kd.V_afterv (ok := (fun k_ => (P0_8_ k_ ∨ w.heap.size ≤ k_) ∧ some k_ ≠ (.slice Ao14 t382.length co14 : Value).ownBlock ∧ k_ ≠ gb376)) (by (with_reducible repeat (first | apply Kd.V_alloc | apply Kd.V_drewN | apply Kd.V_drew)); exact Kd.V_mono HL381_8.out (fun _ hk => ⟨⟨hk.1.1.1, ⟨hk.2, hk.1.1.2⟩⟩, hk.1.2⟩)) hg hat)
     have n4_ := Asd.mk (Kd.N_afterv (ok := (fun k_ => (P0_8_ k_ ∨ w.heap.size ≤ k_) ∧ k_ ≠ gb376)) (by (with_reducible repeat (first | apply Kd.N_alloc | apply Kd.N_drewN | apply Kd.N_drew)); exact Kd.N_mono HO384.out (fun _ hk => ⟨⟨hk.1, hk.2.2⟩, hk.2.1⟩)) hg hat)
     have n5_ := Asd.mk (hb)
     have n6_ := Asd.mk (ho)
     clear HO0_8 BK376 HL377_8 HL381_8 HO384 HB HO380
     have HO0_8 := n0_
     have BK376 := n1_
     have HL377_8 := n2_
     have HL381_8 := n3_
     have HO384 := n4_
     have HB := n5_
     have HO387 := n6_
     clear n0_ n1_ n2_ n3_ n4_ n5_ n6_ ho hb hg hat
     refine hK.out _ _ ?_
     clear hK K
     refine norm_ (a' := ?_) ?_ ?_
     rotate_left
     ·show Act.put _ (some 18) _ = _
      simp only [Act.put, List.setIfInBounds_toArray, List.set_cons_zero, List.set_cons_succ, i64_w, i32_w]
      rfl
     refine pure_ (i := 11) (N := some 2) (v := ?_) (a' := ?_) #[true, true, true, true, true, true, true, true, true, true, true, true] rfl rfl (any_of HT_.out (by kernel_rfl)) (fun _ _ _ h => h) (Or.inl ⟨by rfl, ?_⟩) ?_ ?_
     rotate_left
     ·intro w'
      go_simp
      with_reducible rfl
     rotate_left
     ·simp only [Act.put, List.setIfInBounds_toArray, List.set_cons_zero, List.set_cons_succ, i64_w, i32_w]
      rfl
     refine done_ (done_of HT_.out (by kernel_rfl)) ?_
     try go_wp2
     go_ret
     exact ⟨_, by first | rfl | (simp [errW_none, errW_some] <;> rfl) | (simp [*, errW_none, errW_some] <;> rfl), by (with_reducible repeat (first | apply Kd.N_alloc | apply Kd.N_drewN | apply Kd.N_drew)); exact Kd.N_mono HO387.out (fun _ hk => hk.1), by repeat (first | (with_reducible first | exact HB.out | apply blA | apply pbN | apply blD | refine blS ?_ GE376.out) | exact HB.out)⟩
    ·rw [if_neg c7] at H
     exact absurd H (by simp)
   ·rw [if_neg c5] at H
    exact absurd H (by simp)
  ·rw [if_neg c3] at H
   exact absurd H (by simp)
 ·rw [if_neg c2] at H
  have c2b0 : (a0_0 == 15) = false := beq_eq_false_iff_ne.mpr c2
  have c2b1 : (a0_0 != 15) = true := bne_iff_ne.mpr c2
  obtain ⟨y388, hy388⟩ : ∃ y_ : List (S26), y_ = (([(⟨a0_0, (⟨a0_1, a0_2, a0_3⟩ : S23), a0_4, a0_5, a0_6, a0_7, l0_8⟩ : S26)] : List (S26))) := ⟨_, rfl⟩
  replace H : (some y388) = some r := by first | (rw [hy388]; with_reducible exact H) | (have H2_ := (Option.bind_some _ _).symm.trans H; rw [hy388]; with_reducible exact H2_) | (have H2_ := (Option.bind_some _ _).symm.trans H; with_reducible exact H2_) | with_reducible exact H | (rw [hy388]; exact H) | exact H
  have Ny388 := Asd.mk hy388
  clear hy388
  obtain rfl := Option.some.inj H
  go_enter Tryd.func56, Tryd.ntmps56
  go_wp2_with (first | ((with_reducible refine gate_dst (N := 1) rfl ?_); refine box_event rfl (N := 1) rfl (cs := #[.int .i64 a0_0, .int .i64 a0_1, .int .i64 a0_2, .string a0_3, .int .i64 a0_4, .int .i64 a0_5, .int .i64 a0_6, .string a0_7, .slice A0_8 l0_8.length c0_8]) (t := 26) (by first | (go_simp; done) | (go_simp; rfl)) ?_; intro gb376 hg w15 hbox hb; have n0_ := Asd.mk (Kd.V_below (Kd.V_elderB (by (with_reducible repeat (first | apply Kd.V_alloc | apply Kd.V_drewN | apply Kd.V_drew)); exact HO0_8.out) gb376 (Nat.le_of_eq hg.symm)) hb); have n1_ := Asd.mk (bS hb HB.out); have n2_ := Asd.mk (hbox); have n3_ := Asd.mk (bZ hg HB.out); have n4_ := Asd.mk (bZ hg HB.out); clear HO0_8; clear HB; have HO0_8 := n0_; have HB := n1_; have BK376 := n2_; have GW376 := n3_; have GE376 := n4_; clear n0_ n1_ n2_ n3_ n4_; clear hb hbox hg; obtain ⟨hcz16_0, hcz16_1, hcz16_2, hcz16_3, hcz16_4, hcz16_5, hcz16_6, hcz16_7, hcz16_8⟩ := bkC9 BK376.out; obtain ⟨hfz16_0, hfz16_1, hfz16_2, hfz16_3, hfz16_4, hfz16_5, hfz16_6, hfz16_7, hfz16_8⟩ := bkF9 BK376.out) | ((with_reducible refine gate_dst (N := 7) rfl ?_); refine Kd.N_lit k26 _ 26 ?hg (N' := 7) ?hd (xs := ([(⟨a0_0, (⟨a0_1, a0_2, a0_3⟩ : S23), a0_4, a0_5, a0_6, a0_7, l0_8⟩ : S26)] : List (S26))) (inner := [.int .i64 a0_0, .int .i64 a0_1, .int .i64 a0_2, .string a0_3, .int .i64 a0_4, .int .i64 a0_5, .int .i64 a0_6, .string a0_7, .slice A0_8 l0_8.length c0_8]) (ok := (fun k_ => (P0_8_ k_ ∨ w.heap.size ≤ k_) ∧ k_ ≠ gb376)) (okp := (fun k_ => (P0_8_ k_ ∨ w.heap.size ≤ k_) ∧ k_ ≠ gb376)) ?hr ?hp (fun _ hk => hk) ((show ∀ k_, w15.heap.size ≤ k_ → (fun k_ => (P0_8_ k_ ∨ w.heap.size ≤ k_) ∧ k_ ≠ gb376) k_ from fun k_ hk => ⟨(.inr (Nat.le_trans (below_size (by repeat (first | (with_reducible first | exact HB.out | apply blA | apply pbN | apply blD | refine blS ?_ GE376.out) | exact HB.out))) hk)), Kd.freshB (g := gb376) (o := .cells #[.int .i64 a0_0, .int .i64 a0_1, .int .i64 a0_2, .string a0_3, .int .i64 a0_4, .int .i64 a0_5, .int .i64 a0_6, .string a0_7, .slice A0_8 l0_8.length c0_8] 26 (0, 0)) (by exact BK376.out) k_ hk⟩) _ (Nat.le_refl _)) (Below.refl _ _) (Nat.le_refl _) (by simp) ?_; (case hd => rfl); (case hg => rfl); (case hr => first | (go_simp; done) | (go_simp; rfl)); (case hp => exact (Reps.c9 (show Kd.FK k26 _ _ (⟨a0_0, (⟨a0_1, a0_2, a0_3⟩ : S23), a0_4, a0_5, a0_6, a0_7, l0_8⟩ : S26) [.int .i64 a0_0, .int .i64 a0_1, .int .i64 a0_2, .string a0_3, .int .i64 a0_4, .int .i64 a0_5, .int .i64 a0_6, .string a0_7, .slice A0_8 l0_8.length c0_8] from (k26_mkF _ _ (⟨a0_0, (⟨a0_1, a0_2, a0_3⟩ : S23), a0_4, a0_5, a0_6, a0_7, l0_8⟩ : S26) (Kd.V_reads' (Kd.V_mono (ok' := (fun k_ => (P0_8_ k_ ∨ w.heap.size ≤ k_) ∧ k_ ≠ gb376)) (HO0_8.out) (fun k_ hk => ⟨hk.1, hk.2⟩))).2.1 (Kd.V_F (Kd.V_mono (ok' := (fun k_ => (P0_8_ k_ ∨ w.heap.size ≤ k_) ∧ k_ ≠ gb376)) (HO0_8.out) (fun k_ hk => ⟨hk.1, hk.2⟩))))) (Reps.none _ _))); intro v389 w17 ho18 hb hg_ hnew_; clear hg_ hnew_; (first | rw [← Ny388.out] at ho18 | (simp only [Int.reduceToNat] at ho18; rw [← Ny388.out] at ho18)); have n0_ := Asd.mk (Kd.V_elder' (by (with_reducible repeat (first | apply Kd.V_alloc | apply Kd.V_drewN | apply Kd.V_drew)); exact HO0_8.out) (Kd.N_base ho18) hb); have n1_ := Asd.mk (Kd.N_lower ho18 (below_size (by repeat (first | (with_reducible first | exact HB.out | apply blA | apply pbN | apply blD | refine blS ?_ GE376.out) | exact HB.out)))); have n2_ := Asd.mk (bB hb BK376.out); have n3_ := Asd.mk (bS hb HB.out); clear HO0_8; clear BK376; clear HB; have HO0_8 := n0_; have HO390 := n1_; have BK376 := n2_; have HB := n3_; clear n0_ n1_ n2_ n3_; clear hb ho18))
  go_ret
  exact ⟨_, by first | rfl | (simp [errW_none, errW_some] <;> rfl) | (simp [*, errW_none, errW_some] <;> rfl), by (with_reducible repeat (first | apply Kd.N_alloc | apply Kd.N_drewN | apply Kd.N_drew)); exact Kd.N_mono HO390.out (fun _ hk => hk.1), by repeat (first | (with_reducible first | exact HB.out | apply blA | apply pbN | apply blD | refine blS ?_ GE376.out) | exact HB.out)⟩
end Go.Proofs.YtkboodfnegedaaaDoor.E
