/- Contracts and plain lemmas of the functions that the law reaches, part 9. -/
import Derived.Test.YtkboodfnegedaaaDoorZV3
import Derived.Test.YtkboodfnegedaaaDoorZV8
namespace Go.Proofs.YtkboodfnegedaaaDoor.E
open Go.RowKit Go.Proofs.YtkboodfnegedaaaDoorW.PrintWords Go.Proofs.YtkboodfnegedaaaDoorW.PrintLast Go.Proofs.YtkboodfnegedaaaDoorW.PrintMore
attribute [local go_sem] max2_int min2_int max_two min_two max_three min_three max_four min_four   -- for this text's walks alone
set_option linter.unusedVariables false
set_option linter.unusedSimpArgs false
def value_Neg.f (k : Nat) (a0_0 : Int) (a0_1 : Int) (a0_2 : ByteArray) : Option (Int × Int × ByteArray × Int) := (value_null.f k 1 (([(⟨a0_0, a0_1, a0_2⟩ : S23)] : List (S23)))).bind fun bt158 => (if bt158.2 = true then (some (0, 0, (⟨#[]⟩ : ByteArray), bt158.1)) else ((value_number.f 0).bind fun bt160 => ((value_Sub.f k bt160.1 bt160.2.1 bt160.2.2 a0_0 a0_1 a0_2).bind fun bt163 => (some (bt163.1, bt163.2.1, bt163.2.2.1, bt163.2.2.2)))))
set_option maxHeartbeats 8000000 in
set_option maxRecDepth 100000 in
theorem value_Neg.calls (k : Nat) (a0_0 : Int) (a0_1 : Int) (a0_2 : ByteArray) (r1 : Int) (r2 : Int) (r3 : ByteArray) (r4 : Int) (w : World) (h : value_Neg.f k a0_0 a0_1 a0_2 = some (r1, r2, r3, r4)) :
  Calls Tryd.prog 69 #[.agg #[.int .i64 a0_0, .int .i64 a0_1, .string a0_2]] w fun e w' => e = .returned (.tuple #[.agg #[.int .i64 r1, .int .i64 r2, .string r3], .int .i64 r4]) ∧ Below w.heap.size w w' := by
 have hu23 := Tryd.underlying23
 have HB := Asd.mk (Below.refl w.heap.size w)
 have H : ((value_null.f k 1 (([(⟨a0_0, a0_1, a0_2⟩ : S23)] : List (S23)))).bind fun bt158 => (if bt158.2 = true then (some (0, 0, (⟨#[]⟩ : ByteArray), bt158.1)) else ((value_number.f 0).bind fun bt160 => ((value_Sub.f k bt160.1 bt160.2.1 bt160.2.2 a0_0 a0_1 a0_2).bind fun bt163 => (some (bt163.1, bt163.2.1, bt163.2.2.1, bt163.2.2.2)))))) = some (r1, r2, r3, r4) := h
 clear h
 obtain ⟨y155, hy155⟩ : ∃ y_ : List (S23), y_ = (([(⟨a0_0, a0_1, a0_2⟩ : S23)] : List (S23))) := ⟨_, rfl⟩
 replace H : ((value_null.f k 1 y155).bind fun bt158 => (if bt158.2 = true then (some (0, 0, (⟨#[]⟩ : ByteArray), bt158.1)) else ((value_number.f 0).bind fun bt160 => ((value_Sub.f k bt160.1 bt160.2.1 bt160.2.2 a0_0 a0_1 a0_2).bind fun bt163 => (some (bt163.1, bt163.2.1, bt163.2.2.1, bt163.2.2.2)))))) = some (r1, r2, r3, r4) := by first | (rw [hy155]; with_reducible exact H) | (have H2_ := (Option.bind_some _ _).symm.trans H; rw [hy155]; with_reducible exact H2_) | (have H2_ := (Option.bind_some _ _).symm.trans H; with_reducible exact H2_) | with_reducible exact H | (rw [hy155]; exact H) | exact H
 have Ny155 := Asd.mk hy155
 clear hy155
 replace H := Option.bind_eq_some_iff.mp H
 obtain ⟨⟨t158, t159⟩, A20, H⟩ := H
 replace H : (if t159 = true then (some (0, 0, (⟨#[]⟩ : ByteArray), t158)) else ((value_number.f 0).bind fun bt160 => ((value_Sub.f k bt160.1 bt160.2.1 bt160.2.2 a0_0 a0_1 a0_2).bind fun bt163 => (some (bt163.1, bt163.2.1, bt163.2.2.1, bt163.2.2.2))))) = some (r1, r2, r3, r4) := H
 have A2 := Asd.mk A20
 clear A20
 by_cases c3 : t159 = true
 ·subst c3
  have H1 : (some (0, 0, (⟨#[]⟩ : ByteArray), t158)) = some (r1, r2, r3, r4) := by rw [if_pos rfl] at H; exact H
  clear H
  have H := H1
  clear H1
  simp only [Option.some.injEq, Prod.mk.injEq] at H
  obtain ⟨rfl, rfl, rfl, rfl⟩ := H
  go_enter Tryd.func69, Tryd.ntmps69
  go_wp2_with (first | ((with_reducible refine gate_dst (N := 1) rfl ?_); refine box_event rfl (N := 1) rfl (cs := #[.int .i64 a0_0, .int .i64 a0_1, .string a0_2]) (t := 23) (by first | (go_simp; done) | (go_simp; rfl)) ?_; intro gb153 hg w4 hbox hb; have BK153 := Asd.mk (hbox); have GW153 := Asd.mk (bZ hg HB.out); have GE153 := GW153; replace HB := Asd.mk (bS hb HB.out); clear hb hbox hg) | ((with_reducible refine gate_dst (N := 2) rfl ?_); refine box_event rfl (N := 2) rfl (cs := #[.int .i64 0, .int .i64 0, .string (⟨#[]⟩ : ByteArray)]) (t := 23) (by first | (go_simp; done) | (go_simp; rfl)) ?_; intro gb154 hg w5 hbox hb; have BK154 := Asd.mk (hbox); have GW154 := Asd.mk (bZ hg HB.out); have GE154 := GW154; have NB153_154 := Asd.mk (bL hg BK153.out); have NB154_153 := Asd.mk (bG hg BK153.out); replace BK153 := Asd.mk (bB hb BK153.out); replace HB := Asd.mk (bS hb HB.out); clear hb hbox hg; have hnb6 := NB153_154.out; have hnc6 := NB154_153.out; obtain ⟨hcz7_0, hcz7_1, hcz7_2⟩ := bkC3 BK153.out; obtain ⟨hfz7_0, hfz7_1, hfz7_2⟩ := bkF3 BK153.out) | ((with_reducible refine gate_dst (N := 8) rfl ?_); refine Kd.R_lit k23 _ 23 ?hg (N := 8) ?hd (xs := ([(⟨a0_0, a0_1, a0_2⟩ : S23)] : List (S23))) (inner := [.int .i64 a0_0, .int .i64 a0_1, .string a0_2]) (ok := fun _ => True) (okp := fun _ => True) ?hr ?hp (fun _ hk => hk) trivial (Below.refl _ _) (Nat.le_refl _) (by simp) ?_; (case hd => rfl); (case hg => rfl); (case hr => first | (go_simp; done) | (go_simp; rfl)); (case hp => exact (Reps.c3 (show Kd.M k23 _ _ _ (⟨a0_0, a0_1, a0_2⟩ : S23) [.int .i64 a0_0, .int .i64 a0_1, .string a0_2] from (k23_mkM _ _ _ (⟨a0_0, a0_1, a0_2⟩ : S23) )) (Reps.none _ _))); intro v156 w8 ho9 hb hg_ hnew_; clear hg_ hnew_; (first | rw [← Ny155.out] at ho9 | (simp only [Int.reduceToNat] at ho9; rw [← Ny155.out] at ho9)); have n0_ := Asd.mk (Kd.R_lower (Kd.R_newB (Kd.R_newB ho9 (g := gb153) (o := .cells #[.int .i64 a0_0, .int .i64 a0_1, .string a0_2] 23 (0, 0)) (by exact BK153.out)) (g := gb154) (o := .cells #[.int .i64 0, .int .i64 0, .string (⟨#[]⟩ : ByteArray)] 23 (0, 0)) (by exact BK154.out)) (below_size (by repeat (first | (with_reducible first | exact HB.out | apply blA | apply pbN | apply blD | refine blS ?_ GE153.out | refine blS ?_ GE154.out) | exact HB.out)))); have n1_ := Asd.mk (bB hb BK153.out); have n2_ := Asd.mk (bB hb BK154.out); have n3_ := Asd.mk (bS hb HB.out); clear BK153; clear BK154; clear HB; have HO157 := n0_; have BK153 := n1_; have BK154 := n2_; have HB := n3_; clear n0_ n1_ n2_ n3_; clear hb ho9; obtain ⟨Ao10, co10, eo10⟩ := Kd.R_slice HO157.out; subst eo10) | ((with_reducible refine gate_callee (f := 93) rfl ?_); refine goesL_ (some 9) rfl rfl Tryd.func93 (by kernel_rfl) rfl #[.int .i64 1, .slice Ao10 y155.length co10] rfl (by (try simp only [List.map_toArray, List.map_cons, List.map_nil]); first | done | rfl | (simp only [List.length_drop, List.length_take]; rfl)) ?_; (with_reducible refine (value_null.calls k 1 _ _ y155 t158 true _ ?side1 ?side2 A2.out).mono ?_); (case side1 => repeat (first | exact (Kd.R_reads' HO157.out).2.2 | (with_reducible refine Kd.C_alloc ?_ _) | (with_reducible refine Kd.C_drewN ?_ _) | (with_reducible refine Kd.C_drew ?_))); (case side2 => exact (Kd.R_reads' HO157.out).2.1); rintro e w11 ⟨rfl, hb⟩; refine ⟨_, rfl, ?_⟩; have n0_ := Asd.mk (Kd.R_below (by (with_reducible repeat (first | apply Kd.R_alloc | apply Kd.R_drewN | apply Kd.R_drew)); exact HO157.out) hb); have n1_ := Asd.mk (bB hb BK153.out); have n2_ := Asd.mk (bB hb BK154.out); have n3_ := Asd.mk (bS hb HB.out); clear HO157; clear BK153; clear BK154; clear HB; have HO157 := n0_; have BK153 := n1_; have BK154 := n2_; have HB := n3_; clear n0_ n1_ n2_ n3_; (try clear hb); (try clear hb2); (try clear hk); (try clear hi); obtain ⟨hcz12_0, hcz12_1, hcz12_2⟩ := bkC3 BK154.out; obtain ⟨hfz12_0, hfz12_1, hfz12_2⟩ := bkF3 BK154.out))
  refine bodyPost_ret (results_ct rfl _ _ gb154 23 #[.int .i64 0, .int .i64 0, .string (⟨#[]⟩ : ByteArray)] (0, 0) _ rfl (by refine blk_put (cs := #[.int .i64 0, .int .i64 0, .string (⟨#[]⟩ : ByteArray)]) ?_ 2 _ rfl; refine blk_put (cs := #[.int .i64 0, .int .i64 0, .string (⟨#[]⟩ : ByteArray)]) ?_ 1 _ rfl; refine blk_put (cs := #[.int .i64 0, .int .i64 0, .string (⟨#[]⟩ : ByteArray)]) ?_ 0 _ rfl; exact BK154.out) Tryd.underlying23 rfl (by kernel_rfl)) rfl ?_
  exact ⟨by first | rfl | (simp [errW_none, errW_some] <;> rfl) | (simp [*, errW_none, errW_some] <;> rfl), by repeat (first | (with_reducible first | exact HB.out | apply blA | apply pbN | apply blD | refine blS ?_ GE153.out | refine blS ?_ GE154.out) | exact HB.out)⟩
 ·replace c3 := Bool.eq_false_iff.mpr c3
  subst c3
  have H1 : ((value_number.f 0).bind fun bt160 => ((value_Sub.f k bt160.1 bt160.2.1 bt160.2.2 a0_0 a0_1 a0_2).bind fun bt163 => (some (bt163.1, bt163.2.1, bt163.2.2.1, bt163.2.2.2)))) = some (r1, r2, r3, r4) := by rw [if_neg (show ¬ (false = true) by decide)] at H; exact H
  clear H
  have H := H1
  clear H1
  replace H := Option.bind_eq_some_iff.mp H
  obtain ⟨⟨t160, t161, t162⟩, A130, H⟩ := H
  replace H : ((value_Sub.f k t160 t161 t162 a0_0 a0_1 a0_2).bind fun bt163 => (some (bt163.1, bt163.2.1, bt163.2.2.1, bt163.2.2.2))) = some (r1, r2, r3, r4) := H
  have A13 := Asd.mk A130
  clear A130
  replace H := Option.bind_eq_some_iff.mp H
  obtain ⟨⟨t163, t164, t165, t166⟩, A140, H⟩ := H
  replace H : (some (t163, t164, t165, t166)) = some (r1, r2, r3, r4) := H
  have A14 := Asd.mk A140
  clear A140
  simp only [Option.some.injEq, Prod.mk.injEq] at H
  obtain ⟨rfl, rfl, rfl, rfl⟩ := H
  go_enter Tryd.func69, Tryd.ntmps69
  try go_wp2_with (first | ((with_reducible refine gate_dst (N := 1) rfl ?_); refine box_event rfl (N := 1) rfl (cs := #[.int .i64 a0_0, .int .i64 a0_1, .string a0_2]) (t := 23) (by first | (go_simp; done) | (go_simp; rfl)) ?_; intro gb153 hg w15 hbox hb; have BK153 := Asd.mk (hbox); have GW153 := Asd.mk (bZ hg HB.out); have GE153 := GW153; replace HB := Asd.mk (bS hb HB.out); clear hb hbox hg) | ((with_reducible refine gate_dst (N := 2) rfl ?_); refine box_event rfl (N := 2) rfl (cs := #[.int .i64 0, .int .i64 0, .string (⟨#[]⟩ : ByteArray)]) (t := 23) (by first | (go_simp; done) | (go_simp; rfl)) ?_; intro gb154 hg w16 hbox hb; have BK154 := Asd.mk (hbox); have GW154 := Asd.mk (bZ hg HB.out); have GE154 := GW154; have NB153_154 := Asd.mk (bL hg BK153.out); have NB154_153 := Asd.mk (bG hg BK153.out); replace BK153 := Asd.mk (bB hb BK153.out); replace HB := Asd.mk (bS hb HB.out); clear hb hbox hg; have hnb17 := NB153_154.out; have hnc17 := NB154_153.out; obtain ⟨hcz18_0, hcz18_1, hcz18_2⟩ := bkC3 BK153.out; obtain ⟨hfz18_0, hfz18_1, hfz18_2⟩ := bkF3 BK153.out) | ((with_reducible refine gate_dst (N := 8) rfl ?_); refine Kd.R_lit k23 _ 23 ?hg (N := 8) ?hd (xs := ([(⟨a0_0, a0_1, a0_2⟩ : S23)] : List (S23))) (inner := [.int .i64 a0_0, .int .i64 a0_1, .string a0_2]) (ok := fun _ => True) (okp := fun _ => True) ?hr ?hp (fun _ hk => hk) trivial (Below.refl _ _) (Nat.le_refl _) (by simp) ?_; (case hd => rfl); (case hg => rfl); (case hr => first | (go_simp; done) | (go_simp; rfl)); (case hp => exact (Reps.c3 (show Kd.M k23 _ _ _ (⟨a0_0, a0_1, a0_2⟩ : S23) [.int .i64 a0_0, .int .i64 a0_1, .string a0_2] from (k23_mkM _ _ _ (⟨a0_0, a0_1, a0_2⟩ : S23) )) (Reps.none _ _))); intro v156 w19 ho20 hb hg_ hnew_; clear hg_ hnew_; (first | rw [← Ny155.out] at ho20 | (simp only [Int.reduceToNat] at ho20; rw [← Ny155.out] at ho20)); have n0_ := Asd.mk (Kd.R_lower (Kd.R_newB (Kd.R_newB ho20 (g := gb153) (o := .cells #[.int .i64 a0_0, .int .i64 a0_1, .string a0_2] 23 (0, 0)) (by exact BK153.out)) (g := gb154) (o := .cells #[.int .i64 0, .int .i64 0, .string (⟨#[]⟩ : ByteArray)] 23 (0, 0)) (by exact BK154.out)) (below_size (by repeat (first | (with_reducible first | exact HB.out | apply blA | apply pbN | apply blD | refine blS ?_ GE153.out | refine blS ?_ GE154.out) | exact HB.out)))); have n1_ := Asd.mk (bB hb BK153.out); have n2_ := Asd.mk (bB hb BK154.out); have n3_ := Asd.mk (bS hb HB.out); clear BK153; clear BK154; clear HB; have HO157 := n0_; have BK153 := n1_; have BK154 := n2_; have HB := n3_; clear n0_ n1_ n2_ n3_; clear hb ho20; obtain ⟨Ao21, co21, eo21⟩ := Kd.R_slice HO157.out; subst eo21) | ((with_reducible refine gate_callee (f := 93) rfl ?_); refine goesL_ (some 9) rfl rfl Tryd.func93 (by kernel_rfl) rfl #[.int .i64 1, .slice Ao21 y155.length co21] rfl (by (try simp only [List.map_toArray, List.map_cons, List.map_nil]); first | done | rfl | (simp only [List.length_drop, List.length_take]; rfl)) ?_; (with_reducible refine (value_null.calls k 1 _ _ y155 t158 false _ ?side1 ?side2 A2.out).mono ?_); (case side1 => repeat (first | exact (Kd.R_reads' HO157.out).2.2 | (with_reducible refine Kd.C_alloc ?_ _) | (with_reducible refine Kd.C_drewN ?_ _) | (with_reducible refine Kd.C_drew ?_))); (case side2 => exact (Kd.R_reads' HO157.out).2.1); rintro e w22 ⟨rfl, hb⟩; refine ⟨_, rfl, ?_⟩; have n0_ := Asd.mk (Kd.R_below (by (with_reducible repeat (first | apply Kd.R_alloc | apply Kd.R_drewN | apply Kd.R_drew)); exact HO157.out) hb); have n1_ := Asd.mk (bB hb BK153.out); have n2_ := Asd.mk (bB hb BK154.out); have n3_ := Asd.mk (bS hb HB.out); clear HO157; clear BK153; clear BK154; clear HB; have HO157 := n0_; have BK153 := n1_; have BK154 := n2_; have HB := n3_; clear n0_ n1_ n2_ n3_; (try clear hb); (try clear hb2); (try clear hk); (try clear hi)))
  have n0_ := Asd.mk (Kd.R_drew HO157.out)
  have n1_ := Asd.mk (bkD BK153.out)
  have n2_ := Asd.mk (bkD BK154.out)
  have n3_ := Asd.mk (blD HB.out)
  clear HO157 BK153 BK154 HB
  have HO157 := n0_
  have BK153 := n1_
  have BK154 := n2_
  have HB := n3_
  clear n0_ n1_ n2_ n3_
  refine start_ (n := 7) (S := fun w' => w'.cell? ⟨gb153, 0, none⟩ = some (.int .i64 a0_0) ∧ w'.cell? ⟨gb153, 1, none⟩ = some (.int .i64 a0_1) ∧ w'.cell? ⟨gb153, 2, none⟩ = some (.string a0_2)) (ds := []) #[false, false, false, false, false, false, false] (by kernel_rfl) rfl rfl ⟨(bkC BK153.out 0).trans rfl, (bkC BK153.out 1).trans rfl, (bkC BK153.out 2).trans rfl⟩ (fun hHeld => ?_)
  generalize w22.drew = w23 at HO157 BK153 BK154 HB hHeld ⊢
  refine take_ (i := 1) (N := some 16) (v := ?_) (a' := ?_) #[false, true, false, false, false, false, false] rfl rfl (by kernel_rfl) (fun _ _ _ h => h) (Or.inl ⟨by rfl, ?_⟩) hHeld ?_ ?_
  rotate_left
  ·rintro w' ⟨s0, s1, s2⟩
   go_simp
   with_reducible rfl
  rotate_left
  ·simp only [Act.put, List.setIfInBounds_toArray, List.set_cons_zero, List.set_cons_succ, i64_w, i32_w]
   rfl
  refine one_ (i := 0) (N := some 15) #[true, true, false, false, false, false, false] rfl rfl (by kernel_rfl) (by decide) (fun K hK => ?_)
  refine goes_ Tryd.func94 (by kernel_rfl) rfl #[.int .i64 0] (by rfl) rfl rfl (by (try simp only [List.map_toArray, List.map_cons, List.map_nil]); first | done | rfl | (simp only [List.length_drop, List.length_take]; rfl)) ?_
  with_reducible refine (value_number.calls 0 t160 t161 t162 _ A13.out).mono ?_
  rintro e w24 ⟨rfl, hb⟩
  refine ⟨_, rfl, ?_⟩
  have n0_ := Asd.mk (Kd.R_below (by (with_reducible repeat (first | apply Kd.R_alloc | apply Kd.R_drewN | apply Kd.R_drew)); exact HO157.out) hb)
  have n1_ := Asd.mk (bB hb BK153.out)
  have n2_ := Asd.mk (bB hb BK154.out)
  have n3_ := Asd.mk (bS hb HB.out)
  clear HO157 BK153 BK154 HB
  have HO157 := n0_
  have BK153 := n1_
  have BK154 := n2_
  have HB := n3_
  clear n0_ n1_ n2_ n3_
  (try clear hb)
  (try clear hb2)
  (try clear hk)
  (try clear hi)
  refine hK.out _ _ ⟨(bkC BK153.out 0).trans rfl, (bkC BK153.out 1).trans rfl, (bkC BK153.out 2).trans rfl⟩ (fun hHeld => ?_)
  clear hK K
  refine norm_ (a' := ?_) ?_ ?_
  rotate_left
  ·show Act.put _ (some 15) _ = _
   simp only [Act.put, List.setIfInBounds_toArray, List.set_cons_zero, List.set_cons_succ, i64_w, i32_w]
   rfl
  refine one_ (i := 2) (N := some 17) #[true, true, true, false, false, false, false] rfl rfl (by kernel_rfl) (by decide) (fun K hK => ?_)
  refine goes_ Tryd.func66 (by kernel_rfl) rfl #[.agg #[.int .i64 t160, .int .i64 t161, .string t162], .agg #[.int .i64 a0_0, .int .i64 a0_1, .string a0_2]] (by rfl) rfl rfl (by (try simp only [List.map_toArray, List.map_cons, List.map_nil]); first | done | rfl | (simp only [List.length_drop, List.length_take]; rfl)) ?_
  with_reducible refine (value_Sub.calls k t160 t161 t162 a0_0 a0_1 a0_2 t163 t164 t165 t166 _ A14.out).mono ?_
  rintro e w25 ⟨rfl, hb⟩
  refine ⟨_, rfl, ?_⟩
  have n0_ := Asd.mk (Kd.R_below (by (with_reducible repeat (first | apply Kd.R_alloc | apply Kd.R_drewN | apply Kd.R_drew)); exact HO157.out) hb)
  have n1_ := Asd.mk (bB hb BK153.out)
  have n2_ := Asd.mk (bB hb BK154.out)
  have n3_ := Asd.mk (bS hb HB.out)
  clear HO157 BK153 BK154 HB
  have HO157 := n0_
  have BK153 := n1_
  have BK154 := n2_
  have HB := n3_
  clear n0_ n1_ n2_ n3_
  (try clear hb)
  (try clear hb2)
  (try clear hk)
  (try clear hi)
  refine hK.out _ _ ⟨(bkC BK153.out 0).trans rfl, (bkC BK153.out 1).trans rfl, (bkC BK153.out 2).trans rfl⟩ (fun hHeld => ?_)
  clear hK K
  refine norm_ (a' := ?_) ?_ ?_
  rotate_left
  ·show Act.put _ (some 17) _ = _
   simp only [Act.put, List.setIfInBounds_toArray, List.set_cons_zero, List.set_cons_succ, i64_w, i32_w]
   rfl
  refine pure_ (i := 3) (N := some 18) (v := ?_) (a' := ?_) #[true, true, true, true, false, false, false] rfl rfl (by kernel_rfl) (fun _ _ _ h => h) (Or.inl ⟨by rfl, ?_⟩) ?_ ?_
  rotate_left
  ·intro w'
   go_simp
   with_reducible rfl
  rotate_left
  ·simp only [Act.put, List.setIfInBounds_toArray, List.set_cons_zero, List.set_cons_succ, i64_w, i32_w]
   rfl
  refine pure_ (i := 4) (N := some 19) (v := ?_) (a' := ?_) #[true, true, true, true, true, false, false] rfl rfl (by kernel_rfl) (fun _ _ _ h => h) (Or.inl ⟨by rfl, ?_⟩) ?_ ?_
  rotate_left
  ·intro w'
   go_simp
   with_reducible rfl
  rotate_left
  ·simp only [Act.put, List.setIfInBounds_toArray, List.set_cons_zero, List.set_cons_succ, i64_w, i32_w]
   rfl
  refine one_ (i := 5) (N := none) #[true, true, true, true, true, true, false] rfl rfl (by kernel_rfl) (by decide) (fun K hK => ?_)
  have hs26 : w25.cell? ⟨gb154, 0, none⟩ = some (.int .i64 0) := (bkC BK154.out 0).trans rfl
  have hfs26 := bkF BK154.out 0
  have hns26_0 := NB153_154.out
  have hms26_0 := NB154_153.out
  have hs27 : w25.cell? ⟨gb154, 1, none⟩ = some (.int .i64 0) := (bkC BK154.out 1).trans rfl
  have hfs27 := bkF BK154.out 1
  have hns27_0 := NB153_154.out
  have hms27_0 := NB154_153.out
  have hs28 : w25.cell? ⟨gb154, 2, none⟩ = some (.string (⟨#[]⟩ : ByteArray)) := (bkC BK154.out 2).trans rfl
  have hfs28 := bkF BK154.out 2
  have hns28_0 := NB153_154.out
  have hms28_0 := NB154_153.out
  refine skip_ (w1 := ?_) (by rfl) rfl ?_ ?_
  rotate_left
  ·go_simp
   rfl
  refine hK.out _ _ ⟨((cell_far (p := ⟨gb154, _, none⟩) NB153_154.out _).trans (((cell_far (p := ⟨gb154, _, none⟩) NB153_154.out _).trans (((cell_far (p := ⟨gb154, _, none⟩) NB153_154.out _).trans (hHeld.1)))))), ((cell_far (p := ⟨gb154, _, none⟩) NB153_154.out _).trans (((cell_far (p := ⟨gb154, _, none⟩) NB153_154.out _).trans (((cell_far (p := ⟨gb154, _, none⟩) NB153_154.out _).trans (hHeld.2.1)))))), ((cell_far (p := ⟨gb154, _, none⟩) NB153_154.out _).trans (((cell_far (p := ⟨gb154, _, none⟩) NB153_154.out _).trans (((cell_far (p := ⟨gb154, _, none⟩) NB153_154.out _).trans (hHeld.2.2))))))⟩ (fun hHeld => ?_)
  clear hK K
  refine pure_ (i := 6) (N := some 3) (v := ?_) (a' := ?_) #[true, true, true, true, true, true, true] rfl rfl (by kernel_rfl) (fun _ _ _ h => h) (Or.inl ⟨by rfl, ?_⟩) ?_ ?_
  rotate_left
  ·intro w'
   go_simp
   with_reducible rfl
  rotate_left
  ·simp only [Act.put, List.setIfInBounds_toArray, List.set_cons_zero, List.set_cons_succ, i64_w, i32_w]
   rfl
  refine done_ (by kernel_rfl) ?_
  try go_wp2
  refine bodyPost_ret (results_ct rfl _ _ gb154 23 #[.int .i64 t163, .int .i64 t164, .string t165] (0, 0) _ rfl (by refine blk_put (cs := #[.int .i64 t163, .int .i64 t164, .string (⟨#[]⟩ : ByteArray)]) ?_ 2 _ rfl; refine blk_put (cs := #[.int .i64 t163, .int .i64 0, .string (⟨#[]⟩ : ByteArray)]) ?_ 1 _ rfl; refine blk_put (cs := #[.int .i64 0, .int .i64 0, .string (⟨#[]⟩ : ByteArray)]) ?_ 0 _ rfl; exact BK154.out) Tryd.underlying23 rfl (by kernel_rfl)) rfl ?_
  exact ⟨by first | rfl | (simp [errW_none, errW_some] <;> rfl) | (simp [*, errW_none, errW_some] <;> rfl), by repeat (first | (with_reducible first | exact HB.out | apply blA | apply pbN | apply blD | refine blS ?_ GE153.out | refine blS ?_ GE154.out) | exact HB.out)⟩
def q01_of.f (a0 : Int) (a1_0 : Int) (a1_1 : Int) (a1_2 : ByteArray) (a2_0 : Int) (a2_1 : Int) (a2_2 : ByteArray) : Option (Bool) := (q01_Right.f a1_0 a1_1 a1_2).bind fun t214 => ((q01_Right.f a2_0 a2_1 a2_2).bind fun t215 => (if t214 = true then (if t215 = true then (if a1_0 = 0 then (if a2_0 = 0 then (some true) else (some (a2_0 == a0))) else (if a1_0 = a0 then (if a2_0 = 0 then (some true) else (some (a2_0 == a0))) else (some false))) else (some false)) else (some false)))
set_option maxHeartbeats 8000000 in
set_option maxRecDepth 100000 in
theorem q01_of.calls (a0 : Int) (a1_0 : Int) (a1_1 : Int) (a1_2 : ByteArray) (a2_0 : Int) (a2_1 : Int) (a2_2 : ByteArray) (r : Bool) (w : World) (h : q01_of.f a0 a1_0 a1_1 a1_2 a2_0 a2_1 a2_2 = some r) :
  Calls Tryd.prog 100 #[.int .i64 a0, .agg #[.int .i64 a1_0, .int .i64 a1_1, .string a1_2], .agg #[.int .i64 a2_0, .int .i64 a2_1, .string a2_2]] w fun e w' => e = .returned (.bool r) ∧ Below w.heap.size w w' := by
 have hu23 := Tryd.underlying23
 have HB := Asd.mk (Below.refl w.heap.size w)
 have H : ((q01_Right.f a1_0 a1_1 a1_2).bind fun t214 => ((q01_Right.f a2_0 a2_1 a2_2).bind fun t215 => (if t214 = true then (if t215 = true then (if a1_0 = 0 then (if a2_0 = 0 then (some true) else (some (a2_0 == a0))) else (if a1_0 = a0 then (if a2_0 = 0 then (some true) else (some (a2_0 == a0))) else (some false))) else (some false)) else (some false)))) = some r := h
 clear h
 replace H := Option.bind_eq_some_iff.mp H
 obtain ⟨t214, A40, H⟩ := H
 replace H : ((q01_Right.f a2_0 a2_1 a2_2).bind fun t215 => (if t214 = true then (if t215 = true then (if a1_0 = 0 then (if a2_0 = 0 then (some true) else (some (a2_0 == a0))) else (if a1_0 = a0 then (if a2_0 = 0 then (some true) else (some (a2_0 == a0))) else (some false))) else (some false)) else (some false))) = some r := H
 have A4 := Asd.mk A40
 clear A40
 replace H := Option.bind_eq_some_iff.mp H
 obtain ⟨t215, A50, H⟩ := H
 replace H : (if t214 = true then (if t215 = true then (if a1_0 = 0 then (if a2_0 = 0 then (some true) else (some (a2_0 == a0))) else (if a1_0 = a0 then (if a2_0 = 0 then (some true) else (some (a2_0 == a0))) else (some false))) else (some false)) else (some false)) = some r := H
 have A5 := Asd.mk A50
 clear A50
 by_cases c6 : t214 = true
 ·subst c6
  have H1 : (if t215 = true then (if a1_0 = 0 then (if a2_0 = 0 then (some true) else (some (a2_0 == a0))) else (if a1_0 = a0 then (if a2_0 = 0 then (some true) else (some (a2_0 == a0))) else (some false))) else (some false)) = some r := by rw [if_pos rfl] at H; exact H
  clear H
  have H := H1
  clear H1
  by_cases c7 : t215 = true
  ·subst c7
   have H1 : (if a1_0 = 0 then (if a2_0 = 0 then (some true) else (some (a2_0 == a0))) else (if a1_0 = a0 then (if a2_0 = 0 then (some true) else (some (a2_0 == a0))) else (some false))) = some r := by rw [if_pos rfl] at H; exact H
   clear H
   have H := H1
   clear H1
   by_cases c8 : a1_0 = 0
   ·rw [if_pos c8] at H
    have c8b0 : (a1_0 == 0) = true := beq_iff_eq.mpr c8
    have c8b1 : (a1_0 != 0) = false := bne_eq_false_iff_eq.mpr c8
    clear c8
    by_cases c9 : a2_0 = 0
    ·rw [if_pos c9] at H
     have c9b0 : (a2_0 == 0) = true := beq_iff_eq.mpr c9
     have c9b1 : (a2_0 != 0) = false := bne_eq_false_iff_eq.mpr c9
     clear c9
     obtain rfl := Option.some.inj H
     go_enter Tryd.func100, Tryd.ntmps100
     go_wp2_with (first | ((with_reducible refine gate_dst (N := 4) rfl ?_); refine box_event rfl (N := 4) rfl (cs := #[.int .i64 a1_0, .int .i64 a1_1, .string a1_2]) (t := 23) (by first | (go_simp; done) | (go_simp; rfl)) ?_; intro gb212 hg w10 hbox hb; have BK212 := Asd.mk (hbox); have GW212 := Asd.mk (bZ hg HB.out); have GE212 := GW212; replace HB := Asd.mk (bS hb HB.out); clear hb hbox hg) | ((with_reducible refine gate_dst (N := 5) rfl ?_); refine box_event rfl (N := 5) rfl (cs := #[.int .i64 a2_0, .int .i64 a2_1, .string a2_2]) (t := 23) (by first | (go_simp; done) | (go_simp; rfl)) ?_; intro gb213 hg w11 hbox hb; have BK213 := Asd.mk (hbox); have GW213 := Asd.mk (bZ hg HB.out); have GE213 := GW213; have NB212_213 := Asd.mk (bL hg BK212.out); have NB213_212 := Asd.mk (bG hg BK212.out); replace BK212 := Asd.mk (bB hb BK212.out); replace HB := Asd.mk (bS hb HB.out); clear hb hbox hg; have hnb12 := NB212_213.out; have hnc12 := NB213_212.out; obtain ⟨hcz13_0, hcz13_1, hcz13_2⟩ := bkC3 BK212.out; obtain ⟨hfz13_0, hfz13_1, hfz13_2⟩ := bkF3 BK212.out) | ((with_reducible refine gate_callee (f := 91) rfl ?_); refine goesL_ (some 10) rfl rfl Tryd.func91 (by kernel_rfl) rfl #[.agg #[.int .i64 a1_0, .int .i64 a1_1, .string a1_2]] rfl (by (try simp only [List.map_toArray, List.map_cons, List.map_nil]); first | done | rfl | (simp only [List.length_drop, List.length_take]; rfl)) ?_; (with_reducible refine (q01_Right.calls a1_0 a1_1 a1_2 true _ A4.out).mono ?_); rintro e w14 ⟨rfl, hb⟩; refine ⟨_, rfl, ?_⟩; replace BK212 := Asd.mk (bB hb BK212.out); replace BK213 := Asd.mk (bB hb BK213.out); replace HB := Asd.mk (bS hb HB.out); clear hb; obtain ⟨hcz15_0, hcz15_1, hcz15_2⟩ := bkC3 BK213.out; obtain ⟨hfz15_0, hfz15_1, hfz15_2⟩ := bkF3 BK213.out) | ((with_reducible refine gate_callee (f := 91) rfl ?_); refine goesL_ (some 12) rfl rfl Tryd.func91 (by kernel_rfl) rfl #[.agg #[.int .i64 a2_0, .int .i64 a2_1, .string a2_2]] rfl (by (try simp only [List.map_toArray, List.map_cons, List.map_nil]); first | done | rfl | (simp only [List.length_drop, List.length_take]; rfl)) ?_; (with_reducible refine (q01_Right.calls a2_0 a2_1 a2_2 true _ A5.out).mono ?_); rintro e w16 ⟨rfl, hb⟩; refine ⟨_, rfl, ?_⟩; replace BK212 := Asd.mk (bB hb BK212.out); replace BK213 := Asd.mk (bB hb BK213.out); replace HB := Asd.mk (bS hb HB.out); clear hb; obtain ⟨hcz17_0, hcz17_1, hcz17_2⟩ := bkC3 BK212.out; obtain ⟨hfz17_0, hfz17_1, hfz17_2⟩ := bkF3 BK212.out; obtain ⟨hcz18_0, hcz18_1, hcz18_2⟩ := bkC3 BK213.out; obtain ⟨hfz18_0, hfz18_1, hfz18_2⟩ := bkF3 BK213.out))
     go_ret
     exact ⟨by first | rfl | (simp [errW_none, errW_some] <;> rfl) | (simp [*, errW_none, errW_some] <;> rfl), by repeat (first | (with_reducible first | exact HB.out | apply blA | apply pbN | apply blD | refine blS ?_ GE212.out | refine blS ?_ GE213.out) | exact HB.out)⟩
    ·rw [if_neg c9] at H
     have c9b0 : (a2_0 == 0) = false := beq_eq_false_iff_ne.mpr c9
     have c9b1 : (a2_0 != 0) = true := bne_iff_ne.mpr c9
     obtain rfl := Option.some.inj H
     go_enter Tryd.func100, Tryd.ntmps100
     go_wp2_with (first | ((with_reducible refine gate_dst (N := 4) rfl ?_); refine box_event rfl (N := 4) rfl (cs := #[.int .i64 a1_0, .int .i64 a1_1, .string a1_2]) (t := 23) (by first | (go_simp; done) | (go_simp; rfl)) ?_; intro gb212 hg w19 hbox hb; have BK212 := Asd.mk (hbox); have GW212 := Asd.mk (bZ hg HB.out); have GE212 := GW212; replace HB := Asd.mk (bS hb HB.out); clear hb hbox hg) | ((with_reducible refine gate_dst (N := 5) rfl ?_); refine box_event rfl (N := 5) rfl (cs := #[.int .i64 a2_0, .int .i64 a2_1, .string a2_2]) (t := 23) (by first | (go_simp; done) | (go_simp; rfl)) ?_; intro gb213 hg w20 hbox hb; have BK213 := Asd.mk (hbox); have GW213 := Asd.mk (bZ hg HB.out); have GE213 := GW213; have NB212_213 := Asd.mk (bL hg BK212.out); have NB213_212 := Asd.mk (bG hg BK212.out); replace BK212 := Asd.mk (bB hb BK212.out); replace HB := Asd.mk (bS hb HB.out); clear hb hbox hg; have hnb21 := NB212_213.out; have hnc21 := NB213_212.out; obtain ⟨hcz22_0, hcz22_1, hcz22_2⟩ := bkC3 BK212.out; obtain ⟨hfz22_0, hfz22_1, hfz22_2⟩ := bkF3 BK212.out) | ((with_reducible refine gate_callee (f := 91) rfl ?_); refine goesL_ (some 10) rfl rfl Tryd.func91 (by kernel_rfl) rfl #[.agg #[.int .i64 a1_0, .int .i64 a1_1, .string a1_2]] rfl (by (try simp only [List.map_toArray, List.map_cons, List.map_nil]); first | done | rfl | (simp only [List.length_drop, List.length_take]; rfl)) ?_; (with_reducible refine (q01_Right.calls a1_0 a1_1 a1_2 true _ A4.out).mono ?_); rintro e w23 ⟨rfl, hb⟩; refine ⟨_, rfl, ?_⟩; replace BK212 := Asd.mk (bB hb BK212.out); replace BK213 := Asd.mk (bB hb BK213.out); replace HB := Asd.mk (bS hb HB.out); clear hb; obtain ⟨hcz24_0, hcz24_1, hcz24_2⟩ := bkC3 BK213.out; obtain ⟨hfz24_0, hfz24_1, hfz24_2⟩ := bkF3 BK213.out) | ((with_reducible refine gate_callee (f := 91) rfl ?_); refine goesL_ (some 12) rfl rfl Tryd.func91 (by kernel_rfl) rfl #[.agg #[.int .i64 a2_0, .int .i64 a2_1, .string a2_2]] rfl (by (try simp only [List.map_toArray, List.map_cons, List.map_nil]); first | done | rfl | (simp only [List.length_drop, List.length_take]; rfl)) ?_; (with_reducible refine (q01_Right.calls a2_0 a2_1 a2_2 true _ A5.out).mono ?_); rintro e w25 ⟨rfl, hb⟩; refine ⟨_, rfl, ?_⟩; replace BK212 := Asd.mk (bB hb BK212.out); replace BK213 := Asd.mk (bB hb BK213.out); replace HB := Asd.mk (bS hb HB.out); clear hb; obtain ⟨hcz26_0, hcz26_1, hcz26_2⟩ := bkC3 BK212.out; obtain ⟨hfz26_0, hfz26_1, hfz26_2⟩ := bkF3 BK212.out; obtain ⟨hcz27_0, hcz27_1, hcz27_2⟩ := bkC3 BK213.out; obtain ⟨hfz27_0, hfz27_1, hfz27_2⟩ := bkF3 BK213.out))
     go_ret
     exact ⟨by first | rfl | (simp [errW_none, errW_some] <;> rfl) | (simp [*, errW_none, errW_some] <;> rfl), by repeat (first | (with_reducible first | exact HB.out | apply blA | apply pbN | apply blD | refine blS ?_ GE212.out | refine blS ?_ GE213.out) | exact HB.out)⟩
   ·rw [if_neg c8] at H
    have c8b0 : (a1_0 == 0) = false := beq_eq_false_iff_ne.mpr c8
    have c8b1 : (a1_0 != 0) = true := bne_iff_ne.mpr c8
    by_cases c28 : a1_0 = a0
    ·rw [if_pos c28] at H
     have c28b0 : (a1_0 == a0) = true := beq_iff_eq.mpr c28
     have c28b1 : (a1_0 != a0) = false := bne_eq_false_iff_eq.mpr c28
     clear c28
     by_cases c29 : a2_0 = 0
     ·rw [if_pos c29] at H
      have c29b0 : (a2_0 == 0) = true := beq_iff_eq.mpr c29
      have c29b1 : (a2_0 != 0) = false := bne_eq_false_iff_eq.mpr c29
      clear c29
      obtain rfl := Option.some.inj H
      go_enter Tryd.func100, Tryd.ntmps100
      go_wp2_with (first | ((with_reducible refine gate_dst (N := 4) rfl ?_); refine box_event rfl (N := 4) rfl (cs := #[.int .i64 a1_0, .int .i64 a1_1, .string a1_2]) (t := 23) (by first | (go_simp; done) | (go_simp; rfl)) ?_; intro gb212 hg w30 hbox hb; have BK212 := Asd.mk (hbox); have GW212 := Asd.mk (bZ hg HB.out); have GE212 := GW212; replace HB := Asd.mk (bS hb HB.out); clear hb hbox hg) | ((with_reducible refine gate_dst (N := 5) rfl ?_); refine box_event rfl (N := 5) rfl (cs := #[.int .i64 a2_0, .int .i64 a2_1, .string a2_2]) (t := 23) (by first | (go_simp; done) | (go_simp; rfl)) ?_; intro gb213 hg w31 hbox hb; have BK213 := Asd.mk (hbox); have GW213 := Asd.mk (bZ hg HB.out); have GE213 := GW213; have NB212_213 := Asd.mk (bL hg BK212.out); have NB213_212 := Asd.mk (bG hg BK212.out); replace BK212 := Asd.mk (bB hb BK212.out); replace HB := Asd.mk (bS hb HB.out); clear hb hbox hg; have hnb32 := NB212_213.out; have hnc32 := NB213_212.out; obtain ⟨hcz33_0, hcz33_1, hcz33_2⟩ := bkC3 BK212.out; obtain ⟨hfz33_0, hfz33_1, hfz33_2⟩ := bkF3 BK212.out) | ((with_reducible refine gate_callee (f := 91) rfl ?_); refine goesL_ (some 10) rfl rfl Tryd.func91 (by kernel_rfl) rfl #[.agg #[.int .i64 a1_0, .int .i64 a1_1, .string a1_2]] rfl (by (try simp only [List.map_toArray, List.map_cons, List.map_nil]); first | done | rfl | (simp only [List.length_drop, List.length_take]; rfl)) ?_; (with_reducible refine (q01_Right.calls a1_0 a1_1 a1_2 true _ A4.out).mono ?_); rintro e w34 ⟨rfl, hb⟩; refine ⟨_, rfl, ?_⟩; replace BK212 := Asd.mk (bB hb BK212.out); replace BK213 := Asd.mk (bB hb BK213.out); replace HB := Asd.mk (bS hb HB.out); clear hb; obtain ⟨hcz35_0, hcz35_1, hcz35_2⟩ := bkC3 BK213.out; obtain ⟨hfz35_0, hfz35_1, hfz35_2⟩ := bkF3 BK213.out) | ((with_reducible refine gate_callee (f := 91) rfl ?_); refine goesL_ (some 12) rfl rfl Tryd.func91 (by kernel_rfl) rfl #[.agg #[.int .i64 a2_0, .int .i64 a2_1, .string a2_2]] rfl (by (try simp only [List.map_toArray, List.map_cons, List.map_nil]); first | done | rfl | (simp only [List.length_drop, List.length_take]; rfl)) ?_; (with_reducible refine (q01_Right.calls a2_0 a2_1 a2_2 true _ A5.out).mono ?_); rintro e w36 ⟨rfl, hb⟩; refine ⟨_, rfl, ?_⟩; replace BK212 := Asd.mk (bB hb BK212.out); replace BK213 := Asd.mk (bB hb BK213.out); replace HB := Asd.mk (bS hb HB.out); clear hb; obtain ⟨hcz37_0, hcz37_1, hcz37_2⟩ := bkC3 BK212.out; obtain ⟨hfz37_0, hfz37_1, hfz37_2⟩ := bkF3 BK212.out; obtain ⟨hcz38_0, hcz38_1, hcz38_2⟩ := bkC3 BK213.out; obtain ⟨hfz38_0, hfz38_1, hfz38_2⟩ := bkF3 BK213.out))
      go_ret
      exact ⟨by first | rfl | (simp [errW_none, errW_some] <;> rfl) | (simp [*, errW_none, errW_some] <;> rfl), by repeat (first | (with_reducible first | exact HB.out | apply blA | apply pbN | apply blD | refine blS ?_ GE212.out | refine blS ?_ GE213.out) | exact HB.out)⟩
     ·rw [if_neg c29] at H
      have c29b0 : (a2_0 == 0) = false := beq_eq_false_iff_ne.mpr c29
      have c29b1 : (a2_0 != 0) = true := bne_iff_ne.mpr c29
      obtain rfl := Option.some.inj H
      go_enter Tryd.func100, Tryd.ntmps100
      go_wp2_with (first | ((with_reducible refine gate_dst (N := 4) rfl ?_); refine box_event rfl (N := 4) rfl (cs := #[.int .i64 a1_0, .int .i64 a1_1, .string a1_2]) (t := 23) (by first | (go_simp; done) | (go_simp; rfl)) ?_; intro gb212 hg w39 hbox hb; have BK212 := Asd.mk (hbox); have GW212 := Asd.mk (bZ hg HB.out); have GE212 := GW212; replace HB := Asd.mk (bS hb HB.out); clear hb hbox hg) | ((with_reducible refine gate_dst (N := 5) rfl ?_); refine box_event rfl (N := 5) rfl (cs := #[.int .i64 a2_0, .int .i64 a2_1, .string a2_2]) (t := 23) (by first | (go_simp; done) | (go_simp; rfl)) ?_; intro gb213 hg w40 hbox hb; have BK213 := Asd.mk (hbox); have GW213 := Asd.mk (bZ hg HB.out); have GE213 := GW213; have NB212_213 := Asd.mk (bL hg BK212.out); have NB213_212 := Asd.mk (bG hg BK212.out); replace BK212 := Asd.mk (bB hb BK212.out); replace HB := Asd.mk (bS hb HB.out); clear hb hbox hg; have hnb41 := NB212_213.out; have hnc41 := NB213_212.out; obtain ⟨hcz42_0, hcz42_1, hcz42_2⟩ := bkC3 BK212.out; obtain ⟨hfz42_0, hfz42_1, hfz42_2⟩ := bkF3 BK212.out) | ((with_reducible refine gate_callee (f := 91) rfl ?_); refine goesL_ (some 10) rfl rfl Tryd.func91 (by kernel_rfl) rfl #[.agg #[.int .i64 a1_0, .int .i64 a1_1, .string a1_2]] rfl (by (try simp only [List.map_toArray, List.map_cons, List.map_nil]); first | done | rfl | (simp only [List.length_drop, List.length_take]; rfl)) ?_; (with_reducible refine (q01_Right.calls a1_0 a1_1 a1_2 true _ A4.out).mono ?_); rintro e w43 ⟨rfl, hb⟩; refine ⟨_, rfl, ?_⟩; replace BK212 := Asd.mk (bB hb BK212.out); replace BK213 := Asd.mk (bB hb BK213.out); replace HB := Asd.mk (bS hb HB.out); clear hb; obtain ⟨hcz44_0, hcz44_1, hcz44_2⟩ := bkC3 BK213.out; obtain ⟨hfz44_0, hfz44_1, hfz44_2⟩ := bkF3 BK213.out) | ((with_reducible refine gate_callee (f := 91) rfl ?_); refine goesL_ (some 12) rfl rfl Tryd.func91 (by kernel_rfl) rfl #[.agg #[.int .i64 a2_0, .int .i64 a2_1, .string a2_2]] rfl (by (try simp only [List.map_toArray, List.map_cons, List.map_nil]); first | done | rfl | (simp only [List.length_drop, List.length_take]; rfl)) ?_; (with_reducible refine (q01_Right.calls a2_0 a2_1 a2_2 true _ A5.out).mono ?_); rintro e w45 ⟨rfl, hb⟩; refine ⟨_, rfl, ?_⟩; replace BK212 := Asd.mk (bB hb BK212.out); replace BK213 := Asd.mk (bB hb BK213.out); replace HB := Asd.mk (bS hb HB.out); clear hb; obtain ⟨hcz46_0, hcz46_1, hcz46_2⟩ := bkC3 BK212.out; obtain ⟨hfz46_0, hfz46_1, hfz46_2⟩ := bkF3 BK212.out; obtain ⟨hcz47_0, hcz47_1, hcz47_2⟩ := bkC3 BK213.out; obtain ⟨hfz47_0, hfz47_1, hfz47_2⟩ := bkF3 BK213.out))
      go_ret
      exact ⟨by first | rfl | (simp [errW_none, errW_some] <;> rfl) | (simp [*, errW_none, errW_some] <;> rfl), by repeat (first | (with_reducible first | exact HB.out | apply blA | apply pbN | apply blD | refine blS ?_ GE212.out | refine blS ?_ GE213.out) | exact HB.out)⟩
    ·rw [if_neg c28] at H
     have c28b0 : (a1_0 == a0) = false := beq_eq_false_iff_ne.mpr c28
     have c28b1 : (a1_0 != a0) = true := bne_iff_ne.mpr c28
     obtain rfl := Option.some.inj H
     go_enter Tryd.func100, Tryd.ntmps100
     go_wp2_with (first | ((with_reducible refine gate_dst (N := 4) rfl ?_); refine box_event rfl (N := 4) rfl (cs := #[.int .i64 a1_0, .int .i64 a1_1, .string a1_2]) (t := 23) (by first | (go_simp; done) | (go_simp; rfl)) ?_; intro gb212 hg w48 hbox hb; have BK212 := Asd.mk (hbox); have GW212 := Asd.mk (bZ hg HB.out); have GE212 := GW212; replace HB := Asd.mk (bS hb HB.out); clear hb hbox hg) | ((with_reducible refine gate_dst (N := 5) rfl ?_); refine box_event rfl (N := 5) rfl (cs := #[.int .i64 a2_0, .int .i64 a2_1, .string a2_2]) (t := 23) (by first | (go_simp; done) | (go_simp; rfl)) ?_; intro gb213 hg w49 hbox hb; have BK213 := Asd.mk (hbox); have GW213 := Asd.mk (bZ hg HB.out); have GE213 := GW213; have NB212_213 := Asd.mk (bL hg BK212.out); have NB213_212 := Asd.mk (bG hg BK212.out); replace BK212 := Asd.mk (bB hb BK212.out); replace HB := Asd.mk (bS hb HB.out); clear hb hbox hg; have hnb50 := NB212_213.out; have hnc50 := NB213_212.out; obtain ⟨hcz51_0, hcz51_1, hcz51_2⟩ := bkC3 BK212.out; obtain ⟨hfz51_0, hfz51_1, hfz51_2⟩ := bkF3 BK212.out) | ((with_reducible refine gate_callee (f := 91) rfl ?_); refine goesL_ (some 10) rfl rfl Tryd.func91 (by kernel_rfl) rfl #[.agg #[.int .i64 a1_0, .int .i64 a1_1, .string a1_2]] rfl (by (try simp only [List.map_toArray, List.map_cons, List.map_nil]); first | done | rfl | (simp only [List.length_drop, List.length_take]; rfl)) ?_; (with_reducible refine (q01_Right.calls a1_0 a1_1 a1_2 true _ A4.out).mono ?_); rintro e w52 ⟨rfl, hb⟩; refine ⟨_, rfl, ?_⟩; replace BK212 := Asd.mk (bB hb BK212.out); replace BK213 := Asd.mk (bB hb BK213.out); replace HB := Asd.mk (bS hb HB.out); clear hb; obtain ⟨hcz53_0, hcz53_1, hcz53_2⟩ := bkC3 BK213.out; obtain ⟨hfz53_0, hfz53_1, hfz53_2⟩ := bkF3 BK213.out) | ((with_reducible refine gate_callee (f := 91) rfl ?_); refine goesL_ (some 12) rfl rfl Tryd.func91 (by kernel_rfl) rfl #[.agg #[.int .i64 a2_0, .int .i64 a2_1, .string a2_2]] rfl (by (try simp only [List.map_toArray, List.map_cons, List.map_nil]); first | done | rfl | (simp only [List.length_drop, List.length_take]; rfl)) ?_; (with_reducible refine (q01_Right.calls a2_0 a2_1 a2_2 true _ A5.out).mono ?_); rintro e w54 ⟨rfl, hb⟩; refine ⟨_, rfl, ?_⟩; replace BK212 := Asd.mk (bB hb BK212.out); replace BK213 := Asd.mk (bB hb BK213.out); replace HB := Asd.mk (bS hb HB.out); clear hb; obtain ⟨hcz55_0, hcz55_1, hcz55_2⟩ := bkC3 BK212.out; obtain ⟨hfz55_0, hfz55_1, hfz55_2⟩ := bkF3 BK212.out))
     go_ret
     exact ⟨by first | rfl | (simp [errW_none, errW_some] <;> rfl) | (simp [*, errW_none, errW_some] <;> rfl), by repeat (first | (with_reducible first | exact HB.out | apply blA | apply pbN | apply blD | refine blS ?_ GE212.out | refine blS ?_ GE213.out) | exact HB.out)⟩
  ·replace c7 := Bool.eq_false_iff.mpr c7
   subst c7
   have H1 : (some false) = some r := by rw [if_neg (show ¬ (false = true) by decide)] at H; exact H
   clear H
   have H := H1
   clear H1
   obtain rfl := Option.some.inj H
   go_enter Tryd.func100, Tryd.ntmps100
   go_wp2_with (first | ((with_reducible refine gate_dst (N := 4) rfl ?_); refine box_event rfl (N := 4) rfl (cs := #[.int .i64 a1_0, .int .i64 a1_1, .string a1_2]) (t := 23) (by first | (go_simp; done) | (go_simp; rfl)) ?_; intro gb212 hg w56 hbox hb; have BK212 := Asd.mk (hbox); have GW212 := Asd.mk (bZ hg HB.out); have GE212 := GW212; replace HB := Asd.mk (bS hb HB.out); clear hb hbox hg) | ((with_reducible refine gate_dst (N := 5) rfl ?_); refine box_event rfl (N := 5) rfl (cs := #[.int .i64 a2_0, .int .i64 a2_1, .string a2_2]) (t := 23) (by first | (go_simp; done) | (go_simp; rfl)) ?_; intro gb213 hg w57 hbox hb; have BK213 := Asd.mk (hbox); have GW213 := Asd.mk (bZ hg HB.out); have GE213 := GW213; have NB212_213 := Asd.mk (bL hg BK212.out); have NB213_212 := Asd.mk (bG hg BK212.out); replace BK212 := Asd.mk (bB hb BK212.out); replace HB := Asd.mk (bS hb HB.out); clear hb hbox hg; have hnb58 := NB212_213.out; have hnc58 := NB213_212.out; obtain ⟨hcz59_0, hcz59_1, hcz59_2⟩ := bkC3 BK212.out; obtain ⟨hfz59_0, hfz59_1, hfz59_2⟩ := bkF3 BK212.out) | ((with_reducible refine gate_callee (f := 91) rfl ?_); refine goesL_ (some 10) rfl rfl Tryd.func91 (by kernel_rfl) rfl #[.agg #[.int .i64 a1_0, .int .i64 a1_1, .string a1_2]] rfl (by (try simp only [List.map_toArray, List.map_cons, List.map_nil]); first | done | rfl | (simp only [List.length_drop, List.length_take]; rfl)) ?_; (with_reducible refine (q01_Right.calls a1_0 a1_1 a1_2 true _ A4.out).mono ?_); rintro e w60 ⟨rfl, hb⟩; refine ⟨_, rfl, ?_⟩; replace BK212 := Asd.mk (bB hb BK212.out); replace BK213 := Asd.mk (bB hb BK213.out); replace HB := Asd.mk (bS hb HB.out); clear hb; obtain ⟨hcz61_0, hcz61_1, hcz61_2⟩ := bkC3 BK213.out; obtain ⟨hfz61_0, hfz61_1, hfz61_2⟩ := bkF3 BK213.out) | ((with_reducible refine gate_callee (f := 91) rfl ?_); refine goesL_ (some 12) rfl rfl Tryd.func91 (by kernel_rfl) rfl #[.agg #[.int .i64 a2_0, .int .i64 a2_1, .string a2_2]] rfl (by (try simp only [List.map_toArray, List.map_cons, List.map_nil]); first | done | rfl | (simp only [List.length_drop, List.length_take]; rfl)) ?_; (with_reducible refine (q01_Right.calls a2_0 a2_1 a2_2 false _ A5.out).mono ?_); rintro e w62 ⟨rfl, hb⟩; refine ⟨_, rfl, ?_⟩; replace BK212 := Asd.mk (bB hb BK212.out); replace BK213 := Asd.mk (bB hb BK213.out); replace HB := Asd.mk (bS hb HB.out); clear hb))
   go_ret
   exact ⟨by first | rfl | (simp [errW_none, errW_some] <;> rfl) | (simp [*, errW_none, errW_some] <;> rfl), by repeat (first | (with_reducible first | exact HB.out | apply blA | apply pbN | apply blD | refine blS ?_ GE212.out | refine blS ?_ GE213.out) | exact HB.out)⟩
 ·replace c6 := Bool.eq_false_iff.mpr c6
  subst c6
  have H1 : (some false) = some r := by rw [if_neg (show ¬ (false = true) by decide)] at H; exact H
  clear H
  have H := H1
  clear H1
  obtain rfl := Option.some.inj H
  go_enter Tryd.func100, Tryd.ntmps100
  go_wp2_with (first | ((with_reducible refine gate_dst (N := 4) rfl ?_); refine box_event rfl (N := 4) rfl (cs := #[.int .i64 a1_0, .int .i64 a1_1, .string a1_2]) (t := 23) (by first | (go_simp; done) | (go_simp; rfl)) ?_; intro gb212 hg w63 hbox hb; have BK212 := Asd.mk (hbox); have GW212 := Asd.mk (bZ hg HB.out); have GE212 := GW212; replace HB := Asd.mk (bS hb HB.out); clear hb hbox hg) | ((with_reducible refine gate_dst (N := 5) rfl ?_); refine box_event rfl (N := 5) rfl (cs := #[.int .i64 a2_0, .int .i64 a2_1, .string a2_2]) (t := 23) (by first | (go_simp; done) | (go_simp; rfl)) ?_; intro gb213 hg w64 hbox hb; have BK213 := Asd.mk (hbox); have GW213 := Asd.mk (bZ hg HB.out); have GE213 := GW213; have NB212_213 := Asd.mk (bL hg BK212.out); have NB213_212 := Asd.mk (bG hg BK212.out); replace BK212 := Asd.mk (bB hb BK212.out); replace HB := Asd.mk (bS hb HB.out); clear hb hbox hg; have hnb65 := NB212_213.out; have hnc65 := NB213_212.out; obtain ⟨hcz66_0, hcz66_1, hcz66_2⟩ := bkC3 BK212.out; obtain ⟨hfz66_0, hfz66_1, hfz66_2⟩ := bkF3 BK212.out) | ((with_reducible refine gate_callee (f := 91) rfl ?_); refine goesL_ (some 10) rfl rfl Tryd.func91 (by kernel_rfl) rfl #[.agg #[.int .i64 a1_0, .int .i64 a1_1, .string a1_2]] rfl (by (try simp only [List.map_toArray, List.map_cons, List.map_nil]); first | done | rfl | (simp only [List.length_drop, List.length_take]; rfl)) ?_; (with_reducible refine (q01_Right.calls a1_0 a1_1 a1_2 false _ A4.out).mono ?_); rintro e w67 ⟨rfl, hb⟩; refine ⟨_, rfl, ?_⟩; replace BK212 := Asd.mk (bB hb BK212.out); replace BK213 := Asd.mk (bB hb BK213.out); replace HB := Asd.mk (bS hb HB.out); clear hb; obtain ⟨hcz68_0, hcz68_1, hcz68_2⟩ := bkC3 BK213.out; obtain ⟨hfz68_0, hfz68_1, hfz68_2⟩ := bkF3 BK213.out) | ((with_reducible refine gate_callee (f := 91) rfl ?_); refine goesL_ (some 12) rfl rfl Tryd.func91 (by kernel_rfl) rfl #[.agg #[.int .i64 a2_0, .int .i64 a2_1, .string a2_2]] rfl (by (try simp only [List.map_toArray, List.map_cons, List.map_nil]); first | done | rfl | (simp only [List.length_drop, List.length_take]; rfl)) ?_; (with_reducible refine (q01_Right.calls a2_0 a2_1 a2_2 t215 _ A5.out).mono ?_); rintro e w69 ⟨rfl, hb⟩; refine ⟨_, rfl, ?_⟩; replace BK212 := Asd.mk (bB hb BK212.out); replace BK213 := Asd.mk (bB hb BK213.out); replace HB := Asd.mk (bS hb HB.out); clear hb))
  go_ret
  exact ⟨by first | rfl | (simp [errW_none, errW_some] <;> rfl) | (simp [*, errW_none, errW_some] <;> rfl), by repeat (first | (with_reducible first | exact HB.out | apply blA | apply pbN | apply blD | refine blS ?_ GE212.out | refine blS ?_ GE213.out) | exact HB.out)⟩
def q01_Add.j0 : Nat → Bool → Int → Int → ByteArray → Int → Int → ByteArray → Option (Int × Int × ByteArray × Int)
 | 0, _, _, _, _, _, _, _ => none
 | k + 1, x20, x218000, x218001, x218002, x219000, x219001, x219002 => if x20 = true then (some (0, 0, (⟨#[]⟩ : ByteArray), 0)) else (if x219001 > 0 then (if x218001 > (wrap64 (9223372036854775807 - x219001)) then (some (0, 0, (⟨#[]⟩ : ByteArray), 3)) else (if x219001 < 0 then (if x218001 < (wrap64 ((-9223372036854775808) - x219001)) then (some (0, 0, (⟨#[]⟩ : ByteArray), 3)) else ((q01_one.f (wrap64 (x218001 + x219001))).bind fun bt221 => (some (bt221.1, bt221.2.1, bt221.2.2, 0)))) else ((q01_one.f (wrap64 (x218001 + x219001))).bind fun bt224 => (some (bt224.1, bt224.2.1, bt224.2.2, 0))))) else (if x219001 < 0 then (if x218001 < (wrap64 ((-9223372036854775808) - x219001)) then (some (0, 0, (⟨#[]⟩ : ByteArray), 3)) else ((q01_one.f (wrap64 (x218001 + x219001))).bind fun bt227 => (some (bt227.1, bt227.2.1, bt227.2.2, 0)))) else ((q01_one.f (wrap64 (x218001 + x219001))).bind fun bt230 => (some (bt230.1, bt230.2.1, bt230.2.2, 0)))))
def q01_Add.f (k : Nat) (a0_0 : Int) (a0_1 : Int) (a0_2 : ByteArray) (a1_0 : Int) (a1_1 : Int) (a1_2 : ByteArray) : Option (Int × Int × ByteArray × Int) := (q01_of.f 1 a0_0 a0_1 a0_2 a1_0 a1_1 a1_2).bind fun t220 => (if t220 = true then (if a0_0 = 0 then (q01_Add.j0 k true a0_0 a0_1 a0_2 a1_0 a1_1 a1_2) else (q01_Add.j0 k (a1_0 == 0) a0_0 a0_1 a0_2 a1_0 a1_1 a1_2)) else (some (0, 0, (⟨#[]⟩ : ByteArray), 1)))
set_option maxHeartbeats 8000000 in
set_option maxRecDepth 100000 in
theorem q01_Add.calls (k : Nat) (a0_0 : Int) (a0_1 : Int) (a0_2 : ByteArray) (a1_0 : Int) (a1_1 : Int) (a1_2 : ByteArray) (r1 : Int) (r2 : Int) (r3 : ByteArray) (r4 : Int) (w : World) (h : q01_Add.f k a0_0 a0_1 a0_2 a1_0 a1_1 a1_2 = some (r1, r2, r3, r4)) :
  Calls Tryd.prog 74 #[.agg #[.int .i64 a0_0, .int .i64 a0_1, .string a0_2], .agg #[.int .i64 a1_0, .int .i64 a1_1, .string a1_2]] w fun e w' => e = .returned (.tuple #[.agg #[.int .i64 r1, .int .i64 r2, .string r3], .int .i64 r4]) ∧ Below w.heap.size w w' := by
 have hu23 := Tryd.underlying23
 have HB := Asd.mk (Below.refl w.heap.size w)
 have H : ((q01_of.f 1 a0_0 a0_1 a0_2 a1_0 a1_1 a1_2).bind fun t220 => (if t220 = true then (if a0_0 = 0 then (q01_Add.j0 k true a0_0 a0_1 a0_2 a1_0 a1_1 a1_2) else (q01_Add.j0 k (a1_0 == 0) a0_0 a0_1 a0_2 a1_0 a1_1 a1_2)) else (some (0, 0, (⟨#[]⟩ : ByteArray), 1)))) = some (r1, r2, r3, r4) := h
 clear h
 replace H := Option.bind_eq_some_iff.mp H
 obtain ⟨t220, A30, H⟩ := H
 replace H : (if t220 = true then (if a0_0 = 0 then (q01_Add.j0 k true a0_0 a0_1 a0_2 a1_0 a1_1 a1_2) else (q01_Add.j0 k (a1_0 == 0) a0_0 a0_1 a0_2 a1_0 a1_1 a1_2)) else (some (0, 0, (⟨#[]⟩ : ByteArray), 1))) = some (r1, r2, r3, r4) := H
 have A3 := Asd.mk A30
 clear A30
 by_cases c4 : t220 = true
 ·subst c4
  have H1 : (if a0_0 = 0 then (q01_Add.j0 k true a0_0 a0_1 a0_2 a1_0 a1_1 a1_2) else (q01_Add.j0 k (a1_0 == 0) a0_0 a0_1 a0_2 a1_0 a1_1 a1_2)) = some (r1, r2, r3, r4) := by rw [if_pos rfl] at H; exact H
  clear H
  have H := H1
  clear H1
  have HC5 := Asd.mk H
  clear H
  go_enter Tryd.func74, Tryd.ntmps74
  go_upto_region 4 with (first | ((with_reducible refine gate_dst (N := 2) rfl ?_); refine box_event rfl (N := 2) rfl (cs := #[.int .i64 a0_0, .int .i64 a0_1, .string a0_2]) (t := 23) (by first | (go_simp; done) | (go_simp; rfl)) ?_; intro gb217 hg w6 hbox hb; have BK217 := Asd.mk (hbox); have GW217 := Asd.mk (bZ hg HB.out); have GE217 := GW217; replace HB := Asd.mk (bS hb HB.out); clear hb hbox hg) | ((with_reducible refine gate_dst (N := 3) rfl ?_); refine box_event rfl (N := 3) rfl (cs := #[.int .i64 a1_0, .int .i64 a1_1, .string a1_2]) (t := 23) (by first | (go_simp; done) | (go_simp; rfl)) ?_; intro gb218 hg w7 hbox hb; have BK218 := Asd.mk (hbox); have GW218 := Asd.mk (bZ hg HB.out); have GE218 := GW218; have NB217_218 := Asd.mk (bL hg BK217.out); have NB218_217 := Asd.mk (bG hg BK217.out); replace BK217 := Asd.mk (bB hb BK217.out); replace HB := Asd.mk (bS hb HB.out); clear hb hbox hg) | ((with_reducible refine gate_dst (N := 4) rfl ?_); refine box_event rfl (N := 4) rfl (cs := #[.int .i64 0, .int .i64 0, .string (⟨#[]⟩ : ByteArray)]) (t := 23) (by first | (go_simp; done) | (go_simp; rfl)) ?_; intro gb219 hg w8 hbox hb; have BK219 := Asd.mk (hbox); have GW219 := Asd.mk (bZ hg HB.out); have GE219 := GW219; have NB217_219 := Asd.mk (bL hg BK217.out); have NB219_217 := Asd.mk (bG hg BK217.out); have NB218_219 := Asd.mk (bL hg BK218.out); have NB219_218 := Asd.mk (bG hg BK218.out); replace BK217 := Asd.mk (bB hb BK217.out); replace BK218 := Asd.mk (bB hb BK218.out); replace HB := Asd.mk (bS hb HB.out); clear hb hbox hg; have hnb9 := NB217_218.out; have hnc9 := NB218_217.out; have hnb10 := NB217_219.out; have hnc10 := NB219_217.out; obtain ⟨hcz11_0, hcz11_1, hcz11_2⟩ := bkC3 BK217.out; obtain ⟨hfz11_0, hfz11_1, hfz11_2⟩ := bkF3 BK217.out; have hnb12 := NB218_219.out; have hnc12 := NB219_218.out; obtain ⟨hcz13_0, hcz13_1, hcz13_2⟩ := bkC3 BK218.out; obtain ⟨hfz13_0, hfz13_1, hfz13_2⟩ := bkF3 BK218.out) | ((with_reducible refine gate_callee (f := 100) rfl ?_); refine goesL_ (some 9) rfl rfl Tryd.func100 (by kernel_rfl) rfl #[.int .i64 1, .agg #[.int .i64 a0_0, .int .i64 a0_1, .string a0_2], .agg #[.int .i64 a1_0, .int .i64 a1_1, .string a1_2]] rfl (by (try simp only [List.map_toArray, List.map_cons, List.map_nil]); first | done | rfl | (simp only [List.length_drop, List.length_take]; rfl)) ?_; (with_reducible refine (q01_of.calls 1 a0_0 a0_1 a0_2 a1_0 a1_1 a1_2 true _ A3.out).mono ?_); rintro e w14 ⟨rfl, hb⟩; refine ⟨_, rfl, ?_⟩; replace BK217 := Asd.mk (bB hb BK217.out); replace BK218 := Asd.mk (bB hb BK218.out); replace BK219 := Asd.mk (bB hb BK219.out); replace HB := Asd.mk (bS hb HB.out); clear hb))
  (try simp only [Act.put, List.setIfInBounds_toArray, List.set_cons_zero, List.set_cons_succ])
  go_cut [20] (fun v20 wc => ∃ (kq : Nat) (x20_4 : Bool), v20 = .bool x20_4 ∧ Asd (q01_Add.j0 kq x20_4 a0_0 a0_1 a0_2 a1_0 a1_1 a1_2 = some (r1, r2, r3, r4)) ∧ Asd (kq ≤ k) ∧ Asd (wc.heap[gb217]? = some (.cells #[.int .i64 a0_0, .int .i64 a0_1, .string a0_2] 23 (0, 0))) ∧ Asd (wc.heap[gb218]? = some (.cells #[.int .i64 a1_0, .int .i64 a1_1, .string a1_2] 23 (0, 0))) ∧ Asd (wc.heap[gb219]? = some (.cells #[.int .i64 0, .int .i64 0, .string (⟨#[]⟩ : ByteArray)] 23 (0, 0))) ∧ Asd (Below w.heap.size w wc))
  case first =>
   have H := HC5.out
   clear HC5
   by_cases c15 : a0_0 = 0
   ·rw [if_pos c15] at H
    have c15b0 : (a0_0 == 0) = true := beq_iff_eq.mpr c15
    have c15b1 : (a0_0 != 0) = false := bne_eq_false_iff_eq.mpr c15
    clear c15
    (first | rw [c15b0] | (simp only [i64_w, i32_w]; rw [c15b0]) | skip)
    have H' := Asd.mk H
    clear H
    have hnb16 := NB217_218.out
    have hnc16 := NB218_217.out
    have hnb17 := NB217_219.out
    have hnc17 := NB219_217.out
    obtain ⟨hcz18_0, hcz18_1, hcz18_2⟩ := bkC3 BK217.out
    obtain ⟨hfz18_0, hfz18_1, hfz18_2⟩ := bkF3 BK217.out
    go_wp2
    go_meet
    case rel => exact ⟨_, (true), (by first | rfl | (simp; done) | (simp [*]; done)), H', ⟨by first | omega | exact Nat.le_refl _⟩, ⟨by exact BK217.out⟩, ⟨by exact BK218.out⟩, ⟨by exact BK219.out⟩, ⟨by repeat (first | (with_reducible first | exact HB.out | apply blA | apply pbN | apply blD | refine blS ?_ GE217.out | refine blS ?_ GE218.out | refine blS ?_ GE219.out) | exact HB.out)⟩⟩
   ·rw [if_neg c15] at H
    have c15b0 : (a0_0 == 0) = false := beq_eq_false_iff_ne.mpr c15
    have c15b1 : (a0_0 != 0) = true := bne_iff_ne.mpr c15
    (first | rw [c15b0] | (simp only [i64_w, i32_w]; rw [c15b0]) | skip)
    have H' := Asd.mk H
    clear H
    have hnb19 := NB217_218.out
    have hnc19 := NB218_217.out
    have hnb20 := NB217_219.out
    have hnc20 := NB219_217.out
    obtain ⟨hcz21_0, hcz21_1, hcz21_2⟩ := bkC3 BK217.out
    obtain ⟨hfz21_0, hfz21_1, hfz21_2⟩ := bkF3 BK217.out
    have hnb22 := NB218_219.out
    have hnc22 := NB219_218.out
    obtain ⟨hcz23_0, hcz23_1, hcz23_2⟩ := bkC3 BK218.out
    obtain ⟨hfz23_0, hfz23_1, hfz23_2⟩ := bkF3 BK218.out
    go_wp2
    go_meet
    case rel => exact ⟨_, ((a1_0 == 0)), (by first | rfl | (simp; done) | (simp [*]; done)), H', ⟨by first | omega | exact Nat.le_refl _⟩, ⟨by exact BK217.out⟩, ⟨by exact BK218.out⟩, ⟨by exact BK219.out⟩, ⟨by repeat (first | (with_reducible first | exact HB.out | apply blA | apply pbN | apply blD | refine blS ?_ GE217.out | refine blS ?_ GE218.out | refine blS ?_ GE219.out) | exact HB.out)⟩⟩
  case rest =>
   clear HC5
   try clear c1
   try clear c2
   try clear p2
   try clear c4
   try clear c7
   try clear c9
   try clear c10
   try clear c12
   try clear c15
   try clear c15b0
   try clear c15b1
   try clear c16
   try clear c17
   try clear c19
   try clear c20
   try clear c22
   try clear hcz11_0
   try clear hcz11_1
   try clear hcz11_2
   try clear hcz13_0
   try clear hcz13_1
   try clear hcz13_2
   try clear hcz18_0
   try clear hcz18_1
   try clear hcz18_2
   try clear hcz21_0
   try clear hcz21_1
   try clear hcz21_2
   try clear hcz23_0
   try clear hcz23_1
   try clear hcz23_2
   try clear hfz11_0
   try clear hfz11_1
   try clear hfz11_2
   try clear hfz13_0
   try clear hfz13_1
   try clear hfz13_2
   try clear hfz18_0
   try clear hfz18_1
   try clear hfz18_2
   try clear hfz21_0
   try clear hfz21_1
   try clear hfz21_2
   try clear hfz23_0
   try clear hfz23_1
   try clear hfz23_2
   obtain ⟨kq, x20_4, rfl, HA, HJ4, BK217, BK218, BK219, HB⟩ := hcut
   cases kq with
   | zero => exact absurd HA.out (by simp [q01_Add.j0])
   | succ kj4 =>
    have H := HA.out
    clear HA
    simp only [q01_Add.j0] at H
    by_cases c24 : x20_4 = true
    ·subst c24
     have H1 : (some (0, 0, (⟨#[]⟩ : ByteArray), 0)) = some (r1, r2, r3, r4) := by rw [if_pos rfl] at H; exact H
     clear H
     have H := H1
     clear H1
     simp only [Option.some.injEq, Prod.mk.injEq] at H
     obtain ⟨rfl, rfl, rfl, rfl⟩ := H
     have hnb25 := NB219_217.out
     have hnc25 := NB217_219.out
     have hnb26 := NB219_218.out
     have hnc26 := NB218_219.out
     obtain ⟨hcz27_0, hcz27_1, hcz27_2⟩ := bkC3 BK219.out
     obtain ⟨hfz27_0, hfz27_1, hfz27_2⟩ := bkF3 BK219.out
     go_wp2
     refine bodyPost_ret (results_ct rfl _ _ gb219 23 #[.int .i64 0, .int .i64 0, .string (⟨#[]⟩ : ByteArray)] (0, 0) _ rfl (by refine blk_put (cs := #[.int .i64 0, .int .i64 0, .string (⟨#[]⟩ : ByteArray)]) ?_ 2 _ rfl; refine blk_put (cs := #[.int .i64 0, .int .i64 0, .string (⟨#[]⟩ : ByteArray)]) ?_ 1 _ rfl; refine blk_put (cs := #[.int .i64 0, .int .i64 0, .string (⟨#[]⟩ : ByteArray)]) ?_ 0 _ rfl; exact BK219.out) Tryd.underlying23 rfl (by kernel_rfl)) rfl ?_
     exact ⟨by first | rfl | (simp [errW_none, errW_some] <;> rfl) | (simp [*, errW_none, errW_some] <;> rfl), by repeat (first | (with_reducible first | exact HB.out | apply blA | apply pbN | apply blD | refine blS ?_ GE217.out | refine blS ?_ GE218.out | refine blS ?_ GE219.out) | exact HB.out)⟩
    ·replace c24 := Bool.eq_false_iff.mpr c24
     subst c24
     have H1 : (if a1_1 > 0 then (if a0_1 > (wrap64 (9223372036854775807 - a1_1)) then (some (0, 0, (⟨#[]⟩ : ByteArray), 3)) else (if a1_1 < 0 then (if a0_1 < (wrap64 ((-9223372036854775808) - a1_1)) then (some (0, 0, (⟨#[]⟩ : ByteArray), 3)) else ((q01_one.f (wrap64 (a0_1 + a1_1))).bind fun bt221 => (some (bt221.1, bt221.2.1, bt221.2.2, 0)))) else ((q01_one.f (wrap64 (a0_1 + a1_1))).bind fun bt224 => (some (bt224.1, bt224.2.1, bt224.2.2, 0))))) else (if a1_1 < 0 then (if a0_1 < (wrap64 ((-9223372036854775808) - a1_1)) then (some (0, 0, (⟨#[]⟩ : ByteArray), 3)) else ((q01_one.f (wrap64 (a0_1 + a1_1))).bind fun bt227 => (some (bt227.1, bt227.2.1, bt227.2.2, 0)))) else ((q01_one.f (wrap64 (a0_1 + a1_1))).bind fun bt230 => (some (bt230.1, bt230.2.1, bt230.2.2, 0))))) = some (r1, r2, r3, r4) := by rw [if_neg (show ¬ (false = true) by decide)] at H; exact H
     clear H
     have H := H1
     clear H1
     by_cases c28 : a1_1 > 0
     ·rw [if_pos c28] at H
      have c28b0 : decide (0 < a1_1) = true := decide_eq_true c28
      clear c28
      by_cases c29 : a0_1 > (wrap64 (9223372036854775807 - a1_1))
      ·rw [if_pos c29] at H
       have c29b0 : decide ((wrap64 (9223372036854775807 - a1_1)) < a0_1) = true := decide_eq_true c29
       clear c29
       simp only [Option.some.injEq, Prod.mk.injEq] at H
       obtain ⟨rfl, rfl, rfl, rfl⟩ := H
       have hnb30 := NB218_217.out
       have hnc30 := NB217_218.out
       have hnb31 := NB218_219.out
       have hnc31 := NB219_218.out
       obtain ⟨hcz32_0, hcz32_1, hcz32_2⟩ := bkC3 BK218.out
       obtain ⟨hfz32_0, hfz32_1, hfz32_2⟩ := bkF3 BK218.out
       have hnb33 := NB217_219.out
       have hnc33 := NB219_217.out
       obtain ⟨hcz34_0, hcz34_1, hcz34_2⟩ := bkC3 BK217.out
       obtain ⟨hfz34_0, hfz34_1, hfz34_2⟩ := bkF3 BK217.out
       obtain ⟨hcz35_0, hcz35_1, hcz35_2⟩ := bkC3 BK219.out
       obtain ⟨hfz35_0, hfz35_1, hfz35_2⟩ := bkF3 BK219.out
       go_wp2
       refine bodyPost_ret (results_ct rfl _ _ gb219 23 #[.int .i64 0, .int .i64 0, .string (⟨#[]⟩ : ByteArray)] (0, 0) _ rfl (by refine blk_put (cs := #[.int .i64 0, .int .i64 0, .string (⟨#[]⟩ : ByteArray)]) ?_ 2 _ rfl; refine blk_put (cs := #[.int .i64 0, .int .i64 0, .string (⟨#[]⟩ : ByteArray)]) ?_ 1 _ rfl; refine blk_put (cs := #[.int .i64 0, .int .i64 0, .string (⟨#[]⟩ : ByteArray)]) ?_ 0 _ rfl; exact BK219.out) Tryd.underlying23 rfl (by kernel_rfl)) rfl ?_
       exact ⟨by first | rfl | (simp [errW_none, errW_some] <;> rfl) | (simp [*, errW_none, errW_some] <;> rfl), by repeat (first | (with_reducible first | exact HB.out | apply blA | apply pbN | apply blD | refine blS ?_ GE217.out | refine blS ?_ GE218.out | refine blS ?_ GE219.out) | exact HB.out)⟩
      ·rw [if_neg c29] at H
       have c29b0 : decide ((wrap64 (9223372036854775807 - a1_1)) < a0_1) = false := decide_eq_false c29
       clear c29
       by_cases c36 : a1_1 < 0
       ·rw [if_pos c36] at H
        have c36b0 : decide (a1_1 < 0) = true := decide_eq_true c36
        clear c36
        by_cases c37 : a0_1 < (wrap64 ((-9223372036854775808) - a1_1))
        ·rw [if_pos c37] at H
         have c37b0 : decide (a0_1 < (wrap64 ((-9223372036854775808) - a1_1))) = true := decide_eq_true c37
         clear c37
         simp only [Option.some.injEq, Prod.mk.injEq] at H
         obtain ⟨rfl, rfl, rfl, rfl⟩ := H
         have hnb38 := NB218_217.out
         have hnc38 := NB217_218.out
         have hnb39 := NB218_219.out
         have hnc39 := NB219_218.out
         obtain ⟨hcz40_0, hcz40_1, hcz40_2⟩ := bkC3 BK218.out
         obtain ⟨hfz40_0, hfz40_1, hfz40_2⟩ := bkF3 BK218.out
         have hnb41 := NB217_219.out
         have hnc41 := NB219_217.out
         obtain ⟨hcz42_0, hcz42_1, hcz42_2⟩ := bkC3 BK217.out
         obtain ⟨hfz42_0, hfz42_1, hfz42_2⟩ := bkF3 BK217.out
         obtain ⟨hcz43_0, hcz43_1, hcz43_2⟩ := bkC3 BK219.out
         obtain ⟨hfz43_0, hfz43_1, hfz43_2⟩ := bkF3 BK219.out
         go_wp2
         refine bodyPost_ret (results_ct rfl _ _ gb219 23 #[.int .i64 0, .int .i64 0, .string (⟨#[]⟩ : ByteArray)] (0, 0) _ rfl (by refine blk_put (cs := #[.int .i64 0, .int .i64 0, .string (⟨#[]⟩ : ByteArray)]) ?_ 2 _ rfl; refine blk_put (cs := #[.int .i64 0, .int .i64 0, .string (⟨#[]⟩ : ByteArray)]) ?_ 1 _ rfl; refine blk_put (cs := #[.int .i64 0, .int .i64 0, .string (⟨#[]⟩ : ByteArray)]) ?_ 0 _ rfl; exact BK219.out) Tryd.underlying23 rfl (by kernel_rfl)) rfl ?_
         exact ⟨by first | rfl | (simp [errW_none, errW_some] <;> rfl) | (simp [*, errW_none, errW_some] <;> rfl), by repeat (first | (with_reducible first | exact HB.out | apply blA | apply pbN | apply blD | refine blS ?_ GE217.out | refine blS ?_ GE218.out | refine blS ?_ GE219.out) | exact HB.out)⟩
        ·rw [if_neg c37] at H
         have c37b0 : decide (a0_1 < (wrap64 ((-9223372036854775808) - a1_1))) = false := decide_eq_false c37
         clear c37
         replace H := Option.bind_eq_some_iff.mp H
         obtain ⟨⟨t221, t222, t223⟩, A440, H⟩ := H
         replace H : (some (t221, t222, t223, 0)) = some (r1, r2, r3, r4) := H
         have A44 := Asd.mk A440
         clear A440
         simp only [Option.some.injEq, Prod.mk.injEq] at H
         obtain ⟨rfl, rfl, rfl, rfl⟩ := H
         have hnb45 := NB218_217.out
         have hnc45 := NB217_218.out
         have hnb46 := NB218_219.out
         have hnc46 := NB219_218.out
         obtain ⟨hcz47_0, hcz47_1, hcz47_2⟩ := bkC3 BK218.out
         obtain ⟨hfz47_0, hfz47_1, hfz47_2⟩ := bkF3 BK218.out
         have hnb48 := NB217_219.out
         have hnc48 := NB219_217.out
         obtain ⟨hcz49_0, hcz49_1, hcz49_2⟩ := bkC3 BK217.out
         obtain ⟨hfz49_0, hfz49_1, hfz49_2⟩ := bkF3 BK217.out
         go_wp2_with (first | ((with_reducible refine gate_callee (f := 101) rfl ?_); refine goesL_ (some 52) rfl rfl Tryd.func101 (by kernel_rfl) rfl #[.int .i64 (wrap64 (a0_1 + a1_1))] rfl (by (try simp only [List.map_toArray, List.map_cons, List.map_nil]); first | done | rfl | (simp only [List.length_drop, List.length_take]; rfl)) ?_; (with_reducible refine (q01_one.calls (wrap64 (a0_1 + a1_1)) t221 t222 t223 _ A44.out).mono ?_); rintro e w50 ⟨rfl, hb⟩; refine ⟨_, rfl, ?_⟩; replace BK217 := Asd.mk (bB hb BK217.out); replace BK218 := Asd.mk (bB hb BK218.out); replace BK219 := Asd.mk (bB hb BK219.out); replace HB := Asd.mk (bS hb HB.out); clear hb; obtain ⟨hcz51_0, hcz51_1, hcz51_2⟩ := bkC3 BK219.out; obtain ⟨hfz51_0, hfz51_1, hfz51_2⟩ := bkF3 BK219.out))
         refine bodyPost_ret (results_ct rfl _ _ gb219 23 #[.int .i64 t221, .int .i64 t222, .string t223] (0, 0) _ rfl (by refine blk_put (cs := #[.int .i64 t221, .int .i64 t222, .string (⟨#[]⟩ : ByteArray)]) ?_ 2 _ rfl; refine blk_put (cs := #[.int .i64 t221, .int .i64 0, .string (⟨#[]⟩ : ByteArray)]) ?_ 1 _ rfl; refine blk_put (cs := #[.int .i64 0, .int .i64 0, .string (⟨#[]⟩ : ByteArray)]) ?_ 0 _ rfl; exact BK219.out) Tryd.underlying23 rfl (by kernel_rfl)) rfl ?_
         exact ⟨by first | rfl | (simp [errW_none, errW_some] <;> rfl) | (simp [*, errW_none, errW_some] <;> rfl), by repeat (first | (with_reducible first | exact HB.out | apply blA | apply pbN | apply blD | refine blS ?_ GE217.out | refine blS ?_ GE218.out | refine blS ?_ GE219.out) | exact HB.out)⟩
       ·rw [if_neg c36] at H
        have c36b0 : decide (a1_1 < 0) = false := decide_eq_false c36
        clear c36
        replace H := Option.bind_eq_some_iff.mp H
        obtain ⟨⟨t224, t225, t226⟩, A520, H⟩ := H
        replace H : (some (t224, t225, t226, 0)) = some (r1, r2, r3, r4) := H
        have A52 := Asd.mk A520
        clear A520
        simp only [Option.some.injEq, Prod.mk.injEq] at H
        obtain ⟨rfl, rfl, rfl, rfl⟩ := H
        have hnb53 := NB218_217.out
        have hnc53 := NB217_218.out
        have hnb54 := NB218_219.out
        have hnc54 := NB219_218.out
        obtain ⟨hcz55_0, hcz55_1, hcz55_2⟩ := bkC3 BK218.out
        obtain ⟨hfz55_0, hfz55_1, hfz55_2⟩ := bkF3 BK218.out
        have hnb56 := NB217_219.out
        have hnc56 := NB219_217.out
        obtain ⟨hcz57_0, hcz57_1, hcz57_2⟩ := bkC3 BK217.out
        obtain ⟨hfz57_0, hfz57_1, hfz57_2⟩ := bkF3 BK217.out
        go_wp2_with (first | ((with_reducible refine gate_callee (f := 101) rfl ?_); refine goesL_ (some 52) rfl rfl Tryd.func101 (by kernel_rfl) rfl #[.int .i64 (wrap64 (a0_1 + a1_1))] rfl (by (try simp only [List.map_toArray, List.map_cons, List.map_nil]); first | done | rfl | (simp only [List.length_drop, List.length_take]; rfl)) ?_; (with_reducible refine (q01_one.calls (wrap64 (a0_1 + a1_1)) t224 t225 t226 _ A52.out).mono ?_); rintro e w58 ⟨rfl, hb⟩; refine ⟨_, rfl, ?_⟩; replace BK217 := Asd.mk (bB hb BK217.out); replace BK218 := Asd.mk (bB hb BK218.out); replace BK219 := Asd.mk (bB hb BK219.out); replace HB := Asd.mk (bS hb HB.out); clear hb; obtain ⟨hcz59_0, hcz59_1, hcz59_2⟩ := bkC3 BK219.out; obtain ⟨hfz59_0, hfz59_1, hfz59_2⟩ := bkF3 BK219.out))
        refine bodyPost_ret (results_ct rfl _ _ gb219 23 #[.int .i64 t224, .int .i64 t225, .string t226] (0, 0) _ rfl (by refine blk_put (cs := #[.int .i64 t224, .int .i64 t225, .string (⟨#[]⟩ : ByteArray)]) ?_ 2 _ rfl; refine blk_put (cs := #[.int .i64 t224, .int .i64 0, .string (⟨#[]⟩ : ByteArray)]) ?_ 1 _ rfl; refine blk_put (cs := #[.int .i64 0, .int .i64 0, .string (⟨#[]⟩ : ByteArray)]) ?_ 0 _ rfl; exact BK219.out) Tryd.underlying23 rfl (by kernel_rfl)) rfl ?_
        exact ⟨by first | rfl | (simp [errW_none, errW_some] <;> rfl) | (simp [*, errW_none, errW_some] <;> rfl), by repeat (first | (with_reducible first | exact HB.out | apply blA | apply pbN | apply blD | refine blS ?_ GE217.out | refine blS ?_ GE218.out | refine blS ?_ GE219.out) | exact HB.out)⟩
     ·rw [if_neg c28] at H
      have c28b0 : decide (0 < a1_1) = false := decide_eq_false c28
      clear c28
      by_cases c60 : a1_1 < 0
      ·rw [if_pos c60] at H
       have c60b0 : decide (a1_1 < 0) = true := decide_eq_true c60
       clear c60
       by_cases c61 : a0_1 < (wrap64 ((-9223372036854775808) - a1_1))
       ·rw [if_pos c61] at H
        have c61b0 : decide (a0_1 < (wrap64 ((-9223372036854775808) - a1_1))) = true := decide_eq_true c61
        clear c61
        simp only [Option.some.injEq, Prod.mk.injEq] at H
        obtain ⟨rfl, rfl, rfl, rfl⟩ := H
        have hnb62 := NB218_217.out
        have hnc62 := NB217_218.out
        have hnb63 := NB218_219.out
        have hnc63 := NB219_218.out
        obtain ⟨hcz64_0, hcz64_1, hcz64_2⟩ := bkC3 BK218.out
        obtain ⟨hfz64_0, hfz64_1, hfz64_2⟩ := bkF3 BK218.out
        have hnb65 := NB217_219.out
        have hnc65 := NB219_217.out
        obtain ⟨hcz66_0, hcz66_1, hcz66_2⟩ := bkC3 BK217.out
        obtain ⟨hfz66_0, hfz66_1, hfz66_2⟩ := bkF3 BK217.out
        obtain ⟨hcz67_0, hcz67_1, hcz67_2⟩ := bkC3 BK219.out
        obtain ⟨hfz67_0, hfz67_1, hfz67_2⟩ := bkF3 BK219.out
        go_wp2
        refine bodyPost_ret (results_ct rfl _ _ gb219 23 #[.int .i64 0, .int .i64 0, .string (⟨#[]⟩ : ByteArray)] (0, 0) _ rfl (by refine blk_put (cs := #[.int .i64 0, .int .i64 0, .string (⟨#[]⟩ : ByteArray)]) ?_ 2 _ rfl; refine blk_put (cs := #[.int .i64 0, .int .i64 0, .string (⟨#[]⟩ : ByteArray)]) ?_ 1 _ rfl; refine blk_put (cs := #[.int .i64 0, .int .i64 0, .string (⟨#[]⟩ : ByteArray)]) ?_ 0 _ rfl; exact BK219.out) Tryd.underlying23 rfl (by kernel_rfl)) rfl ?_
        exact ⟨by first | rfl | (simp [errW_none, errW_some] <;> rfl) | (simp [*, errW_none, errW_some] <;> rfl), by repeat (first | (with_reducible first | exact HB.out | apply blA | apply pbN | apply blD | refine blS ?_ GE217.out | refine blS ?_ GE218.out | refine blS ?_ GE219.out) | exact HB.out)⟩
       ·rw [if_neg c61] at H
        have c61b0 : decide (a0_1 < (wrap64 ((-9223372036854775808) - a1_1))) = false := decide_eq_false c61
        clear c61
        replace H := Option.bind_eq_some_iff.mp H
        obtain ⟨⟨t227, t228, t229⟩, A680, H⟩ := H
        replace H : (some (t227, t228, t229, 0)) = some (r1, r2, r3, r4) := H
        have A68 := Asd.mk A680
        clear A680
        simp only [Option.some.injEq, Prod.mk.injEq] at H
        obtain ⟨rfl, rfl, rfl, rfl⟩ := H
        have hnb69 := NB218_217.out
        have hnc69 := NB217_218.out
        have hnb70 := NB218_219.out
        have hnc70 := NB219_218.out
        obtain ⟨hcz71_0, hcz71_1, hcz71_2⟩ := bkC3 BK218.out
        obtain ⟨hfz71_0, hfz71_1, hfz71_2⟩ := bkF3 BK218.out
        have hnb72 := NB217_219.out
        have hnc72 := NB219_217.out
        obtain ⟨hcz73_0, hcz73_1, hcz73_2⟩ := bkC3 BK217.out
        obtain ⟨hfz73_0, hfz73_1, hfz73_2⟩ := bkF3 BK217.out
        go_wp2_with (first | ((with_reducible refine gate_callee (f := 101) rfl ?_); refine goesL_ (some 52) rfl rfl Tryd.func101 (by kernel_rfl) rfl #[.int .i64 (wrap64 (a0_1 + a1_1))] rfl (by (try simp only [List.map_toArray, List.map_cons, List.map_nil]); first | done | rfl | (simp only [List.length_drop, List.length_take]; rfl)) ?_; (with_reducible refine (q01_one.calls (wrap64 (a0_1 + a1_1)) t227 t228 t229 _ A68.out).mono ?_); rintro e w74 ⟨rfl, hb⟩; refine ⟨_, rfl, ?_⟩; replace BK217 := Asd.mk (bB hb BK217.out); replace BK218 := Asd.mk (bB hb BK218.out); replace BK219 := Asd.mk (bB hb BK219.out); replace HB := Asd.mk (bS hb HB.out); clear hb; obtain ⟨hcz75_0, hcz75_1, hcz75_2⟩ := bkC3 BK219.out; obtain ⟨hfz75_0, hfz75_1, hfz75_2⟩ := bkF3 BK219.out))
        refine bodyPost_ret (results_ct rfl _ _ gb219 23 #[.int .i64 t227, .int .i64 t228, .string t229] (0, 0) _ rfl (by refine blk_put (cs := #[.int .i64 t227, .int .i64 t228, .string (⟨#[]⟩ : ByteArray)]) ?_ 2 _ rfl; refine blk_put (cs := #[.int .i64 t227, .int .i64 0, .string (⟨#[]⟩ : ByteArray)]) ?_ 1 _ rfl; refine blk_put (cs := #[.int .i64 0, .int .i64 0, .string (⟨#[]⟩ : ByteArray)]) ?_ 0 _ rfl; exact BK219.out) Tryd.underlying23 rfl (by kernel_rfl)) rfl ?_
        exact ⟨by first | rfl | (simp [errW_none, errW_some] <;> rfl) | (simp [*, errW_none, errW_some] <;> rfl), by repeat (first | (with_reducible first | exact HB.out | apply blA | apply pbN | apply blD | refine blS ?_ GE217.out | refine blS ?_ GE218.out | refine blS ?_ GE219.out) | exact HB.out)⟩
      ·rw [if_neg c60] at H
       have c60b0 : decide (a1_1 < 0) = false := decide_eq_false c60
       clear c60
       replace H := Option.bind_eq_some_iff.mp H
       obtain ⟨⟨t230, t231, t232⟩, A760, H⟩ := H
       replace H : (some (t230, t231, t232, 0)) = some (r1, r2, r3, r4) := H
       have A76 := Asd.mk A760
       clear A760
       simp only [Option.some.injEq, Prod.mk.injEq] at H
       obtain ⟨rfl, rfl, rfl, rfl⟩ := H
       have hnb77 := NB218_217.out
       have hnc77 := NB217_218.out
       have hnb78 := NB218_219.out
       have hnc78 := NB219_218.out
       obtain ⟨hcz79_0, hcz79_1, hcz79_2⟩ := bkC3 BK218.out
       obtain ⟨hfz79_0, hfz79_1, hfz79_2⟩ := bkF3 BK218.out
       have hnb80 := NB217_219.out
       have hnc80 := NB219_217.out
       obtain ⟨hcz81_0, hcz81_1, hcz81_2⟩ := bkC3 BK217.out
       obtain ⟨hfz81_0, hfz81_1, hfz81_2⟩ := bkF3 BK217.out
       go_wp2_with (first | ((with_reducible refine gate_callee (f := 101) rfl ?_); refine goesL_ (some 52) rfl rfl Tryd.func101 (by kernel_rfl) rfl #[.int .i64 (wrap64 (a0_1 + a1_1))] rfl (by (try simp only [List.map_toArray, List.map_cons, List.map_nil]); first | done | rfl | (simp only [List.length_drop, List.length_take]; rfl)) ?_; (with_reducible refine (q01_one.calls (wrap64 (a0_1 + a1_1)) t230 t231 t232 _ A76.out).mono ?_); rintro e w82 ⟨rfl, hb⟩; refine ⟨_, rfl, ?_⟩; replace BK217 := Asd.mk (bB hb BK217.out); replace BK218 := Asd.mk (bB hb BK218.out); replace BK219 := Asd.mk (bB hb BK219.out); replace HB := Asd.mk (bS hb HB.out); clear hb; obtain ⟨hcz83_0, hcz83_1, hcz83_2⟩ := bkC3 BK219.out; obtain ⟨hfz83_0, hfz83_1, hfz83_2⟩ := bkF3 BK219.out))
       refine bodyPost_ret (results_ct rfl _ _ gb219 23 #[.int .i64 t230, .int .i64 t231, .string t232] (0, 0) _ rfl (by refine blk_put (cs := #[.int .i64 t230, .int .i64 t231, .string (⟨#[]⟩ : ByteArray)]) ?_ 2 _ rfl; refine blk_put (cs := #[.int .i64 t230, .int .i64 0, .string (⟨#[]⟩ : ByteArray)]) ?_ 1 _ rfl; refine blk_put (cs := #[.int .i64 0, .int .i64 0, .string (⟨#[]⟩ : ByteArray)]) ?_ 0 _ rfl; exact BK219.out) Tryd.underlying23 rfl (by kernel_rfl)) rfl ?_
       exact ⟨by first | rfl | (simp [errW_none, errW_some] <;> rfl) | (simp [*, errW_none, errW_some] <;> rfl), by repeat (first | (with_reducible first | exact HB.out | apply blA | apply pbN | apply blD | refine blS ?_ GE217.out | refine blS ?_ GE218.out | refine blS ?_ GE219.out) | exact HB.out)⟩
 ·replace c4 := Bool.eq_false_iff.mpr c4
  subst c4
  have H1 : (some (0, 0, (⟨#[]⟩ : ByteArray), 1)) = some (r1, r2, r3, r4) := by rw [if_neg (show ¬ (false = true) by decide)] at H; exact H
  clear H
  have H := H1
  clear H1
  simp only [Option.some.injEq, Prod.mk.injEq] at H
  obtain ⟨rfl, rfl, rfl, rfl⟩ := H
  go_enter Tryd.func74, Tryd.ntmps74
  go_wp2_with (first | ((with_reducible refine gate_dst (N := 2) rfl ?_); refine box_event rfl (N := 2) rfl (cs := #[.int .i64 a0_0, .int .i64 a0_1, .string a0_2]) (t := 23) (by first | (go_simp; done) | (go_simp; rfl)) ?_; intro gb217 hg w84 hbox hb; have BK217 := Asd.mk (hbox); have GW217 := Asd.mk (bZ hg HB.out); have GE217 := GW217; replace HB := Asd.mk (bS hb HB.out); clear hb hbox hg) | ((with_reducible refine gate_dst (N := 3) rfl ?_); refine box_event rfl (N := 3) rfl (cs := #[.int .i64 a1_0, .int .i64 a1_1, .string a1_2]) (t := 23) (by first | (go_simp; done) | (go_simp; rfl)) ?_; intro gb218 hg w85 hbox hb; have BK218 := Asd.mk (hbox); have GW218 := Asd.mk (bZ hg HB.out); have GE218 := GW218; have NB217_218 := Asd.mk (bL hg BK217.out); have NB218_217 := Asd.mk (bG hg BK217.out); replace BK217 := Asd.mk (bB hb BK217.out); replace HB := Asd.mk (bS hb HB.out); clear hb hbox hg) | ((with_reducible refine gate_dst (N := 4) rfl ?_); refine box_event rfl (N := 4) rfl (cs := #[.int .i64 0, .int .i64 0, .string (⟨#[]⟩ : ByteArray)]) (t := 23) (by first | (go_simp; done) | (go_simp; rfl)) ?_; intro gb219 hg w86 hbox hb; have BK219 := Asd.mk (hbox); have GW219 := Asd.mk (bZ hg HB.out); have GE219 := GW219; have NB217_219 := Asd.mk (bL hg BK217.out); have NB219_217 := Asd.mk (bG hg BK217.out); have NB218_219 := Asd.mk (bL hg BK218.out); have NB219_218 := Asd.mk (bG hg BK218.out); replace BK217 := Asd.mk (bB hb BK217.out); replace BK218 := Asd.mk (bB hb BK218.out); replace HB := Asd.mk (bS hb HB.out); clear hb hbox hg; have hnb87 := NB217_218.out; have hnc87 := NB218_217.out; have hnb88 := NB217_219.out; have hnc88 := NB219_217.out; obtain ⟨hcz89_0, hcz89_1, hcz89_2⟩ := bkC3 BK217.out; obtain ⟨hfz89_0, hfz89_1, hfz89_2⟩ := bkF3 BK217.out; have hnb90 := NB218_219.out; have hnc90 := NB219_218.out; obtain ⟨hcz91_0, hcz91_1, hcz91_2⟩ := bkC3 BK218.out; obtain ⟨hfz91_0, hfz91_1, hfz91_2⟩ := bkF3 BK218.out) | ((with_reducible refine gate_callee (f := 100) rfl ?_); refine goesL_ (some 9) rfl rfl Tryd.func100 (by kernel_rfl) rfl #[.int .i64 1, .agg #[.int .i64 a0_0, .int .i64 a0_1, .string a0_2], .agg #[.int .i64 a1_0, .int .i64 a1_1, .string a1_2]] rfl (by (try simp only [List.map_toArray, List.map_cons, List.map_nil]); first | done | rfl | (simp only [List.length_drop, List.length_take]; rfl)) ?_; (with_reducible refine (q01_of.calls 1 a0_0 a0_1 a0_2 a1_0 a1_1 a1_2 false _ A3.out).mono ?_); rintro e w92 ⟨rfl, hb⟩; refine ⟨_, rfl, ?_⟩; replace BK217 := Asd.mk (bB hb BK217.out); replace BK218 := Asd.mk (bB hb BK218.out); replace BK219 := Asd.mk (bB hb BK219.out); replace HB := Asd.mk (bS hb HB.out); clear hb; obtain ⟨hcz93_0, hcz93_1, hcz93_2⟩ := bkC3 BK219.out; obtain ⟨hfz93_0, hfz93_1, hfz93_2⟩ := bkF3 BK219.out))
  refine bodyPost_ret (results_ct rfl _ _ gb219 23 #[.int .i64 0, .int .i64 0, .string (⟨#[]⟩ : ByteArray)] (0, 0) _ rfl (by refine blk_put (cs := #[.int .i64 0, .int .i64 0, .string (⟨#[]⟩ : ByteArray)]) ?_ 2 _ rfl; refine blk_put (cs := #[.int .i64 0, .int .i64 0, .string (⟨#[]⟩ : ByteArray)]) ?_ 1 _ rfl; refine blk_put (cs := #[.int .i64 0, .int .i64 0, .string (⟨#[]⟩ : ByteArray)]) ?_ 0 _ rfl; exact BK219.out) Tryd.underlying23 rfl (by kernel_rfl)) rfl ?_
  exact ⟨by first | rfl | (simp [errW_none, errW_some] <;> rfl) | (simp [*, errW_none, errW_some] <;> rfl), by repeat (first | (with_reducible first | exact HB.out | apply blA | apply pbN | apply blD | refine blS ?_ GE217.out | refine blS ?_ GE218.out | refine blS ?_ GE219.out) | exact HB.out)⟩
def q01_Div.j0 : Nat → Bool → Int → Int → ByteArray → Int → Int → ByteArray → Option (Int × Int × ByteArray × Int)
 | 0, _, _, _, _, _, _, _ => none
 | k + 1, x14, x263000, x263001, x263002, x264000, x264001, x264002 => if x14 = true then (some (0, 0, (⟨#[]⟩ : ByteArray), 0)) else (if x264001 = 0 then (some (0, 0, (⟨#[]⟩ : ByteArray), 4)) else (if x263001 = (-9223372036854775808) then (if x264001 = (-1) then (some (0, 0, (⟨#[]⟩ : ByteArray), 3)) else ((q01_one.f (wrap64 (Int.tdiv x263001 x264001))).bind fun bt266 => (some (bt266.1, bt266.2.1, bt266.2.2, 0)))) else ((q01_one.f (wrap64 (Int.tdiv x263001 x264001))).bind fun bt269 => (some (bt269.1, bt269.2.1, bt269.2.2, 0)))))
def q01_Div.f (k : Nat) (a0_0 : Int) (a0_1 : Int) (a0_2 : ByteArray) (a1_0 : Int) (a1_1 : Int) (a1_2 : ByteArray) : Option (Int × Int × ByteArray × Int) := (q01_of.f 1 a0_0 a0_1 a0_2 a1_0 a1_1 a1_2).bind fun t265 => (if t265 = true then (if a0_0 = 0 then (q01_Div.j0 k true a0_0 a0_1 a0_2 a1_0 a1_1 a1_2) else (q01_Div.j0 k (a1_0 == 0) a0_0 a0_1 a0_2 a1_0 a1_1 a1_2)) else (some (0, 0, (⟨#[]⟩ : ByteArray), 1)))
set_option maxHeartbeats 8000000 in
set_option maxRecDepth 100000 in
theorem q01_Div.calls (k : Nat) (a0_0 : Int) (a0_1 : Int) (a0_2 : ByteArray) (a1_0 : Int) (a1_1 : Int) (a1_2 : ByteArray) (r1 : Int) (r2 : Int) (r3 : ByteArray) (r4 : Int) (w : World) (h : q01_Div.f k a0_0 a0_1 a0_2 a1_0 a1_1 a1_2 = some (r1, r2, r3, r4)) :
  Calls Tryd.prog 77 #[.agg #[.int .i64 a0_0, .int .i64 a0_1, .string a0_2], .agg #[.int .i64 a1_0, .int .i64 a1_1, .string a1_2]] w fun e w' => e = .returned (.tuple #[.agg #[.int .i64 r1, .int .i64 r2, .string r3], .int .i64 r4]) ∧ Below w.heap.size w w' := by
 have hu23 := Tryd.underlying23
 have HB := Asd.mk (Below.refl w.heap.size w)
 have H : ((q01_of.f 1 a0_0 a0_1 a0_2 a1_0 a1_1 a1_2).bind fun t265 => (if t265 = true then (if a0_0 = 0 then (q01_Div.j0 k true a0_0 a0_1 a0_2 a1_0 a1_1 a1_2) else (q01_Div.j0 k (a1_0 == 0) a0_0 a0_1 a0_2 a1_0 a1_1 a1_2)) else (some (0, 0, (⟨#[]⟩ : ByteArray), 1)))) = some (r1, r2, r3, r4) := h
 clear h
 replace H := Option.bind_eq_some_iff.mp H
 obtain ⟨t265, A30, H⟩ := H
 replace H : (if t265 = true then (if a0_0 = 0 then (q01_Div.j0 k true a0_0 a0_1 a0_2 a1_0 a1_1 a1_2) else (q01_Div.j0 k (a1_0 == 0) a0_0 a0_1 a0_2 a1_0 a1_1 a1_2)) else (some (0, 0, (⟨#[]⟩ : ByteArray), 1))) = some (r1, r2, r3, r4) := H
 have A3 := Asd.mk A30
 clear A30
 by_cases c4 : t265 = true
 ·subst c4
  have H1 : (if a0_0 = 0 then (q01_Div.j0 k true a0_0 a0_1 a0_2 a1_0 a1_1 a1_2) else (q01_Div.j0 k (a1_0 == 0) a0_0 a0_1 a0_2 a1_0 a1_1 a1_2)) = some (r1, r2, r3, r4) := by rw [if_pos rfl] at H; exact H
  clear H
  have H := H1
  clear H1
  have HC5 := Asd.mk H
  clear H
  go_enter Tryd.func77, Tryd.ntmps77
  go_upto_region 4 with (first | ((with_reducible refine gate_dst (N := 2) rfl ?_); refine box_event rfl (N := 2) rfl (cs := #[.int .i64 a0_0, .int .i64 a0_1, .string a0_2]) (t := 23) (by first | (go_simp; done) | (go_simp; rfl)) ?_; intro gb262 hg w6 hbox hb; have BK262 := Asd.mk (hbox); have GW262 := Asd.mk (bZ hg HB.out); have GE262 := GW262; replace HB := Asd.mk (bS hb HB.out); clear hb hbox hg) | ((with_reducible refine gate_dst (N := 3) rfl ?_); refine box_event rfl (N := 3) rfl (cs := #[.int .i64 a1_0, .int .i64 a1_1, .string a1_2]) (t := 23) (by first | (go_simp; done) | (go_simp; rfl)) ?_; intro gb263 hg w7 hbox hb; have BK263 := Asd.mk (hbox); have GW263 := Asd.mk (bZ hg HB.out); have GE263 := GW263; have NB262_263 := Asd.mk (bL hg BK262.out); have NB263_262 := Asd.mk (bG hg BK262.out); replace BK262 := Asd.mk (bB hb BK262.out); replace HB := Asd.mk (bS hb HB.out); clear hb hbox hg) | ((with_reducible refine gate_dst (N := 4) rfl ?_); refine box_event rfl (N := 4) rfl (cs := #[.int .i64 0, .int .i64 0, .string (⟨#[]⟩ : ByteArray)]) (t := 23) (by first | (go_simp; done) | (go_simp; rfl)) ?_; intro gb264 hg w8 hbox hb; have BK264 := Asd.mk (hbox); have GW264 := Asd.mk (bZ hg HB.out); have GE264 := GW264; have NB262_264 := Asd.mk (bL hg BK262.out); have NB264_262 := Asd.mk (bG hg BK262.out); have NB263_264 := Asd.mk (bL hg BK263.out); have NB264_263 := Asd.mk (bG hg BK263.out); replace BK262 := Asd.mk (bB hb BK262.out); replace BK263 := Asd.mk (bB hb BK263.out); replace HB := Asd.mk (bS hb HB.out); clear hb hbox hg; have hnb9 := NB262_263.out; have hnc9 := NB263_262.out; have hnb10 := NB262_264.out; have hnc10 := NB264_262.out; obtain ⟨hcz11_0, hcz11_1, hcz11_2⟩ := bkC3 BK262.out; obtain ⟨hfz11_0, hfz11_1, hfz11_2⟩ := bkF3 BK262.out; have hnb12 := NB263_264.out; have hnc12 := NB264_263.out; obtain ⟨hcz13_0, hcz13_1, hcz13_2⟩ := bkC3 BK263.out; obtain ⟨hfz13_0, hfz13_1, hfz13_2⟩ := bkF3 BK263.out) | ((with_reducible refine gate_callee (f := 100) rfl ?_); refine goesL_ (some 9) rfl rfl Tryd.func100 (by kernel_rfl) rfl #[.int .i64 1, .agg #[.int .i64 a0_0, .int .i64 a0_1, .string a0_2], .agg #[.int .i64 a1_0, .int .i64 a1_1, .string a1_2]] rfl (by (try simp only [List.map_toArray, List.map_cons, List.map_nil]); first | done | rfl | (simp only [List.length_drop, List.length_take]; rfl)) ?_; (with_reducible refine (q01_of.calls 1 a0_0 a0_1 a0_2 a1_0 a1_1 a1_2 true _ A3.out).mono ?_); rintro e w14 ⟨rfl, hb⟩; refine ⟨_, rfl, ?_⟩; replace BK262 := Asd.mk (bB hb BK262.out); replace BK263 := Asd.mk (bB hb BK263.out); replace BK264 := Asd.mk (bB hb BK264.out); replace HB := Asd.mk (bS hb HB.out); clear hb))
  (try simp only [Act.put, List.setIfInBounds_toArray, List.set_cons_zero, List.set_cons_succ])
  go_cut [14] (fun v14 wc => ∃ (kq : Nat) (x14_4 : Bool), v14 = .bool x14_4 ∧ Asd (q01_Div.j0 kq x14_4 a0_0 a0_1 a0_2 a1_0 a1_1 a1_2 = some (r1, r2, r3, r4)) ∧ Asd (kq ≤ k) ∧ Asd (wc.heap[gb262]? = some (.cells #[.int .i64 a0_0, .int .i64 a0_1, .string a0_2] 23 (0, 0))) ∧ Asd (wc.heap[gb263]? = some (.cells #[.int .i64 a1_0, .int .i64 a1_1, .string a1_2] 23 (0, 0))) ∧ Asd (wc.heap[gb264]? = some (.cells #[.int .i64 0, .int .i64 0, .string (⟨#[]⟩ : ByteArray)] 23 (0, 0))) ∧ Asd (Below w.heap.size w wc))
  case first =>
   have H := HC5.out
   clear HC5
   by_cases c15 : a0_0 = 0
   ·rw [if_pos c15] at H
    have c15b0 : (a0_0 == 0) = true := beq_iff_eq.mpr c15
    have c15b1 : (a0_0 != 0) = false := bne_eq_false_iff_eq.mpr c15
    clear c15
    (first | rw [c15b0] | (simp only [i64_w, i32_w]; rw [c15b0]) | skip)
    have H' := Asd.mk H
    clear H
    have hnb16 := NB262_263.out
    have hnc16 := NB263_262.out
    have hnb17 := NB262_264.out
    have hnc17 := NB264_262.out
    obtain ⟨hcz18_0, hcz18_1, hcz18_2⟩ := bkC3 BK262.out
    obtain ⟨hfz18_0, hfz18_1, hfz18_2⟩ := bkF3 BK262.out
    go_wp2
    go_meet
    case rel => exact ⟨_, (true), (by first | rfl | (simp; done) | (simp [*]; done)), H', ⟨by first | omega | exact Nat.le_refl _⟩, ⟨by exact BK262.out⟩, ⟨by exact BK263.out⟩, ⟨by exact BK264.out⟩, ⟨by repeat (first | (with_reducible first | exact HB.out | apply blA | apply pbN | apply blD | refine blS ?_ GE262.out | refine blS ?_ GE263.out | refine blS ?_ GE264.out) | exact HB.out)⟩⟩
   ·rw [if_neg c15] at H
    have c15b0 : (a0_0 == 0) = false := beq_eq_false_iff_ne.mpr c15
    have c15b1 : (a0_0 != 0) = true := bne_iff_ne.mpr c15
    (first | rw [c15b0] | (simp only [i64_w, i32_w]; rw [c15b0]) | skip)
    have H' := Asd.mk H
    clear H
    have hnb19 := NB262_263.out
    have hnc19 := NB263_262.out
    have hnb20 := NB262_264.out
    have hnc20 := NB264_262.out
    obtain ⟨hcz21_0, hcz21_1, hcz21_2⟩ := bkC3 BK262.out
    obtain ⟨hfz21_0, hfz21_1, hfz21_2⟩ := bkF3 BK262.out
    have hnb22 := NB263_264.out
    have hnc22 := NB264_263.out
    obtain ⟨hcz23_0, hcz23_1, hcz23_2⟩ := bkC3 BK263.out
    obtain ⟨hfz23_0, hfz23_1, hfz23_2⟩ := bkF3 BK263.out
    go_wp2
    go_meet
    case rel => exact ⟨_, ((a1_0 == 0)), (by first | rfl | (simp; done) | (simp [*]; done)), H', ⟨by first | omega | exact Nat.le_refl _⟩, ⟨by exact BK262.out⟩, ⟨by exact BK263.out⟩, ⟨by exact BK264.out⟩, ⟨by repeat (first | (with_reducible first | exact HB.out | apply blA | apply pbN | apply blD | refine blS ?_ GE262.out | refine blS ?_ GE263.out | refine blS ?_ GE264.out) | exact HB.out)⟩⟩
  case rest =>
   clear HC5
   try clear c1
   try clear c2
   try clear p2
   try clear c4
   try clear c7
   try clear c9
   try clear c10
   try clear c12
   try clear c15
   try clear c15b0
   try clear c15b1
   try clear c16
   try clear c17
   try clear c19
   try clear c20
   try clear c22
   try clear hcz11_0
   try clear hcz11_1
   try clear hcz11_2
   try clear hcz13_0
   try clear hcz13_1
   try clear hcz13_2
   try clear hcz18_0
   try clear hcz18_1
   try clear hcz18_2
   try clear hcz21_0
   try clear hcz21_1
   try clear hcz21_2
   try clear hcz23_0
   try clear hcz23_1
   try clear hcz23_2
   try clear hfz11_0
   try clear hfz11_1
   try clear hfz11_2
   try clear hfz13_0
   try clear hfz13_1
   try clear hfz13_2
   try clear hfz18_0
   try clear hfz18_1
   try clear hfz18_2
   try clear hfz21_0
   try clear hfz21_1
   try clear hfz21_2
   try clear hfz23_0
   try clear hfz23_1
   try clear hfz23_2
   obtain ⟨kq, x14_4, rfl, HA, HJ4, BK262, BK263, BK264, HB⟩ := hcut
   cases kq with
   | zero => exact absurd HA.out (by simp [q01_Div.j0])
   | succ kj4 =>
    have H := HA.out
    clear HA
    simp only [q01_Div.j0] at H
    by_cases c24 : x14_4 = true
    ·subst c24
     have H1 : (some (0, 0, (⟨#[]⟩ : ByteArray), 0)) = some (r1, r2, r3, r4) := by rw [if_pos rfl] at H; exact H
     clear H
     have H := H1
     clear H1
     simp only [Option.some.injEq, Prod.mk.injEq] at H
     obtain ⟨rfl, rfl, rfl, rfl⟩ := H
     have hnb25 := NB264_262.out
     have hnc25 := NB262_264.out
     have hnb26 := NB264_263.out
     have hnc26 := NB263_264.out
     obtain ⟨hcz27_0, hcz27_1, hcz27_2⟩ := bkC3 BK264.out
     obtain ⟨hfz27_0, hfz27_1, hfz27_2⟩ := bkF3 BK264.out
     go_wp2
     refine bodyPost_ret (results_ct rfl _ _ gb264 23 #[.int .i64 0, .int .i64 0, .string (⟨#[]⟩ : ByteArray)] (0, 0) _ rfl (by refine blk_put (cs := #[.int .i64 0, .int .i64 0, .string (⟨#[]⟩ : ByteArray)]) ?_ 2 _ rfl; refine blk_put (cs := #[.int .i64 0, .int .i64 0, .string (⟨#[]⟩ : ByteArray)]) ?_ 1 _ rfl; refine blk_put (cs := #[.int .i64 0, .int .i64 0, .string (⟨#[]⟩ : ByteArray)]) ?_ 0 _ rfl; exact BK264.out) Tryd.underlying23 rfl (by kernel_rfl)) rfl ?_
     exact ⟨by first | rfl | (simp [errW_none, errW_some] <;> rfl) | (simp [*, errW_none, errW_some] <;> rfl), by repeat (first | (with_reducible first | exact HB.out | apply blA | apply pbN | apply blD | refine blS ?_ GE262.out | refine blS ?_ GE263.out | refine blS ?_ GE264.out) | exact HB.out)⟩
    ·replace c24 := Bool.eq_false_iff.mpr c24
     subst c24
     have H1 : (if a1_1 = 0 then (some (0, 0, (⟨#[]⟩ : ByteArray), 4)) else (if a0_1 = (-9223372036854775808) then (if a1_1 = (-1) then (some (0, 0, (⟨#[]⟩ : ByteArray), 3)) else ((q01_one.f (wrap64 (Int.tdiv a0_1 a1_1))).bind fun bt266 => (some (bt266.1, bt266.2.1, bt266.2.2, 0)))) else ((q01_one.f (wrap64 (Int.tdiv a0_1 a1_1))).bind fun bt269 => (some (bt269.1, bt269.2.1, bt269.2.2, 0))))) = some (r1, r2, r3, r4) := by rw [if_neg (show ¬ (false = true) by decide)] at H; exact H
     clear H
     have H := H1
     clear H1
     by_cases c28 : a1_1 = 0
     ·rw [if_pos c28] at H
      have c28b0 : (a1_1 == 0) = true := beq_iff_eq.mpr c28
      have c28b1 : (a1_1 != 0) = false := bne_eq_false_iff_eq.mpr c28
      clear c28
      simp only [Option.some.injEq, Prod.mk.injEq] at H
      obtain ⟨rfl, rfl, rfl, rfl⟩ := H
      have hnb29 := NB263_262.out
      have hnc29 := NB262_263.out
      have hnb30 := NB263_264.out
      have hnc30 := NB264_263.out
      obtain ⟨hcz31_0, hcz31_1, hcz31_2⟩ := bkC3 BK263.out
      obtain ⟨hfz31_0, hfz31_1, hfz31_2⟩ := bkF3 BK263.out
      have hnb32 := NB264_262.out
      have hnc32 := NB262_264.out
      obtain ⟨hcz33_0, hcz33_1, hcz33_2⟩ := bkC3 BK264.out
      obtain ⟨hfz33_0, hfz33_1, hfz33_2⟩ := bkF3 BK264.out
      go_wp2
      refine bodyPost_ret (results_ct rfl _ _ gb264 23 #[.int .i64 0, .int .i64 0, .string (⟨#[]⟩ : ByteArray)] (0, 0) _ rfl (by refine blk_put (cs := #[.int .i64 0, .int .i64 0, .string (⟨#[]⟩ : ByteArray)]) ?_ 2 _ rfl; refine blk_put (cs := #[.int .i64 0, .int .i64 0, .string (⟨#[]⟩ : ByteArray)]) ?_ 1 _ rfl; refine blk_put (cs := #[.int .i64 0, .int .i64 0, .string (⟨#[]⟩ : ByteArray)]) ?_ 0 _ rfl; exact BK264.out) Tryd.underlying23 rfl (by kernel_rfl)) rfl ?_
      exact ⟨by first | rfl | (simp [errW_none, errW_some] <;> rfl) | (simp [*, errW_none, errW_some] <;> rfl), by repeat (first | (with_reducible first | exact HB.out | apply blA | apply pbN | apply blD | refine blS ?_ GE262.out | refine blS ?_ GE263.out | refine blS ?_ GE264.out) | exact HB.out)⟩
     ·rw [if_neg c28] at H
      have c28b0 : (a1_1 == 0) = false := beq_eq_false_iff_ne.mpr c28
      have c28b1 : (a1_1 != 0) = true := bne_iff_ne.mpr c28
      by_cases c34 : a0_1 = (-9223372036854775808)
      ·rw [if_pos c34] at H
       have c34b0 : (a0_1 == (-9223372036854775808)) = true := beq_iff_eq.mpr c34
       have c34b1 : (a0_1 != (-9223372036854775808)) = false := bne_eq_false_iff_eq.mpr c34
       clear c34
       by_cases c35 : a1_1 = (-1)
       ·rw [if_pos c35] at H
        have c35b0 : (a1_1 == (-1)) = true := beq_iff_eq.mpr c35
        have c35b1 : (a1_1 != (-1)) = false := bne_eq_false_iff_eq.mpr c35
        clear c35
        simp only [Option.some.injEq, Prod.mk.injEq] at H
        obtain ⟨rfl, rfl, rfl, rfl⟩ := H
        have hnb36 := NB263_262.out
        have hnc36 := NB262_263.out
        have hnb37 := NB263_264.out
        have hnc37 := NB264_263.out
        obtain ⟨hcz38_0, hcz38_1, hcz38_2⟩ := bkC3 BK263.out
        obtain ⟨hfz38_0, hfz38_1, hfz38_2⟩ := bkF3 BK263.out
        have hnb39 := NB262_264.out
        have hnc39 := NB264_262.out
        obtain ⟨hcz40_0, hcz40_1, hcz40_2⟩ := bkC3 BK262.out
        obtain ⟨hfz40_0, hfz40_1, hfz40_2⟩ := bkF3 BK262.out
        obtain ⟨hcz41_0, hcz41_1, hcz41_2⟩ := bkC3 BK264.out
        obtain ⟨hfz41_0, hfz41_1, hfz41_2⟩ := bkF3 BK264.out
        go_wp2
        refine bodyPost_ret (results_ct rfl _ _ gb264 23 #[.int .i64 0, .int .i64 0, .string (⟨#[]⟩ : ByteArray)] (0, 0) _ rfl (by refine blk_put (cs := #[.int .i64 0, .int .i64 0, .string (⟨#[]⟩ : ByteArray)]) ?_ 2 _ rfl; refine blk_put (cs := #[.int .i64 0, .int .i64 0, .string (⟨#[]⟩ : ByteArray)]) ?_ 1 _ rfl; refine blk_put (cs := #[.int .i64 0, .int .i64 0, .string (⟨#[]⟩ : ByteArray)]) ?_ 0 _ rfl; exact BK264.out) Tryd.underlying23 rfl (by kernel_rfl)) rfl ?_
        exact ⟨by first | rfl | (simp [errW_none, errW_some] <;> rfl) | (simp [*, errW_none, errW_some] <;> rfl), by repeat (first | (with_reducible first | exact HB.out | apply blA | apply pbN | apply blD | refine blS ?_ GE262.out | refine blS ?_ GE263.out | refine blS ?_ GE264.out) | exact HB.out)⟩
       ·rw [if_neg c35] at H
        have c35b0 : (a1_1 == (-1)) = false := beq_eq_false_iff_ne.mpr c35
        have c35b1 : (a1_1 != (-1)) = true := bne_iff_ne.mpr c35
        replace H := Option.bind_eq_some_iff.mp H
        obtain ⟨⟨t266, t267, t268⟩, A420, H⟩ := H
        replace H : (some (t266, t267, t268, 0)) = some (r1, r2, r3, r4) := H
        have A42 := Asd.mk A420
        clear A420
        simp only [Option.some.injEq, Prod.mk.injEq] at H
        obtain ⟨rfl, rfl, rfl, rfl⟩ := H
        have hnb43 := NB263_262.out
        have hnc43 := NB262_263.out
        have hnb44 := NB263_264.out
        have hnc44 := NB264_263.out
        obtain ⟨hcz45_0, hcz45_1, hcz45_2⟩ := bkC3 BK263.out
        obtain ⟨hfz45_0, hfz45_1, hfz45_2⟩ := bkF3 BK263.out
        have hnb46 := NB262_264.out
        have hnc46 := NB264_262.out
        obtain ⟨hcz47_0, hcz47_1, hcz47_2⟩ := bkC3 BK262.out
        obtain ⟨hfz47_0, hfz47_1, hfz47_2⟩ := bkF3 BK262.out
        go_wp2_with (first | ((with_reducible refine gate_callee (f := 101) rfl ?_); refine goesL_ (some 44) rfl rfl Tryd.func101 (by kernel_rfl) rfl #[.int .i64 (wrap64 (Int.tdiv a0_1 a1_1))] rfl (by (try simp only [List.map_toArray, List.map_cons, List.map_nil]); first | done | rfl | (simp only [List.length_drop, List.length_take]; rfl)) ?_; (with_reducible refine (q01_one.calls (wrap64 (Int.tdiv a0_1 a1_1)) t266 t267 t268 _ A42.out).mono ?_); rintro e w48 ⟨rfl, hb⟩; refine ⟨_, rfl, ?_⟩; replace BK262 := Asd.mk (bB hb BK262.out); replace BK263 := Asd.mk (bB hb BK263.out); replace BK264 := Asd.mk (bB hb BK264.out); replace HB := Asd.mk (bS hb HB.out); clear hb; obtain ⟨hcz49_0, hcz49_1, hcz49_2⟩ := bkC3 BK264.out; obtain ⟨hfz49_0, hfz49_1, hfz49_2⟩ := bkF3 BK264.out))
        refine bodyPost_ret (results_ct rfl _ _ gb264 23 #[.int .i64 t266, .int .i64 t267, .string t268] (0, 0) _ rfl (by refine blk_put (cs := #[.int .i64 t266, .int .i64 t267, .string (⟨#[]⟩ : ByteArray)]) ?_ 2 _ rfl; refine blk_put (cs := #[.int .i64 t266, .int .i64 0, .string (⟨#[]⟩ : ByteArray)]) ?_ 1 _ rfl; refine blk_put (cs := #[.int .i64 0, .int .i64 0, .string (⟨#[]⟩ : ByteArray)]) ?_ 0 _ rfl; exact BK264.out) Tryd.underlying23 rfl (by kernel_rfl)) rfl ?_
        exact ⟨by first | rfl | (simp [errW_none, errW_some] <;> rfl) | (simp [*, errW_none, errW_some] <;> rfl), by repeat (first | (with_reducible first | exact HB.out | apply blA | apply pbN | apply blD | refine blS ?_ GE262.out | refine blS ?_ GE263.out | refine blS ?_ GE264.out) | exact HB.out)⟩
      ·rw [if_neg c34] at H
       have c34b0 : (a0_1 == (-9223372036854775808)) = false := beq_eq_false_iff_ne.mpr c34
       have c34b1 : (a0_1 != (-9223372036854775808)) = true := bne_iff_ne.mpr c34
       replace H := Option.bind_eq_some_iff.mp H
       obtain ⟨⟨t269, t270, t271⟩, A500, H⟩ := H
       replace H : (some (t269, t270, t271, 0)) = some (r1, r2, r3, r4) := H
       have A50 := Asd.mk A500
       clear A500
       simp only [Option.some.injEq, Prod.mk.injEq] at H
       obtain ⟨rfl, rfl, rfl, rfl⟩ := H
       have hnb51 := NB263_262.out
       have hnc51 := NB262_263.out
       have hnb52 := NB263_264.out
       have hnc52 := NB264_263.out
       obtain ⟨hcz53_0, hcz53_1, hcz53_2⟩ := bkC3 BK263.out
       obtain ⟨hfz53_0, hfz53_1, hfz53_2⟩ := bkF3 BK263.out
       have hnb54 := NB262_264.out
       have hnc54 := NB264_262.out
       obtain ⟨hcz55_0, hcz55_1, hcz55_2⟩ := bkC3 BK262.out
       obtain ⟨hfz55_0, hfz55_1, hfz55_2⟩ := bkF3 BK262.out
       go_wp2_with (first | ((with_reducible refine gate_callee (f := 101) rfl ?_); refine goesL_ (some 44) rfl rfl Tryd.func101 (by kernel_rfl) rfl #[.int .i64 (wrap64 (Int.tdiv a0_1 a1_1))] rfl (by (try simp only [List.map_toArray, List.map_cons, List.map_nil]); first | done | rfl | (simp only [List.length_drop, List.length_take]; rfl)) ?_; (with_reducible refine (q01_one.calls (wrap64 (Int.tdiv a0_1 a1_1)) t269 t270 t271 _ A50.out).mono ?_); rintro e w56 ⟨rfl, hb⟩; refine ⟨_, rfl, ?_⟩; replace BK262 := Asd.mk (bB hb BK262.out); replace BK263 := Asd.mk (bB hb BK263.out); replace BK264 := Asd.mk (bB hb BK264.out); replace HB := Asd.mk (bS hb HB.out); clear hb; obtain ⟨hcz57_0, hcz57_1, hcz57_2⟩ := bkC3 BK264.out; obtain ⟨hfz57_0, hfz57_1, hfz57_2⟩ := bkF3 BK264.out))
       refine bodyPost_ret (results_ct rfl _ _ gb264 23 #[.int .i64 t269, .int .i64 t270, .string t271] (0, 0) _ rfl (by refine blk_put (cs := #[.int .i64 t269, .int .i64 t270, .string (⟨#[]⟩ : ByteArray)]) ?_ 2 _ rfl; refine blk_put (cs := #[.int .i64 t269, .int .i64 0, .string (⟨#[]⟩ : ByteArray)]) ?_ 1 _ rfl; refine blk_put (cs := #[.int .i64 0, .int .i64 0, .string (⟨#[]⟩ : ByteArray)]) ?_ 0 _ rfl; exact BK264.out) Tryd.underlying23 rfl (by kernel_rfl)) rfl ?_
       exact ⟨by first | rfl | (simp [errW_none, errW_some] <;> rfl) | (simp [*, errW_none, errW_some] <;> rfl), by repeat (first | (with_reducible first | exact HB.out | apply blA | apply pbN | apply blD | refine blS ?_ GE262.out | refine blS ?_ GE263.out | refine blS ?_ GE264.out) | exact HB.out)⟩
 ·replace c4 := Bool.eq_false_iff.mpr c4
  subst c4
  have H1 : (some (0, 0, (⟨#[]⟩ : ByteArray), 1)) = some (r1, r2, r3, r4) := by rw [if_neg (show ¬ (false = true) by decide)] at H; exact H
  clear H
  have H := H1
  clear H1
  simp only [Option.some.injEq, Prod.mk.injEq] at H
  obtain ⟨rfl, rfl, rfl, rfl⟩ := H
  go_enter Tryd.func77, Tryd.ntmps77
  go_wp2_with (first | ((with_reducible refine gate_dst (N := 2) rfl ?_); refine box_event rfl (N := 2) rfl (cs := #[.int .i64 a0_0, .int .i64 a0_1, .string a0_2]) (t := 23) (by first | (go_simp; done) | (go_simp; rfl)) ?_; intro gb262 hg w58 hbox hb; have BK262 := Asd.mk (hbox); have GW262 := Asd.mk (bZ hg HB.out); have GE262 := GW262; replace HB := Asd.mk (bS hb HB.out); clear hb hbox hg) | ((with_reducible refine gate_dst (N := 3) rfl ?_); refine box_event rfl (N := 3) rfl (cs := #[.int .i64 a1_0, .int .i64 a1_1, .string a1_2]) (t := 23) (by first | (go_simp; done) | (go_simp; rfl)) ?_; intro gb263 hg w59 hbox hb; have BK263 := Asd.mk (hbox); have GW263 := Asd.mk (bZ hg HB.out); have GE263 := GW263; have NB262_263 := Asd.mk (bL hg BK262.out); have NB263_262 := Asd.mk (bG hg BK262.out); replace BK262 := Asd.mk (bB hb BK262.out); replace HB := Asd.mk (bS hb HB.out); clear hb hbox hg) | ((with_reducible refine gate_dst (N := 4) rfl ?_); refine box_event rfl (N := 4) rfl (cs := #[.int .i64 0, .int .i64 0, .string (⟨#[]⟩ : ByteArray)]) (t := 23) (by first | (go_simp; done) | (go_simp; rfl)) ?_; intro gb264 hg w60 hbox hb; have BK264 := Asd.mk (hbox); have GW264 := Asd.mk (bZ hg HB.out); have GE264 := GW264; have NB262_264 := Asd.mk (bL hg BK262.out); have NB264_262 := Asd.mk (bG hg BK262.out); have NB263_264 := Asd.mk (bL hg BK263.out); have NB264_263 := Asd.mk (bG hg BK263.out); replace BK262 := Asd.mk (bB hb BK262.out); replace BK263 := Asd.mk (bB hb BK263.out); replace HB := Asd.mk (bS hb HB.out); clear hb hbox hg; have hnb61 := NB262_263.out; have hnc61 := NB263_262.out; have hnb62 := NB262_264.out; have hnc62 := NB264_262.out; obtain ⟨hcz63_0, hcz63_1, hcz63_2⟩ := bkC3 BK262.out; obtain ⟨hfz63_0, hfz63_1, hfz63_2⟩ := bkF3 BK262.out; have hnb64 := NB263_264.out; have hnc64 := NB264_263.out; obtain ⟨hcz65_0, hcz65_1, hcz65_2⟩ := bkC3 BK263.out; obtain ⟨hfz65_0, hfz65_1, hfz65_2⟩ := bkF3 BK263.out) | ((with_reducible refine gate_callee (f := 100) rfl ?_); refine goesL_ (some 9) rfl rfl Tryd.func100 (by kernel_rfl) rfl #[.int .i64 1, .agg #[.int .i64 a0_0, .int .i64 a0_1, .string a0_2], .agg #[.int .i64 a1_0, .int .i64 a1_1, .string a1_2]] rfl (by (try simp only [List.map_toArray, List.map_cons, List.map_nil]); first | done | rfl | (simp only [List.length_drop, List.length_take]; rfl)) ?_; (with_reducible refine (q01_of.calls 1 a0_0 a0_1 a0_2 a1_0 a1_1 a1_2 false _ A3.out).mono ?_); rintro e w66 ⟨rfl, hb⟩; refine ⟨_, rfl, ?_⟩; replace BK262 := Asd.mk (bB hb BK262.out); replace BK263 := Asd.mk (bB hb BK263.out); replace BK264 := Asd.mk (bB hb BK264.out); replace HB := Asd.mk (bS hb HB.out); clear hb; obtain ⟨hcz67_0, hcz67_1, hcz67_2⟩ := bkC3 BK264.out; obtain ⟨hfz67_0, hfz67_1, hfz67_2⟩ := bkF3 BK264.out))
  refine bodyPost_ret (results_ct rfl _ _ gb264 23 #[.int .i64 0, .int .i64 0, .string (⟨#[]⟩ : ByteArray)] (0, 0) _ rfl (by refine blk_put (cs := #[.int .i64 0, .int .i64 0, .string (⟨#[]⟩ : ByteArray)]) ?_ 2 _ rfl; refine blk_put (cs := #[.int .i64 0, .int .i64 0, .string (⟨#[]⟩ : ByteArray)]) ?_ 1 _ rfl; refine blk_put (cs := #[.int .i64 0, .int .i64 0, .string (⟨#[]⟩ : ByteArray)]) ?_ 0 _ rfl; exact BK264.out) Tryd.underlying23 rfl (by kernel_rfl)) rfl ?_
  exact ⟨by first | rfl | (simp [errW_none, errW_some] <;> rfl) | (simp [*, errW_none, errW_some] <;> rfl), by repeat (first | (with_reducible first | exact HB.out | apply blA | apply pbN | apply blD | refine blS ?_ GE262.out | refine blS ?_ GE263.out | refine blS ?_ GE264.out) | exact HB.out)⟩
end Go.Proofs.YtkboodfnegedaaaDoor.E
