/- Contracts and plain lemmas of the functions that the law reaches, part 12. -/
import Derived.Test.YtkboodfnegedaaaDoorZV3
import Derived.Test.YtkboodfnegedaaaDoorZV4
import Derived.Test.YtkboodfnegedaaaDoorZV8
import Derived.Test.YtkboodfnegedaaaDoorZV9
namespace Go.Proofs.YtkboodfnegedaaaDoor.E
open Go.RowKit Go.Proofs.YtkboodfnegedaaaDoorW.PrintWords Go.Proofs.YtkboodfnegedaaaDoorW.PrintLast Go.Proofs.YtkboodfnegedaaaDoorW.PrintMore
attribute [local go_sem] max2_int min2_int max_two min_two max_three min_three max_four min_four   -- for this text's walks alone
set_option linter.unusedVariables false
set_option linter.unusedSimpArgs false
attribute [local go_sem high] eqA23
def q01_Or.j0 : Nat → Bool → Int → Int → ByteArray → Int → Int → ByteArray → Option (Int × Int × ByteArray × Int)
 | 0, _, _, _, _, _, _, _ => none
 | k + 1, x14, x296000, x296001, x296002, x297000, x297001, x297002 => if x14 = true then ((q01_Truth.f true).bind fun bt305 => (some (bt305.1, bt305.2.1, bt305.2.2, 0))) else (if x296000 = 0 then (some (0, 0, (⟨#[]⟩ : ByteArray), 0)) else (if x297000 = 0 then (some (0, 0, (⟨#[]⟩ : ByteArray), 0)) else ((q01_Truth.f false).bind fun bt308 => (some (bt308.1, bt308.2.1, bt308.2.2, 0)))))
def q01_Or.f (k : Nat) (a0_0 : Int) (a0_1 : Int) (a0_2 : ByteArray) (a1_0 : Int) (a1_1 : Int) (a1_2 : ByteArray) : Option (Int × Int × ByteArray × Int) := (q01_of.f 2 a0_0 a0_1 a0_2 a1_0 a1_1 a1_2).bind fun t298 => (if t298 = true then ((q01_Truth.f true).bind fun bt299 => (if (a0_0 == bt299.1 && (a0_1 == bt299.2.1 && (a0_2.toList == bt299.2.2.toList))) = true then (q01_Or.j0 k true a0_0 a0_1 a0_2 a1_0 a1_1 a1_2) else ((q01_Truth.f true).bind fun bt302 => (q01_Or.j0 k (a1_0 == bt302.1 && (a1_1 == bt302.2.1 && (a1_2.toList == bt302.2.2.toList))) a0_0 a0_1 a0_2 a1_0 a1_1 a1_2)))) else (some (0, 0, (⟨#[]⟩ : ByteArray), 1)))
def q01_Or.T4 : Bool × List (List Nat × List Nat) := (true, [([], []), ([], []), ([0, 1], [0, 1]), ([2, 1], [2]), ([3], [3]), ([3, 3], [3]), ([4, 5, 3], [3, 4, 5]), ([3, 6], [3, 6]), ([7, 5], [7])])
def q01_Or.B4 : List Nat := [0, 0, 3, 7, 15, 15, 63, 127, 255]
theorem q01_Or.tab4 : rtab .any (opsOf Tryd.f80 4) = q01_Or.T4 := by kernel_rfl
theorem q01_Or.bits4 : waitsOk q01_Or.T4.2 q01_Or.B4 = true := by kernel_rfl
set_option maxHeartbeats 8000000 in
set_option maxRecDepth 100000 in
theorem q01_Or.calls (k : Nat) (a0_0 : Int) (a0_1 : Int) (a0_2 : ByteArray) (a1_0 : Int) (a1_1 : Int) (a1_2 : ByteArray) (r1 : Int) (r2 : Int) (r3 : ByteArray) (r4 : Int) (w : World) (h : q01_Or.f k a0_0 a0_1 a0_2 a1_0 a1_1 a1_2 = some (r1, r2, r3, r4)) :
  Calls Tryd.prog 80 #[.agg #[.int .i64 a0_0, .int .i64 a0_1, .string a0_2], .agg #[.int .i64 a1_0, .int .i64 a1_1, .string a1_2]] w fun e w' => e = .returned (.tuple #[.agg #[.int .i64 r1, .int .i64 r2, .string r3], .int .i64 r4]) ∧ Below w.heap.size w w' := by
 have hu23 := Tryd.underlying23
 have HB := Asd.mk (Below.refl w.heap.size w)
 have H : ((q01_of.f 2 a0_0 a0_1 a0_2 a1_0 a1_1 a1_2).bind fun t298 => (if t298 = true then ((q01_Truth.f true).bind fun bt299 => (if (a0_0 == bt299.1 && (a0_1 == bt299.2.1 && (a0_2.toList == bt299.2.2.toList))) = true then (q01_Or.j0 k true a0_0 a0_1 a0_2 a1_0 a1_1 a1_2) else ((q01_Truth.f true).bind fun bt302 => (q01_Or.j0 k (a1_0 == bt302.1 && (a1_1 == bt302.2.1 && (a1_2.toList == bt302.2.2.toList))) a0_0 a0_1 a0_2 a1_0 a1_1 a1_2)))) else (some (0, 0, (⟨#[]⟩ : ByteArray), 1)))) = some (r1, r2, r3, r4) := h
 clear h
 replace H := Option.bind_eq_some_iff.mp H
 obtain ⟨t298, A30, H⟩ := H
 replace H : (if t298 = true then ((q01_Truth.f true).bind fun bt299 => (if (a0_0 == bt299.1 && (a0_1 == bt299.2.1 && (a0_2.toList == bt299.2.2.toList))) = true then (q01_Or.j0 k true a0_0 a0_1 a0_2 a1_0 a1_1 a1_2) else ((q01_Truth.f true).bind fun bt302 => (q01_Or.j0 k (a1_0 == bt302.1 && (a1_1 == bt302.2.1 && (a1_2.toList == bt302.2.2.toList))) a0_0 a0_1 a0_2 a1_0 a1_1 a1_2)))) else (some (0, 0, (⟨#[]⟩ : ByteArray), 1))) = some (r1, r2, r3, r4) := H
 have A3 := Asd.mk A30
 clear A30
 by_cases c4 : t298 = true
 ·subst c4
  have H1 : ((q01_Truth.f true).bind fun bt299 => (if (a0_0 == bt299.1 && (a0_1 == bt299.2.1 && (a0_2.toList == bt299.2.2.toList))) = true then (q01_Or.j0 k true a0_0 a0_1 a0_2 a1_0 a1_1 a1_2) else ((q01_Truth.f true).bind fun bt302 => (q01_Or.j0 k (a1_0 == bt302.1 && (a1_1 == bt302.2.1 && (a1_2.toList == bt302.2.2.toList))) a0_0 a0_1 a0_2 a1_0 a1_1 a1_2)))) = some (r1, r2, r3, r4) := by rw [if_pos rfl] at H; exact H
  clear H
  have H := H1
  clear H1
  have HC5 := Asd.mk H
  clear H
  go_enter Tryd.func80, Tryd.ntmps80
  go_upto_region 4 with (first | ((with_reducible refine gate_dst (N := 2) rfl ?_); refine box_event rfl (N := 2) rfl (cs := #[.int .i64 a0_0, .int .i64 a0_1, .string a0_2]) (t := 23) (by first | (go_simp; done) | (go_simp; rfl)) ?_; intro gb295 hg w6 hbox hb; have BK295 := Asd.mk (hbox); have GW295 := Asd.mk (bZ hg HB.out); have GE295 := GW295; replace HB := Asd.mk (bS hb HB.out); clear hb hbox hg) | ((with_reducible refine gate_dst (N := 3) rfl ?_); refine box_event rfl (N := 3) rfl (cs := #[.int .i64 a1_0, .int .i64 a1_1, .string a1_2]) (t := 23) (by first | (go_simp; done) | (go_simp; rfl)) ?_; intro gb296 hg w7 hbox hb; have BK296 := Asd.mk (hbox); have GW296 := Asd.mk (bZ hg HB.out); have GE296 := GW296; have NB295_296 := Asd.mk (bL hg BK295.out); have NB296_295 := Asd.mk (bG hg BK295.out); replace BK295 := Asd.mk (bB hb BK295.out); replace HB := Asd.mk (bS hb HB.out); clear hb hbox hg) | ((with_reducible refine gate_dst (N := 4) rfl ?_); refine box_event rfl (N := 4) rfl (cs := #[.int .i64 0, .int .i64 0, .string (⟨#[]⟩ : ByteArray)]) (t := 23) (by first | (go_simp; done) | (go_simp; rfl)) ?_; intro gb297 hg w8 hbox hb; have BK297 := Asd.mk (hbox); have GW297 := Asd.mk (bZ hg HB.out); have GE297 := GW297; have NB295_297 := Asd.mk (bL hg BK295.out); have NB297_295 := Asd.mk (bG hg BK295.out); have NB296_297 := Asd.mk (bL hg BK296.out); have NB297_296 := Asd.mk (bG hg BK296.out); replace BK295 := Asd.mk (bB hb BK295.out); replace BK296 := Asd.mk (bB hb BK296.out); replace HB := Asd.mk (bS hb HB.out); clear hb hbox hg; have hnb9 := NB295_296.out; have hnc9 := NB296_295.out; have hnb10 := NB295_297.out; have hnc10 := NB297_295.out; obtain ⟨hcz11_0, hcz11_1, hcz11_2⟩ := bkC3 BK295.out; obtain ⟨hfz11_0, hfz11_1, hfz11_2⟩ := bkF3 BK295.out; have hnb12 := NB296_297.out; have hnc12 := NB297_296.out; obtain ⟨hcz13_0, hcz13_1, hcz13_2⟩ := bkC3 BK296.out; obtain ⟨hfz13_0, hfz13_1, hfz13_2⟩ := bkF3 BK296.out) | ((with_reducible refine gate_callee (f := 100) rfl ?_); refine goesL_ (some 9) rfl rfl Tryd.func100 (by kernel_rfl) rfl #[.int .i64 2, .agg #[.int .i64 a0_0, .int .i64 a0_1, .string a0_2], .agg #[.int .i64 a1_0, .int .i64 a1_1, .string a1_2]] rfl (by (try simp only [List.map_toArray, List.map_cons, List.map_nil]); first | done | rfl | (simp only [List.length_drop, List.length_take]; rfl)) ?_; (with_reducible refine (q01_of.calls 2 a0_0 a0_1 a0_2 a1_0 a1_1 a1_2 true _ A3.out).mono ?_); rintro e w14 ⟨rfl, hb⟩; refine ⟨_, rfl, ?_⟩; replace BK295 := Asd.mk (bB hb BK295.out); replace BK296 := Asd.mk (bB hb BK296.out); replace BK297 := Asd.mk (bB hb BK297.out); replace HB := Asd.mk (bS hb HB.out); clear hb))
  (try simp only [Act.put, List.setIfInBounds_toArray, List.set_cons_zero, List.set_cons_succ])
  go_cut [14] (fun v14 wc => ∃ (kq : Nat) (x14_4 : Bool), v14 = .bool x14_4 ∧ Asd (q01_Or.j0 kq x14_4 a0_0 a0_1 a0_2 a1_0 a1_1 a1_2 = some (r1, r2, r3, r4)) ∧ Asd (kq ≤ k) ∧ Asd (wc.heap[gb295]? = some (.cells #[.int .i64 a0_0, .int .i64 a0_1, .string a0_2] 23 (0, 0))) ∧ Asd (wc.heap[gb296]? = some (.cells #[.int .i64 a1_0, .int .i64 a1_1, .string a1_2] 23 (0, 0))) ∧ Asd (wc.heap[gb297]? = some (.cells #[.int .i64 0, .int .i64 0, .string (⟨#[]⟩ : ByteArray)] 23 (0, 0))) ∧ Asd (Below w.heap.size w wc))
  case first =>
   have H := HC5.out
   clear HC5
   replace H := Option.bind_eq_some_iff.mp H
   obtain ⟨⟨t299, t300, t301⟩, A150, H⟩ := H
   replace H : (if (a0_0 == t299 && (a0_1 == t300 && (a0_2.toList == t301.toList))) = true then (q01_Or.j0 k true a0_0 a0_1 a0_2 a1_0 a1_1 a1_2) else ((q01_Truth.f true).bind fun bt302 => (q01_Or.j0 k (a1_0 == bt302.1 && (a1_1 == bt302.2.1 && (a1_2.toList == bt302.2.2.toList))) a0_0 a0_1 a0_2 a1_0 a1_1 a1_2))) = some (r1, r2, r3, r4) := H
   have A15 := Asd.mk A150
   clear A150
   by_cases c16 : (a0_0 == t299 && (a0_1 == t300 && (a0_2.toList == t301.toList))) = true
   ·rw [if_pos c16] at H
    have c16b0 : (a0_0 == t299 && (a0_1 == t300 && (a0_2.toList == t301.toList))) = true := c16
    (try (have c16b1 : decide (a0_0 = t299 && (a0_1 == t300 && (a0_2.toList == t301.toList))) = true := by simpa using c16))
    (try (have c16b2 : (a0_0 == t299 && (a0_1 == t300 && (a0_2.toList == t301.toList))) = true := by simpa using c16))
    clear c16
    (first | rw [c16b0] | (simp only [i64_w, i32_w]; rw [c16b0]) | skip)
    have H' := Asd.mk H
    clear H
    try go_wp2
    have n0_ := Asd.mk (bkD BK295.out)
    have n1_ := Asd.mk (bkD BK296.out)
    have n2_ := Asd.mk (bkD BK297.out)
    have n3_ := Asd.mk (blD HB.out)
    clear BK295 BK296 BK297 HB
    have BK295 := n0_
    have BK296 := n1_
    have BK297 := n2_
    have HB := n3_
    clear n0_ n1_ n2_ n3_
    refine start_ (n := 9) (S := fun w' => w'.cell? ⟨gb295, 0, none⟩ = some (.int .i64 a0_0) ∧ w'.cell? ⟨gb295, 1, none⟩ = some (.int .i64 a0_1) ∧ w'.cell? ⟨gb295, 2, none⟩ = some (.string a0_2)) (ds := []) #[false, false, false, false, false, false, false, false, false] (by kernel_rfl) rfl rfl ⟨(bkC BK295.out 0).trans rfl, (bkC BK295.out 1).trans rfl, (bkC BK295.out 2).trans rfl⟩ (fun hHeld => ?_); refine with_tabW q01_Or.tab4 q01_Or.bits4 (fun HT_ HW_ => ?_)
    generalize w14.drew = w17 at BK295 BK296 BK297 HB hHeld ⊢
    refine take_ (i := 0) (N := some 15) (v := ?_) (a' := ?_) #[true, false, false, false, false, false, false, false, false] rfl rfl (take_ofW HT_.out HW_.out (by kernel_rfl)) (fun _ _ _ h => h) (Or.inl ⟨by rfl, ?_⟩) hHeld ?_ ?_
    rotate_left
    ·rintro w' ⟨s0, s1, s2⟩
     go_simp
     with_reducible rfl
    rotate_left
    ·simp only [Act.put, List.setIfInBounds_toArray, List.set_cons_zero, List.set_cons_succ, i64_w, i32_w]
     rfl
    refine one_ (i := 1) (N := some 16) #[true, true, false, false, false, false, false, false, false] rfl rfl (one_of HT_.out (by kernel_rfl)) (by decide) (fun K hK => ?_)
    refine goes_ Tryd.func82 (by kernel_rfl) rfl #[.bool true] (by rfl) rfl rfl (by (try simp only [List.map_toArray, List.map_cons, List.map_nil]); first | done | rfl | (simp only [List.length_drop, List.length_take]; rfl)) ?_
    with_reducible refine (q01_Truth.calls true t299 t300 t301 _ A15.out).mono ?_
    rintro e w18 ⟨rfl, hb⟩
    refine ⟨_, rfl, ?_⟩
    have n0_ := Asd.mk (bB hb BK295.out)
    have n1_ := Asd.mk (bB hb BK296.out)
    have n2_ := Asd.mk (bB hb BK297.out)
    have n3_ := Asd.mk (bS hb HB.out)
    clear BK295 BK296 BK297 HB
    have BK295 := n0_
    have BK296 := n1_
    have BK297 := n2_
    have HB := n3_
    clear n0_ n1_ n2_ n3_
    (try clear hb)
    (try clear hb2)
    (try clear hk)
    (try clear hi)
    refine hK.out _ _ ⟨(bkC BK295.out 0).trans rfl, (bkC BK295.out 1).trans rfl, (bkC BK295.out 2).trans rfl⟩ (fun hHeld => ?_)
    clear hK K
    refine norm_ (a' := ?_) ?_ ?_
    rotate_left
    ·show Act.put _ (some 16) _ = _
     simp only [Act.put, List.setIfInBounds_toArray, List.set_cons_zero, List.set_cons_succ, i64_w, i32_w]
     rfl
    refine pure_ (i := 2) (N := some 17) (v := ?_) (a' := ?_) #[true, true, true, false, false, false, false, false, false] rfl rfl (any_of HT_.out (by kernel_rfl)) (fun _ _ _ h => h) (Or.inl ⟨by rfl, ?_⟩) ?_ ?_
    rotate_left
    ·intro w'
     go_simp
     with_reducible rfl
    rotate_left
    ·simp only [Act.put, List.setIfInBounds_toArray, List.set_cons_zero, List.set_cons_succ, i64_w, i32_w]
     rfl
    refine pure_ (i := 3) (N := some 18) (v := ?_) (a' := ?_) #[true, true, true, true, false, false, false, false, false] rfl rfl (any_of HT_.out (by kernel_rfl)) (fun _ _ _ h => h) (Or.inl ⟨by rfl, ?_⟩) ?_ ?_
    rotate_left
    ·intro w'
     go_simp
     with_reducible rfl
    rotate_left
    ·simp only [Act.put, List.setIfInBounds_toArray, List.set_cons_zero, List.set_cons_succ, i64_w, i32_w]
     rfl
    refine pure_ (i := 4) (N := some 19) (v := undef) (a' := ?_) #[true, true, true, true, true, false, false, false, false] rfl rfl (any_of HT_.out (by kernel_rfl)) (fun _ _ _ h => h) (Or.inr ⟨by rfl, rfl⟩) ?_ ?_
    rotate_left
    ·simp only [Act.put, List.setIfInBounds_toArray, List.set_cons_zero, List.set_cons_succ, i64_w, i32_w]
     rfl
    refine pure_ (i := 5) (N := some 20) (v := undef) (a' := ?_) #[true, true, true, true, true, true, false, false, false] rfl rfl (any_of HT_.out (by kernel_rfl)) (fun _ _ _ h => h) (Or.inr ⟨by rfl, rfl⟩) ?_ ?_
    rotate_left
    ·simp only [Act.put, List.setIfInBounds_toArray, List.set_cons_zero, List.set_cons_succ, i64_w, i32_w]
     rfl
    refine pure_ (i := 6) (N := some 21) (v := undef) (a' := ?_) #[true, true, true, true, true, true, true, false, false] rfl rfl (any_of HT_.out (by kernel_rfl)) (fun _ _ _ h => h) (Or.inr ⟨by rfl, rfl⟩) ?_ ?_
    rotate_left
    ·simp only [Act.put, List.setIfInBounds_toArray, List.set_cons_zero, List.set_cons_succ, i64_w, i32_w]
     rfl
    refine pure_ (i := 7) (N := some 22) (v := ?_) (a' := ?_) #[true, true, true, true, true, true, true, true, false] rfl rfl (any_of HT_.out (by kernel_rfl)) (fun _ _ _ h => h) (Or.inl ⟨by rfl, ?_⟩) ?_ ?_
    rotate_left
    ·intro w'
     go_simp
     with_reducible rfl
    rotate_left
    ·simp only [Act.put, List.setIfInBounds_toArray, List.set_cons_zero, List.set_cons_succ, i64_w, i32_w]
     rfl
    refine pure_ (i := 8) (N := some 14) (v := ?_) (a' := ?_) #[true, true, true, true, true, true, true, true, true] rfl rfl (any_of HT_.out (by kernel_rfl)) (fun _ _ _ h => h) (Or.inl ⟨by rfl, ?_⟩) ?_ ?_
    rotate_left
    ·intro w'
     go_simp
     with_reducible rfl
    rotate_left
    ·simp only [Act.put, List.setIfInBounds_toArray, List.set_cons_zero, List.set_cons_succ, i64_w, i32_w]
     rfl
    refine done_ (done_of HT_.out (by kernel_rfl)) ?_
    try go_wp2
    go_meet
    case rel => exact ⟨_, (true), (by first | rfl | (simp; done) | (simp [*]; done)), H', ⟨by first | omega | exact Nat.le_refl _⟩, ⟨by exact BK295.out⟩, ⟨by exact BK296.out⟩, ⟨by exact BK297.out⟩, ⟨by repeat (first | (with_reducible first | exact HB.out | apply blA | apply pbN | apply blD | refine blS ?_ GE295.out | refine blS ?_ GE296.out | refine blS ?_ GE297.out) | exact HB.out)⟩⟩
   ·rw [if_neg c16] at H
    have c16b0 : (a0_0 == t299 && (a0_1 == t300 && (a0_2.toList == t301.toList))) = false := by simpa using c16
    (try (have c16b1 : decide (a0_0 = t299 && (a0_1 == t300 && (a0_2.toList == t301.toList))) = false := by simpa using c16))
    (try (have c16b2 : (a0_0 == t299 && (a0_1 == t300 && (a0_2.toList == t301.toList))) = false := by simpa using c16))
    (try (have c16b3 : ¬ (a0_0 = t299 && (a0_1 == t300 && (a0_2.toList == t301.toList))) := by simpa using c16))
    clear c16
    (first | rw [c16b0] | (simp only [i64_w, i32_w]; rw [c16b0]) | skip)
    replace H := Option.bind_eq_some_iff.mp H
    obtain ⟨⟨t302, t303, t304⟩, A190, H⟩ := H
    replace H : (q01_Or.j0 k (a1_0 == t302 && (a1_1 == t303 && (a1_2.toList == t304.toList))) a0_0 a0_1 a0_2 a1_0 a1_1 a1_2) = some (r1, r2, r3, r4) := H
    have A19 := Asd.mk A190
    clear A190
    have H' := Asd.mk H
    clear H
    try go_wp2
    have n0_ := Asd.mk (bkD BK295.out)
    have n1_ := Asd.mk (bkD BK296.out)
    have n2_ := Asd.mk (bkD BK297.out)
    have n3_ := Asd.mk (blD HB.out)
    clear BK295 BK296 BK297 HB
    have BK295 := n0_
    have BK296 := n1_
    have BK297 := n2_
    have HB := n3_
    clear n0_ n1_ n2_ n3_
    refine start_ (n := 9) (S := fun w' => w'.cell? ⟨gb295, 0, none⟩ = some (.int .i64 a0_0) ∧ w'.cell? ⟨gb295, 1, none⟩ = some (.int .i64 a0_1) ∧ w'.cell? ⟨gb295, 2, none⟩ = some (.string a0_2) ∧ w'.cell? ⟨gb296, 0, none⟩ = some (.int .i64 a1_0) ∧ w'.cell? ⟨gb296, 1, none⟩ = some (.int .i64 a1_1) ∧ w'.cell? ⟨gb296, 2, none⟩ = some (.string a1_2)) (ds := []) #[false, false, false, false, false, false, false, false, false] (by kernel_rfl) rfl rfl ⟨(bkC BK295.out 0).trans rfl, (bkC BK295.out 1).trans rfl, (bkC BK295.out 2).trans rfl, (bkC BK296.out 0).trans rfl, (bkC BK296.out 1).trans rfl, (bkC BK296.out 2).trans rfl⟩ (fun hHeld => ?_); refine with_tabW q01_Or.tab4 q01_Or.bits4 (fun HT_ HW_ => ?_)
    generalize w14.drew = w20 at BK295 BK296 BK297 HB hHeld ⊢
    refine take_ (i := 0) (N := some 15) (v := ?_) (a' := ?_) #[true, false, false, false, false, false, false, false, false] rfl rfl (take_ofW HT_.out HW_.out (by kernel_rfl)) (fun _ _ _ h => h) (Or.inl ⟨by rfl, ?_⟩) hHeld ?_ ?_
    rotate_left
    ·rintro w' ⟨s0, s1, s2, s3, s4, s5⟩
     go_simp
     with_reducible rfl
    rotate_left
    ·simp only [Act.put, List.setIfInBounds_toArray, List.set_cons_zero, List.set_cons_succ, i64_w, i32_w]
     rfl
    refine one_ (i := 1) (N := some 16) #[true, true, false, false, false, false, false, false, false] rfl rfl (one_of HT_.out (by kernel_rfl)) (by decide) (fun K hK => ?_)
    refine goes_ Tryd.func82 (by kernel_rfl) rfl #[.bool true] (by rfl) rfl rfl (by (try simp only [List.map_toArray, List.map_cons, List.map_nil]); first | done | rfl | (simp only [List.length_drop, List.length_take]; rfl)) ?_
    with_reducible refine (q01_Truth.calls true t299 t300 t301 _ A15.out).mono ?_
    rintro e w21 ⟨rfl, hb⟩
    refine ⟨_, rfl, ?_⟩
    have n0_ := Asd.mk (bB hb BK295.out)
    have n1_ := Asd.mk (bB hb BK296.out)
    have n2_ := Asd.mk (bB hb BK297.out)
    have n3_ := Asd.mk (bS hb HB.out)
    clear BK295 BK296 BK297 HB
    have BK295 := n0_
    have BK296 := n1_
    have BK297 := n2_
    have HB := n3_
    clear n0_ n1_ n2_ n3_
    (try clear hb)
    (try clear hb2)
    (try clear hk)
    (try clear hi)
    refine hK.out _ _ ⟨(bkC BK295.out 0).trans rfl, (bkC BK295.out 1).trans rfl, (bkC BK295.out 2).trans rfl, (bkC BK296.out 0).trans rfl, (bkC BK296.out 1).trans rfl, (bkC BK296.out 2).trans rfl⟩ (fun hHeld => ?_)
    clear hK K
    refine norm_ (a' := ?_) ?_ ?_
    rotate_left
    ·show Act.put _ (some 16) _ = _
     simp only [Act.put, List.setIfInBounds_toArray, List.set_cons_zero, List.set_cons_succ, i64_w, i32_w]
     rfl
    refine pure_ (i := 2) (N := some 17) (v := ?_) (a' := ?_) #[true, true, true, false, false, false, false, false, false] rfl rfl (any_of HT_.out (by kernel_rfl)) (fun _ _ _ h => h) (Or.inl ⟨by rfl, ?_⟩) ?_ ?_
    rotate_left
    ·intro w'
     go_simp
     with_reducible rfl
    rotate_left
    ·simp only [Act.put, List.setIfInBounds_toArray, List.set_cons_zero, List.set_cons_succ, i64_w, i32_w]
     rfl
    refine pure_ (i := 3) (N := some 18) (v := ?_) (a' := ?_) #[true, true, true, true, false, false, false, false, false] rfl rfl (any_of HT_.out (by kernel_rfl)) (fun _ _ _ h => h) (Or.inl ⟨by rfl, ?_⟩) ?_ ?_
    rotate_left
    ·intro w'
     go_simp
     with_reducible rfl
    rotate_left
    ·simp only [Act.put, List.setIfInBounds_toArray, List.set_cons_zero, List.set_cons_succ, i64_w, i32_w]
     rfl
    refine take_ (i := 4) (N := some 19) (v := ?_) (a' := ?_) #[true, true, true, true, true, false, false, false, false] rfl rfl (take_ofW HT_.out HW_.out (by kernel_rfl)) (fun _ _ _ h => h) (Or.inl ⟨by rfl, ?_⟩) hHeld ?_ ?_
    rotate_left
    ·rintro w' ⟨s0, s1, s2, s3, s4, s5⟩
     go_simp
     with_reducible rfl
    rotate_left
    ·simp only [Act.put, List.setIfInBounds_toArray, List.set_cons_zero, List.set_cons_succ, i64_w, i32_w]
     rfl
    refine one_ (i := 5) (N := some 20) #[true, true, true, true, true, true, false, false, false] rfl rfl (one_of HT_.out (by kernel_rfl)) (by decide) (fun K hK => ?_)
    refine goes_ Tryd.func82 (by kernel_rfl) rfl #[.bool true] (by rfl) rfl rfl (by (try simp only [List.map_toArray, List.map_cons, List.map_nil]); first | done | rfl | (simp only [List.length_drop, List.length_take]; rfl)) ?_
    with_reducible refine (q01_Truth.calls true t302 t303 t304 _ A19.out).mono ?_
    rintro e w22 ⟨rfl, hb⟩
    refine ⟨_, rfl, ?_⟩
    have n0_ := Asd.mk (bB hb BK295.out)
    have n1_ := Asd.mk (bB hb BK296.out)
    have n2_ := Asd.mk (bB hb BK297.out)
    have n3_ := Asd.mk (bS hb HB.out)
    clear BK295 BK296 BK297 HB
    have BK295 := n0_
    have BK296 := n1_
    have BK297 := n2_
    have HB := n3_
    clear n0_ n1_ n2_ n3_
    (try clear hb)
    (try clear hb2)
    (try clear hk)
    (try clear hi)
    refine hK.out _ _ ⟨(bkC BK295.out 0).trans rfl, (bkC BK295.out 1).trans rfl, (bkC BK295.out 2).trans rfl, (bkC BK296.out 0).trans rfl, (bkC BK296.out 1).trans rfl, (bkC BK296.out 2).trans rfl⟩ (fun hHeld => ?_)
    clear hK K
    refine norm_ (a' := ?_) ?_ ?_
    rotate_left
    ·show Act.put _ (some 20) _ = _
     simp only [Act.put, List.setIfInBounds_toArray, List.set_cons_zero, List.set_cons_succ, i64_w, i32_w]
     rfl
    refine pure_ (i := 6) (N := some 21) (v := ?_) (a' := ?_) #[true, true, true, true, true, true, true, false, false] rfl rfl (any_of HT_.out (by kernel_rfl)) (fun _ _ _ h => h) (Or.inl ⟨by rfl, ?_⟩) ?_ ?_
    rotate_left
    ·intro w'
     go_simp
     with_reducible rfl
    rotate_left
    ·simp only [Act.put, List.setIfInBounds_toArray, List.set_cons_zero, List.set_cons_succ, i64_w, i32_w]
     rfl
    refine pure_ (i := 7) (N := some 22) (v := ?_) (a' := ?_) #[true, true, true, true, true, true, true, true, false] rfl rfl (any_of HT_.out (by kernel_rfl)) (fun _ _ _ h => h) (Or.inl ⟨by rfl, ?_⟩) ?_ ?_
    rotate_left
    ·intro w'
     go_simp
     with_reducible rfl
    rotate_left
    ·simp only [Act.put, List.setIfInBounds_toArray, List.set_cons_zero, List.set_cons_succ, i64_w, i32_w]
     rfl
    refine pure_ (i := 8) (N := some 14) (v := ?_) (a' := ?_) #[true, true, true, true, true, true, true, true, true] rfl rfl (any_of HT_.out (by kernel_rfl)) (fun _ _ _ h => h) (Or.inl ⟨by rfl, ?_⟩) ?_ ?_
    rotate_left
    ·intro w'
     go_simp
     with_reducible rfl
    rotate_left
    ·simp only [Act.put, List.setIfInBounds_toArray, List.set_cons_zero, List.set_cons_succ, i64_w, i32_w]
     rfl
    refine done_ (done_of HT_.out (by kernel_rfl)) ?_
    try go_wp2
    go_meet
    case rel => exact ⟨_, ((a1_0 == t302 && (a1_1 == t303 && (a1_2.toList == t304.toList)))), (by first | rfl | (simp; done) | (simp [*]; done)), H', ⟨by first | omega | exact Nat.le_refl _⟩, ⟨by exact BK295.out⟩, ⟨by exact BK296.out⟩, ⟨by exact BK297.out⟩, ⟨by repeat (first | (with_reducible first | exact HB.out | apply blA | apply pbN | apply blD | refine blS ?_ GE295.out | refine blS ?_ GE296.out | refine blS ?_ GE297.out) | exact HB.out)⟩⟩
  case rest =>
   clear HC5
   try clear c1
   try clear p2
   try clear c4
   try clear c8
   try clear c9
   try clear c10
   try clear c12
   try clear c16
   try clear c16b0
   try clear c16b1
   try clear c16b2
   try clear hcz11_0
   try clear hcz11_1
   try clear hcz11_2
   try clear hcz13_0
   try clear hcz13_1
   try clear hcz13_2
   try clear hfz11_0
   try clear hfz11_1
   try clear hfz11_2
   try clear hfz13_0
   try clear hfz13_1
   try clear hfz13_2
   obtain ⟨kq, x14_4, rfl, HA, HJ4, BK295, BK296, BK297, HB⟩ := hcut
   cases kq with
   | zero => exact absurd HA.out (by simp [q01_Or.j0])
   | succ kj4 =>
    have H := HA.out
    clear HA
    simp only [q01_Or.j0] at H
    by_cases c23 : x14_4 = true
    ·subst c23
     have H1 : ((q01_Truth.f true).bind fun bt305 => (some (bt305.1, bt305.2.1, bt305.2.2, 0))) = some (r1, r2, r3, r4) := by rw [if_pos rfl] at H; exact H
     clear H
     have H := H1
     clear H1
     replace H := Option.bind_eq_some_iff.mp H
     obtain ⟨⟨t305, t306, t307⟩, A240, H⟩ := H
     replace H : (some (t305, t306, t307, 0)) = some (r1, r2, r3, r4) := H
     have A24 := Asd.mk A240
     clear A240
     simp only [Option.some.injEq, Prod.mk.injEq] at H
     obtain ⟨rfl, rfl, rfl, rfl⟩ := H
     go_wp2_with (first | ((with_reducible refine gate_callee (f := 82) rfl ?_); refine goesL_ (some 23) rfl rfl Tryd.func82 (by kernel_rfl) rfl #[.bool true] rfl (by (try simp only [List.map_toArray, List.map_cons, List.map_nil]); first | done | rfl | (simp only [List.length_drop, List.length_take]; rfl)) ?_; (with_reducible refine (q01_Truth.calls true t305 t306 t307 _ A24.out).mono ?_); rintro e w25 ⟨rfl, hb⟩; refine ⟨_, rfl, ?_⟩; replace BK295 := Asd.mk (bB hb BK295.out); replace BK296 := Asd.mk (bB hb BK296.out); replace BK297 := Asd.mk (bB hb BK297.out); replace HB := Asd.mk (bS hb HB.out); clear hb; have hnb26 := NB297_295.out; have hnc26 := NB295_297.out; have hnb27 := NB297_296.out; have hnc27 := NB296_297.out; obtain ⟨hcz28_0, hcz28_1, hcz28_2⟩ := bkC3 BK297.out; obtain ⟨hfz28_0, hfz28_1, hfz28_2⟩ := bkF3 BK297.out))
     refine bodyPost_ret (results_ct rfl _ _ gb297 23 #[.int .i64 t305, .int .i64 t306, .string t307] (0, 0) _ rfl (by refine blk_put (cs := #[.int .i64 t305, .int .i64 t306, .string (⟨#[]⟩ : ByteArray)]) ?_ 2 _ rfl; refine blk_put (cs := #[.int .i64 t305, .int .i64 0, .string (⟨#[]⟩ : ByteArray)]) ?_ 1 _ rfl; refine blk_put (cs := #[.int .i64 0, .int .i64 0, .string (⟨#[]⟩ : ByteArray)]) ?_ 0 _ rfl; exact BK297.out) Tryd.underlying23 rfl (by kernel_rfl)) rfl ?_
     exact ⟨by first | rfl | (simp [errW_none, errW_some] <;> rfl) | (simp [*, errW_none, errW_some] <;> rfl), by repeat (first | (with_reducible first | exact HB.out | apply blA | apply pbN | apply blD | refine blS ?_ GE295.out | refine blS ?_ GE296.out | refine blS ?_ GE297.out) | exact HB.out)⟩
    ·replace c23 := Bool.eq_false_iff.mpr c23
     subst c23
     have H1 : (if a0_0 = 0 then (some (0, 0, (⟨#[]⟩ : ByteArray), 0)) else (if a1_0 = 0 then (some (0, 0, (⟨#[]⟩ : ByteArray), 0)) else ((q01_Truth.f false).bind fun bt308 => (some (bt308.1, bt308.2.1, bt308.2.2, 0))))) = some (r1, r2, r3, r4) := by rw [if_neg (show ¬ (false = true) by decide)] at H; exact H
     clear H
     have H := H1
     clear H1
     by_cases c29 : a0_0 = 0
     ·rw [if_pos c29] at H
      have c29b0 : (a0_0 == 0) = true := beq_iff_eq.mpr c29
      have c29b1 : (a0_0 != 0) = false := bne_eq_false_iff_eq.mpr c29
      clear c29
      simp only [Option.some.injEq, Prod.mk.injEq] at H
      obtain ⟨rfl, rfl, rfl, rfl⟩ := H
      have hnb30 := NB295_296.out
      have hnc30 := NB296_295.out
      have hnb31 := NB295_297.out
      have hnc31 := NB297_295.out
      obtain ⟨hcz32_0, hcz32_1, hcz32_2⟩ := bkC3 BK295.out
      obtain ⟨hfz32_0, hfz32_1, hfz32_2⟩ := bkF3 BK295.out
      have hnb33 := NB297_296.out
      have hnc33 := NB296_297.out
      obtain ⟨hcz34_0, hcz34_1, hcz34_2⟩ := bkC3 BK297.out
      obtain ⟨hfz34_0, hfz34_1, hfz34_2⟩ := bkF3 BK297.out
      go_wp2
      refine bodyPost_ret (results_ct rfl _ _ gb297 23 #[.int .i64 0, .int .i64 0, .string (⟨#[]⟩ : ByteArray)] (0, 0) _ rfl (by refine blk_put (cs := #[.int .i64 0, .int .i64 0, .string (⟨#[]⟩ : ByteArray)]) ?_ 2 _ rfl; refine blk_put (cs := #[.int .i64 0, .int .i64 0, .string (⟨#[]⟩ : ByteArray)]) ?_ 1 _ rfl; refine blk_put (cs := #[.int .i64 0, .int .i64 0, .string (⟨#[]⟩ : ByteArray)]) ?_ 0 _ rfl; exact BK297.out) Tryd.underlying23 rfl (by kernel_rfl)) rfl ?_
      exact ⟨by first | rfl | (simp [errW_none, errW_some] <;> rfl) | (simp [*, errW_none, errW_some] <;> rfl), by repeat (first | (with_reducible first | exact HB.out | apply blA | apply pbN | apply blD | refine blS ?_ GE295.out | refine blS ?_ GE296.out | refine blS ?_ GE297.out) | exact HB.out)⟩
     ·rw [if_neg c29] at H
      have c29b0 : (a0_0 == 0) = false := beq_eq_false_iff_ne.mpr c29
      have c29b1 : (a0_0 != 0) = true := bne_iff_ne.mpr c29
      by_cases c35 : a1_0 = 0
      ·rw [if_pos c35] at H
       have c35b0 : (a1_0 == 0) = true := beq_iff_eq.mpr c35
       have c35b1 : (a1_0 != 0) = false := bne_eq_false_iff_eq.mpr c35
       clear c35
       simp only [Option.some.injEq, Prod.mk.injEq] at H
       obtain ⟨rfl, rfl, rfl, rfl⟩ := H
       have hnb36 := NB295_296.out
       have hnc36 := NB296_295.out
       have hnb37 := NB295_297.out
       have hnc37 := NB297_295.out
       obtain ⟨hcz38_0, hcz38_1, hcz38_2⟩ := bkC3 BK295.out
       obtain ⟨hfz38_0, hfz38_1, hfz38_2⟩ := bkF3 BK295.out
       have hnb39 := NB296_297.out
       have hnc39 := NB297_296.out
       obtain ⟨hcz40_0, hcz40_1, hcz40_2⟩ := bkC3 BK296.out
       obtain ⟨hfz40_0, hfz40_1, hfz40_2⟩ := bkF3 BK296.out
       obtain ⟨hcz41_0, hcz41_1, hcz41_2⟩ := bkC3 BK297.out
       obtain ⟨hfz41_0, hfz41_1, hfz41_2⟩ := bkF3 BK297.out
       go_wp2
       refine bodyPost_ret (results_ct rfl _ _ gb297 23 #[.int .i64 0, .int .i64 0, .string (⟨#[]⟩ : ByteArray)] (0, 0) _ rfl (by refine blk_put (cs := #[.int .i64 0, .int .i64 0, .string (⟨#[]⟩ : ByteArray)]) ?_ 2 _ rfl; refine blk_put (cs := #[.int .i64 0, .int .i64 0, .string (⟨#[]⟩ : ByteArray)]) ?_ 1 _ rfl; refine blk_put (cs := #[.int .i64 0, .int .i64 0, .string (⟨#[]⟩ : ByteArray)]) ?_ 0 _ rfl; exact BK297.out) Tryd.underlying23 rfl (by kernel_rfl)) rfl ?_
       exact ⟨by first | rfl | (simp [errW_none, errW_some] <;> rfl) | (simp [*, errW_none, errW_some] <;> rfl), by repeat (first | (with_reducible first | exact HB.out | apply blA | apply pbN | apply blD | refine blS ?_ GE295.out | refine blS ?_ GE296.out | refine blS ?_ GE297.out) | exact HB.out)⟩
      ·rw [if_neg c35] at H
       have c35b0 : (a1_0 == 0) = false := beq_eq_false_iff_ne.mpr c35
       have c35b1 : (a1_0 != 0) = true := bne_iff_ne.mpr c35
       replace H := Option.bind_eq_some_iff.mp H
       obtain ⟨⟨t308, t309, t310⟩, A420, H⟩ := H
       replace H : (some (t308, t309, t310, 0)) = some (r1, r2, r3, r4) := H
       have A42 := Asd.mk A420
       clear A420
       simp only [Option.some.injEq, Prod.mk.injEq] at H
       obtain ⟨rfl, rfl, rfl, rfl⟩ := H
       have hnb43 := NB295_296.out
       have hnc43 := NB296_295.out
       have hnb44 := NB295_297.out
       have hnc44 := NB297_295.out
       obtain ⟨hcz45_0, hcz45_1, hcz45_2⟩ := bkC3 BK295.out
       obtain ⟨hfz45_0, hfz45_1, hfz45_2⟩ := bkF3 BK295.out
       have hnb46 := NB296_297.out
       have hnc46 := NB297_296.out
       obtain ⟨hcz47_0, hcz47_1, hcz47_2⟩ := bkC3 BK296.out
       obtain ⟨hfz47_0, hfz47_1, hfz47_2⟩ := bkF3 BK296.out
       go_wp2_with (first | ((with_reducible refine gate_callee (f := 82) rfl ?_); refine goesL_ (some 34) rfl rfl Tryd.func82 (by kernel_rfl) rfl #[.bool false] rfl (by (try simp only [List.map_toArray, List.map_cons, List.map_nil]); first | done | rfl | (simp only [List.length_drop, List.length_take]; rfl)) ?_; (with_reducible refine (q01_Truth.calls false t308 t309 t310 _ A42.out).mono ?_); rintro e w48 ⟨rfl, hb⟩; refine ⟨_, rfl, ?_⟩; replace BK295 := Asd.mk (bB hb BK295.out); replace BK296 := Asd.mk (bB hb BK296.out); replace BK297 := Asd.mk (bB hb BK297.out); replace HB := Asd.mk (bS hb HB.out); clear hb; obtain ⟨hcz49_0, hcz49_1, hcz49_2⟩ := bkC3 BK297.out; obtain ⟨hfz49_0, hfz49_1, hfz49_2⟩ := bkF3 BK297.out))
       refine bodyPost_ret (results_ct rfl _ _ gb297 23 #[.int .i64 t308, .int .i64 t309, .string t310] (0, 0) _ rfl (by refine blk_put (cs := #[.int .i64 t308, .int .i64 t309, .string (⟨#[]⟩ : ByteArray)]) ?_ 2 _ rfl; refine blk_put (cs := #[.int .i64 t308, .int .i64 0, .string (⟨#[]⟩ : ByteArray)]) ?_ 1 _ rfl; refine blk_put (cs := #[.int .i64 0, .int .i64 0, .string (⟨#[]⟩ : ByteArray)]) ?_ 0 _ rfl; exact BK297.out) Tryd.underlying23 rfl (by kernel_rfl)) rfl ?_
       exact ⟨by first | rfl | (simp [errW_none, errW_some] <;> rfl) | (simp [*, errW_none, errW_some] <;> rfl), by repeat (first | (with_reducible first | exact HB.out | apply blA | apply pbN | apply blD | refine blS ?_ GE295.out | refine blS ?_ GE296.out | refine blS ?_ GE297.out) | exact HB.out)⟩
 ·replace c4 := Bool.eq_false_iff.mpr c4
  subst c4
  have H1 : (some (0, 0, (⟨#[]⟩ : ByteArray), 1)) = some (r1, r2, r3, r4) := by rw [if_neg (show ¬ (false = true) by decide)] at H; exact H
  clear H
  have H := H1
  clear H1
  simp only [Option.some.injEq, Prod.mk.injEq] at H
  obtain ⟨rfl, rfl, rfl, rfl⟩ := H
  go_enter Tryd.func80, Tryd.ntmps80
  go_wp2_with (first | ((with_reducible refine gate_dst (N := 2) rfl ?_); refine box_event rfl (N := 2) rfl (cs := #[.int .i64 a0_0, .int .i64 a0_1, .string a0_2]) (t := 23) (by first | (go_simp; done) | (go_simp; rfl)) ?_; intro gb295 hg w50 hbox hb; have BK295 := Asd.mk (hbox); have GW295 := Asd.mk (bZ hg HB.out); have GE295 := GW295; replace HB := Asd.mk (bS hb HB.out); clear hb hbox hg) | ((with_reducible refine gate_dst (N := 3) rfl ?_); refine box_event rfl (N := 3) rfl (cs := #[.int .i64 a1_0, .int .i64 a1_1, .string a1_2]) (t := 23) (by first | (go_simp; done) | (go_simp; rfl)) ?_; intro gb296 hg w51 hbox hb; have BK296 := Asd.mk (hbox); have GW296 := Asd.mk (bZ hg HB.out); have GE296 := GW296; have NB295_296 := Asd.mk (bL hg BK295.out); have NB296_295 := Asd.mk (bG hg BK295.out); replace BK295 := Asd.mk (bB hb BK295.out); replace HB := Asd.mk (bS hb HB.out); clear hb hbox hg) | ((with_reducible refine gate_dst (N := 4) rfl ?_); refine box_event rfl (N := 4) rfl (cs := #[.int .i64 0, .int .i64 0, .string (⟨#[]⟩ : ByteArray)]) (t := 23) (by first | (go_simp; done) | (go_simp; rfl)) ?_; intro gb297 hg w52 hbox hb; have BK297 := Asd.mk (hbox); have GW297 := Asd.mk (bZ hg HB.out); have GE297 := GW297; have NB295_297 := Asd.mk (bL hg BK295.out); have NB297_295 := Asd.mk (bG hg BK295.out); have NB296_297 := Asd.mk (bL hg BK296.out); have NB297_296 := Asd.mk (bG hg BK296.out); replace BK295 := Asd.mk (bB hb BK295.out); replace BK296 := Asd.mk (bB hb BK296.out); replace HB := Asd.mk (bS hb HB.out); clear hb hbox hg; have hnb53 := NB295_296.out; have hnc53 := NB296_295.out; have hnb54 := NB295_297.out; have hnc54 := NB297_295.out; obtain ⟨hcz55_0, hcz55_1, hcz55_2⟩ := bkC3 BK295.out; obtain ⟨hfz55_0, hfz55_1, hfz55_2⟩ := bkF3 BK295.out; have hnb56 := NB296_297.out; have hnc56 := NB297_296.out; obtain ⟨hcz57_0, hcz57_1, hcz57_2⟩ := bkC3 BK296.out; obtain ⟨hfz57_0, hfz57_1, hfz57_2⟩ := bkF3 BK296.out) | ((with_reducible refine gate_callee (f := 100) rfl ?_); refine goesL_ (some 9) rfl rfl Tryd.func100 (by kernel_rfl) rfl #[.int .i64 2, .agg #[.int .i64 a0_0, .int .i64 a0_1, .string a0_2], .agg #[.int .i64 a1_0, .int .i64 a1_1, .string a1_2]] rfl (by (try simp only [List.map_toArray, List.map_cons, List.map_nil]); first | done | rfl | (simp only [List.length_drop, List.length_take]; rfl)) ?_; (with_reducible refine (q01_of.calls 2 a0_0 a0_1 a0_2 a1_0 a1_1 a1_2 false _ A3.out).mono ?_); rintro e w58 ⟨rfl, hb⟩; refine ⟨_, rfl, ?_⟩; replace BK295 := Asd.mk (bB hb BK295.out); replace BK296 := Asd.mk (bB hb BK296.out); replace BK297 := Asd.mk (bB hb BK297.out); replace HB := Asd.mk (bS hb HB.out); clear hb; obtain ⟨hcz59_0, hcz59_1, hcz59_2⟩ := bkC3 BK297.out; obtain ⟨hfz59_0, hfz59_1, hfz59_2⟩ := bkF3 BK297.out))
  refine bodyPost_ret (results_ct rfl _ _ gb297 23 #[.int .i64 0, .int .i64 0, .string (⟨#[]⟩ : ByteArray)] (0, 0) _ rfl (by refine blk_put (cs := #[.int .i64 0, .int .i64 0, .string (⟨#[]⟩ : ByteArray)]) ?_ 2 _ rfl; refine blk_put (cs := #[.int .i64 0, .int .i64 0, .string (⟨#[]⟩ : ByteArray)]) ?_ 1 _ rfl; refine blk_put (cs := #[.int .i64 0, .int .i64 0, .string (⟨#[]⟩ : ByteArray)]) ?_ 0 _ rfl; exact BK297.out) Tryd.underlying23 rfl (by kernel_rfl)) rfl ?_
  exact ⟨by first | rfl | (simp [errW_none, errW_some] <;> rfl) | (simp [*, errW_none, errW_some] <;> rfl), by repeat (first | (with_reducible first | exact HB.out | apply blA | apply pbN | apply blD | refine blS ?_ GE295.out | refine blS ?_ GE296.out | refine blS ?_ GE297.out) | exact HB.out)⟩
end Go.Proofs.YtkboodfnegedaaaDoor.E
namespace Go.Proofs.YtkboodfnegedaaaDoor.E
open Go.RowKit Go.Proofs.YtkboodfnegedaaaDoorW.PrintWords Go.Proofs.YtkboodfnegedaaaDoorW.PrintLast Go.Proofs.YtkboodfnegedaaaDoorW.PrintMore
attribute [local go_sem] max2_int min2_int max_two min_two max_three min_three max_four min_four   -- for this text's walks alone
set_option linter.unusedVariables false
set_option linter.unusedSimpArgs false
mutual
def q01_Test.j0 : Nat → Int → Bool → Int → Int → ByteArray → Int → Int → ByteArray → Option (Int × Int × ByteArray × Int)
 | 0, _, _, _, _, _, _, _, _ => none
 | k + 1, x0, x45, x323000, x323001, x323002, x324000, x324001, x324002 => if x45 = true then (some (0, 0, (⟨#[]⟩ : ByteArray), 1)) else (if x323000 = 0 then (q01_Test.j1 k x0 true x323000 x323001 x323002 x324000 x324001 x324002) else (q01_Test.j1 k x0 (x324000 == 0) x323000 x323001 x323002 x324000 x324001 x324002))
def q01_Test.j1 : Nat → Int → Bool → Int → Int → ByteArray → Int → Int → ByteArray → Option (Int × Int × ByteArray × Int)
 | 0, _, _, _, _, _, _, _, _ => none
 | k + 1, x0, x54, x323000, x323001, x323002, x324000, x324001, x324002 => if x54 = true then (some (0, 0, (⟨#[]⟩ : ByteArray), 0)) else ((q01_Compare.f x323000 x323001 x323002 x324000 x324001 x324002).bind fun t327 => (if x0 = 9 then ((q01_Truth.f (t327 == 0)).bind fun bt328 => (some (bt328.1, bt328.2.1, bt328.2.2, 0))) else (if x0 = 10 then ((q01_Truth.f (t327 != 0)).bind fun bt331 => (some (bt331.1, bt331.2.1, bt331.2.2, 0))) else (if x0 = 11 then ((q01_Truth.f (decide (t327 < 0))).bind fun bt334 => (some (bt334.1, bt334.2.1, bt334.2.2, 0))) else (if x0 = 12 then ((q01_Truth.f (decide (t327 ≤ 0))).bind fun bt337 => (some (bt337.1, bt337.2.1, bt337.2.2, 0))) else (if x0 = 13 then ((q01_Truth.f (decide (t327 > 0))).bind fun bt340 => (some (bt340.1, bt340.2.1, bt340.2.2, 0))) else ((q01_Truth.f (decide (t327 ≥ 0))).bind fun bt343 => (some (bt343.1, bt343.2.1, bt343.2.2, 0)))))))))
end
def q01_Test.f (k : Nat) (a0 : Int) (a1_0 : Int) (a1_1 : Int) (a1_2 : ByteArray) (a2_0 : Int) (a2_1 : Int) (a2_2 : ByteArray) : Option (Int × Int × ByteArray × Int) := (q01_Right.f a1_0 a1_1 a1_2).bind fun t325 => ((q01_Right.f a2_0 a2_1 a2_2).bind fun t326 => (if a0 < 9 then (q01_Test.j0 k a0 true a1_0 a1_1 a1_2 a2_0 a2_1 a2_2) else (if a0 > 14 then (q01_Test.j0 k a0 true a1_0 a1_1 a1_2 a2_0 a2_1 a2_2) else (if t325 = true then (if t326 = true then (if a1_0 = 0 then (q01_Test.j0 k a0 false a1_0 a1_1 a1_2 a2_0 a2_1 a2_2) else (if a2_0 = 0 then (q01_Test.j0 k a0 false a1_0 a1_1 a1_2 a2_0 a2_1 a2_2) else (q01_Test.j0 k a0 (a1_0 != a2_0) a1_0 a1_1 a1_2 a2_0 a2_1 a2_2))) else (q01_Test.j0 k a0 true a1_0 a1_1 a1_2 a2_0 a2_1 a2_2)) else (q01_Test.j0 k a0 true a1_0 a1_1 a1_2 a2_0 a2_1 a2_2)))))
set_option maxHeartbeats 8000000 in
set_option maxRecDepth 100000 in
theorem q01_Test.calls (k : Nat) (a0 : Int) (a1_0 : Int) (a1_1 : Int) (a1_2 : ByteArray) (a2_0 : Int) (a2_1 : Int) (a2_2 : ByteArray) (r1 : Int) (r2 : Int) (r3 : ByteArray) (r4 : Int) (w : World) (h : q01_Test.f k a0 a1_0 a1_1 a1_2 a2_0 a2_1 a2_2 = some (r1, r2, r3, r4)) :
  Calls Tryd.prog 83 #[.int .i64 a0, .agg #[.int .i64 a1_0, .int .i64 a1_1, .string a1_2], .agg #[.int .i64 a2_0, .int .i64 a2_1, .string a2_2]] w fun e w' => e = .returned (.tuple #[.agg #[.int .i64 r1, .int .i64 r2, .string r3], .int .i64 r4]) ∧ Below w.heap.size w w' := by
 have hu23 := Tryd.underlying23
 have HB := Asd.mk (Below.refl w.heap.size w)
 have H : ((q01_Right.f a1_0 a1_1 a1_2).bind fun t325 => ((q01_Right.f a2_0 a2_1 a2_2).bind fun t326 => (if a0 < 9 then (q01_Test.j0 k a0 true a1_0 a1_1 a1_2 a2_0 a2_1 a2_2) else (if a0 > 14 then (q01_Test.j0 k a0 true a1_0 a1_1 a1_2 a2_0 a2_1 a2_2) else (if t325 = true then (if t326 = true then (if a1_0 = 0 then (q01_Test.j0 k a0 false a1_0 a1_1 a1_2 a2_0 a2_1 a2_2) else (if a2_0 = 0 then (q01_Test.j0 k a0 false a1_0 a1_1 a1_2 a2_0 a2_1 a2_2) else (q01_Test.j0 k a0 (a1_0 != a2_0) a1_0 a1_1 a1_2 a2_0 a2_1 a2_2))) else (q01_Test.j0 k a0 true a1_0 a1_1 a1_2 a2_0 a2_1 a2_2)) else (q01_Test.j0 k a0 true a1_0 a1_1 a1_2 a2_0 a2_1 a2_2)))))) = some (r1, r2, r3, r4) := h
 clear h
 replace H := Option.bind_eq_some_iff.mp H
 obtain ⟨t325, A40, H⟩ := H
 replace H : ((q01_Right.f a2_0 a2_1 a2_2).bind fun t326 => (if a0 < 9 then (q01_Test.j0 k a0 true a1_0 a1_1 a1_2 a2_0 a2_1 a2_2) else (if a0 > 14 then (q01_Test.j0 k a0 true a1_0 a1_1 a1_2 a2_0 a2_1 a2_2) else (if t325 = true then (if t326 = true then (if a1_0 = 0 then (q01_Test.j0 k a0 false a1_0 a1_1 a1_2 a2_0 a2_1 a2_2) else (if a2_0 = 0 then (q01_Test.j0 k a0 false a1_0 a1_1 a1_2 a2_0 a2_1 a2_2) else (q01_Test.j0 k a0 (a1_0 != a2_0) a1_0 a1_1 a1_2 a2_0 a2_1 a2_2))) else (q01_Test.j0 k a0 true a1_0 a1_1 a1_2 a2_0 a2_1 a2_2)) else (q01_Test.j0 k a0 true a1_0 a1_1 a1_2 a2_0 a2_1 a2_2))))) = some (r1, r2, r3, r4) := H
 have A4 := Asd.mk A40
 clear A40
 replace H := Option.bind_eq_some_iff.mp H
 obtain ⟨t326, A50, H⟩ := H
 replace H : (if a0 < 9 then (q01_Test.j0 k a0 true a1_0 a1_1 a1_2 a2_0 a2_1 a2_2) else (if a0 > 14 then (q01_Test.j0 k a0 true a1_0 a1_1 a1_2 a2_0 a2_1 a2_2) else (if t325 = true then (if t326 = true then (if a1_0 = 0 then (q01_Test.j0 k a0 false a1_0 a1_1 a1_2 a2_0 a2_1 a2_2) else (if a2_0 = 0 then (q01_Test.j0 k a0 false a1_0 a1_1 a1_2 a2_0 a2_1 a2_2) else (q01_Test.j0 k a0 (a1_0 != a2_0) a1_0 a1_1 a1_2 a2_0 a2_1 a2_2))) else (q01_Test.j0 k a0 true a1_0 a1_1 a1_2 a2_0 a2_1 a2_2)) else (q01_Test.j0 k a0 true a1_0 a1_1 a1_2 a2_0 a2_1 a2_2)))) = some (r1, r2, r3, r4) := H
 have A5 := Asd.mk A50
 clear A50
 have HC6 := Asd.mk H
 clear H
 go_enter Tryd.func83, Tryd.ntmps83
 go_upto_region 3 with (first | ((with_reducible refine gate_dst (N := 4) rfl ?_); refine box_event rfl (N := 4) rfl (cs := #[.int .i64 a1_0, .int .i64 a1_1, .string a1_2]) (t := 23) (by first | (go_simp; done) | (go_simp; rfl)) ?_; intro gb322 hg w7 hbox hb; have BK322 := Asd.mk (hbox); have GW322 := Asd.mk (bZ hg HB.out); have GE322 := GW322; replace HB := Asd.mk (bS hb HB.out); clear hb hbox hg) | ((with_reducible refine gate_dst (N := 5) rfl ?_); refine box_event rfl (N := 5) rfl (cs := #[.int .i64 a2_0, .int .i64 a2_1, .string a2_2]) (t := 23) (by first | (go_simp; done) | (go_simp; rfl)) ?_; intro gb323 hg w8 hbox hb; have BK323 := Asd.mk (hbox); have GW323 := Asd.mk (bZ hg HB.out); have GE323 := GW323; have NB322_323 := Asd.mk (bL hg BK322.out); have NB323_322 := Asd.mk (bG hg BK322.out); replace BK322 := Asd.mk (bB hb BK322.out); replace HB := Asd.mk (bS hb HB.out); clear hb hbox hg) | ((with_reducible refine gate_dst (N := 6) rfl ?_); refine box_event rfl (N := 6) rfl (cs := #[.int .i64 0, .int .i64 0, .string (⟨#[]⟩ : ByteArray)]) (t := 23) (by first | (go_simp; done) | (go_simp; rfl)) ?_; intro gb324 hg w9 hbox hb; have BK324 := Asd.mk (hbox); have GW324 := Asd.mk (bZ hg HB.out); have GE324 := GW324; have NB322_324 := Asd.mk (bL hg BK322.out); have NB324_322 := Asd.mk (bG hg BK322.out); have NB323_324 := Asd.mk (bL hg BK323.out); have NB324_323 := Asd.mk (bG hg BK323.out); replace BK322 := Asd.mk (bB hb BK322.out); replace BK323 := Asd.mk (bB hb BK323.out); replace HB := Asd.mk (bS hb HB.out); clear hb hbox hg; have hnb10 := NB322_323.out; have hnc10 := NB323_322.out; have hnb11 := NB322_324.out; have hnc11 := NB324_322.out; obtain ⟨hcz12_0, hcz12_1, hcz12_2⟩ := bkC3 BK322.out; obtain ⟨hfz12_0, hfz12_1, hfz12_2⟩ := bkF3 BK322.out) | ((with_reducible refine gate_callee (f := 91) rfl ?_); refine goesL_ (some 12) rfl rfl Tryd.func91 (by kernel_rfl) rfl #[.agg #[.int .i64 a1_0, .int .i64 a1_1, .string a1_2]] rfl (by (try simp only [List.map_toArray, List.map_cons, List.map_nil]); first | done | rfl | (simp only [List.length_drop, List.length_take]; rfl)) ?_; (with_reducible refine (q01_Right.calls a1_0 a1_1 a1_2 t325 _ A4.out).mono ?_); rintro e w13 ⟨rfl, hb⟩; refine ⟨_, rfl, ?_⟩; replace BK322 := Asd.mk (bB hb BK322.out); replace BK323 := Asd.mk (bB hb BK323.out); replace BK324 := Asd.mk (bB hb BK324.out); replace HB := Asd.mk (bS hb HB.out); clear hb; have hnb14 := NB323_324.out; have hnc14 := NB324_323.out; obtain ⟨hcz15_0, hcz15_1, hcz15_2⟩ := bkC3 BK323.out; obtain ⟨hfz15_0, hfz15_1, hfz15_2⟩ := bkF3 BK323.out) | ((with_reducible refine gate_callee (f := 91) rfl ?_); refine goesL_ (some 14) rfl rfl Tryd.func91 (by kernel_rfl) rfl #[.agg #[.int .i64 a2_0, .int .i64 a2_1, .string a2_2]] rfl (by (try simp only [List.map_toArray, List.map_cons, List.map_nil]); first | done | rfl | (simp only [List.length_drop, List.length_take]; rfl)) ?_; (with_reducible refine (q01_Right.calls a2_0 a2_1 a2_2 t326 _ A5.out).mono ?_); rintro e w16 ⟨rfl, hb⟩; refine ⟨_, rfl, ?_⟩; replace BK322 := Asd.mk (bB hb BK322.out); replace BK323 := Asd.mk (bB hb BK323.out); replace BK324 := Asd.mk (bB hb BK324.out); replace HB := Asd.mk (bS hb HB.out); clear hb))
 (try simp only [Act.put, List.setIfInBounds_toArray, List.set_cons_zero, List.set_cons_succ])
 go_cut [45] (fun v45 wc => ∃ (kq : Nat) (x45_5 : Bool), v45 = .bool x45_5 ∧ Asd (q01_Test.j0 kq a0 x45_5 a1_0 a1_1 a1_2 a2_0 a2_1 a2_2 = some (r1, r2, r3, r4)) ∧ Asd (kq ≤ k) ∧ Asd (wc.heap[gb322]? = some (.cells #[.int .i64 a1_0, .int .i64 a1_1, .string a1_2] 23 (0, 0))) ∧ Asd (wc.heap[gb323]? = some (.cells #[.int .i64 a2_0, .int .i64 a2_1, .string a2_2] 23 (0, 0))) ∧ Asd (wc.heap[gb324]? = some (.cells #[.int .i64 0, .int .i64 0, .string (⟨#[]⟩ : ByteArray)] 23 (0, 0))) ∧ Asd (Below w.heap.size w wc))
 case first =>
  have H := HC6.out
  clear HC6
  by_cases c17 : a0 < 9
  ·rw [if_pos c17] at H
   have c17b0 : decide (a0 < 9) = true := decide_eq_true c17
   clear c17
   (first | rw [c17b0] | (simp only [i64_w, i32_w]; rw [c17b0]) | skip)
   have H' := Asd.mk H
   clear H
   go_wp2
   go_meet
   case rel => exact ⟨_, (true), (by first | rfl | (simp; done) | (simp [*]; done)), H', ⟨by first | omega | exact Nat.le_refl _⟩, ⟨by exact BK322.out⟩, ⟨by exact BK323.out⟩, ⟨by exact BK324.out⟩, ⟨by repeat (first | (with_reducible first | exact HB.out | apply blA | apply pbN | apply blD | refine blS ?_ GE322.out | refine blS ?_ GE323.out | refine blS ?_ GE324.out) | exact HB.out)⟩⟩
  ·rw [if_neg c17] at H
   have c17b0 : decide (a0 < 9) = false := decide_eq_false c17
   clear c17
   (first | rw [c17b0] | (simp only [i64_w, i32_w]; rw [c17b0]) | skip)
   by_cases c18 : a0 > 14
   ·rw [if_pos c18] at H
    have c18b0 : decide (14 < a0) = true := decide_eq_true c18
    clear c18
    have H' := Asd.mk H
    clear H
    go_wp2
    go_meet
    case rel => exact ⟨_, (true), (by first | rfl | (simp; done) | (simp [*]; done)), H', ⟨by first | omega | exact Nat.le_refl _⟩, ⟨by exact BK322.out⟩, ⟨by exact BK323.out⟩, ⟨by exact BK324.out⟩, ⟨by repeat (first | (with_reducible first | exact HB.out | apply blA | apply pbN | apply blD | refine blS ?_ GE322.out | refine blS ?_ GE323.out | refine blS ?_ GE324.out) | exact HB.out)⟩⟩
   ·rw [if_neg c18] at H
    have c18b0 : decide (14 < a0) = false := decide_eq_false c18
    clear c18
    by_cases c19 : t325 = true
    ·subst c19
     have H1 : (if t326 = true then (if a1_0 = 0 then (q01_Test.j0 k a0 false a1_0 a1_1 a1_2 a2_0 a2_1 a2_2) else (if a2_0 = 0 then (q01_Test.j0 k a0 false a1_0 a1_1 a1_2 a2_0 a2_1 a2_2) else (q01_Test.j0 k a0 (a1_0 != a2_0) a1_0 a1_1 a1_2 a2_0 a2_1 a2_2))) else (q01_Test.j0 k a0 true a1_0 a1_1 a1_2 a2_0 a2_1 a2_2)) = some (r1, r2, r3, r4) := by rw [if_pos rfl] at H; exact H
     clear H
     have H := H1
     clear H1
     by_cases c20 : t326 = true
     ·subst c20
      have H1 : (if a1_0 = 0 then (q01_Test.j0 k a0 false a1_0 a1_1 a1_2 a2_0 a2_1 a2_2) else (if a2_0 = 0 then (q01_Test.j0 k a0 false a1_0 a1_1 a1_2 a2_0 a2_1 a2_2) else (q01_Test.j0 k a0 (a1_0 != a2_0) a1_0 a1_1 a1_2 a2_0 a2_1 a2_2))) = some (r1, r2, r3, r4) := by rw [if_pos rfl] at H; exact H
      clear H
      have H := H1
      clear H1
      by_cases c21 : a1_0 = 0
      ·rw [if_pos c21] at H
       have c21b0 : (a1_0 == 0) = true := beq_iff_eq.mpr c21
       have c21b1 : (a1_0 != 0) = false := bne_eq_false_iff_eq.mpr c21
       clear c21
       have H' := Asd.mk H
       clear H
       have hnb22 := NB322_323.out
       have hnc22 := NB323_322.out
       have hnb23 := NB322_324.out
       have hnc23 := NB324_322.out
       obtain ⟨hcz24_0, hcz24_1, hcz24_2⟩ := bkC3 BK322.out
       obtain ⟨hfz24_0, hfz24_1, hfz24_2⟩ := bkF3 BK322.out
       go_wp2
       go_meet
       case rel => exact ⟨_, (false), (by first | rfl | (simp; done) | (simp [*]; done)), H', ⟨by first | omega | exact Nat.le_refl _⟩, ⟨by exact BK322.out⟩, ⟨by exact BK323.out⟩, ⟨by exact BK324.out⟩, ⟨by repeat (first | (with_reducible first | exact HB.out | apply blA | apply pbN | apply blD | refine blS ?_ GE322.out | refine blS ?_ GE323.out | refine blS ?_ GE324.out) | exact HB.out)⟩⟩
      ·rw [if_neg c21] at H
       have c21b0 : (a1_0 == 0) = false := beq_eq_false_iff_ne.mpr c21
       have c21b1 : (a1_0 != 0) = true := bne_iff_ne.mpr c21
       by_cases c25 : a2_0 = 0
       ·rw [if_pos c25] at H
        have c25b0 : (a2_0 == 0) = true := beq_iff_eq.mpr c25
        have c25b1 : (a2_0 != 0) = false := bne_eq_false_iff_eq.mpr c25
        clear c25
        have H' := Asd.mk H
        clear H
        have hnb26 := NB322_323.out
        have hnc26 := NB323_322.out
        have hnb27 := NB322_324.out
        have hnc27 := NB324_322.out
        obtain ⟨hcz28_0, hcz28_1, hcz28_2⟩ := bkC3 BK322.out
        obtain ⟨hfz28_0, hfz28_1, hfz28_2⟩ := bkF3 BK322.out
        have hnb29 := NB323_324.out
        have hnc29 := NB324_323.out
        obtain ⟨hcz30_0, hcz30_1, hcz30_2⟩ := bkC3 BK323.out
        obtain ⟨hfz30_0, hfz30_1, hfz30_2⟩ := bkF3 BK323.out
        go_wp2
        go_meet
        case rel => exact ⟨_, (false), (by first | rfl | (simp; done) | (simp [*]; done)), H', ⟨by first | omega | exact Nat.le_refl _⟩, ⟨by exact BK322.out⟩, ⟨by exact BK323.out⟩, ⟨by exact BK324.out⟩, ⟨by repeat (first | (with_reducible first | exact HB.out | apply blA | apply pbN | apply blD | refine blS ?_ GE322.out | refine blS ?_ GE323.out | refine blS ?_ GE324.out) | exact HB.out)⟩⟩
       ·rw [if_neg c25] at H
        have c25b0 : (a2_0 == 0) = false := beq_eq_false_iff_ne.mpr c25
        have c25b1 : (a2_0 != 0) = true := bne_iff_ne.mpr c25
        have H' := Asd.mk H
        clear H
        have hnb31 := NB322_323.out
        have hnc31 := NB323_322.out
        have hnb32 := NB322_324.out
        have hnc32 := NB324_322.out
        obtain ⟨hcz33_0, hcz33_1, hcz33_2⟩ := bkC3 BK322.out
        obtain ⟨hfz33_0, hfz33_1, hfz33_2⟩ := bkF3 BK322.out
        have hnb34 := NB323_324.out
        have hnc34 := NB324_323.out
        obtain ⟨hcz35_0, hcz35_1, hcz35_2⟩ := bkC3 BK323.out
        obtain ⟨hfz35_0, hfz35_1, hfz35_2⟩ := bkF3 BK323.out
        go_wp2
        go_meet
        case rel => exact ⟨_, ((a1_0 != a2_0)), (by first | rfl | (simp; done) | (simp [*]; done)), H', ⟨by first | omega | exact Nat.le_refl _⟩, ⟨by exact BK322.out⟩, ⟨by exact BK323.out⟩, ⟨by exact BK324.out⟩, ⟨by repeat (first | (with_reducible first | exact HB.out | apply blA | apply pbN | apply blD | refine blS ?_ GE322.out | refine blS ?_ GE323.out | refine blS ?_ GE324.out) | exact HB.out)⟩⟩
     ·replace c20 := Bool.eq_false_iff.mpr c20
      subst c20
      have H1 : (q01_Test.j0 k a0 true a1_0 a1_1 a1_2 a2_0 a2_1 a2_2) = some (r1, r2, r3, r4) := by rw [if_neg (show ¬ (false = true) by decide)] at H; exact H
      clear H
      have H := H1
      clear H1
      have H' := Asd.mk H
      clear H
      go_wp2
      go_meet
      case rel => exact ⟨_, (true), (by first | rfl | (simp; done) | (simp [*]; done)), H', ⟨by first | omega | exact Nat.le_refl _⟩, ⟨by exact BK322.out⟩, ⟨by exact BK323.out⟩, ⟨by exact BK324.out⟩, ⟨by repeat (first | (with_reducible first | exact HB.out | apply blA | apply pbN | apply blD | refine blS ?_ GE322.out | refine blS ?_ GE323.out | refine blS ?_ GE324.out) | exact HB.out)⟩⟩
    ·replace c19 := Bool.eq_false_iff.mpr c19
     subst c19
     have H1 : (q01_Test.j0 k a0 true a1_0 a1_1 a1_2 a2_0 a2_1 a2_2) = some (r1, r2, r3, r4) := by rw [if_neg (show ¬ (false = true) by decide)] at H; exact H
     clear H
     have H := H1
     clear H1
     have H' := Asd.mk H
     clear H
     go_wp2
     go_meet
     case rel => exact ⟨_, (true), (by first | rfl | (simp; done) | (simp [*]; done)), H', ⟨by first | omega | exact Nat.le_refl _⟩, ⟨by exact BK322.out⟩, ⟨by exact BK323.out⟩, ⟨by exact BK324.out⟩, ⟨by repeat (first | (with_reducible first | exact HB.out | apply blA | apply pbN | apply blD | refine blS ?_ GE322.out | refine blS ?_ GE323.out | refine blS ?_ GE324.out) | exact HB.out)⟩⟩
 case rest =>
  clear HC6
  try clear c1
  try clear c2
  try clear p2
  try clear c3
  try clear c8
  try clear c9
  try clear c10
  try clear c11
  try clear c14
  try clear c17
  try clear c17b0
  try clear c18
  try clear c18b0
  try clear c19
  try clear c20
  try clear c21
  try clear c21b0
  try clear c21b1
  try clear c22
  try clear c23
  try clear c25
  try clear c25b0
  try clear c25b1
  try clear c26
  try clear c27
  try clear c29
  try clear c31
  try clear c32
  try clear c34
  try clear hcz12_0
  try clear hcz12_1
  try clear hcz12_2
  try clear hcz15_0
  try clear hcz15_1
  try clear hcz15_2
  try clear hcz24_0
  try clear hcz24_1
  try clear hcz24_2
  try clear hcz28_0
  try clear hcz28_1
  try clear hcz28_2
  try clear hcz30_0
  try clear hcz30_1
  try clear hcz30_2
  try clear hcz33_0
  try clear hcz33_1
  try clear hcz33_2
  try clear hcz35_0
  try clear hcz35_1
  try clear hcz35_2
  try clear hfz12_0
  try clear hfz12_1
  try clear hfz12_2
  try clear hfz15_0
  try clear hfz15_1
  try clear hfz15_2
  try clear hfz24_0
  try clear hfz24_1
  try clear hfz24_2
  try clear hfz28_0
  try clear hfz28_1
  try clear hfz28_2
  try clear hfz30_0
  try clear hfz30_1
  try clear hfz30_2
  try clear hfz33_0
  try clear hfz33_1
  try clear hfz33_2
  try clear hfz35_0
  try clear hfz35_1
  try clear hfz35_2
  obtain ⟨kq, x45_5, rfl, HA, HJ5, BK322, BK323, BK324, HB⟩ := hcut
  cases kq with
  | zero => exact absurd HA.out (by simp [q01_Test.j0])
  | succ kj5 =>
   have H := HA.out
   clear HA
   simp only [q01_Test.j0] at H
   by_cases c36 : x45_5 = true
   ·subst c36
    have H1 : (some (0, 0, (⟨#[]⟩ : ByteArray), 1)) = some (r1, r2, r3, r4) := by rw [if_pos rfl] at H; exact H
    clear H
    have H := H1
    clear H1
    simp only [Option.some.injEq, Prod.mk.injEq] at H
    obtain ⟨rfl, rfl, rfl, rfl⟩ := H
    have hnb37 := NB324_322.out
    have hnc37 := NB322_324.out
    have hnb38 := NB324_323.out
    have hnc38 := NB323_324.out
    obtain ⟨hcz39_0, hcz39_1, hcz39_2⟩ := bkC3 BK324.out
    obtain ⟨hfz39_0, hfz39_1, hfz39_2⟩ := bkF3 BK324.out
    go_wp2
    refine bodyPost_ret (results_ct rfl _ _ gb324 23 #[.int .i64 0, .int .i64 0, .string (⟨#[]⟩ : ByteArray)] (0, 0) _ rfl (by refine blk_put (cs := #[.int .i64 0, .int .i64 0, .string (⟨#[]⟩ : ByteArray)]) ?_ 2 _ rfl; refine blk_put (cs := #[.int .i64 0, .int .i64 0, .string (⟨#[]⟩ : ByteArray)]) ?_ 1 _ rfl; refine blk_put (cs := #[.int .i64 0, .int .i64 0, .string (⟨#[]⟩ : ByteArray)]) ?_ 0 _ rfl; exact BK324.out) Tryd.underlying23 rfl (by kernel_rfl)) rfl ?_
    exact ⟨by first | rfl | (simp [errW_none, errW_some] <;> rfl) | (simp [*, errW_none, errW_some] <;> rfl), by repeat (first | (with_reducible first | exact HB.out | apply blA | apply pbN | apply blD | refine blS ?_ GE322.out | refine blS ?_ GE323.out | refine blS ?_ GE324.out) | exact HB.out)⟩
   ·replace c36 := Bool.eq_false_iff.mpr c36
    subst c36
    have H1 : (if a1_0 = 0 then (q01_Test.j1 kj5 a0 true a1_0 a1_1 a1_2 a2_0 a2_1 a2_2) else (q01_Test.j1 kj5 a0 (a2_0 == 0) a1_0 a1_1 a1_2 a2_0 a2_1 a2_2)) = some (r1, r2, r3, r4) := by rw [if_neg (show ¬ (false = true) by decide)] at H; exact H
    clear H
    have H := H1
    clear H1
    have HC40 := Asd.mk H
    clear H
    go_upto_region 5 with (fail)
    go_cut [54] (fun v54 wc => ∃ (kq : Nat) (x54_39 : Bool), v54 = .bool x54_39 ∧ Asd (q01_Test.j1 kq a0 x54_39 a1_0 a1_1 a1_2 a2_0 a2_1 a2_2 = some (r1, r2, r3, r4)) ∧ Asd (kq ≤ kj5) ∧ Asd (wc.heap[gb322]? = some (.cells #[.int .i64 a1_0, .int .i64 a1_1, .string a1_2] 23 (0, 0))) ∧ Asd (wc.heap[gb323]? = some (.cells #[.int .i64 a2_0, .int .i64 a2_1, .string a2_2] 23 (0, 0))) ∧ Asd (wc.heap[gb324]? = some (.cells #[.int .i64 0, .int .i64 0, .string (⟨#[]⟩ : ByteArray)] 23 (0, 0))) ∧ Asd (Below w.heap.size w wc))
    case first =>
     have H := HC40.out
     clear HC40
     by_cases c41 : a1_0 = 0
     ·rw [if_pos c41] at H
      have c41b0 : (a1_0 == 0) = true := beq_iff_eq.mpr c41
      have c41b1 : (a1_0 != 0) = false := bne_eq_false_iff_eq.mpr c41
      clear c41
      (first | rw [c41b0] | (simp only [i64_w, i32_w]; rw [c41b0]) | skip)
      have H' := Asd.mk H
      clear H
      have hnb42 := NB322_323.out
      have hnc42 := NB323_322.out
      have hnb43 := NB322_324.out
      have hnc43 := NB324_322.out
      obtain ⟨hcz44_0, hcz44_1, hcz44_2⟩ := bkC3 BK322.out
      obtain ⟨hfz44_0, hfz44_1, hfz44_2⟩ := bkF3 BK322.out
      go_wp2
      go_meet
      case rel => exact ⟨_, (true), (by first | rfl | (simp; done) | (simp [*]; done)), H', ⟨by have := HJ5.out; first | omega | exact Nat.le_refl _⟩, ⟨by exact BK322.out⟩, ⟨by exact BK323.out⟩, ⟨by exact BK324.out⟩, ⟨by repeat (first | (with_reducible first | exact HB.out | apply blA | apply pbN | apply blD | refine blS ?_ GE322.out | refine blS ?_ GE323.out | refine blS ?_ GE324.out) | exact HB.out)⟩⟩
     ·rw [if_neg c41] at H
      have c41b0 : (a1_0 == 0) = false := beq_eq_false_iff_ne.mpr c41
      have c41b1 : (a1_0 != 0) = true := bne_iff_ne.mpr c41
      (first | rw [c41b0] | (simp only [i64_w, i32_w]; rw [c41b0]) | skip)
      have H' := Asd.mk H
      clear H
      have hnb45 := NB322_323.out
      have hnc45 := NB323_322.out
      have hnb46 := NB322_324.out
      have hnc46 := NB324_322.out
      obtain ⟨hcz47_0, hcz47_1, hcz47_2⟩ := bkC3 BK322.out
      obtain ⟨hfz47_0, hfz47_1, hfz47_2⟩ := bkF3 BK322.out
      have hnb48 := NB323_324.out
      have hnc48 := NB324_323.out
      obtain ⟨hcz49_0, hcz49_1, hcz49_2⟩ := bkC3 BK323.out
      obtain ⟨hfz49_0, hfz49_1, hfz49_2⟩ := bkF3 BK323.out
      go_wp2
      go_meet
      case rel => exact ⟨_, ((a2_0 == 0)), (by first | rfl | (simp; done) | (simp [*]; done)), H', ⟨by have := HJ5.out; first | omega | exact Nat.le_refl _⟩, ⟨by exact BK322.out⟩, ⟨by exact BK323.out⟩, ⟨by exact BK324.out⟩, ⟨by repeat (first | (with_reducible first | exact HB.out | apply blA | apply pbN | apply blD | refine blS ?_ GE322.out | refine blS ?_ GE323.out | refine blS ?_ GE324.out) | exact HB.out)⟩⟩
    case rest =>
     clear HC40
     try clear c1
     try clear c2
     try clear p2
     try clear c3
     try clear c4
     try clear c8
     try clear c9
     try clear c10
     try clear c11
     try clear c14
     try clear c17
     try clear c17b0
     try clear c18
     try clear c18b0
     try clear c19
     try clear c20
     try clear c21
     try clear c21b0
     try clear c21b1
     try clear c22
     try clear c23
     try clear c25
     try clear c25b0
     try clear c25b1
     try clear c26
     try clear c27
     try clear c29
     try clear c31
     try clear c32
     try clear c34
     try clear c36
     try clear c37
     try clear c38
     try clear c41
     try clear c41b0
     try clear c41b1
     try clear c42
     try clear c43
     try clear c45
     try clear c46
     try clear c48
     try clear hcz12_0
     try clear hcz12_1
     try clear hcz12_2
     try clear hcz15_0
     try clear hcz15_1
     try clear hcz15_2
     try clear hcz24_0
     try clear hcz24_1
     try clear hcz24_2
     try clear hcz28_0
     try clear hcz28_1
     try clear hcz28_2
     try clear hcz30_0
     try clear hcz30_1
     try clear hcz30_2
     try clear hcz33_0
     try clear hcz33_1
     try clear hcz33_2
     try clear hcz35_0
     try clear hcz35_1
     try clear hcz35_2
     try clear hcz39_0
     try clear hcz39_1
     try clear hcz39_2
     try clear hcz44_0
     try clear hcz44_1
     try clear hcz44_2
     try clear hcz47_0
     try clear hcz47_1
     try clear hcz47_2
     try clear hcz49_0
     try clear hcz49_1
     try clear hcz49_2
     try clear hfz12_0
     try clear hfz12_1
     try clear hfz12_2
     try clear hfz15_0
     try clear hfz15_1
     try clear hfz15_2
     try clear hfz24_0
     try clear hfz24_1
     try clear hfz24_2
     try clear hfz28_0
     try clear hfz28_1
     try clear hfz28_2
     try clear hfz30_0
     try clear hfz30_1
     try clear hfz30_2
     try clear hfz33_0
     try clear hfz33_1
     try clear hfz33_2
     try clear hfz35_0
     try clear hfz35_1
     try clear hfz35_2
     try clear hfz39_0
     try clear hfz39_1
     try clear hfz39_2
     try clear hfz44_0
     try clear hfz44_1
     try clear hfz44_2
     try clear hfz47_0
     try clear hfz47_1
     try clear hfz47_2
     try clear hfz49_0
     try clear hfz49_1
     try clear hfz49_2
     try clear p2
     obtain ⟨kq, x54_39, rfl, HA, HJ39, BK322, BK323, BK324, HB⟩ := hcut
     cases kq with
     | zero => exact absurd HA.out (by simp [q01_Test.j1])
     | succ kj39 =>
      have H := HA.out
      clear HA
      simp only [q01_Test.j1] at H
      by_cases c50 : x54_39 = true
      ·subst c50
       have H1 : (some (0, 0, (⟨#[]⟩ : ByteArray), 0)) = some (r1, r2, r3, r4) := by rw [if_pos rfl] at H; exact H
       clear H
       have H := H1
       clear H1
       simp only [Option.some.injEq, Prod.mk.injEq] at H
       obtain ⟨rfl, rfl, rfl, rfl⟩ := H
       have hnb51 := NB324_322.out
       have hnc51 := NB322_324.out
       have hnb52 := NB324_323.out
       have hnc52 := NB323_324.out
       obtain ⟨hcz53_0, hcz53_1, hcz53_2⟩ := bkC3 BK324.out
       obtain ⟨hfz53_0, hfz53_1, hfz53_2⟩ := bkF3 BK324.out
       go_wp2
       refine bodyPost_ret (results_ct rfl _ _ gb324 23 #[.int .i64 0, .int .i64 0, .string (⟨#[]⟩ : ByteArray)] (0, 0) _ rfl (by refine blk_put (cs := #[.int .i64 0, .int .i64 0, .string (⟨#[]⟩ : ByteArray)]) ?_ 2 _ rfl; refine blk_put (cs := #[.int .i64 0, .int .i64 0, .string (⟨#[]⟩ : ByteArray)]) ?_ 1 _ rfl; refine blk_put (cs := #[.int .i64 0, .int .i64 0, .string (⟨#[]⟩ : ByteArray)]) ?_ 0 _ rfl; exact BK324.out) Tryd.underlying23 rfl (by kernel_rfl)) rfl ?_
       exact ⟨by first | rfl | (simp [errW_none, errW_some] <;> rfl) | (simp [*, errW_none, errW_some] <;> rfl), by repeat (first | (with_reducible first | exact HB.out | apply blA | apply pbN | apply blD | refine blS ?_ GE322.out | refine blS ?_ GE323.out | refine blS ?_ GE324.out) | exact HB.out)⟩
      ·replace c50 := Bool.eq_false_iff.mpr c50
       subst c50
       have H1 : ((q01_Compare.f a1_0 a1_1 a1_2 a2_0 a2_1 a2_2).bind fun t327 => (if a0 = 9 then ((q01_Truth.f (t327 == 0)).bind fun bt328 => (some (bt328.1, bt328.2.1, bt328.2.2, 0))) else (if a0 = 10 then ((q01_Truth.f (t327 != 0)).bind fun bt331 => (some (bt331.1, bt331.2.1, bt331.2.2, 0))) else (if a0 = 11 then ((q01_Truth.f (decide (t327 < 0))).bind fun bt334 => (some (bt334.1, bt334.2.1, bt334.2.2, 0))) else (if a0 = 12 then ((q01_Truth.f (decide (t327 ≤ 0))).bind fun bt337 => (some (bt337.1, bt337.2.1, bt337.2.2, 0))) else (if a0 = 13 then ((q01_Truth.f (decide (t327 > 0))).bind fun bt340 => (some (bt340.1, bt340.2.1, bt340.2.2, 0))) else ((q01_Truth.f (decide (t327 ≥ 0))).bind fun bt343 => (some (bt343.1, bt343.2.1, bt343.2.2, 0))))))))) = some (r1, r2, r3, r4) := by rw [if_neg (show ¬ (false = true) by decide)] at H; exact H
       clear H
       have H := H1
       clear H1
       replace H := Option.bind_eq_some_iff.mp H
       obtain ⟨t327, A540, H⟩ := H
       replace H : (if a0 = 9 then ((q01_Truth.f (t327 == 0)).bind fun bt328 => (some (bt328.1, bt328.2.1, bt328.2.2, 0))) else (if a0 = 10 then ((q01_Truth.f (t327 != 0)).bind fun bt331 => (some (bt331.1, bt331.2.1, bt331.2.2, 0))) else (if a0 = 11 then ((q01_Truth.f (decide (t327 < 0))).bind fun bt334 => (some (bt334.1, bt334.2.1, bt334.2.2, 0))) else (if a0 = 12 then ((q01_Truth.f (decide (t327 ≤ 0))).bind fun bt337 => (some (bt337.1, bt337.2.1, bt337.2.2, 0))) else (if a0 = 13 then ((q01_Truth.f (decide (t327 > 0))).bind fun bt340 => (some (bt340.1, bt340.2.1, bt340.2.2, 0))) else ((q01_Truth.f (decide (t327 ≥ 0))).bind fun bt343 => (some (bt343.1, bt343.2.1, bt343.2.2, 0)))))))) = some (r1, r2, r3, r4) := H
       have A54 := Asd.mk A540
       clear A540
       by_cases c55 : a0 = 9
       ·rw [if_pos c55] at H
        have c55b0 : (a0 == 9) = true := beq_iff_eq.mpr c55
        have c55b1 : (a0 != 9) = false := bne_eq_false_iff_eq.mpr c55
        clear c55
        replace H := Option.bind_eq_some_iff.mp H
        obtain ⟨⟨t328, t329, t330⟩, A560, H⟩ := H
        replace H : (some (t328, t329, t330, 0)) = some (r1, r2, r3, r4) := H
        have A56 := Asd.mk A560
        clear A560
        simp only [Option.some.injEq, Prod.mk.injEq] at H
        obtain ⟨rfl, rfl, rfl, rfl⟩ := H
        have hnb57 := NB322_323.out
        have hnc57 := NB323_322.out
        have hnb58 := NB322_324.out
        have hnc58 := NB324_322.out
        obtain ⟨hcz59_0, hcz59_1, hcz59_2⟩ := bkC3 BK322.out
        obtain ⟨hfz59_0, hfz59_1, hfz59_2⟩ := bkF3 BK322.out
        have hnb60 := NB323_324.out
        have hnc60 := NB324_323.out
        obtain ⟨hcz61_0, hcz61_1, hcz61_2⟩ := bkC3 BK323.out
        obtain ⟨hfz61_0, hfz61_1, hfz61_2⟩ := bkF3 BK323.out
        go_wp2_with (first | ((with_reducible refine gate_callee (f := 102) rfl ?_); refine goesL_ (some 58) rfl rfl Tryd.func102 (by kernel_rfl) rfl #[.agg #[.int .i64 a1_0, .int .i64 a1_1, .string a1_2], .agg #[.int .i64 a2_0, .int .i64 a2_1, .string a2_2]] rfl (by (try simp only [List.map_toArray, List.map_cons, List.map_nil]); first | done | rfl | (simp only [List.length_drop, List.length_take]; rfl)) ?_; (with_reducible refine (q01_Compare.calls a1_0 a1_1 a1_2 a2_0 a2_1 a2_2 t327 _ A54.out).mono ?_); rintro e w62 ⟨rfl, hb⟩; refine ⟨_, rfl, ?_⟩; replace BK322 := Asd.mk (bB hb BK322.out); replace BK323 := Asd.mk (bB hb BK323.out); replace BK324 := Asd.mk (bB hb BK324.out); replace HB := Asd.mk (bS hb HB.out); clear hb) | ((with_reducible refine gate_callee (f := 82) rfl ?_); refine goesL_ (some 64) rfl rfl Tryd.func82 (by kernel_rfl) rfl #[.bool (t327 == 0)] rfl (by (try simp only [List.map_toArray, List.map_cons, List.map_nil]); first | done | rfl | (simp only [List.length_drop, List.length_take]; rfl)) ?_; (with_reducible refine (q01_Truth.calls (t327 == 0) t328 t329 t330 _ A56.out).mono ?_); rintro e w63 ⟨rfl, hb⟩; refine ⟨_, rfl, ?_⟩; replace BK322 := Asd.mk (bB hb BK322.out); replace BK323 := Asd.mk (bB hb BK323.out); replace BK324 := Asd.mk (bB hb BK324.out); replace HB := Asd.mk (bS hb HB.out); clear hb; obtain ⟨hcz64_0, hcz64_1, hcz64_2⟩ := bkC3 BK324.out; obtain ⟨hfz64_0, hfz64_1, hfz64_2⟩ := bkF3 BK324.out))
        refine bodyPost_ret (results_ct rfl _ _ gb324 23 #[.int .i64 t328, .int .i64 t329, .string t330] (0, 0) _ rfl (by refine blk_put (cs := #[.int .i64 t328, .int .i64 t329, .string (⟨#[]⟩ : ByteArray)]) ?_ 2 _ rfl; refine blk_put (cs := #[.int .i64 t328, .int .i64 0, .string (⟨#[]⟩ : ByteArray)]) ?_ 1 _ rfl; refine blk_put (cs := #[.int .i64 0, .int .i64 0, .string (⟨#[]⟩ : ByteArray)]) ?_ 0 _ rfl; exact BK324.out) Tryd.underlying23 rfl (by kernel_rfl)) rfl ?_
        exact ⟨by first | rfl | (simp [errW_none, errW_some] <;> rfl) | (simp [*, errW_none, errW_some] <;> rfl), by repeat (first | (with_reducible first | exact HB.out | apply blA | apply pbN | apply blD | refine blS ?_ GE322.out | refine blS ?_ GE323.out | refine blS ?_ GE324.out) | exact HB.out)⟩
       ·rw [if_neg c55] at H
        have c55b0 : (a0 == 9) = false := beq_eq_false_iff_ne.mpr c55
        have c55b1 : (a0 != 9) = true := bne_iff_ne.mpr c55
        by_cases c65 : a0 = 10
        ·rw [if_pos c65] at H
         have c65b0 : (a0 == 10) = true := beq_iff_eq.mpr c65
         have c65b1 : (a0 != 10) = false := bne_eq_false_iff_eq.mpr c65
         clear c65
         replace H := Option.bind_eq_some_iff.mp H
         obtain ⟨⟨t331, t332, t333⟩, A660, H⟩ := H
         replace H : (some (t331, t332, t333, 0)) = some (r1, r2, r3, r4) := H
         have A66 := Asd.mk A660
         clear A660
         simp only [Option.some.injEq, Prod.mk.injEq] at H
         obtain ⟨rfl, rfl, rfl, rfl⟩ := H
         have hnb67 := NB322_323.out
         have hnc67 := NB323_322.out
         have hnb68 := NB322_324.out
         have hnc68 := NB324_322.out
         obtain ⟨hcz69_0, hcz69_1, hcz69_2⟩ := bkC3 BK322.out
         obtain ⟨hfz69_0, hfz69_1, hfz69_2⟩ := bkF3 BK322.out
         have hnb70 := NB323_324.out
         have hnc70 := NB324_323.out
         obtain ⟨hcz71_0, hcz71_1, hcz71_2⟩ := bkC3 BK323.out
         obtain ⟨hfz71_0, hfz71_1, hfz71_2⟩ := bkF3 BK323.out
         go_wp2_with (first | ((with_reducible refine gate_callee (f := 102) rfl ?_); refine goesL_ (some 58) rfl rfl Tryd.func102 (by kernel_rfl) rfl #[.agg #[.int .i64 a1_0, .int .i64 a1_1, .string a1_2], .agg #[.int .i64 a2_0, .int .i64 a2_1, .string a2_2]] rfl (by (try simp only [List.map_toArray, List.map_cons, List.map_nil]); first | done | rfl | (simp only [List.length_drop, List.length_take]; rfl)) ?_; (with_reducible refine (q01_Compare.calls a1_0 a1_1 a1_2 a2_0 a2_1 a2_2 t327 _ A54.out).mono ?_); rintro e w72 ⟨rfl, hb⟩; refine ⟨_, rfl, ?_⟩; replace BK322 := Asd.mk (bB hb BK322.out); replace BK323 := Asd.mk (bB hb BK323.out); replace BK324 := Asd.mk (bB hb BK324.out); replace HB := Asd.mk (bS hb HB.out); clear hb) | ((with_reducible refine gate_callee (f := 82) rfl ?_); refine goesL_ (some 69) rfl rfl Tryd.func82 (by kernel_rfl) rfl #[.bool (t327 != 0)] rfl (by (try simp only [List.map_toArray, List.map_cons, List.map_nil]); first | done | rfl | (simp only [List.length_drop, List.length_take]; rfl)) ?_; (with_reducible refine (q01_Truth.calls (t327 != 0) t331 t332 t333 _ A66.out).mono ?_); rintro e w73 ⟨rfl, hb⟩; refine ⟨_, rfl, ?_⟩; replace BK322 := Asd.mk (bB hb BK322.out); replace BK323 := Asd.mk (bB hb BK323.out); replace BK324 := Asd.mk (bB hb BK324.out); replace HB := Asd.mk (bS hb HB.out); clear hb; obtain ⟨hcz74_0, hcz74_1, hcz74_2⟩ := bkC3 BK324.out; obtain ⟨hfz74_0, hfz74_1, hfz74_2⟩ := bkF3 BK324.out))
         refine bodyPost_ret (results_ct rfl _ _ gb324 23 #[.int .i64 t331, .int .i64 t332, .string t333] (0, 0) _ rfl (by refine blk_put (cs := #[.int .i64 t331, .int .i64 t332, .string (⟨#[]⟩ : ByteArray)]) ?_ 2 _ rfl; refine blk_put (cs := #[.int .i64 t331, .int .i64 0, .string (⟨#[]⟩ : ByteArray)]) ?_ 1 _ rfl; refine blk_put (cs := #[.int .i64 0, .int .i64 0, .string (⟨#[]⟩ : ByteArray)]) ?_ 0 _ rfl; exact BK324.out) Tryd.underlying23 rfl (by kernel_rfl)) rfl ?_
         exact ⟨by first | rfl | (simp [errW_none, errW_some] <;> rfl) | (simp [*, errW_none, errW_some] <;> rfl), by repeat (first | (with_reducible first | exact HB.out | apply blA | apply pbN | apply blD | refine blS ?_ GE322.out | refine blS ?_ GE323.out | refine blS ?_ GE324.out) | exact HB.out)⟩
        ·rw [if_neg c65] at H
         have c65b0 : (a0 == 10) = false := beq_eq_false_iff_ne.mpr c65
         have c65b1 : (a0 != 10) = true := bne_iff_ne.mpr c65
         by_cases c75 : a0 = 11
         ·rw [if_pos c75] at H
          have c75b0 : (a0 == 11) = true := beq_iff_eq.mpr c75
          have c75b1 : (a0 != 11) = false := bne_eq_false_iff_eq.mpr c75
          clear c75
          replace H := Option.bind_eq_some_iff.mp H
          obtain ⟨⟨t334, t335, t336⟩, A760, H⟩ := H
          replace H : (some (t334, t335, t336, 0)) = some (r1, r2, r3, r4) := H
          have A76 := Asd.mk A760
          clear A760
          simp only [Option.some.injEq, Prod.mk.injEq] at H
          obtain ⟨rfl, rfl, rfl, rfl⟩ := H
          have hnb77 := NB322_323.out
          have hnc77 := NB323_322.out
          have hnb78 := NB322_324.out
          have hnc78 := NB324_322.out
          obtain ⟨hcz79_0, hcz79_1, hcz79_2⟩ := bkC3 BK322.out
          obtain ⟨hfz79_0, hfz79_1, hfz79_2⟩ := bkF3 BK322.out
          have hnb80 := NB323_324.out
          have hnc80 := NB324_323.out
          obtain ⟨hcz81_0, hcz81_1, hcz81_2⟩ := bkC3 BK323.out
          obtain ⟨hfz81_0, hfz81_1, hfz81_2⟩ := bkF3 BK323.out
          go_wp2_with (first | ((with_reducible refine gate_callee (f := 102) rfl ?_); refine goesL_ (some 58) rfl rfl Tryd.func102 (by kernel_rfl) rfl #[.agg #[.int .i64 a1_0, .int .i64 a1_1, .string a1_2], .agg #[.int .i64 a2_0, .int .i64 a2_1, .string a2_2]] rfl (by (try simp only [List.map_toArray, List.map_cons, List.map_nil]); first | done | rfl | (simp only [List.length_drop, List.length_take]; rfl)) ?_; (with_reducible refine (q01_Compare.calls a1_0 a1_1 a1_2 a2_0 a2_1 a2_2 t327 _ A54.out).mono ?_); rintro e w82 ⟨rfl, hb⟩; refine ⟨_, rfl, ?_⟩; replace BK322 := Asd.mk (bB hb BK322.out); replace BK323 := Asd.mk (bB hb BK323.out); replace BK324 := Asd.mk (bB hb BK324.out); replace HB := Asd.mk (bS hb HB.out); clear hb) | ((with_reducible refine gate_callee (f := 82) rfl ?_); refine goesL_ (some 74) rfl rfl Tryd.func82 (by kernel_rfl) rfl #[.bool (decide (t327 < 0))] rfl (by (try simp only [List.map_toArray, List.map_cons, List.map_nil]); first | done | rfl | (simp only [List.length_drop, List.length_take]; rfl)) ?_; (with_reducible refine (q01_Truth.calls (decide (t327 < 0)) t334 t335 t336 _ A76.out).mono ?_); rintro e w83 ⟨rfl, hb⟩; refine ⟨_, rfl, ?_⟩; replace BK322 := Asd.mk (bB hb BK322.out); replace BK323 := Asd.mk (bB hb BK323.out); replace BK324 := Asd.mk (bB hb BK324.out); replace HB := Asd.mk (bS hb HB.out); clear hb; obtain ⟨hcz84_0, hcz84_1, hcz84_2⟩ := bkC3 BK324.out; obtain ⟨hfz84_0, hfz84_1, hfz84_2⟩ := bkF3 BK324.out))
          refine bodyPost_ret (results_ct rfl _ _ gb324 23 #[.int .i64 t334, .int .i64 t335, .string t336] (0, 0) _ rfl (by refine blk_put (cs := #[.int .i64 t334, .int .i64 t335, .string (⟨#[]⟩ : ByteArray)]) ?_ 2 _ rfl; refine blk_put (cs := #[.int .i64 t334, .int .i64 0, .string (⟨#[]⟩ : ByteArray)]) ?_ 1 _ rfl; refine blk_put (cs := #[.int .i64 0, .int .i64 0, .string (⟨#[]⟩ : ByteArray)]) ?_ 0 _ rfl; exact BK324.out) Tryd.underlying23 rfl (by kernel_rfl)) rfl ?_
          exact ⟨by first | rfl | (simp [errW_none, errW_some] <;> rfl) | (simp [*, errW_none, errW_some] <;> rfl), by repeat (first | (with_reducible first | exact HB.out | apply blA | apply pbN | apply blD | refine blS ?_ GE322.out | refine blS ?_ GE323.out | refine blS ?_ GE324.out) | exact HB.out)⟩
         ·rw [if_neg c75] at H
          have c75b0 : (a0 == 11) = false := beq_eq_false_iff_ne.mpr c75
          have c75b1 : (a0 != 11) = true := bne_iff_ne.mpr c75
          by_cases c85 : a0 = 12
          ·rw [if_pos c85] at H
           have c85b0 : (a0 == 12) = true := beq_iff_eq.mpr c85
           have c85b1 : (a0 != 12) = false := bne_eq_false_iff_eq.mpr c85
           clear c85
           replace H := Option.bind_eq_some_iff.mp H
           obtain ⟨⟨t337, t338, t339⟩, A860, H⟩ := H
           replace H : (some (t337, t338, t339, 0)) = some (r1, r2, r3, r4) := H
           have A86 := Asd.mk A860
           clear A860
           simp only [Option.some.injEq, Prod.mk.injEq] at H
           obtain ⟨rfl, rfl, rfl, rfl⟩ := H
           have hnb87 := NB322_323.out
           have hnc87 := NB323_322.out
           have hnb88 := NB322_324.out
           have hnc88 := NB324_322.out
           obtain ⟨hcz89_0, hcz89_1, hcz89_2⟩ := bkC3 BK322.out
           obtain ⟨hfz89_0, hfz89_1, hfz89_2⟩ := bkF3 BK322.out
           have hnb90 := NB323_324.out
           have hnc90 := NB324_323.out
           obtain ⟨hcz91_0, hcz91_1, hcz91_2⟩ := bkC3 BK323.out
           obtain ⟨hfz91_0, hfz91_1, hfz91_2⟩ := bkF3 BK323.out
           go_wp2_with (first | ((with_reducible refine gate_callee (f := 102) rfl ?_); refine goesL_ (some 58) rfl rfl Tryd.func102 (by kernel_rfl) rfl #[.agg #[.int .i64 a1_0, .int .i64 a1_1, .string a1_2], .agg #[.int .i64 a2_0, .int .i64 a2_1, .string a2_2]] rfl (by (try simp only [List.map_toArray, List.map_cons, List.map_nil]); first | done | rfl | (simp only [List.length_drop, List.length_take]; rfl)) ?_; (with_reducible refine (q01_Compare.calls a1_0 a1_1 a1_2 a2_0 a2_1 a2_2 t327 _ A54.out).mono ?_); rintro e w92 ⟨rfl, hb⟩; refine ⟨_, rfl, ?_⟩; replace BK322 := Asd.mk (bB hb BK322.out); replace BK323 := Asd.mk (bB hb BK323.out); replace BK324 := Asd.mk (bB hb BK324.out); replace HB := Asd.mk (bS hb HB.out); clear hb) | ((with_reducible refine gate_callee (f := 82) rfl ?_); refine goesL_ (some 79) rfl rfl Tryd.func82 (by kernel_rfl) rfl #[.bool (decide (t327 ≤ 0))] rfl (by (try simp only [List.map_toArray, List.map_cons, List.map_nil]); first | done | rfl | (simp only [List.length_drop, List.length_take]; rfl)) ?_; (with_reducible refine (q01_Truth.calls (decide (t327 ≤ 0)) t337 t338 t339 _ A86.out).mono ?_); rintro e w93 ⟨rfl, hb⟩; refine ⟨_, rfl, ?_⟩; replace BK322 := Asd.mk (bB hb BK322.out); replace BK323 := Asd.mk (bB hb BK323.out); replace BK324 := Asd.mk (bB hb BK324.out); replace HB := Asd.mk (bS hb HB.out); clear hb; obtain ⟨hcz94_0, hcz94_1, hcz94_2⟩ := bkC3 BK324.out; obtain ⟨hfz94_0, hfz94_1, hfz94_2⟩ := bkF3 BK324.out))
           refine bodyPost_ret (results_ct rfl _ _ gb324 23 #[.int .i64 t337, .int .i64 t338, .string t339] (0, 0) _ rfl (by refine blk_put (cs := #[.int .i64 t337, .int .i64 t338, .string (⟨#[]⟩ : ByteArray)]) ?_ 2 _ rfl; refine blk_put (cs := #[.int .i64 t337, .int .i64 0, .string (⟨#[]⟩ : ByteArray)]) ?_ 1 _ rfl; refine blk_put (cs := #[.int .i64 0, .int .i64 0, .string (⟨#[]⟩ : ByteArray)]) ?_ 0 _ rfl; exact BK324.out) Tryd.underlying23 rfl (by kernel_rfl)) rfl ?_
           exact ⟨by first | rfl | (simp [errW_none, errW_some] <;> rfl) | (simp [*, errW_none, errW_some] <;> rfl), by repeat (first | (with_reducible first | exact HB.out | apply blA | apply pbN | apply blD | refine blS ?_ GE322.out | refine blS ?_ GE323.out | refine blS ?_ GE324.out) | exact HB.out)⟩
          ·rw [if_neg c85] at H
           have c85b0 : (a0 == 12) = false := beq_eq_false_iff_ne.mpr c85
           have c85b1 : (a0 != 12) = true := bne_iff_ne.mpr c85
           by_cases c95 : a0 = 13
           ·rw [if_pos c95] at H
            have c95b0 : (a0 == 13) = true := beq_iff_eq.mpr c95
            have c95b1 : (a0 != 13) = false := bne_eq_false_iff_eq.mpr c95
            clear c95
            replace H := Option.bind_eq_some_iff.mp H
            obtain ⟨⟨t340, t341, t342⟩, A960, H⟩ := H
            replace H : (some (t340, t341, t342, 0)) = some (r1, r2, r3, r4) := H
            have A96 := Asd.mk A960
            clear A960
            simp only [Option.some.injEq, Prod.mk.injEq] at H
            obtain ⟨rfl, rfl, rfl, rfl⟩ := H
            have hnb97 := NB322_323.out
            have hnc97 := NB323_322.out
            have hnb98 := NB322_324.out
            have hnc98 := NB324_322.out
            obtain ⟨hcz99_0, hcz99_1, hcz99_2⟩ := bkC3 BK322.out
            obtain ⟨hfz99_0, hfz99_1, hfz99_2⟩ := bkF3 BK322.out
            have hnb100 := NB323_324.out
            have hnc100 := NB324_323.out
            obtain ⟨hcz101_0, hcz101_1, hcz101_2⟩ := bkC3 BK323.out
            obtain ⟨hfz101_0, hfz101_1, hfz101_2⟩ := bkF3 BK323.out
            go_wp2_with (first | ((with_reducible refine gate_callee (f := 102) rfl ?_); refine goesL_ (some 58) rfl rfl Tryd.func102 (by kernel_rfl) rfl #[.agg #[.int .i64 a1_0, .int .i64 a1_1, .string a1_2], .agg #[.int .i64 a2_0, .int .i64 a2_1, .string a2_2]] rfl (by (try simp only [List.map_toArray, List.map_cons, List.map_nil]); first | done | rfl | (simp only [List.length_drop, List.length_take]; rfl)) ?_; (with_reducible refine (q01_Compare.calls a1_0 a1_1 a1_2 a2_0 a2_1 a2_2 t327 _ A54.out).mono ?_); rintro e w102 ⟨rfl, hb⟩; refine ⟨_, rfl, ?_⟩; replace BK322 := Asd.mk (bB hb BK322.out); replace BK323 := Asd.mk (bB hb BK323.out); replace BK324 := Asd.mk (bB hb BK324.out); replace HB := Asd.mk (bS hb HB.out); clear hb) | ((with_reducible refine gate_callee (f := 82) rfl ?_); refine goesL_ (some 84) rfl rfl Tryd.func82 (by kernel_rfl) rfl #[.bool (decide (t327 > 0))] rfl (by (try simp only [List.map_toArray, List.map_cons, List.map_nil]); first | done | rfl | (simp only [List.length_drop, List.length_take]; rfl)) ?_; (with_reducible refine (q01_Truth.calls (decide (t327 > 0)) t340 t341 t342 _ A96.out).mono ?_); rintro e w103 ⟨rfl, hb⟩; refine ⟨_, rfl, ?_⟩; replace BK322 := Asd.mk (bB hb BK322.out); replace BK323 := Asd.mk (bB hb BK323.out); replace BK324 := Asd.mk (bB hb BK324.out); replace HB := Asd.mk (bS hb HB.out); clear hb; obtain ⟨hcz104_0, hcz104_1, hcz104_2⟩ := bkC3 BK324.out; obtain ⟨hfz104_0, hfz104_1, hfz104_2⟩ := bkF3 BK324.out))
            refine bodyPost_ret (results_ct rfl _ _ gb324 23 #[.int .i64 t340, .int .i64 t341, .string t342] (0, 0) _ rfl (by refine blk_put (cs := #[.int .i64 t340, .int .i64 t341, .string (⟨#[]⟩ : ByteArray)]) ?_ 2 _ rfl; refine blk_put (cs := #[.int .i64 t340, .int .i64 0, .string (⟨#[]⟩ : ByteArray)]) ?_ 1 _ rfl; refine blk_put (cs := #[.int .i64 0, .int .i64 0, .string (⟨#[]⟩ : ByteArray)]) ?_ 0 _ rfl; exact BK324.out) Tryd.underlying23 rfl (by kernel_rfl)) rfl ?_
            exact ⟨by first | rfl | (simp [errW_none, errW_some] <;> rfl) | (simp [*, errW_none, errW_some] <;> rfl), by repeat (first | (with_reducible first | exact HB.out | apply blA | apply pbN | apply blD | refine blS ?_ GE322.out | refine blS ?_ GE323.out | refine blS ?_ GE324.out) | exact HB.out)⟩
           ·rw [if_neg c95] at H
            have c95b0 : (a0 == 13) = false := beq_eq_false_iff_ne.mpr c95
            have c95b1 : (a0 != 13) = true := bne_iff_ne.mpr c95
            replace H := Option.bind_eq_some_iff.mp H
            obtain ⟨⟨t343, t344, t345⟩, A1050, H⟩ := H
            replace H : (some (t343, t344, t345, 0)) = some (r1, r2, r3, r4) := H
            have A105 := Asd.mk A1050
            clear A1050
            simp only [Option.some.injEq, Prod.mk.injEq] at H
            obtain ⟨rfl, rfl, rfl, rfl⟩ := H
            have hnb106 := NB322_323.out
            have hnc106 := NB323_322.out
            have hnb107 := NB322_324.out
            have hnc107 := NB324_322.out
            obtain ⟨hcz108_0, hcz108_1, hcz108_2⟩ := bkC3 BK322.out
            obtain ⟨hfz108_0, hfz108_1, hfz108_2⟩ := bkF3 BK322.out
            have hnb109 := NB323_324.out
            have hnc109 := NB324_323.out
            obtain ⟨hcz110_0, hcz110_1, hcz110_2⟩ := bkC3 BK323.out
            obtain ⟨hfz110_0, hfz110_1, hfz110_2⟩ := bkF3 BK323.out
            go_wp2_with (first | ((with_reducible refine gate_callee (f := 102) rfl ?_); refine goesL_ (some 58) rfl rfl Tryd.func102 (by kernel_rfl) rfl #[.agg #[.int .i64 a1_0, .int .i64 a1_1, .string a1_2], .agg #[.int .i64 a2_0, .int .i64 a2_1, .string a2_2]] rfl (by (try simp only [List.map_toArray, List.map_cons, List.map_nil]); first | done | rfl | (simp only [List.length_drop, List.length_take]; rfl)) ?_; (with_reducible refine (q01_Compare.calls a1_0 a1_1 a1_2 a2_0 a2_1 a2_2 t327 _ A54.out).mono ?_); rintro e w111 ⟨rfl, hb⟩; refine ⟨_, rfl, ?_⟩; replace BK322 := Asd.mk (bB hb BK322.out); replace BK323 := Asd.mk (bB hb BK323.out); replace BK324 := Asd.mk (bB hb BK324.out); replace HB := Asd.mk (bS hb HB.out); clear hb) | ((with_reducible refine gate_callee (f := 82) rfl ?_); refine goesL_ (some 87) rfl rfl Tryd.func82 (by kernel_rfl) rfl #[.bool (decide (t327 ≥ 0))] rfl (by (try simp only [List.map_toArray, List.map_cons, List.map_nil]); first | done | rfl | (simp only [List.length_drop, List.length_take]; rfl)) ?_; (with_reducible refine (q01_Truth.calls (decide (t327 ≥ 0)) t343 t344 t345 _ A105.out).mono ?_); rintro e w112 ⟨rfl, hb⟩; refine ⟨_, rfl, ?_⟩; replace BK322 := Asd.mk (bB hb BK322.out); replace BK323 := Asd.mk (bB hb BK323.out); replace BK324 := Asd.mk (bB hb BK324.out); replace HB := Asd.mk (bS hb HB.out); clear hb; obtain ⟨hcz113_0, hcz113_1, hcz113_2⟩ := bkC3 BK324.out; obtain ⟨hfz113_0, hfz113_1, hfz113_2⟩ := bkF3 BK324.out))
            refine bodyPost_ret (results_ct rfl _ _ gb324 23 #[.int .i64 t343, .int .i64 t344, .string t345] (0, 0) _ rfl (by refine blk_put (cs := #[.int .i64 t343, .int .i64 t344, .string (⟨#[]⟩ : ByteArray)]) ?_ 2 _ rfl; refine blk_put (cs := #[.int .i64 t343, .int .i64 0, .string (⟨#[]⟩ : ByteArray)]) ?_ 1 _ rfl; refine blk_put (cs := #[.int .i64 0, .int .i64 0, .string (⟨#[]⟩ : ByteArray)]) ?_ 0 _ rfl; exact BK324.out) Tryd.underlying23 rfl (by kernel_rfl)) rfl ?_
            exact ⟨by first | rfl | (simp [errW_none, errW_some] <;> rfl) | (simp [*, errW_none, errW_some] <;> rfl), by repeat (first | (with_reducible first | exact HB.out | apply blA | apply pbN | apply blD | refine blS ?_ GE322.out | refine blS ?_ GE323.out | refine blS ?_ GE324.out) | exact HB.out)⟩
end Go.Proofs.YtkboodfnegedaaaDoor.E
