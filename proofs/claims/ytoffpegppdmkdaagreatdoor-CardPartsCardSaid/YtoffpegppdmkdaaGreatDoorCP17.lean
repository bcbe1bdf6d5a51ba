/- Contracts and plain lemmas of the functions that the law reaches, part 17. -/
import Derived.Lib.Hide
import Derived.Outline
import Derived.Laws.Cover1
import Derived.Deep.RegionHeld3
import Derived.Test.YtoffpegppdmkdaaGreatDoorCP3
import Derived.Test.YtoffpegppdmkdaaGreatDoorCP10
namespace Go.Proofs.YtoffpegppdmkdaaGreatDoor.E
open Go.RowKit Go.Proofs.YtoffpegppdmkdaaGreatDoorW.PrintWords Go.Proofs.YtoffpegppdmkdaaGreatDoorW.PrintLast Go.Proofs.YtoffpegppdmkdaaGreatDoorW.PrintMore
theorem isNaN_no (a : ByteArray) : cmp_isNaN_string.f a = some false := by
  unfold cmp_isNaN_string.f
  simp
def cmp_Compare_string.f (a0 : ByteArray) (a1 : ByteArray) : Option (Int) := some (if Op.bytesLess a0.toList a1.toList = true then -1 else if (a0.toList == a1.toList) = true then 0 else 1)
set_option maxRecDepth 100000 in
theorem cmp_Compare_string.calls (a0 : ByteArray) (a1 : ByteArray) (r : Int) (w : World) (h : cmp_Compare_string.f a0 a1 = some r) :
    Calls Tryz.prog 110 #[.string a0, .string a1] w fun e w' => e = .returned (.int .i64 r) ∧ Below w.heap.size w w' := by
  obtain h := Option.some.inj h
  have HR := Lib.hid h.symm; clear h
  have HN0 := Lib.hid (fun w => cmp_isNaN_string.calls a0 false w (isNaN_no a0))
  have HN1 := Lib.hid (fun w => cmp_isNaN_string.calls a1 false w (isNaN_no a1))
  go_enter Tryz.func110, Tryz.ntmps110
  go_upto_region 2 with (go_at_call 132; refine (HN0.out w).mono ?_; rintro r w1 ⟨rfl, hD1⟩)
  go_upto_region 3 with (go_at_call 132; refine (HN1.out w1).mono ?_; rintro r w2 ⟨rfl, hD2⟩)
  have hBB : Below w.heap.size w w2 := by
    obtain ⟨n, rfl⟩ := hD1.out
    obtain ⟨m, rfl⟩ := hD2.out
    exact pbN (pbN (Below.refl _ _) n) m
  have HB := Lib.hid hBB
  clear hBB hD1 hD2
  by_cases h1 : Op.bytesLess a0.toList a1.toList = true
  · have HR2 : Hid (r = -1) := by have h := HR.out; rw [if_pos h1] at h; exact Lib.hid h
    go_wp2_with fail
    go_ret
    exact ⟨by rw [HR2.out]; rfl, HB.out⟩
  · by_cases h2 : (a0.toList == a1.toList) = true
    · have HR2 : Hid (r = 0) := by have h := HR.out; rw [if_neg h1, if_pos h2] at h; exact Lib.hid h
      replace h1 := Bool.eq_false_iff.mpr h1
      go_wp2_with fail
      go_ret
      exact ⟨by rw [HR2.out]; rfl, HB.out⟩
    · have HR2 : Hid (r = 1) := by have h := HR.out; rw [if_neg h1, if_neg h2] at h; exact Lib.hid h
      replace h1 := Bool.eq_false_iff.mpr h1
      replace h2 := Bool.eq_false_iff.mpr h2
      go_wp2_with fail
      go_ret
      exact ⟨by rw [HR2.out]; rfl, HB.out⟩
end Go.Proofs.YtoffpegppdmkdaaGreatDoor.E
namespace Go.Proofs.YtoffpegppdmkdaaGreatDoor.E
open Go.RowKit Go.Proofs.YtoffpegppdmkdaaGreatDoorW.PrintWords Go.Proofs.YtoffpegppdmkdaaGreatDoorW.PrintLast Go.Proofs.YtoffpegppdmkdaaGreatDoorW.PrintMore
attribute [local go_sem] max2_int min2_int max_two min_two max_three min_three max_four min_four   -- for this text's walks alone
set_option linter.unusedVariables false
set_option linter.unusedSimpArgs false
def value_Compare.f (k : Nat) (a0_0 : Int) (a0_1 : Int) (a0_2 : ByteArray) (a1_0 : Int) (a1_1 : Int) (a1_2 : ByteArray) : Option (Int) := (cmp_Compare_int.f a0_0 a1_0).bind fun t144 => ((cmp_Compare_int.f a0_1 a1_1).bind fun t145 => ((cmp_Compare_string.f a0_2 a1_2).bind fun t146 => ((value_first_int.f k (([t144, t145, t146] : List Int))).bind fun t150 => (some t150))))
def value_Compare.T1 : Bool × List (List Nat × List Nat) := (true, [([], []), ([0], [0]), ([], []), ([2], [2]), ([1, 3], [1, 3]), ([], []), ([5], [5]), ([], []), ([7], [7]), ([6, 8, 4], [6, 8]), ([], []), ([10], [10]), ([], []), ([12], [12]), ([11, 13, 9], [11, 13]), ([4, 9, 14], [4, 9, 14]), ([15, 14], [15]), ([16, 16, 0, 1, 2, 3, 4, 5, 6, 7, 8, 9, 10, 11, 12, 13, 14, 15, 16], [16])])
def value_Compare.B1 : List Nat := [0, 1, 0, 4, 15, 0, 32, 0, 128, 511, 0, 1024, 0, 4096, 16383, 32767, 65535, 131071]
theorem value_Compare.tab1 : rtab .any (opsOf Tryz.f91 1) = value_Compare.T1 := by kernel_rfl
theorem value_Compare.bits1 : waitsOk value_Compare.T1.2 value_Compare.B1 = true := by kernel_rfl
set_option maxHeartbeats 8000000 in
set_option maxRecDepth 100000 in
theorem value_Compare.calls (k : Nat) (a0_0 : Int) (a0_1 : Int) (a0_2 : ByteArray) (a1_0 : Int) (a1_1 : Int) (a1_2 : ByteArray) (r : Int) (w : World) (h : value_Compare.f k a0_0 a0_1 a0_2 a1_0 a1_1 a1_2 = some r) :
  Calls Tryz.prog 91 #[.agg #[.int .i64 a0_0, .int .i64 a0_1, .string a0_2], .agg #[.int .i64 a1_0, .int .i64 a1_1, .string a1_2]] w fun e w' => e = .returned (.int .i64 r) ∧ Below w.heap.size w w' := by
 have hu23 := Tryz.underlying23
 have HB := Asd.mk (Below.refl w.heap.size w)
 have H : ((cmp_Compare_int.f a0_0 a1_0).bind fun t144 => ((cmp_Compare_int.f a0_1 a1_1).bind fun t145 => ((cmp_Compare_string.f a0_2 a1_2).bind fun t146 => ((value_first_int.f k (([t144, t145, t146] : List Int))).bind fun t150 => (some t150))))) = some r := h
 clear h
 replace H := Option.bind_eq_some_iff.mp H
 obtain ⟨t144, A30, H⟩ := H
 replace H : ((cmp_Compare_int.f a0_1 a1_1).bind fun t145 => ((cmp_Compare_string.f a0_2 a1_2).bind fun t146 => ((value_first_int.f k (([t144, t145, t146] : List Int))).bind fun t150 => (some t150)))) = some r := H
 have A3 := Asd.mk A30
 clear A30
 replace H := Option.bind_eq_some_iff.mp H
 obtain ⟨t145, A40, H⟩ := H
 replace H : ((cmp_Compare_string.f a0_2 a1_2).bind fun t146 => ((value_first_int.f k (([t144, t145, t146] : List Int))).bind fun t150 => (some t150))) = some r := H
 have A4 := Asd.mk A40
 clear A40
 replace H := Option.bind_eq_some_iff.mp H
 obtain ⟨t146, A50, H⟩ := H
 replace H : ((value_first_int.f k (([t144, t145, t146] : List Int))).bind fun t150 => (some t150)) = some r := H
 have A5 := Asd.mk A50
 clear A50
 obtain ⟨y147, hy147⟩ : ∃ y_ : List Int, y_ = (([t144, t145, t146] : List Int)) := ⟨_, rfl⟩
 replace H : ((value_first_int.f k y147).bind fun t150 => (some t150)) = some r := by first | (rw [hy147]; with_reducible exact H) | (have H2_ := (Option.bind_some _ _).symm.trans H; rw [hy147]; with_reducible exact H2_) | (have H2_ := (Option.bind_some _ _).symm.trans H; with_reducible exact H2_) | with_reducible exact H | (rw [hy147]; exact H) | exact H
 have Ny147 := Asd.mk hy147
 clear hy147
 replace H := Option.bind_eq_some_iff.mp H
 obtain ⟨t150, A60, H⟩ := H
 replace H : (some t150) = some r := H
 have A6 := Asd.mk A60
 clear A60
 obtain rfl := Option.some.inj H
 go_enter Tryz.func91, Tryz.ntmps91
 try go_wp2_with (first | ((with_reducible refine gate_dst (N := 2) rfl ?_); refine box_event rfl (N := 2) rfl (cs := #[.int .i64 a0_0, .int .i64 a0_1, .string a0_2]) (t := 23) (by first | (go_simp; done) | (go_simp; rfl)) ?_; intro gb142 hg w7 hbox hb; have BK142 := Asd.mk (hbox); have GW142 := Asd.mk (bZ hg HB.out); have GE142 := GW142; replace HB := Asd.mk (bS hb HB.out); clear hb hbox hg) | ((with_reducible refine gate_dst (N := 3) rfl ?_); refine box_event rfl (N := 3) rfl (cs := #[.int .i64 a1_0, .int .i64 a1_1, .string a1_2]) (t := 23) (by first | (go_simp; done) | (go_simp; rfl)) ?_; intro gb143 hg w8 hbox hb; have BK143 := Asd.mk (hbox); have GW143 := Asd.mk (bZ hg HB.out); have GE143 := GW143; have NB142_143 := Asd.mk (bL hg BK142.out); have NB143_142 := Asd.mk (bG hg BK142.out); replace BK142 := Asd.mk (bB hb BK142.out); replace HB := Asd.mk (bS hb HB.out); clear hb hbox hg))
 have n0_ := Asd.mk (bkD BK142.out)
 have n1_ := Asd.mk (bkD BK143.out)
 have n2_ := Asd.mk (blD HB.out)
 clear BK142 BK143 HB
 have BK142 := n0_
 have BK143 := n1_
 have HB := n2_
 clear n0_ n1_ n2_
 refine start_ (n := 18) (S := fun w' => w'.cell? ⟨gb142, 0, none⟩ = some (.int .i64 a0_0) ∧ w'.cell? ⟨gb142, 1, none⟩ = some (.int .i64 a0_1) ∧ w'.cell? ⟨gb142, 2, none⟩ = some (.string a0_2) ∧ w'.cell? ⟨gb143, 0, none⟩ = some (.int .i64 a1_0) ∧ w'.cell? ⟨gb143, 1, none⟩ = some (.int .i64 a1_1) ∧ w'.cell? ⟨gb143, 2, none⟩ = some (.string a1_2)) (ds := []) #[false, false, false, false, false, false, false, false, false, false, false, false, false, false, false, false, false, false] (by kernel_rfl) rfl rfl ⟨(bkC BK142.out 0).trans rfl, (bkC BK142.out 1).trans rfl, (bkC BK142.out 2).trans rfl, (bkC BK143.out 0).trans rfl, (bkC BK143.out 1).trans rfl, (bkC BK143.out 2).trans rfl⟩ (fun hHeld => ?_); refine with_tabW value_Compare.tab1 value_Compare.bits1 (fun HT_ HW_ => ?_)
 generalize w8.drew = w9 at BK142 BK143 HB hHeld ⊢
 refine pure_ (i := 0) (N := some 5) (v := ?_) (a' := ?_) #[true, false, false, false, false, false, false, false, false, false, false, false, false, false, false, false, false, false] rfl rfl (any_of HT_.out (by kernel_rfl)) (fun _ _ _ h => h) (Or.inl ⟨by rfl, ?_⟩) ?_ ?_
 rotate_left
 ·intro w'
  go_simp
  with_reducible rfl
 rotate_left
 ·simp only [Act.put, List.setIfInBounds_toArray, List.set_cons_zero, List.set_cons_succ, i64_w, i32_w]
  rfl
 refine pure_ (i := 2) (N := some 7) (v := ?_) (a' := ?_) #[true, false, true, false, false, false, false, false, false, false, false, false, false, false, false, false, false, false] rfl rfl (any_of HT_.out (by kernel_rfl)) (fun _ _ _ h => h) (Or.inl ⟨by rfl, ?_⟩) ?_ ?_
 rotate_left
 ·intro w'
  go_simp
  with_reducible rfl
 rotate_left
 ·simp only [Act.put, List.setIfInBounds_toArray, List.set_cons_zero, List.set_cons_succ, i64_w, i32_w]
  rfl
 refine pure_ (i := 5) (N := some 10) (v := ?_) (a' := ?_) #[true, false, true, false, false, true, false, false, false, false, false, false, false, false, false, false, false, false] rfl rfl (any_of HT_.out (by kernel_rfl)) (fun _ _ _ h => h) (Or.inl ⟨by rfl, ?_⟩) ?_ ?_
 rotate_left
 ·intro w'
  go_simp
  with_reducible rfl
 rotate_left
 ·simp only [Act.put, List.setIfInBounds_toArray, List.set_cons_zero, List.set_cons_succ, i64_w, i32_w]
  rfl
 refine pure_ (i := 7) (N := some 12) (v := ?_) (a' := ?_) #[true, false, true, false, false, true, false, true, false, false, false, false, false, false, false, false, false, false] rfl rfl (any_of HT_.out (by kernel_rfl)) (fun _ _ _ h => h) (Or.inl ⟨by rfl, ?_⟩) ?_ ?_
 rotate_left
 ·intro w'
  go_simp
  with_reducible rfl
 rotate_left
 ·simp only [Act.put, List.setIfInBounds_toArray, List.set_cons_zero, List.set_cons_succ, i64_w, i32_w]
  rfl
 refine pure_ (i := 10) (N := some 15) (v := ?_) (a' := ?_) #[true, false, true, false, false, true, false, true, false, false, true, false, false, false, false, false, false, false] rfl rfl (any_of HT_.out (by kernel_rfl)) (fun _ _ _ h => h) (Or.inl ⟨by rfl, ?_⟩) ?_ ?_
 rotate_left
 ·intro w'
  go_simp
  with_reducible rfl
 rotate_left
 ·simp only [Act.put, List.setIfInBounds_toArray, List.set_cons_zero, List.set_cons_succ, i64_w, i32_w]
  rfl
 refine pure_ (i := 12) (N := some 17) (v := ?_) (a' := ?_) #[true, false, true, false, false, true, false, true, false, false, true, false, true, false, false, false, false, false] rfl rfl (any_of HT_.out (by kernel_rfl)) (fun _ _ _ h => h) (Or.inl ⟨by rfl, ?_⟩) ?_ ?_
 rotate_left
 ·intro w'
  go_simp
  with_reducible rfl
 rotate_left
 ·simp only [Act.put, List.setIfInBounds_toArray, List.set_cons_zero, List.set_cons_succ, i64_w, i32_w]
  rfl
 refine take_ (i := 1) (N := some 6) (v := ?_) (a' := ?_) #[true, true, true, false, false, true, false, true, false, false, true, false, true, false, false, false, false, false] rfl rfl (take_ofW HT_.out HW_.out (by kernel_rfl)) (fun _ _ _ h => h) (Or.inl ⟨by rfl, ?_⟩) hHeld ?_ ?_
 rotate_left
 ·rintro w' ⟨s0, s1, s2, s3, s4, s5⟩
  go_simp
  with_reducible rfl
 rotate_left
 ·simp only [Act.put, List.setIfInBounds_toArray, List.set_cons_zero, List.set_cons_succ, i64_w, i32_w]
  rfl
 refine take_ (i := 3) (N := some 8) (v := ?_) (a' := ?_) #[true, true, true, true, false, true, false, true, false, false, true, false, true, false, false, false, false, false] rfl rfl (take_ofW HT_.out HW_.out (by kernel_rfl)) (fun _ _ _ h => h) (Or.inl ⟨by rfl, ?_⟩) hHeld ?_ ?_
 rotate_left
 ·rintro w' ⟨s0, s1, s2, s3, s4, s5⟩
  go_simp
  with_reducible rfl
 rotate_left
 ·simp only [Act.put, List.setIfInBounds_toArray, List.set_cons_zero, List.set_cons_succ, i64_w, i32_w]
  rfl
 refine take_ (i := 6) (N := some 11) (v := ?_) (a' := ?_) #[true, true, true, true, false, true, true, true, false, false, true, false, true, false, false, false, false, false] rfl rfl (take_ofW HT_.out HW_.out (by kernel_rfl)) (fun _ _ _ h => h) (Or.inl ⟨by rfl, ?_⟩) hHeld ?_ ?_
 rotate_left
 ·rintro w' ⟨s0, s1, s2, s3, s4, s5⟩
  go_simp
  with_reducible rfl
 rotate_left
 ·simp only [Act.put, List.setIfInBounds_toArray, List.set_cons_zero, List.set_cons_succ, i64_w, i32_w]
  rfl
 refine take_ (i := 8) (N := some 13) (v := ?_) (a' := ?_) #[true, true, true, true, false, true, true, true, true, false, true, false, true, false, false, false, false, false] rfl rfl (take_ofW HT_.out HW_.out (by kernel_rfl)) (fun _ _ _ h => h) (Or.inl ⟨by rfl, ?_⟩) hHeld ?_ ?_
 rotate_left
 ·rintro w' ⟨s0, s1, s2, s3, s4, s5⟩
  go_simp
  with_reducible rfl
 rotate_left
 ·simp only [Act.put, List.setIfInBounds_toArray, List.set_cons_zero, List.set_cons_succ, i64_w, i32_w]
  rfl
 refine take_ (i := 11) (N := some 16) (v := ?_) (a' := ?_) #[true, true, true, true, false, true, true, true, true, false, true, true, true, false, false, false, false, false] rfl rfl (take_ofW HT_.out HW_.out (by kernel_rfl)) (fun _ _ _ h => h) (Or.inl ⟨by rfl, ?_⟩) hHeld ?_ ?_
 rotate_left
 ·rintro w' ⟨s0, s1, s2, s3, s4, s5⟩
  go_simp
  with_reducible rfl
 rotate_left
 ·simp only [Act.put, List.setIfInBounds_toArray, List.set_cons_zero, List.set_cons_succ, i64_w, i32_w]
  rfl
 refine take_ (i := 13) (N := some 18) (v := ?_) (a' := ?_) #[true, true, true, true, false, true, true, true, true, false, true, true, true, true, false, false, false, false] rfl rfl (take_ofW HT_.out HW_.out (by kernel_rfl)) (fun _ _ _ h => h) (Or.inl ⟨by rfl, ?_⟩) hHeld ?_ ?_
 rotate_left
 ·rintro w' ⟨s0, s1, s2, s3, s4, s5⟩
  go_simp
  with_reducible rfl
 rotate_left
 ·simp only [Act.put, List.setIfInBounds_toArray, List.set_cons_zero, List.set_cons_succ, i64_w, i32_w]
  rfl
 refine one_ (i := 4) (N := some 9) #[true, true, true, true, true, true, true, true, true, false, true, true, true, true, false, false, false, false] rfl rfl (one_of HT_.out (by kernel_rfl)) (by decide) (fun K hK => ?_)
 refine goes_ Tryz.func109 (by kernel_rfl) rfl #[.int .i64 a0_0, .int .i64 a1_0] (by rfl) rfl rfl (by (try simp only [List.map_toArray, List.map_cons, List.map_nil]); first | done | rfl | (simp only [List.length_drop, List.length_take]; rfl)) ?_
 with_reducible refine (cmp_Compare_int.calls a0_0 a1_0 t144 _ A3.out).mono ?_
 rintro e w' ⟨rfl, ⟨nd, rfl⟩⟩
 refine ⟨_, rfl, ?_⟩
 refine hK.out _ _ ⟨(bkC BK142.out 0).trans rfl, (bkC BK142.out 1).trans rfl, (bkC BK142.out 2).trans rfl, (bkC BK143.out 0).trans rfl, (bkC BK143.out 1).trans rfl, (bkC BK143.out 2).trans rfl⟩ (fun hHeld => ?_)
 clear hK K
 refine norm_ (a' := ?_) ?_ ?_
 rotate_left
 ·show Act.put _ (some 9) _ = _
  simp only [Act.put, List.setIfInBounds_toArray, List.set_cons_zero, List.set_cons_succ, i64_w, i32_w]
  rfl
 refine one_ (i := 9) (N := some 14) #[true, true, true, true, true, true, true, true, true, true, true, true, true, true, false, false, false, false] rfl rfl (one_of HT_.out (by kernel_rfl)) (by decide) (fun K hK => ?_)
 refine goes_ Tryz.func109 (by kernel_rfl) rfl #[.int .i64 a0_1, .int .i64 a1_1] (by rfl) rfl rfl (by (try simp only [List.map_toArray, List.map_cons, List.map_nil]); first | done | rfl | (simp only [List.length_drop, List.length_take]; rfl)) ?_
 with_reducible refine (cmp_Compare_int.calls a0_1 a1_1 t145 _ A4.out).mono ?_
 rintro e w' ⟨rfl, ⟨nd, rfl⟩⟩
 refine ⟨_, rfl, ?_⟩
 refine hK.out _ _ ⟨(bkC BK142.out 0).trans rfl, (bkC BK142.out 1).trans rfl, (bkC BK142.out 2).trans rfl, (bkC BK143.out 0).trans rfl, (bkC BK143.out 1).trans rfl, (bkC BK143.out 2).trans rfl⟩ (fun hHeld => ?_)
 clear hK K
 refine norm_ (a' := ?_) ?_ ?_
 rotate_left
 ·show Act.put _ (some 14) _ = _
  simp only [Act.put, List.setIfInBounds_toArray, List.set_cons_zero, List.set_cons_succ, i64_w, i32_w]
  rfl
 refine one_ (i := 14) (N := some 19) #[true, true, true, true, true, true, true, true, true, true, true, true, true, true, true, false, false, false] rfl rfl (one_of HT_.out (by kernel_rfl)) (by decide) (fun K hK => ?_)
 refine goes_ Tryz.func110 (by kernel_rfl) rfl #[.string a0_2, .string a1_2] (by rfl) rfl rfl (by (try simp only [List.map_toArray, List.map_cons, List.map_nil]); first | done | rfl | (simp only [List.length_drop, List.length_take]; rfl)) ?_
 with_reducible refine (cmp_Compare_string.calls a0_2 a1_2 t146 _ A5.out).mono ?_
 rintro e w10 ⟨rfl, hb⟩
 refine ⟨_, rfl, ?_⟩
 have n0_ := Asd.mk (bB hb BK142.out)
 have n1_ := Asd.mk (bB hb BK143.out)
 have n2_ := Asd.mk (bS hb HB.out)
 clear BK142 BK143 HB
 have BK142 := n0_
 have BK143 := n1_
 have HB := n2_
 clear n0_ n1_ n2_
 (try clear hb)
 (try clear hb2)
 (try clear hk)
 (try clear hi)
 refine hK.out _ _ ⟨(bkC BK142.out 0).trans rfl, (bkC BK142.out 1).trans rfl, (bkC BK142.out 2).trans rfl, (bkC BK143.out 0).trans rfl, (bkC BK143.out 1).trans rfl, (bkC BK143.out 2).trans rfl⟩ (fun hHeld => ?_)
 clear hK K
 refine norm_ (a' := ?_) ?_ ?_
 rotate_left
 ·show Act.put _ (some 19) _ = _
  simp only [Act.put, List.setIfInBounds_toArray, List.set_cons_zero, List.set_cons_succ, i64_w, i32_w]
  rfl
 refine one_ (i := 15) (N := some 20) #[true, true, true, true, true, true, true, true, true, true, true, true, true, true, true, true, false, false] rfl rfl (one_of HT_.out (by kernel_rfl)) (by decide) (fun K hK => ?_)
 refine Kd.R_lit_step (Kd.int .i64) _ 3 ?hg (N := 20) ?hd (xs := ([t144, t145, t146] : List Int)) (inner := [.int .i64 t144, .int .i64 t145, .int .i64 t146]) (ok := fun _ => True) (okp := fun _ => True) ?hr ?hp (fun _ hk => hk) trivial (Below.refl _ _) (Nat.le_refl _) (by simp) ?_; (case hd => rfl); (case hg => rfl); (case hr => first | (go_simp; done) | (go_simp; rfl)); (case hp => exact (Reps.one (show Kd.M (Kd.int .i64) _ _ _ t144 [.int .i64 t144] from rfl) (Reps.one (show Kd.M (Kd.int .i64) _ _ _ t145 [.int .i64 t145] from rfl) (Reps.one (show Kd.M (Kd.int .i64) _ _ _ t146 [.int .i64 t146] from rfl) (Reps.none _ _)))))
 intro v148 w11 ho12 hb hg_ hnew_
 clear hg_ hnew_
 (first | rw [← Ny147.out] at ho12 | (simp only [Int.reduceToNat] at ho12; rw [← Ny147.out] at ho12))
 have n0_ := Asd.mk (Kd.R_lower ho12 (below_size (by repeat (first | (with_reducible first | exact HB.out | apply blA | apply pbN | apply blD | refine blS ?_ GE142.out | refine blS ?_ GE143.out) | exact HB.out))))
 have n1_ := Asd.mk (bB hb BK142.out)
 have n2_ := Asd.mk (bB hb BK143.out)
 have n3_ := Asd.mk (bS hb HB.out)
 clear BK142 BK143 HB
 have HO149 := n0_
 have BK142 := n1_
 have BK143 := n2_
 have HB := n3_
 clear n0_ n1_ n2_ n3_ hb ho12
 obtain ⟨Ao13, co13, eo13⟩ := Kd.R_slice HO149.out
 (first | subst eo13 | (injection eo13 with f1_ f2_ f3_; have f4_ := f1_.symm; have f5_ := f3_.symm; clear f1_ f2_ f3_; subst f4_; subst f5_))
 refine hK.out _ _ ⟨(bkC BK142.out 0).trans rfl, (bkC BK142.out 1).trans rfl, (bkC BK142.out 2).trans rfl, (bkC BK143.out 0).trans rfl, (bkC BK143.out 1).trans rfl, (bkC BK143.out 2).trans rfl⟩ (fun hHeld => ?_)
 clear hK K
 refine norm_ (a' := ?_) ?_ ?_
 rotate_left
 ·show Act.put _ (some 20) _ = _
  simp only [Act.put, List.setIfInBounds_toArray, List.set_cons_zero, List.set_cons_succ, i64_w, i32_w]
  rfl
 refine one_ (i := 16) (N := some 21) #[true, true, true, true, true, true, true, true, true, true, true, true, true, true, true, true, true, false] rfl rfl (one_of HT_.out (by kernel_rfl)) (by decide) (fun K hK => ?_)
 refine goes_ Tryz.func108 (by kernel_rfl) rfl #[.slice Ao13 y147.length co13] (by rfl) rfl rfl (by (try simp only [List.map_toArray, List.map_cons, List.map_nil]); first | done | rfl | (simp only [List.length_drop, List.length_take]; rfl)) ?_
 with_reducible refine (value_first_int.calls k _ _ y147 t150 _ ?side1 ?side2 A6.out).mono ?_
 (case side1 => repeat (first | exact (Kd.R_reads' HO149.out).2.2 | (with_reducible refine Kd.C_alloc ?_ _) | (with_reducible refine Kd.C_drewN ?_ _) | (with_reducible refine Kd.C_drew ?_)))
 (case side2 => exact (Kd.R_reads' HO149.out).2.1)
 rintro e w' ⟨rfl, ⟨nd, rfl⟩⟩
 refine ⟨_, rfl, ?_⟩
 refine hK.out _ _ ⟨(bkC BK142.out 0).trans rfl, (bkC BK142.out 1).trans rfl, (bkC BK142.out 2).trans rfl, (bkC BK143.out 0).trans rfl, (bkC BK143.out 1).trans rfl, (bkC BK143.out 2).trans rfl⟩ (fun hHeld => ?_)
 clear hK K
 refine norm_ (a' := ?_) ?_ ?_
 rotate_left
 ·show Act.put _ (some 21) _ = _
  simp only [Act.put, List.setIfInBounds_toArray, List.set_cons_zero, List.set_cons_succ, i64_w, i32_w]
  rfl
 refine pure_ (i := 17) (N := some 4) (v := ?_) (a' := ?_) #[true, true, true, true, true, true, true, true, true, true, true, true, true, true, true, true, true, true] rfl rfl (any_of HT_.out (by kernel_rfl)) (fun _ _ _ h => h) (Or.inl ⟨by rfl, ?_⟩) ?_ ?_
 rotate_left
 ·intro w'
  go_simp
  with_reducible rfl
 rotate_left
 ·simp only [Act.put, List.setIfInBounds_toArray, List.set_cons_zero, List.set_cons_succ, i64_w, i32_w]
  rfl
 refine done_ (done_of HT_.out (by kernel_rfl)) ?_
 try go_wp2
 go_ret
 exact ⟨by first | rfl | (simp [errW_none, errW_some] <;> rfl) | (simp [*, errW_none, errW_some] <;> rfl), by repeat (first | (with_reducible first | exact HB.out | apply blA | apply pbN | apply blD | refine blS ?_ GE142.out | refine blS ?_ GE143.out) | exact HB.out)⟩
end Go.Proofs.YtoffpegppdmkdaaGreatDoor.E
namespace Go.Proofs.YtoffpegppdmkdaaGreatDoor.E
set_option linter.unusedSimpArgs false
set_option linter.unusedVariables false
open Go.RowKit Go.Proofs.YtoffpegppdmkdaaGreatDoorW.PrintWords Go.Proofs.YtoffpegppdmkdaaGreatDoorW.PrintLast Go.Proofs.YtoffpegppdmkdaaGreatDoorW.PrintMore
def cmpI (a b : Int) : Int := if a < b then -1 else if a > b then 1 else 0
def cmpS (a b : ByteArray) : Int := if Op.bytesLess a.toList b.toList = true then -1 else if (a.toList == b.toList) = true then 0 else 1
def cmpV (a b : Va) : Int := if cmpI a.f0 b.f0 ≠ 0 then cmpI a.f0 b.f0 else if cmpI a.f1 b.f1 ≠ 0 then cmpI a.f1 b.f1 else cmpS a.f2 b.f2
theorem cmpI_f (a b : Int) : cmp_Compare_int.f a b = some (cmpI a b) := by
  unfold cmp_Compare_int.f cmp_isNaN_int.f cmpI
  simp
  split
  · rfl
  · split <;> rfl
theorem first_f (a b c : Int) : value_first_int.f 9 [a, b, c] = some (if a ≠ 0 then a else if b ≠ 0 then b else c) := by
  have e0 : rd [a, b, c] 0 = a := rfl
  have e1 : rd [a, b, c] 1 = b := rfl
  have e2 : rd [a, b, c] 2 = c := rfl
  have w1 : wrap64 (0 + 1) = 1 := wrap64_succ (j := 0) (by omega)
  have w2 : wrap64 (1 + 1) = 2 := wrap64_succ (j := 1) (by omega)
  have w3 : wrap64 (2 + 1) = 3 := wrap64_succ (j := 2) (by omega)
  unfold value_first_int.f
  simp only [value_first_int.l0, List.length_cons, List.length_nil, e0, e1, e2, w1, w2, w3]
  by_cases ha : a = 0 <;> by_cases hb : b = 0 <;> by_cases hc : c = 0 <;> simp [ha, hb, hc]
theorem cmpV_f (a b : Va) : value_Compare.f 9 a.f0 a.f1 a.f2 b.f0 b.f1 b.f2 = some (cmpV a b) := by
  unfold value_Compare.f
  simp only [cmpI_f, cmp_Compare_string.f, Option.bind_some, first_f]
  rfl
end Go.Proofs.YtoffpegppdmkdaaGreatDoor.E
namespace Go.Proofs.YtoffpegppdmkdaaGreatDoor.E
open Go.RowKit Go.Proofs.YtoffpegppdmkdaaGreatDoorW.PrintWords Go.Proofs.YtoffpegppdmkdaaGreatDoorW.PrintLast Go.Proofs.YtoffpegppdmkdaaGreatDoorW.PrintMore
set_option linter.unusedVariables false
set_option linter.unusedSimpArgs false
abbrev St := S126
def stC (s : St) : Array Value := #[.int .i64 s.f0.f0, .int .i64 s.f0.f1, .string s.f0.f2, .int .i64 s.f1]
def zst : Array Value := #[.int .i64 0, .int .i64 0, .string ⟨#[]⟩, .int .i64 0]
theorem info_st (s : St) : (Tryz.prog.info? 126).map (·.size) = some (stC s).size := by
  have h : (Tryz.prog.info? 126).map (·.size) = some 4 := by kernel_rfl
  rw [h]; rfl
theorem one_st (s : St) : (stC s).all (·.oneCell') = true := by simp [stC, Value.oneCell']
def clipI (n : Int) : Int := mn (mx n 0) 1000000000000
theorem clip_eq (n : Int) : clipI n = if n < 0 then 0 else if n > 1000000000000 then 1000000000000 else n := by
  unfold clipI mn mx; repeat' split
  all_goals omega
theorem clip_0 (n : Int) : 0 ≤ clipI n ∧ clipI n ≤ 1000000000000 := by
  rw [clip_eq]; repeat' split
  all_goals omega
def addI (a b : Int) : Int := clipI (clipI a + clipI b)
theorem add_f (a b : Int) : hist_Add.f a b = some (addI a b) := by
  have ha := clip_0 a; have hb := clip_0 b
  show some (clipI (wrap64 (clipI a + clipI b))) = _
  rw [wrap64_of (by omega) (by omega)]; rfl
def manyI (p : St → Bool) : List St → Int → Int
  | [], n => n
  | s :: l, n => manyI p l (if p s = true then addI n s.f1 else n)
def StpP (fid : Nat) (caps : Array Value) (p : St → Bool) (w : World) : Prop := ∀ (s : St) (W : World), Below w.heap.size w W → Calls Tryz.prog fid (#[.agg (stC s)] ++ caps) W fun e w' => e = .returned (.bool (p s)) ∧ Below W.heap.size W w'
set_option maxHeartbeats 4000000 in
set_option maxRecDepth 100000 in
theorem hsome_ok (fid : Nat) (caps : Array Value) (p : St → Bool) (d m : Int) (l : List St) (A : Option Addr) (c : Nat) (w : World) (hC : Kd.C k126 w A l.length l)
    (hcf : ∀ (args : Array Value) (W : World), (callFunc fid args).run Tryz.prog W = .ok (.enter fid args) W) (hp : StpP fid caps p w) :
    Calls Tryz.prog 88 #[.agg #[.int .i64 d, .int .i64 m, .slice A l.length c], .func (.func fid) #[] caps] w fun e w' => e = .returned (.int .i64 (manyI p l 0)) ∧ Below w.heap.size w w' := by
  have hn63 : l.length ≤ 9223372036854775807 := by have := hC.2.1; omega
  obtain ⟨n, hn⟩ : ∃ n, l.length = n := ⟨_, rfl⟩
  rw [hn] at hC hn63 ⊢
  obtain ⟨R, hR⟩ : ∃ R, manyI p l 0 = R := ⟨_, rfl⟩
  rw [hR]
  have HN := Lib.hid hn; have HC := Lib.hid hC; have HP := Lib.hid hp; have HR := Lib.hid hR; clear hn hC hp hR
  go_enter Tryz.func88, Tryz.ntmps88
  go_upto_region 2 with (first | ((with_reducible refine gate_dst (N := 2) rfl ?_); refine box_event rfl (N := 2) rfl (cs := #[.int .i64 d, .int .i64 m, .slice A n c]) (t := 64) (by first | rfl | (go_simp; done) | (go_simp; rfl)) ?_; intro g hgg w1 hbg hBg;  have HG := Lib.hid hbg; have HB1 := Lib.hid hBg; clear hgg hbg hBg))
  have hg2 : w1.cell? ⟨g, 2, none⟩ = some (.slice A n c) := (bkC HG.out 2).trans rfl
  clear HG
  go_upto_region 3 with fail
  clear hg2
  go_loopw [5, 11] (fun v5 v11 wr => ∃ (k : Nat) (a : Int), k ≤ n ∧ v5 = .int .i64 a ∧ v11 = .int .i64 k ∧ Hid (manyI p (l.drop k) a = R) ∧ Hid (Below w.heap.size w wr)) (fun _ i _ => n - (intOf i).toNat)
  case atStart => exact ⟨0, 0, Nat.zero_le _, rfl, rfl, HR, HB1⟩
  case round =>
    obtain ⟨k, a, hk, rfl, rfl, HA, HB⟩ := hrel
    by_cases hlt : k < n
    · have hlt' : (k : Int) < n := by omega
      obtain ⟨ad, rfl, q0, q1, q2, q3⟩ := at_T126 (Kd.C_below HC.out HB.out) (k : Int) (by omega) hlt'
      rw [show ((k : Int)).toNat = k by omega] at q0 q1 q2 q3
      have hkl : k < l.length := by rw [HN.out]; exact hlt
      obtain ⟨s, hs⟩ : ∃ s, rd_T126 l (k : Int) = s := ⟨_, rfl⟩
      have HD : Hid (l.drop k = s :: l.drop (k + 1)) := Lib.hid (by
        rw [List.drop_eq_getElem_cons hkl, ← hs]
        unfold rd_T126
        simp [List.getElem?_eq_getElem hkl])
      rw [hs] at q0 q1 q2 q3
      clear hs hkl
      go_upto_region 5 with (first | ((with_reducible refine gate_dst (N := 7) rfl ?_); refine box_event rfl (N := 7) rfl (cs := zst) (t := 126) (by first | rfl | (go_simp; done) | (go_simp; rfl)) ?_; intro xb hgg w3 hbxb hBxb;  have hxr : w.heap.size ≤ xb := (by have := HB.out.size; omega); clear hgg) | ((with_reducible refine gate_store (p := 7) (v := .tmp 14) rfl ?_); refine wpList_store_row rfl 126 (.tmp 7) (.tmp 14) rfl xb (stC s) rfl rfl 126 zst hbxb (info_st _) rfl (one_st _) ?_))
      have hx4 := setRow_at w3 xb _ zst (stC s) hbxb
      have HB4 : Hid (Below w.heap.size w (w3.setRow xb (stC s))) := Lib.hid (below_setRow' (HB.out.trans (hBxb.mono HB.out.size)) hxr _)
      clear hbxb hBxb q0 q1 q2 q3
      generalize w3.setRow xb (stC s) = w4 at hx4 HB4 ⊢
      have z0 : w4.cell? ⟨xb, 0, none⟩ = some (.int .i64 s.f0.f0) := (bkC hx4 0).trans rfl
      have z1 : w4.cell? ⟨xb, 1, none⟩ = some (.int .i64 s.f0.f1) := (bkC hx4 1).trans rfl
      have z2 : w4.cell? ⟨xb, 2, none⟩ = some (.string s.f0.f2) := (bkC hx4 2).trans rfl
      have z3 : w4.cell? ⟨xb, 3, none⟩ = some (.int .i64 s.f1) := (bkC hx4 3).trans rfl
      have HX := Lib.hid hx4; clear hx4
      have HCL := Lib.hid (HP.out s w4 HB4.out)
      have hfe : ∀ (args : Array Value), (callFunc fid args).run Tryz.prog w4 = .ok (.enter fid args) w4 := fun args => hcf args w4
      obtain ⟨b, hb⟩ : ∃ b, p s = b := ⟨_, rfl⟩
      rw [hb] at HCL
      have HPS := Lib.hid hb; clear hb
      unfold stC at HCL
      go_wp2_with fail
      refine HCL.out.mono ?_
      rintro r w5 ⟨rfl, hB5⟩
      have HB5 : Hid (Below w.heap.size w w5) := Lib.hid (HB4.out.trans (hB5.mono HB4.out.size))
      have y3 := pw_cell_below hB5 z3
      clear hB5 z0 z1 z2 z3 HCL hfe HX HB4
      cases b with
      | true =>
        have HAD := Lib.hid (hist_Add.calls a s.f1 _ w5 (add_f a s.f1))
        go_wp2_with (go_at_call 107; refine HAD.out.mono ?_; rintro rr w6 ⟨rfl, hB6⟩; have HB6 : Hid (Below w.heap.size w w6) := Lib.hid (HB5.out.trans (hB6.mono HB5.out.size)); clear hB6)
        go_roundw
        case rel => exact ⟨k + 1, _, by omega, rfl, by go_num, by
          have h := HA.out
          rw [HD.out, manyI, HPS.out, if_pos rfl] at h
          exact Lib.hid h, HB6⟩
        case measure => simp [intOf]; omega
      | false =>
        go_wp2_with fail
        go_roundw
        case rel => exact ⟨k + 1, a, by omega, rfl, by go_num, by
          have h := HA.out
          rw [HD.out, manyI, HPS.out, if_neg (by decide)] at h
          exact Lib.hid h, HB5⟩
        case measure => simp [intOf]; omega
    · have hlt' : ¬ (k : Int) < n := by omega
      obtain rfl : n = k := by omega
      go_wp2_with fail
      go_ret
      have h := HA.out
      rw [List.drop_of_length_le (by rw [HN.out]; exact Nat.le_refl _), manyI] at h
      subst h
      exact ⟨rfl, HB.out⟩
theorem hcfM1 : ∀ (args : Array Value) (W : World), (callFunc 89 args).run Tryz.prog W = .ok (.enter 89 args) W := fun args W => by go_simp
theorem hcfB1 : ∀ (args : Array Value) (W : World), (callFunc 90 args).run Tryz.prog W = .ok (.enter 90 args) W := fun args W => by go_simp
theorem many1_ok (w : World) : StpP 89 #[] (fun _ => true) w := by
  intro s W hW
  show Calls Tryz.prog 89 #[.agg #[.int .i64 s.f0.f0, .int .i64 s.f0.f1, .string s.f0.f2, .int .i64 s.f1]] W _
  go_enter Tryz.func89, Tryz.ntmps89
  go_wp2_with (first | ((with_reducible refine gate_dst (N := 1) rfl ?_); refine box_event rfl (N := 1) rfl (cs := stC s) (t := 126) (by first | rfl | (go_simp; done) | (go_simp; rfl)) ?_; intro g hgg w1 hbg hBg;  have HB1 := Lib.hid hBg; clear hgg hbg hBg))
  go_ret
  exact ⟨rfl, HB1.out⟩
set_option maxHeartbeats 2000000 in
set_option maxRecDepth 100000 in
theorem below1_ok (vb mb : Nat) (v : Va) (m : Int) (w : World) (hv : w.heap[vb]? = some (.cells (vaC v) 23 (0, 0))) (hm : w.heap[mb]? = some (.cells #[.int .i64 m] 3 (0, 0))) :
    StpP 90 #[.pointer (some ⟨vb, 0, none⟩), .pointer (some ⟨mb, 0, none⟩)] (fun s => decide (cmpV s.f0 v ≤ m)) w := by
  intro s W hW
  replace hv := (hW.block vb (blk_lt hv)).trans hv
  replace hm := (hW.block mb (blk_lt hm)).trans hm
  clear hW
  show Calls Tryz.prog 90 #[.agg #[.int .i64 s.f0.f0, .int .i64 s.f0.f1, .string s.f0.f2, .int .i64 s.f1], .pointer (some ⟨vb, 0, none⟩), .pointer (some ⟨mb, 0, none⟩)] W _
  have HV := Lib.hid hv; have HM := Lib.hid hm; clear hv hm
  obtain ⟨c, hc⟩ : ∃ c, cmpV s.f0 v = c := ⟨_, rfl⟩
  have HCM : Hid (∀ W2 : World, Calls Tryz.prog 91 #[.agg #[.int .i64 s.f0.f0, .int .i64 s.f0.f1, .string s.f0.f2], .agg #[.int .i64 v.f0, .int .i64 v.f1, .string v.f2]] W2 fun e w' => e = .returned (.int .i64 c) ∧ Below W2.heap.size W2 w') := Lib.hid (fun W2 => value_Compare.calls 9 _ _ _ _ _ _ _ W2 (by rw [← hc]; exact cmpV_f s.f0 v))
  show Calls _ _ _ _ fun e w' => e = Ending.returned (Value.bool (decide (cmpV s.f0 v ≤ m))) ∧ Below W.heap.size W w'
  rw [hc]
  clear hc
  go_enter Tryz.func90, Tryz.ntmps90
  go_upto_region 1 with (first | ((with_reducible refine gate_dst (N := 3) rfl ?_); refine box_event rfl (N := 3) rfl (cs := stC s) (t := 126) (by first | rfl | (go_simp; done) | (go_simp; rfl)) ?_; intro g hgg w1 hbg hBg;  have HG := Lib.hid hbg; have HB1 := Lib.hid hBg; clear hgg hbg hBg))
  have r0 : w1.drew.cell? ⟨g, 0, none⟩ = some (.int .i64 s.f0.f0) := (bkC HG.out 0).trans rfl
  have r1 : w1.drew.cell? ⟨g, 1, none⟩ = some (.int .i64 s.f0.f1) := (bkC HG.out 1).trans rfl
  have r2 : w1.drew.cell? ⟨g, 2, none⟩ = some (.string s.f0.f2) := (bkC HG.out 2).trans rfl
  have r3 : w1.drew.cell? ⟨vb, 0, none⟩ = some (.int .i64 v.f0) := (bkC ((HB1.out.block vb (blk_lt HV.out)).trans HV.out) 0).trans rfl
  have r4 : w1.drew.cell? ⟨vb, 1, none⟩ = some (.int .i64 v.f1) := (bkC ((HB1.out.block vb (blk_lt HV.out)).trans HV.out) 1).trans rfl
  have r5 : w1.drew.cell? ⟨vb, 2, none⟩ = some (.string v.f2) := (bkC ((HB1.out.block vb (blk_lt HV.out)).trans HV.out) 2).trans rfl
  have r6 : w1.drew.cell? ⟨mb, 0, none⟩ = some (.int .i64 m) := (bkC ((HB1.out.block mb (blk_lt HM.out)).trans HM.out) 0).trans rfl
  have HCR : Hid (∀ Q : Ending → World → Prop, (∀ e w'', (e = .returned (.int .i64 c) ∧ Below w1.drew.heap.size w1.drew w'') → Q e w'') → Calls Tryz.prog 91 #[.agg #[.int .i64 s.f0.f0, .int .i64 s.f0.f1, .string s.f0.f2], .agg #[.int .i64 v.f0, .int .i64 v.f1, .string v.f2]] w1.drew Q) := Lib.hid (fun Q hQ => (HCM.out w1.drew).mono hQ)
  clear HCM HG HV HM
  go_region_held3 (fun w' => w'.cell? ⟨g, 0, none⟩ = some (.int .i64 s.f0.f0) ∧ w'.cell? ⟨g, 1, none⟩ = some (.int .i64 s.f0.f1) ∧ w'.cell? ⟨g, 2, none⟩ = some (.string s.f0.f2) ∧ w'.cell? ⟨vb, 0, none⟩ = some (.int .i64 v.f0) ∧ w'.cell? ⟨vb, 1, none⟩ = some (.int .i64 v.f1) ∧ w'.cell? ⟨vb, 2, none⟩ = some (.string v.f2) ∧ w'.cell? ⟨mb, 0, none⟩ = some (.int .i64 m)) (go_keep) (first | (go_at_call 91; with_reducible refine HCR.out _ ?_; rintro rr w3 ⟨rfl, hB3⟩; have t0 := pw_cell_below hB3 r0; have t1 := pw_cell_below hB3 r1; have t2 := pw_cell_below hB3 r2; have t3 := pw_cell_below hB3 r3; have t4 := pw_cell_below hB3 r4; have t5 := pw_cell_below hB3 r5; have t6 := pw_cell_below hB3 r6))
  go_wp2_with fail
  go_ret
  exact ⟨rfl, HB1.out.trans ((⟨hB3.os, hB3.tape, hB3.output, hB3.size, hB3.block⟩ : Below w1.heap.size w1 w3).mono HB1.out.size)⟩
def hist_Many.f (a0_0 a0_1 : Int) (l0_2 : List St) : Option Int := some (manyI (fun _ => true) l0_2 0)
set_option maxHeartbeats 1000000 in
set_option maxRecDepth 100000 in
theorem hist_Many.calls (a0_0 a0_1 : Int) (A0_2 : Option Addr) (c0_2 : Nat) (l0_2 : List St) (r : Int) (w : World) (hr0_2 : Kd.C k126 w A0_2 l0_2.length l0_2) (hc0_2 : l0_2.length ≤ c0_2) (h : hist_Many.f a0_0 a0_1 l0_2 = some r) :
    Calls Tryz.prog 57 #[.agg #[.int .i64 a0_0, .int .i64 a0_1, .slice A0_2 l0_2.length c0_2]] w fun e w' => e = .returned (.int .i64 r) ∧ Below w.heap.size w w' := by
  obtain rfl := Option.some.inj h
  have HS := Lib.hid (fun (W : World) (hW : Below w.heap.size w W) => hsome_ok 89 #[] (fun _ => true) a0_0 a0_1 l0_2 A0_2 c0_2 W (Kd.C_below hr0_2 hW) hcfM1 (many1_ok W))
  generalize manyI (fun _ => true) l0_2 0 = R at HS ⊢
  obtain ⟨n, hn⟩ : ∃ n, l0_2.length = n := ⟨_, rfl⟩
  rw [hn] at HS ⊢
  clear hr0_2 hc0_2 hn h
  go_enter Tryz.func57, Tryz.ntmps57
  go_upto_region 1 with (first | ((with_reducible refine gate_dst (N := 1) rfl ?_); refine box_event rfl (N := 1) rfl (cs := #[.int .i64 a0_0, .int .i64 a0_1, .slice A0_2 n c0_2]) (t := 64) (by first | rfl | (go_simp; done) | (go_simp; rfl)) ?_; intro g hgg w1 hbg hBg;  have HB1 := Lib.hid hBg; have HG := Lib.hid hbg; clear hgg hbg hBg))
  have z0 : w1.cell? ⟨g, 0, none⟩ = some (.int .i64 a0_0) := (bkC HG.out 0).trans rfl
  have z1 : w1.cell? ⟨g, 1, none⟩ = some (.int .i64 a0_1) := (bkC HG.out 1).trans rfl
  have z2 : w1.cell? ⟨g, 2, none⟩ = some (.slice A0_2 n c0_2) := (bkC HG.out 2).trans rfl
  have HS1 := Lib.hid (HS.out w1 HB1.out)
  clear HG HS
  go_wp2_with (go_at_call 88; refine HS1.out.mono ?_; rintro rr w2 ⟨rfl, hB2⟩; have HB2 : Hid (Below w.heap.size w w2) := Lib.hid (HB1.out.trans (hB2.mono HB1.out.size)); clear hB2)
  go_ret
  exact ⟨rfl, HB2.out⟩
def belowI (l : List St) (v : Va) (too : Bool) : Int := manyI (fun s => decide (cmpV s.f0 v ≤ if too = true then 0 else -1)) l 0
def hist_Below.f (a0_0 a0_1 : Int) (l0_2 : List St) (a1_0 a1_1 : Int) (a1_2 : ByteArray) (a2 : Bool) : Option Int := some (belowI l0_2 ⟨a1_0, a1_1, a1_2⟩ a2)
set_option maxHeartbeats 2000000 in
set_option maxRecDepth 100000 in
theorem hist_Below.calls (a0_0 a0_1 : Int) (A0_2 : Option Addr) (c0_2 : Nat) (l0_2 : List St) (a1_0 a1_1 : Int) (a1_2 : ByteArray) (a2 : Bool) (r : Int) (w : World) (hr0_2 : Kd.C k126 w A0_2 l0_2.length l0_2) (hc0_2 : l0_2.length ≤ c0_2) (h : hist_Below.f a0_0 a0_1 l0_2 a1_0 a1_1 a1_2 a2 = some r) :
    Calls Tryz.prog 58 #[.agg #[.int .i64 a0_0, .int .i64 a0_1, .slice A0_2 l0_2.length c0_2], .agg #[.int .i64 a1_0, .int .i64 a1_1, .string a1_2], .bool a2] w fun e w' => e = .returned (.int .i64 r) ∧ Below w.heap.size w w' := by
  obtain rfl := Option.some.inj h
  have HS := Lib.hid (fun (W : World) (vb mb : Nat) (m : Int) (hW : Below w.heap.size w W) (hv : W.heap[vb]? = some (.cells (vaC ⟨a1_0, a1_1, a1_2⟩) 23 (0, 0))) (hm : W.heap[mb]? = some (.cells #[.int .i64 m] 3 (0, 0))) => hsome_ok 90 _ _ a0_0 a0_1 l0_2 A0_2 c0_2 W (Kd.C_below hr0_2 hW) hcfB1 (below1_ok vb mb ⟨a1_0, a1_1, a1_2⟩ m W hv hm))
  obtain ⟨n, hn⟩ : ∃ n, l0_2.length = n := ⟨_, rfl⟩
  rw [hn] at HS ⊢
  obtain ⟨R, hR⟩ : ∃ R, belowI l0_2 ⟨a1_0, a1_1, a1_2⟩ a2 = R := ⟨_, rfl⟩
  rw [hR]
  have HR := Lib.hid hR
  clear hr0_2 hc0_2 hn h hR
  go_enter Tryz.func58, Tryz.ntmps58
  go_upto_region 1 with (first | ((with_reducible refine gate_dst (N := 3) rfl ?_); refine box_event rfl (N := 3) rfl (cs := #[.int .i64 a0_0, .int .i64 a0_1, .slice A0_2 n c0_2]) (t := 64) (by first | rfl | (go_simp; done) | (go_simp; rfl)) ?_; intro g hgg w1 hbg hBg;  have HB1 := Lib.hid hBg; have HG := Lib.hid hbg; clear hgg hbg hBg) | ((with_reducible refine gate_dst (N := 4) rfl ?_); refine box_event rfl (N := 4) rfl (cs := vaC ⟨a1_0, a1_1, a1_2⟩) (t := 23) (by first | rfl | (go_simp; done) | (go_simp; rfl)) ?_; intro vb hgg w2 hbvb hBvb;  have HB2 := Lib.hid hBvb; have HV := Lib.hid hbvb; clear hgg hbvb hBvb))
  have HB02 : Hid (Below w.heap.size w w2) := Lib.hid (HB1.out.trans (HB2.out.mono HB1.out.size))
  have HG2 := Lib.hid ((HB2.out.block g (blk_lt HG.out)).trans HG.out)
  clear HG HB1 HB2
  go_upto_region 2 with fail
  have HM : Hid ((w2.alloc (.cells #[.int .i64 (-1)] 3 (0, 0))).heap[w2.heap.size]? = some (.cells #[.int .i64 (-1)] 3 (0, 0))) := Lib.hid (heap_alloc_new w2 _)
  have HB23 : Hid (Below w2.heap.size w2 (w2.alloc (.cells #[.int .i64 (-1)] 3 (0, 0)))) := Lib.hid (blA (Below.refl _ _) _)
  generalize w2.alloc (.cells #[.int .i64 (-1)] 3 (0, 0)) = w3 at HM HB23 ⊢
  obtain ⟨mb, hmb⟩ : ∃ mb, w2.heap.size = mb := ⟨_, rfl⟩
  rw [hmb] at HM ⊢
  have hmw : w2.heap.size ≤ mb := by omega
  clear hmb
  have HV3 := Lib.hid ((HB23.out.block vb (blk_lt HV.out)).trans HV.out)
  have HG3 := Lib.hid ((HB23.out.block g (blk_lt HG2.out)).trans HG2.out)
  have hvm : vb ≠ mb := by have := blk_lt HV.out; omega
  have hgm : g ≠ mb := by have := blk_lt HG2.out; omega
  have hmW : w.heap.size ≤ mb := by have := HB02.out.size; omega
  have HB3 : Hid (Below w.heap.size w w3) := Lib.hid (HB02.out.trans (HB23.out.mono HB02.out.size))
  clear HV HG2 HB23 HB02
  cases a2 with
  | true =>
    have m0 : w3.cell? ⟨mb, 0, none⟩ = some (.int .i64 (-1)) := (bkC HM.out 0).trans rfl
    have f0 := bkF HM.out 0
    go_upto_region 4 with fail
    have HM4 : Hid ((w3.setCell ⟨mb, 0, none⟩ (.int .i64 0)).heap[mb]? = some (.cells #[.int .i64 0] 3 (0, 0))) := Lib.hid (blk_set HM.out 0 _)
    have HV4 : Hid ((w3.setCell ⟨mb, 0, none⟩ (.int .i64 0)).heap[vb]? = some (.cells (vaC ⟨a1_0, a1_1, a1_2⟩) 23 (0, 0))) := Lib.hid (blk_far HV3.out hvm _)
    have HG4 : Hid ((w3.setCell ⟨mb, 0, none⟩ (.int .i64 0)).heap[g]? = some (.cells #[.int .i64 a0_0, .int .i64 a0_1, .slice A0_2 n c0_2] 64 (0, 0))) := Lib.hid (blk_far HG3.out hgm _)
    have HB4 : Hid (Below w.heap.size w (w3.setCell ⟨mb, 0, none⟩ (.int .i64 0))) := Lib.hid (HB3.out.setCell (p := ⟨mb, 0, none⟩) hmW _)
    clear m0 f0 HM HV3 HG3 HB3
    generalize w3.setCell ⟨mb, 0, none⟩ (.int .i64 0) = w4 at HM4 HV4 HG4 HB4 ⊢
    obtain ⟨z0, z1, z2⟩ := bkC3 HG4.out; have hs := HS.out w4 vb mb 0 HB4.out HV4.out HM4.out; rw [show manyI (fun s => decide (cmpV s.f0 ⟨a1_0, a1_1, a1_2⟩ ≤ 0)) l0_2 0 = R from HR.out] at hs; have HS1 := Lib.hid hs; clear hs HS; go_wp2_with (go_at_call 88; refine HS1.out.mono ?_; rintro rr w5 ⟨rfl, hB5⟩; have HB5 : Hid (Below w.heap.size w w5) := Lib.hid (HB4.out.trans (hB5.mono HB4.out.size)); clear hB5); go_ret; exact ⟨rfl, HB5.out⟩
  | false =>
    go_upto_region 4 with fail
    obtain ⟨z0, z1, z2⟩ := bkC3 HG3.out; have hs := HS.out w3 vb mb (-1) HB3.out HV3.out HM.out; rw [show manyI (fun s => decide (cmpV s.f0 ⟨a1_0, a1_1, a1_2⟩ ≤ (-1))) l0_2 0 = R from HR.out] at hs; have HS1 := Lib.hid hs; clear hs HS; go_wp2_with (go_at_call 88; refine HS1.out.mono ?_; rintro rr w5 ⟨rfl, hB5⟩; have HB5 : Hid (Below w.heap.size w w5) := Lib.hid (HB3.out.trans (hB5.mono HB3.out.size)); clear hB5); go_ret; exact ⟨rfl, HB5.out⟩
end Go.Proofs.YtoffpegppdmkdaaGreatDoor.E
namespace Go.Proofs.YtoffpegppdmkdaaGreatDoor.E
open Go.RowKit Go.Proofs.YtoffpegppdmkdaaGreatDoorW.PrintWords Go.Proofs.YtoffpegppdmkdaaGreatDoorW.PrintLast Go.Proofs.YtoffpegppdmkdaaGreatDoorW.PrintMore
attribute [local go_sem] max2_int min2_int max_two min_two max_three min_three max_four min_four   -- for this text's walks alone
set_option linter.unusedVariables false
set_option linter.unusedSimpArgs false
mutual
def hist_Part.j0 : Nat → Int → Int → Int → Bool → Int → Int → List (S126) → Int → Int → ByteArray → Option (Int × Int)
 | 0, _, _, _, _, _, _, _, _, _, _ => none
 | k + 1, x0, x9, x16, x25, x163000, x163001, x163002, x164000, x164001, x164002 => if x25 = true then ((hist_Below.f x163000 x163001 x163002 x164000 x164001 x164002 (x0 == 12)).bind fun t166 => (some (t166, mx 1 x9))) else (if x16 = 13 then (hist_Part.j1 k x0 x9 (x16 == 13) x163000 x163001 x163002 x164000 x164001 x164002) else (hist_Part.j1 k x0 x9 (x16 == 14) x163000 x163001 x163002 x164000 x164001 x164002))
def hist_Part.j1 : Nat → Int → Int → Bool → Int → Int → List (S126) → Int → Int → ByteArray → Option (Int × Int)
 | 0, _, _, _, _, _, _, _, _, _ => none
 | k + 1, x0, x9, x35, x163000, x163001, x163002, x164000, x164001, x164002 => if x35 = true then (if x9 > 0 then ((hist_Below.f x163000 x163001 x163002 x164000 x164001 x164002 (x0 == 13)).bind fun t167 => (some (mx 0 (wrap64 (x9 - t167)), x9))) else (some (1, 1))) else (some (1, 3))
end
def hist_Part.f (k : Nat) (a0 : Int) (a1_0 : Int) (a1_1 : Int) (l1_2 : List (S126)) (a2_0 : Int) (a2_1 : Int) (a2_2 : ByteArray) : Option (Int × Int) := (hist_Clip.f a1_0).bind fun t164 => ((hist_Many.f a1_0 a1_1 l1_2).bind fun t165 => (if a0 = 9 then (some (1, mx 1 t164)) else (if a0 = 10 then (some (wrap64 ((mx 1 t164) - 1), mx 1 t164)) else (if a0 = 11 then (hist_Part.j0 k a0 t165 a0 (a0 == 11) a1_0 a1_1 l1_2 a2_0 a2_1 a2_2) else (hist_Part.j0 k a0 t165 a0 (a0 == 12) a1_0 a1_1 l1_2 a2_0 a2_1 a2_2)))))
def hist_Part.T1 : Bool × List (List Nat × List Nat) := (true, [([], []), ([0], [0]), ([1], [1]), ([2], [2]), ([], []), ([4, 2], [4]), ([3, 5, 0, 1, 2, 3], [3]), ([5, 6, 0, 1, 2, 3, 4, 5, 6], [5])])
def hist_Part.B1 : List Nat := [0, 1, 3, 7, 0, 23, 63, 127]
theorem hist_Part.tab1 : rtab .any (opsOf Tryz.f27 1) = hist_Part.T1 := by kernel_rfl
theorem hist_Part.bits1 : waitsOk hist_Part.T1.2 hist_Part.B1 = true := by kernel_rfl
set_option maxHeartbeats 8000000 in
set_option maxRecDepth 100000 in
theorem hist_Part.calls (k : Nat) (a0 : Int) (a1_0 : Int) (a1_1 : Int) (A1_2 : Option Addr) (c1_2 : Nat) (l1_2 : List (S126)) (a2_0 : Int) (a2_1 : Int) (a2_2 : ByteArray) (r1 : Int) (r2 : Int) (w : World) (hr1_2 : Kd.C k126 w A1_2 l1_2.length l1_2) (hc1_2 : l1_2.length ≤ c1_2) (h : hist_Part.f k a0 a1_0 a1_1 l1_2 a2_0 a2_1 a2_2 = some (r1, r2)) :
  Calls Tryz.prog 27 #[.int .i64 a0, .agg #[.int .i64 a1_0, .int .i64 a1_1, .slice A1_2 l1_2.length c1_2], .agg #[.int .i64 a2_0, .int .i64 a2_1, .string a2_2]] w fun e w' => e = .returned (.tuple #[.int .i64 r1, .int .i64 r2]) ∧ Below w.heap.size w w' := by
 have hu64 := Tryz.underlying64
 have hu23 := Tryz.underlying23
 have HR1_2 := Asd.mk hr1_2
 have HC1_2 := Asd.mk hc1_2
 clear hr1_2 hc1_2
 have HB := Asd.mk (Below.refl w.heap.size w)
 have H : ((hist_Clip.f a1_0).bind fun t164 => ((hist_Many.f a1_0 a1_1 l1_2).bind fun t165 => (if a0 = 9 then (some (1, mx 1 t164)) else (if a0 = 10 then (some (wrap64 ((mx 1 t164) - 1), mx 1 t164)) else (if a0 = 11 then (hist_Part.j0 k a0 t165 a0 (a0 == 11) a1_0 a1_1 l1_2 a2_0 a2_1 a2_2) else (hist_Part.j0 k a0 t165 a0 (a0 == 12) a1_0 a1_1 l1_2 a2_0 a2_1 a2_2)))))) = some (r1, r2) := h
 clear h
 replace H := Option.bind_eq_some_iff.mp H
 obtain ⟨t164, A40, H⟩ := H
 replace H : ((hist_Many.f a1_0 a1_1 l1_2).bind fun t165 => (if a0 = 9 then (some (1, mx 1 t164)) else (if a0 = 10 then (some (wrap64 ((mx 1 t164) - 1), mx 1 t164)) else (if a0 = 11 then (hist_Part.j0 k a0 t165 a0 (a0 == 11) a1_0 a1_1 l1_2 a2_0 a2_1 a2_2) else (hist_Part.j0 k a0 t165 a0 (a0 == 12) a1_0 a1_1 l1_2 a2_0 a2_1 a2_2))))) = some (r1, r2) := H
 have A4 := Asd.mk A40
 clear A40
 obtain ⟨ji5, hji5⟩ : ∃ j_ : Int, (mx 1 t164) = j_ := ⟨_, rfl⟩
 replace H : ((hist_Many.f a1_0 a1_1 l1_2).bind fun t165 => (if a0 = 9 then (some (1, ji5)) else (if a0 = 10 then (some (wrap64 ((ji5) - 1), ji5)) else (if a0 = 11 then (hist_Part.j0 k a0 t165 a0 (a0 == 11) a1_0 a1_1 l1_2 a2_0 a2_1 a2_2) else (hist_Part.j0 k a0 t165 a0 (a0 == 12) a1_0 a1_1 l1_2 a2_0 a2_1 a2_2))))) = some (r1, r2) := by first | (rw [hji5] at H; exact H) | (simp only [hji5] at H ⊢; exact H)
 (try rw [hji5] at A4)
 (try (have hji5l : 1 ≤ ji5 := by (rw [← hji5]; unfold mx; (repeat' split) <;> omega)))
 (try (have hji5m : 0 ≤ ji5 := by omega))
 have hji5_ : (if 1 < t164 then t164 else 1) = ji5 := hji5
 replace H := Option.bind_eq_some_iff.mp H
 obtain ⟨t165, A60, H⟩ := H
 replace H : (if a0 = 9 then (some (1, ji5)) else (if a0 = 10 then (some (wrap64 ((ji5) - 1), ji5)) else (if a0 = 11 then (hist_Part.j0 k a0 t165 a0 (a0 == 11) a1_0 a1_1 l1_2 a2_0 a2_1 a2_2) else (hist_Part.j0 k a0 t165 a0 (a0 == 12) a1_0 a1_1 l1_2 a2_0 a2_1 a2_2)))) = some (r1, r2) := H
 have A6 := Asd.mk A60
 clear A60
 by_cases c7 : a0 = 9
 ·rw [if_pos c7] at H
  have c7b0 : (a0 == 9) = true := beq_iff_eq.mpr c7
  have c7b1 : (a0 != 9) = false := bne_eq_false_iff_eq.mpr c7
  clear c7
  simp only [Option.some.injEq, Prod.mk.injEq] at H
  obtain ⟨rfl, rfl⟩ := H
  go_enter Tryz.func27, Tryz.ntmps27
  try go_wp2_with (first | ((with_reducible refine gate_dst (N := 4) rfl ?_); refine box_event rfl (N := 4) rfl (cs := #[.int .i64 a1_0, .int .i64 a1_1, .slice A1_2 l1_2.length c1_2]) (t := 64) (by first | (go_simp; done) | (go_simp; rfl)) ?_; intro gb162 hg w8 hbox hb; have BK162 := Asd.mk (hbox); have GW162 := Asd.mk (bZ hg HB.out); have GE162 := GW162; replace HB := Asd.mk (bS hb HB.out); clear hb hbox hg) | ((with_reducible refine gate_dst (N := 5) rfl ?_); refine box_event rfl (N := 5) rfl (cs := #[.int .i64 a2_0, .int .i64 a2_1, .string a2_2]) (t := 23) (by first | (go_simp; done) | (go_simp; rfl)) ?_; intro gb163 hg w9 hbox hb; have BK163 := Asd.mk (hbox); have GW163 := Asd.mk (bZ hg HB.out); have GE163 := GW163; have NB162_163 := Asd.mk (bL hg BK162.out); have NB163_162 := Asd.mk (bG hg BK162.out); replace BK162 := Asd.mk (bB hb BK162.out); replace HB := Asd.mk (bS hb HB.out); clear hb hbox hg))
  have n0_ := Asd.mk (bkD BK162.out)
  have n1_ := Asd.mk (bkD BK163.out)
  have n2_ := Asd.mk (blD HB.out)
  clear BK162 BK163 HB
  have BK162 := n0_
  have BK163 := n1_
  have HB := n2_
  clear n0_ n1_ n2_
  refine start_ (n := 8) (S := fun w' => w'.cell? ⟨gb162, 0, none⟩ = some (.int .i64 a1_0) ∧ w'.cell? ⟨gb162, 1, none⟩ = some (.int .i64 a1_1) ∧ w'.cell? ⟨gb162, 2, none⟩ = some (.slice A1_2 l1_2.length c1_2)) (ds := []) #[false, false, false, false, false, false, false, false] (by kernel_rfl) rfl rfl ⟨(bkC BK162.out 0).trans rfl, (bkC BK162.out 1).trans rfl, (bkC BK162.out 2).trans rfl⟩ (fun hHeld => ?_); refine with_tabW hist_Part.tab1 hist_Part.bits1 (fun HT_ HW_ => ?_)
  generalize w9.drew = w10 at BK162 BK163 HB hHeld ⊢
  refine pure_ (i := 0) (N := some 10) (v := ?_) (a' := ?_) #[true, false, false, false, false, false, false, false] rfl rfl (any_of HT_.out (by kernel_rfl)) (fun _ _ _ h => h) (Or.inl ⟨by rfl, ?_⟩) ?_ ?_
  rotate_left
  ·intro w'
   go_simp
   with_reducible rfl
  rotate_left
  ·simp only [Act.put, List.setIfInBounds_toArray, List.set_cons_zero, List.set_cons_succ, i64_w, i32_w]
   rfl
  refine take_ (i := 1) (N := some 11) (v := ?_) (a' := ?_) #[true, true, false, false, false, false, false, false] rfl rfl (take_ofW HT_.out HW_.out (by kernel_rfl)) (fun _ _ _ h => h) (Or.inl ⟨by rfl, ?_⟩) hHeld ?_ ?_
  rotate_left
  ·rintro w' ⟨s0, s1, s2⟩
   go_simp
   with_reducible rfl
  rotate_left
  ·simp only [Act.put, List.setIfInBounds_toArray, List.set_cons_zero, List.set_cons_succ, i64_w, i32_w]
   rfl
  refine take_ (i := 4) (N := some 14) (v := ?_) (a' := ?_) #[true, true, false, false, true, false, false, false] rfl rfl (take_ofW HT_.out HW_.out (by kernel_rfl)) (fun _ _ _ h => h) (Or.inl ⟨by rfl, ?_⟩) hHeld ?_ ?_
  rotate_left
  ·rintro w' ⟨s0, s1, s2⟩
   go_simp
   with_reducible rfl
  rotate_left
  ·simp only [Act.put, List.setIfInBounds_toArray, List.set_cons_zero, List.set_cons_succ, i64_w, i32_w]
   rfl
  refine one_ (i := 2) (N := some 12) #[true, true, true, false, true, false, false, false] rfl rfl (one_of HT_.out (by kernel_rfl)) (by decide) (fun K hK => ?_)
  refine goes_ Tryz.func24 (by kernel_rfl) rfl #[.int .i64 a1_0] (by rfl) rfl rfl (by (try simp only [List.map_toArray, List.map_cons, List.map_nil]); first | done | rfl | (simp only [List.length_drop, List.length_take]; rfl)) ?_
  with_reducible refine (hist_Clip.calls a1_0 t164 _ A4.out).mono ?_
  rintro e w11 ⟨rfl, hb⟩
  refine ⟨_, rfl, ?_⟩
  have n0_ := Asd.mk (bB hb BK162.out)
  have n1_ := Asd.mk (bB hb BK163.out)
  have n2_ := Asd.mk (bS hb HB.out)
  clear BK162 BK163 HB
  have BK162 := n0_
  have BK163 := n1_
  have HB := n2_
  clear n0_ n1_ n2_
  (try clear hb)
  (try clear hb2)
  (try clear hk)
  (try clear hi)
  refine hK.out _ _ ⟨(bkC BK162.out 0).trans rfl, (bkC BK162.out 1).trans rfl, (bkC BK162.out 2).trans rfl⟩ (fun hHeld => ?_)
  clear hK K
  refine norm_ (a' := ?_) ?_ ?_
  rotate_left
  ·show Act.put _ (some 12) _ = _
   simp only [Act.put, List.setIfInBounds_toArray, List.set_cons_zero, List.set_cons_succ, i64_w, i32_w]
   rfl
  refine pure_ (i := 3) (N := some 13) (v := ?_) (a' := ?_) #[true, true, true, true, true, false, false, false] rfl rfl (any_of HT_.out (by kernel_rfl)) (fun _ _ _ h => h) (Or.inl ⟨by rfl, ?_⟩) ?_ ?_
  rotate_left
  ·intro w'
   go_simp
   with_reducible rfl
  rotate_left
  ·simp only [Act.put, List.setIfInBounds_toArray, List.set_cons_zero, List.set_cons_succ, i64_w, i32_w]
   rfl
  refine one_ (i := 5) (N := some 15) #[true, true, true, true, true, true, false, false] rfl rfl (one_of HT_.out (by kernel_rfl)) (by decide) (fun K hK => ?_)
  refine goes_ Tryz.func57 (by kernel_rfl) rfl #[.agg #[.int .i64 a1_0, .int .i64 a1_1, .slice A1_2 l1_2.length c1_2]] (by rfl) rfl rfl (by (try simp only [List.map_toArray, List.map_cons, List.map_nil]); first | done | rfl | (simp only [List.length_drop, List.length_take]; rfl)) ?_
  with_reducible refine (hist_Many.calls a1_0 a1_1 _ _ l1_2 t165 _ ?side1 ?side2 A6.out).mono ?_
  (case side1 => repeat (first | exact (Kd.C_below HR1_2.out HB.out) | (with_reducible refine Kd.C_alloc ?_ _) | (with_reducible refine Kd.C_drewN ?_ _) | (with_reducible refine Kd.C_drew ?_)))
  (case side2 => exact HC1_2.out)
  rintro e w12 ⟨rfl, hb⟩
  refine ⟨_, rfl, ?_⟩
  have n0_ := Asd.mk (bB hb BK162.out)
  have n1_ := Asd.mk (bB hb BK163.out)
  have n2_ := Asd.mk (bS hb HB.out)
  clear BK162 BK163 HB
  have BK162 := n0_
  have BK163 := n1_
  have HB := n2_
  clear n0_ n1_ n2_
  (try clear hb)
  (try clear hb2)
  (try clear hk)
  (try clear hi)
  refine hK.out _ _ ⟨(bkC BK162.out 0).trans rfl, (bkC BK162.out 1).trans rfl, (bkC BK162.out 2).trans rfl⟩ (fun hHeld => ?_)
  clear hK K
  refine norm_ (a' := ?_) ?_ ?_
  rotate_left
  ·show Act.put _ (some 15) _ = _
   simp only [Act.put, List.setIfInBounds_toArray, List.set_cons_zero, List.set_cons_succ, i64_w, i32_w]
   rfl
  refine pure_ (i := 6) (N := some 8) (v := ?_) (a' := ?_) #[true, true, true, true, true, true, true, false] rfl rfl (any_of HT_.out (by kernel_rfl)) (fun _ _ _ h => h) (Or.inl ⟨by rfl, ?_⟩) ?_ ?_
  rotate_left
  ·intro w'
   go_simp
   with_reducible rfl
  rotate_left
  ·simp only [Act.put, List.setIfInBounds_toArray, List.set_cons_zero, List.set_cons_succ, i64_w, i32_w]
   rfl
  refine pure_ (i := 7) (N := some 9) (v := ?_) (a' := ?_) #[true, true, true, true, true, true, true, true] rfl rfl (any_of HT_.out (by kernel_rfl)) (fun _ _ _ h => h) (Or.inl ⟨by rfl, ?_⟩) ?_ ?_
  rotate_left
  ·intro w'
   go_simp
   with_reducible rfl
  rotate_left
  ·simp only [Act.put, List.setIfInBounds_toArray, List.set_cons_zero, List.set_cons_succ, i64_w, i32_w]
   rfl
  refine done_ (done_of HT_.out (by kernel_rfl)) ?_
  try go_wp2
  go_ret2
  exact ⟨by first | rfl | (simp [errW_none, errW_some] <;> rfl) | (simp only [← hji5]; first | rfl | (simp [errW_none, errW_some] <;> rfl)) | (simp [*, errW_none, errW_some] <;> rfl), by repeat (first | (with_reducible first | exact HB.out | apply blA | apply pbN | apply blD | refine blS ?_ GE162.out | refine blS ?_ GE163.out) | exact HB.out)⟩
 ·rw [if_neg c7] at H
  have c7b0 : (a0 == 9) = false := beq_eq_false_iff_ne.mpr c7
  have c7b1 : (a0 != 9) = true := bne_iff_ne.mpr c7
  by_cases c13 : a0 = 10
  ·rw [if_pos c13] at H
   have c13b0 : (a0 == 10) = true := beq_iff_eq.mpr c13
   have c13b1 : (a0 != 10) = false := bne_eq_false_iff_eq.mpr c13
   clear c13
   simp only [Option.some.injEq, Prod.mk.injEq] at H
   obtain ⟨rfl, rfl⟩ := H
   go_enter Tryz.func27, Tryz.ntmps27
   try go_wp2_with (first | ((with_reducible refine gate_dst (N := 4) rfl ?_); refine box_event rfl (N := 4) rfl (cs := #[.int .i64 a1_0, .int .i64 a1_1, .slice A1_2 l1_2.length c1_2]) (t := 64) (by first | (go_simp; done) | (go_simp; rfl)) ?_; intro gb162 hg w14 hbox hb; have BK162 := Asd.mk (hbox); have GW162 := Asd.mk (bZ hg HB.out); have GE162 := GW162; replace HB := Asd.mk (bS hb HB.out); clear hb hbox hg) | ((with_reducible refine gate_dst (N := 5) rfl ?_); refine box_event rfl (N := 5) rfl (cs := #[.int .i64 a2_0, .int .i64 a2_1, .string a2_2]) (t := 23) (by first | (go_simp; done) | (go_simp; rfl)) ?_; intro gb163 hg w15 hbox hb; have BK163 := Asd.mk (hbox); have GW163 := Asd.mk (bZ hg HB.out); have GE163 := GW163; have NB162_163 := Asd.mk (bL hg BK162.out); have NB163_162 := Asd.mk (bG hg BK162.out); replace BK162 := Asd.mk (bB hb BK162.out); replace HB := Asd.mk (bS hb HB.out); clear hb hbox hg))
   have n0_ := Asd.mk (bkD BK162.out)
   have n1_ := Asd.mk (bkD BK163.out)
   have n2_ := Asd.mk (blD HB.out)
   clear BK162 BK163 HB
   have BK162 := n0_
   have BK163 := n1_
   have HB := n2_
   clear n0_ n1_ n2_
   refine start_ (n := 8) (S := fun w' => w'.cell? ⟨gb162, 0, none⟩ = some (.int .i64 a1_0) ∧ w'.cell? ⟨gb162, 1, none⟩ = some (.int .i64 a1_1) ∧ w'.cell? ⟨gb162, 2, none⟩ = some (.slice A1_2 l1_2.length c1_2)) (ds := []) #[false, false, false, false, false, false, false, false] (by kernel_rfl) rfl rfl ⟨(bkC BK162.out 0).trans rfl, (bkC BK162.out 1).trans rfl, (bkC BK162.out 2).trans rfl⟩ (fun hHeld => ?_); refine with_tabW hist_Part.tab1 hist_Part.bits1 (fun HT_ HW_ => ?_)
   generalize w15.drew = w16 at BK162 BK163 HB hHeld ⊢
   refine pure_ (i := 0) (N := some 10) (v := ?_) (a' := ?_) #[true, false, false, false, false, false, false, false] rfl rfl (any_of HT_.out (by kernel_rfl)) (fun _ _ _ h => h) (Or.inl ⟨by rfl, ?_⟩) ?_ ?_
   rotate_left
   ·intro w'
    go_simp
    with_reducible rfl
   rotate_left
   ·simp only [Act.put, List.setIfInBounds_toArray, List.set_cons_zero, List.set_cons_succ, i64_w, i32_w]
    rfl
   refine take_ (i := 1) (N := some 11) (v := ?_) (a' := ?_) #[true, true, false, false, false, false, false, false] rfl rfl (take_ofW HT_.out HW_.out (by kernel_rfl)) (fun _ _ _ h => h) (Or.inl ⟨by rfl, ?_⟩) hHeld ?_ ?_
   rotate_left
   ·rintro w' ⟨s0, s1, s2⟩
    go_simp
    with_reducible rfl
   rotate_left
   ·simp only [Act.put, List.setIfInBounds_toArray, List.set_cons_zero, List.set_cons_succ, i64_w, i32_w]
    rfl
   refine take_ (i := 4) (N := some 14) (v := ?_) (a' := ?_) #[true, true, false, false, true, false, false, false] rfl rfl (take_ofW HT_.out HW_.out (by kernel_rfl)) (fun _ _ _ h => h) (Or.inl ⟨by rfl, ?_⟩) hHeld ?_ ?_
   rotate_left
   ·rintro w' ⟨s0, s1, s2⟩
    go_simp
    with_reducible rfl
   rotate_left
   ·simp only [Act.put, List.setIfInBounds_toArray, List.set_cons_zero, List.set_cons_succ, i64_w, i32_w]
    rfl
   refine one_ (i := 2) (N := some 12) #[true, true, true, false, true, false, false, false] rfl rfl (one_of HT_.out (by kernel_rfl)) (by decide) (fun K hK => ?_)
   refine goes_ Tryz.func24 (by kernel_rfl) rfl #[.int .i64 a1_0] (by rfl) rfl rfl (by (try simp only [List.map_toArray, List.map_cons, List.map_nil]); first | done | rfl | (simp only [List.length_drop, List.length_take]; rfl)) ?_
   with_reducible refine (hist_Clip.calls a1_0 t164 _ A4.out).mono ?_
   rintro e w17 ⟨rfl, hb⟩
   refine ⟨_, rfl, ?_⟩
   have n0_ := Asd.mk (bB hb BK162.out)
   have n1_ := Asd.mk (bB hb BK163.out)
   have n2_ := Asd.mk (bS hb HB.out)
   clear BK162 BK163 HB
   have BK162 := n0_
   have BK163 := n1_
   have HB := n2_
   clear n0_ n1_ n2_
   (try clear hb)
   (try clear hb2)
   (try clear hk)
   (try clear hi)
   refine hK.out _ _ ⟨(bkC BK162.out 0).trans rfl, (bkC BK162.out 1).trans rfl, (bkC BK162.out 2).trans rfl⟩ (fun hHeld => ?_)
   clear hK K
   refine norm_ (a' := ?_) ?_ ?_
   rotate_left
   ·show Act.put _ (some 12) _ = _
    simp only [Act.put, List.setIfInBounds_toArray, List.set_cons_zero, List.set_cons_succ, i64_w, i32_w]
    rfl
   refine pure_ (i := 3) (N := some 13) (v := ?_) (a' := ?_) #[true, true, true, true, true, false, false, false] rfl rfl (any_of HT_.out (by kernel_rfl)) (fun _ _ _ h => h) (Or.inl ⟨by rfl, ?_⟩) ?_ ?_
   rotate_left
   ·intro w'
    go_simp
    with_reducible rfl
   rotate_left
   ·simp only [Act.put, List.setIfInBounds_toArray, List.set_cons_zero, List.set_cons_succ, i64_w, i32_w]
    rfl
   refine one_ (i := 5) (N := some 15) #[true, true, true, true, true, true, false, false] rfl rfl (one_of HT_.out (by kernel_rfl)) (by decide) (fun K hK => ?_)
   refine goes_ Tryz.func57 (by kernel_rfl) rfl #[.agg #[.int .i64 a1_0, .int .i64 a1_1, .slice A1_2 l1_2.length c1_2]] (by rfl) rfl rfl (by (try simp only [List.map_toArray, List.map_cons, List.map_nil]); first | done | rfl | (simp only [List.length_drop, List.length_take]; rfl)) ?_
   with_reducible refine (hist_Many.calls a1_0 a1_1 _ _ l1_2 t165 _ ?side1 ?side2 A6.out).mono ?_
   (case side1 => repeat (first | exact (Kd.C_below HR1_2.out HB.out) | (with_reducible refine Kd.C_alloc ?_ _) | (with_reducible refine Kd.C_drewN ?_ _) | (with_reducible refine Kd.C_drew ?_)))
   (case side2 => exact HC1_2.out)
   rintro e w18 ⟨rfl, hb⟩
   refine ⟨_, rfl, ?_⟩
   have n0_ := Asd.mk (bB hb BK162.out)
   have n1_ := Asd.mk (bB hb BK163.out)
   have n2_ := Asd.mk (bS hb HB.out)
   clear BK162 BK163 HB
   have BK162 := n0_
   have BK163 := n1_
   have HB := n2_
   clear n0_ n1_ n2_
   (try clear hb)
   (try clear hb2)
   (try clear hk)
   (try clear hi)
   refine hK.out _ _ ⟨(bkC BK162.out 0).trans rfl, (bkC BK162.out 1).trans rfl, (bkC BK162.out 2).trans rfl⟩ (fun hHeld => ?_)
   clear hK K
   refine norm_ (a' := ?_) ?_ ?_
   rotate_left
   ·show Act.put _ (some 15) _ = _
    simp only [Act.put, List.setIfInBounds_toArray, List.set_cons_zero, List.set_cons_succ, i64_w, i32_w]
    rfl
   refine pure_ (i := 6) (N := some 8) (v := ?_) (a' := ?_) #[true, true, true, true, true, true, true, false] rfl rfl (any_of HT_.out (by kernel_rfl)) (fun _ _ _ h => h) (Or.inl ⟨by rfl, ?_⟩) ?_ ?_
   rotate_left
   ·intro w'
    go_simp
    with_reducible rfl
   rotate_left
   ·simp only [Act.put, List.setIfInBounds_toArray, List.set_cons_zero, List.set_cons_succ, i64_w, i32_w]
    rfl
   refine pure_ (i := 7) (N := some 9) (v := ?_) (a' := ?_) #[true, true, true, true, true, true, true, true] rfl rfl (any_of HT_.out (by kernel_rfl)) (fun _ _ _ h => h) (Or.inl ⟨by rfl, ?_⟩) ?_ ?_
   rotate_left
   ·intro w'
    go_simp
    with_reducible rfl
   rotate_left
   ·simp only [Act.put, List.setIfInBounds_toArray, List.set_cons_zero, List.set_cons_succ, i64_w, i32_w]
    rfl
   refine done_ (done_of HT_.out (by kernel_rfl)) ?_
   try go_wp2
   go_ret2
   exact ⟨by first | rfl | (simp [errW_none, errW_some] <;> rfl) | (simp only [← hji5]; first | rfl | (simp [errW_none, errW_some] <;> rfl)) | (simp [*, errW_none, errW_some] <;> rfl), by repeat (first | (with_reducible first | exact HB.out | apply blA | apply pbN | apply blD | refine blS ?_ GE162.out | refine blS ?_ GE163.out) | exact HB.out)⟩
  ·rw [if_neg c13] at H
   have c13b0 : (a0 == 10) = false := beq_eq_false_iff_ne.mpr c13
   have c13b1 : (a0 != 10) = true := bne_iff_ne.mpr c13
   have HC19 := Asd.mk H
   clear H
   go_enter Tryz.func27, Tryz.ntmps27
   try go_wp2_with (first | ((with_reducible refine gate_dst (N := 4) rfl ?_); refine box_event rfl (N := 4) rfl (cs := #[.int .i64 a1_0, .int .i64 a1_1, .slice A1_2 l1_2.length c1_2]) (t := 64) (by first | (go_simp; done) | (go_simp; rfl)) ?_; intro gb162 hg w20 hbox hb; have BK162 := Asd.mk (hbox); have GW162 := Asd.mk (bZ hg HB.out); have GE162 := GW162; replace HB := Asd.mk (bS hb HB.out); clear hb hbox hg) | ((with_reducible refine gate_dst (N := 5) rfl ?_); refine box_event rfl (N := 5) rfl (cs := #[.int .i64 a2_0, .int .i64 a2_1, .string a2_2]) (t := 23) (by first | (go_simp; done) | (go_simp; rfl)) ?_; intro gb163 hg w21 hbox hb; have BK163 := Asd.mk (hbox); have GW163 := Asd.mk (bZ hg HB.out); have GE163 := GW163; have NB162_163 := Asd.mk (bL hg BK162.out); have NB163_162 := Asd.mk (bG hg BK162.out); replace BK162 := Asd.mk (bB hb BK162.out); replace HB := Asd.mk (bS hb HB.out); clear hb hbox hg))
   have n0_ := Asd.mk (bkD BK162.out)
   have n1_ := Asd.mk (bkD BK163.out)
   have n2_ := Asd.mk (blD HB.out)
   clear BK162 BK163 HB
   have BK162 := n0_
   have BK163 := n1_
   have HB := n2_
   clear n0_ n1_ n2_
   refine start_ (n := 8) (S := fun w' => w'.cell? ⟨gb162, 0, none⟩ = some (.int .i64 a1_0) ∧ w'.cell? ⟨gb162, 1, none⟩ = some (.int .i64 a1_1) ∧ w'.cell? ⟨gb162, 2, none⟩ = some (.slice A1_2 l1_2.length c1_2)) (ds := []) #[false, false, false, false, false, false, false, false] (by kernel_rfl) rfl rfl ⟨(bkC BK162.out 0).trans rfl, (bkC BK162.out 1).trans rfl, (bkC BK162.out 2).trans rfl⟩ (fun hHeld => ?_); refine with_tabW hist_Part.tab1 hist_Part.bits1 (fun HT_ HW_ => ?_)
   generalize w21.drew = w22 at BK162 BK163 HB hHeld ⊢
   refine pure_ (i := 0) (N := some 10) (v := ?_) (a' := ?_) #[true, false, false, false, false, false, false, false] rfl rfl (any_of HT_.out (by kernel_rfl)) (fun _ _ _ h => h) (Or.inl ⟨by rfl, ?_⟩) ?_ ?_
   rotate_left
   ·intro w'
    go_simp
    with_reducible rfl
   rotate_left
   ·simp only [Act.put, List.setIfInBounds_toArray, List.set_cons_zero, List.set_cons_succ, i64_w, i32_w]
    rfl
   refine take_ (i := 1) (N := some 11) (v := ?_) (a' := ?_) #[true, true, false, false, false, false, false, false] rfl rfl (take_ofW HT_.out HW_.out (by kernel_rfl)) (fun _ _ _ h => h) (Or.inl ⟨by rfl, ?_⟩) hHeld ?_ ?_
   rotate_left
   ·rintro w' ⟨s0, s1, s2⟩
    go_simp
    with_reducible rfl
   rotate_left
   ·simp only [Act.put, List.setIfInBounds_toArray, List.set_cons_zero, List.set_cons_succ, i64_w, i32_w]
    rfl
   refine take_ (i := 4) (N := some 14) (v := ?_) (a' := ?_) #[true, true, false, false, true, false, false, false] rfl rfl (take_ofW HT_.out HW_.out (by kernel_rfl)) (fun _ _ _ h => h) (Or.inl ⟨by rfl, ?_⟩) hHeld ?_ ?_
   rotate_left
   ·rintro w' ⟨s0, s1, s2⟩
    go_simp
    with_reducible rfl
   rotate_left
   ·simp only [Act.put, List.setIfInBounds_toArray, List.set_cons_zero, List.set_cons_succ, i64_w, i32_w]
    rfl
   refine one_ (i := 2) (N := some 12) #[true, true, true, false, true, false, false, false] rfl rfl (one_of HT_.out (by kernel_rfl)) (by decide) (fun K hK => ?_)
   refine goes_ Tryz.func24 (by kernel_rfl) rfl #[.int .i64 a1_0] (by rfl) rfl rfl (by (try simp only [List.map_toArray, List.map_cons, List.map_nil]); first | done | rfl | (simp only [List.length_drop, List.length_take]; rfl)) ?_
   with_reducible refine (hist_Clip.calls a1_0 t164 _ A4.out).mono ?_
   rintro e w23 ⟨rfl, hb⟩
   refine ⟨_, rfl, ?_⟩
   have n0_ := Asd.mk (bB hb BK162.out)
   have n1_ := Asd.mk (bB hb BK163.out)
   have n2_ := Asd.mk (bS hb HB.out)
   clear BK162 BK163 HB
   have BK162 := n0_
   have BK163 := n1_
   have HB := n2_
   clear n0_ n1_ n2_
   (try clear hb)
   (try clear hb2)
   (try clear hk)
   (try clear hi)
   refine hK.out _ _ ⟨(bkC BK162.out 0).trans rfl, (bkC BK162.out 1).trans rfl, (bkC BK162.out 2).trans rfl⟩ (fun hHeld => ?_)
   clear hK K
   refine norm_ (a' := ?_) ?_ ?_
   rotate_left
   ·show Act.put _ (some 12) _ = _
    simp only [Act.put, List.setIfInBounds_toArray, List.set_cons_zero, List.set_cons_succ, i64_w, i32_w]
    rfl
   refine pure_ (i := 3) (N := some 13) (v := ?_) (a' := ?_) #[true, true, true, true, true, false, false, false] rfl rfl (any_of HT_.out (by kernel_rfl)) (fun _ _ _ h => h) (Or.inl ⟨by rfl, ?_⟩) ?_ ?_
   rotate_left
   ·intro w'
    go_simp
    with_reducible rfl
   rotate_left
   ·simp only [Act.put, List.setIfInBounds_toArray, List.set_cons_zero, List.set_cons_succ, i64_w, i32_w]
    rfl
   refine one_ (i := 5) (N := some 15) #[true, true, true, true, true, true, false, false] rfl rfl (one_of HT_.out (by kernel_rfl)) (by decide) (fun K hK => ?_)
   refine goes_ Tryz.func57 (by kernel_rfl) rfl #[.agg #[.int .i64 a1_0, .int .i64 a1_1, .slice A1_2 l1_2.length c1_2]] (by rfl) rfl rfl (by (try simp only [List.map_toArray, List.map_cons, List.map_nil]); first | done | rfl | (simp only [List.length_drop, List.length_take]; rfl)) ?_
   with_reducible refine (hist_Many.calls a1_0 a1_1 _ _ l1_2 t165 _ ?side1 ?side2 A6.out).mono ?_
   (case side1 => repeat (first | exact (Kd.C_below HR1_2.out HB.out) | (with_reducible refine Kd.C_alloc ?_ _) | (with_reducible refine Kd.C_drewN ?_ _) | (with_reducible refine Kd.C_drew ?_)))
   (case side2 => exact HC1_2.out)
   rintro e w24 ⟨rfl, hb⟩
   refine ⟨_, rfl, ?_⟩
   have n0_ := Asd.mk (bB hb BK162.out)
   have n1_ := Asd.mk (bB hb BK163.out)
   have n2_ := Asd.mk (bS hb HB.out)
   clear BK162 BK163 HB
   have BK162 := n0_
   have BK163 := n1_
   have HB := n2_
   clear n0_ n1_ n2_
   (try clear hb)
   (try clear hb2)
   (try clear hk)
   (try clear hi)
   refine hK.out _ _ ⟨(bkC BK162.out 0).trans rfl, (bkC BK162.out 1).trans rfl, (bkC BK162.out 2).trans rfl⟩ (fun hHeld => ?_)
   clear hK K
   refine norm_ (a' := ?_) ?_ ?_
   rotate_left
   ·show Act.put _ (some 15) _ = _
    simp only [Act.put, List.setIfInBounds_toArray, List.set_cons_zero, List.set_cons_succ, i64_w, i32_w]
    rfl
   refine pure_ (i := 6) (N := some 8) (v := ?_) (a' := ?_) #[true, true, true, true, true, true, true, false] rfl rfl (any_of HT_.out (by kernel_rfl)) (fun _ _ _ h => h) (Or.inl ⟨by rfl, ?_⟩) ?_ ?_
   rotate_left
   ·intro w'
    go_simp
    with_reducible rfl
   rotate_left
   ·simp only [Act.put, List.setIfInBounds_toArray, List.set_cons_zero, List.set_cons_succ, i64_w, i32_w]
    rfl
   refine pure_ (i := 7) (N := some 9) (v := ?_) (a' := ?_) #[true, true, true, true, true, true, true, true] rfl rfl (any_of HT_.out (by kernel_rfl)) (fun _ _ _ h => h) (Or.inl ⟨by rfl, ?_⟩) ?_ ?_
   rotate_left
   ·intro w'
    go_simp
    with_reducible rfl
   rotate_left
   ·simp only [Act.put, List.setIfInBounds_toArray, List.set_cons_zero, List.set_cons_succ, i64_w, i32_w]
    rfl
   refine done_ (done_of HT_.out (by kernel_rfl)) ?_
   go_upto_if 25 with (fail)
   go_cut [25] (fun v25 wc => ∃ (kq : Nat) (x25_18 : Bool), v25 = .bool x25_18 ∧ Asd (hist_Part.j0 kq a0 t165 a0 x25_18 a1_0 a1_1 l1_2 a2_0 a2_1 a2_2 = some (r1, r2)) ∧ Asd (kq ≤ k) ∧ Asd (wc.heap[gb162]? = some (.cells #[.int .i64 a1_0, .int .i64 a1_1, (.slice A1_2 l1_2.length c1_2)] 64 (0, 0))) ∧ Asd (wc.heap[gb163]? = some (.cells #[.int .i64 a2_0, .int .i64 a2_1, .string a2_2] 23 (0, 0))) ∧ Asd (Below w.heap.size w wc))
   case first =>
    have H := HC19.out
    clear HC19
    by_cases c25 : a0 = 11
    ·rw [if_pos c25] at H
     have c25b0 : (a0 == 11) = true := beq_iff_eq.mpr c25
     have c25b1 : (a0 != 11) = false := bne_eq_false_iff_eq.mpr c25
     clear c25
     (first | rw [c25b0] | (simp only [i64_w, i32_w]; rw [c25b0]) | skip)
     have H' := Asd.mk H
     clear H
     go_wp2
     go_meet
     case rel => exact ⟨_, ((a0 == 11)), (by first | rfl | (simp; done) | (simp [*]; done)), H', ⟨by first | omega | exact Nat.le_refl _⟩, ⟨by exact BK162.out⟩, ⟨by exact BK163.out⟩, ⟨by repeat (first | (with_reducible first | exact HB.out | apply blA | apply pbN | apply blD | refine blS ?_ GE162.out | refine blS ?_ GE163.out) | exact HB.out)⟩⟩
    ·rw [if_neg c25] at H
     have c25b0 : (a0 == 11) = false := beq_eq_false_iff_ne.mpr c25
     have c25b1 : (a0 != 11) = true := bne_iff_ne.mpr c25
     (first | rw [c25b0] | (simp only [i64_w, i32_w]; rw [c25b0]) | skip)
     have H' := Asd.mk H
     clear H
     go_wp2
     go_meet
     case rel => exact ⟨_, ((a0 == 12)), (by first | rfl | (simp; done) | (simp [*]; done)), H', ⟨by first | omega | exact Nat.le_refl _⟩, ⟨by exact BK162.out⟩, ⟨by exact BK163.out⟩, ⟨by repeat (first | (with_reducible first | exact HB.out | apply blA | apply pbN | apply blD | refine blS ?_ GE162.out | refine blS ?_ GE163.out) | exact HB.out)⟩⟩
   case rest =>
    clear HC19
    try clear c1
    try clear c2
    try clear p2
    try clear c5
    try clear p6
    try clear c7
    try clear c7b0
    try clear c7b1
    try clear c13
    try clear c13b0
    try clear c13b1
    try clear c24
    try clear c25
    try clear c25b0
    try clear c25b1
    obtain ⟨kq, x25_18, rfl, HA, HJ18, BK162, BK163, HB⟩ := hcut
    cases kq with
    | zero => exact absurd HA.out (by simp [hist_Part.j0])
    | succ kj18 =>
     have H := HA.out
     clear HA
     simp only [hist_Part.j0] at H
     by_cases c26 : x25_18 = true
     ·subst c26
      have H1 : ((hist_Below.f a1_0 a1_1 l1_2 a2_0 a2_1 a2_2 (a0 == 12)).bind fun t166 => (some (t166, mx 1 t165))) = some (r1, r2) := by rw [if_pos rfl] at H; exact H
      clear H
      have H := H1
      clear H1
      replace H := Option.bind_eq_some_iff.mp H
      obtain ⟨t166, A270, H⟩ := H
      replace H : (some (t166, mx 1 t165)) = some (r1, r2) := H
      have A27 := Asd.mk A270
      clear A270
      obtain ⟨ji28, hji28⟩ : ∃ j_ : Int, (mx 1 t165) = j_ := ⟨_, rfl⟩
      replace H : (some (t166, ji28)) = some (r1, r2) := by first | (rw [hji28] at H; exact H) | (simp only [hji28] at H ⊢; exact H)
      (try rw [hji28] at A27)
      have hji28_ : (if 1 < t165 then t165 else 1) = ji28 := hji28
      simp only [Option.some.injEq, Prod.mk.injEq] at H
      obtain ⟨rfl, rfl⟩ := H
      have hnb29 := NB162_163.out
      have hnc29 := NB163_162.out
      obtain ⟨hcz30_0, hcz30_1, hcz30_2⟩ := bkC3 BK162.out
      obtain ⟨hfz30_0, hfz30_1, hfz30_2⟩ := bkF3 BK162.out
      obtain ⟨hcz31_0, hcz31_1, hcz31_2⟩ := bkC3 BK163.out
      obtain ⟨hfz31_0, hfz31_1, hfz31_2⟩ := bkF3 BK163.out
      go_wp2_with (first | ((with_reducible refine gate_callee (f := 58) rfl ?_); refine goesL_ (some 32) rfl rfl Tryz.func58 (by kernel_rfl) rfl #[.agg #[.int .i64 a1_0, .int .i64 a1_1, .slice A1_2 l1_2.length c1_2], .agg #[.int .i64 a2_0, .int .i64 a2_1, .string a2_2], .bool (a0 == 12)] rfl (by (try simp only [List.map_toArray, List.map_cons, List.map_nil]); first | done | rfl | (simp only [List.length_drop, List.length_take]; rfl)) ?_; (with_reducible refine (hist_Below.calls a1_0 a1_1 _ _ l1_2 a2_0 a2_1 a2_2 (a0 == 12) t166 _ ?side1 ?side2 A27.out).mono ?_); (case side1 => repeat (first | exact (Kd.C_below HR1_2.out HB.out) | (with_reducible refine Kd.C_alloc ?_ _) | (with_reducible refine Kd.C_drewN ?_ _) | (with_reducible refine Kd.C_drew ?_))); (case side2 => exact HC1_2.out); rintro e w32 ⟨rfl, hb⟩; refine ⟨_, rfl, ?_⟩; replace BK162 := Asd.mk (bB hb BK162.out); replace BK163 := Asd.mk (bB hb BK163.out); replace HB := Asd.mk (bS hb HB.out); clear hb))
      go_ret2
      exact ⟨by first | rfl | (simp [errW_none, errW_some] <;> rfl) | (simp only [← hji5, ← hji28]; first | rfl | (simp [errW_none, errW_some] <;> rfl)) | (simp [*, errW_none, errW_some] <;> rfl), by repeat (first | (with_reducible first | exact HB.out | apply blA | apply pbN | apply blD | refine blS ?_ GE162.out | refine blS ?_ GE163.out) | exact HB.out)⟩
     ·replace c26 := Bool.eq_false_iff.mpr c26
      subst c26
      have H1 : (if a0 = 13 then (hist_Part.j1 kj18 a0 t165 (a0 == 13) a1_0 a1_1 l1_2 a2_0 a2_1 a2_2) else (hist_Part.j1 kj18 a0 t165 (a0 == 14) a1_0 a1_1 l1_2 a2_0 a2_1 a2_2)) = some (r1, r2) := by rw [if_neg (show ¬ (false = true) by decide)] at H; exact H
      clear H
      have H := H1
      clear H1
      have HC33 := Asd.mk H
      clear H
      go_upto_if 35 with (fail)
      go_cut [35] (fun v35 wc => ∃ (kq : Nat) (x35_32 : Bool), v35 = .bool x35_32 ∧ Asd (hist_Part.j1 kq a0 t165 x35_32 a1_0 a1_1 l1_2 a2_0 a2_1 a2_2 = some (r1, r2)) ∧ Asd (kq ≤ kj18) ∧ Asd (wc.heap[gb162]? = some (.cells #[.int .i64 a1_0, .int .i64 a1_1, (.slice A1_2 l1_2.length c1_2)] 64 (0, 0))) ∧ Asd (wc.heap[gb163]? = some (.cells #[.int .i64 a2_0, .int .i64 a2_1, .string a2_2] 23 (0, 0))) ∧ Asd (Below w.heap.size w wc))
      case first =>
       have H := HC33.out
       clear HC33
       by_cases c34 : a0 = 13
       ·rw [if_pos c34] at H
        have c34b0 : (a0 == 13) = true := beq_iff_eq.mpr c34
        have c34b1 : (a0 != 13) = false := bne_eq_false_iff_eq.mpr c34
        clear c34
        (first | rw [c34b0] | (simp only [i64_w, i32_w]; rw [c34b0]) | skip)
        have H' := Asd.mk H
        clear H
        go_wp2
        go_meet
        case rel => exact ⟨_, ((a0 == 13)), (by first | rfl | (simp; done) | (simp [*]; done)), H', ⟨by have := HJ18.out; first | omega | exact Nat.le_refl _⟩, ⟨by exact BK162.out⟩, ⟨by exact BK163.out⟩, ⟨by repeat (first | (with_reducible first | exact HB.out | apply blA | apply pbN | apply blD | refine blS ?_ GE162.out | refine blS ?_ GE163.out) | exact HB.out)⟩⟩
       ·rw [if_neg c34] at H
        have c34b0 : (a0 == 13) = false := beq_eq_false_iff_ne.mpr c34
        have c34b1 : (a0 != 13) = true := bne_iff_ne.mpr c34
        (first | rw [c34b0] | (simp only [i64_w, i32_w]; rw [c34b0]) | skip)
        have H' := Asd.mk H
        clear H
        go_wp2
        go_meet
        case rel => exact ⟨_, ((a0 == 14)), (by first | rfl | (simp; done) | (simp [*]; done)), H', ⟨by have := HJ18.out; first | omega | exact Nat.le_refl _⟩, ⟨by exact BK162.out⟩, ⟨by exact BK163.out⟩, ⟨by repeat (first | (with_reducible first | exact HB.out | apply blA | apply pbN | apply blD | refine blS ?_ GE162.out | refine blS ?_ GE163.out) | exact HB.out)⟩⟩
      case rest =>
       clear HC33
       try clear c1
       try clear c2
       try clear p2
       try clear c3
       try clear c5
       try clear p6
       try clear c7
       try clear c7b0
       try clear c7b1
       try clear c13
       try clear c13b0
       try clear c13b1
       try clear c24
       try clear c25
       try clear c25b0
       try clear c25b1
       try clear c26
       try clear c27
       try clear c29
       try clear c34
       try clear c34b0
       try clear c34b1
       try clear hcz30_0
       try clear hcz30_1
       try clear hcz30_2
       try clear hcz31_0
       try clear hcz31_1
       try clear hcz31_2
       try clear hfz30_0
       try clear hfz30_1
       try clear hfz30_2
       try clear hfz31_0
       try clear hfz31_1
       try clear hfz31_2
       try clear p2
       try clear p6
       obtain ⟨kq, x35_32, rfl, HA, HJ32, BK162, BK163, HB⟩ := hcut
       cases kq with
       | zero => exact absurd HA.out (by simp [hist_Part.j1])
       | succ kj32 =>
        have H := HA.out
        clear HA
        simp only [hist_Part.j1] at H
        by_cases c35 : x35_32 = true
        ·subst c35
         have H1 : (if t165 > 0 then ((hist_Below.f a1_0 a1_1 l1_2 a2_0 a2_1 a2_2 (a0 == 13)).bind fun t167 => (some (mx 0 (wrap64 (t165 - t167)), t165))) else (some (1, 1))) = some (r1, r2) := by rw [if_pos rfl] at H; exact H
         clear H
         have H := H1
         clear H1
         by_cases c36 : t165 > 0
         ·rw [if_pos c36] at H
          have c36b0 : decide (0 < t165) = true := decide_eq_true c36
          clear c36
          replace H := Option.bind_eq_some_iff.mp H
          obtain ⟨t167, A370, H⟩ := H
          replace H : (some (mx 0 (wrap64 (t165 - t167)), t165)) = some (r1, r2) := H
          have A37 := Asd.mk A370
          clear A370
          obtain ⟨ji38, hji38⟩ : ∃ j_ : Int, (mx 0 (wrap64 (t165 - t167))) = j_ := ⟨_, rfl⟩
          replace H : (some (ji38, t165)) = some (r1, r2) := by first | (rw [hji38] at H; exact H) | (simp only [hji38] at H ⊢; exact H)
          (try rw [hji38] at A37)
          have hji38_ : (if 0 < (wrap64 (t165 - t167)) then (wrap64 (t165 - t167)) else 0) = ji38 := hji38
          simp only [Option.some.injEq, Prod.mk.injEq] at H
          obtain ⟨rfl, rfl⟩ := H
          have hnb39 := NB162_163.out
          have hnc39 := NB163_162.out
          obtain ⟨hcz40_0, hcz40_1, hcz40_2⟩ := bkC3 BK162.out
          obtain ⟨hfz40_0, hfz40_1, hfz40_2⟩ := bkF3 BK162.out
          obtain ⟨hcz41_0, hcz41_1, hcz41_2⟩ := bkC3 BK163.out
          obtain ⟨hfz41_0, hfz41_1, hfz41_2⟩ := bkF3 BK163.out
          go_wp2_with (first | ((with_reducible refine gate_callee (f := 58) rfl ?_); refine goesL_ (some 45) rfl rfl Tryz.func58 (by kernel_rfl) rfl #[.agg #[.int .i64 a1_0, .int .i64 a1_1, .slice A1_2 l1_2.length c1_2], .agg #[.int .i64 a2_0, .int .i64 a2_1, .string a2_2], .bool (a0 == 13)] rfl (by (try simp only [List.map_toArray, List.map_cons, List.map_nil]); first | done | rfl | (simp only [List.length_drop, List.length_take]; rfl)) ?_; (with_reducible refine (hist_Below.calls a1_0 a1_1 _ _ l1_2 a2_0 a2_1 a2_2 (a0 == 13) t167 _ ?side1 ?side2 A37.out).mono ?_); (case side1 => repeat (first | exact (Kd.C_below HR1_2.out HB.out) | (with_reducible refine Kd.C_alloc ?_ _) | (with_reducible refine Kd.C_drewN ?_ _) | (with_reducible refine Kd.C_drew ?_))); (case side2 => exact HC1_2.out); rintro e w42 ⟨rfl, hb⟩; refine ⟨_, rfl, ?_⟩; replace BK162 := Asd.mk (bB hb BK162.out); replace BK163 := Asd.mk (bB hb BK163.out); replace HB := Asd.mk (bS hb HB.out); clear hb))
          go_ret2
          exact ⟨by first | rfl | (simp [errW_none, errW_some] <;> rfl) | (simp only [← hji5, ← hji38]; first | rfl | (simp [errW_none, errW_some] <;> rfl)) | (simp [*, errW_none, errW_some] <;> rfl), by repeat (first | (with_reducible first | exact HB.out | apply blA | apply pbN | apply blD | refine blS ?_ GE162.out | refine blS ?_ GE163.out) | exact HB.out)⟩
         ·rw [if_neg c36] at H
          have c36b0 : decide (0 < t165) = false := decide_eq_false c36
          clear c36
          simp only [Option.some.injEq, Prod.mk.injEq] at H
          obtain ⟨rfl, rfl⟩ := H
          go_wp2
          go_ret2
          exact ⟨by first | rfl | (simp [errW_none, errW_some] <;> rfl) | (simp only [← hji5]; first | rfl | (simp [errW_none, errW_some] <;> rfl)) | (simp [*, errW_none, errW_some] <;> rfl), by repeat (first | (with_reducible first | exact HB.out | apply blA | apply pbN | apply blD | refine blS ?_ GE162.out | refine blS ?_ GE163.out) | exact HB.out)⟩
        ·replace c35 := Bool.eq_false_iff.mpr c35
         subst c35
         have H1 : (some (1, 3)) = some (r1, r2) := by rw [if_neg (show ¬ (false = true) by decide)] at H; exact H
         clear H
         have H := H1
         clear H1
         simp only [Option.some.injEq, Prod.mk.injEq] at H
         obtain ⟨rfl, rfl⟩ := H
         go_wp2
         go_ret2
         exact ⟨by first | rfl | (simp [errW_none, errW_some] <;> rfl) | (simp only [← hji5]; first | rfl | (simp [errW_none, errW_some] <;> rfl)) | (simp [*, errW_none, errW_some] <;> rfl), by repeat (first | (with_reducible first | exact HB.out | apply blA | apply pbN | apply blD | refine blS ?_ GE162.out | refine blS ?_ GE163.out) | exact HB.out)⟩
end Go.Proofs.YtoffpegppdmkdaaGreatDoor.E
