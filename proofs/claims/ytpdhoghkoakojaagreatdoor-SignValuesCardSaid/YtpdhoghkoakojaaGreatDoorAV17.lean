/- Contracts and plain lemmas of the functions that the law reaches, part 17. -/
import Derived.Test.YtpdhoghkoakojaaGreatDoorAV4
import Derived.Test.YtpdhoghkoakojaaGreatDoorAV10
namespace Go.Proofs.YtpdhoghkoakojaaGreatDoor.E
open Go.RowKit Go.Proofs.YtpdhoghkoakojaaGreatDoorW.PrintWords Go.Proofs.YtpdhoghkoakojaaGreatDoorW.PrintLast Go.Proofs.YtpdhoghkoakojaaGreatDoorW.PrintMore
attribute [local go_sem] max2_int min2_int max_two min_two max_three min_three max_four min_four   -- for this text's walks alone
set_option linter.unusedVariables false
set_option linter.unusedSimpArgs false
attribute [local go_sem high] eqA23
def value_decided.j0 : Nat → Bool → Bool → Bool → Option (Int × Int × ByteArray × Int)
 | 0, _, _, _ => none
 | k + 1, x0, x9, x22 => if x22 = true then ((value_truth.f x0).bind fun bt176 => (some (bt176.1, bt176.2.1, bt176.2.2, 0))) else (if x9 = true then (some (0, 0, (⟨#[]⟩ : ByteArray), 0)) else ((value_truth.f (!x0)).bind fun bt179 => (some (bt179.1, bt179.2.1, bt179.2.2, 0))))
def value_decided.f (k : Nat) (a0 : Bool) (a1_0 : Int) (a1_1 : Int) (a1_2 : ByteArray) (a2_0 : Int) (a2_1 : Int) (a2_2 : ByteArray) : Option (Int × Int × ByteArray × Int) := (value_null.f k 2 (([(⟨a1_0, a1_1, a1_2⟩ : S23), (⟨a2_0, a2_1, a2_2⟩ : S23)] : List (S23)))).bind fun bt168 => (if bt168.1 = 0 then ((value_truth.f a0).bind fun bt170 => (if (a1_0 == bt170.1 && (a1_1 == bt170.2.1 && (a1_2.toList == bt170.2.2.toList))) = true then (value_decided.j0 k a0 bt168.2 true) else ((value_truth.f a0).bind fun bt173 => (value_decided.j0 k a0 bt168.2 (a2_0 == bt173.1 && (a2_1 == bt173.2.1 && (a2_2.toList == bt173.2.2.toList))))))) else (some (0, 0, (⟨#[]⟩ : ByteArray), bt168.1)))
def value_decided.T4 : Bool × List (List Nat × List Nat) := (true, [([], []), ([], []), ([1], [1]), ([0, 2], [0, 2]), ([3, 2], [3]), ([4], [4]), ([4], [4]), ([6, 4, 4], [4, 6]), ([5, 7, 4], [4, 5, 7]), ([4, 8], [4, 8]), ([9, 7], [9])])
def value_decided.B4 : List Nat := [0, 0, 2, 7, 15, 31, 31, 95, 255, 511, 1023]
theorem value_decided.tab4 : rtab .any (opsOf Tryz.f63 4) = value_decided.T4 := by kernel_rfl
theorem value_decided.bits4 : waitsOk value_decided.T4.2 value_decided.B4 = true := by kernel_rfl
set_option maxHeartbeats 8000000 in
set_option maxRecDepth 100000 in
theorem value_decided.calls (k : Nat) (a0 : Bool) (a1_0 : Int) (a1_1 : Int) (a1_2 : ByteArray) (a2_0 : Int) (a2_1 : Int) (a2_2 : ByteArray) (r1 : Int) (r2 : Int) (r3 : ByteArray) (r4 : Int) (w : World) (h : value_decided.f k a0 a1_0 a1_1 a1_2 a2_0 a2_1 a2_2 = some (r1, r2, r3, r4)) :
  Calls Tryz.prog 63 #[.bool a0, .agg #[.int .i64 a1_0, .int .i64 a1_1, .string a1_2], .agg #[.int .i64 a2_0, .int .i64 a2_1, .string a2_2]] w fun e w' => e = .returned (.tuple #[.agg #[.int .i64 r1, .int .i64 r2, .string r3], .int .i64 r4]) ∧ Below w.heap.size w w' := by
 have hu23 := Tryz.underlying23
 have HB := Asd.mk (Below.refl w.heap.size w)
 have H : ((value_null.f k 2 (([(⟨a1_0, a1_1, a1_2⟩ : S23), (⟨a2_0, a2_1, a2_2⟩ : S23)] : List (S23)))).bind fun bt168 => (if bt168.1 = 0 then ((value_truth.f a0).bind fun bt170 => (if (a1_0 == bt170.1 && (a1_1 == bt170.2.1 && (a1_2.toList == bt170.2.2.toList))) = true then (value_decided.j0 k a0 bt168.2 true) else ((value_truth.f a0).bind fun bt173 => (value_decided.j0 k a0 bt168.2 (a2_0 == bt173.1 && (a2_1 == bt173.2.1 && (a2_2.toList == bt173.2.2.toList))))))) else (some (0, 0, (⟨#[]⟩ : ByteArray), bt168.1)))) = some (r1, r2, r3, r4) := h
 clear h
 obtain ⟨y165, hy165⟩ : ∃ y_ : List (S23), y_ = (([(⟨a1_0, a1_1, a1_2⟩ : S23), (⟨a2_0, a2_1, a2_2⟩ : S23)] : List (S23))) := ⟨_, rfl⟩
 replace H : ((value_null.f k 2 y165).bind fun bt168 => (if bt168.1 = 0 then ((value_truth.f a0).bind fun bt170 => (if (a1_0 == bt170.1 && (a1_1 == bt170.2.1 && (a1_2.toList == bt170.2.2.toList))) = true then (value_decided.j0 k a0 bt168.2 true) else ((value_truth.f a0).bind fun bt173 => (value_decided.j0 k a0 bt168.2 (a2_0 == bt173.1 && (a2_1 == bt173.2.1 && (a2_2.toList == bt173.2.2.toList))))))) else (some (0, 0, (⟨#[]⟩ : ByteArray), bt168.1)))) = some (r1, r2, r3, r4) := by first | (rw [hy165]; with_reducible exact H) | (have H2_ := (Option.bind_some _ _).symm.trans H; rw [hy165]; with_reducible exact H2_) | (have H2_ := (Option.bind_some _ _).symm.trans H; with_reducible exact H2_) | with_reducible exact H | (rw [hy165]; exact H) | exact H
 have Ny165 := Asd.mk hy165
 clear hy165
 replace H := Option.bind_eq_some_iff.mp H
 obtain ⟨⟨t168, t169⟩, A40, H⟩ := H
 replace H : (if t168 = 0 then ((value_truth.f a0).bind fun bt170 => (if (a1_0 == bt170.1 && (a1_1 == bt170.2.1 && (a1_2.toList == bt170.2.2.toList))) = true then (value_decided.j0 k a0 t169 true) else ((value_truth.f a0).bind fun bt173 => (value_decided.j0 k a0 t169 (a2_0 == bt173.1 && (a2_1 == bt173.2.1 && (a2_2.toList == bt173.2.2.toList))))))) else (some (0, 0, (⟨#[]⟩ : ByteArray), t168))) = some (r1, r2, r3, r4) := H
 have A4 := Asd.mk A40
 clear A40
 by_cases c5 : t168 = 0
 ·rw [if_pos c5] at H
  have c5b0 : (t168 == 0) = true := beq_iff_eq.mpr c5
  have c5b1 : (t168 != 0) = false := bne_eq_false_iff_eq.mpr c5
  clear c5
  have HC6 := Asd.mk H
  clear H
  go_enter Tryz.func63, Tryz.ntmps63
  go_upto_region 4 with (first | ((with_reducible refine gate_dst (N := 4) rfl ?_); refine box_event rfl (N := 4) rfl (cs := #[.int .i64 a1_0, .int .i64 a1_1, .string a1_2]) (t := 23) (by first | (go_simp; done) | (go_simp; rfl)) ?_; intro gb162 hg w7 hbox hb; have BK162 := Asd.mk (hbox); have GW162 := Asd.mk (bZ hg HB.out); have GE162 := GW162; replace HB := Asd.mk (bS hb HB.out); clear hb hbox hg) | ((with_reducible refine gate_dst (N := 5) rfl ?_); refine box_event rfl (N := 5) rfl (cs := #[.int .i64 a2_0, .int .i64 a2_1, .string a2_2]) (t := 23) (by first | (go_simp; done) | (go_simp; rfl)) ?_; intro gb163 hg w8 hbox hb; have BK163 := Asd.mk (hbox); have GW163 := Asd.mk (bZ hg HB.out); have GE163 := GW163; have NB162_163 := Asd.mk (bL hg BK162.out); have NB163_162 := Asd.mk (bG hg BK162.out); replace BK162 := Asd.mk (bB hb BK162.out); replace HB := Asd.mk (bS hb HB.out); clear hb hbox hg) | ((with_reducible refine gate_dst (N := 6) rfl ?_); refine box_event rfl (N := 6) rfl (cs := #[.int .i64 0, .int .i64 0, .string (⟨#[]⟩ : ByteArray)]) (t := 23) (by first | (go_simp; done) | (go_simp; rfl)) ?_; intro gb164 hg w9 hbox hb; have BK164 := Asd.mk (hbox); have GW164 := Asd.mk (bZ hg HB.out); have GE164 := GW164; have NB162_164 := Asd.mk (bL hg BK162.out); have NB164_162 := Asd.mk (bG hg BK162.out); have NB163_164 := Asd.mk (bL hg BK163.out); have NB164_163 := Asd.mk (bG hg BK163.out); replace BK162 := Asd.mk (bB hb BK162.out); replace BK163 := Asd.mk (bB hb BK163.out); replace HB := Asd.mk (bS hb HB.out); clear hb hbox hg; have hnb10 := NB162_163.out; have hnc10 := NB163_162.out; have hnb11 := NB162_164.out; have hnc11 := NB164_162.out; obtain ⟨hcz12_0, hcz12_1, hcz12_2⟩ := bkC3 BK162.out; obtain ⟨hfz12_0, hfz12_1, hfz12_2⟩ := bkF3 BK162.out; have hnb13 := NB163_164.out; have hnc13 := NB164_163.out; obtain ⟨hcz14_0, hcz14_1, hcz14_2⟩ := bkC3 BK163.out; obtain ⟨hfz14_0, hfz14_1, hfz14_2⟩ := bkF3 BK163.out) | ((with_reducible refine gate_dst (N := 13) rfl ?_); refine Kd.R_lit k23 _ 23 ?hg (N := 13) ?hd (xs := ([(⟨a1_0, a1_1, a1_2⟩ : S23), (⟨a2_0, a2_1, a2_2⟩ : S23)] : List (S23))) (inner := [.int .i64 a1_0, .int .i64 a1_1, .string a1_2, .int .i64 a2_0, .int .i64 a2_1, .string a2_2]) (ok := fun _ => True) (okp := fun _ => True) ?hr ?hp (fun _ hk => hk) trivial (Below.refl _ _) (Nat.le_refl _) (by simp) ?_; (case hd => rfl); (case hg => rfl); (case hr => first | (go_simp; done) | (go_simp; rfl)); (case hp => exact (Reps.c3 (show Kd.M k23 _ _ _ (⟨a1_0, a1_1, a1_2⟩ : S23) [.int .i64 a1_0, .int .i64 a1_1, .string a1_2] from (k23_mkM _ _ _ (⟨a1_0, a1_1, a1_2⟩ : S23) )) (Reps.c3 (show Kd.M k23 _ _ _ (⟨a2_0, a2_1, a2_2⟩ : S23) [.int .i64 a2_0, .int .i64 a2_1, .string a2_2] from (k23_mkM _ _ _ (⟨a2_0, a2_1, a2_2⟩ : S23) )) (Reps.none _ _)))); intro v166 w15 ho16 hb hg_ hnew_; clear hg_ hnew_; (first | rw [← Ny165.out] at ho16 | (simp only [Int.reduceToNat] at ho16; rw [← Ny165.out] at ho16)); have n0_ := Asd.mk (Kd.R_lower (Kd.R_newB (Kd.R_newB (Kd.R_newB ho16 (g := gb162) (o := .cells #[.int .i64 a1_0, .int .i64 a1_1, .string a1_2] 23 (0, 0)) (by exact BK162.out)) (g := gb163) (o := .cells #[.int .i64 a2_0, .int .i64 a2_1, .string a2_2] 23 (0, 0)) (by exact BK163.out)) (g := gb164) (o := .cells #[.int .i64 0, .int .i64 0, .string (⟨#[]⟩ : ByteArray)] 23 (0, 0)) (by exact BK164.out)) (below_size (by repeat (first | (with_reducible first | exact HB.out | apply blA | apply pbN | apply blD | refine blS ?_ GE162.out | refine blS ?_ GE163.out | refine blS ?_ GE164.out) | exact HB.out)))); have n1_ := Asd.mk (bB hb BK162.out); have n2_ := Asd.mk (bB hb BK163.out); have n3_ := Asd.mk (bB hb BK164.out); have n4_ := Asd.mk (bS hb HB.out); clear BK162; clear BK163; clear BK164; clear HB; have HO167 := n0_; have BK162 := n1_; have BK163 := n2_; have BK164 := n3_; have HB := n4_; clear n0_ n1_ n2_ n3_ n4_; clear hb ho16; obtain ⟨Ao17, co17, eo17⟩ := Kd.R_slice HO167.out; subst eo17) | ((with_reducible refine gate_callee (f := 59) rfl ?_); refine goesL_ (some 14) rfl rfl Tryz.func59 (by kernel_rfl) rfl #[.int .i64 2, .slice Ao17 y165.length co17] rfl (by (try simp only [List.map_toArray, List.map_cons, List.map_nil]); first | done | rfl | (simp only [List.length_drop, List.length_take]; rfl)) ?_; (with_reducible refine (value_null.calls k 2 _ _ y165 t168 t169 _ ?side1 ?side2 A4.out).mono ?_); (case side1 => repeat (first | exact (Kd.R_reads' HO167.out).2.2 | (with_reducible refine Kd.C_alloc ?_ _) | (with_reducible refine Kd.C_drewN ?_ _) | (with_reducible refine Kd.C_drew ?_))); (case side2 => exact (Kd.R_reads' HO167.out).2.1); rintro e w18 ⟨rfl, hb⟩; refine ⟨_, rfl, ?_⟩; have n0_ := Asd.mk (Kd.R_below (by (with_reducible repeat (first | apply Kd.R_alloc | apply Kd.R_drewN | apply Kd.R_drew)); exact HO167.out) hb); have n1_ := Asd.mk (bB hb BK162.out); have n2_ := Asd.mk (bB hb BK163.out); have n3_ := Asd.mk (bB hb BK164.out); have n4_ := Asd.mk (bS hb HB.out); clear HO167; clear BK162; clear BK163; clear BK164; clear HB; have HO167 := n0_; have BK162 := n1_; have BK163 := n2_; have BK164 := n3_; have HB := n4_; clear n0_ n1_ n2_ n3_ n4_; (try clear hb); (try clear hb2); (try clear hk); (try clear hi)))
  (try simp only [Act.put, List.setIfInBounds_toArray, List.set_cons_zero, List.set_cons_succ])
  go_cut [22] (fun v22 wc => ∃ (kq : Nat) (x22_5 : Bool), v22 = .bool x22_5 ∧ Asd (value_decided.j0 kq a0 t169 x22_5 = some (r1, r2, r3, r4)) ∧ Asd (kq ≤ k) ∧ Asd (wc.heap[gb162]? = some (.cells #[.int .i64 a1_0, .int .i64 a1_1, .string a1_2] 23 (0, 0))) ∧ Asd (wc.heap[gb163]? = some (.cells #[.int .i64 a2_0, .int .i64 a2_1, .string a2_2] 23 (0, 0))) ∧ Asd (wc.heap[gb164]? = some (.cells #[.int .i64 0, .int .i64 0, .string (⟨#[]⟩ : ByteArray)] 23 (0, 0))) ∧ Asd (Below w.heap.size w wc))
  case first =>
   have H := HC6.out
   clear HC6
   replace H := Option.bind_eq_some_iff.mp H
   obtain ⟨⟨t170, t171, t172⟩, A190, H⟩ := H
   replace H : (if (a1_0 == t170 && (a1_1 == t171 && (a1_2.toList == t172.toList))) = true then (value_decided.j0 k a0 t169 true) else ((value_truth.f a0).bind fun bt173 => (value_decided.j0 k a0 t169 (a2_0 == bt173.1 && (a2_1 == bt173.2.1 && (a2_2.toList == bt173.2.2.toList)))))) = some (r1, r2, r3, r4) := H
   have A19 := Asd.mk A190
   clear A190
   by_cases c20 : (a1_0 == t170 && (a1_1 == t171 && (a1_2.toList == t172.toList))) = true
   ·rw [if_pos c20] at H
    have c20b0 : (a1_0 == t170 && (a1_1 == t171 && (a1_2.toList == t172.toList))) = true := c20
    (try (have c20b1 : decide (a1_0 = t170 && (a1_1 == t171 && (a1_2.toList == t172.toList))) = true := by simpa using c20))
    (try (have c20b2 : (a1_0 == t170 && (a1_1 == t171 && (a1_2.toList == t172.toList))) = true := by simpa using c20))
    clear c20
    (first | rw [c20b0] | (simp only [i64_w, i32_w]; rw [c20b0]) | skip)
    have H' := Asd.mk H
    clear H
    try go_wp2
    have n0_ := Asd.mk (Kd.R_drew HO167.out)
    have n1_ := Asd.mk (bkD BK162.out)
    have n2_ := Asd.mk (bkD BK163.out)
    have n3_ := Asd.mk (bkD BK164.out)
    have n4_ := Asd.mk (blD HB.out)
    clear HO167 BK162 BK163 BK164 HB
    have HO167 := n0_
    have BK162 := n1_
    have BK163 := n2_
    have BK164 := n3_
    have HB := n4_
    clear n0_ n1_ n2_ n3_ n4_
    refine start_ (n := 11) (S := fun w' => w'.cell? ⟨gb162, 0, none⟩ = some (.int .i64 a1_0) ∧ w'.cell? ⟨gb162, 1, none⟩ = some (.int .i64 a1_1) ∧ w'.cell? ⟨gb162, 2, none⟩ = some (.string a1_2)) (ds := []) #[false, false, false, false, false, false, false, false, false, false, false] (by kernel_rfl) rfl rfl ⟨(bkC BK162.out 0).trans rfl, (bkC BK162.out 1).trans rfl, (bkC BK162.out 2).trans rfl⟩ (fun hHeld => ?_); refine with_tabW value_decided.tab4 value_decided.bits4 (fun HT_ HW_ => ?_)
    generalize w18.drew = w21 at HO167 BK162 BK163 BK164 HB hHeld ⊢
    refine pure_ (i := 1) (N := some 24) (v := ?_) (a' := ?_) #[false, true, false, false, false, false, false, false, false, false, false] rfl rfl (any_of HT_.out (by kernel_rfl)) (fun _ _ _ h => h) (Or.inl ⟨by rfl, ?_⟩) ?_ ?_
    rotate_left
    ·intro w'
     go_simp
     with_reducible rfl
    rotate_left
    ·simp only [Act.put, List.setIfInBounds_toArray, List.set_cons_zero, List.set_cons_succ, i64_w, i32_w]
     rfl
    refine take_ (i := 0) (N := some 23) (v := ?_) (a' := ?_) #[true, true, false, false, false, false, false, false, false, false, false] rfl rfl (take_ofW HT_.out HW_.out (by kernel_rfl)) (fun _ _ _ h => h) (Or.inl ⟨by rfl, ?_⟩) hHeld ?_ ?_
    rotate_left
    ·rintro w' ⟨s0, s1, s2⟩
     go_simp
     with_reducible rfl
    rotate_left
    ·simp only [Act.put, List.setIfInBounds_toArray, List.set_cons_zero, List.set_cons_succ, i64_w, i32_w]
     rfl
    refine one_ (i := 2) (N := some 25) #[true, true, true, false, false, false, false, false, false, false, false] rfl rfl (one_of HT_.out (by kernel_rfl)) (by decide) (fun K hK => ?_)
    refine goes_ Tryz.func64 (by kernel_rfl) rfl #[.bool a0] (by rfl) rfl rfl (by (try simp only [List.map_toArray, List.map_cons, List.map_nil]); first | done | rfl | (simp only [List.length_drop, List.length_take]; rfl)) ?_
    with_reducible refine (value_truth.calls a0 t170 t171 t172 _ A19.out).mono ?_
    rintro e w22 ⟨rfl, hb⟩
    refine ⟨_, rfl, ?_⟩
    have n0_ := Asd.mk (Kd.R_below (by (with_reducible repeat (first | apply Kd.R_alloc | apply Kd.R_drewN | apply Kd.R_drew)); exact HO167.out) hb)
    have n1_ := Asd.mk (bB hb BK162.out)
    have n2_ := Asd.mk (bB hb BK163.out)
    have n3_ := Asd.mk (bB hb BK164.out)
    have n4_ := Asd.mk (bS hb HB.out)
    clear HO167 BK162 BK163 BK164 HB
    have HO167 := n0_
    have BK162 := n1_
    have BK163 := n2_
    have BK164 := n3_
    have HB := n4_
    clear n0_ n1_ n2_ n3_ n4_
    (try clear hb)
    (try clear hb2)
    (try clear hk)
    (try clear hi)
    refine hK.out _ _ ⟨(bkC BK162.out 0).trans rfl, (bkC BK162.out 1).trans rfl, (bkC BK162.out 2).trans rfl⟩ (fun hHeld => ?_)
    clear hK K
    refine norm_ (a' := ?_) ?_ ?_
    rotate_left
    ·show Act.put _ (some 25) _ = _
     simp only [Act.put, List.setIfInBounds_toArray, List.set_cons_zero, List.set_cons_succ, i64_w, i32_w]
     rfl
    refine pure_ (i := 3) (N := some 26) (v := ?_) (a' := ?_) #[true, true, true, true, false, false, false, false, false, false, false] rfl rfl (any_of HT_.out (by kernel_rfl)) (fun _ _ _ h => h) (Or.inl ⟨by rfl, ?_⟩) ?_ ?_
    rotate_left
    ·intro w'
     go_simp
     with_reducible rfl
    rotate_left
    ·simp only [Act.put, List.setIfInBounds_toArray, List.set_cons_zero, List.set_cons_succ, i64_w, i32_w]
     rfl
    refine pure_ (i := 4) (N := some 27) (v := ?_) (a' := ?_) #[true, true, true, true, true, false, false, false, false, false, false] rfl rfl (any_of HT_.out (by kernel_rfl)) (fun _ _ _ h => h) (Or.inl ⟨by rfl, ?_⟩) ?_ ?_
    rotate_left
    ·intro w'
     go_simp
     with_reducible rfl
    rotate_left
    ·simp only [Act.put, List.setIfInBounds_toArray, List.set_cons_zero, List.set_cons_succ, i64_w, i32_w]
     rfl
    refine pure_ (i := 5) (N := some 28) (v := undef) (a' := ?_) #[true, true, true, true, true, true, false, false, false, false, false] rfl rfl (any_of HT_.out (by kernel_rfl)) (fun _ _ _ h => h) (Or.inr ⟨by rfl, rfl⟩) ?_ ?_
    rotate_left
    ·simp only [Act.put, List.setIfInBounds_toArray, List.set_cons_zero, List.set_cons_succ, i64_w, i32_w]
     rfl
    refine pure_ (i := 6) (N := some 29) (v := undef) (a' := ?_) #[true, true, true, true, true, true, true, false, false, false, false] rfl rfl (any_of HT_.out (by kernel_rfl)) (fun _ _ _ h => h) (Or.inr ⟨by rfl, rfl⟩) ?_ ?_
    rotate_left
    ·simp only [Act.put, List.setIfInBounds_toArray, List.set_cons_zero, List.set_cons_succ, i64_w, i32_w]
     rfl
    refine pure_ (i := 7) (N := some 30) (v := undef) (a' := ?_) #[true, true, true, true, true, true, true, true, false, false, false] rfl rfl (any_of HT_.out (by kernel_rfl)) (fun _ _ _ h => h) (Or.inr ⟨by rfl, rfl⟩) ?_ ?_
    rotate_left
    ·simp only [Act.put, List.setIfInBounds_toArray, List.set_cons_zero, List.set_cons_succ, i64_w, i32_w]
     rfl
    refine pure_ (i := 8) (N := some 31) (v := undef) (a' := ?_) #[true, true, true, true, true, true, true, true, true, false, false] rfl rfl (any_of HT_.out (by kernel_rfl)) (fun _ _ _ h => h) (Or.inr ⟨by rfl, rfl⟩) ?_ ?_
    rotate_left
    ·simp only [Act.put, List.setIfInBounds_toArray, List.set_cons_zero, List.set_cons_succ, i64_w, i32_w]
     rfl
    refine pure_ (i := 9) (N := some 32) (v := ?_) (a' := ?_) #[true, true, true, true, true, true, true, true, true, true, false] rfl rfl (any_of HT_.out (by kernel_rfl)) (fun _ _ _ h => h) (Or.inl ⟨by rfl, ?_⟩) ?_ ?_
    rotate_left
    ·intro w'
     go_simp
     with_reducible rfl
    rotate_left
    ·simp only [Act.put, List.setIfInBounds_toArray, List.set_cons_zero, List.set_cons_succ, i64_w, i32_w]
     rfl
    refine pure_ (i := 10) (N := some 22) (v := ?_) (a' := ?_) #[true, true, true, true, true, true, true, true, true, true, true] rfl rfl (any_of HT_.out (by kernel_rfl)) (fun _ _ _ h => h) (Or.inl ⟨by rfl, ?_⟩) ?_ ?_
    rotate_left
    ·intro w'
     go_simp
     with_reducible rfl
    rotate_left
    ·simp only [Act.put, List.setIfInBounds_toArray, List.set_cons_zero, List.set_cons_succ, i64_w, i32_w]
     rfl
    refine done_ (done_of HT_.out (by kernel_rfl)) ?_
    try go_wp2
    go_meet
    case rel => exact ⟨_, (true), (by first | rfl | (simp; done) | (simp [*]; done)), H', ⟨by first | omega | exact Nat.le_refl _⟩, ⟨by exact BK162.out⟩, ⟨by exact BK163.out⟩, ⟨by exact BK164.out⟩, ⟨by repeat (first | (with_reducible first | exact HB.out | apply blA | apply pbN | apply blD | refine blS ?_ GE162.out | refine blS ?_ GE163.out | refine blS ?_ GE164.out) | exact HB.out)⟩⟩
   ·rw [if_neg c20] at H
    have c20b0 : (a1_0 == t170 && (a1_1 == t171 && (a1_2.toList == t172.toList))) = false := by simpa using c20
    (try (have c20b1 : decide (a1_0 = t170 && (a1_1 == t171 && (a1_2.toList == t172.toList))) = false := by simpa using c20))
    (try (have c20b2 : (a1_0 == t170 && (a1_1 == t171 && (a1_2.toList == t172.toList))) = false := by simpa using c20))
    (try (have c20b3 : ¬ (a1_0 = t170 && (a1_1 == t171 && (a1_2.toList == t172.toList))) := by simpa using c20))
    clear c20
    (first | rw [c20b0] | (simp only [i64_w, i32_w]; rw [c20b0]) | skip)
    replace H := Option.bind_eq_some_iff.mp H
    obtain ⟨⟨t173, t174, t175⟩, A230, H⟩ := H
    replace H : (value_decided.j0 k a0 t169 (a2_0 == t173 && (a2_1 == t174 && (a2_2.toList == t175.toList)))) = some (r1, r2, r3, r4) := H
    have A23 := Asd.mk A230
    clear A230
    have H' := Asd.mk H
    clear H
    try go_wp2
    have n0_ := Asd.mk (Kd.R_drew HO167.out)
    have n1_ := Asd.mk (bkD BK162.out)
    have n2_ := Asd.mk (bkD BK163.out)
    have n3_ := Asd.mk (bkD BK164.out)
    have n4_ := Asd.mk (blD HB.out)
    clear HO167 BK162 BK163 BK164 HB
    have HO167 := n0_
    have BK162 := n1_
    have BK163 := n2_
    have BK164 := n3_
    have HB := n4_
    clear n0_ n1_ n2_ n3_ n4_
    refine start_ (n := 11) (S := fun w' => w'.cell? ⟨gb162, 0, none⟩ = some (.int .i64 a1_0) ∧ w'.cell? ⟨gb162, 1, none⟩ = some (.int .i64 a1_1) ∧ w'.cell? ⟨gb162, 2, none⟩ = some (.string a1_2) ∧ w'.cell? ⟨gb163, 0, none⟩ = some (.int .i64 a2_0) ∧ w'.cell? ⟨gb163, 1, none⟩ = some (.int .i64 a2_1) ∧ w'.cell? ⟨gb163, 2, none⟩ = some (.string a2_2)) (ds := []) #[false, false, false, false, false, false, false, false, false, false, false] (by kernel_rfl) rfl rfl ⟨(bkC BK162.out 0).trans rfl, (bkC BK162.out 1).trans rfl, (bkC BK162.out 2).trans rfl, (bkC BK163.out 0).trans rfl, (bkC BK163.out 1).trans rfl, (bkC BK163.out 2).trans rfl⟩ (fun hHeld => ?_); refine with_tabW value_decided.tab4 value_decided.bits4 (fun HT_ HW_ => ?_)
    generalize w18.drew = w24 at HO167 BK162 BK163 BK164 HB hHeld ⊢
    refine pure_ (i := 1) (N := some 24) (v := ?_) (a' := ?_) #[false, true, false, false, false, false, false, false, false, false, false] rfl rfl (any_of HT_.out (by kernel_rfl)) (fun _ _ _ h => h) (Or.inl ⟨by rfl, ?_⟩) ?_ ?_
    rotate_left
    ·intro w'
     go_simp
     with_reducible rfl
    rotate_left
    ·simp only [Act.put, List.setIfInBounds_toArray, List.set_cons_zero, List.set_cons_succ, i64_w, i32_w]
     rfl
    refine take_ (i := 0) (N := some 23) (v := ?_) (a' := ?_) #[true, true, false, false, false, false, false, false, false, false, false] rfl rfl (take_ofW HT_.out HW_.out (by kernel_rfl)) (fun _ _ _ h => h) (Or.inl ⟨by rfl, ?_⟩) hHeld ?_ ?_
    rotate_left
    ·rintro w' ⟨s0, s1, s2, s3, s4, s5⟩
     go_simp
     with_reducible rfl
    rotate_left
    ·simp only [Act.put, List.setIfInBounds_toArray, List.set_cons_zero, List.set_cons_succ, i64_w, i32_w]
     rfl
    refine one_ (i := 2) (N := some 25) #[true, true, true, false, false, false, false, false, false, false, false] rfl rfl (one_of HT_.out (by kernel_rfl)) (by decide) (fun K hK => ?_)
    refine goes_ Tryz.func64 (by kernel_rfl) rfl #[.bool a0] (by rfl) rfl rfl (by (try simp only [List.map_toArray, List.map_cons, List.map_nil]); first | done | rfl | (simp only [List.length_drop, List.length_take]; rfl)) ?_
    with_reducible refine (value_truth.calls a0 t170 t171 t172 _ A19.out).mono ?_
    rintro e w25 ⟨rfl, hb⟩
    refine ⟨_, rfl, ?_⟩
    have n0_ := Asd.mk (Kd.R_below (by (with_reducible repeat (first | apply Kd.R_alloc | apply Kd.R_drewN | apply Kd.R_drew)); exact HO167.out) hb)
    have n1_ := Asd.mk (bB hb BK162.out)
    have n2_ := Asd.mk (bB hb BK163.out)
    have n3_ := Asd.mk (bB hb BK164.out)
    have n4_ := Asd.mk (bS hb HB.out)
    clear HO167 BK162 BK163 BK164 HB
    have HO167 := n0_
    have BK162 := n1_
    have BK163 := n2_
    have BK164 := n3_
    have HB := n4_
    clear n0_ n1_ n2_ n3_ n4_
    (try clear hb)
    (try clear hb2)
    (try clear hk)
    (try clear hi)
    refine hK.out _ _ ⟨(bkC BK162.out 0).trans rfl, (bkC BK162.out 1).trans rfl, (bkC BK162.out 2).trans rfl, (bkC BK163.out 0).trans rfl, (bkC BK163.out 1).trans rfl, (bkC BK163.out 2).trans rfl⟩ (fun hHeld => ?_)
    clear hK K
    refine norm_ (a' := ?_) ?_ ?_
    rotate_left
    ·show Act.put _ (some 25) _ = _
     simp only [Act.put, List.setIfInBounds_toArray, List.set_cons_zero, List.set_cons_succ, i64_w, i32_w]
     rfl
    refine pure_ (i := 3) (N := some 26) (v := ?_) (a' := ?_) #[true, true, true, true, false, false, false, false, false, false, false] rfl rfl (any_of HT_.out (by kernel_rfl)) (fun _ _ _ h => h) (Or.inl ⟨by rfl, ?_⟩) ?_ ?_
    rotate_left
    ·intro w'
     go_simp
     with_reducible rfl
    rotate_left
    ·simp only [Act.put, List.setIfInBounds_toArray, List.set_cons_zero, List.set_cons_succ, i64_w, i32_w]
     rfl
    refine pure_ (i := 4) (N := some 27) (v := ?_) (a' := ?_) #[true, true, true, true, true, false, false, false, false, false, false] rfl rfl (any_of HT_.out (by kernel_rfl)) (fun _ _ _ h => h) (Or.inl ⟨by rfl, ?_⟩) ?_ ?_
    rotate_left
    ·intro w'
     go_simp
     with_reducible rfl
    rotate_left
    ·simp only [Act.put, List.setIfInBounds_toArray, List.set_cons_zero, List.set_cons_succ, i64_w, i32_w]
     rfl
    refine pure_ (i := 6) (N := some 29) (v := ?_) (a' := ?_) #[true, true, true, true, true, false, true, false, false, false, false] rfl rfl (any_of HT_.out (by kernel_rfl)) (fun _ _ _ h => h) (Or.inl ⟨by rfl, ?_⟩) ?_ ?_
    rotate_left
    ·intro w'
     go_simp
     with_reducible rfl
    rotate_left
    ·simp only [Act.put, List.setIfInBounds_toArray, List.set_cons_zero, List.set_cons_succ, i64_w, i32_w]
     rfl
    refine take_ (i := 5) (N := some 28) (v := ?_) (a' := ?_) #[true, true, true, true, true, true, true, false, false, false, false] rfl rfl (take_ofW HT_.out HW_.out (by kernel_rfl)) (fun _ _ _ h => h) (Or.inl ⟨by rfl, ?_⟩) hHeld ?_ ?_
    rotate_left
    ·rintro w' ⟨s0, s1, s2, s3, s4, s5⟩
     go_simp
     with_reducible rfl
    rotate_left
    ·simp only [Act.put, List.setIfInBounds_toArray, List.set_cons_zero, List.set_cons_succ, i64_w, i32_w]
     rfl
    refine one_ (i := 7) (N := some 30) #[true, true, true, true, true, true, true, true, false, false, false] rfl rfl (one_of HT_.out (by kernel_rfl)) (by decide) (fun K hK => ?_)
    refine goes_ Tryz.func64 (by kernel_rfl) rfl #[.bool a0] (by rfl) rfl rfl (by (try simp only [List.map_toArray, List.map_cons, List.map_nil]); first | done | rfl | (simp only [List.length_drop, List.length_take]; rfl)) ?_
    with_reducible refine (value_truth.calls a0 t173 t174 t175 _ A23.out).mono ?_
    rintro e w26 ⟨rfl, hb⟩
    refine ⟨_, rfl, ?_⟩
    have n0_ := Asd.mk (Kd.R_below (by (with_reducible repeat (first | apply Kd.R_alloc | apply Kd.R_drewN | apply Kd.R_drew)); exact HO167.out) hb)
    have n1_ := Asd.mk (bB hb BK162.out)
    have n2_ := Asd.mk (bB hb BK163.out)
    have n3_ := Asd.mk (bB hb BK164.out)
    have n4_ := Asd.mk (bS hb HB.out)
    clear HO167 BK162 BK163 BK164 HB
    have HO167 := n0_
    have BK162 := n1_
    have BK163 := n2_
    have BK164 := n3_
    have HB := n4_
    clear n0_ n1_ n2_ n3_ n4_
    (try clear hb)
    (try clear hb2)
    (try clear hk)
    (try clear hi)
    refine hK.out _ _ ⟨(bkC BK162.out 0).trans rfl, (bkC BK162.out 1).trans rfl, (bkC BK162.out 2).trans rfl, (bkC BK163.out 0).trans rfl, (bkC BK163.out 1).trans rfl, (bkC BK163.out 2).trans rfl⟩ (fun hHeld => ?_)
    clear hK K
    refine norm_ (a' := ?_) ?_ ?_
    rotate_left
    ·show Act.put _ (some 30) _ = _
     simp only [Act.put, List.setIfInBounds_toArray, List.set_cons_zero, List.set_cons_succ, i64_w, i32_w]
     rfl
    refine pure_ (i := 8) (N := some 31) (v := ?_) (a' := ?_) #[true, true, true, true, true, true, true, true, true, false, false] rfl rfl (any_of HT_.out (by kernel_rfl)) (fun _ _ _ h => h) (Or.inl ⟨by rfl, ?_⟩) ?_ ?_
    rotate_left
    ·intro w'
     go_simp
     with_reducible rfl
    rotate_left
    ·simp only [Act.put, List.setIfInBounds_toArray, List.set_cons_zero, List.set_cons_succ, i64_w, i32_w]
     rfl
    refine pure_ (i := 9) (N := some 32) (v := ?_) (a' := ?_) #[true, true, true, true, true, true, true, true, true, true, false] rfl rfl (any_of HT_.out (by kernel_rfl)) (fun _ _ _ h => h) (Or.inl ⟨by rfl, ?_⟩) ?_ ?_
    rotate_left
    ·intro w'
     go_simp
     with_reducible rfl
    rotate_left
    ·simp only [Act.put, List.setIfInBounds_toArray, List.set_cons_zero, List.set_cons_succ, i64_w, i32_w]
     rfl
    refine pure_ (i := 10) (N := some 22) (v := ?_) (a' := ?_) #[true, true, true, true, true, true, true, true, true, true, true] rfl rfl (any_of HT_.out (by kernel_rfl)) (fun _ _ _ h => h) (Or.inl ⟨by rfl, ?_⟩) ?_ ?_
    rotate_left
    ·intro w'
     go_simp
     with_reducible rfl
    rotate_left
    ·simp only [Act.put, List.setIfInBounds_toArray, List.set_cons_zero, List.set_cons_succ, i64_w, i32_w]
     rfl
    refine done_ (done_of HT_.out (by kernel_rfl)) ?_
    try go_wp2
    go_meet
    case rel => exact ⟨_, ((a2_0 == t173 && (a2_1 == t174 && (a2_2.toList == t175.toList)))), (by first | rfl | (simp; done) | (simp [*]; done)), H', ⟨by first | omega | exact Nat.le_refl _⟩, ⟨by exact BK162.out⟩, ⟨by exact BK163.out⟩, ⟨by exact BK164.out⟩, ⟨by repeat (first | (with_reducible first | exact HB.out | apply blA | apply pbN | apply blD | refine blS ?_ GE162.out | refine blS ?_ GE163.out | refine blS ?_ GE164.out) | exact HB.out)⟩⟩
  case rest =>
   clear HC6
   try clear c1
   try clear c2
   try clear p2
   try clear c3
   try clear c5
   try clear c5b0
   try clear c5b1
   try clear c6
   try clear c10
   try clear c11
   try clear c13
   try clear c20
   try clear c20b0
   try clear c20b1
   try clear c20b2
   try clear hcz12_0
   try clear hcz12_1
   try clear hcz12_2
   try clear hcz14_0
   try clear hcz14_1
   try clear hcz14_2
   try clear hfz12_0
   try clear hfz12_1
   try clear hfz12_2
   try clear hfz14_0
   try clear hfz14_1
   try clear hfz14_2
   obtain ⟨kq, x22_5, rfl, HA, HJ5, BK162, BK163, BK164, HB⟩ := hcut
   cases kq with
   | zero => exact absurd HA.out (by simp [value_decided.j0])
   | succ kj5 =>
    have H := HA.out
    clear HA
    simp only [value_decided.j0] at H
    by_cases c27 : x22_5 = true
    ·subst c27
     have H1 : ((value_truth.f a0).bind fun bt176 => (some (bt176.1, bt176.2.1, bt176.2.2, 0))) = some (r1, r2, r3, r4) := by rw [if_pos rfl] at H; exact H
     clear H
     have H := H1
     clear H1
     replace H := Option.bind_eq_some_iff.mp H
     obtain ⟨⟨t176, t177, t178⟩, A280, H⟩ := H
     replace H : (some (t176, t177, t178, 0)) = some (r1, r2, r3, r4) := H
     have A28 := Asd.mk A280
     clear A280
     simp only [Option.some.injEq, Prod.mk.injEq] at H
     obtain ⟨rfl, rfl, rfl, rfl⟩ := H
     go_wp2_with (first | ((with_reducible refine gate_callee (f := 64) rfl ?_); refine goesL_ (some 34) rfl rfl Tryz.func64 (by kernel_rfl) rfl #[.bool a0] rfl (by (try simp only [List.map_toArray, List.map_cons, List.map_nil]); first | done | rfl | (simp only [List.length_drop, List.length_take]; rfl)) ?_; (with_reducible refine (value_truth.calls a0 t176 t177 t178 _ A28.out).mono ?_); rintro e w29 ⟨rfl, hb⟩; refine ⟨_, rfl, ?_⟩; replace BK162 := Asd.mk (bB hb BK162.out); replace BK163 := Asd.mk (bB hb BK163.out); replace BK164 := Asd.mk (bB hb BK164.out); replace HB := Asd.mk (bS hb HB.out); clear hb; have hnb30 := NB164_162.out; have hnc30 := NB162_164.out; have hnb31 := NB164_163.out; have hnc31 := NB163_164.out; obtain ⟨hcz32_0, hcz32_1, hcz32_2⟩ := bkC3 BK164.out; obtain ⟨hfz32_0, hfz32_1, hfz32_2⟩ := bkF3 BK164.out))
     refine bodyPost_ret (results_ct rfl _ _ gb164 23 #[.int .i64 t176, .int .i64 t177, .string t178] (0, 0) _ rfl (by refine blk_put (cs := #[.int .i64 t176, .int .i64 t177, .string (⟨#[]⟩ : ByteArray)]) ?_ 2 _ rfl; refine blk_put (cs := #[.int .i64 t176, .int .i64 0, .string (⟨#[]⟩ : ByteArray)]) ?_ 1 _ rfl; refine blk_put (cs := #[.int .i64 0, .int .i64 0, .string (⟨#[]⟩ : ByteArray)]) ?_ 0 _ rfl; exact BK164.out) Tryz.underlying23 rfl (by kernel_rfl)) rfl ?_
     exact ⟨by first | rfl | (simp [errW_none, errW_some] <;> rfl) | (simp [*, errW_none, errW_some] <;> rfl), by repeat (first | (with_reducible first | exact HB.out | apply blA | apply pbN | apply blD | refine blS ?_ GE162.out | refine blS ?_ GE163.out | refine blS ?_ GE164.out) | exact HB.out)⟩
    ·replace c27 := Bool.eq_false_iff.mpr c27
     subst c27
     have H1 : (if t169 = true then (some (0, 0, (⟨#[]⟩ : ByteArray), 0)) else ((value_truth.f (!a0)).bind fun bt179 => (some (bt179.1, bt179.2.1, bt179.2.2, 0)))) = some (r1, r2, r3, r4) := by rw [if_neg (show ¬ (false = true) by decide)] at H; exact H
     clear H
     have H := H1
     clear H1
     by_cases c33 : t169 = true
     ·subst c33
      have H1 : (some (0, 0, (⟨#[]⟩ : ByteArray), 0)) = some (r1, r2, r3, r4) := by rw [if_pos rfl] at H; exact H
      clear H
      have H := H1
      clear H1
      simp only [Option.some.injEq, Prod.mk.injEq] at H
      obtain ⟨rfl, rfl, rfl, rfl⟩ := H
      have hnb34 := NB164_162.out
      have hnc34 := NB162_164.out
      have hnb35 := NB164_163.out
      have hnc35 := NB163_164.out
      obtain ⟨hcz36_0, hcz36_1, hcz36_2⟩ := bkC3 BK164.out
      obtain ⟨hfz36_0, hfz36_1, hfz36_2⟩ := bkF3 BK164.out
      go_wp2
      refine bodyPost_ret (results_ct rfl _ _ gb164 23 #[.int .i64 0, .int .i64 0, .string (⟨#[]⟩ : ByteArray)] (0, 0) _ rfl (by refine blk_put (cs := #[.int .i64 0, .int .i64 0, .string (⟨#[]⟩ : ByteArray)]) ?_ 2 _ rfl; refine blk_put (cs := #[.int .i64 0, .int .i64 0, .string (⟨#[]⟩ : ByteArray)]) ?_ 1 _ rfl; refine blk_put (cs := #[.int .i64 0, .int .i64 0, .string (⟨#[]⟩ : ByteArray)]) ?_ 0 _ rfl; exact BK164.out) Tryz.underlying23 rfl (by kernel_rfl)) rfl ?_
      exact ⟨by first | rfl | (simp [errW_none, errW_some] <;> rfl) | (simp [*, errW_none, errW_some] <;> rfl), by repeat (first | (with_reducible first | exact HB.out | apply blA | apply pbN | apply blD | refine blS ?_ GE162.out | refine blS ?_ GE163.out | refine blS ?_ GE164.out) | exact HB.out)⟩
     ·replace c33 := Bool.eq_false_iff.mpr c33
      subst c33
      have H1 : ((value_truth.f (!a0)).bind fun bt179 => (some (bt179.1, bt179.2.1, bt179.2.2, 0))) = some (r1, r2, r3, r4) := by rw [if_neg (show ¬ (false = true) by decide)] at H; exact H
      clear H
      have H := H1
      clear H1
      replace H := Option.bind_eq_some_iff.mp H
      obtain ⟨⟨t179, t180, t181⟩, A370, H⟩ := H
      replace H : (some (t179, t180, t181, 0)) = some (r1, r2, r3, r4) := H
      have A37 := Asd.mk A370
      clear A370
      simp only [Option.some.injEq, Prod.mk.injEq] at H
      obtain ⟨rfl, rfl, rfl, rfl⟩ := H
      go_wp2_with (first | ((with_reducible refine gate_callee (f := 64) rfl ?_); refine goesL_ (some 40) rfl rfl Tryz.func64 (by kernel_rfl) rfl #[.bool (!a0)] rfl (by (try simp only [List.map_toArray, List.map_cons, List.map_nil]); first | done | rfl | (simp only [List.length_drop, List.length_take]; rfl)) ?_; (with_reducible refine (value_truth.calls (!a0) t179 t180 t181 _ A37.out).mono ?_); rintro e w38 ⟨rfl, hb⟩; refine ⟨_, rfl, ?_⟩; replace BK162 := Asd.mk (bB hb BK162.out); replace BK163 := Asd.mk (bB hb BK163.out); replace BK164 := Asd.mk (bB hb BK164.out); replace HB := Asd.mk (bS hb HB.out); clear hb; have hnb39 := NB164_162.out; have hnc39 := NB162_164.out; have hnb40 := NB164_163.out; have hnc40 := NB163_164.out; obtain ⟨hcz41_0, hcz41_1, hcz41_2⟩ := bkC3 BK164.out; obtain ⟨hfz41_0, hfz41_1, hfz41_2⟩ := bkF3 BK164.out))
      refine bodyPost_ret (results_ct rfl _ _ gb164 23 #[.int .i64 t179, .int .i64 t180, .string t181] (0, 0) _ rfl (by refine blk_put (cs := #[.int .i64 t179, .int .i64 t180, .string (⟨#[]⟩ : ByteArray)]) ?_ 2 _ rfl; refine blk_put (cs := #[.int .i64 t179, .int .i64 0, .string (⟨#[]⟩ : ByteArray)]) ?_ 1 _ rfl; refine blk_put (cs := #[.int .i64 0, .int .i64 0, .string (⟨#[]⟩ : ByteArray)]) ?_ 0 _ rfl; exact BK164.out) Tryz.underlying23 rfl (by kernel_rfl)) rfl ?_
      exact ⟨by first | rfl | (simp [errW_none, errW_some] <;> rfl) | (simp [*, errW_none, errW_some] <;> rfl), by repeat (first | (with_reducible first | exact HB.out | apply blA | apply pbN | apply blD | refine blS ?_ GE162.out | refine blS ?_ GE163.out | refine blS ?_ GE164.out) | exact HB.out)⟩
 ·rw [if_neg c5] at H
  have c5b0 : (t168 == 0) = false := beq_eq_false_iff_ne.mpr c5
  have c5b1 : (t168 != 0) = true := bne_iff_ne.mpr c5
  simp only [Option.some.injEq, Prod.mk.injEq] at H
  obtain ⟨rfl, rfl, rfl, rfl⟩ := H
  go_enter Tryz.func63, Tryz.ntmps63
  go_wp2_with (first | ((with_reducible refine gate_dst (N := 4) rfl ?_); refine box_event rfl (N := 4) rfl (cs := #[.int .i64 a1_0, .int .i64 a1_1, .string a1_2]) (t := 23) (by first | (go_simp; done) | (go_simp; rfl)) ?_; intro gb162 hg w42 hbox hb; have BK162 := Asd.mk (hbox); have GW162 := Asd.mk (bZ hg HB.out); have GE162 := GW162; replace HB := Asd.mk (bS hb HB.out); clear hb hbox hg) | ((with_reducible refine gate_dst (N := 5) rfl ?_); refine box_event rfl (N := 5) rfl (cs := #[.int .i64 a2_0, .int .i64 a2_1, .string a2_2]) (t := 23) (by first | (go_simp; done) | (go_simp; rfl)) ?_; intro gb163 hg w43 hbox hb; have BK163 := Asd.mk (hbox); have GW163 := Asd.mk (bZ hg HB.out); have GE163 := GW163; have NB162_163 := Asd.mk (bL hg BK162.out); have NB163_162 := Asd.mk (bG hg BK162.out); replace BK162 := Asd.mk (bB hb BK162.out); replace HB := Asd.mk (bS hb HB.out); clear hb hbox hg) | ((with_reducible refine gate_dst (N := 6) rfl ?_); refine box_event rfl (N := 6) rfl (cs := #[.int .i64 0, .int .i64 0, .string (⟨#[]⟩ : ByteArray)]) (t := 23) (by first | (go_simp; done) | (go_simp; rfl)) ?_; intro gb164 hg w44 hbox hb; have BK164 := Asd.mk (hbox); have GW164 := Asd.mk (bZ hg HB.out); have GE164 := GW164; have NB162_164 := Asd.mk (bL hg BK162.out); have NB164_162 := Asd.mk (bG hg BK162.out); have NB163_164 := Asd.mk (bL hg BK163.out); have NB164_163 := Asd.mk (bG hg BK163.out); replace BK162 := Asd.mk (bB hb BK162.out); replace BK163 := Asd.mk (bB hb BK163.out); replace HB := Asd.mk (bS hb HB.out); clear hb hbox hg; have hnb45 := NB162_163.out; have hnc45 := NB163_162.out; have hnb46 := NB162_164.out; have hnc46 := NB164_162.out; obtain ⟨hcz47_0, hcz47_1, hcz47_2⟩ := bkC3 BK162.out; obtain ⟨hfz47_0, hfz47_1, hfz47_2⟩ := bkF3 BK162.out; have hnb48 := NB163_164.out; have hnc48 := NB164_163.out; obtain ⟨hcz49_0, hcz49_1, hcz49_2⟩ := bkC3 BK163.out; obtain ⟨hfz49_0, hfz49_1, hfz49_2⟩ := bkF3 BK163.out) | ((with_reducible refine gate_dst (N := 13) rfl ?_); refine Kd.R_lit k23 _ 23 ?hg (N := 13) ?hd (xs := ([(⟨a1_0, a1_1, a1_2⟩ : S23), (⟨a2_0, a2_1, a2_2⟩ : S23)] : List (S23))) (inner := [.int .i64 a1_0, .int .i64 a1_1, .string a1_2, .int .i64 a2_0, .int .i64 a2_1, .string a2_2]) (ok := fun _ => True) (okp := fun _ => True) ?hr ?hp (fun _ hk => hk) trivial (Below.refl _ _) (Nat.le_refl _) (by simp) ?_; (case hd => rfl); (case hg => rfl); (case hr => first | (go_simp; done) | (go_simp; rfl)); (case hp => exact (Reps.c3 (show Kd.M k23 _ _ _ (⟨a1_0, a1_1, a1_2⟩ : S23) [.int .i64 a1_0, .int .i64 a1_1, .string a1_2] from (k23_mkM _ _ _ (⟨a1_0, a1_1, a1_2⟩ : S23) )) (Reps.c3 (show Kd.M k23 _ _ _ (⟨a2_0, a2_1, a2_2⟩ : S23) [.int .i64 a2_0, .int .i64 a2_1, .string a2_2] from (k23_mkM _ _ _ (⟨a2_0, a2_1, a2_2⟩ : S23) )) (Reps.none _ _)))); intro v166 w50 ho51 hb hg_ hnew_; clear hg_ hnew_; (first | rw [← Ny165.out] at ho51 | (simp only [Int.reduceToNat] at ho51; rw [← Ny165.out] at ho51)); have n0_ := Asd.mk (Kd.R_lower (Kd.R_newB (Kd.R_newB (Kd.R_newB ho51 (g := gb162) (o := .cells #[.int .i64 a1_0, .int .i64 a1_1, .string a1_2] 23 (0, 0)) (by exact BK162.out)) (g := gb163) (o := .cells #[.int .i64 a2_0, .int .i64 a2_1, .string a2_2] 23 (0, 0)) (by exact BK163.out)) (g := gb164) (o := .cells #[.int .i64 0, .int .i64 0, .string (⟨#[]⟩ : ByteArray)] 23 (0, 0)) (by exact BK164.out)) (below_size (by repeat (first | (with_reducible first | exact HB.out | apply blA | apply pbN | apply blD | refine blS ?_ GE162.out | refine blS ?_ GE163.out | refine blS ?_ GE164.out) | exact HB.out)))); have n1_ := Asd.mk (bB hb BK162.out); have n2_ := Asd.mk (bB hb BK163.out); have n3_ := Asd.mk (bB hb BK164.out); have n4_ := Asd.mk (bS hb HB.out); clear BK162; clear BK163; clear BK164; clear HB; have HO167 := n0_; have BK162 := n1_; have BK163 := n2_; have BK164 := n3_; have HB := n4_; clear n0_ n1_ n2_ n3_ n4_; clear hb ho51; obtain ⟨Ao52, co52, eo52⟩ := Kd.R_slice HO167.out; subst eo52) | ((with_reducible refine gate_callee (f := 59) rfl ?_); refine goesL_ (some 14) rfl rfl Tryz.func59 (by kernel_rfl) rfl #[.int .i64 2, .slice Ao52 y165.length co52] rfl (by (try simp only [List.map_toArray, List.map_cons, List.map_nil]); first | done | rfl | (simp only [List.length_drop, List.length_take]; rfl)) ?_; (with_reducible refine (value_null.calls k 2 _ _ y165 t168 t169 _ ?side1 ?side2 A4.out).mono ?_); (case side1 => repeat (first | exact (Kd.R_reads' HO167.out).2.2 | (with_reducible refine Kd.C_alloc ?_ _) | (with_reducible refine Kd.C_drewN ?_ _) | (with_reducible refine Kd.C_drew ?_))); (case side2 => exact (Kd.R_reads' HO167.out).2.1); rintro e w53 ⟨rfl, hb⟩; refine ⟨_, rfl, ?_⟩; have n0_ := Asd.mk (Kd.R_below (by (with_reducible repeat (first | apply Kd.R_alloc | apply Kd.R_drewN | apply Kd.R_drew)); exact HO167.out) hb); have n1_ := Asd.mk (bB hb BK162.out); have n2_ := Asd.mk (bB hb BK163.out); have n3_ := Asd.mk (bB hb BK164.out); have n4_ := Asd.mk (bS hb HB.out); clear HO167; clear BK162; clear BK163; clear BK164; clear HB; have HO167 := n0_; have BK162 := n1_; have BK163 := n2_; have BK164 := n3_; have HB := n4_; clear n0_ n1_ n2_ n3_ n4_; (try clear hb); (try clear hb2); (try clear hk); (try clear hi); obtain ⟨hcz54_0, hcz54_1, hcz54_2⟩ := bkC3 BK164.out; obtain ⟨hfz54_0, hfz54_1, hfz54_2⟩ := bkF3 BK164.out))
  refine bodyPost_ret (results_ct rfl _ _ gb164 23 #[.int .i64 0, .int .i64 0, .string (⟨#[]⟩ : ByteArray)] (0, 0) _ rfl (by refine blk_put (cs := #[.int .i64 0, .int .i64 0, .string (⟨#[]⟩ : ByteArray)]) ?_ 2 _ rfl; refine blk_put (cs := #[.int .i64 0, .int .i64 0, .string (⟨#[]⟩ : ByteArray)]) ?_ 1 _ rfl; refine blk_put (cs := #[.int .i64 0, .int .i64 0, .string (⟨#[]⟩ : ByteArray)]) ?_ 0 _ rfl; exact BK164.out) Tryz.underlying23 rfl (by kernel_rfl)) rfl ?_
  exact ⟨by first | rfl | (simp [errW_none, errW_some] <;> rfl) | (simp [*, errW_none, errW_some] <;> rfl), by repeat (first | (with_reducible first | exact HB.out | apply blA | apply pbN | apply blD | refine blS ?_ GE162.out | refine blS ?_ GE163.out | refine blS ?_ GE164.out) | exact HB.out)⟩
end Go.Proofs.YtpdhoghkoakojaaGreatDoor.E
namespace Go.Proofs.YtpdhoghkoakojaaGreatDoor.E
open Go.RowKit Go.Proofs.YtpdhoghkoakojaaGreatDoorW.PrintWords Go.Proofs.YtpdhoghkoakojaaGreatDoorW.PrintLast Go.Proofs.YtpdhoghkoakojaaGreatDoorW.PrintMore
attribute [local go_sem] max2_int min2_int max_two min_two max_three min_three max_four min_four   -- for this text's walks alone
set_option linter.unusedVariables false
set_option linter.unusedSimpArgs false
def value_And.f (k : Nat) (a0_0 : Int) (a0_1 : Int) (a0_2 : ByteArray) (a1_0 : Int) (a1_1 : Int) (a1_2 : ByteArray) : Option (Int × Int × ByteArray × Int) := (value_decided.f k false a0_0 a0_1 a0_2 a1_0 a1_1 a1_2).bind fun bt185 => (some (bt185.1, bt185.2.1, bt185.2.2.1, bt185.2.2.2))
set_option maxHeartbeats 8000000 in
set_option maxRecDepth 100000 in
theorem value_And.calls (k : Nat) (a0_0 : Int) (a0_1 : Int) (a0_2 : ByteArray) (a1_0 : Int) (a1_1 : Int) (a1_2 : ByteArray) (r1 : Int) (r2 : Int) (r3 : ByteArray) (r4 : Int) (w : World) (h : value_And.f k a0_0 a0_1 a0_2 a1_0 a1_1 a1_2 = some (r1, r2, r3, r4)) :
  Calls Tryz.prog 41 #[.agg #[.int .i64 a0_0, .int .i64 a0_1, .string a0_2], .agg #[.int .i64 a1_0, .int .i64 a1_1, .string a1_2]] w fun e w' => e = .returned (.tuple #[.agg #[.int .i64 r1, .int .i64 r2, .string r3], .int .i64 r4]) ∧ Below w.heap.size w w' := by
 have hu23 := Tryz.underlying23
 have HB := Asd.mk (Below.refl w.heap.size w)
 have H : ((value_decided.f k false a0_0 a0_1 a0_2 a1_0 a1_1 a1_2).bind fun bt185 => (some (bt185.1, bt185.2.1, bt185.2.2.1, bt185.2.2.2))) = some (r1, r2, r3, r4) := h
 clear h
 replace H := Option.bind_eq_some_iff.mp H
 obtain ⟨⟨t185, t186, t187, t188⟩, A30, H⟩ := H
 replace H : (some (t185, t186, t187, t188)) = some (r1, r2, r3, r4) := H
 have A3 := Asd.mk A30
 clear A30
 simp only [Option.some.injEq, Prod.mk.injEq] at H
 obtain ⟨rfl, rfl, rfl, rfl⟩ := H
 go_enter Tryz.func41, Tryz.ntmps41
 go_wp2_with (first | ((with_reducible refine gate_dst (N := 2) rfl ?_); refine box_event rfl (N := 2) rfl (cs := #[.int .i64 a0_0, .int .i64 a0_1, .string a0_2]) (t := 23) (by first | (go_simp; done) | (go_simp; rfl)) ?_; intro gb182 hg w4 hbox hb; have BK182 := Asd.mk (hbox); have GW182 := Asd.mk (bZ hg HB.out); have GE182 := GW182; replace HB := Asd.mk (bS hb HB.out); clear hb hbox hg) | ((with_reducible refine gate_dst (N := 3) rfl ?_); refine box_event rfl (N := 3) rfl (cs := #[.int .i64 a1_0, .int .i64 a1_1, .string a1_2]) (t := 23) (by first | (go_simp; done) | (go_simp; rfl)) ?_; intro gb183 hg w5 hbox hb; have BK183 := Asd.mk (hbox); have GW183 := Asd.mk (bZ hg HB.out); have GE183 := GW183; have NB182_183 := Asd.mk (bL hg BK182.out); have NB183_182 := Asd.mk (bG hg BK182.out); replace BK182 := Asd.mk (bB hb BK182.out); replace HB := Asd.mk (bS hb HB.out); clear hb hbox hg) | ((with_reducible refine gate_dst (N := 4) rfl ?_); refine box_event rfl (N := 4) rfl (cs := #[.int .i64 0, .int .i64 0, .string (⟨#[]⟩ : ByteArray)]) (t := 23) (by first | (go_simp; done) | (go_simp; rfl)) ?_; intro gb184 hg w6 hbox hb; have BK184 := Asd.mk (hbox); have GW184 := Asd.mk (bZ hg HB.out); have GE184 := GW184; have NB182_184 := Asd.mk (bL hg BK182.out); have NB184_182 := Asd.mk (bG hg BK182.out); have NB183_184 := Asd.mk (bL hg BK183.out); have NB184_183 := Asd.mk (bG hg BK183.out); replace BK182 := Asd.mk (bB hb BK182.out); replace BK183 := Asd.mk (bB hb BK183.out); replace HB := Asd.mk (bS hb HB.out); clear hb hbox hg; have hnb7 := NB182_183.out; have hnc7 := NB183_182.out; have hnb8 := NB182_184.out; have hnc8 := NB184_182.out; obtain ⟨hcz9_0, hcz9_1, hcz9_2⟩ := bkC3 BK182.out; obtain ⟨hfz9_0, hfz9_1, hfz9_2⟩ := bkF3 BK182.out; have hnb10 := NB183_184.out; have hnc10 := NB184_183.out; obtain ⟨hcz11_0, hcz11_1, hcz11_2⟩ := bkC3 BK183.out; obtain ⟨hfz11_0, hfz11_1, hfz11_2⟩ := bkF3 BK183.out) | ((with_reducible refine gate_callee (f := 63) rfl ?_); refine goesL_ (some 8) rfl rfl Tryz.func63 (by kernel_rfl) rfl #[.bool false, .agg #[.int .i64 a0_0, .int .i64 a0_1, .string a0_2], .agg #[.int .i64 a1_0, .int .i64 a1_1, .string a1_2]] rfl (by (try simp only [List.map_toArray, List.map_cons, List.map_nil]); first | done | rfl | (simp only [List.length_drop, List.length_take]; rfl)) ?_; (with_reducible refine (value_decided.calls k false a0_0 a0_1 a0_2 a1_0 a1_1 a1_2 t185 t186 t187 t188 _ A3.out).mono ?_); rintro e w12 ⟨rfl, hb⟩; refine ⟨_, rfl, ?_⟩; replace BK182 := Asd.mk (bB hb BK182.out); replace BK183 := Asd.mk (bB hb BK183.out); replace BK184 := Asd.mk (bB hb BK184.out); replace HB := Asd.mk (bS hb HB.out); clear hb; obtain ⟨hcz13_0, hcz13_1, hcz13_2⟩ := bkC3 BK184.out; obtain ⟨hfz13_0, hfz13_1, hfz13_2⟩ := bkF3 BK184.out))
 refine bodyPost_ret (results_ct rfl _ _ gb184 23 #[.int .i64 t185, .int .i64 t186, .string t187] (0, 0) _ rfl (by refine blk_put (cs := #[.int .i64 t185, .int .i64 t186, .string (⟨#[]⟩ : ByteArray)]) ?_ 2 _ rfl; refine blk_put (cs := #[.int .i64 t185, .int .i64 0, .string (⟨#[]⟩ : ByteArray)]) ?_ 1 _ rfl; refine blk_put (cs := #[.int .i64 0, .int .i64 0, .string (⟨#[]⟩ : ByteArray)]) ?_ 0 _ rfl; exact BK184.out) Tryz.underlying23 rfl (by kernel_rfl)) rfl ?_
 exact ⟨by first | rfl | (simp [errW_none, errW_some] <;> rfl) | (simp [*, errW_none, errW_some] <;> rfl), by repeat (first | (with_reducible first | exact HB.out | apply blA | apply pbN | apply blD | refine blS ?_ GE182.out | refine blS ?_ GE183.out | refine blS ?_ GE184.out) | exact HB.out)⟩
def value_Or.f (k : Nat) (a0_0 : Int) (a0_1 : Int) (a0_2 : ByteArray) (a1_0 : Int) (a1_1 : Int) (a1_2 : ByteArray) : Option (Int × Int × ByteArray × Int) := (value_decided.f k true a0_0 a0_1 a0_2 a1_0 a1_1 a1_2).bind fun bt192 => (some (bt192.1, bt192.2.1, bt192.2.2.1, bt192.2.2.2))
set_option maxHeartbeats 8000000 in
set_option maxRecDepth 100000 in
theorem value_Or.calls (k : Nat) (a0_0 : Int) (a0_1 : Int) (a0_2 : ByteArray) (a1_0 : Int) (a1_1 : Int) (a1_2 : ByteArray) (r1 : Int) (r2 : Int) (r3 : ByteArray) (r4 : Int) (w : World) (h : value_Or.f k a0_0 a0_1 a0_2 a1_0 a1_1 a1_2 = some (r1, r2, r3, r4)) :
  Calls Tryz.prog 42 #[.agg #[.int .i64 a0_0, .int .i64 a0_1, .string a0_2], .agg #[.int .i64 a1_0, .int .i64 a1_1, .string a1_2]] w fun e w' => e = .returned (.tuple #[.agg #[.int .i64 r1, .int .i64 r2, .string r3], .int .i64 r4]) ∧ Below w.heap.size w w' := by
 have hu23 := Tryz.underlying23
 have HB := Asd.mk (Below.refl w.heap.size w)
 have H : ((value_decided.f k true a0_0 a0_1 a0_2 a1_0 a1_1 a1_2).bind fun bt192 => (some (bt192.1, bt192.2.1, bt192.2.2.1, bt192.2.2.2))) = some (r1, r2, r3, r4) := h
 clear h
 replace H := Option.bind_eq_some_iff.mp H
 obtain ⟨⟨t192, t193, t194, t195⟩, A30, H⟩ := H
 replace H : (some (t192, t193, t194, t195)) = some (r1, r2, r3, r4) := H
 have A3 := Asd.mk A30
 clear A30
 simp only [Option.some.injEq, Prod.mk.injEq] at H
 obtain ⟨rfl, rfl, rfl, rfl⟩ := H
 go_enter Tryz.func42, Tryz.ntmps42
 go_wp2_with (first | ((with_reducible refine gate_dst (N := 2) rfl ?_); refine box_event rfl (N := 2) rfl (cs := #[.int .i64 a0_0, .int .i64 a0_1, .string a0_2]) (t := 23) (by first | (go_simp; done) | (go_simp; rfl)) ?_; intro gb189 hg w4 hbox hb; have BK189 := Asd.mk (hbox); have GW189 := Asd.mk (bZ hg HB.out); have GE189 := GW189; replace HB := Asd.mk (bS hb HB.out); clear hb hbox hg) | ((with_reducible refine gate_dst (N := 3) rfl ?_); refine box_event rfl (N := 3) rfl (cs := #[.int .i64 a1_0, .int .i64 a1_1, .string a1_2]) (t := 23) (by first | (go_simp; done) | (go_simp; rfl)) ?_; intro gb190 hg w5 hbox hb; have BK190 := Asd.mk (hbox); have GW190 := Asd.mk (bZ hg HB.out); have GE190 := GW190; have NB189_190 := Asd.mk (bL hg BK189.out); have NB190_189 := Asd.mk (bG hg BK189.out); replace BK189 := Asd.mk (bB hb BK189.out); replace HB := Asd.mk (bS hb HB.out); clear hb hbox hg) | ((with_reducible refine gate_dst (N := 4) rfl ?_); refine box_event rfl (N := 4) rfl (cs := #[.int .i64 0, .int .i64 0, .string (⟨#[]⟩ : ByteArray)]) (t := 23) (by first | (go_simp; done) | (go_simp; rfl)) ?_; intro gb191 hg w6 hbox hb; have BK191 := Asd.mk (hbox); have GW191 := Asd.mk (bZ hg HB.out); have GE191 := GW191; have NB189_191 := Asd.mk (bL hg BK189.out); have NB191_189 := Asd.mk (bG hg BK189.out); have NB190_191 := Asd.mk (bL hg BK190.out); have NB191_190 := Asd.mk (bG hg BK190.out); replace BK189 := Asd.mk (bB hb BK189.out); replace BK190 := Asd.mk (bB hb BK190.out); replace HB := Asd.mk (bS hb HB.out); clear hb hbox hg; have hnb7 := NB189_190.out; have hnc7 := NB190_189.out; have hnb8 := NB189_191.out; have hnc8 := NB191_189.out; obtain ⟨hcz9_0, hcz9_1, hcz9_2⟩ := bkC3 BK189.out; obtain ⟨hfz9_0, hfz9_1, hfz9_2⟩ := bkF3 BK189.out; have hnb10 := NB190_191.out; have hnc10 := NB191_190.out; obtain ⟨hcz11_0, hcz11_1, hcz11_2⟩ := bkC3 BK190.out; obtain ⟨hfz11_0, hfz11_1, hfz11_2⟩ := bkF3 BK190.out) | ((with_reducible refine gate_callee (f := 63) rfl ?_); refine goesL_ (some 8) rfl rfl Tryz.func63 (by kernel_rfl) rfl #[.bool true, .agg #[.int .i64 a0_0, .int .i64 a0_1, .string a0_2], .agg #[.int .i64 a1_0, .int .i64 a1_1, .string a1_2]] rfl (by (try simp only [List.map_toArray, List.map_cons, List.map_nil]); first | done | rfl | (simp only [List.length_drop, List.length_take]; rfl)) ?_; (with_reducible refine (value_decided.calls k true a0_0 a0_1 a0_2 a1_0 a1_1 a1_2 t192 t193 t194 t195 _ A3.out).mono ?_); rintro e w12 ⟨rfl, hb⟩; refine ⟨_, rfl, ?_⟩; replace BK189 := Asd.mk (bB hb BK189.out); replace BK190 := Asd.mk (bB hb BK190.out); replace BK191 := Asd.mk (bB hb BK191.out); replace HB := Asd.mk (bS hb HB.out); clear hb; obtain ⟨hcz13_0, hcz13_1, hcz13_2⟩ := bkC3 BK191.out; obtain ⟨hfz13_0, hfz13_1, hfz13_2⟩ := bkF3 BK191.out))
 refine bodyPost_ret (results_ct rfl _ _ gb191 23 #[.int .i64 t192, .int .i64 t193, .string t194] (0, 0) _ rfl (by refine blk_put (cs := #[.int .i64 t192, .int .i64 t193, .string (⟨#[]⟩ : ByteArray)]) ?_ 2 _ rfl; refine blk_put (cs := #[.int .i64 t192, .int .i64 0, .string (⟨#[]⟩ : ByteArray)]) ?_ 1 _ rfl; refine blk_put (cs := #[.int .i64 0, .int .i64 0, .string (⟨#[]⟩ : ByteArray)]) ?_ 0 _ rfl; exact BK191.out) Tryz.underlying23 rfl (by kernel_rfl)) rfl ?_
 exact ⟨by first | rfl | (simp [errW_none, errW_some] <;> rfl) | (simp [*, errW_none, errW_some] <;> rfl), by repeat (first | (with_reducible first | exact HB.out | apply blA | apply pbN | apply blD | refine blS ?_ GE189.out | refine blS ?_ GE190.out | refine blS ?_ GE191.out) | exact HB.out)⟩
end Go.Proofs.YtpdhoghkoakojaaGreatDoor.E
