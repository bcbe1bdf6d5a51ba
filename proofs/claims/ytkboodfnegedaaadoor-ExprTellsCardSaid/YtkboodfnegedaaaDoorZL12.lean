/- Contracts and plain lemmas of the functions that the law reaches, part 12. -/
import Derived.Test.YtkboodfnegedaaaDoorZL3
import Derived.Test.YtkboodfnegedaaaDoorZL5
namespace Go.Proofs.YtkboodfnegedaaaDoor.E
open Go.RowKit Go.Proofs.YtkboodfnegedaaaDoorW.PrintWords Go.Proofs.YtkboodfnegedaaaDoorW.PrintLast Go.Proofs.YtkboodfnegedaaaDoorW.PrintMore
attribute [local go_sem] max2_int min2_int max_two min_two max_three min_three max_four min_four   -- for this text's walks alone
set_option linter.unusedVariables false
set_option linter.unusedSimpArgs false
attribute [local go_sem high] eqA23
def value_decided.j0 : Nat → Bool → Bool → Bool → Option (Int × Int × ByteArray × Int)
 | 0, _, _, _ => none
 | k + 1, x0, x9, x22 => if x22 = true then ((value_truth.f x0).bind fun bt181 => (some (bt181.1, bt181.2.1, bt181.2.2, 0))) else (if x9 = true then (some (0, 0, (⟨#[]⟩ : ByteArray), 0)) else ((value_truth.f (!x0)).bind fun bt184 => (some (bt184.1, bt184.2.1, bt184.2.2, 0))))
def value_decided.f (k : Nat) (a0 : Bool) (a1_0 : Int) (a1_1 : Int) (a1_2 : ByteArray) (a2_0 : Int) (a2_1 : Int) (a2_2 : ByteArray) : Option (Int × Int × ByteArray × Int) := (value_null.f k 2 (([(⟨a1_0, a1_1, a1_2⟩ : S23), (⟨a2_0, a2_1, a2_2⟩ : S23)] : List (S23)))).bind fun bt173 => (if bt173.1 = 0 then ((value_truth.f a0).bind fun bt175 => (if (a1_0 == bt175.1 && (a1_1 == bt175.2.1 && (a1_2.toList == bt175.2.2.toList))) = true then (value_decided.j0 k a0 bt173.2 true) else ((value_truth.f a0).bind fun bt178 => (value_decided.j0 k a0 bt173.2 (a2_0 == bt178.1 && (a2_1 == bt178.2.1 && (a2_2.toList == bt178.2.2.toList))))))) else (some (0, 0, (⟨#[]⟩ : ByteArray), bt173.1)))
def value_decided.T4 : Bool × List (List Nat × List Nat) := (true, [([], []), ([], []), ([1], [1]), ([0, 2], [0, 2]), ([3, 2], [3]), ([4], [4]), ([4], [4]), ([6, 4, 4], [4, 6]), ([5, 7, 4], [4, 5, 7]), ([4, 8], [4, 8]), ([9, 7], [9])])
def value_decided.B4 : List Nat := [0, 0, 2, 7, 15, 31, 31, 95, 255, 511, 1023]
theorem value_decided.tab4 : rtab .any (opsOf Tryd.f97 4) = value_decided.T4 := by kernel_rfl
theorem value_decided.bits4 : waitsOk value_decided.T4.2 value_decided.B4 = true := by kernel_rfl
set_option maxHeartbeats 8000000 in
set_option maxRecDepth 100000 in
theorem value_decided.calls (k : Nat) (a0 : Bool) (a1_0 : Int) (a1_1 : Int) (a1_2 : ByteArray) (a2_0 : Int) (a2_1 : Int) (a2_2 : ByteArray) (r1 : Int) (r2 : Int) (r3 : ByteArray) (r4 : Int) (w : World) (h : value_decided.f k a0 a1_0 a1_1 a1_2 a2_0 a2_1 a2_2 = some (r1, r2, r3, r4)) :
  Calls Tryd.prog 97 #[.bool a0, .agg #[.int .i64 a1_0, .int .i64 a1_1, .string a1_2], .agg #[.int .i64 a2_0, .int .i64 a2_1, .string a2_2]] w fun e w' => e = .returned (.tuple #[.agg #[.int .i64 r1, .int .i64 r2, .string r3], .int .i64 r4]) ∧ Below w.heap.size w w' := by
 have hu23 := Tryd.underlying23
 have HB := Asd.mk (Below.refl w.heap.size w)
 have H : ((value_null.f k 2 (([(⟨a1_0, a1_1, a1_2⟩ : S23), (⟨a2_0, a2_1, a2_2⟩ : S23)] : List (S23)))).bind fun bt173 => (if bt173.1 = 0 then ((value_truth.f a0).bind fun bt175 => (if (a1_0 == bt175.1 && (a1_1 == bt175.2.1 && (a1_2.toList == bt175.2.2.toList))) = true then (value_decided.j0 k a0 bt173.2 true) else ((value_truth.f a0).bind fun bt178 => (value_decided.j0 k a0 bt173.2 (a2_0 == bt178.1 && (a2_1 == bt178.2.1 && (a2_2.toList == bt178.2.2.toList))))))) else (some (0, 0, (⟨#[]⟩ : ByteArray), bt173.1)))) = some (r1, r2, r3, r4) := h
 clear h
 obtain ⟨y170, hy170⟩ : ∃ y_ : List (S23), y_ = (([(⟨a1_0, a1_1, a1_2⟩ : S23), (⟨a2_0, a2_1, a2_2⟩ : S23)] : List (S23))) := ⟨_, rfl⟩
 replace H : ((value_null.f k 2 y170).bind fun bt173 => (if bt173.1 = 0 then ((value_truth.f a0).bind fun bt175 => (if (a1_0 == bt175.1 && (a1_1 == bt175.2.1 && (a1_2.toList == bt175.2.2.toList))) = true then (value_decided.j0 k a0 bt173.2 true) else ((value_truth.f a0).bind fun bt178 => (value_decided.j0 k a0 bt173.2 (a2_0 == bt178.1 && (a2_1 == bt178.2.1 && (a2_2.toList == bt178.2.2.toList))))))) else (some (0, 0, (⟨#[]⟩ : ByteArray), bt173.1)))) = some (r1, r2, r3, r4) := by first | (rw [hy170]; with_reducible exact H) | (have H2_ := (Option.bind_some _ _).symm.trans H; rw [hy170]; with_reducible exact H2_) | (have H2_ := (Option.bind_some _ _).symm.trans H; with_reducible exact H2_) | with_reducible exact H | (rw [hy170]; exact H) | exact H
 have Ny170 := Asd.mk hy170
 clear hy170
 replace H := Option.bind_eq_some_iff.mp H
 obtain ⟨⟨t173, t174⟩, A40, H⟩ := H
 replace H : (if t173 = 0 then ((value_truth.f a0).bind fun bt175 => (if (a1_0 == bt175.1 && (a1_1 == bt175.2.1 && (a1_2.toList == bt175.2.2.toList))) = true then (value_decided.j0 k a0 t174 true) else ((value_truth.f a0).bind fun bt178 => (value_decided.j0 k a0 t174 (a2_0 == bt178.1 && (a2_1 == bt178.2.1 && (a2_2.toList == bt178.2.2.toList))))))) else (some (0, 0, (⟨#[]⟩ : ByteArray), t173))) = some (r1, r2, r3, r4) := H
 have A4 := Asd.mk A40
 clear A40
 by_cases c5 : t173 = 0
 ·rw [if_pos c5] at H
  have c5b0 : (t173 == 0) = true := beq_iff_eq.mpr c5
  have c5b1 : (t173 != 0) = false := bne_eq_false_iff_eq.mpr c5
  clear c5
  have HC6 := Asd.mk H
  clear H
  go_enter Tryd.func97, Tryd.ntmps97
  go_upto_region 4 with (first | ((with_reducible refine gate_dst (N := 4) rfl ?_); refine box_event rfl (N := 4) rfl (cs := #[.int .i64 a1_0, .int .i64 a1_1, .string a1_2]) (t := 23) (by first | (go_simp; done) | (go_simp; rfl)) ?_; intro gb167 hg w7 hbox hb; have BK167 := Asd.mk (hbox); have GW167 := Asd.mk (bZ hg HB.out); have GE167 := GW167; replace HB := Asd.mk (bS hb HB.out); clear hb hbox hg) | ((with_reducible refine gate_dst (N := 5) rfl ?_); refine box_event rfl (N := 5) rfl (cs := #[.int .i64 a2_0, .int .i64 a2_1, .string a2_2]) (t := 23) (by first | (go_simp; done) | (go_simp; rfl)) ?_; intro gb168 hg w8 hbox hb; have BK168 := Asd.mk (hbox); have GW168 := Asd.mk (bZ hg HB.out); have GE168 := GW168; have NB167_168 := Asd.mk (bL hg BK167.out); have NB168_167 := Asd.mk (bG hg BK167.out); replace BK167 := Asd.mk (bB hb BK167.out); replace HB := Asd.mk (bS hb HB.out); clear hb hbox hg) | ((with_reducible refine gate_dst (N := 6) rfl ?_); refine box_event rfl (N := 6) rfl (cs := #[.int .i64 0, .int .i64 0, .string (⟨#[]⟩ : ByteArray)]) (t := 23) (by first | (go_simp; done) | (go_simp; rfl)) ?_; intro gb169 hg w9 hbox hb; have BK169 := Asd.mk (hbox); have GW169 := Asd.mk (bZ hg HB.out); have GE169 := GW169; have NB167_169 := Asd.mk (bL hg BK167.out); have NB169_167 := Asd.mk (bG hg BK167.out); have NB168_169 := Asd.mk (bL hg BK168.out); have NB169_168 := Asd.mk (bG hg BK168.out); replace BK167 := Asd.mk (bB hb BK167.out); replace BK168 := Asd.mk (bB hb BK168.out); replace HB := Asd.mk (bS hb HB.out); clear hb hbox hg; have hnb10 := NB167_168.out; have hnc10 := NB168_167.out; have hnb11 := NB167_169.out; have hnc11 := NB169_167.out; obtain ⟨hcz12_0, hcz12_1, hcz12_2⟩ := bkC3 BK167.out; obtain ⟨hfz12_0, hfz12_1, hfz12_2⟩ := bkF3 BK167.out; have hnb13 := NB168_169.out; have hnc13 := NB169_168.out; obtain ⟨hcz14_0, hcz14_1, hcz14_2⟩ := bkC3 BK168.out; obtain ⟨hfz14_0, hfz14_1, hfz14_2⟩ := bkF3 BK168.out) | ((with_reducible refine gate_dst (N := 13) rfl ?_); refine Kd.R_lit k23 _ 23 ?hg (N := 13) ?hd (xs := ([(⟨a1_0, a1_1, a1_2⟩ : S23), (⟨a2_0, a2_1, a2_2⟩ : S23)] : List (S23))) (inner := [.int .i64 a1_0, .int .i64 a1_1, .string a1_2, .int .i64 a2_0, .int .i64 a2_1, .string a2_2]) (ok := fun _ => True) (okp := fun _ => True) ?hr ?hp (fun _ hk => hk) trivial (Below.refl _ _) (Nat.le_refl _) (by simp) ?_; (case hd => rfl); (case hg => rfl); (case hr => first | (go_simp; done) | (go_simp; rfl)); (case hp => exact (Reps.c3 (show Kd.M k23 _ _ _ (⟨a1_0, a1_1, a1_2⟩ : S23) [.int .i64 a1_0, .int .i64 a1_1, .string a1_2] from (k23_mkM _ _ _ (⟨a1_0, a1_1, a1_2⟩ : S23) )) (Reps.c3 (show Kd.M k23 _ _ _ (⟨a2_0, a2_1, a2_2⟩ : S23) [.int .i64 a2_0, .int .i64 a2_1, .string a2_2] from (k23_mkM _ _ _ (⟨a2_0, a2_1, a2_2⟩ : S23) )) (Reps.none _ _)))); intro v171 w15 ho16 hb hg_ hnew_; clear hg_ hnew_; (first | rw [← Ny170.out] at ho16 | (simp only [Int.reduceToNat] at ho16; rw [← Ny170.out] at ho16)); have n0_ := Asd.mk (Kd.R_lower (Kd.R_newB (Kd.R_newB (Kd.R_newB ho16 (g := gb167) (o := .cells #[.int .i64 a1_0, .int .i64 a1_1, .string a1_2] 23 (0, 0)) (by exact BK167.out)) (g := gb168) (o := .cells #[.int .i64 a2_0, .int .i64 a2_1, .string a2_2] 23 (0, 0)) (by exact BK168.out)) (g := gb169) (o := .cells #[.int .i64 0, .int .i64 0, .string (⟨#[]⟩ : ByteArray)] 23 (0, 0)) (by exact BK169.out)) (below_size (by repeat (first | (with_reducible first | exact HB.out | apply blA | apply pbN | apply blD | refine blS ?_ GE167.out | refine blS ?_ GE168.out | refine blS ?_ GE169.out) | exact HB.out)))); have n1_ := Asd.mk (bB hb BK167.out); have n2_ := Asd.mk (bB hb BK168.out); have n3_ := Asd.mk (bB hb BK169.out); have n4_ := Asd.mk (bS hb HB.out); clear BK167; clear BK168; clear BK169; clear HB; have HO172 := n0_; have BK167 := n1_; have BK168 := n2_; have BK169 := n3_; have HB := n4_; clear n0_ n1_ n2_ n3_ n4_; clear hb ho16; obtain ⟨Ao17, co17, eo17⟩ := Kd.R_slice HO172.out; subst eo17) | ((with_reducible refine gate_callee (f := 93) rfl ?_); refine goesL_ (some 14) rfl rfl Tryd.func93 (by kernel_rfl) rfl #[.int .i64 2, .slice Ao17 y170.length co17] rfl (by (try simp only [List.map_toArray, List.map_cons, List.map_nil]); first | done | rfl | (simp only [List.length_drop, List.length_take]; rfl)) ?_; (with_reducible refine (value_null.calls k 2 _ _ y170 t173 t174 _ ?side1 ?side2 A4.out).mono ?_); (case side1 => repeat (first | exact (Kd.R_reads' HO172.out).2.2 | (with_reducible refine Kd.C_alloc ?_ _) | (with_reducible refine Kd.C_drewN ?_ _) | (with_reducible refine Kd.C_drew ?_))); (case side2 => exact (Kd.R_reads' HO172.out).2.1); rintro e w18 ⟨rfl, hb⟩; refine ⟨_, rfl, ?_⟩; have n0_ := Asd.mk (Kd.R_below (by (with_reducible repeat (first | apply Kd.R_alloc | apply Kd.R_drewN | apply Kd.R_drew)); exact HO172.out) hb); have n1_ := Asd.mk (bB hb BK167.out); have n2_ := Asd.mk (bB hb BK168.out); have n3_ := Asd.mk (bB hb BK169.out); have n4_ := Asd.mk (bS hb HB.out); clear HO172; clear BK167; clear BK168; clear BK169; clear HB; have HO172 := n0_; have BK167 := n1_; have BK168 := n2_; have BK169 := n3_; have HB := n4_; clear n0_ n1_ n2_ n3_ n4_; (try clear hb); (try clear hb2); (try clear hk); (try clear hi)))
  (try simp only [Act.put, List.setIfInBounds_toArray, List.set_cons_zero, List.set_cons_succ])
  go_cut [22] (fun v22 wc => ∃ (kq : Nat) (x22_5 : Bool), v22 = .bool x22_5 ∧ Asd (value_decided.j0 kq a0 t174 x22_5 = some (r1, r2, r3, r4)) ∧ Asd (kq ≤ k) ∧ Asd (wc.heap[gb167]? = some (.cells #[.int .i64 a1_0, .int .i64 a1_1, .string a1_2] 23 (0, 0))) ∧ Asd (wc.heap[gb168]? = some (.cells #[.int .i64 a2_0, .int .i64 a2_1, .string a2_2] 23 (0, 0))) ∧ Asd (wc.heap[gb169]? = some (.cells #[.int .i64 0, .int .i64 0, .string (⟨#[]⟩ : ByteArray)] 23 (0, 0))) ∧ Asd (Below w.heap.size w wc))
  case first =>
   have H := HC6.out
   clear HC6
   replace H := Option.bind_eq_some_iff.mp H
   obtain ⟨⟨t175, t176, t177⟩, A190, H⟩ := H
   replace H : (if (a1_0 == t175 && (a1_1 == t176 && (a1_2.toList == t177.toList))) = true then (value_decided.j0 k a0 t174 true) else ((value_truth.f a0).bind fun bt178 => (value_decided.j0 k a0 t174 (a2_0 == bt178.1 && (a2_1 == bt178.2.1 && (a2_2.toList == bt178.2.2.toList)))))) = some (r1, r2, r3, r4) := H
   have A19 := Asd.mk A190
   clear A190
   by_cases c20 : (a1_0 == t175 && (a1_1 == t176 && (a1_2.toList == t177.toList))) = true
   ·rw [if_pos c20] at H
    have c20b0 : (a1_0 == t175 && (a1_1 == t176 && (a1_2.toList == t177.toList))) = true := c20
    (try (have c20b1 : decide (a1_0 = t175 && (a1_1 == t176 && (a1_2.toList == t177.toList))) = true := by simpa using c20))
    (try (have c20b2 : (a1_0 == t175 && (a1_1 == t176 && (a1_2.toList == t177.toList))) = true := by simpa using c20))
    clear c20
    (first | rw [c20b0] | (simp only [i64_w, i32_w]; rw [c20b0]) | skip)
    have H' := Asd.mk H
    clear H
    try go_wp2
    have n0_ := Asd.mk (Kd.R_drew HO172.out)
    have n1_ := Asd.mk (bkD BK167.out)
    have n2_ := Asd.mk (bkD BK168.out)
    have n3_ := Asd.mk (bkD BK169.out)
    have n4_ := Asd.mk (blD HB.out)
    clear HO172 BK167 BK168 BK169 HB
    have HO172 := n0_
    have BK167 := n1_
    have BK168 := n2_
    have BK169 := n3_
    have HB := n4_
    clear n0_ n1_ n2_ n3_ n4_
    refine start_ (n := 11) (S := fun w' => w'.cell? ⟨gb167, 0, none⟩ = some (.int .i64 a1_0) ∧ w'.cell? ⟨gb167, 1, none⟩ = some (.int .i64 a1_1) ∧ w'.cell? ⟨gb167, 2, none⟩ = some (.string a1_2)) (ds := []) #[false, false, false, false, false, false, false, false, false, false, false] (by kernel_rfl) rfl rfl ⟨(bkC BK167.out 0).trans rfl, (bkC BK167.out 1).trans rfl, (bkC BK167.out 2).trans rfl⟩ (fun hHeld => ?_); refine with_tabW value_decided.tab4 value_decided.bits4 (fun HT_ HW_ => ?_)
    generalize w18.drew = w21 at HO172 BK167 BK168 BK169 HB hHeld ⊢
    refine pure_ (i := 1) (N := some 24) (v := ?_) (a' := ?_) #[false, true, false, false, false, false, false, false, false, false, false] rfl rfl (any_of HT_.out (by kernel_rfl)) (fun _ _ _ h => h) (Or.inl ⟨by rfl, ?_⟩) ?_ ?_
    rotate_left
    ·intro w'
     go_simp
     with_reducible rfl
    rotate_left
    ·simp only [Act.put, List.setIfInBounds_toArray, List.set_cons_zero, List.set_cons_succ, i64_w, i32_w]
     rfl
    refine take_ (i := 0) (N := some 23) (v := ?_) (a' := ?_) #[true, true, false, false, false, false, false, false, false, false, false] rfl rfl (take_ofW HT_.out HW_.out (by kernel_rfl)) (fun _ _ _ h => h) (Or.inl ⟨by rfl, ?_⟩) hHeld ?_ ?_
    rotate_left
    ·rintro w' ⟨s0, s1, s2⟩
     go_simp
     with_reducible rfl
    rotate_left
    ·simp only [Act.put, List.setIfInBounds_toArray, List.set_cons_zero, List.set_cons_succ, i64_w, i32_w]
     rfl
    refine one_ (i := 2) (N := some 25) #[true, true, true, false, false, false, false, false, false, false, false] rfl rfl (one_of HT_.out (by kernel_rfl)) (by decide) (fun K hK => ?_)
    refine goes_ Tryd.func98 (by kernel_rfl) rfl #[.bool a0] (by rfl) rfl rfl (by (try simp only [List.map_toArray, List.map_cons, List.map_nil]); first | done | rfl | (simp only [List.length_drop, List.length_take]; rfl)) ?_
    with_reducible refine (value_truth.calls a0 t175 t176 t177 _ A19.out).mono ?_
    rintro e w22 ⟨rfl, hb⟩
    refine ⟨_, rfl, ?_⟩
    have n0_ := Asd.mk (Kd.R_below (by (with_reducible repeat (first | apply Kd.R_alloc | apply Kd.R_drewN | apply Kd.R_drew)); exact HO172.out) hb)
    have n1_ := Asd.mk (bB hb BK167.out)
    have n2_ := Asd.mk (bB hb BK168.out)
    have n3_ := Asd.mk (bB hb BK169.out)
    have n4_ := Asd.mk (bS hb HB.out)
    clear HO172 BK167 BK168 BK169 HB
    have HO172 := n0_
    have BK167 := n1_
    have BK168 := n2_
    have BK169 := n3_
    have HB := n4_
    clear n0_ n1_ n2_ n3_ n4_
    (try clear hb)
    (try clear hb2)
    (try clear hk)
    (try clear hi)
    refine hK.out _ _ ⟨(bkC BK167.out 0).trans rfl, (bkC BK167.out 1).trans rfl, (bkC BK167.out 2).trans rfl⟩ (fun hHeld => ?_)
    clear hK K
    refine norm_ (a' := ?_) ?_ ?_
    rotate_left
    ·show Act.put _ (some 25) _ = _
     simp only [Act.put, List.setIfInBounds_toArray, List.set_cons_zero, List.set_cons_succ, i64_w, i32_w]
     rfl
    refine pure_ (i := 3) (N := some 26) (v := ?_) (a' := ?_) #[true, true, true, true, false, false, false, false, false, false, false] rfl rfl (any_of HT_.out (by kernel_rfl)) (fun _ _ _ h => h) (Or.inl ⟨by rfl, ?_⟩) ?_ ?_
    rotate_left
    ·intro w'
     go_simp
     with_reducible rfl
    rotate_left
    ·simp only [Act.put, List.setIfInBounds_toArray, List.set_cons_zero, List.set_cons_succ, i64_w, i32_w]
     rfl
    refine pure_ (i := 4) (N := some 27) (v := ?_) (a' := ?_) #[true, true, true, true, true, false, false, false, false, false, false] rfl rfl (any_of HT_.out (by kernel_rfl)) (fun _ _ _ h => h) (Or.inl ⟨by rfl, ?_⟩) ?_ ?_
    rotate_left
    ·intro w'
     go_simp
     with_reducible rfl
    rotate_left
    ·simp only [Act.put, List.setIfInBounds_toArray, List.set_cons_zero, List.set_cons_succ, i64_w, i32_w]
     rfl
    refine pure_ (i := 5) (N := some 28) (v := undef) (a' := ?_) #[true, true, true, true, true, true, false, false, false, false, false] rfl rfl (any_of HT_.out (by kernel_rfl)) (fun _ _ _ h => h) (Or.inr ⟨by rfl, rfl⟩) ?_ ?_
    rotate_left
    ·simp only [Act.put, List.setIfInBounds_toArray, List.set_cons_zero, List.set_cons_succ, i64_w, i32_w]
     rfl
    refine pure_ (i := 6) (N := some 29) (v := undef) (a' := ?_) #[true, true, true, true, true, true, true, false, false, false, false] rfl rfl (any_of HT_.out (by kernel_rfl)) (fun _ _ _ h => h) (Or.inr ⟨by rfl, rfl⟩) ?_ ?_
    rotate_left
    ·simp only [Act.put, List.setIfInBounds_toArray, List.set_cons_zero, List.set_cons_succ, i64_w, i32_w]
     rfl
    refine pure_ (i := 7) (N := some 30) (v := undef) (a' := ?_) #[true, true, true, true, true, true, true, true, false, false, false] rfl rfl (any_of HT_.out (by kernel_rfl)) (fun _ _ _ h => h) (Or.inr ⟨by rfl, rfl⟩) ?_ ?_
    rotate_left
    ·simp only [Act.put, List.setIfInBounds_toArray, List.set_cons_zero, List.set_cons_succ, i64_w, i32_w]
     rfl
    refine pure_ (i := 8) (N := some 31) (v := undef) (a' := ?_) #[true, true, true, true, true, true, true, true, true, false, false] rfl rfl (any_of HT_.out (by kernel_rfl)) (fun _ _ _ h => h) (Or.inr ⟨by rfl, rfl⟩) ?_ ?_
    rotate_left
    ·simp only [Act.put, List.setIfInBounds_toArray, List.set_cons_zero, List.set_cons_succ, i64_w, i32_w]
     rfl
    refine pure_ (i := 9) (N := some 32) (v := ?_) (a' := ?_) #[true, true, true, true, true, true, true, true, true, true, false] rfl rfl (any_of HT_.out (by kernel_rfl)) (fun _ _ _ h => h) (Or.inl ⟨by rfl, ?_⟩) ?_ ?_
    rotate_left
    ·intro w'
     go_simp
     with_reducible rfl
    rotate_left
    ·simp only [Act.put, List.setIfInBounds_toArray, List.set_cons_zero, List.set_cons_succ, i64_w, i32_w]
     rfl
    refine pure_ (i := 10) (N := some 22) (v := ?_) (a' := ?_) #[true, true, true, true, true, true, true, true, true, true, true] rfl rfl (any_of HT_.out (by kernel_rfl)) (fun _ _ _ h => h) (Or.inl ⟨by rfl, ?_⟩) ?_ ?_
    rotate_left
    ·intro w'
     go_simp
     with_reducible rfl
    rotate_left
    ·simp only [Act.put, List.setIfInBounds_toArray, List.set_cons_zero, List.set_cons_succ, i64_w, i32_w]
     rfl
    refine done_ (done_of HT_.out (by kernel_rfl)) ?_
    try go_wp2
    go_meet
    case rel => exact ⟨_, (true), (by first | rfl | (simp; done) | (simp [*]; done)), H', ⟨by first | omega | exact Nat.le_refl _⟩, ⟨by exact BK167.out⟩, ⟨by exact BK168.out⟩, ⟨by exact BK169.out⟩, ⟨by repeat (first | (with_reducible first | exact HB.out | apply blA | apply pbN | apply blD | refine blS ?_ GE167.out | refine blS ?_ GE168.out | refine blS ?_ GE169.out) | exact HB.out)⟩⟩
   ·rw [if_neg c20] at H
    have c20b0 : (a1_0 == t175 && (a1_1 == t176 && (a1_2.toList == t177.toList))) = false := by simpa using c20
    (try (have c20b1 : decide (a1_0 = t175 && (a1_1 == t176 && (a1_2.toList == t177.toList))) = false := by simpa using c20))
    (try (have c20b2 : (a1_0 == t175 && (a1_1 == t176 && (a1_2.toList == t177.toList))) = false := by simpa using c20))
    (try (have c20b3 : ¬ (a1_0 = t175 && (a1_1 == t176 && (a1_2.toList == t177.toList))) := by simpa using c20))
    clear c20
    (first | rw [c20b0] | (simp only [i64_w, i32_w]; rw [c20b0]) | skip)
    replace H := Option.bind_eq_some_iff.mp H
    obtain ⟨⟨t178, t179, t180⟩, A230, H⟩ := H
    replace H : (value_decided.j0 k a0 t174 (a2_0 == t178 && (a2_1 == t179 && (a2_2.toList == t180.toList)))) = some (r1, r2, r3, r4) := H
    have A23 := Asd.mk A230
    clear A230
    have H' := Asd.mk H
    clear H
    try go_wp2
    have n0_ := Asd.mk (Kd.R_drew HO172.out)
    have n1_ := Asd.mk (bkD BK167.out)
    have n2_ := Asd.mk (bkD BK168.out)
    have n3_ := Asd.mk (bkD BK169.out)
    have n4_ := Asd.mk (blD HB.out)
    clear HO172 BK167 BK168 BK169 HB
    have HO172 := n0_
    have BK167 := n1_
    have BK168 := n2_
    have BK169 := n3_
    have HB := n4_
    clear n0_ n1_ n2_ n3_ n4_
    refine start_ (n := 11) (S := fun w' => w'.cell? ⟨gb167, 0, none⟩ = some (.int .i64 a1_0) ∧ w'.cell? ⟨gb167, 1, none⟩ = some (.int .i64 a1_1) ∧ w'.cell? ⟨gb167, 2, none⟩ = some (.string a1_2) ∧ w'.cell? ⟨gb168, 0, none⟩ = some (.int .i64 a2_0) ∧ w'.cell? ⟨gb168, 1, none⟩ = some (.int .i64 a2_1) ∧ w'.cell? ⟨gb168, 2, none⟩ = some (.string a2_2)) (ds := []) #[false, false, false, false, false, false, false, false, false, false, false] (by kernel_rfl) rfl rfl ⟨(bkC BK167.out 0).trans rfl, (bkC BK167.out 1).trans rfl, (bkC BK167.out 2).trans rfl, (bkC BK168.out 0).trans rfl, (bkC BK168.out 1).trans rfl, (bkC BK168.out 2).trans rfl⟩ (fun hHeld => ?_); refine with_tabW value_decided.tab4 value_decided.bits4 (fun HT_ HW_ => ?_)
    generalize w18.drew = w24 at HO172 BK167 BK168 BK169 HB hHeld ⊢
    refine pure_ (i := 1) (N := some 24) (v := ?_) (a' := ?_) #[false, true, false, false, false, false, false, false, false, false, false] rfl rfl (any_of HT_.out (by kernel_rfl)) (fun _ _ _ h => h) (Or.inl ⟨by rfl, ?_⟩) ?_ ?_
    rotate_left
    ·intro w'
     go_simp
     with_reducible rfl
    rotate_left
    ·simp only [Act.put, List.setIfInBounds_toArray, List.set_cons_zero, List.set_cons_succ, i64_w, i32_w]
     rfl
    refine take_ (i := 0) (N := some 23) (v := ?_) (a' := ?_) #[true, true, false, false, false, false, false, false, false, false, false] rfl rfl (take_ofW HT_.out HW_.out (by kernel_rfl)) (fun _ _ _ h => h) (Or.inl ⟨by rfl, ?_⟩) hHeld ?_ ?_
    rotate_left
    ·rintro w' ⟨s0, s1, s2, s3, s4, s5⟩
     go_simp
     with_reducible rfl
    rotate_left
    ·simp only [Act.put, List.setIfInBounds_toArray, List.set_cons_zero, List.set_cons_succ, i64_w, i32_w]
     rfl
    refine one_ (i := 2) (N := some 25) #[true, true, true, false, false, false, false, false, false, false, false] rfl rfl (one_of HT_.out (by kernel_rfl)) (by decide) (fun K hK => ?_)
    refine goes_ Tryd.func98 (by kernel_rfl) rfl #[.bool a0] (by rfl) rfl rfl (by (try simp only [List.map_toArray, List.map_cons, List.map_nil]); first | done | rfl | (simp only [List.length_drop, List.length_take]; rfl)) ?_
    with_reducible refine (value_truth.calls a0 t175 t176 t177 _ A19.out).mono ?_
    rintro e w25 ⟨rfl, hb⟩
    refine ⟨_, rfl, ?_⟩
    have n0_ := Asd.mk (Kd.R_below (by (with_reducible repeat (first | apply Kd.R_alloc | apply Kd.R_drewN | apply Kd.R_drew)); exact HO172.out) hb)
    have n1_ := Asd.mk (bB hb BK167.out)
    have n2_ := Asd.mk (bB hb BK168.out)
    have n3_ := Asd.mk (bB hb BK169.out)
    have n4_ := Asd.mk (bS hb HB.out)
    clear HO172 BK167 BK168 BK169 HB
    have HO172 := n0_
    have BK167 := n1_
    have BK168 := n2_
    have BK169 := n3_
    have HB := n4_
    clear n0_ n1_ n2_ n3_ n4_
    (try clear hb)
    (try clear hb2)
    (try clear hk)
    (try clear hi)
    refine hK.out _ _ ⟨(bkC BK167.out 0).trans rfl, (bkC BK167.out 1).trans rfl, (bkC BK167.out 2).trans rfl, (bkC BK168.out 0).trans rfl, (bkC BK168.out 1).trans rfl, (bkC BK168.out 2).trans rfl⟩ (fun hHeld => ?_)
    clear hK K
    refine norm_ (a' := ?_) ?_ ?_
    rotate_left
    ·show Act.put _ (some 25) _ = _
     simp only [Act.put, List.setIfInBounds_toArray, List.set_cons_zero, List.set_cons_succ, i64_w, i32_w]
     rfl
    refine pure_ (i := 3) (N := some 26) (v := ?_) (a' := ?_) #[true, true, true, true, false, false, false, false, false, false, false] rfl rfl (any_of HT_.out (by kernel_rfl)) (fun _ _ _ h => h) (Or.inl ⟨by rfl, ?_⟩) ?_ ?_
    rotate_left
    ·intro w'
     go_simp
     with_reducible rfl
    rotate_left
    ·simp only [Act.put, List.setIfInBounds_toArray, List.set_cons_zero, List.set_cons_succ, i64_w, i32_w]
     rfl
    refine pure_ (i := 4) (N := some 27) (v := ?_) (a' := ?_) #[true, true, true, true, true, false, false, false, false, false, false] rfl rfl (any_of HT_.out (by kernel_rfl)) (fun _ _ _ h => h) (Or.inl ⟨by rfl, ?_⟩) ?_ ?_
    rotate_left
    ·intro w'
     go_simp
     with_reducible rfl
    rotate_left
    ·simp only [Act.put, List.setIfInBounds_toArray, List.set_cons_zero, List.set_cons_succ, i64_w, i32_w]
     rfl
    refine pure_ (i := 6) (N := some 29) (v := ?_) (a' := ?_) #[true, true, true, true, true, false, true, false, false, false, false] rfl rfl (any_of HT_.out (by kernel_rfl)) (fun _ _ _ h => h) (Or.inl ⟨by rfl, ?_⟩) ?_ ?_
    rotate_left
    ·intro w'
     go_simp
     with_reducible rfl
    rotate_left
    ·simp only [Act.put, List.setIfInBounds_toArray, List.set_cons_zero, List.set_cons_succ, i64_w, i32_w]
     rfl
    refine take_ (i := 5) (N := some 28) (v := ?_) (a' := ?_) #[true, true, true, true, true, true, true, false, false, false, false] rfl rfl (take_ofW HT_.out HW_.out (by kernel_rfl)) (fun _ _ _ h => h) (Or.inl ⟨by rfl, ?_⟩) hHeld ?_ ?_
    rotate_left
    ·rintro w' ⟨s0, s1, s2, s3, s4, s5⟩
     go_simp
     with_reducible rfl
    rotate_left
    ·simp only [Act.put, List.setIfInBounds_toArray, List.set_cons_zero, List.set_cons_succ, i64_w, i32_w]
     rfl
    refine one_ (i := 7) (N := some 30) #[true, true, true, true, true, true, true, true, false, false, false] rfl rfl (one_of HT_.out (by kernel_rfl)) (by decide) (fun K hK => ?_)
    refine goes_ Tryd.func98 (by kernel_rfl) rfl #[.bool a0] (by rfl) rfl rfl (by (try simp only [List.map_toArray, List.map_cons, List.map_nil]); first | done | rfl | (simp only [List.length_drop, List.length_take]; rfl)) ?_
    with_reducible refine (value_truth.calls a0 t178 t179 t180 _ A23.out).mono ?_
    rintro e w26 ⟨rfl, hb⟩
    refine ⟨_, rfl, ?_⟩
    have n0_ := Asd.mk (Kd.R_below (by (with_reducible repeat (first | apply Kd.R_alloc | apply Kd.R_drewN | apply Kd.R_drew)); exact HO172.out) hb)
    have n1_ := Asd.mk (bB hb BK167.out)
    have n2_ := Asd.mk (bB hb BK168.out)
    have n3_ := Asd.mk (bB hb BK169.out)
    have n4_ := Asd.mk (bS hb HB.out)
    clear HO172 BK167 BK168 BK169 HB
    have HO172 := n0_
    have BK167 := n1_
    have BK168 := n2_
    have BK169 := n3_
    have HB := n4_
    clear n0_ n1_ n2_ n3_ n4_
    (try clear hb)
    (try clear hb2)
    (try clear hk)
    (try clear hi)
    refine hK.out _ _ ⟨(bkC BK167.out 0).trans rfl, (bkC BK167.out 1).trans rfl, (bkC BK167.out 2).trans rfl, (bkC BK168.out 0).trans rfl, (bkC BK168.out 1).trans rfl, (bkC BK168.out 2).trans rfl⟩ (fun hHeld => ?_)
    clear hK K
    refine norm_ (a' := ?_) ?_ ?_
    rotate_left
    ·show Act.put _ (some 30) _ = _
     simp only [Act.put, List.setIfInBounds_toArray, List.set_cons_zero, List.set_cons_succ, i64_w, i32_w]
     rfl
    refine pure_ (i := 8) (N := some 31) (v := ?_) (a' := ?_) #[true, true, true, true, true, true, true, true, true, false, false] rfl rfl (any_of HT_.out (by kernel_rfl)) (fun _ _ _ h => h) (Or.inl ⟨by rfl, ?_⟩) ?_ ?_
    rotate_left
    ·intro w'
     go_simp
     with_reducible rfl
    rotate_left
    ·simp only [Act.put, List.setIfInBounds_toArray, List.set_cons_zero, List.set_cons_succ, i64_w, i32_w]
     rfl
    refine pure_ (i := 9) (N := some 32) (v := ?_) (a' := ?_) #[true, true, true, true, true, true, true, true, true, true, false] rfl rfl (any_of HT_.out (by kernel_rfl)) (fun _ _ _ h => h) (Or.inl ⟨by rfl, ?_⟩) ?_ ?_
    rotate_left
    ·intro w'
     go_simp
     with_reducible rfl
    rotate_left
    ·simp only [Act.put, List.setIfInBounds_toArray, List.set_cons_zero, List.set_cons_succ, i64_w, i32_w]
     rfl
    refine pure_ (i := 10) (N := some 22) (v := ?_) (a' := ?_) #[true, true, true, true, true, true, true, true, true, true, true] rfl rfl (any_of HT_.out (by kernel_rfl)) (fun _ _ _ h => h) (Or.inl ⟨by rfl, ?_⟩) ?_ ?_
    rotate_left
    ·intro w'
     go_simp
     with_reducible rfl
    rotate_left
    ·simp only [Act.put, List.setIfInBounds_toArray, List.set_cons_zero, List.set_cons_succ, i64_w, i32_w]
     rfl
    refine done_ (done_of HT_.out (by kernel_rfl)) ?_
    try go_wp2
    go_meet
    case rel => exact ⟨_, ((a2_0 == t178 && (a2_1 == t179 && (a2_2.toList == t180.toList)))), (by first | rfl | (simp; done) | (simp [*]; done)), H', ⟨by first | omega | exact Nat.le_refl _⟩, ⟨by exact BK167.out⟩, ⟨by exact BK168.out⟩, ⟨by exact BK169.out⟩, ⟨by repeat (first | (with_reducible first | exact HB.out | apply blA | apply pbN | apply blD | refine blS ?_ GE167.out | refine blS ?_ GE168.out | refine blS ?_ GE169.out) | exact HB.out)⟩⟩
  case rest =>
   clear HC6
   try clear c1
   try clear c2
   try clear p2
   try clear c3
   try clear c5
   try clear c5b0
   try clear c5b1
   try clear c9
   try clear c10
   try clear c11
   try clear c13
   try clear c20
   try clear c20b0
   try clear c20b1
   try clear c20b2
   try clear hcz12_0
   try clear hcz12_1
   try clear hcz12_2
   try clear hcz14_0
   try clear hcz14_1
   try clear hcz14_2
   try clear hfz12_0
   try clear hfz12_1
   try clear hfz12_2
   try clear hfz14_0
   try clear hfz14_1
   try clear hfz14_2
   obtain ⟨kq, x22_5, rfl, HA, HJ5, BK167, BK168, BK169, HB⟩ := hcut
   cases kq with
   | zero => exact absurd HA.out (by simp [value_decided.j0])
   | succ kj5 =>
    have H := HA.out
    clear HA
    simp only [value_decided.j0] at H
    by_cases c27 : x22_5 = true
    ·subst c27
     have H1 : ((value_truth.f a0).bind fun bt181 => (some (bt181.1, bt181.2.1, bt181.2.2, 0))) = some (r1, r2, r3, r4) := by rw [if_pos rfl] at H; exact H
     clear H
     have H := H1
     clear H1
     replace H := Option.bind_eq_some_iff.mp H
     obtain ⟨⟨t181, t182, t183⟩, A280, H⟩ := H
     replace H : (some (t181, t182, t183, 0)) = some (r1, r2, r3, r4) := H
     have A28 := Asd.mk A280
     clear A280
     simp only [Option.some.injEq, Prod.mk.injEq] at H
     obtain ⟨rfl, rfl, rfl, rfl⟩ := H
     go_wp2_with (first | ((with_reducible refine gate_callee (f := 98) rfl ?_); refine goesL_ (some 34) rfl rfl Tryd.func98 (by kernel_rfl) rfl #[.bool a0] rfl (by (try simp only [List.map_toArray, List.map_cons, List.map_nil]); first | done | rfl | (simp only [List.length_drop, List.length_take]; rfl)) ?_; (with_reducible refine (value_truth.calls a0 t181 t182 t183 _ A28.out).mono ?_); rintro e w29 ⟨rfl, hb⟩; refine ⟨_, rfl, ?_⟩; replace BK167 := Asd.mk (bB hb BK167.out); replace BK168 := Asd.mk (bB hb BK168.out); replace BK169 := Asd.mk (bB hb BK169.out); replace HB := Asd.mk (bS hb HB.out); clear hb; have hnb30 := NB169_167.out; have hnc30 := NB167_169.out; have hnb31 := NB169_168.out; have hnc31 := NB168_169.out; obtain ⟨hcz32_0, hcz32_1, hcz32_2⟩ := bkC3 BK169.out; obtain ⟨hfz32_0, hfz32_1, hfz32_2⟩ := bkF3 BK169.out))
     refine bodyPost_ret (results_ct rfl _ _ gb169 23 #[.int .i64 t181, .int .i64 t182, .string t183] (0, 0) _ rfl (by refine blk_put (cs := #[.int .i64 t181, .int .i64 t182, .string (⟨#[]⟩ : ByteArray)]) ?_ 2 _ rfl; refine blk_put (cs := #[.int .i64 t181, .int .i64 0, .string (⟨#[]⟩ : ByteArray)]) ?_ 1 _ rfl; refine blk_put (cs := #[.int .i64 0, .int .i64 0, .string (⟨#[]⟩ : ByteArray)]) ?_ 0 _ rfl; exact BK169.out) Tryd.underlying23 rfl (by kernel_rfl)) rfl ?_
     exact ⟨by first | rfl | (simp [errW_none, errW_some] <;> rfl) | (simp [*, errW_none, errW_some] <;> rfl), by repeat (first | (with_reducible first | exact HB.out | apply blA | apply pbN | apply blD | refine blS ?_ GE167.out | refine blS ?_ GE168.out | refine blS ?_ GE169.out) | exact HB.out)⟩
    ·replace c27 := Bool.eq_false_iff.mpr c27
     subst c27
     have H1 : (if t174 = true then (some (0, 0, (⟨#[]⟩ : ByteArray), 0)) else ((value_truth.f (!a0)).bind fun bt184 => (some (bt184.1, bt184.2.1, bt184.2.2, 0)))) = some (r1, r2, r3, r4) := by rw [if_neg (show ¬ (false = true) by decide)] at H; exact H
     clear H
     have H := H1
     clear H1
     by_cases c33 : t174 = true
     ·subst c33
      have H1 : (some (0, 0, (⟨#[]⟩ : ByteArray), 0)) = some (r1, r2, r3, r4) := by rw [if_pos rfl] at H; exact H
      clear H
      have H := H1
      clear H1
      simp only [Option.some.injEq, Prod.mk.injEq] at H
      obtain ⟨rfl, rfl, rfl, rfl⟩ := H
      have hnb34 := NB169_167.out
      have hnc34 := NB167_169.out
      have hnb35 := NB169_168.out
      have hnc35 := NB168_169.out
      obtain ⟨hcz36_0, hcz36_1, hcz36_2⟩ := bkC3 BK169.out
      obtain ⟨hfz36_0, hfz36_1, hfz36_2⟩ := bkF3 BK169.out
      go_wp2
      refine bodyPost_ret (results_ct rfl _ _ gb169 23 #[.int .i64 0, .int .i64 0, .string (⟨#[]⟩ : ByteArray)] (0, 0) _ rfl (by refine blk_put (cs := #[.int .i64 0, .int .i64 0, .string (⟨#[]⟩ : ByteArray)]) ?_ 2 _ rfl; refine blk_put (cs := #[.int .i64 0, .int .i64 0, .string (⟨#[]⟩ : ByteArray)]) ?_ 1 _ rfl; refine blk_put (cs := #[.int .i64 0, .int .i64 0, .string (⟨#[]⟩ : ByteArray)]) ?_ 0 _ rfl; exact BK169.out) Tryd.underlying23 rfl (by kernel_rfl)) rfl ?_
      exact ⟨by first | rfl | (simp [errW_none, errW_some] <;> rfl) | (simp [*, errW_none, errW_some] <;> rfl), by repeat (first | (with_reducible first | exact HB.out | apply blA | apply pbN | apply blD | refine blS ?_ GE167.out | refine blS ?_ GE168.out | refine blS ?_ GE169.out) | exact HB.out)⟩
     ·replace c33 := Bool.eq_false_iff.mpr c33
      subst c33
      have H1 : ((value_truth.f (!a0)).bind fun bt184 => (some (bt184.1, bt184.2.1, bt184.2.2, 0))) = some (r1, r2, r3, r4) := by rw [if_neg (show ¬ (false = true) by decide)] at H; exact H
      clear H
      have H := H1
      clear H1
      replace H := Option.bind_eq_some_iff.mp H
      obtain ⟨⟨t184, t185, t186⟩, A370, H⟩ := H
      replace H : (some (t184, t185, t186, 0)) = some (r1, r2, r3, r4) := H
      have A37 := Asd.mk A370
      clear A370
      simp only [Option.some.injEq, Prod.mk.injEq] at H
      obtain ⟨rfl, rfl, rfl, rfl⟩ := H
      go_wp2_with (first | ((with_reducible refine gate_callee (f := 98) rfl ?_); refine goesL_ (some 40) rfl rfl Tryd.func98 (by kernel_rfl) rfl #[.bool (!a0)] rfl (by (try simp only [List.map_toArray, List.map_cons, List.map_nil]); first | done | rfl | (simp only [List.length_drop, List.length_take]; rfl)) ?_; (with_reducible refine (value_truth.calls (!a0) t184 t185 t186 _ A37.out).mono ?_); rintro e w38 ⟨rfl, hb⟩; refine ⟨_, rfl, ?_⟩; replace BK167 := Asd.mk (bB hb BK167.out); replace BK168 := Asd.mk (bB hb BK168.out); replace BK169 := Asd.mk (bB hb BK169.out); replace HB := Asd.mk (bS hb HB.out); clear hb; have hnb39 := NB169_167.out; have hnc39 := NB167_169.out; have hnb40 := NB169_168.out; have hnc40 := NB168_169.out; obtain ⟨hcz41_0, hcz41_1, hcz41_2⟩ := bkC3 BK169.out; obtain ⟨hfz41_0, hfz41_1, hfz41_2⟩ := bkF3 BK169.out))
      refine bodyPost_ret (results_ct rfl _ _ gb169 23 #[.int .i64 t184, .int .i64 t185, .string t186] (0, 0) _ rfl (by refine blk_put (cs := #[.int .i64 t184, .int .i64 t185, .string (⟨#[]⟩ : ByteArray)]) ?_ 2 _ rfl; refine blk_put (cs := #[.int .i64 t184, .int .i64 0, .string (⟨#[]⟩ : ByteArray)]) ?_ 1 _ rfl; refine blk_put (cs := #[.int .i64 0, .int .i64 0, .string (⟨#[]⟩ : ByteArray)]) ?_ 0 _ rfl; exact BK169.out) Tryd.underlying23 rfl (by kernel_rfl)) rfl ?_
      exact ⟨by first | rfl | (simp [errW_none, errW_some] <;> rfl) | (simp [*, errW_none, errW_some] <;> rfl), by repeat (first | (with_reducible first | exact HB.out | apply blA | apply pbN | apply blD | refine blS ?_ GE167.out | refine blS ?_ GE168.out | refine blS ?_ GE169.out) | exact HB.out)⟩
 ·rw [if_neg c5] at H
  have c5b0 : (t173 == 0) = false := beq_eq_false_iff_ne.mpr c5
  have c5b1 : (t173 != 0) = true := bne_iff_ne.mpr c5
  simp only [Option.some.injEq, Prod.mk.injEq] at H
  obtain ⟨rfl, rfl, rfl, rfl⟩ := H
  go_enter Tryd.func97, Tryd.ntmps97
  go_wp2_with (first | ((with_reducible refine gate_dst (N := 4) rfl ?_); refine box_event rfl (N := 4) rfl (cs := #[.int .i64 a1_0, .int .i64 a1_1, .string a1_2]) (t := 23) (by first | (go_simp; done) | (go_simp; rfl)) ?_; intro gb167 hg w42 hbox hb; have BK167 := Asd.mk (hbox); have GW167 := Asd.mk (bZ hg HB.out); have GE167 := GW167; replace HB := Asd.mk (bS hb HB.out); clear hb hbox hg) | ((with_reducible refine gate_dst (N := 5) rfl ?_); refine box_event rfl (N := 5) rfl (cs := #[.int .i64 a2_0, .int .i64 a2_1, .string a2_2]) (t := 23) (by first | (go_simp; done) | (go_simp; rfl)) ?_; intro gb168 hg w43 hbox hb; have BK168 := Asd.mk (hbox); have GW168 := Asd.mk (bZ hg HB.out); have GE168 := GW168; have NB167_168 := Asd.mk (bL hg BK167.out); have NB168_167 := Asd.mk (bG hg BK167.out); replace BK167 := Asd.mk (bB hb BK167.out); replace HB := Asd.mk (bS hb HB.out); clear hb hbox hg) | ((with_reducible refine gate_dst (N := 6) rfl ?_); refine box_event rfl (N := 6) rfl (cs := #[.int .i64 0, .int .i64 0, .string (⟨#[]⟩ : ByteArray)]) (t := 23) (by first | (go_simp; done) | (go_simp; rfl)) ?_; intro gb169 hg w44 hbox hb; have BK169 := Asd.mk (hbox); have GW169 := Asd.mk (bZ hg HB.out); have GE169 := GW169; have NB167_169 := Asd.mk (bL hg BK167.out); have NB169_167 := Asd.mk (bG hg BK167.out); have NB168_169 := Asd.mk (bL hg BK168.out); have NB169_168 := Asd.mk (bG hg BK168.out); replace BK167 := Asd.mk (bB hb BK167.out); replace BK168 := Asd.mk (bB hb BK168.out); replace HB := Asd.mk (bS hb HB.out); clear hb hbox hg; have hnb45 := NB167_168.out; have hnc45 := NB168_167.out; have hnb46 := NB167_169.out; have hnc46 := NB169_167.out; obtain ⟨hcz47_0, hcz47_1, hcz47_2⟩ := bkC3 BK167.out; obtain ⟨hfz47_0, hfz47_1, hfz47_2⟩ := bkF3 BK167.out; have hnb48 := NB168_169.out; have hnc48 := NB169_168.out; obtain ⟨hcz49_0, hcz49_1, hcz49_2⟩ := bkC3 BK168.out; obtain ⟨hfz49_0, hfz49_1, hfz49_2⟩ := bkF3 BK168.out) | ((with_reducible refine gate_dst (N := 13) rfl ?_); refine Kd.R_lit k23 _ 23 ?hg (N := 13) ?hd (xs := ([(⟨a1_0, a1_1, a1_2⟩ : S23), (⟨a2_0, a2_1, a2_2⟩ : S23)] : List (S23))) (inner := [.int .i64 a1_0, .int .i64 a1_1, .string a1_2, .int .i64 a2_0, .int .i64 a2_1, .string a2_2]) (ok := fun _ => True) (okp := fun _ => True) ?hr ?hp (fun _ hk => hk) trivial (Below.refl _ _) (Nat.le_refl _) (by simp) ?_; (case hd => rfl); (case hg => rfl); (case hr => first | (go_simp; done) | (go_simp; rfl)); (case hp => exact (Reps.c3 (show Kd.M k23 _ _ _ (⟨a1_0, a1_1, a1_2⟩ : S23) [.int .i64 a1_0, .int .i64 a1_1, .string a1_2] from (k23_mkM _ _ _ (⟨a1_0, a1_1, a1_2⟩ : S23) )) (Reps.c3 (show Kd.M k23 _ _ _ (⟨a2_0, a2_1, a2_2⟩ : S23) [.int .i64 a2_0, .int .i64 a2_1, .string a2_2] from (k23_mkM _ _ _ (⟨a2_0, a2_1, a2_2⟩ : S23) )) (Reps.none _ _)))); intro v171 w50 ho51 hb hg_ hnew_; clear hg_ hnew_; (first | rw [← Ny170.out] at ho51 | (simp only [Int.reduceToNat] at ho51; rw [← Ny170.out] at ho51)); have n0_ := Asd.mk (Kd.R_lower (Kd.R_newB (Kd.R_newB (Kd.R_newB ho51 (g := gb167) (o := .cells #[.int .i64 a1_0, .int .i64 a1_1, .string a1_2] 23 (0, 0)) (by exact BK167.out)) (g := gb168) (o := .cells #[.int .i64 a2_0, .int .i64 a2_1, .string a2_2] 23 (0, 0)) (by exact BK168.out)) (g := gb169) (o := .cells #[.int .i64 0, .int .i64 0, .string (⟨#[]⟩ : ByteArray)] 23 (0, 0)) (by exact BK169.out)) (below_size (by repeat (first | (with_reducible first | exact HB.out | apply blA | apply pbN | apply blD | refine blS ?_ GE167.out | refine blS ?_ GE168.out | refine blS ?_ GE169.out) | exact HB.out)))); have n1_ := Asd.mk (bB hb BK167.out); have n2_ := Asd.mk (bB hb BK168.out); have n3_ := Asd.mk (bB hb BK169.out); have n4_ := Asd.mk (bS hb HB.out); clear BK167; clear BK168; clear BK169; clear HB; have HO172 := n0_; have BK167 := n1_; have BK168 := n2_; have BK169 := n3_; have HB := n4_; clear n0_ n1_ n2_ n3_ n4_; clear hb ho51; obtain ⟨Ao52, co52, eo52⟩ := Kd.R_slice HO172.out; subst eo52) | ((with_reducible refine gate_callee (f := 93) rfl ?_); refine goesL_ (some 14) rfl rfl Tryd.func93 (by kernel_rfl) rfl #[.int .i64 2, .slice Ao52 y170.length co52] rfl (by (try simp only [List.map_toArray, List.map_cons, List.map_nil]); first | done | rfl | (simp only [List.length_drop, List.length_take]; rfl)) ?_; (with_reducible refine (value_null.calls k 2 _ _ y170 t173 t174 _ ?side1 ?side2 A4.out).mono ?_); (case side1 => repeat (first | exact (Kd.R_reads' HO172.out).2.2 | (with_reducible refine Kd.C_alloc ?_ _) | (with_reducible refine Kd.C_drewN ?_ _) | (with_reducible refine Kd.C_drew ?_))); (case side2 => exact (Kd.R_reads' HO172.out).2.1); rintro e w53 ⟨rfl, hb⟩; refine ⟨_, rfl, ?_⟩; have n0_ := Asd.mk (Kd.R_below (by (with_reducible repeat (first | apply Kd.R_alloc | apply Kd.R_drewN | apply Kd.R_drew)); exact HO172.out) hb); have n1_ := Asd.mk (bB hb BK167.out); have n2_ := Asd.mk (bB hb BK168.out); have n3_ := Asd.mk (bB hb BK169.out); have n4_ := Asd.mk (bS hb HB.out); clear HO172; clear BK167; clear BK168; clear BK169; clear HB; have HO172 := n0_; have BK167 := n1_; have BK168 := n2_; have BK169 := n3_; have HB := n4_; clear n0_ n1_ n2_ n3_ n4_; (try clear hb); (try clear hb2); (try clear hk); (try clear hi); obtain ⟨hcz54_0, hcz54_1, hcz54_2⟩ := bkC3 BK169.out; obtain ⟨hfz54_0, hfz54_1, hfz54_2⟩ := bkF3 BK169.out))
  refine bodyPost_ret (results_ct rfl _ _ gb169 23 #[.int .i64 0, .int .i64 0, .string (⟨#[]⟩ : ByteArray)] (0, 0) _ rfl (by refine blk_put (cs := #[.int .i64 0, .int .i64 0, .string (⟨#[]⟩ : ByteArray)]) ?_ 2 _ rfl; refine blk_put (cs := #[.int .i64 0, .int .i64 0, .string (⟨#[]⟩ : ByteArray)]) ?_ 1 _ rfl; refine blk_put (cs := #[.int .i64 0, .int .i64 0, .string (⟨#[]⟩ : ByteArray)]) ?_ 0 _ rfl; exact BK169.out) Tryd.underlying23 rfl (by kernel_rfl)) rfl ?_
  exact ⟨by first | rfl | (simp [errW_none, errW_some] <;> rfl) | (simp [*, errW_none, errW_some] <;> rfl), by repeat (first | (with_reducible first | exact HB.out | apply blA | apply pbN | apply blD | refine blS ?_ GE167.out | refine blS ?_ GE168.out | refine blS ?_ GE169.out) | exact HB.out)⟩
end Go.Proofs.YtkboodfnegedaaaDoor.E
namespace Go.Proofs.YtkboodfnegedaaaDoor.E
open Go.RowKit Go.Proofs.YtkboodfnegedaaaDoorW.PrintWords Go.Proofs.YtkboodfnegedaaaDoorW.PrintLast Go.Proofs.YtkboodfnegedaaaDoorW.PrintMore
attribute [local go_sem] max2_int min2_int max_two min_two max_three min_three max_four min_four   -- for this text's walks alone
set_option linter.unusedVariables false
set_option linter.unusedSimpArgs false
def value_And.f (k : Nat) (a0_0 : Int) (a0_1 : Int) (a0_2 : ByteArray) (a1_0 : Int) (a1_1 : Int) (a1_2 : ByteArray) : Option (Int × Int × ByteArray × Int) := (value_decided.f k false a0_0 a0_1 a0_2 a1_0 a1_1 a1_2).bind fun bt190 => (some (bt190.1, bt190.2.1, bt190.2.2.1, bt190.2.2.2))
set_option maxHeartbeats 8000000 in
set_option maxRecDepth 100000 in
theorem value_And.calls (k : Nat) (a0_0 : Int) (a0_1 : Int) (a0_2 : ByteArray) (a1_0 : Int) (a1_1 : Int) (a1_2 : ByteArray) (r1 : Int) (r2 : Int) (r3 : ByteArray) (r4 : Int) (w : World) (h : value_And.f k a0_0 a0_1 a0_2 a1_0 a1_1 a1_2 = some (r1, r2, r3, r4)) :
  Calls Tryd.prog 70 #[.agg #[.int .i64 a0_0, .int .i64 a0_1, .string a0_2], .agg #[.int .i64 a1_0, .int .i64 a1_1, .string a1_2]] w fun e w' => e = .returned (.tuple #[.agg #[.int .i64 r1, .int .i64 r2, .string r3], .int .i64 r4]) ∧ Below w.heap.size w w' := by
 have hu23 := Tryd.underlying23
 have HB := Asd.mk (Below.refl w.heap.size w)
 have H : ((value_decided.f k false a0_0 a0_1 a0_2 a1_0 a1_1 a1_2).bind fun bt190 => (some (bt190.1, bt190.2.1, bt190.2.2.1, bt190.2.2.2))) = some (r1, r2, r3, r4) := h
 clear h
 replace H := Option.bind_eq_some_iff.mp H
 obtain ⟨⟨t190, t191, t192, t193⟩, A30, H⟩ := H
 replace H : (some (t190, t191, t192, t193)) = some (r1, r2, r3, r4) := H
 have A3 := Asd.mk A30
 clear A30
 simp only [Option.some.injEq, Prod.mk.injEq] at H
 obtain ⟨rfl, rfl, rfl, rfl⟩ := H
 go_enter Tryd.func70, Tryd.ntmps70
 go_wp2_with (first | ((with_reducible refine gate_dst (N := 2) rfl ?_); refine box_event rfl (N := 2) rfl (cs := #[.int .i64 a0_0, .int .i64 a0_1, .string a0_2]) (t := 23) (by first | (go_simp; done) | (go_simp; rfl)) ?_; intro gb187 hg w4 hbox hb; have BK187 := Asd.mk (hbox); have GW187 := Asd.mk (bZ hg HB.out); have GE187 := GW187; replace HB := Asd.mk (bS hb HB.out); clear hb hbox hg) | ((with_reducible refine gate_dst (N := 3) rfl ?_); refine box_event rfl (N := 3) rfl (cs := #[.int .i64 a1_0, .int .i64 a1_1, .string a1_2]) (t := 23) (by first | (go_simp; done) | (go_simp; rfl)) ?_; intro gb188 hg w5 hbox hb; have BK188 := Asd.mk (hbox); have GW188 := Asd.mk (bZ hg HB.out); have GE188 := GW188; have NB187_188 := Asd.mk (bL hg BK187.out); have NB188_187 := Asd.mk (bG hg BK187.out); replace BK187 := Asd.mk (bB hb BK187.out); replace HB := Asd.mk (bS hb HB.out); clear hb hbox hg) | ((with_reducible refine gate_dst (N := 4) rfl ?_); refine box_event rfl (N := 4) rfl (cs := #[.int .i64 0, .int .i64 0, .string (⟨#[]⟩ : ByteArray)]) (t := 23) (by first | (go_simp; done) | (go_simp; rfl)) ?_; intro gb189 hg w6 hbox hb; have BK189 := Asd.mk (hbox); have GW189 := Asd.mk (bZ hg HB.out); have GE189 := GW189; have NB187_189 := Asd.mk (bL hg BK187.out); have NB189_187 := Asd.mk (bG hg BK187.out); have NB188_189 := Asd.mk (bL hg BK188.out); have NB189_188 := Asd.mk (bG hg BK188.out); replace BK187 := Asd.mk (bB hb BK187.out); replace BK188 := Asd.mk (bB hb BK188.out); replace HB := Asd.mk (bS hb HB.out); clear hb hbox hg; have hnb7 := NB187_188.out; have hnc7 := NB188_187.out; have hnb8 := NB187_189.out; have hnc8 := NB189_187.out; obtain ⟨hcz9_0, hcz9_1, hcz9_2⟩ := bkC3 BK187.out; obtain ⟨hfz9_0, hfz9_1, hfz9_2⟩ := bkF3 BK187.out; have hnb10 := NB188_189.out; have hnc10 := NB189_188.out; obtain ⟨hcz11_0, hcz11_1, hcz11_2⟩ := bkC3 BK188.out; obtain ⟨hfz11_0, hfz11_1, hfz11_2⟩ := bkF3 BK188.out) | ((with_reducible refine gate_callee (f := 97) rfl ?_); refine goesL_ (some 8) rfl rfl Tryd.func97 (by kernel_rfl) rfl #[.bool false, .agg #[.int .i64 a0_0, .int .i64 a0_1, .string a0_2], .agg #[.int .i64 a1_0, .int .i64 a1_1, .string a1_2]] rfl (by (try simp only [List.map_toArray, List.map_cons, List.map_nil]); first | done | rfl | (simp only [List.length_drop, List.length_take]; rfl)) ?_; (with_reducible refine (value_decided.calls k false a0_0 a0_1 a0_2 a1_0 a1_1 a1_2 t190 t191 t192 t193 _ A3.out).mono ?_); rintro e w12 ⟨rfl, hb⟩; refine ⟨_, rfl, ?_⟩; replace BK187 := Asd.mk (bB hb BK187.out); replace BK188 := Asd.mk (bB hb BK188.out); replace BK189 := Asd.mk (bB hb BK189.out); replace HB := Asd.mk (bS hb HB.out); clear hb; obtain ⟨hcz13_0, hcz13_1, hcz13_2⟩ := bkC3 BK189.out; obtain ⟨hfz13_0, hfz13_1, hfz13_2⟩ := bkF3 BK189.out))
 refine bodyPost_ret (results_ct rfl _ _ gb189 23 #[.int .i64 t190, .int .i64 t191, .string t192] (0, 0) _ rfl (by refine blk_put (cs := #[.int .i64 t190, .int .i64 t191, .string (⟨#[]⟩ : ByteArray)]) ?_ 2 _ rfl; refine blk_put (cs := #[.int .i64 t190, .int .i64 0, .string (⟨#[]⟩ : ByteArray)]) ?_ 1 _ rfl; refine blk_put (cs := #[.int .i64 0, .int .i64 0, .string (⟨#[]⟩ : ByteArray)]) ?_ 0 _ rfl; exact BK189.out) Tryd.underlying23 rfl (by kernel_rfl)) rfl ?_
 exact ⟨by first | rfl | (simp [errW_none, errW_some] <;> rfl) | (simp [*, errW_none, errW_some] <;> rfl), by repeat (first | (with_reducible first | exact HB.out | apply blA | apply pbN | apply blD | refine blS ?_ GE187.out | refine blS ?_ GE188.out | refine blS ?_ GE189.out) | exact HB.out)⟩
def value_Or.f (k : Nat) (a0_0 : Int) (a0_1 : Int) (a0_2 : ByteArray) (a1_0 : Int) (a1_1 : Int) (a1_2 : ByteArray) : Option (Int × Int × ByteArray × Int) := (value_decided.f k true a0_0 a0_1 a0_2 a1_0 a1_1 a1_2).bind fun bt197 => (some (bt197.1, bt197.2.1, bt197.2.2.1, bt197.2.2.2))
set_option maxHeartbeats 8000000 in
set_option maxRecDepth 100000 in
theorem value_Or.calls (k : Nat) (a0_0 : Int) (a0_1 : Int) (a0_2 : ByteArray) (a1_0 : Int) (a1_1 : Int) (a1_2 : ByteArray) (r1 : Int) (r2 : Int) (r3 : ByteArray) (r4 : Int) (w : World) (h : value_Or.f k a0_0 a0_1 a0_2 a1_0 a1_1 a1_2 = some (r1, r2, r3, r4)) :
  Calls Tryd.prog 71 #[.agg #[.int .i64 a0_0, .int .i64 a0_1, .string a0_2], .agg #[.int .i64 a1_0, .int .i64 a1_1, .string a1_2]] w fun e w' => e = .returned (.tuple #[.agg #[.int .i64 r1, .int .i64 r2, .string r3], .int .i64 r4]) ∧ Below w.heap.size w w' := by
 have hu23 := Tryd.underlying23
 have HB := Asd.mk (Below.refl w.heap.size w)
 have H : ((value_decided.f k true a0_0 a0_1 a0_2 a1_0 a1_1 a1_2).bind fun bt197 => (some (bt197.1, bt197.2.1, bt197.2.2.1, bt197.2.2.2))) = some (r1, r2, r3, r4) := h
 clear h
 replace H := Option.bind_eq_some_iff.mp H
 obtain ⟨⟨t197, t198, t199, t200⟩, A30, H⟩ := H
 replace H : (some (t197, t198, t199, t200)) = some (r1, r2, r3, r4) := H
 have A3 := Asd.mk A30
 clear A30
 simp only [Option.some.injEq, Prod.mk.injEq] at H
 obtain ⟨rfl, rfl, rfl, rfl⟩ := H
 go_enter Tryd.func71, Tryd.ntmps71
 go_wp2_with (first | ((with_reducible refine gate_dst (N := 2) rfl ?_); refine box_event rfl (N := 2) rfl (cs := #[.int .i64 a0_0, .int .i64 a0_1, .string a0_2]) (t := 23) (by first | (go_simp; done) | (go_simp; rfl)) ?_; intro gb194 hg w4 hbox hb; have BK194 := Asd.mk (hbox); have GW194 := Asd.mk (bZ hg HB.out); have GE194 := GW194; replace HB := Asd.mk (bS hb HB.out); clear hb hbox hg) | ((with_reducible refine gate_dst (N := 3) rfl ?_); refine box_event rfl (N := 3) rfl (cs := #[.int .i64 a1_0, .int .i64 a1_1, .string a1_2]) (t := 23) (by first | (go_simp; done) | (go_simp; rfl)) ?_; intro gb195 hg w5 hbox hb; have BK195 := Asd.mk (hbox); have GW195 := Asd.mk (bZ hg HB.out); have GE195 := GW195; have NB194_195 := Asd.mk (bL hg BK194.out); have NB195_194 := Asd.mk (bG hg BK194.out); replace BK194 := Asd.mk (bB hb BK194.out); replace HB := Asd.mk (bS hb HB.out); clear hb hbox hg) | ((with_reducible refine gate_dst (N := 4) rfl ?_); refine box_event rfl (N := 4) rfl (cs := #[.int .i64 0, .int .i64 0, .string (⟨#[]⟩ : ByteArray)]) (t := 23) (by first | (go_simp; done) | (go_simp; rfl)) ?_; intro gb196 hg w6 hbox hb; have BK196 := Asd.mk (hbox); have GW196 := Asd.mk (bZ hg HB.out); have GE196 := GW196; have NB194_196 := Asd.mk (bL hg BK194.out); have NB196_194 := Asd.mk (bG hg BK194.out); have NB195_196 := Asd.mk (bL hg BK195.out); have NB196_195 := Asd.mk (bG hg BK195.out); replace BK194 := Asd.mk (bB hb BK194.out); replace BK195 := Asd.mk (bB hb BK195.out); replace HB := Asd.mk (bS hb HB.out); clear hb hbox hg; have hnb7 := NB194_195.out; have hnc7 := NB195_194.out; have hnb8 := NB194_196.out; have hnc8 := NB196_194.out; obtain ⟨hcz9_0, hcz9_1, hcz9_2⟩ := bkC3 BK194.out; obtain ⟨hfz9_0, hfz9_1, hfz9_2⟩ := bkF3 BK194.out; have hnb10 := NB195_196.out; have hnc10 := NB196_195.out; obtain ⟨hcz11_0, hcz11_1, hcz11_2⟩ := bkC3 BK195.out; obtain ⟨hfz11_0, hfz11_1, hfz11_2⟩ := bkF3 BK195.out) | ((with_reducible refine gate_callee (f := 97) rfl ?_); refine goesL_ (some 8) rfl rfl Tryd.func97 (by kernel_rfl) rfl #[.bool true, .agg #[.int .i64 a0_0, .int .i64 a0_1, .string a0_2], .agg #[.int .i64 a1_0, .int .i64 a1_1, .string a1_2]] rfl (by (try simp only [List.map_toArray, List.map_cons, List.map_nil]); first | done | rfl | (simp only [List.length_drop, List.length_take]; rfl)) ?_; (with_reducible refine (value_decided.calls k true a0_0 a0_1 a0_2 a1_0 a1_1 a1_2 t197 t198 t199 t200 _ A3.out).mono ?_); rintro e w12 ⟨rfl, hb⟩; refine ⟨_, rfl, ?_⟩; replace BK194 := Asd.mk (bB hb BK194.out); replace BK195 := Asd.mk (bB hb BK195.out); replace BK196 := Asd.mk (bB hb BK196.out); replace HB := Asd.mk (bS hb HB.out); clear hb; obtain ⟨hcz13_0, hcz13_1, hcz13_2⟩ := bkC3 BK196.out; obtain ⟨hfz13_0, hfz13_1, hfz13_2⟩ := bkF3 BK196.out))
 refine bodyPost_ret (results_ct rfl _ _ gb196 23 #[.int .i64 t197, .int .i64 t198, .string t199] (0, 0) _ rfl (by refine blk_put (cs := #[.int .i64 t197, .int .i64 t198, .string (⟨#[]⟩ : ByteArray)]) ?_ 2 _ rfl; refine blk_put (cs := #[.int .i64 t197, .int .i64 0, .string (⟨#[]⟩ : ByteArray)]) ?_ 1 _ rfl; refine blk_put (cs := #[.int .i64 0, .int .i64 0, .string (⟨#[]⟩ : ByteArray)]) ?_ 0 _ rfl; exact BK196.out) Tryd.underlying23 rfl (by kernel_rfl)) rfl ?_
 exact ⟨by first | rfl | (simp [errW_none, errW_some] <;> rfl) | (simp [*, errW_none, errW_some] <;> rfl), by repeat (first | (with_reducible first | exact HB.out | apply blA | apply pbN | apply blD | refine blS ?_ GE194.out | refine blS ?_ GE195.out | refine blS ?_ GE196.out) | exact HB.out)⟩
def value_Not.f (k : Nat) (a0_0 : Int) (a0_1 : Int) (a0_2 : ByteArray) : Option (Int × Int × ByteArray × Int) := (value_null.f k 2 (([(⟨a0_0, a0_1, a0_2⟩ : S23)] : List (S23)))).bind fun bt206 => (if bt206.2 = true then (some (0, 0, (⟨#[]⟩ : ByteArray), bt206.1)) else ((value_truth.f (a0_1 == 0)).bind fun bt208 => (some (bt208.1, bt208.2.1, bt208.2.2, 0))))
set_option maxHeartbeats 8000000 in
set_option maxRecDepth 100000 in
theorem value_Not.calls (k : Nat) (a0_0 : Int) (a0_1 : Int) (a0_2 : ByteArray) (r1 : Int) (r2 : Int) (r3 : ByteArray) (r4 : Int) (w : World) (h : value_Not.f k a0_0 a0_1 a0_2 = some (r1, r2, r3, r4)) :
  Calls Tryd.prog 72 #[.agg #[.int .i64 a0_0, .int .i64 a0_1, .string a0_2]] w fun e w' => e = .returned (.tuple #[.agg #[.int .i64 r1, .int .i64 r2, .string r3], .int .i64 r4]) ∧ Below w.heap.size w w' := by
 have hu23 := Tryd.underlying23
 have HB := Asd.mk (Below.refl w.heap.size w)
 have H : ((value_null.f k 2 (([(⟨a0_0, a0_1, a0_2⟩ : S23)] : List (S23)))).bind fun bt206 => (if bt206.2 = true then (some (0, 0, (⟨#[]⟩ : ByteArray), bt206.1)) else ((value_truth.f (a0_1 == 0)).bind fun bt208 => (some (bt208.1, bt208.2.1, bt208.2.2, 0))))) = some (r1, r2, r3, r4) := h
 clear h
 obtain ⟨y203, hy203⟩ : ∃ y_ : List (S23), y_ = (([(⟨a0_0, a0_1, a0_2⟩ : S23)] : List (S23))) := ⟨_, rfl⟩
 replace H : ((value_null.f k 2 y203).bind fun bt206 => (if bt206.2 = true then (some (0, 0, (⟨#[]⟩ : ByteArray), bt206.1)) else ((value_truth.f (a0_1 == 0)).bind fun bt208 => (some (bt208.1, bt208.2.1, bt208.2.2, 0))))) = some (r1, r2, r3, r4) := by first | (rw [hy203]; with_reducible exact H) | (have H2_ := (Option.bind_some _ _).symm.trans H; rw [hy203]; with_reducible exact H2_) | (have H2_ := (Option.bind_some _ _).symm.trans H; with_reducible exact H2_) | with_reducible exact H | (rw [hy203]; exact H) | exact H
 have Ny203 := Asd.mk hy203
 clear hy203
 replace H := Option.bind_eq_some_iff.mp H
 obtain ⟨⟨t206, t207⟩, A20, H⟩ := H
 replace H : (if t207 = true then (some (0, 0, (⟨#[]⟩ : ByteArray), t206)) else ((value_truth.f (a0_1 == 0)).bind fun bt208 => (some (bt208.1, bt208.2.1, bt208.2.2, 0)))) = some (r1, r2, r3, r4) := H
 have A2 := Asd.mk A20
 clear A20
 by_cases c3 : t207 = true
 ·subst c3
  have H1 : (some (0, 0, (⟨#[]⟩ : ByteArray), t206)) = some (r1, r2, r3, r4) := by rw [if_pos rfl] at H; exact H
  clear H
  have H := H1
  clear H1
  simp only [Option.some.injEq, Prod.mk.injEq] at H
  obtain ⟨rfl, rfl, rfl, rfl⟩ := H
  go_enter Tryd.func72, Tryd.ntmps72
  go_wp2_with (first | ((with_reducible refine gate_dst (N := 1) rfl ?_); refine box_event rfl (N := 1) rfl (cs := #[.int .i64 a0_0, .int .i64 a0_1, .string a0_2]) (t := 23) (by first | (go_simp; done) | (go_simp; rfl)) ?_; intro gb201 hg w4 hbox hb; have BK201 := Asd.mk (hbox); have GW201 := Asd.mk (bZ hg HB.out); have GE201 := GW201; replace HB := Asd.mk (bS hb HB.out); clear hb hbox hg) | ((with_reducible refine gate_dst (N := 2) rfl ?_); refine box_event rfl (N := 2) rfl (cs := #[.int .i64 0, .int .i64 0, .string (⟨#[]⟩ : ByteArray)]) (t := 23) (by first | (go_simp; done) | (go_simp; rfl)) ?_; intro gb202 hg w5 hbox hb; have BK202 := Asd.mk (hbox); have GW202 := Asd.mk (bZ hg HB.out); have GE202 := GW202; have NB201_202 := Asd.mk (bL hg BK201.out); have NB202_201 := Asd.mk (bG hg BK201.out); replace BK201 := Asd.mk (bB hb BK201.out); replace HB := Asd.mk (bS hb HB.out); clear hb hbox hg; have hnb6 := NB201_202.out; have hnc6 := NB202_201.out; obtain ⟨hcz7_0, hcz7_1, hcz7_2⟩ := bkC3 BK201.out; obtain ⟨hfz7_0, hfz7_1, hfz7_2⟩ := bkF3 BK201.out) | ((with_reducible refine gate_dst (N := 8) rfl ?_); refine Kd.R_lit k23 _ 23 ?hg (N := 8) ?hd (xs := ([(⟨a0_0, a0_1, a0_2⟩ : S23)] : List (S23))) (inner := [.int .i64 a0_0, .int .i64 a0_1, .string a0_2]) (ok := fun _ => True) (okp := fun _ => True) ?hr ?hp (fun _ hk => hk) trivial (Below.refl _ _) (Nat.le_refl _) (by simp) ?_; (case hd => rfl); (case hg => rfl); (case hr => first | (go_simp; done) | (go_simp; rfl)); (case hp => exact (Reps.c3 (show Kd.M k23 _ _ _ (⟨a0_0, a0_1, a0_2⟩ : S23) [.int .i64 a0_0, .int .i64 a0_1, .string a0_2] from (k23_mkM _ _ _ (⟨a0_0, a0_1, a0_2⟩ : S23) )) (Reps.none _ _))); intro v204 w8 ho9 hb hg_ hnew_; clear hg_ hnew_; (first | rw [← Ny203.out] at ho9 | (simp only [Int.reduceToNat] at ho9; rw [← Ny203.out] at ho9)); have n0_ := Asd.mk (Kd.R_lower (Kd.R_newB (Kd.R_newB ho9 (g := gb201) (o := .cells #[.int .i64 a0_0, .int .i64 a0_1, .string a0_2] 23 (0, 0)) (by exact BK201.out)) (g := gb202) (o := .cells #[.int .i64 0, .int .i64 0, .string (⟨#[]⟩ : ByteArray)] 23 (0, 0)) (by exact BK202.out)) (below_size (by repeat (first | (with_reducible first | exact HB.out | apply blA | apply pbN | apply blD | refine blS ?_ GE201.out | refine blS ?_ GE202.out) | exact HB.out)))); have n1_ := Asd.mk (bB hb BK201.out); have n2_ := Asd.mk (bB hb BK202.out); have n3_ := Asd.mk (bS hb HB.out); clear BK201; clear BK202; clear HB; have HO205 := n0_; have BK201 := n1_; have BK202 := n2_; have HB := n3_; clear n0_ n1_ n2_ n3_; clear hb ho9; obtain ⟨Ao10, co10, eo10⟩ := Kd.R_slice HO205.out; subst eo10) | ((with_reducible refine gate_callee (f := 93) rfl ?_); refine goesL_ (some 9) rfl rfl Tryd.func93 (by kernel_rfl) rfl #[.int .i64 2, .slice Ao10 y203.length co10] rfl (by (try simp only [List.map_toArray, List.map_cons, List.map_nil]); first | done | rfl | (simp only [List.length_drop, List.length_take]; rfl)) ?_; (with_reducible refine (value_null.calls k 2 _ _ y203 t206 true _ ?side1 ?side2 A2.out).mono ?_); (case side1 => repeat (first | exact (Kd.R_reads' HO205.out).2.2 | (with_reducible refine Kd.C_alloc ?_ _) | (with_reducible refine Kd.C_drewN ?_ _) | (with_reducible refine Kd.C_drew ?_))); (case side2 => exact (Kd.R_reads' HO205.out).2.1); rintro e w11 ⟨rfl, hb⟩; refine ⟨_, rfl, ?_⟩; have n0_ := Asd.mk (Kd.R_below (by (with_reducible repeat (first | apply Kd.R_alloc | apply Kd.R_drewN | apply Kd.R_drew)); exact HO205.out) hb); have n1_ := Asd.mk (bB hb BK201.out); have n2_ := Asd.mk (bB hb BK202.out); have n3_ := Asd.mk (bS hb HB.out); clear HO205; clear BK201; clear BK202; clear HB; have HO205 := n0_; have BK201 := n1_; have BK202 := n2_; have HB := n3_; clear n0_ n1_ n2_ n3_; (try clear hb); (try clear hb2); (try clear hk); (try clear hi); obtain ⟨hcz12_0, hcz12_1, hcz12_2⟩ := bkC3 BK202.out; obtain ⟨hfz12_0, hfz12_1, hfz12_2⟩ := bkF3 BK202.out))
  refine bodyPost_ret (results_ct rfl _ _ gb202 23 #[.int .i64 0, .int .i64 0, .string (⟨#[]⟩ : ByteArray)] (0, 0) _ rfl (by refine blk_put (cs := #[.int .i64 0, .int .i64 0, .string (⟨#[]⟩ : ByteArray)]) ?_ 2 _ rfl; refine blk_put (cs := #[.int .i64 0, .int .i64 0, .string (⟨#[]⟩ : ByteArray)]) ?_ 1 _ rfl; refine blk_put (cs := #[.int .i64 0, .int .i64 0, .string (⟨#[]⟩ : ByteArray)]) ?_ 0 _ rfl; exact BK202.out) Tryd.underlying23 rfl (by kernel_rfl)) rfl ?_
  exact ⟨by first | rfl | (simp [errW_none, errW_some] <;> rfl) | (simp [*, errW_none, errW_some] <;> rfl), by repeat (first | (with_reducible first | exact HB.out | apply blA | apply pbN | apply blD | refine blS ?_ GE201.out | refine blS ?_ GE202.out) | exact HB.out)⟩
 ·replace c3 := Bool.eq_false_iff.mpr c3
  subst c3
  have H1 : ((value_truth.f (a0_1 == 0)).bind fun bt208 => (some (bt208.1, bt208.2.1, bt208.2.2, 0))) = some (r1, r2, r3, r4) := by rw [if_neg (show ¬ (false = true) by decide)] at H; exact H
  clear H
  have H := H1
  clear H1
  replace H := Option.bind_eq_some_iff.mp H
  obtain ⟨⟨t208, t209, t210⟩, A130, H⟩ := H
  replace H : (some (t208, t209, t210, 0)) = some (r1, r2, r3, r4) := H
  have A13 := Asd.mk A130
  clear A130
  simp only [Option.some.injEq, Prod.mk.injEq] at H
  obtain ⟨rfl, rfl, rfl, rfl⟩ := H
  go_enter Tryd.func72, Tryd.ntmps72
  go_wp2_with (first | ((with_reducible refine gate_dst (N := 1) rfl ?_); refine box_event rfl (N := 1) rfl (cs := #[.int .i64 a0_0, .int .i64 a0_1, .string a0_2]) (t := 23) (by first | (go_simp; done) | (go_simp; rfl)) ?_; intro gb201 hg w14 hbox hb; have BK201 := Asd.mk (hbox); have GW201 := Asd.mk (bZ hg HB.out); have GE201 := GW201; replace HB := Asd.mk (bS hb HB.out); clear hb hbox hg) | ((with_reducible refine gate_dst (N := 2) rfl ?_); refine box_event rfl (N := 2) rfl (cs := #[.int .i64 0, .int .i64 0, .string (⟨#[]⟩ : ByteArray)]) (t := 23) (by first | (go_simp; done) | (go_simp; rfl)) ?_; intro gb202 hg w15 hbox hb; have BK202 := Asd.mk (hbox); have GW202 := Asd.mk (bZ hg HB.out); have GE202 := GW202; have NB201_202 := Asd.mk (bL hg BK201.out); have NB202_201 := Asd.mk (bG hg BK201.out); replace BK201 := Asd.mk (bB hb BK201.out); replace HB := Asd.mk (bS hb HB.out); clear hb hbox hg; have hnb16 := NB201_202.out; have hnc16 := NB202_201.out; obtain ⟨hcz17_0, hcz17_1, hcz17_2⟩ := bkC3 BK201.out; obtain ⟨hfz17_0, hfz17_1, hfz17_2⟩ := bkF3 BK201.out) | ((with_reducible refine gate_dst (N := 8) rfl ?_); refine Kd.R_lit k23 _ 23 ?hg (N := 8) ?hd (xs := ([(⟨a0_0, a0_1, a0_2⟩ : S23)] : List (S23))) (inner := [.int .i64 a0_0, .int .i64 a0_1, .string a0_2]) (ok := fun _ => True) (okp := fun _ => True) ?hr ?hp (fun _ hk => hk) trivial (Below.refl _ _) (Nat.le_refl _) (by simp) ?_; (case hd => rfl); (case hg => rfl); (case hr => first | (go_simp; done) | (go_simp; rfl)); (case hp => exact (Reps.c3 (show Kd.M k23 _ _ _ (⟨a0_0, a0_1, a0_2⟩ : S23) [.int .i64 a0_0, .int .i64 a0_1, .string a0_2] from (k23_mkM _ _ _ (⟨a0_0, a0_1, a0_2⟩ : S23) )) (Reps.none _ _))); intro v204 w18 ho19 hb hg_ hnew_; clear hg_ hnew_; (first | rw [← Ny203.out] at ho19 | (simp only [Int.reduceToNat] at ho19; rw [← Ny203.out] at ho19)); have n0_ := Asd.mk (Kd.R_lower (Kd.R_newB (Kd.R_newB ho19 (g := gb201) (o := .cells #[.int .i64 a0_0, .int .i64 a0_1, .string a0_2] 23 (0, 0)) (by exact BK201.out)) (g := gb202) (o := .cells #[.int .i64 0, .int .i64 0, .string (⟨#[]⟩ : ByteArray)] 23 (0, 0)) (by exact BK202.out)) (below_size (by repeat (first | (with_reducible first | exact HB.out | apply blA | apply pbN | apply blD | refine blS ?_ GE201.out | refine blS ?_ GE202.out) | exact HB.out)))); have n1_ := Asd.mk (bB hb BK201.out); have n2_ := Asd.mk (bB hb BK202.out); have n3_ := Asd.mk (bS hb HB.out); clear BK201; clear BK202; clear HB; have HO205 := n0_; have BK201 := n1_; have BK202 := n2_; have HB := n3_; clear n0_ n1_ n2_ n3_; clear hb ho19; obtain ⟨Ao20, co20, eo20⟩ := Kd.R_slice HO205.out; subst eo20) | ((with_reducible refine gate_callee (f := 93) rfl ?_); refine goesL_ (some 9) rfl rfl Tryd.func93 (by kernel_rfl) rfl #[.int .i64 2, .slice Ao20 y203.length co20] rfl (by (try simp only [List.map_toArray, List.map_cons, List.map_nil]); first | done | rfl | (simp only [List.length_drop, List.length_take]; rfl)) ?_; (with_reducible refine (value_null.calls k 2 _ _ y203 t206 false _ ?side1 ?side2 A2.out).mono ?_); (case side1 => repeat (first | exact (Kd.R_reads' HO205.out).2.2 | (with_reducible refine Kd.C_alloc ?_ _) | (with_reducible refine Kd.C_drewN ?_ _) | (with_reducible refine Kd.C_drew ?_))); (case side2 => exact (Kd.R_reads' HO205.out).2.1); rintro e w21 ⟨rfl, hb⟩; refine ⟨_, rfl, ?_⟩; have n0_ := Asd.mk (Kd.R_below (by (with_reducible repeat (first | apply Kd.R_alloc | apply Kd.R_drewN | apply Kd.R_drew)); exact HO205.out) hb); have n1_ := Asd.mk (bB hb BK201.out); have n2_ := Asd.mk (bB hb BK202.out); have n3_ := Asd.mk (bS hb HB.out); clear HO205; clear BK201; clear BK202; clear HB; have HO205 := n0_; have BK201 := n1_; have BK202 := n2_; have HB := n3_; clear n0_ n1_ n2_ n3_; (try clear hb); (try clear hb2); (try clear hk); (try clear hi); obtain ⟨hcz22_0, hcz22_1, hcz22_2⟩ := bkC3 BK201.out; obtain ⟨hfz22_0, hfz22_1, hfz22_2⟩ := bkF3 BK201.out) | ((with_reducible refine gate_callee (f := 98) rfl ?_); refine goesL_ (some 18) rfl rfl Tryd.func98 (by kernel_rfl) rfl #[.bool (a0_1 == 0)] rfl (by (try simp only [List.map_toArray, List.map_cons, List.map_nil]); first | done | rfl | (simp only [List.length_drop, List.length_take]; rfl)) ?_; (with_reducible refine (value_truth.calls (a0_1 == 0) t208 t209 t210 _ A13.out).mono ?_); rintro e w23 ⟨rfl, hb⟩; refine ⟨_, rfl, ?_⟩; have n0_ := Asd.mk (Kd.R_below (by (with_reducible repeat (first | apply Kd.R_alloc | apply Kd.R_drewN | apply Kd.R_drew)); exact HO205.out) hb); have n1_ := Asd.mk (bB hb BK201.out); have n2_ := Asd.mk (bB hb BK202.out); have n3_ := Asd.mk (bS hb HB.out); clear HO205; clear BK201; clear BK202; clear HB; have HO205 := n0_; have BK201 := n1_; have BK202 := n2_; have HB := n3_; clear n0_ n1_ n2_ n3_; (try clear hb); (try clear hb2); (try clear hk); (try clear hi); obtain ⟨hcz24_0, hcz24_1, hcz24_2⟩ := bkC3 BK202.out; obtain ⟨hfz24_0, hfz24_1, hfz24_2⟩ := bkF3 BK202.out))
  refine bodyPost_ret (results_ct rfl _ _ gb202 23 #[.int .i64 t208, .int .i64 t209, .string t210] (0, 0) _ rfl (by refine blk_put (cs := #[.int .i64 t208, .int .i64 t209, .string (⟨#[]⟩ : ByteArray)]) ?_ 2 _ rfl; refine blk_put (cs := #[.int .i64 t208, .int .i64 0, .string (⟨#[]⟩ : ByteArray)]) ?_ 1 _ rfl; refine blk_put (cs := #[.int .i64 0, .int .i64 0, .string (⟨#[]⟩ : ByteArray)]) ?_ 0 _ rfl; exact BK202.out) Tryd.underlying23 rfl (by kernel_rfl)) rfl ?_
  exact ⟨by first | rfl | (simp [errW_none, errW_some] <;> rfl) | (simp [*, errW_none, errW_some] <;> rfl), by repeat (first | (with_reducible first | exact HB.out | apply blA | apply pbN | apply blD | refine blS ?_ GE201.out | refine blS ?_ GE202.out) | exact HB.out)⟩
end Go.Proofs.YtkboodfnegedaaaDoor.E
