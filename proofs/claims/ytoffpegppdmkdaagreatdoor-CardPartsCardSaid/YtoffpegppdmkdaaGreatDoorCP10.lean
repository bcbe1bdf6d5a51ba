/- Contracts and plain lemmas of the functions that the law reaches, part 10. -/
import Derived.Lib.Hide
import Derived.Outline
import Derived.Test.YtoffpegppdmkdaaGreatDoorCP3
import Derived.Test.YtoffpegppdmkdaaGreatDoorCP9
namespace Go.Proofs.YtoffpegppdmkdaaGreatDoor.E
open Go.RowKit Go.Proofs.YtoffpegppdmkdaaGreatDoorW.PrintWords Go.Proofs.YtoffpegppdmkdaaGreatDoorW.PrintLast Go.Proofs.YtoffpegppdmkdaaGreatDoorW.PrintMore
def wantsI (op : Int) : Int := if op < 1 then -1 else if op ≥ 19 then -1 else [0, 0, 0, 0, 2, 2, 2, 2, 1, 2, 2, 2, 2, 2, 2, 2, 2, 1, 1].getD op.toNat 0
def wantsA : Array Value := #[.int .i64 0, .int .i64 0, .int .i64 0, .int .i64 0, .int .i64 2, .int .i64 2, .int .i64 2, .int .i64 2, .int .i64 1, .int .i64 2, .int .i64 2, .int .i64 2, .int .i64 2, .int .i64 2, .int .i64 2, .int .i64 2, .int .i64 2, .int .i64 1, .int .i64 1]
def zerosA : Array Value := #[.int .i64 0, .int .i64 0, .int .i64 0, .int .i64 0, .int .i64 0, .int .i64 0, .int .i64 0, .int .i64 0, .int .i64 0, .int .i64 0, .int .i64 0, .int .i64 0, .int .i64 0, .int .i64 0, .int .i64 0, .int .i64 0, .int .i64 0, .int .i64 0, .int .i64 0]
theorem wants_tbl (n : Nat) (h1 : (1 : Int) ≤ n) (h2 : (n : Int) < 19) : wantsA[n]? = some (.int .i64 (wantsI n)) := by
  have h3 : n = 1 ∨ n = 2 ∨ n = 3 ∨ n = 4 ∨ n = 5 ∨ n = 6 ∨ n = 7 ∨ n = 8 ∨ n = 9 ∨ n = 10 ∨ n = 11 ∨ n = 12 ∨ n = 13 ∨ n = 14 ∨ n = 15 ∨ n = 16 ∨ n = 17 ∨ n = 18 := by omega
  rcases h3 with rfl | rfl | rfl | rfl | rfl | rfl | rfl | rfl | rfl | rfl | rfl | rfl | rfl | rfl | rfl | rfl | rfl | rfl <;> rfl
theorem info_tbl : (Tryz.prog.info? 158).map (·.size) = some wantsA.size := by kernel_rfl
theorem one_tbl : wantsA.all (·.oneCell') = true := by kernel_rfl
theorem below_setRow' {B g : Nat} {w0 w : World} (hb : Below B w0 w) (hBg : B ≤ g) (cs : Array Value) : Below B w0 (w.setRow g cs) :=
  hb.trans ⟨rfl, rfl, rfl, by simp [World.setRow], fun k hk => by simp [World.setRow, Array.getElem?_modify, show ¬ g = k by omega]⟩
theorem setRow_at (w : World) (g : Nat) (t : TypeId) (cs ds : Array Value) (h : w.heap[g]? = some (.cells cs t (0, 0))) : (w.setRow g ds).heap[g]? = some (.cells ds t (0, 0)) := by
  simp [World.setRow, Array.getElem?_modify, h]
def expr_wants.f (a0 : Int) : Option (Int) := some (wantsI a0)
set_option maxHeartbeats 1000000 in
set_option maxRecDepth 100000 in
theorem expr_wants.calls (a0 : Int) (r : Int) (w : World) (h : expr_wants.f a0 = some r) :
    Calls Tryz.prog 105 #[.int .i64 a0] w fun e w' => e = .returned (.int .i64 r) ∧ Below w.heap.size w w' := by
  obtain rfl := Option.some.inj h
  clear h
  go_enter Tryz.func105, Tryz.ntmps105
  go_upto_region 2 with (first
    | ((with_reducible refine gate_dst (N := 4) rfl ?_); refine Kd.event_run rfl (v := .agg wantsA) (w1 := w) (by kernel_rfl) ?_)
    | ((with_reducible refine gate_dst (N := 3) rfl ?_); refine box_event rfl (N := 3) rfl (cs := zerosA) (t := 158) (by kernel_rfl) ?_; intro g hg w1 hb hB; have hwg : w.heap.size ≤ g := (by rw [hg]; exact Nat.le_refl _); clear hg)
    | ((with_reducible refine gate_store (p := 3) (v := .tmp 4) rfl ?_); refine wpList_store_row rfl 158 (.tmp 3) (.tmp 4) rfl g wantsA rfl rfl 158 zerosA hb info_tbl rfl one_tbl ?_; have hb2 := setRow_at w1 g _ zerosA wantsA hb; have hB2 := below_setRow' hB hwg wantsA; clear hb hB hwg; generalize w1.setRow g wantsA = w2 at hb2 hB2 ⊢))
  by_cases h1 : a0 < 1
  · have hr : wantsI a0 = -1 := by simp [wantsI, h1]
    have HR := Lib.hid hr; clear hr
    go_wp2_with fail
    go_ret
    exact ⟨by rw [HR.out]; rfl, hB2⟩
  · by_cases h2 : a0 ≥ 19
    · have hr : wantsI a0 = -1 := by simp [wantsI, h1, h2]
      have HR := Lib.hid hr; clear hr
      go_wp2_with fail
      go_ret
      exact ⟨by rw [HR.out]; rfl, hB2⟩
    · obtain ⟨n, rfl⟩ : ∃ n : Nat, a0 = n := ⟨a0.toNat, by omega⟩
      have h3 : (1 : Int) ≤ n := by omega
      have h4 : (n : Int) < 19 := by omega
      clear h1 h2
      have hcell : w2.cell? ⟨g, n, none⟩ = some (.int .i64 (wantsI n)) := (bkC hb2 n).trans (wants_tbl n h3 h4)
      clear hb2
      go_wp2_with fail
      go_ret
      exact ⟨rfl, hB2⟩
end Go.Proofs.YtoffpegppdmkdaaGreatDoor.E
namespace Go.Proofs.YtoffpegppdmkdaaGreatDoor.E
open Go.RowKit Go.Proofs.YtoffpegppdmkdaaGreatDoorW.PrintWords Go.Proofs.YtoffpegppdmkdaaGreatDoorW.PrintLast Go.Proofs.YtoffpegppdmkdaaGreatDoorW.PrintMore
attribute [local go_sem] max2_int min2_int max_two min_two max_three min_three max_four min_four   -- for this text's walks alone
set_option linter.unusedVariables false
set_option linter.unusedSimpArgs false
attribute [local go_sem high] eqA23
def expr_own.j0 : Nat → Bool → Int → Int → Int → ByteArray → Int → Int → Int → ByteArray → List (S26) → Option (Bool)
 | 0, _, _, _, _, _, _, _, _, _, _ => none
 | k + 1, x14, x103000, x103001, x103002, x103003, x103004, x103005, x103006, x103007, x103008 => if x14 = true then (some false) else (if x103000 = 1 then ((value_Right.f x103001 x103002 x103003).bind fun t104 => (if t104 = true then (if x103004 = 0 then (if x103005 = 0 then (some (x103006 == 0)) else (some false)) else (some false)) else (some false))) else (if x103000 = 2 then (if x103004 ≥ 0 then (if x103004 ≤ 15 then (if x103005 ≥ 0 then (if x103005 < 6 then (if x103006 = 0 then (some (x103001 == 0 && (x103002 == 0 && (x103003.toList == ([] : List UInt8))))) else (some false)) else (some false)) else (some false)) else (some false)) else (some false)) else (if x103000 = 3 then (if x103006 ≥ 1 then (if x103006 ≤ 4 then (if x103004 = 0 then (if x103005 = 0 then (some (x103001 == 0 && (x103002 == 0 && (x103003.toList == ([] : List UInt8))))) else (some false)) else (some false)) else (some false)) else (some false)) else (if x103004 = 0 then (if x103005 = 0 then (if x103006 = 0 then (some (x103001 == 0 && (x103002 == 0 && (x103003.toList == ([] : List UInt8))))) else (some false)) else (some false)) else (some false)))))
def expr_own.f (k : Nat) (a0_0 : Int) (a0_1 : Int) (a0_2 : Int) (a0_3 : ByteArray) (a0_4 : Int) (a0_5 : Int) (a0_6 : Int) (a0_7 : ByteArray) (l0_8 : List (S26)) : Option (Bool) := if a0_7.toList = ([] : List UInt8) then ((expr_wants.f a0_0).bind fun t103 => (expr_own.j0 k ((l0_8.length : Int) != t103) a0_0 a0_1 a0_2 a0_3 a0_4 a0_5 a0_6 a0_7 l0_8)) else (expr_own.j0 k true a0_0 a0_1 a0_2 a0_3 a0_4 a0_5 a0_6 a0_7 l0_8)
def expr_own.T1 : Bool × List (List Nat × List Nat) := (true, [([], []), ([0], [0]), ([1], [1]), ([2], [2]), ([3], [3]), ([4, 3], [3, 4]), ([5, 3], [3, 5]), ([3], [3]), ([7, 3], [3, 7]), ([8, 3, 3], [3, 8]), ([6, 9, 3], [3, 6, 9]), ([3, 10], [3, 10])])
def expr_own.B1 : List Nat := [0, 1, 3, 7, 15, 31, 63, 15, 143, 399, 1023, 2047]
theorem expr_own.tab1 : rtab .any (opsOf Tryz.f84 1) = expr_own.T1 := by kernel_rfl
theorem expr_own.bits1 : waitsOk expr_own.T1.2 expr_own.B1 = true := by kernel_rfl
set_option maxHeartbeats 8000000 in
set_option maxRecDepth 100000 in
theorem expr_own.calls (k : Nat) (a0_0 : Int) (a0_1 : Int) (a0_2 : Int) (a0_3 : ByteArray) (a0_4 : Int) (a0_5 : Int) (a0_6 : Int) (a0_7 : ByteArray) (A0_8 : Option Addr) (c0_8 : Nat) (l0_8 : List (S26)) (r : Bool) (w : World) (hr0_8 : Kd.C k26 w A0_8 l0_8.length l0_8) (hc0_8 : l0_8.length ≤ c0_8) (h : expr_own.f k a0_0 a0_1 a0_2 a0_3 a0_4 a0_5 a0_6 a0_7 l0_8 = some r) :
  Calls Tryz.prog 84 #[.agg #[.int .i64 a0_0, .int .i64 a0_1, .int .i64 a0_2, .string a0_3, .int .i64 a0_4, .int .i64 a0_5, .int .i64 a0_6, .string a0_7, .slice A0_8 l0_8.length c0_8]] w fun e w' => e = .returned (.bool r) ∧ Below w.heap.size w w' := by
 have hu26 := Tryz.underlying26
 have hu23 := Tryz.underlying23
 have HR0_8 := Asd.mk hr0_8
 have HC0_8 := Asd.mk hc0_8
 clear hr0_8 hc0_8
 have HB := Asd.mk (Below.refl w.heap.size w)
 have H : (if a0_7.toList = ([] : List UInt8) then ((expr_wants.f a0_0).bind fun t103 => (expr_own.j0 k ((l0_8.length : Int) != t103) a0_0 a0_1 a0_2 a0_3 a0_4 a0_5 a0_6 a0_7 l0_8)) else (expr_own.j0 k true a0_0 a0_1 a0_2 a0_3 a0_4 a0_5 a0_6 a0_7 l0_8)) = some r := h
 clear h
 have HC2 := Asd.mk H
 clear H
 go_enter Tryz.func84, Tryz.ntmps84
 go_upto_region 1 with (first | ((with_reducible refine gate_dst (N := 1) rfl ?_); (try (refine gate_guard (by rfl) ?_; dsimp only)); refine box_event rfl (N := 1) rfl (cs := #[.int .i64 a0_0, .int .i64 a0_1, .int .i64 a0_2, .string a0_3, .int .i64 a0_4, .int .i64 a0_5, .int .i64 a0_6, .string a0_7, .slice A0_8 l0_8.length c0_8]) (t := 26) (by first | (go_simp; done) | (go_simp; rfl)) ?_; intro gb102 hg w3 hbox hb; have n0_ := Asd.mk (below_step (by repeat (first | (with_reducible first | exact HB.out | apply blA | apply pbN | apply blD) | exact HB.out)) hb); have n1_ := Asd.mk (hbox); have n2_ := Asd.mk ((by rw [hg]; exact (below_size (by repeat (first | (with_reducible first | exact HB.out | apply blA | apply pbN | apply blD) | exact HB.out))) : w.heap.size ≤ gb102)); have n3_ := Asd.mk ((by rw [hg]; exact (below_size (by repeat (first | (with_reducible first | exact HB.out | apply blA | apply pbN | apply blD) | exact HB.out))) : w.heap.size ≤ gb102)); clear HB; have HB := n0_; have BK102 := n1_; have GW102 := n2_; have GE102 := n3_; clear n0_ n1_ n2_ n3_; clear hb hbox hg))
 (try simp only [Act.put, List.setIfInBounds_toArray, List.set_cons_zero, List.set_cons_succ])
 go_cut [14] (fun v14 wc => ∃ (kq : Nat) (x14_1 : Bool), v14 = .bool x14_1 ∧ Asd (expr_own.j0 kq x14_1 a0_0 a0_1 a0_2 a0_3 a0_4 a0_5 a0_6 a0_7 l0_8 = some r) ∧ Asd (kq ≤ k) ∧ Asd (wc.heap[gb102]? = some (.cells #[.int .i64 a0_0, .int .i64 a0_1, .int .i64 a0_2, .string a0_3, .int .i64 a0_4, .int .i64 a0_5, .int .i64 a0_6, .string a0_7, (.slice A0_8 l0_8.length c0_8)] 26 (0, 0))) ∧ Asd (Below w.heap.size w wc))
 case first =>
  have H := HC2.out
  clear HC2
  by_cases c4 : a0_7.toList = ([] : List UInt8)
  ·rw [if_pos c4] at H
   have c4b0 : (a0_7.toList == ([] : List UInt8)) = true := beq_iff_eq.mpr c4
   have c4b1 : (a0_7.toList != ([] : List UInt8)) = false := bne_eq_false_iff_eq.mpr c4
   clear c4
   (first | rw [c4b0] | (simp only [i64_w, i32_w]; rw [c4b0]) | skip)
   replace H := Option.bind_eq_some_iff.mp H
   obtain ⟨t103, A50, H⟩ := H
   replace H : (expr_own.j0 k ((l0_8.length : Int) != t103) a0_0 a0_1 a0_2 a0_3 a0_4 a0_5 a0_6 a0_7 l0_8) = some r := H
   have A5 := Asd.mk A50
   clear A50
   have H' := Asd.mk H
   clear H
   try go_wp2
   have n0_ := Asd.mk (bkD BK102.out)
   have n1_ := Asd.mk (blD HB.out)
   clear BK102 HB
   have BK102 := n0_
   have HB := n1_
   clear n0_ n1_
   refine start_ (n := 12) (S := fun w' => w'.cell? ⟨gb102, 0, none⟩ = some (.int .i64 a0_0) ∧ w'.cell? ⟨gb102, 1, none⟩ = some (.int .i64 a0_1) ∧ w'.cell? ⟨gb102, 2, none⟩ = some (.int .i64 a0_2) ∧ w'.cell? ⟨gb102, 3, none⟩ = some (.string a0_3) ∧ w'.cell? ⟨gb102, 4, none⟩ = some (.int .i64 a0_4) ∧ w'.cell? ⟨gb102, 5, none⟩ = some (.int .i64 a0_5) ∧ w'.cell? ⟨gb102, 6, none⟩ = some (.int .i64 a0_6) ∧ w'.cell? ⟨gb102, 7, none⟩ = some (.string a0_7) ∧ w'.cell? ⟨gb102, 8, none⟩ = some (.slice A0_8 l0_8.length c0_8)) (ds := []) #[false, false, false, false, false, false, false, false, false, false, false, false] (by kernel_rfl) rfl rfl ⟨(bkC BK102.out 0).trans rfl, (bkC BK102.out 1).trans rfl, (bkC BK102.out 2).trans rfl, (bkC BK102.out 3).trans rfl, (bkC BK102.out 4).trans rfl, (bkC BK102.out 5).trans rfl, (bkC BK102.out 6).trans rfl, (bkC BK102.out 7).trans rfl, (bkC BK102.out 8).trans rfl⟩ (fun hHeld => ?_); refine with_tabW expr_own.tab1 expr_own.bits1 (fun HT_ HW_ => ?_)
   generalize w3.drew = w6 at BK102 HB hHeld ⊢
   refine pure_ (i := 0) (N := some 3) (v := ?_) (a' := ?_) #[true, false, false, false, false, false, false, false, false, false, false, false] rfl rfl (any_of HT_.out (by kernel_rfl)) (fun _ _ _ h => h) (Or.inl ⟨by rfl, ?_⟩) ?_ ?_
   rotate_left
   ·intro w'
    go_simp
    with_reducible rfl
   rotate_left
   ·simp only [Act.put, List.setIfInBounds_toArray, List.set_cons_zero, List.set_cons_succ, i64_w, i32_w]
    rfl
   refine take_ (i := 1) (N := some 4) (v := ?_) (a' := ?_) #[true, true, false, false, false, false, false, false, false, false, false, false] rfl rfl (take_ofW HT_.out HW_.out (by kernel_rfl)) (fun _ _ _ h => h) (Or.inl ⟨by rfl, ?_⟩) hHeld ?_ ?_
   rotate_left
   ·rintro w' ⟨s0, s1, s2, s3, s4, s5, s6, s7, s8⟩
    go_simp
    with_reducible rfl
   rotate_left
   ·simp only [Act.put, List.setIfInBounds_toArray, List.set_cons_zero, List.set_cons_succ, i64_w, i32_w]
    rfl
   refine pure_ (i := 2) (N := some 5) (v := ?_) (a' := ?_) #[true, true, true, false, false, false, false, false, false, false, false, false] rfl rfl (any_of HT_.out (by kernel_rfl)) (fun _ _ _ h => h) (Or.inl ⟨by rfl, ?_⟩) ?_ ?_
   rotate_left
   ·intro w'
    go_simp
    with_reducible rfl
   rotate_left
   ·simp only [Act.put, List.setIfInBounds_toArray, List.set_cons_zero, List.set_cons_succ, i64_w, i32_w]
    rfl
   refine pure_ (i := 3) (N := some 6) (v := ?_) (a' := ?_) #[true, true, true, true, false, false, false, false, false, false, false, false] rfl rfl (any_of HT_.out (by kernel_rfl)) (fun _ _ _ h => h) (Or.inl ⟨by rfl, ?_⟩) ?_ ?_
   rotate_left
   ·intro w'
    go_simp
    with_reducible rfl
   rotate_left
   ·simp only [Act.put, List.setIfInBounds_toArray, List.set_cons_zero, List.set_cons_succ, i64_w, i32_w]
    rfl
   refine pure_ (i := 4) (N := some 7) (v := ?_) (a' := ?_) #[true, true, true, true, true, false, false, false, false, false, false, false] rfl rfl (any_of HT_.out (by kernel_rfl)) (fun _ _ _ h => h) (Or.inl ⟨by rfl, ?_⟩) ?_ ?_
   rotate_left
   ·intro w'
    go_simp
    with_reducible rfl
   rotate_left
   ·simp only [Act.put, List.setIfInBounds_toArray, List.set_cons_zero, List.set_cons_succ, i64_w, i32_w]
    rfl
   refine pure_ (i := 7) (N := some 10) (v := ?_) (a' := ?_) #[true, true, true, true, true, false, false, true, false, false, false, false] rfl rfl (any_of HT_.out (by kernel_rfl)) (fun _ _ _ h => h) (Or.inl ⟨by rfl, ?_⟩) ?_ ?_
   rotate_left
   ·intro w'
    go_simp
    with_reducible rfl
   rotate_left
   ·simp only [Act.put, List.setIfInBounds_toArray, List.set_cons_zero, List.set_cons_succ, i64_w, i32_w]
    rfl
   refine take_ (i := 5) (N := some 8) (v := ?_) (a' := ?_) #[true, true, true, true, true, true, false, true, false, false, false, false] rfl rfl (take_ofW HT_.out HW_.out (by kernel_rfl)) (fun _ _ _ h => h) (Or.inl ⟨by rfl, ?_⟩) hHeld ?_ ?_
   rotate_left
   ·rintro w' ⟨s0, s1, s2, s3, s4, s5, s6, s7, s8⟩
    go_simp
    with_reducible rfl
   rotate_left
   ·simp only [Act.put, List.setIfInBounds_toArray, List.set_cons_zero, List.set_cons_succ, i64_w, i32_w]
    rfl
   refine pure_ (i := 6) (N := some 9) (v := ?_) (a' := ?_) #[true, true, true, true, true, true, true, true, false, false, false, false] rfl rfl (any_of HT_.out (by kernel_rfl)) (fun _ _ _ h => h) (Or.inl ⟨by rfl, ?_⟩) ?_ ?_
   rotate_left
   ·intro w'
    go_simp
    with_reducible rfl
   rotate_left
   ·simp only [Act.put, List.setIfInBounds_toArray, List.set_cons_zero, List.set_cons_succ, i64_w, i32_w]
    rfl
   refine take_ (i := 8) (N := some 11) (v := ?_) (a' := ?_) #[true, true, true, true, true, true, true, true, true, false, false, false] rfl rfl (take_ofW HT_.out HW_.out (by kernel_rfl)) (fun _ _ _ h => h) (Or.inl ⟨by rfl, ?_⟩) hHeld ?_ ?_
   rotate_left
   ·rintro w' ⟨s0, s1, s2, s3, s4, s5, s6, s7, s8⟩
    go_simp
    with_reducible rfl
   rotate_left
   ·simp only [Act.put, List.setIfInBounds_toArray, List.set_cons_zero, List.set_cons_succ, i64_w, i32_w]
    rfl
   refine one_ (i := 9) (N := some 12) #[true, true, true, true, true, true, true, true, true, true, false, false] rfl rfl (one_of HT_.out (by kernel_rfl)) (by decide) (fun K hK => ?_)
   refine goes_ Tryz.func105 (by kernel_rfl) rfl #[.int .i64 a0_0] (by rfl) rfl rfl (by (try simp only [List.map_toArray, List.map_cons, List.map_nil]); first | done | rfl | (simp only [List.length_drop, List.length_take]; rfl)) ?_
   with_reducible refine (expr_wants.calls a0_0 t103 _ A5.out).mono ?_
   rintro e w7 ⟨rfl, hb⟩
   refine ⟨_, rfl, ?_⟩
   have n0_ := Asd.mk (blk_below (g := gb102) (by (with_reducible repeat (first | refine bkN ?_ _ | refine bkD ?_ | refine bkA ?_ _)); exact BK102.out) hb)
   have n1_ := Asd.mk (below_step (by repeat (first | (with_reducible first | exact HB.out | apply blA | apply pbN | apply blD | refine blS ?_ GE102.out) | exact HB.out)) hb)
   clear BK102 HB
   have BK102 := n0_
   have HB := n1_
   clear n0_ n1_
   (try clear hb)
   (try clear hb2)
   (try clear hk)
   (try clear hi)
   refine hK.out _ _ ⟨(bkC BK102.out 0).trans rfl, (bkC BK102.out 1).trans rfl, (bkC BK102.out 2).trans rfl, (bkC BK102.out 3).trans rfl, (bkC BK102.out 4).trans rfl, (bkC BK102.out 5).trans rfl, (bkC BK102.out 6).trans rfl, (bkC BK102.out 7).trans rfl, (bkC BK102.out 8).trans rfl⟩ (fun hHeld => ?_)
   clear hK K
   refine norm_ (a' := ?_) ?_ ?_
   rotate_left
   ·show Act.put _ (some 12) _ = _
    simp only [Act.put, List.setIfInBounds_toArray, List.set_cons_zero, List.set_cons_succ, i64_w, i32_w]
    rfl
   refine pure_ (i := 10) (N := some 13) (v := ?_) (a' := ?_) #[true, true, true, true, true, true, true, true, true, true, true, false] rfl rfl (any_of HT_.out (by kernel_rfl)) (fun _ _ _ h => h) (Or.inl ⟨by rfl, ?_⟩) ?_ ?_
   rotate_left
   ·intro w'
    go_simp
    with_reducible rfl
   rotate_left
   ·simp only [Act.put, List.setIfInBounds_toArray, List.set_cons_zero, List.set_cons_succ, i64_w, i32_w]
    rfl
   refine pure_ (i := 11) (N := some 14) (v := ?_) (a' := ?_) #[true, true, true, true, true, true, true, true, true, true, true, true] rfl rfl (any_of HT_.out (by kernel_rfl)) (fun _ _ _ h => h) (Or.inl ⟨by rfl, ?_⟩) ?_ ?_
   rotate_left
   ·intro w'
    go_simp
    with_reducible rfl
   rotate_left
   ·simp only [Act.put, List.setIfInBounds_toArray, List.set_cons_zero, List.set_cons_succ, i64_w, i32_w]
    rfl
   refine done_ (done_of HT_.out (by kernel_rfl)) ?_
   try go_wp2
   go_meet
   case rel => exact ⟨_, (((l0_8.length : Int) != t103)), (by first | rfl | (simp; done) | (simp [*]; done)), H', ⟨by first | omega | exact Nat.le_refl _⟩, ⟨by (with_reducible repeat (first | refine bkN ?_ _ | refine bkD ?_ | refine bkA ?_ _)); exact BK102.out⟩, ⟨by repeat (first | (with_reducible first | exact HB.out | apply blA | apply pbN | apply blD | refine blS ?_ GE102.out) | exact HB.out)⟩⟩
  ·rw [if_neg c4] at H
   have c4b0 : (a0_7.toList == ([] : List UInt8)) = false := beq_eq_false_iff_ne.mpr c4
   have c4b1 : (a0_7.toList != ([] : List UInt8)) = true := bne_iff_ne.mpr c4
   (first | rw [c4b0] | (simp only [i64_w, i32_w]; rw [c4b0]) | skip)
   have H' := Asd.mk H
   clear H
   try go_wp2
   have n0_ := Asd.mk (bkD BK102.out)
   have n1_ := Asd.mk (blD HB.out)
   clear BK102 HB
   have BK102 := n0_
   have HB := n1_
   clear n0_ n1_
   refine start_ (n := 12) (S := fun w' => w'.cell? ⟨gb102, 0, none⟩ = some (.int .i64 a0_0) ∧ w'.cell? ⟨gb102, 1, none⟩ = some (.int .i64 a0_1) ∧ w'.cell? ⟨gb102, 2, none⟩ = some (.int .i64 a0_2) ∧ w'.cell? ⟨gb102, 3, none⟩ = some (.string a0_3) ∧ w'.cell? ⟨gb102, 4, none⟩ = some (.int .i64 a0_4) ∧ w'.cell? ⟨gb102, 5, none⟩ = some (.int .i64 a0_5) ∧ w'.cell? ⟨gb102, 6, none⟩ = some (.int .i64 a0_6) ∧ w'.cell? ⟨gb102, 7, none⟩ = some (.string a0_7) ∧ w'.cell? ⟨gb102, 8, none⟩ = some (.slice A0_8 l0_8.length c0_8)) (ds := []) #[false, false, false, false, false, false, false, false, false, false, false, false] (by kernel_rfl) rfl rfl ⟨(bkC BK102.out 0).trans rfl, (bkC BK102.out 1).trans rfl, (bkC BK102.out 2).trans rfl, (bkC BK102.out 3).trans rfl, (bkC BK102.out 4).trans rfl, (bkC BK102.out 5).trans rfl, (bkC BK102.out 6).trans rfl, (bkC BK102.out 7).trans rfl, (bkC BK102.out 8).trans rfl⟩ (fun hHeld => ?_); refine with_tabW expr_own.tab1 expr_own.bits1 (fun HT_ HW_ => ?_)
   generalize w3.drew = w8 at BK102 HB hHeld ⊢
   refine pure_ (i := 0) (N := some 3) (v := ?_) (a' := ?_) #[true, false, false, false, false, false, false, false, false, false, false, false] rfl rfl (any_of HT_.out (by kernel_rfl)) (fun _ _ _ h => h) (Or.inl ⟨by rfl, ?_⟩) ?_ ?_
   rotate_left
   ·intro w'
    go_simp
    with_reducible rfl
   rotate_left
   ·simp only [Act.put, List.setIfInBounds_toArray, List.set_cons_zero, List.set_cons_succ, i64_w, i32_w]
    rfl
   refine take_ (i := 1) (N := some 4) (v := ?_) (a' := ?_) #[true, true, false, false, false, false, false, false, false, false, false, false] rfl rfl (take_ofW HT_.out HW_.out (by kernel_rfl)) (fun _ _ _ h => h) (Or.inl ⟨by rfl, ?_⟩) hHeld ?_ ?_
   rotate_left
   ·rintro w' ⟨s0, s1, s2, s3, s4, s5, s6, s7, s8⟩
    go_simp
    with_reducible rfl
   rotate_left
   ·simp only [Act.put, List.setIfInBounds_toArray, List.set_cons_zero, List.set_cons_succ, i64_w, i32_w]
    rfl
   refine pure_ (i := 2) (N := some 5) (v := ?_) (a' := ?_) #[true, true, true, false, false, false, false, false, false, false, false, false] rfl rfl (any_of HT_.out (by kernel_rfl)) (fun _ _ _ h => h) (Or.inl ⟨by rfl, ?_⟩) ?_ ?_
   rotate_left
   ·intro w'
    go_simp
    with_reducible rfl
   rotate_left
   ·simp only [Act.put, List.setIfInBounds_toArray, List.set_cons_zero, List.set_cons_succ, i64_w, i32_w]
    rfl
   refine pure_ (i := 3) (N := some 6) (v := ?_) (a' := ?_) #[true, true, true, true, false, false, false, false, false, false, false, false] rfl rfl (any_of HT_.out (by kernel_rfl)) (fun _ _ _ h => h) (Or.inl ⟨by rfl, ?_⟩) ?_ ?_
   rotate_left
   ·intro w'
    go_simp
    with_reducible rfl
   rotate_left
   ·simp only [Act.put, List.setIfInBounds_toArray, List.set_cons_zero, List.set_cons_succ, i64_w, i32_w]
    rfl
   refine pure_ (i := 4) (N := some 7) (v := undef) (a' := ?_) #[true, true, true, true, true, false, false, false, false, false, false, false] rfl rfl (any_of HT_.out (by kernel_rfl)) (fun _ _ _ h => h) (Or.inr ⟨by rfl, rfl⟩) ?_ ?_
   rotate_left
   ·simp only [Act.put, List.setIfInBounds_toArray, List.set_cons_zero, List.set_cons_succ, i64_w, i32_w]
    rfl
   refine pure_ (i := 5) (N := some 8) (v := undef) (a' := ?_) #[true, true, true, true, true, true, false, false, false, false, false, false] rfl rfl (any_of HT_.out (by kernel_rfl)) (fun _ _ _ h => h) (Or.inr ⟨by rfl, rfl⟩) ?_ ?_
   rotate_left
   ·simp only [Act.put, List.setIfInBounds_toArray, List.set_cons_zero, List.set_cons_succ, i64_w, i32_w]
    rfl
   refine pure_ (i := 6) (N := some 9) (v := undef) (a' := ?_) #[true, true, true, true, true, true, true, false, false, false, false, false] rfl rfl (any_of HT_.out (by kernel_rfl)) (fun _ _ _ h => h) (Or.inr ⟨by rfl, rfl⟩) ?_ ?_
   rotate_left
   ·simp only [Act.put, List.setIfInBounds_toArray, List.set_cons_zero, List.set_cons_succ, i64_w, i32_w]
    rfl
   refine pure_ (i := 7) (N := some 10) (v := undef) (a' := ?_) #[true, true, true, true, true, true, true, true, false, false, false, false] rfl rfl (any_of HT_.out (by kernel_rfl)) (fun _ _ _ h => h) (Or.inr ⟨by rfl, rfl⟩) ?_ ?_
   rotate_left
   ·simp only [Act.put, List.setIfInBounds_toArray, List.set_cons_zero, List.set_cons_succ, i64_w, i32_w]
    rfl
   refine pure_ (i := 8) (N := some 11) (v := undef) (a' := ?_) #[true, true, true, true, true, true, true, true, true, false, false, false] rfl rfl (any_of HT_.out (by kernel_rfl)) (fun _ _ _ h => h) (Or.inr ⟨by rfl, rfl⟩) ?_ ?_
   rotate_left
   ·simp only [Act.put, List.setIfInBounds_toArray, List.set_cons_zero, List.set_cons_succ, i64_w, i32_w]
    rfl
   refine pure_ (i := 9) (N := some 12) (v := undef) (a' := ?_) #[true, true, true, true, true, true, true, true, true, true, false, false] rfl rfl (any_of HT_.out (by kernel_rfl)) (fun _ _ _ h => h) (Or.inr ⟨by rfl, rfl⟩) ?_ ?_
   rotate_left
   ·simp only [Act.put, List.setIfInBounds_toArray, List.set_cons_zero, List.set_cons_succ, i64_w, i32_w]
    rfl
   refine pure_ (i := 10) (N := some 13) (v := undef) (a' := ?_) #[true, true, true, true, true, true, true, true, true, true, true, false] rfl rfl (any_of HT_.out (by kernel_rfl)) (fun _ _ _ h => h) (Or.inr ⟨by rfl, rfl⟩) ?_ ?_
   rotate_left
   ·simp only [Act.put, List.setIfInBounds_toArray, List.set_cons_zero, List.set_cons_succ, i64_w, i32_w]
    rfl
   refine pure_ (i := 11) (N := some 14) (v := ?_) (a' := ?_) #[true, true, true, true, true, true, true, true, true, true, true, true] rfl rfl (any_of HT_.out (by kernel_rfl)) (fun _ _ _ h => h) (Or.inl ⟨by rfl, ?_⟩) ?_ ?_
   rotate_left
   ·intro w'
    go_simp
    with_reducible rfl
   rotate_left
   ·simp only [Act.put, List.setIfInBounds_toArray, List.set_cons_zero, List.set_cons_succ, i64_w, i32_w]
    rfl
   refine done_ (done_of HT_.out (by kernel_rfl)) ?_
   try go_wp2
   go_meet
   case rel => exact ⟨_, (true), (by first | rfl | (simp; done) | (simp [*]; done)), H', ⟨by first | omega | exact Nat.le_refl _⟩, ⟨by (with_reducible repeat (first | refine bkN ?_ _ | refine bkD ?_ | refine bkA ?_ _)); exact BK102.out⟩, ⟨by repeat (first | (with_reducible first | exact HB.out | apply blA | apply pbN | apply blD | refine blS ?_ GE102.out) | exact HB.out)⟩⟩
 case rest =>
  clear HC2
  try clear c1
  try clear p2
  try clear c4
  try clear c4b0
  try clear c4b1
  try clear c8
  obtain ⟨kq, x14_1, rfl, HA, HJ1, BK102, HB⟩ := hcut
  cases kq with
  | zero => exact absurd HA.out (by simp [expr_own.j0])
  | succ kj1 =>
   have H := HA.out
   clear HA
   simp only [expr_own.j0] at H
   by_cases c9 : x14_1 = true
   ·subst c9
    have H1 : (some false) = some r := by rw [if_pos rfl] at H; exact H
    clear H
    have H := H1
    clear H1
    obtain rfl := Option.some.inj H
    go_wp2
    go_ret
    exact ⟨by first | rfl | (simp [errW_none, errW_some] <;> rfl) | (simp [*, errW_none, errW_some] <;> rfl), by repeat (first | (with_reducible first | exact HB.out | apply blA | apply pbN | apply blD | refine blS ?_ GE102.out) | exact HB.out)⟩
   ·replace c9 := Bool.eq_false_iff.mpr c9
    subst c9
    have H1 : (if a0_0 = 1 then ((value_Right.f a0_1 a0_2 a0_3).bind fun t104 => (if t104 = true then (if a0_4 = 0 then (if a0_5 = 0 then (some (a0_6 == 0)) else (some false)) else (some false)) else (some false))) else (if a0_0 = 2 then (if a0_4 ≥ 0 then (if a0_4 ≤ 15 then (if a0_5 ≥ 0 then (if a0_5 < 6 then (if a0_6 = 0 then (some (a0_1 == 0 && (a0_2 == 0 && (a0_3.toList == ([] : List UInt8))))) else (some false)) else (some false)) else (some false)) else (some false)) else (some false)) else (if a0_0 = 3 then (if a0_6 ≥ 1 then (if a0_6 ≤ 4 then (if a0_4 = 0 then (if a0_5 = 0 then (some (a0_1 == 0 && (a0_2 == 0 && (a0_3.toList == ([] : List UInt8))))) else (some false)) else (some false)) else (some false)) else (some false)) else (if a0_4 = 0 then (if a0_5 = 0 then (if a0_6 = 0 then (some (a0_1 == 0 && (a0_2 == 0 && (a0_3.toList == ([] : List UInt8))))) else (some false)) else (some false)) else (some false))))) = some r := by rw [if_neg (show ¬ (false = true) by decide)] at H; exact H
    clear H
    have H := H1
    clear H1
    by_cases c10 : a0_0 = 1
    ·rw [if_pos c10] at H
     have c10b0 : (a0_0 == 1) = true := beq_iff_eq.mpr c10
     have c10b1 : (a0_0 != 1) = false := bne_eq_false_iff_eq.mpr c10
     clear c10
     replace H := Option.bind_eq_some_iff.mp H
     obtain ⟨t104, A110, H⟩ := H
     replace H : (if t104 = true then (if a0_4 = 0 then (if a0_5 = 0 then (some (a0_6 == 0)) else (some false)) else (some false)) else (some false)) = some r := H
     have A11 := Asd.mk A110
     clear A110
     by_cases c12 : t104 = true
     ·subst c12
      have H1 : (if a0_4 = 0 then (if a0_5 = 0 then (some (a0_6 == 0)) else (some false)) else (some false)) = some r := by rw [if_pos rfl] at H; exact H
      clear H
      have H := H1
      clear H1
      by_cases c13 : a0_4 = 0
      ·rw [if_pos c13] at H
       have c13b0 : (a0_4 == 0) = true := beq_iff_eq.mpr c13
       have c13b1 : (a0_4 != 0) = false := bne_eq_false_iff_eq.mpr c13
       clear c13
       by_cases c14 : a0_5 = 0
       ·rw [if_pos c14] at H
        have c14b0 : (a0_5 == 0) = true := beq_iff_eq.mpr c14
        have c14b1 : (a0_5 != 0) = false := bne_eq_false_iff_eq.mpr c14
        clear c14
        obtain rfl := Option.some.inj H
        obtain ⟨hcz15_0, hcz15_1, hcz15_2, hcz15_3, hcz15_4, hcz15_5, hcz15_6, hcz15_7, hcz15_8⟩ := bkC9 BK102.out
        obtain ⟨hfz15_0, hfz15_1, hfz15_2, hfz15_3, hfz15_4, hfz15_5, hfz15_6, hfz15_7, hfz15_8⟩ := bkF9 BK102.out
        go_wp2_with (first | ((with_reducible refine gate_callee (f := 106) rfl ?_); refine goesL_ (some 22) rfl rfl Tryz.func106 (by kernel_rfl) rfl #[.agg #[.int .i64 a0_1, .int .i64 a0_2, .string a0_3]] rfl (by (try simp only [List.map_toArray, List.map_cons, List.map_nil]); first | done | rfl | (simp only [List.length_drop, List.length_take]; rfl)) ?_; (with_reducible refine (value_Right.calls a0_1 a0_2 a0_3 true _ A11.out).mono ?_); rintro e w16 ⟨rfl, hb⟩; refine ⟨_, rfl, ?_⟩; have n0_ := Asd.mk (blk_below (g := gb102) (o := .cells #[.int .i64 a0_0, .int .i64 a0_1, .int .i64 a0_2, .string a0_3, .int .i64 a0_4, .int .i64 a0_5, .int .i64 a0_6, .string a0_7, .slice none 0 0] 26 (0, 0)) (by (with_reducible repeat (first | refine bkN ?_ _ | refine bkD ?_ | refine bkA ?_ _)); refine blk_put (cs := #[.int .i64 a0_0, .int .i64 a0_1, .int .i64 a0_2, .string a0_3, .int .i64 a0_4, .int .i64 a0_5, .int .i64 a0_6, .string a0_7, .slice A0_8 l0_8.length c0_8]) ?_ 8 _ rfl; (with_reducible repeat (first | refine bkN ?_ _ | refine bkD ?_ | refine bkA ?_ _)); exact BK102.out) hb); have n1_ := Asd.mk (below_step (by repeat (first | (with_reducible first | exact HB.out | apply blA | apply pbN | apply blD | refine blS ?_ GE102.out) | exact HB.out)) hb); clear BK102; clear HB; have BK102 := n0_; have HB := n1_; clear n0_ n1_; (try clear hb); (try clear hb2); (try clear hk); (try clear hi); obtain ⟨hcz17_0, hcz17_1, hcz17_2, hcz17_3, hcz17_4, hcz17_5, hcz17_6, hcz17_7, hcz17_8⟩ := bkC9 BK102.out; obtain ⟨hfz17_0, hfz17_1, hfz17_2, hfz17_3, hfz17_4, hfz17_5, hfz17_6, hfz17_7, hfz17_8⟩ := bkF9 BK102.out))
        go_ret
        exact ⟨by first | rfl | (simp [errW_none, errW_some] <;> rfl) | (simp [*, errW_none, errW_some] <;> rfl), by repeat (first | (with_reducible first | exact HB.out | apply blA | apply pbN | apply blD | refine blS ?_ GE102.out) | exact HB.out)⟩
       ·rw [if_neg c14] at H
        have c14b0 : (a0_5 == 0) = false := beq_eq_false_iff_ne.mpr c14
        have c14b1 : (a0_5 != 0) = true := bne_iff_ne.mpr c14
        obtain rfl := Option.some.inj H
        obtain ⟨hcz18_0, hcz18_1, hcz18_2, hcz18_3, hcz18_4, hcz18_5, hcz18_6, hcz18_7, hcz18_8⟩ := bkC9 BK102.out
        obtain ⟨hfz18_0, hfz18_1, hfz18_2, hfz18_3, hfz18_4, hfz18_5, hfz18_6, hfz18_7, hfz18_8⟩ := bkF9 BK102.out
        go_wp2_with (first | ((with_reducible refine gate_callee (f := 106) rfl ?_); refine goesL_ (some 22) rfl rfl Tryz.func106 (by kernel_rfl) rfl #[.agg #[.int .i64 a0_1, .int .i64 a0_2, .string a0_3]] rfl (by (try simp only [List.map_toArray, List.map_cons, List.map_nil]); first | done | rfl | (simp only [List.length_drop, List.length_take]; rfl)) ?_; (with_reducible refine (value_Right.calls a0_1 a0_2 a0_3 true _ A11.out).mono ?_); rintro e w19 ⟨rfl, hb⟩; refine ⟨_, rfl, ?_⟩; have n0_ := Asd.mk (blk_below (g := gb102) (o := .cells #[.int .i64 a0_0, .int .i64 a0_1, .int .i64 a0_2, .string a0_3, .int .i64 a0_4, .int .i64 a0_5, .int .i64 a0_6, .string a0_7, .slice none 0 0] 26 (0, 0)) (by (with_reducible repeat (first | refine bkN ?_ _ | refine bkD ?_ | refine bkA ?_ _)); refine blk_put (cs := #[.int .i64 a0_0, .int .i64 a0_1, .int .i64 a0_2, .string a0_3, .int .i64 a0_4, .int .i64 a0_5, .int .i64 a0_6, .string a0_7, .slice A0_8 l0_8.length c0_8]) ?_ 8 _ rfl; (with_reducible repeat (first | refine bkN ?_ _ | refine bkD ?_ | refine bkA ?_ _)); exact BK102.out) hb); have n1_ := Asd.mk (below_step (by repeat (first | (with_reducible first | exact HB.out | apply blA | apply pbN | apply blD | refine blS ?_ GE102.out) | exact HB.out)) hb); clear BK102; clear HB; have BK102 := n0_; have HB := n1_; clear n0_ n1_; (try clear hb); (try clear hb2); (try clear hk); (try clear hi); obtain ⟨hcz20_0, hcz20_1, hcz20_2, hcz20_3, hcz20_4, hcz20_5, hcz20_6, hcz20_7, hcz20_8⟩ := bkC9 BK102.out; obtain ⟨hfz20_0, hfz20_1, hfz20_2, hfz20_3, hfz20_4, hfz20_5, hfz20_6, hfz20_7, hfz20_8⟩ := bkF9 BK102.out))
        go_ret
        exact ⟨by first | rfl | (simp [errW_none, errW_some] <;> rfl) | (simp [*, errW_none, errW_some] <;> rfl), by repeat (first | (with_reducible first | exact HB.out | apply blA | apply pbN | apply blD | refine blS ?_ GE102.out) | exact HB.out)⟩
      ·rw [if_neg c13] at H
       have c13b0 : (a0_4 == 0) = false := beq_eq_false_iff_ne.mpr c13
       have c13b1 : (a0_4 != 0) = true := bne_iff_ne.mpr c13
       obtain rfl := Option.some.inj H
       obtain ⟨hcz21_0, hcz21_1, hcz21_2, hcz21_3, hcz21_4, hcz21_5, hcz21_6, hcz21_7, hcz21_8⟩ := bkC9 BK102.out
       obtain ⟨hfz21_0, hfz21_1, hfz21_2, hfz21_3, hfz21_4, hfz21_5, hfz21_6, hfz21_7, hfz21_8⟩ := bkF9 BK102.out
       go_wp2_with (first | ((with_reducible refine gate_callee (f := 106) rfl ?_); refine goesL_ (some 22) rfl rfl Tryz.func106 (by kernel_rfl) rfl #[.agg #[.int .i64 a0_1, .int .i64 a0_2, .string a0_3]] rfl (by (try simp only [List.map_toArray, List.map_cons, List.map_nil]); first | done | rfl | (simp only [List.length_drop, List.length_take]; rfl)) ?_; (with_reducible refine (value_Right.calls a0_1 a0_2 a0_3 true _ A11.out).mono ?_); rintro e w22 ⟨rfl, hb⟩; refine ⟨_, rfl, ?_⟩; have n0_ := Asd.mk (blk_below (g := gb102) (o := .cells #[.int .i64 a0_0, .int .i64 a0_1, .int .i64 a0_2, .string a0_3, .int .i64 a0_4, .int .i64 a0_5, .int .i64 a0_6, .string a0_7, .slice none 0 0] 26 (0, 0)) (by (with_reducible repeat (first | refine bkN ?_ _ | refine bkD ?_ | refine bkA ?_ _)); refine blk_put (cs := #[.int .i64 a0_0, .int .i64 a0_1, .int .i64 a0_2, .string a0_3, .int .i64 a0_4, .int .i64 a0_5, .int .i64 a0_6, .string a0_7, .slice A0_8 l0_8.length c0_8]) ?_ 8 _ rfl; (with_reducible repeat (first | refine bkN ?_ _ | refine bkD ?_ | refine bkA ?_ _)); exact BK102.out) hb); have n1_ := Asd.mk (below_step (by repeat (first | (with_reducible first | exact HB.out | apply blA | apply pbN | apply blD | refine blS ?_ GE102.out) | exact HB.out)) hb); clear BK102; clear HB; have BK102 := n0_; have HB := n1_; clear n0_ n1_; (try clear hb); (try clear hb2); (try clear hk); (try clear hi); obtain ⟨hcz23_0, hcz23_1, hcz23_2, hcz23_3, hcz23_4, hcz23_5, hcz23_6, hcz23_7, hcz23_8⟩ := bkC9 BK102.out; obtain ⟨hfz23_0, hfz23_1, hfz23_2, hfz23_3, hfz23_4, hfz23_5, hfz23_6, hfz23_7, hfz23_8⟩ := bkF9 BK102.out))
       go_ret
       exact ⟨by first | rfl | (simp [errW_none, errW_some] <;> rfl) | (simp [*, errW_none, errW_some] <;> rfl), by repeat (first | (with_reducible first | exact HB.out | apply blA | apply pbN | apply blD | refine blS ?_ GE102.out) | exact HB.out)⟩
     ·replace c12 := Bool.eq_false_iff.mpr c12
      subst c12
      have H1 : (some false) = some r := by rw [if_neg (show ¬ (false = true) by decide)] at H; exact H
      clear H
      have H := H1
      clear H1
      obtain rfl := Option.some.inj H
      obtain ⟨hcz24_0, hcz24_1, hcz24_2, hcz24_3, hcz24_4, hcz24_5, hcz24_6, hcz24_7, hcz24_8⟩ := bkC9 BK102.out
      obtain ⟨hfz24_0, hfz24_1, hfz24_2, hfz24_3, hfz24_4, hfz24_5, hfz24_6, hfz24_7, hfz24_8⟩ := bkF9 BK102.out
      go_wp2_with (first | ((with_reducible refine gate_callee (f := 106) rfl ?_); refine goesL_ (some 22) rfl rfl Tryz.func106 (by kernel_rfl) rfl #[.agg #[.int .i64 a0_1, .int .i64 a0_2, .string a0_3]] rfl (by (try simp only [List.map_toArray, List.map_cons, List.map_nil]); first | done | rfl | (simp only [List.length_drop, List.length_take]; rfl)) ?_; (with_reducible refine (value_Right.calls a0_1 a0_2 a0_3 false _ A11.out).mono ?_); rintro e w25 ⟨rfl, hb⟩; refine ⟨_, rfl, ?_⟩; have n0_ := Asd.mk (blk_below (g := gb102) (o := .cells #[.int .i64 a0_0, .int .i64 a0_1, .int .i64 a0_2, .string a0_3, .int .i64 a0_4, .int .i64 a0_5, .int .i64 a0_6, .string a0_7, .slice none 0 0] 26 (0, 0)) (by (with_reducible repeat (first | refine bkN ?_ _ | refine bkD ?_ | refine bkA ?_ _)); refine blk_put (cs := #[.int .i64 a0_0, .int .i64 a0_1, .int .i64 a0_2, .string a0_3, .int .i64 a0_4, .int .i64 a0_5, .int .i64 a0_6, .string a0_7, .slice A0_8 l0_8.length c0_8]) ?_ 8 _ rfl; (with_reducible repeat (first | refine bkN ?_ _ | refine bkD ?_ | refine bkA ?_ _)); exact BK102.out) hb); have n1_ := Asd.mk (below_step (by repeat (first | (with_reducible first | exact HB.out | apply blA | apply pbN | apply blD | refine blS ?_ GE102.out) | exact HB.out)) hb); clear BK102; clear HB; have BK102 := n0_; have HB := n1_; clear n0_ n1_; (try clear hb); (try clear hb2); (try clear hk); (try clear hi)))
      go_ret
      exact ⟨by first | rfl | (simp [errW_none, errW_some] <;> rfl) | (simp [*, errW_none, errW_some] <;> rfl), by repeat (first | (with_reducible first | exact HB.out | apply blA | apply pbN | apply blD | refine blS ?_ GE102.out) | exact HB.out)⟩
    ·rw [if_neg c10] at H
     have c10b0 : (a0_0 == 1) = false := beq_eq_false_iff_ne.mpr c10
     have c10b1 : (a0_0 != 1) = true := bne_iff_ne.mpr c10
     by_cases c26 : a0_0 = 2
     ·rw [if_pos c26] at H
      have c26b0 : (a0_0 == 2) = true := beq_iff_eq.mpr c26
      have c26b1 : (a0_0 != 2) = false := bne_eq_false_iff_eq.mpr c26
      clear c26
      by_cases c27 : a0_4 ≥ 0
      ·rw [if_pos c27] at H
       have c27b0 : decide (0 ≤ a0_4) = true := decide_eq_true c27
       clear c27
       by_cases c28 : a0_4 ≤ 15
       ·rw [if_pos c28] at H
        have c28b0 : decide (a0_4 ≤ 15) = true := decide_eq_true c28
        clear c28
        by_cases c29 : a0_5 ≥ 0
        ·rw [if_pos c29] at H
         have c29b0 : decide (0 ≤ a0_5) = true := decide_eq_true c29
         clear c29
         by_cases c30 : a0_5 < 6
         ·rw [if_pos c30] at H
          have c30b0 : decide (a0_5 < 6) = true := decide_eq_true c30
          clear c30
          by_cases c31 : a0_6 = 0
          ·rw [if_pos c31] at H
           have c31b0 : (a0_6 == 0) = true := beq_iff_eq.mpr c31
           have c31b1 : (a0_6 != 0) = false := bne_eq_false_iff_eq.mpr c31
           clear c31
           obtain rfl := Option.some.inj H
           obtain ⟨hcz32_0, hcz32_1, hcz32_2, hcz32_3, hcz32_4, hcz32_5, hcz32_6, hcz32_7, hcz32_8⟩ := bkC9 BK102.out
           obtain ⟨hfz32_0, hfz32_1, hfz32_2, hfz32_3, hfz32_4, hfz32_5, hfz32_6, hfz32_7, hfz32_8⟩ := bkF9 BK102.out
           go_wp2
           go_ret
           exact ⟨by first | rfl | (simp [errW_none, errW_some] <;> rfl) | (simp [*, errW_none, errW_some] <;> rfl), by repeat (first | (with_reducible first | exact HB.out | apply blA | apply pbN | apply blD | refine blS ?_ GE102.out) | exact HB.out)⟩
          ·rw [if_neg c31] at H
           have c31b0 : (a0_6 == 0) = false := beq_eq_false_iff_ne.mpr c31
           have c31b1 : (a0_6 != 0) = true := bne_iff_ne.mpr c31
           obtain rfl := Option.some.inj H
           obtain ⟨hcz33_0, hcz33_1, hcz33_2, hcz33_3, hcz33_4, hcz33_5, hcz33_6, hcz33_7, hcz33_8⟩ := bkC9 BK102.out
           obtain ⟨hfz33_0, hfz33_1, hfz33_2, hfz33_3, hfz33_4, hfz33_5, hfz33_6, hfz33_7, hfz33_8⟩ := bkF9 BK102.out
           go_wp2
           go_ret
           exact ⟨by first | rfl | (simp [errW_none, errW_some] <;> rfl) | (simp [*, errW_none, errW_some] <;> rfl), by repeat (first | (with_reducible first | exact HB.out | apply blA | apply pbN | apply blD | refine blS ?_ GE102.out) | exact HB.out)⟩
         ·rw [if_neg c30] at H
          have c30b0 : decide (a0_5 < 6) = false := decide_eq_false c30
          clear c30
          obtain rfl := Option.some.inj H
          obtain ⟨hcz34_0, hcz34_1, hcz34_2, hcz34_3, hcz34_4, hcz34_5, hcz34_6, hcz34_7, hcz34_8⟩ := bkC9 BK102.out
          obtain ⟨hfz34_0, hfz34_1, hfz34_2, hfz34_3, hfz34_4, hfz34_5, hfz34_6, hfz34_7, hfz34_8⟩ := bkF9 BK102.out
          go_wp2
          go_ret
          exact ⟨by first | rfl | (simp [errW_none, errW_some] <;> rfl) | (simp [*, errW_none, errW_some] <;> rfl), by repeat (first | (with_reducible first | exact HB.out | apply blA | apply pbN | apply blD | refine blS ?_ GE102.out) | exact HB.out)⟩
        ·rw [if_neg c29] at H
         have c29b0 : decide (0 ≤ a0_5) = false := decide_eq_false c29
         clear c29
         obtain rfl := Option.some.inj H
         obtain ⟨hcz35_0, hcz35_1, hcz35_2, hcz35_3, hcz35_4, hcz35_5, hcz35_6, hcz35_7, hcz35_8⟩ := bkC9 BK102.out
         obtain ⟨hfz35_0, hfz35_1, hfz35_2, hfz35_3, hfz35_4, hfz35_5, hfz35_6, hfz35_7, hfz35_8⟩ := bkF9 BK102.out
         go_wp2
         go_ret
         exact ⟨by first | rfl | (simp [errW_none, errW_some] <;> rfl) | (simp [*, errW_none, errW_some] <;> rfl), by repeat (first | (with_reducible first | exact HB.out | apply blA | apply pbN | apply blD | refine blS ?_ GE102.out) | exact HB.out)⟩
       ·rw [if_neg c28] at H
        have c28b0 : decide (a0_4 ≤ 15) = false := decide_eq_false c28
        clear c28
        obtain rfl := Option.some.inj H
        obtain ⟨hcz36_0, hcz36_1, hcz36_2, hcz36_3, hcz36_4, hcz36_5, hcz36_6, hcz36_7, hcz36_8⟩ := bkC9 BK102.out
        obtain ⟨hfz36_0, hfz36_1, hfz36_2, hfz36_3, hfz36_4, hfz36_5, hfz36_6, hfz36_7, hfz36_8⟩ := bkF9 BK102.out
        go_wp2
        go_ret
        exact ⟨by first | rfl | (simp [errW_none, errW_some] <;> rfl) | (simp [*, errW_none, errW_some] <;> rfl), by repeat (first | (with_reducible first | exact HB.out | apply blA | apply pbN | apply blD | refine blS ?_ GE102.out) | exact HB.out)⟩
      ·rw [if_neg c27] at H
       have c27b0 : decide (0 ≤ a0_4) = false := decide_eq_false c27
       clear c27
       obtain rfl := Option.some.inj H
       obtain ⟨hcz37_0, hcz37_1, hcz37_2, hcz37_3, hcz37_4, hcz37_5, hcz37_6, hcz37_7, hcz37_8⟩ := bkC9 BK102.out
       obtain ⟨hfz37_0, hfz37_1, hfz37_2, hfz37_3, hfz37_4, hfz37_5, hfz37_6, hfz37_7, hfz37_8⟩ := bkF9 BK102.out
       go_wp2
       go_ret
       exact ⟨by first | rfl | (simp [errW_none, errW_some] <;> rfl) | (simp [*, errW_none, errW_some] <;> rfl), by repeat (first | (with_reducible first | exact HB.out | apply blA | apply pbN | apply blD | refine blS ?_ GE102.out) | exact HB.out)⟩
     ·rw [if_neg c26] at H
      have c26b0 : (a0_0 == 2) = false := beq_eq_false_iff_ne.mpr c26
      have c26b1 : (a0_0 != 2) = true := bne_iff_ne.mpr c26
      by_cases c38 : a0_0 = 3
      ·rw [if_pos c38] at H
       have c38b0 : (a0_0 == 3) = true := beq_iff_eq.mpr c38
       have c38b1 : (a0_0 != 3) = false := bne_eq_false_iff_eq.mpr c38
       clear c38
       by_cases c39 : a0_6 ≥ 1
       ·rw [if_pos c39] at H
        have c39b0 : decide (1 ≤ a0_6) = true := decide_eq_true c39
        clear c39
        by_cases c40 : a0_6 ≤ 4
        ·rw [if_pos c40] at H
         have c40b0 : decide (a0_6 ≤ 4) = true := decide_eq_true c40
         clear c40
         by_cases c41 : a0_4 = 0
         ·rw [if_pos c41] at H
          have c41b0 : (a0_4 == 0) = true := beq_iff_eq.mpr c41
          have c41b1 : (a0_4 != 0) = false := bne_eq_false_iff_eq.mpr c41
          clear c41
          by_cases c42 : a0_5 = 0
          ·rw [if_pos c42] at H
           have c42b0 : (a0_5 == 0) = true := beq_iff_eq.mpr c42
           have c42b1 : (a0_5 != 0) = false := bne_eq_false_iff_eq.mpr c42
           clear c42
           obtain rfl := Option.some.inj H
           obtain ⟨hcz43_0, hcz43_1, hcz43_2, hcz43_3, hcz43_4, hcz43_5, hcz43_6, hcz43_7, hcz43_8⟩ := bkC9 BK102.out
           obtain ⟨hfz43_0, hfz43_1, hfz43_2, hfz43_3, hfz43_4, hfz43_5, hfz43_6, hfz43_7, hfz43_8⟩ := bkF9 BK102.out
           go_wp2
           go_ret
           exact ⟨by first | rfl | (simp [errW_none, errW_some] <;> rfl) | (simp [*, errW_none, errW_some] <;> rfl), by repeat (first | (with_reducible first | exact HB.out | apply blA | apply pbN | apply blD | refine blS ?_ GE102.out) | exact HB.out)⟩
          ·rw [if_neg c42] at H
           have c42b0 : (a0_5 == 0) = false := beq_eq_false_iff_ne.mpr c42
           have c42b1 : (a0_5 != 0) = true := bne_iff_ne.mpr c42
           obtain rfl := Option.some.inj H
           obtain ⟨hcz44_0, hcz44_1, hcz44_2, hcz44_3, hcz44_4, hcz44_5, hcz44_6, hcz44_7, hcz44_8⟩ := bkC9 BK102.out
           obtain ⟨hfz44_0, hfz44_1, hfz44_2, hfz44_3, hfz44_4, hfz44_5, hfz44_6, hfz44_7, hfz44_8⟩ := bkF9 BK102.out
           go_wp2
           go_ret
           exact ⟨by first | rfl | (simp [errW_none, errW_some] <;> rfl) | (simp [*, errW_none, errW_some] <;> rfl), by repeat (first | (with_reducible first | exact HB.out | apply blA | apply pbN | apply blD | refine blS ?_ GE102.out) | exact HB.out)⟩
         ·rw [if_neg c41] at H
          have c41b0 : (a0_4 == 0) = false := beq_eq_false_iff_ne.mpr c41
          have c41b1 : (a0_4 != 0) = true := bne_iff_ne.mpr c41
          obtain rfl := Option.some.inj H
          obtain ⟨hcz45_0, hcz45_1, hcz45_2, hcz45_3, hcz45_4, hcz45_5, hcz45_6, hcz45_7, hcz45_8⟩ := bkC9 BK102.out
          obtain ⟨hfz45_0, hfz45_1, hfz45_2, hfz45_3, hfz45_4, hfz45_5, hfz45_6, hfz45_7, hfz45_8⟩ := bkF9 BK102.out
          go_wp2
          go_ret
          exact ⟨by first | rfl | (simp [errW_none, errW_some] <;> rfl) | (simp [*, errW_none, errW_some] <;> rfl), by repeat (first | (with_reducible first | exact HB.out | apply blA | apply pbN | apply blD | refine blS ?_ GE102.out) | exact HB.out)⟩
        ·rw [if_neg c40] at H
         have c40b0 : decide (a0_6 ≤ 4) = false := decide_eq_false c40
         clear c40
         obtain rfl := Option.some.inj H
         obtain ⟨hcz46_0, hcz46_1, hcz46_2, hcz46_3, hcz46_4, hcz46_5, hcz46_6, hcz46_7, hcz46_8⟩ := bkC9 BK102.out
         obtain ⟨hfz46_0, hfz46_1, hfz46_2, hfz46_3, hfz46_4, hfz46_5, hfz46_6, hfz46_7, hfz46_8⟩ := bkF9 BK102.out
         go_wp2
         go_ret
         exact ⟨by first | rfl | (simp [errW_none, errW_some] <;> rfl) | (simp [*, errW_none, errW_some] <;> rfl), by repeat (first | (with_reducible first | exact HB.out | apply blA | apply pbN | apply blD | refine blS ?_ GE102.out) | exact HB.out)⟩
       ·rw [if_neg c39] at H
        have c39b0 : decide (1 ≤ a0_6) = false := decide_eq_false c39
        clear c39
        obtain rfl := Option.some.inj H
        obtain ⟨hcz47_0, hcz47_1, hcz47_2, hcz47_3, hcz47_4, hcz47_5, hcz47_6, hcz47_7, hcz47_8⟩ := bkC9 BK102.out
        obtain ⟨hfz47_0, hfz47_1, hfz47_2, hfz47_3, hfz47_4, hfz47_5, hfz47_6, hfz47_7, hfz47_8⟩ := bkF9 BK102.out
        go_wp2
        go_ret
        exact ⟨by first | rfl | (simp [errW_none, errW_some] <;> rfl) | (simp [*, errW_none, errW_some] <;> rfl), by repeat (first | (with_reducible first | exact HB.out | apply blA | apply pbN | apply blD | refine blS ?_ GE102.out) | exact HB.out)⟩
      ·rw [if_neg c38] at H
       have c38b0 : (a0_0 == 3) = false := beq_eq_false_iff_ne.mpr c38
       have c38b1 : (a0_0 != 3) = true := bne_iff_ne.mpr c38
       by_cases c48 : a0_4 = 0
       ·rw [if_pos c48] at H
        have c48b0 : (a0_4 == 0) = true := beq_iff_eq.mpr c48
        have c48b1 : (a0_4 != 0) = false := bne_eq_false_iff_eq.mpr c48
        clear c48
        by_cases c49 : a0_5 = 0
        ·rw [if_pos c49] at H
         have c49b0 : (a0_5 == 0) = true := beq_iff_eq.mpr c49
         have c49b1 : (a0_5 != 0) = false := bne_eq_false_iff_eq.mpr c49
         clear c49
         by_cases c50 : a0_6 = 0
         ·rw [if_pos c50] at H
          have c50b0 : (a0_6 == 0) = true := beq_iff_eq.mpr c50
          have c50b1 : (a0_6 != 0) = false := bne_eq_false_iff_eq.mpr c50
          clear c50
          obtain rfl := Option.some.inj H
          obtain ⟨hcz51_0, hcz51_1, hcz51_2, hcz51_3, hcz51_4, hcz51_5, hcz51_6, hcz51_7, hcz51_8⟩ := bkC9 BK102.out
          obtain ⟨hfz51_0, hfz51_1, hfz51_2, hfz51_3, hfz51_4, hfz51_5, hfz51_6, hfz51_7, hfz51_8⟩ := bkF9 BK102.out
          go_wp2
          go_ret
          exact ⟨by first | rfl | (simp [errW_none, errW_some] <;> rfl) | (simp [*, errW_none, errW_some] <;> rfl), by repeat (first | (with_reducible first | exact HB.out | apply blA | apply pbN | apply blD | refine blS ?_ GE102.out) | exact HB.out)⟩
         ·rw [if_neg c50] at H
          have c50b0 : (a0_6 == 0) = false := beq_eq_false_iff_ne.mpr c50
          have c50b1 : (a0_6 != 0) = true := bne_iff_ne.mpr c50
          obtain rfl := Option.some.inj H
          obtain ⟨hcz52_0, hcz52_1, hcz52_2, hcz52_3, hcz52_4, hcz52_5, hcz52_6, hcz52_7, hcz52_8⟩ := bkC9 BK102.out
          obtain ⟨hfz52_0, hfz52_1, hfz52_2, hfz52_3, hfz52_4, hfz52_5, hfz52_6, hfz52_7, hfz52_8⟩ := bkF9 BK102.out
          go_wp2
          go_ret
          exact ⟨by first | rfl | (simp [errW_none, errW_some] <;> rfl) | (simp [*, errW_none, errW_some] <;> rfl), by repeat (first | (with_reducible first | exact HB.out | apply blA | apply pbN | apply blD | refine blS ?_ GE102.out) | exact HB.out)⟩
        ·rw [if_neg c49] at H
         have c49b0 : (a0_5 == 0) = false := beq_eq_false_iff_ne.mpr c49
         have c49b1 : (a0_5 != 0) = true := bne_iff_ne.mpr c49
         obtain rfl := Option.some.inj H
         obtain ⟨hcz53_0, hcz53_1, hcz53_2, hcz53_3, hcz53_4, hcz53_5, hcz53_6, hcz53_7, hcz53_8⟩ := bkC9 BK102.out
         obtain ⟨hfz53_0, hfz53_1, hfz53_2, hfz53_3, hfz53_4, hfz53_5, hfz53_6, hfz53_7, hfz53_8⟩ := bkF9 BK102.out
         go_wp2
         go_ret
         exact ⟨by first | rfl | (simp [errW_none, errW_some] <;> rfl) | (simp [*, errW_none, errW_some] <;> rfl), by repeat (first | (with_reducible first | exact HB.out | apply blA | apply pbN | apply blD | refine blS ?_ GE102.out) | exact HB.out)⟩
       ·rw [if_neg c48] at H
        have c48b0 : (a0_4 == 0) = false := beq_eq_false_iff_ne.mpr c48
        have c48b1 : (a0_4 != 0) = true := bne_iff_ne.mpr c48
        obtain rfl := Option.some.inj H
        obtain ⟨hcz54_0, hcz54_1, hcz54_2, hcz54_3, hcz54_4, hcz54_5, hcz54_6, hcz54_7, hcz54_8⟩ := bkC9 BK102.out
        obtain ⟨hfz54_0, hfz54_1, hfz54_2, hfz54_3, hfz54_4, hfz54_5, hfz54_6, hfz54_7, hfz54_8⟩ := bkF9 BK102.out
        go_wp2
        go_ret
        exact ⟨by first | rfl | (simp [errW_none, errW_some] <;> rfl) | (simp [*, errW_none, errW_some] <;> rfl), by repeat (first | (with_reducible first | exact HB.out | apply blA | apply pbN | apply blD | refine blS ?_ GE102.out) | exact HB.out)⟩
end Go.Proofs.YtoffpegppdmkdaaGreatDoor.E
namespace Go.Proofs.YtoffpegppdmkdaaGreatDoor.E
open Go.RowKit Go.Proofs.YtoffpegppdmkdaaGreatDoorW.PrintWords Go.Proofs.YtoffpegppdmkdaaGreatDoorW.PrintLast Go.Proofs.YtoffpegppdmkdaaGreatDoorW.PrintMore
def exC (e : S26) (A : Option Addr) (c : Nat) : Array Value := #[.int .i64 e.f0, .int .i64 e.f1.f0, .int .i64 e.f1.f1, .string e.f1.f2, .int .i64 e.f2, .int .i64 e.f3, .int .i64 e.f4, .string e.f5, .slice A e.f6.length c]
theorem at_ex {w : World} {A : Option Addr} {n : Nat} {xs : List S26} (h : Kd.C k26 w A n xs) (hn : xs.length = n) (k : Nat) (hk : k < n) :
    ∃ ad A8 c8 e, A = some ad ∧ xs[k]? = some e ∧ w.cell? (ad.add (k * 9)) = some (.int .i64 e.f0) ∧ w.cell? ⟨(ad.add (k * 9)).block, (ad.add (k * 9)).off + 1, none⟩ = some (.int .i64 e.f1.f0) ∧ w.cell? ⟨(ad.add (k * 9)).block, (ad.add (k * 9)).off + 2, none⟩ = some (.int .i64 e.f1.f1) ∧ w.cell? ⟨(ad.add (k * 9)).block, (ad.add (k * 9)).off + 3, none⟩ = some (.string e.f1.f2) ∧ w.cell? ⟨(ad.add (k * 9)).block, (ad.add (k * 9)).off + 4, none⟩ = some (.int .i64 e.f2) ∧ w.cell? ⟨(ad.add (k * 9)).block, (ad.add (k * 9)).off + 5, none⟩ = some (.int .i64 e.f3) ∧ w.cell? ⟨(ad.add (k * 9)).block, (ad.add (k * 9)).off + 6, none⟩ = some (.int .i64 e.f4) ∧ w.cell? ⟨(ad.add (k * 9)).block, (ad.add (k * 9)).off + 7, none⟩ = some (.string e.f5) ∧ w.cell? ⟨(ad.add (k * 9)).block, (ad.add (k * 9)).off + 8, none⟩ = some (.slice A8 e.f6.length c8) ∧ e.f6.length ≤ c8 ∧ k26.C w A8 e.f6.length e.f6 := by
  obtain ⟨ad, A8, c8, rfl, h0, h1, h2, h3, h4, h5, h6, h7, h8, hc8, hC8⟩ := at_T26 h (k : Int) (by omega) (by omega)
  have he : xs[k]? = some (rd_T26 xs k) := by
    unfold rd_T26
    simp [List.getElem?_eq_getElem (show k < xs.length by omega)]
  exact ⟨ad, A8, c8, _, rfl, he, h0, h1, h2, h3, h4, h5, h6, h7, h8, hc8, hC8⟩
def StepP (Inv : World → Prop) (Stop : World → Prop) (r : Ending) (W' : World) : Prop := (r = .returned (.bool false) ∧ Inv W') ∨ (r = .returned (.bool true) ∧ Stop W')
def IndexP (Inv : World → Prop) (Stop : World → Prop) (r : Ending) (W' : World) : Prop := (r = .returned (.int .i64 (-1)) ∧ Inv W') ∨ (∃ i : Nat, r = .returned (.int .i64 i) ∧ Stop W')
set_option maxRecDepth 100000 in
theorem index_ok (fid : Nat) (caps : Array Value) (xs : List S26) (A : Option Addr) (c : Nat) (w0 w : World) (hC : Kd.C k26 w0 A xs.length xs) (h63 : xs.length ≤ 9223372036854775807)
   (hcf : ∀ (args : Array Value) (W : World), (callFunc fid args).run Tryz.prog W = .ok (.enter fid args) W)
   (Inv : Nat → World → Prop) (Stop : World → Prop) (hInv : ∀ i W, Inv i W → Below w0.heap.size w0 W)
   (hstep : ∀ i e A8 c8 W, xs[i]? = some e → Inv i W → e.f6.length ≤ c8 → Kd.C k26 w0 A8 e.f6.length e.f6 → Calls Tryz.prog fid (#[.agg (exC e A8 c8)] ++ caps) W (StepP (Inv (i + 1)) Stop)) (hs : Inv 0 w) :
   Calls Tryz.prog 95 #[.slice A xs.length c, .func (.func fid) #[] caps] w (IndexP (Inv xs.length) Stop) := by
  obtain ⟨n, hn⟩ : ∃ n, xs.length = n := ⟨_, rfl⟩
  rw [hn] at hC h63 ⊢
  have HN := Lib.hid hn; clear hn
  have HC := Lib.hid hC; clear hC
  have HINV := Lib.hid hInv; clear hInv
  have HSTEP := Lib.hid hstep; clear hstep
  have HS := Lib.hid hs; clear hs
  go_enter Tryz.func95, Tryz.ntmps95
  go_wp2_with fail
  go_loopw [8] (fun v8 wr => ∃ k : Nat, k ≤ n ∧ v8 = .int .i64 k ∧ Hid (Inv k wr)) (fun i _ => n - (intOf i).toNat)
  case atStart => exact ⟨0, Nat.zero_le _, rfl, HS⟩
  case round =>
    obtain ⟨k, hk, rfl, HI⟩ := hrel
    by_cases hlt : k < n
    · have hlt' : (k : Int) < n := by omega
      obtain ⟨ad, A8, c8, e, rfl, HE, h0, h1, h2, h3, h4, h5, h6, h7, h8, hc8, hC8⟩ := at_ex HC.out HN.out k hlt
      replace HE := Lib.hid HE
      have HC8 := Lib.hid hC8; clear hC8
      have HB := Lib.hid (HINV.out k wr HI.out)
      replace h0 := pw_cell_below HB.out h0; replace h1 := pw_cell_below HB.out h1; replace h2 := pw_cell_below HB.out h2; replace h3 := pw_cell_below HB.out h3; replace h4 := pw_cell_below HB.out h4; replace h5 := pw_cell_below HB.out h5; replace h6 := pw_cell_below HB.out h6; replace h7 := pw_cell_below HB.out h7; replace h8 := pw_cell_below HB.out h8
      go_wp2_with fail
      refine (HSTEP.out k e A8 c8 wr HE.out HI.out hc8 HC8.out).mono ?_
      rintro r W' (⟨rfl, HI'⟩ | ⟨rfl, HST⟩)
      · have HI2 := Lib.hid HI'; clear HI'
        clear h0 h1 h2 h3 h4 h5 h6 h7 h8
        go_wp2_with fail
        go_roundw
        case rel => exact ⟨k + 1, by omega, by go_num, HI2⟩
        case measure => simp [intOf]; omega
      · have HI2 := Lib.hid HST; clear HST
        clear h0 h1 h2 h3 h4 h5 h6 h7 h8
        go_wp2_with fail
        go_ret
        exact .inr ⟨k, rfl, HI2.out⟩
    · have hlt' : ¬ (k : Int) < n := by omega
      obtain rfl : n = k := by omega
      go_wp2_with fail
      go_ret
      exact .inl ⟨rfl, HI.out⟩
def ContP (Inv : World → Prop) (Stop : World → Prop) (r : Ending) (W' : World) : Prop := (r = .returned (.bool false) ∧ Inv W') ∨ (r = .returned (.bool true) ∧ Stop W')
set_option maxRecDepth 100000 in
theorem contains_ok (fid : Nat) (caps : Array Value) (xs : List S26) (A : Option Addr) (c : Nat) (w0 w : World) (hC : Kd.C k26 w0 A xs.length xs) (h63 : xs.length ≤ 9223372036854775807)
   (hcf : ∀ (args : Array Value) (W : World), (callFunc fid args).run Tryz.prog W = .ok (.enter fid args) W)
   (Inv : Nat → World → Prop) (Stop : World → Prop) (hInv : ∀ i W, Inv i W → Below w0.heap.size w0 W)
   (hstep : ∀ i e A8 c8 W, xs[i]? = some e → Inv i W → e.f6.length ≤ c8 → Kd.C k26 w0 A8 e.f6.length e.f6 → Calls Tryz.prog fid (#[.agg (exC e A8 c8)] ++ caps) W (StepP (Inv (i + 1)) Stop)) (hs : Inv 0 w) :
   Calls Tryz.prog 65 #[.slice A xs.length c, .func (.func fid) #[] caps] w (ContP (Inv xs.length) Stop) := by
  have HIX := Lib.hid (index_ok fid caps xs A c w0 w hC h63 hcf Inv Stop hInv hstep hs)
  clear hC hcf hInv hstep hs
  go_enter Tryz.func65, Tryz.ntmps65
  go_wp2_with (go_at_call 95; refine HIX.out.mono ?_; rintro r W' (⟨rfl, HI⟩ | ⟨i, rfl, HST⟩))
  · go_ret
    exact .inl ⟨rfl, HI⟩
  · go_ret
    exact .inr ⟨rfl, HST⟩
abbrev Ex := S26
def ownB (e : Ex) : Bool := (expr_own.f 1 e.f0 e.f1.f0 e.f1.f1 e.f1.f2 e.f2 e.f3 e.f4 e.f5 e.f6).getD false
theorem value_Right_some (a b : Int) (s : ByteArray) : ∃ r, value_Right.f a b s = some r := by
  unfold value_Right.f
  repeat' split
  all_goals exact ⟨_, rfl⟩
theorem own_some (e : Ex) : expr_own.f 1 e.f0 e.f1.f0 e.f1.f1 e.f1.f2 e.f2 e.f3 e.f4 e.f5 e.f6 = some (ownB e) := by
  have h : ∃ r, expr_own.f 1 e.f0 e.f1.f0 e.f1.f1 e.f1.f2 e.f2 e.f3 e.f4 e.f5 e.f6 = some r := by
    obtain ⟨v, hv⟩ := value_Right_some e.f1.f0 e.f1.f1 e.f1.f2
    have hj : ∀ b, ∃ r, expr_own.j0 1 b e.f0 e.f1.f0 e.f1.f1 e.f1.f2 e.f2 e.f3 e.f4 e.f5 e.f6 = some r := by
      intro b
      simp only [expr_own.j0, hv, Option.bind_some]
      repeat' split
      all_goals exact ⟨_, rfl⟩
    unfold expr_own.f expr_wants.f
    simp only [Option.bind_some]
    split <;> exact hj _
  obtain ⟨r, hr⟩ := h
  unfold ownB
  rw [hr]; rfl
theorem wants_le (op : Int) : wantsI op ≤ 2 := by
  by_cases h1 : op < 1
  · simp [wantsI, h1]
  · by_cases h2 : op ≥ 19
    · simp [wantsI, h1, h2]
    · obtain ⟨n, rfl⟩ : ∃ n : Nat, op = n := ⟨op.toNat, by omega⟩
      have h3 : n = 1 ∨ n = 2 ∨ n = 3 ∨ n = 4 ∨ n = 5 ∨ n = 6 ∨ n = 7 ∨ n = 8 ∨ n = 9 ∨ n = 10 ∨ n = 11 ∨ n = 12 ∨ n = 13 ∨ n = 14 ∨ n = 15 ∨ n = 16 ∨ n = 17 ∨ n = 18 := by omega
      rcases h3 with rfl | rfl | rfl | rfl | rfl | rfl | rfl | rfl | rfl | rfl | rfl | rfl | rfl | rfl | rfl | rfl | rfl | rfl <;> decide
theorem own_true {e : Ex} (h : ownB e = true) : e.f5.toList = [] ∧ (e.f6.length : Int) = wantsI e.f0 := by
  unfold ownB expr_own.f expr_wants.f at h
  simp only [Option.bind_some] at h
  split at h
  · refine ⟨by assumption, ?_⟩
    by_cases hl : (e.f6.length : Int) = wantsI e.f0
    · exact hl
    · rw [bne_iff_ne.mpr hl] at h
      simp [expr_own.j0] at h
  · simp [expr_own.j0] at h
mutual
/-- How many operations have been met behind e: none: it is not right. -/
def cnt : Ex → Nat → Nat → Option Nat
  | ⟨f0, f1, f2, f3, f4, f5, f6⟩, deep, many => if many + 1 > 200 then none else if deep > 20 then none else if ownB ⟨f0, f1, f2, f3, f4, f5, f6⟩ then cntL f6 (deep + 1) (many + 1) else none
def cntL : List Ex → Nat → Nat → Option Nat
  | [], _, many => some many
  | x :: xs, deep, many => (cnt x deep many).bind fun m => cntL xs deep m
end
theorem cnt_eq (e : Ex) (deep many : Nat) : cnt e deep many = if many + 1 > 200 then none else if deep > 20 then none else if ownB e then cntL e.f6 (deep + 1) (many + 1) else none := by
  cases e; rw [cnt]
theorem cntL_snoc (l : List Ex) (x : Ex) (deep : Nat) : ∀ many, cntL (l ++ [x]) deep many = (cntL l deep many).bind fun m => cnt x deep m := by
  induction l with
  | nil => intro many; simp [cntL]
  | cons y l ih =>
    intro many
    simp only [List.cons_append, cntL]
    cases cnt y deep many with
    | none => rfl
    | some m => simp only [Option.bind_some]; exact ih m
theorem cntL_none_of_take (l : List Ex) (k : Nat) (deep many : Nat) (h : cntL (l.take k) deep many = none) : cntL l deep many = none := by
  induction l generalizing k many with
  | nil => simp [cntL] at h
  | cons y l ih =>
    cases k with
    | zero => simp [cntL] at h
    | succ k =>
      simp only [List.take_succ_cons, cntL] at h ⊢
      cases hc : cnt y deep many with
      | none => rfl
      | some m => rw [hc] at h; exact ih k m h
def rightB (e : Ex) : Bool := (cnt e 1 0).isSome
end Go.Proofs.YtoffpegppdmkdaaGreatDoor.E
namespace Go.Proofs.YtoffpegppdmkdaaGreatDoor.E
set_option linter.unusedSimpArgs false
set_option linter.unusedVariables false
open Go.RowKit Go.Proofs.YtoffpegppdmkdaaGreatDoorW.PrintWords Go.Proofs.YtoffpegppdmkdaaGreatDoorW.PrintLast Go.Proofs.YtoffpegppdmkdaaGreatDoorW.PrintMore
abbrev Va := S23
def vaC (v : Va) : Array Value := #[.int .i64 v.f0, .int .i64 v.f1, .string v.f2]
def zeroV : Va := ⟨0, 0, ⟨#[]⟩⟩
theorem va_put {w : World} {rb : Nat} {u : Va} (h : w.heap[rb]? = some (.cells (vaC u) 23 (0, 0))) (v : Va) :
    (((w.setCell ⟨rb, 0, none⟩ (.int .i64 v.f0)).setCell ⟨rb, 1, none⟩ (.int .i64 v.f1)).setCell ⟨rb, 2, none⟩ (.string v.f2)).heap[rb]? = some (.cells (vaC v) 23 (0, 0)) :=
  blk_set (blk_set (blk_set h 0 _) 1 _) 2 _
theorem va_below {B : Nat} {w0 w : World} {rb : Nat} (h : Below B w0 w) (hr : B ≤ rb) (v : Va) : Below B w0 (((w.setCell ⟨rb, 0, none⟩ (.int .i64 v.f0)).setCell ⟨rb, 1, none⟩ (.int .i64 v.f1)).setCell ⟨rb, 2, none⟩ (.string v.f2)) :=
  ((h.setCell (p := ⟨rb, 0, none⟩) hr _).setCell (p := ⟨rb, 1, none⟩) hr _).setCell (p := ⟨rb, 2, none⟩) hr _
def rightV (v : Va) : Bool := (value_Right.f v.f0 v.f1 v.f2).getD false
theorem right_some (v : Va) : value_Right.f v.f0 v.f1 v.f2 = some (rightV v) := by
  have h : ∃ b, value_Right.f v.f0 v.f1 v.f2 = some b := by
    unfold value_Right.f
    repeat' split
    all_goals exact ⟨_, rfl⟩
  obtain ⟨b, hb⟩ := h
  unfold rightV; rw [hb]; rfl
theorem wrap64_succ {j : Nat} (h : j < 9223372036854775807) : wrap64 ((j : Int) + 1) = ((j + 1 : Nat) : Int) := by
  rw [← i64_w, IntWalk.i64_in _ (by omega)]; rfl
mutual
/-- How deep, and how many operations; none: an operation's own fields are not right. -/
def meas : Ex → Option (Nat × Nat)
  | ⟨f0, f1, f2, f3, f4, f5, f6⟩ => if ownB ⟨f0, f1, f2, f3, f4, f5, f6⟩ = true then (measL f6).map fun p => (p.1 + 1, p.2 + 1) else none
def measL : List Ex → Option (Nat × Nat)
  | [] => some (0, 0)
  | x :: xs => (meas x).bind fun p => (measL xs).map fun q => (max p.1 q.1, p.2 + q.2)
end
theorem meas_eq (e : Ex) : meas e = if ownB e = true then (measL e.f6).map fun p => (p.1 + 1, p.2 + 1) else none := by cases e; rw [meas]
mutual
theorem cnt_meas : (e : Ex) → ∀ deep many : Nat, cnt e deep many = (meas e).bind fun p => if deep + p.1 ≤ 21 ∧ many + p.2 ≤ 200 then some (many + p.2) else none
  | ⟨f0, f1, f2, f3, f4, f5, f6⟩ => fun deep many => by
    have ih := cntL_meas f6 (deep + 1) (many + 1)
    rw [cnt, meas]
    by_cases h1 : many + 1 > 200
    · rw [if_pos h1]
      by_cases h3 : ownB ⟨f0, f1, f2, f3, f4, f5, f6⟩ = true
      · rw [if_pos h3]
        cases hm : measL f6 with
        | none => rfl
        | some p => simp only [Option.map_some, Option.bind_some]; rw [if_neg (by omega)]
      · rw [if_neg h3]; rfl
    · rw [if_neg h1]
      by_cases h2 : deep > 20
      · rw [if_pos h2]
        by_cases h3 : ownB ⟨f0, f1, f2, f3, f4, f5, f6⟩ = true
        · rw [if_pos h3]
          cases hm : measL f6 with
          | none => rfl
          | some p => simp only [Option.map_some, Option.bind_some]; rw [if_neg (by omega)]
        · rw [if_neg h3]; rfl
      · rw [if_neg h2]
        by_cases h3 : ownB ⟨f0, f1, f2, f3, f4, f5, f6⟩ = true
        · rw [if_pos h3, if_pos h3, ih (by omega) (by omega)]
          cases hm : measL f6 with
          | none => rfl
          | some p =>
            simp only [Option.map_some, Option.bind_some]
            by_cases hc : deep + 1 + p.1 ≤ 21 ∧ many + 1 + p.2 ≤ 200
            · rw [if_pos hc, if_pos (by omega)]; congr 1; omega
            · rw [if_neg hc, if_neg (by omega)]
        · rw [if_neg h3, if_neg h3]; rfl
theorem cntL_meas : (l : List Ex) → ∀ deep many : Nat, deep ≤ 21 → many ≤ 200 → cntL l deep many = (measL l).bind fun p => if deep + p.1 ≤ 21 ∧ many + p.2 ≤ 200 then some (many + p.2) else none
  | [] => fun deep many hd hm => by
    rw [cntL, measL]; simp only [Option.bind_some]; rw [if_pos (by omega)]; rfl
  | x :: xs => fun deep many hd hm => by
    rw [cntL, measL, cnt_meas x deep many]
    cases hx : meas x with
    | none => rfl
    | some p =>
      simp only [Option.bind_some]
      by_cases hc : deep + p.1 ≤ 21 ∧ many + p.2 ≤ 200
      · rw [if_pos hc]
        simp only [Option.bind_some]
        rw [cntL_meas xs deep (many + p.2) hd (by omega)]
        cases hxs : measL xs with
        | none => rfl
        | some q =>
          simp only [Option.map_some, Option.bind_some]
          by_cases h2 : deep + q.1 ≤ 21 ∧ many + p.2 + q.2 ≤ 200
          · rw [if_pos h2, if_pos (by omega)]; congr 1; omega
          · rw [if_neg h2, if_neg (by omega)]
      · rw [if_neg hc]
        cases hxs : measL xs with
        | none => rfl
        | some q => simp only [Option.map_some, Option.bind_some, Option.bind_none]; rw [if_neg (by omega)]
end
theorem right_meas (e : Ex) : rightB e = match meas e with | some p => decide (p.1 ≤ 20 ∧ p.2 ≤ 200) | none => false := by
  unfold rightB
  rw [cnt_meas]
  cases meas e with
  | none => rfl
  | some p =>
    simp only [Option.bind_some]
    by_cases h : p.1 ≤ 20 ∧ p.2 ≤ 200
    · rw [if_pos (by omega)]; simp [h]
    · rw [if_neg (by omega)]; simp [h]
def szV (e : Ex) (most : Int) : Int × Int × Bool := match meas e with | some p => if (p.1 : Int) ≤ most ∧ p.2 ≤ 200 then ((p.1 : Int), (p.2 : Int), true) else (0, 0, false) | none => (0, 0, false)
def V0 (v : Va) : Prop := v.f0 = 0 ∧ v.f1 = 0 ∧ v.f2.toList = []
def ownP (e : Ex) : Prop := e.f5.toList = [] ∧ (e.f6.length : Int) = wantsI e.f0 ∧
  (if e.f0 = 1 then rightV e.f1 = true ∧ e.f2 = 0 ∧ e.f3 = 0 ∧ e.f4 = 0
   else if e.f0 = 2 then 0 ≤ e.f2 ∧ e.f2 ≤ 15 ∧ 0 ≤ e.f3 ∧ e.f3 < 6 ∧ e.f4 = 0 ∧ V0 e.f1
   else if e.f0 = 3 then 1 ≤ e.f4 ∧ e.f4 ≤ 4 ∧ e.f2 = 0 ∧ e.f3 = 0 ∧ V0 e.f1
   else e.f2 = 0 ∧ e.f3 = 0 ∧ e.f4 = 0 ∧ V0 e.f1)
theorem own_iff (e : Ex) : ownB e = true ↔ ownP e := by
  unfold ownB ownP expr_own.f expr_wants.f V0
  have hv := right_some e.f1
  by_cases h5 : e.f5.toList = []
  · rw [if_pos h5]
    simp only [Option.bind_some]
    by_cases h6 : (e.f6.length : Int) = wantsI e.f0
    · have : ((e.f6.length : Int) != wantsI e.f0) = false := by simp [h6]
      rw [this]
      simp only [expr_own.j0, hv, Option.bind_some]
      by_cases c1 : e.f0 = 1
      · simp [c1, h5, h6]
        cases rightV e.f1 <;> simp
        by_cases d2 : e.f2 = 0 <;> by_cases d3 : e.f3 = 0 <;> by_cases d4 : e.f4 = 0 <;> simp [d2, d3, d4, h6, c1] <;> omega
      · by_cases c2 : e.f0 = 2
        · simp [c2, h5, h6]
          by_cases d2 : 0 ≤ e.f2 <;> by_cases d3 : e.f2 ≤ 15 <;> by_cases d4 : 0 ≤ e.f3 <;> by_cases d5 : e.f3 < 6 <;> by_cases d6 : e.f4 = 0 <;> simp [d2, d3, d4, d5, d6, h6, c2]
        · by_cases c3 : e.f0 = 3
          · simp [c3, h5, h6]
            by_cases d2 : 1 ≤ e.f4 <;> by_cases d3 : e.f4 ≤ 4 <;> by_cases d4 : e.f2 = 0 <;> by_cases d5 : e.f3 = 0 <;> simp [d2, d3, d4, d5, h6, c3]
          · simp [c1, c2, c3, h5, h6]
            by_cases d2 : e.f2 = 0 <;> by_cases d3 : e.f3 = 0 <;> by_cases d4 : e.f4 = 0 <;> simp [d2, d3, d4]
    · have : ((e.f6.length : Int) != wantsI e.f0) = true := by simp [h6]
      rw [this]
      simp [expr_own.j0, h6]
  · rw [if_neg h5]
    simp [expr_own.j0, h5]
theorem wants_case (op : Int) (h1 : 1 ≤ op) (h2 : op ≤ 18) : op = 1 ∨ op = 2 ∨ op = 3 ∨ op = 4 ∨ op = 5 ∨ op = 6 ∨ op = 7 ∨ op = 8 ∨ op = 9 ∨ op = 10 ∨ op = 11 ∨ op = 12 ∨ op = 13 ∨ op = 14 ∨ op = 15 ∨ op = 16 ∨ op = 17 ∨ op = 18 := by omega
theorem operands_f (op : Int) (k : Nat) : q08_operands.f (k + 1) op = some (wantsI op) := by
  unfold q08_operands.f
  by_cases h1 : op < 1
  · simp [q08_operands.j0, h1, wantsI]
  · by_cases h2 : op > 18
    · simp [q08_operands.j0, h1, h2, wantsI, show op ≥ 19 by omega]
    · rcases wants_case op (by omega) (by omega) with rfl | rfl | rfl | rfl | rfl | rfl | rfl | rfl | rfl | rfl | rfl | rfl | rfl | rfl | rfl | rfl | rfl | rfl <;> rfl
theorem refRight_f (v : Va) : q01_Right.f v.f0 v.f1 v.f2 = some (rightV v) := by
  have h := right_some v
  rw [← h]
  unfold q01_Right.f value_Right.f
  by_cases h0 : v.f0 = 0
  · simp [h0]; by_cases h1 : v.f1 = 0 <;> simp [h1]
  · by_cases h1 : v.f0 = 1
    · simp [h0, h1]
    · by_cases h2 : v.f0 = 2
      · simp [h2]
        by_cases h3 : v.f1 = 0
        · simp [h3]
        · by_cases h4 : v.f1 = 1
          · simp [h4]
          · rw [if_neg h3, if_neg h4, if_neg (by omega)]
      · simp [h0, h1, h2]
theorem rightV_zero {v : Va} (h : V0 v) : rightV v = true := by
  have h1 := right_some v
  unfold value_Right.f at h1
  obtain ⟨a, b, c⟩ := h
  simp [a, b, c] at h1
  exact h1
theorem sizes_step (e : Ex) (most : Int) (k : Nat) : q08_sizes.f (k + 5) e.f0 e.f1.f0 e.f1.f1 e.f1.f2 e.f2 e.f3 e.f4 e.f5 e.f6 (most) = if ownB e = true ∧ most ≠ 0 then q08_sizes.l0 (k) (most) (1) (1) (0) e.f0 e.f1.f0 e.f1.f1 e.f1.f2 e.f2 e.f3 e.f4 e.f5 e.f6 else some (0, 0, false) := by
  rw [q08_sizes.f, operands_f]
  simp only [Option.bind_some]
  have hV := refRight_f e.f1
  have hO := own_iff e
  have hw : ownP e → 0 ≤ wantsI e.f0 := fun h => by have := h.2.1; omega
  by_cases c0 : wantsI e.f0 < 0
  · rw [if_pos c0, if_neg (fun h => by have := hw (hO.1 h.1); omega)]
    simp [q08_sizes.j0]
  rw [if_neg c0]
  by_cases c1 : (e.f6.length : Int) = wantsI e.f0
  rotate_left
  · rw [if_neg c1, if_neg (fun h => c1 (hO.1 h.1).2.1)]
    simp [q08_sizes.j0]
  rw [if_pos c1]
  by_cases c2 : e.f5.toList = []
  rotate_left
  · rw [if_neg c2, if_neg (fun h => c2 (hO.1 h.1).1)]
    simp [q08_sizes.j0]
  rw [if_pos c2]
  by_cases c3 : most = 0
  · rw [if_neg (fun h => h.2 c3)]
    simp [q08_sizes.j0, c3]
  have c3b : (most == 0) = false := by simp [c3]
  rw [c3b]
  simp only [q08_sizes.j0, hV, Option.bind_some]
  by_cases c4 : rightV e.f1 = true
  rotate_left
  · have hn : ¬ (ownB e = true ∧ most ≠ 0) := fun hh => c4 (by
      have h3 := (hO.1 hh.1).2.2
      split at h3
      · exact h3.1
      · split at h3
        · exact rightV_zero h3.2.2.2.2.2
        · split at h3
          · exact rightV_zero h3.2.2.2.2
          · exact rightV_zero h3.2.2.2)
    rw [if_neg hn]
    simp [q08_sizes.j1, c4]
  simp only [c4, if_true]
  rw [if_neg (show ¬ (false = true) by decide)]
  unfold ownP V0 at hO
  by_cases d1 : e.f0 = 1
  · simp only [d1, if_true] at hO ⊢
    simp only [q08_sizes.j1, q08_sizes.j2, q08_sizes.j3]
    by_cases g2 : e.f2 = 0 <;> by_cases g3 : e.f3 = 0 <;> by_cases g4 : e.f4 = 0 <;> simp [g2, g3, g4, c2, c4, d1] at hO ⊢ <;> simp [hO, c1, c3, d1]
  by_cases z : e.f1.f0 = 0 ∧ e.f1.f1 = 0 ∧ e.f1.f2.toList = []
  rotate_left
  · have hz : (!(e.f1.f0 == 0) || (!(e.f1.f1 == 0) || !(e.f1.f2.toList == []))) = true := by
      simp only [Bool.or_eq_true, Bool.not_eq_true', beq_eq_false_iff_ne, ne_eq]
      by_cases z0 : e.f1.f0 = 0
      · by_cases z1 : e.f1.f1 = 0
        · exact .inr (.inr fun z2 => z ⟨z0, z1, z2⟩)
        · exact .inr (.inl z1)
      · exact .inl z0
    have hn : ¬ (ownB e = true ∧ most ≠ 0) := fun hh => by
      have h3 := (hO.1 hh.1).2.2
      rw [if_neg d1] at h3
      split at h3
      · exact z h3.2.2.2.2.2
      · split at h3
        · exact z h3.2.2.2.2
        · exact z h3.2.2.2
    rw [if_neg d1, hz, if_neg hn]
    simp [q08_sizes.j1]
  have hz : (!(e.f1.f0 == 0) || (!(e.f1.f1 == 0) || !(e.f1.f2.toList == []))) = false := by
    simp [z.1, z.2.1, z.2.2]
  rw [if_neg d1, hz]
  simp only [if_neg d1, q08_sizes.j1, q08_sizes.j2, q08_sizes.j3] at hO ⊢
  by_cases d2 : e.f0 = 2
  · simp only [d2, if_true, if_false] at hO ⊢
    by_cases g1 : e.f2 < 0
    · have hn : ¬ (ownB e = true ∧ most ≠ 0) := fun h => by have := (hO.1 h.1).2.2.1; omega
      rw [if_neg hn]; simp [g1]
    by_cases g2 : e.f2 > 15
    · have hn : ¬ (ownB e = true ∧ most ≠ 0) := fun h => by have := (hO.1 h.1).2.2.2.1; omega
      rw [if_neg hn]; simp [g1, g2]
    by_cases g3 : e.f3 < 0
    · have hn : ¬ (ownB e = true ∧ most ≠ 0) := fun h => by have := (hO.1 h.1).2.2.2.2.1; omega
      rw [if_neg hn]; simp [g1, g2, g3]
    by_cases g4 : e.f3 > 5
    · have hn : ¬ (ownB e = true ∧ most ≠ 0) := fun h => by have := (hO.1 h.1).2.2.2.2.2.1; omega
      rw [if_neg hn]; simp [g1, g2, g3, g4]
    by_cases g5 : e.f4 = 0
    rotate_left
    · have hn : ¬ (ownB e = true ∧ most ≠ 0) := fun h => g5 (hO.1 h.1).2.2.2.2.2.2.1
      rw [if_neg hn]; simp [g1, g2, g3, g4, g5]
    have ho : ownB e = true := hO.2 ⟨c2, by rw [d2] at c1; exact c1, by omega, by omega, by omega, by omega, g5, z⟩
    simp [g1, g2, g3, g4, g5, ho, c3]
  by_cases d3 : e.f0 = 3
  · simp only [d3, if_true, if_false, show ¬ ((3 : Int) = 2) by decide] at hO ⊢
    by_cases g1 : e.f2 = 0
    rotate_left
    · have hn : ¬ (ownB e = true ∧ most ≠ 0) := fun h => g1 (hO.1 h.1).2.2.2.2.1
      rw [if_neg hn]; simp [g1]
    by_cases g2 : e.f3 = 0
    rotate_left
    · have hn : ¬ (ownB e = true ∧ most ≠ 0) := fun h => g2 (hO.1 h.1).2.2.2.2.2.1
      rw [if_neg hn]; simp [g1, g2]
    by_cases g3 : e.f4 < 1
    · have hn : ¬ (ownB e = true ∧ most ≠ 0) := fun h => by have := (hO.1 h.1).2.2.1; omega
      rw [if_neg hn]; simp [g1, g2, g3]
    by_cases g4 : e.f4 > 4
    · have hn : ¬ (ownB e = true ∧ most ≠ 0) := fun h => by have := (hO.1 h.1).2.2.2.1; omega
      rw [if_neg hn]; simp [g1, g2, g3, g4]
    have ho : ownB e = true := hO.2 ⟨c2, by rw [d3] at c1; exact c1, by omega, by omega, g1, g2, z⟩
    simp [g1, g2, g3, g4, ho, c3]
  simp only [if_neg d2, if_neg d3] at hO ⊢
  by_cases g1 : e.f2 = 0
  rotate_left
  · have hn : ¬ (ownB e = true ∧ most ≠ 0) := fun h => g1 (hO.1 h.1).2.2.1
    rw [if_neg hn]; simp [g1]
  by_cases g2 : e.f3 = 0
  rotate_left
  · have hn : ¬ (ownB e = true ∧ most ≠ 0) := fun h => g2 (hO.1 h.1).2.2.2.1
    rw [if_neg hn]; simp [g1, g2]
  by_cases g3 : e.f4 = 0
  rotate_left
  · have hn : ¬ (ownB e = true ∧ most ≠ 0) := fun h => g3 (hO.1 h.1).2.2.2.2.1
    rw [if_neg hn]; simp [g1, g2, g3]
  have ho : ownB e = true := hO.2 ⟨c2, c1, g1, g2, g3, z⟩
  simp [g1, g2, g3, ho, c3]
theorem wrap64_of {x : Int} (h0 : -9223372036854775808 ≤ x) (h1 : x ≤ 9223372036854775807) : wrap64 x = x := by
  unfold wrap64; omega
theorem rd_drop {L xs : List Ex} {x : Ex} {j : Nat} (h : L.drop j = x :: xs) : rd_T26 L (j : Int) = x ∧ j < L.length ∧ L.drop (j + 1) = xs := by
  have hl : j < L.length := by
    have := congrArg List.length h
    simp at this; omega
  have h2 := List.drop_eq_getElem_cons hl
  rw [h] at h2
  injection h2 with h3 h4
  refine ⟨?_, hl, h4.symm⟩
  unfold rd_T26
  simp [List.getD_eq_getElem?_getD, hl, h3]
theorem Ev.const {α : Type} {g : Nat → Option α} {r : α} (c : Nat) (h : ∀ k, g (k + c) = some r) : Ev g r := ⟨c, fun k hk => by
  obtain ⟨m, rfl⟩ : ∃ m, k = m + c := ⟨k - c, by omega⟩
  exact h m⟩
theorem Ev.steps {α : Type} {g f : Nat → Option α} {r : α} (c : Nat) (h : ∀ k, g (k + c) = f k) (k : Ev f r) : Ev g r := by
  obtain ⟨K, hK⟩ := k
  exact ⟨K + c, fun k hk => by
    obtain ⟨m, rfl⟩ : ∃ m, k = m + c := ⟨k - c, by omega⟩
    rw [h]; exact hK m (by omega)⟩
def szL (l : List Ex) (m deep all : Int) : Int × Int × Bool := match measL l with
  | some p => if (p.1 : Int) ≤ m ∧ all + p.2 ≤ 200 then (max deep (p.1 + 1), all + p.2, true) else (0, 0, false)
  | none => (0, 0, false)
theorem meas_pos {e : Ex} {p : Nat × Nat} (h : meas e = some p) : 1 ≤ p.1 ∧ 1 ≤ p.2 := by
  rw [meas_eq] at h
  split at h
  · obtain ⟨q, _, rfl⟩ := Option.map_eq_some_iff.1 h
    exact ⟨by simp, by simp⟩
  · cases h
mutual
theorem sizes_ev : (e : Ex) → ∀ most : Int, 0 ≤ most → most ≤ 20 → Ev (fun k => q08_sizes.f (k) e.f0 e.f1.f0 e.f1.f1 e.f1.f2 e.f2 e.f3 e.f4 e.f5 e.f6 (most)) (szV e most)
  | ⟨f0, f1, f2, f3, f4, f5, f6⟩ => fun most h0 h1 => by
    refine Ev.steps 5 (fun k => sizes_step ⟨f0, f1, f2, f3, f4, f5, f6⟩ most k) ?_
    by_cases ho : ownB ⟨f0, f1, f2, f3, f4, f5, f6⟩ = true ∧ most ≠ 0
    · simp only [if_pos ho]
      have := sizesL_ev f6 f0 f1 f2 f3 f4 f5 f6 most 1 1 0 (by simp) (by have := (own_true ho.1).2; have h2 := wants_le f0; simp only [] at this; omega) (by omega) h1 (by omega) (by omega) (by omega) (by omega)
      have he : szL f6 (most - 1) 1 1 = szV ⟨f0, f1, f2, f3, f4, f5, f6⟩ most := by
        unfold szL szV
        rw [meas, if_pos ho.1]
        cases measL f6 with
        | none => rfl
        | some p =>
          simp only [Option.map_some]
          by_cases hc : (p.1 : Int) ≤ most - 1 ∧ 1 + (p.2 : Int) ≤ 200
          · rw [if_pos hc, if_pos (by omega)]
            exact Prod.ext (by simp only []; omega) (Prod.ext (by simp only []; omega) rfl)
          · rw [if_neg hc, if_neg (by omega)]
      rw [← he]
      exact this
    · simp only [if_neg ho]
      have he : szV ⟨f0, f1, f2, f3, f4, f5, f6⟩ most = (0, 0, false) := by
        unfold szV
        rw [meas]
        by_cases h2 : ownB ⟨f0, f1, f2, f3, f4, f5, f6⟩ = true
        · rw [if_pos h2]
          have : most = 0 := by
            by_cases h3 : most = 0
            · exact h3
            · exact absurd ⟨h2, h3⟩ ho
          cases measL f6 with
          | none => rfl
          | some p => simp only [Option.map_some]; rw [if_neg (by omega)]
        · rw [if_neg h2]
      rw [he]
      exact Ev.now _
theorem sizesL_ev : (l : List Ex) → ∀ (f0 : Int) (f1 : Va) (f2 f3 f4 : Int) (f5 : ByteArray) (f6 : List Ex) (most deep all : Int) (j : Nat), f6.drop j = l → f6.length ≤ 2 → 1 ≤ most → most ≤ 20 → 1 ≤ deep → deep ≤ 21 → 1 ≤ all → all ≤ 200 →
    Ev (fun k => q08_sizes.l0 k most deep all (j : Int) f0 f1.f0 f1.f1 f1.f2 f2 f3 f4 f5 f6) (szL l (most - 1) deep all)
  | [] => fun f0 f1 f2 f3 f4 f5 f6 most deep all j hj hlen hm0 hm1 hd0 hd1 ha0 ha1 => by
    have hl : f6.length ≤ j := List.drop_eq_nil_iff.1 hj
    refine Ev.const 1 (fun k => ?_)
    rw [q08_sizes.l0, if_neg (by omega)]
    unfold szL
    rw [measL]
    simp only
    rw [if_pos (by omega)]
    exact congrArg some (Prod.ext (by simp only []; omega) (Prod.ext (by simp only []; omega) rfl))
  | x :: xs => fun f0 f1 f2 f3 f4 f5 f6 most deep all j hj hlen hm0 hm1 hd0 hd1 ha0 ha1 => by
    obtain ⟨hx, hl, hr⟩ := rd_drop hj
    have ih := sizes_ev x (most - 1) (by omega) (by omega)
    refine Ev.steps 1 (f := fun k => (q08_sizes.f (k) x.f0 x.f1.f0 x.f1.f1 x.f1.f2 x.f2 x.f3 x.f4 x.f5 x.f6 (most - 1)).bind fun bt => (if bt.2.2 = true then (if (wrap64 (all + bt.2.1)) > 200 then (some (0, 0, false)) else (q08_sizes.l0 k most (mx deep (wrap64 (bt.1 + 1))) (wrap64 (all + bt.2.1)) ((j + 1 : Nat) : Int) f0 f1.f0 f1.f1 f1.f2 f2 f3 f4 f5 f6)) else (some (0, 0, false)))) (fun k => ?_) ?_
    · rw [q08_sizes.l0, if_pos (by omega), if_pos (by omega), hx, wrap64_of (x := most - 1) (by omega) (by omega)]
      rw [wrap64_of (x := (j : Int) + 1) (by omega) (by omega)]; rfl
    · refine Ev.bind ih ?_
      unfold szL
      rw [measL]
      unfold szV
      cases hmx : meas x with
      | none => simp only [Option.bind_none]; exact Ev.now _
      | some p =>
        simp only [Option.bind_some]
        have hp := meas_pos hmx
        by_cases hc : (p.1 : Int) ≤ most - 1 ∧ p.2 ≤ 200
        · rw [if_pos hc]
          simp only [if_true]
          rw [wrap64_of (x := all + p.2) (by omega) (by omega), wrap64_of (x := (p.1 : Int) + 1) (by omega) (by omega)]
          by_cases h2 : all + (p.2 : Int) > 200
          · simp only [if_pos h2]
            cases measL xs with
            | none => exact Ev.now _
            | some q => simp only [Option.map_some]; rw [if_neg (by omega)]; exact Ev.now _
          · simp only [if_neg h2]
            have hmx2 : mx deep ((p.1 : Int) + 1) = max deep ((p.1 : Int) + 1) := by unfold mx; omega
            rw [hmx2]
            have ihL := sizesL_ev xs f0 f1 f2 f3 f4 f5 f6 most (max deep ((p.1 : Int) + 1)) (all + p.2) (j + 1) hr hlen hm0 hm1 (by omega) (by omega) (by omega) (by omega)
            have he : szL xs (most - 1) (max deep ((p.1 : Int) + 1)) (all + p.2) = (match (measL xs).map (fun q => (max p.1 q.1, p.2 + q.2)) with | some p => if (p.1 : Int) ≤ most - 1 ∧ all + p.2 ≤ 200 then (max deep (p.1 + 1), all + p.2, true) else (0, 0, false) | none => (0, 0, false)) := by
              unfold szL
              cases measL xs with
              | none => rfl
              | some q =>
                simp only [Option.map_some]
                by_cases h3 : (q.1 : Int) ≤ most - 1 ∧ all + (p.2 : Int) + q.2 ≤ 200
                · rw [if_pos h3, if_pos (by omega)]
                  exact Prod.ext (by simp only []; omega) (Prod.ext (by simp only []; omega) rfl)
                · rw [if_neg h3, if_neg (by omega)]
            rw [← he]
            exact ihL
        · rw [if_neg hc]
          cases measL xs with
          | none => exact Ev.now _
          | some q => simp only [Option.map_some]; rw [if_neg (by omega)]; exact Ev.now _
end
theorem refRight_ev (e : Ex) : Ev (fun k => q08_Right.f k e.f0 e.f1.f0 e.f1.f1 e.f1.f2 e.f2 e.f3 e.f4 e.f5 e.f6) (rightB e) := by
  unfold q08_Right.f
  refine Ev.bind (sizes_ev e 20 (by omega) (by omega)) ?_
  have h : (szV e 20).2.2 = rightB e := by
    rw [right_meas]
    unfold szV
    cases meas e with
    | none => rfl
    | some p =>
      simp only
      by_cases h : p.1 ≤ 20 ∧ p.2 ≤ 200
      · rw [if_pos (by omega)]; simp [h]
      · rw [if_neg (by omega)]; simp [h]
  rw [h]
  exact Ev.now _
end Go.Proofs.YtoffpegppdmkdaaGreatDoor.E
