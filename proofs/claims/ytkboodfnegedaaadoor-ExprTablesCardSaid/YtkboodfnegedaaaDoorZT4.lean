/- Contracts and plain lemmas of the functions that the law reaches, part 4. -/
import Derived.Lib.Hide
import Derived.Outline
import Derived.Deep.RegionHeld3
import Derived.Test.YtkboodfnegedaaaDoorZT3
namespace Go.Proofs.YtkboodfnegedaaaDoor.E
open Go.RowKit Go.Proofs.YtkboodfnegedaaaDoorW.PrintWords Go.Proofs.YtkboodfnegedaaaDoorW.PrintLast Go.Proofs.YtkboodfnegedaaaDoorW.PrintMore
def wantsI (op : Int) : Int := if op < 1 then -1 else if op ≥ 19 then -1 else [0, 0, 0, 0, 2, 2, 2, 2, 1, 2, 2, 2, 2, 2, 2, 2, 2, 1, 1].getD op.toNat 0
def wantsA : Array Value := #[.int .i64 0, .int .i64 0, .int .i64 0, .int .i64 0, .int .i64 2, .int .i64 2, .int .i64 2, .int .i64 2, .int .i64 1, .int .i64 2, .int .i64 2, .int .i64 2, .int .i64 2, .int .i64 2, .int .i64 2, .int .i64 2, .int .i64 2, .int .i64 1, .int .i64 1]
def zerosA : Array Value := #[.int .i64 0, .int .i64 0, .int .i64 0, .int .i64 0, .int .i64 0, .int .i64 0, .int .i64 0, .int .i64 0, .int .i64 0, .int .i64 0, .int .i64 0, .int .i64 0, .int .i64 0, .int .i64 0, .int .i64 0, .int .i64 0, .int .i64 0, .int .i64 0, .int .i64 0]
theorem wants_tbl (n : Nat) (h1 : (1 : Int) ≤ n) (h2 : (n : Int) < 19) : wantsA[n]? = some (.int .i64 (wantsI n)) := by
  have h3 : n = 1 ∨ n = 2 ∨ n = 3 ∨ n = 4 ∨ n = 5 ∨ n = 6 ∨ n = 7 ∨ n = 8 ∨ n = 9 ∨ n = 10 ∨ n = 11 ∨ n = 12 ∨ n = 13 ∨ n = 14 ∨ n = 15 ∨ n = 16 ∨ n = 17 ∨ n = 18 := by omega
  rcases h3 with rfl | rfl | rfl | rfl | rfl | rfl | rfl | rfl | rfl | rfl | rfl | rfl | rfl | rfl | rfl | rfl | rfl | rfl <;> rfl
theorem info_tbl : (Tryd.prog.info? 108).map (·.size) = some wantsA.size := by kernel_rfl
theorem one_tbl : wantsA.all (·.oneCell') = true := by kernel_rfl
theorem below_setRow' {B g : Nat} {w0 w : World} (hb : Below B w0 w) (hBg : B ≤ g) (cs : Array Value) : Below B w0 (w.setRow g cs) :=
  hb.trans ⟨rfl, rfl, rfl, by simp [World.setRow], fun k hk => by simp [World.setRow, Array.getElem?_modify, show ¬ g = k by omega]⟩
theorem setRow_at (w : World) (g : Nat) (t : TypeId) (cs ds : Array Value) (h : w.heap[g]? = some (.cells cs t (0, 0))) : (w.setRow g ds).heap[g]? = some (.cells ds t (0, 0)) := by
  simp [World.setRow, Array.getElem?_modify, h]
def expr_wants.f (a0 : Int) : Option (Int) := some (wantsI a0)
set_option maxHeartbeats 1000000 in
set_option maxRecDepth 100000 in
theorem expr_wants.calls (a0 : Int) (r : Int) (w : World) (h : expr_wants.f a0 = some r) :
    Calls Tryd.prog 84 #[.int .i64 a0] w fun e w' => e = .returned (.int .i64 r) ∧ Below w.heap.size w w' := by
  obtain rfl := Option.some.inj h
  clear h
  go_enter Tryd.func84, Tryd.ntmps84
  go_upto_region 2 with (first
    | ((with_reducible refine gate_dst (N := 4) rfl ?_); refine Kd.event_run rfl (v := .agg wantsA) (w1 := w) (by kernel_rfl) ?_)
    | ((with_reducible refine gate_dst (N := 3) rfl ?_); refine box_event rfl (N := 3) rfl (cs := zerosA) (t := 108) (by kernel_rfl) ?_; intro g hg w1 hb hB; have hwg : w.heap.size ≤ g := (by rw [hg]; exact Nat.le_refl _); clear hg)
    | ((with_reducible refine gate_store (p := 3) (v := .tmp 4) rfl ?_); refine wpList_store_row rfl 108 (.tmp 3) (.tmp 4) rfl g wantsA rfl rfl 108 zerosA hb info_tbl rfl one_tbl ?_; have hb2 := setRow_at w1 g _ zerosA wantsA hb; have hB2 := below_setRow' hB hwg wantsA; clear hb hB hwg; generalize w1.setRow g wantsA = w2 at hb2 hB2 ⊢))
  by_cases h1 : a0 < 1
  · have hr : wantsI a0 = -1 := by simp [wantsI, h1]
    have HR := Lib.hid hr; clear hr
    go_wp2_with fail
    go_ret
    exact ⟨by rw [HR.out]; rfl, hB2⟩
  · by_cases h2 : a0 ≥ 19
    · have hr : wantsI a0 = -1 := by simp [wantsI, h1, h2]
      have HR := Lib.hid hr; clear hr
      go_wp2_with fail
      go_ret
      exact ⟨by rw [HR.out]; rfl, hB2⟩
    · obtain ⟨n, rfl⟩ : ∃ n : Nat, a0 = n := ⟨a0.toNat, by omega⟩
      have h3 : (1 : Int) ≤ n := by omega
      have h4 : (n : Int) < 19 := by omega
      clear h1 h2
      have hcell : w2.cell? ⟨g, n, none⟩ = some (.int .i64 (wantsI n)) := (bkC hb2 n).trans (wants_tbl n h3 h4)
      clear hb2
      go_wp2_with fail
      go_ret
      exact ⟨rfl, hB2⟩
end Go.Proofs.YtkboodfnegedaaaDoor.E
namespace Go.Proofs.YtkboodfnegedaaaDoor.E
open Go.RowKit Go.Proofs.YtkboodfnegedaaaDoorW.PrintWords Go.Proofs.YtkboodfnegedaaaDoorW.PrintLast Go.Proofs.YtkboodfnegedaaaDoorW.PrintMore
attribute [local go_sem] max2_int min2_int max_two min_two max_three min_three max_four min_four   -- for this text's walks alone
set_option linter.unusedVariables false
set_option linter.unusedSimpArgs false
attribute [local go_sem high] eqA23
def expr_own.j0 : Nat → Bool → Int → Int → Int → ByteArray → Int → Int → Int → ByteArray → List (S26) → Option (Bool)
 | 0, _, _, _, _, _, _, _, _, _, _ => none
 | k + 1, x14, x104000, x104001, x104002, x104003, x104004, x104005, x104006, x104007, x104008 => if x14 = true then (some false) else (if x104000 = 1 then ((value_Right.f x104001 x104002 x104003).bind fun t105 => (if t105 = true then (if x104004 = 0 then (if x104005 = 0 then (some (x104006 == 0)) else (some false)) else (some false)) else (some false))) else (if x104000 = 2 then (if x104004 ≥ 0 then (if x104004 ≤ 15 then (if x104005 ≥ 0 then (if x104005 < 6 then (if x104006 = 0 then (some (x104001 == 0 && (x104002 == 0 && (x104003.toList == ([] : List UInt8))))) else (some false)) else (some false)) else (some false)) else (some false)) else (some false)) else (if x104000 = 3 then (if x104006 ≥ 1 then (if x104006 ≤ 4 then (if x104004 = 0 then (if x104005 = 0 then (some (x104001 == 0 && (x104002 == 0 && (x104003.toList == ([] : List UInt8))))) else (some false)) else (some false)) else (some false)) else (some false)) else (if x104004 = 0 then (if x104005 = 0 then (if x104006 = 0 then (some (x104001 == 0 && (x104002 == 0 && (x104003.toList == ([] : List UInt8))))) else (some false)) else (some false)) else (some false)))))
def expr_own.f (k : Nat) (a0_0 : Int) (a0_1 : Int) (a0_2 : Int) (a0_3 : ByteArray) (a0_4 : Int) (a0_5 : Int) (a0_6 : Int) (a0_7 : ByteArray) (l0_8 : List (S26)) : Option (Bool) := if a0_7.toList = ([] : List UInt8) then ((expr_wants.f a0_0).bind fun t104 => (expr_own.j0 k ((l0_8.length : Int) != t104) a0_0 a0_1 a0_2 a0_3 a0_4 a0_5 a0_6 a0_7 l0_8)) else (expr_own.j0 k true a0_0 a0_1 a0_2 a0_3 a0_4 a0_5 a0_6 a0_7 l0_8)
def expr_own.T1 : Bool × List (List Nat × List Nat) := (true, [([], []), ([0], [0]), ([1], [1]), ([2], [2]), ([3], [3]), ([4, 3], [3, 4]), ([5, 3], [3, 5]), ([3], [3]), ([7, 3], [3, 7]), ([8, 3, 3], [3, 8]), ([6, 9, 3], [3, 6, 9]), ([3, 10], [3, 10])])
def expr_own.B1 : List Nat := [0, 1, 3, 7, 15, 31, 63, 15, 143, 399, 1023, 2047]
theorem expr_own.tab1 : rtab .any (opsOf Tryd.f49 1) = expr_own.T1 := by kernel_rfl
theorem expr_own.bits1 : waitsOk expr_own.T1.2 expr_own.B1 = true := by kernel_rfl
set_option maxHeartbeats 8000000 in
set_option maxRecDepth 100000 in
theorem expr_own.calls (k : Nat) (a0_0 : Int) (a0_1 : Int) (a0_2 : Int) (a0_3 : ByteArray) (a0_4 : Int) (a0_5 : Int) (a0_6 : Int) (a0_7 : ByteArray) (A0_8 : Option Addr) (c0_8 : Nat) (l0_8 : List (S26)) (r : Bool) (w : World) (hr0_8 : Kd.C k26 w A0_8 l0_8.length l0_8) (hc0_8 : l0_8.length ≤ c0_8) (h : expr_own.f k a0_0 a0_1 a0_2 a0_3 a0_4 a0_5 a0_6 a0_7 l0_8 = some r) :
  Calls Tryd.prog 49 #[.agg #[.int .i64 a0_0, .int .i64 a0_1, .int .i64 a0_2, .string a0_3, .int .i64 a0_4, .int .i64 a0_5, .int .i64 a0_6, .string a0_7, .slice A0_8 l0_8.length c0_8]] w fun e w' => e = .returned (.bool r) ∧ Below w.heap.size w w' := by
 have hu26 := Tryd.underlying26
 have hu23 := Tryd.underlying23
 have HR0_8 := Asd.mk hr0_8
 have HC0_8 := Asd.mk hc0_8
 clear hr0_8 hc0_8
 have HB := Asd.mk (Below.refl w.heap.size w)
 have H : (if a0_7.toList = ([] : List UInt8) then ((expr_wants.f a0_0).bind fun t104 => (expr_own.j0 k ((l0_8.length : Int) != t104) a0_0 a0_1 a0_2 a0_3 a0_4 a0_5 a0_6 a0_7 l0_8)) else (expr_own.j0 k true a0_0 a0_1 a0_2 a0_3 a0_4 a0_5 a0_6 a0_7 l0_8)) = some r := h
 clear h
 have HC2 := Asd.mk H
 clear H
 go_enter Tryd.func49, Tryd.ntmps49
 go_upto_region 1 with (first | ((with_reducible refine gate_dst (N := 1) rfl ?_); (try (refine gate_guard (by rfl) ?_; dsimp only)); refine box_event ?hg (N := 1) ?hd (cs := #[.int .i64 a0_0, .int .i64 a0_1, .int .i64 a0_2, .string a0_3, .int .i64 a0_4, .int .i64 a0_5, .int .i64 a0_6, .string a0_7, .slice A0_8 l0_8.length c0_8]) (t := 26) ?hr ?_; (case hd => rfl); (case hg => rfl); (case hr => first | (go_simp; done) | (go_simp; rfl)); intro gb103 hg w3 hbox hb; have n0_ := Asd.mk (below_step (by repeat (first | (with_reducible first | exact HB.out | apply blA | apply pbN | apply blD) | exact HB.out)) hb); have n1_ := Asd.mk (hbox); have n2_ := Asd.mk ((by rw [hg]; exact (below_size (by repeat (first | (with_reducible first | exact HB.out | apply blA | apply pbN | apply blD) | exact HB.out))) : w.heap.size ≤ gb103)); have n3_ := Asd.mk ((by rw [hg]; exact (below_size (by repeat (first | (with_reducible first | exact HB.out | apply blA | apply pbN | apply blD) | exact HB.out))) : w.heap.size ≤ gb103)); clear HB; have HB := n0_; have BK103 := n1_; have GW103 := n2_; have GE103 := n3_; clear n0_ n1_ n2_ n3_; clear hb hbox hg))
 (try simp only [Act.put, List.setIfInBounds_toArray, List.set_cons_zero, List.set_cons_succ])
 go_cut [14] (fun v14 wc => ∃ (kq : Nat) (x14_1 : Bool), v14 = .bool x14_1 ∧ Asd (expr_own.j0 kq x14_1 a0_0 a0_1 a0_2 a0_3 a0_4 a0_5 a0_6 a0_7 l0_8 = some r) ∧ Asd (kq ≤ k) ∧ Asd (wc.heap[gb103]? = some (.cells #[.int .i64 a0_0, .int .i64 a0_1, .int .i64 a0_2, .string a0_3, .int .i64 a0_4, .int .i64 a0_5, .int .i64 a0_6, .string a0_7, (.slice A0_8 l0_8.length c0_8)] 26 (0, 0))) ∧ Asd (Below w.heap.size w wc))
 case first =>
  have H := HC2.out
  clear HC2
  by_cases c4 : a0_7.toList = ([] : List UInt8)
  ·rw [if_pos c4] at H
   have c4b0 : (a0_7.toList == ([] : List UInt8)) = true := beq_iff_eq.mpr c4
   have c4b1 : (a0_7.toList != ([] : List UInt8)) = false := bne_eq_false_iff_eq.mpr c4
   clear c4
   (first | rw [c4b0] | (simp only [i64_w, i32_w]; rw [c4b0]) | skip)
   replace H := Option.bind_eq_some_iff.mp H
   obtain ⟨t104, A50, H⟩ := H
   replace H : (expr_own.j0 k ((l0_8.length : Int) != t104) a0_0 a0_1 a0_2 a0_3 a0_4 a0_5 a0_6 a0_7 l0_8) = some r := H
   have A5 := Asd.mk A50
   clear A50
   have H' := Asd.mk H
   clear H
   try go_wp2
   have n0_ := Asd.mk (bkD BK103.out)
   have n1_ := Asd.mk (blD HB.out)
   clear BK103 HB
   have BK103 := n0_
   have HB := n1_
   clear n0_ n1_
   refine start_ (n := 12) (S := fun w' => w'.cell? ⟨gb103, 0, none⟩ = some (.int .i64 a0_0) ∧ w'.cell? ⟨gb103, 1, none⟩ = some (.int .i64 a0_1) ∧ w'.cell? ⟨gb103, 2, none⟩ = some (.int .i64 a0_2) ∧ w'.cell? ⟨gb103, 3, none⟩ = some (.string a0_3) ∧ w'.cell? ⟨gb103, 4, none⟩ = some (.int .i64 a0_4) ∧ w'.cell? ⟨gb103, 5, none⟩ = some (.int .i64 a0_5) ∧ w'.cell? ⟨gb103, 6, none⟩ = some (.int .i64 a0_6) ∧ w'.cell? ⟨gb103, 7, none⟩ = some (.string a0_7) ∧ w'.cell? ⟨gb103, 8, none⟩ = some (.slice A0_8 l0_8.length c0_8)) (ds := []) #[false, false, false, false, false, false, false, false, false, false, false, false] (by kernel_rfl) rfl rfl ⟨(bkC BK103.out 0).trans rfl, (bkC BK103.out 1).trans rfl, (bkC BK103.out 2).trans rfl, (bkC BK103.out 3).trans rfl, (bkC BK103.out 4).trans rfl, (bkC BK103.out 5).trans rfl, (bkC BK103.out 6).trans rfl, (bkC BK103.out 7).trans rfl, (bkC BK103.out 8).trans rfl⟩ (fun hHeld => ?_); refine with_tabW expr_own.tab1 expr_own.bits1 (fun HT_ HW_ => ?_)
   generalize w3.drew = w6 at BK103 HB hHeld ⊢
   refine pure_ (i := 0) (N := some 3) (v := ?_) (a' := ?_) #[true, false, false, false, false, false, false, false, false, false, false, false] rfl rfl (any_of HT_.out (by kernel_rfl)) (fun _ _ _ h => h) (Or.inl ⟨by rfl, ?_⟩) ?_ ?_
   rotate_left
   ·intro w'
    go_simp
    with_reducible rfl
   rotate_left
   ·simp only [Act.put, List.setIfInBounds_toArray, List.set_cons_zero, List.set_cons_succ, i64_w, i32_w]
    rfl
   refine take_ (i := 1) (N := some 4) (v := ?_) (a' := ?_) #[true, true, false, false, false, false, false, false, false, false, false, false] rfl rfl (take_ofW HT_.out HW_.out (by kernel_rfl)) (fun _ _ _ h => h) (Or.inl ⟨by rfl, ?_⟩) hHeld ?_ ?_
   rotate_left
   ·rintro w' ⟨s0, s1, s2, s3, s4, s5, s6, s7, s8⟩
    go_simp
    with_reducible rfl
   rotate_left
   ·simp only [Act.put, List.setIfInBounds_toArray, List.set_cons_zero, List.set_cons_succ, i64_w, i32_w]
    rfl
   refine pure_ (i := 2) (N := some 5) (v := ?_) (a' := ?_) #[true, true, true, false, false, false, false, false, false, false, false, false] rfl rfl (any_of HT_.out (by kernel_rfl)) (fun _ _ _ h => h) (Or.inl ⟨by rfl, ?_⟩) ?_ ?_
   rotate_left
   ·intro w'
    go_simp
    with_reducible rfl
   rotate_left
   ·simp only [Act.put, List.setIfInBounds_toArray, List.set_cons_zero, List.set_cons_succ, i64_w, i32_w]
    rfl
   refine pure_ (i := 3) (N := some 6) (v := ?_) (a' := ?_) #[true, true, true, true, false, false, false, false, false, false, false, false] rfl rfl (any_of HT_.out (by kernel_rfl)) (fun _ _ _ h => h) (Or.inl ⟨by rfl, ?_⟩) ?_ ?_
   rotate_left
   ·intro w'
    go_simp
    with_reducible rfl
   rotate_left
   ·simp only [Act.put, List.setIfInBounds_toArray, List.set_cons_zero, List.set_cons_succ, i64_w, i32_w]
    rfl
   refine pure_ (i := 4) (N := some 7) (v := ?_) (a' := ?_) #[true, true, true, true, true, false, false, false, false, false, false, false] rfl rfl (any_of HT_.out (by kernel_rfl)) (fun _ _ _ h => h) (Or.inl ⟨by rfl, ?_⟩) ?_ ?_
   rotate_left
   ·intro w'
    go_simp
    with_reducible rfl
   rotate_left
   ·simp only [Act.put, List.setIfInBounds_toArray, List.set_cons_zero, List.set_cons_succ, i64_w, i32_w]
    rfl
   refine pure_ (i := 7) (N := some 10) (v := ?_) (a' := ?_) #[true, true, true, true, true, false, false, true, false, false, false, false] rfl rfl (any_of HT_.out (by kernel_rfl)) (fun _ _ _ h => h) (Or.inl ⟨by rfl, ?_⟩) ?_ ?_
   rotate_left
   ·intro w'
    go_simp
    with_reducible rfl
   rotate_left
   ·simp only [Act.put, List.setIfInBounds_toArray, List.set_cons_zero, List.set_cons_succ, i64_w, i32_w]
    rfl
   refine take_ (i := 5) (N := some 8) (v := ?_) (a' := ?_) #[true, true, true, true, true, true, false, true, false, false, false, false] rfl rfl (take_ofW HT_.out HW_.out (by kernel_rfl)) (fun _ _ _ h => h) (Or.inl ⟨by rfl, ?_⟩) hHeld ?_ ?_
   rotate_left
   ·rintro w' ⟨s0, s1, s2, s3, s4, s5, s6, s7, s8⟩
    go_simp
    with_reducible rfl
   rotate_left
   ·simp only [Act.put, List.setIfInBounds_toArray, List.set_cons_zero, List.set_cons_succ, i64_w, i32_w]
    rfl
   refine pure_ (i := 6) (N := some 9) (v := ?_) (a' := ?_) #[true, true, true, true, true, true, true, true, false, false, false, false] rfl rfl (any_of HT_.out (by kernel_rfl)) (fun _ _ _ h => h) (Or.inl ⟨by rfl, ?_⟩) ?_ ?_
   rotate_left
   ·intro w'
    go_simp
    with_reducible rfl
   rotate_left
   ·simp only [Act.put, List.setIfInBounds_toArray, List.set_cons_zero, List.set_cons_succ, i64_w, i32_w]
    rfl
   refine take_ (i := 8) (N := some 11) (v := ?_) (a' := ?_) #[true, true, true, true, true, true, true, true, true, false, false, false] rfl rfl (take_ofW HT_.out HW_.out (by kernel_rfl)) (fun _ _ _ h => h) (Or.inl ⟨by rfl, ?_⟩) hHeld ?_ ?_
   rotate_left
   ·rintro w' ⟨s0, s1, s2, s3, s4, s5, s6, s7, s8⟩
    go_simp
    with_reducible rfl
   rotate_left
   ·simp only [Act.put, List.setIfInBounds_toArray, List.set_cons_zero, List.set_cons_succ, i64_w, i32_w]
    rfl
   refine one_ (i := 9) (N := some 12) #[true, true, true, true, true, true, true, true, true, true, false, false] rfl rfl (one_of HT_.out (by kernel_rfl)) (by decide) (fun K hK => ?_)
   refine goes_ Tryd.func84 (by kernel_rfl) rfl #[.int .i64 a0_0] (by rfl) rfl rfl (by (try simp only [List.map_toArray, List.map_cons, List.map_nil]); first | done | rfl | (simp only [List.length_drop, List.length_take]; rfl)) ?_
   with_reducible refine (expr_wants.calls a0_0 t104 _ A5.out).mono ?_
   rintro e w7 ⟨rfl, hb⟩
   refine ⟨_, rfl, ?_⟩
   have n0_ := Asd.mk (blk_below (g := gb103) (o := .cells #[.int .i64 a0_0, .int .i64 a0_1, .int .i64 a0_2, .string a0_3, .int .i64 a0_4, .int .i64 a0_5, .int .i64 a0_6, .string a0_7, .slice A0_8 l0_8.length c0_8] 26 (0, 0)) (by (with_reducible repeat (first | refine bkN ?_ _ | refine bkD ?_ | refine bkA ?_ _)); exact BK103.out) hb)
   have n1_ := Asd.mk (below_step (by repeat (first | (with_reducible first | exact HB.out | apply blA | apply pbN | apply blD | refine blS ?_ GE103.out) | exact HB.out)) hb)
   clear BK103 HB
   have BK103 := n0_
   have HB := n1_
   clear n0_ n1_
   (try clear hb)
   (try clear hb2)
   (try clear hk)
   (try clear hi)
   refine hK.out _ _ ⟨(bkC BK103.out 0).trans rfl, (bkC BK103.out 1).trans rfl, (bkC BK103.out 2).trans rfl, (bkC BK103.out 3).trans rfl, (bkC BK103.out 4).trans rfl, (bkC BK103.out 5).trans rfl, (bkC BK103.out 6).trans rfl, (bkC BK103.out 7).trans rfl, (bkC BK103.out 8).trans rfl⟩ (fun hHeld => ?_)
   clear hK K
   refine norm_ (a' := ?_) ?_ ?_
   rotate_left
   ·show Act.put _ (some 12) _ = _
    simp only [Act.put, List.setIfInBounds_toArray, List.set_cons_zero, List.set_cons_succ, i64_w, i32_w]
    rfl
   refine pure_ (i := 10) (N := some 13) (v := ?_) (a' := ?_) #[true, true, true, true, true, true, true, true, true, true, true, false] rfl rfl (any_of HT_.out (by kernel_rfl)) (fun _ _ _ h => h) (Or.inl ⟨by rfl, ?_⟩) ?_ ?_
   rotate_left
   ·intro w'
    go_simp
    with_reducible rfl
   rotate_left
   ·simp only [Act.put, List.setIfInBounds_toArray, List.set_cons_zero, List.set_cons_succ, i64_w, i32_w]
    rfl
   refine pure_ (i := 11) (N := some 14) (v := ?_) (a' := ?_) #[true, true, true, true, true, true, true, true, true, true, true, true] rfl rfl (any_of HT_.out (by kernel_rfl)) (fun _ _ _ h => h) (Or.inl ⟨by rfl, ?_⟩) ?_ ?_
   rotate_left
   ·intro w'
    go_simp
    with_reducible rfl
   rotate_left
   ·simp only [Act.put, List.setIfInBounds_toArray, List.set_cons_zero, List.set_cons_succ, i64_w, i32_w]
    rfl
   refine done_ (done_of HT_.out (by kernel_rfl)) ?_
   try go_wp2
   go_meet
   case rel => exact ⟨_, (((l0_8.length : Int) != t104)), (by first | rfl | (simp; done) | (simp [*]; done)), H', ⟨by first | omega | exact Nat.le_refl _⟩, ⟨by (with_reducible repeat (first | refine bkN ?_ _ | refine bkD ?_ | refine bkA ?_ _)); exact BK103.out⟩, ⟨by repeat (first | (with_reducible first | exact HB.out | apply blA | apply pbN | apply blD | refine blS ?_ GE103.out) | exact HB.out)⟩⟩
  ·rw [if_neg c4] at H
   have c4b0 : (a0_7.toList == ([] : List UInt8)) = false := beq_eq_false_iff_ne.mpr c4
   have c4b1 : (a0_7.toList != ([] : List UInt8)) = true := bne_iff_ne.mpr c4
   (first | rw [c4b0] | (simp only [i64_w, i32_w]; rw [c4b0]) | skip)
   have H' := Asd.mk H
   clear H
   try go_wp2
   have n0_ := Asd.mk (bkD BK103.out)
   have n1_ := Asd.mk (blD HB.out)
   clear BK103 HB
   have BK103 := n0_
   have HB := n1_
   clear n0_ n1_
   refine start_ (n := 12) (S := fun w' => w'.cell? ⟨gb103, 0, none⟩ = some (.int .i64 a0_0) ∧ w'.cell? ⟨gb103, 1, none⟩ = some (.int .i64 a0_1) ∧ w'.cell? ⟨gb103, 2, none⟩ = some (.int .i64 a0_2) ∧ w'.cell? ⟨gb103, 3, none⟩ = some (.string a0_3) ∧ w'.cell? ⟨gb103, 4, none⟩ = some (.int .i64 a0_4) ∧ w'.cell? ⟨gb103, 5, none⟩ = some (.int .i64 a0_5) ∧ w'.cell? ⟨gb103, 6, none⟩ = some (.int .i64 a0_6) ∧ w'.cell? ⟨gb103, 7, none⟩ = some (.string a0_7) ∧ w'.cell? ⟨gb103, 8, none⟩ = some (.slice A0_8 l0_8.length c0_8)) (ds := []) #[false, false, false, false, false, false, false, false, false, false, false, false] (by kernel_rfl) rfl rfl ⟨(bkC BK103.out 0).trans rfl, (bkC BK103.out 1).trans rfl, (bkC BK103.out 2).trans rfl, (bkC BK103.out 3).trans rfl, (bkC BK103.out 4).trans rfl, (bkC BK103.out 5).trans rfl, (bkC BK103.out 6).trans rfl, (bkC BK103.out 7).trans rfl, (bkC BK103.out 8).trans rfl⟩ (fun hHeld => ?_); refine with_tabW expr_own.tab1 expr_own.bits1 (fun HT_ HW_ => ?_)
   generalize w3.drew = w8 at BK103 HB hHeld ⊢
   refine pure_ (i := 0) (N := some 3) (v := ?_) (a' := ?_) #[true, false, false, false, false, false, false, false, false, false, false, false] rfl rfl (any_of HT_.out (by kernel_rfl)) (fun _ _ _ h => h) (Or.inl ⟨by rfl, ?_⟩) ?_ ?_
   rotate_left
   ·intro w'
    go_simp
    with_reducible rfl
   rotate_left
   ·simp only [Act.put, List.setIfInBounds_toArray, List.set_cons_zero, List.set_cons_succ, i64_w, i32_w]
    rfl
   refine take_ (i := 1) (N := some 4) (v := ?_) (a' := ?_) #[true, true, false, false, false, false, false, false, false, false, false, false] rfl rfl (take_ofW HT_.out HW_.out (by kernel_rfl)) (fun _ _ _ h => h) (Or.inl ⟨by rfl, ?_⟩) hHeld ?_ ?_
   rotate_left
   ·rintro w' ⟨s0, s1, s2, s3, s4, s5, s6, s7, s8⟩
    go_simp
    with_reducible rfl
   rotate_left
   ·simp only [Act.put, List.setIfInBounds_toArray, List.set_cons_zero, List.set_cons_succ, i64_w, i32_w]
    rfl
   refine pure_ (i := 2) (N := some 5) (v := ?_) (a' := ?_) #[true, true, true, false, false, false, false, false, false, false, false, false] rfl rfl (any_of HT_.out (by kernel_rfl)) (fun _ _ _ h => h) (Or.inl ⟨by rfl, ?_⟩) ?_ ?_
   rotate_left
   ·intro w'
    go_simp
    with_reducible rfl
   rotate_left
   ·simp only [Act.put, List.setIfInBounds_toArray, List.set_cons_zero, List.set_cons_succ, i64_w, i32_w]
    rfl
   refine pure_ (i := 3) (N := some 6) (v := ?_) (a' := ?_) #[true, true, true, true, false, false, false, false, false, false, false, false] rfl rfl (any_of HT_.out (by kernel_rfl)) (fun _ _ _ h => h) (Or.inl ⟨by rfl, ?_⟩) ?_ ?_
   rotate_left
   ·intro w'
    go_simp
    with_reducible rfl
   rotate_left
   ·simp only [Act.put, List.setIfInBounds_toArray, List.set_cons_zero, List.set_cons_succ, i64_w, i32_w]
    rfl
   refine pure_ (i := 4) (N := some 7) (v := undef) (a' := ?_) #[true, true, true, true, true, false, false, false, false, false, false, false] rfl rfl (any_of HT_.out (by kernel_rfl)) (fun _ _ _ h => h) (Or.inr ⟨by rfl, rfl⟩) ?_ ?_
   rotate_left
   ·simp only [Act.put, List.setIfInBounds_toArray, List.set_cons_zero, List.set_cons_succ, i64_w, i32_w]
    rfl
   refine pure_ (i := 5) (N := some 8) (v := undef) (a' := ?_) #[true, true, true, true, true, true, false, false, false, false, false, false] rfl rfl (any_of HT_.out (by kernel_rfl)) (fun _ _ _ h => h) (Or.inr ⟨by rfl, rfl⟩) ?_ ?_
   rotate_left
   ·simp only [Act.put, List.setIfInBounds_toArray, List.set_cons_zero, List.set_cons_succ, i64_w, i32_w]
    rfl
   refine pure_ (i := 6) (N := some 9) (v := undef) (a' := ?_) #[true, true, true, true, true, true, true, false, false, false, false, false] rfl rfl (any_of HT_.out (by kernel_rfl)) (fun _ _ _ h => h) (Or.inr ⟨by rfl, rfl⟩) ?_ ?_
   rotate_left
   ·simp only [Act.put, List.setIfInBounds_toArray, List.set_cons_zero, List.set_cons_succ, i64_w, i32_w]
    rfl
   refine pure_ (i := 7) (N := some 10) (v := undef) (a' := ?_) #[true, true, true, true, true, true, true, true, false, false, false, false] rfl rfl (any_of HT_.out (by kernel_rfl)) (fun _ _ _ h => h) (Or.inr ⟨by rfl, rfl⟩) ?_ ?_
   rotate_left
   ·simp only [Act.put, List.setIfInBounds_toArray, List.set_cons_zero, List.set_cons_succ, i64_w, i32_w]
    rfl
   refine pure_ (i := 8) (N := some 11) (v := undef) (a' := ?_) #[true, true, true, true, true, true, true, true, true, false, false, false] rfl rfl (any_of HT_.out (by kernel_rfl)) (fun _ _ _ h => h) (Or.inr ⟨by rfl, rfl⟩) ?_ ?_
   rotate_left
   ·simp only [Act.put, List.setIfInBounds_toArray, List.set_cons_zero, List.set_cons_succ, i64_w, i32_w]
    rfl
   refine pure_ (i := 9) (N := some 12) (v := undef) (a' := ?_) #[true, true, true, true, true, true, true, true, true, true, false, false] rfl rfl (any_of HT_.out (by kernel_rfl)) (fun _ _ _ h => h) (Or.inr ⟨by rfl, rfl⟩) ?_ ?_
   rotate_left
   ·simp only [Act.put, List.setIfInBounds_toArray, List.set_cons_zero, List.set_cons_succ, i64_w, i32_w]
    rfl
   refine pure_ (i := 10) (N := some 13) (v := undef) (a' := ?_) #[true, true, true, true, true, true, true, true, true, true, true, false] rfl rfl (any_of HT_.out (by kernel_rfl)) (fun _ _ _ h => h) (Or.inr ⟨by rfl, rfl⟩) ?_ ?_
   rotate_left
   ·simp only [Act.put, List.setIfInBounds_toArray, List.set_cons_zero, List.set_cons_succ, i64_w, i32_w]
    rfl
   refine pure_ (i := 11) (N := some 14) (v := ?_) (a' := ?_) #[true, true, true, true, true, true, true, true, true, true, true, true] rfl rfl (any_of HT_.out (by kernel_rfl)) (fun _ _ _ h => h) (Or.inl ⟨by rfl, ?_⟩) ?_ ?_
   rotate_left
   ·intro w'
    go_simp
    with_reducible rfl
   rotate_left
   ·simp only [Act.put, List.setIfInBounds_toArray, List.set_cons_zero, List.set_cons_succ, i64_w, i32_w]
    rfl
   refine done_ (done_of HT_.out (by kernel_rfl)) ?_
   try go_wp2
   go_meet
   case rel => exact ⟨_, (true), (by first | rfl | (simp; done) | (simp [*]; done)), H', ⟨by first | omega | exact Nat.le_refl _⟩, ⟨by (with_reducible repeat (first | refine bkN ?_ _ | refine bkD ?_ | refine bkA ?_ _)); exact BK103.out⟩, ⟨by repeat (first | (with_reducible first | exact HB.out | apply blA | apply pbN | apply blD | refine blS ?_ GE103.out) | exact HB.out)⟩⟩
 case rest =>
  clear HC2
  try clear p2
  try clear c4
  try clear c4b0
  try clear c4b1
  try clear c8
  obtain ⟨kq, x14_1, rfl, HA, HJ1, BK103, HB⟩ := hcut
  cases kq with
  | zero => exact absurd HA.out (by simp [expr_own.j0])
  | succ kj1 =>
   have H := HA.out
   clear HA
   simp only [expr_own.j0] at H
   by_cases c9 : x14_1 = true
   ·subst c9
    have H1 : (some false) = some r := by rw [if_pos rfl] at H; exact H
    clear H
    have H := H1
    clear H1
    obtain rfl := Option.some.inj H
    go_wp2
    go_ret
    exact ⟨by first | rfl | (simp [errW_none, errW_some] <;> rfl) | (simp [*, errW_none, errW_some] <;> rfl), by repeat (first | (with_reducible first | exact HB.out | apply blA | apply pbN | apply blD | refine blS ?_ GE103.out) | exact HB.out)⟩
   ·replace c9 := Bool.eq_false_iff.mpr c9
    subst c9
    have H1 : (if a0_0 = 1 then ((value_Right.f a0_1 a0_2 a0_3).bind fun t105 => (if t105 = true then (if a0_4 = 0 then (if a0_5 = 0 then (some (a0_6 == 0)) else (some false)) else (some false)) else (some false))) else (if a0_0 = 2 then (if a0_4 ≥ 0 then (if a0_4 ≤ 15 then (if a0_5 ≥ 0 then (if a0_5 < 6 then (if a0_6 = 0 then (some (a0_1 == 0 && (a0_2 == 0 && (a0_3.toList == ([] : List UInt8))))) else (some false)) else (some false)) else (some false)) else (some false)) else (some false)) else (if a0_0 = 3 then (if a0_6 ≥ 1 then (if a0_6 ≤ 4 then (if a0_4 = 0 then (if a0_5 = 0 then (some (a0_1 == 0 && (a0_2 == 0 && (a0_3.toList == ([] : List UInt8))))) else (some false)) else (some false)) else (some false)) else (some false)) else (if a0_4 = 0 then (if a0_5 = 0 then (if a0_6 = 0 then (some (a0_1 == 0 && (a0_2 == 0 && (a0_3.toList == ([] : List UInt8))))) else (some false)) else (some false)) else (some false))))) = some r := by rw [if_neg (show ¬ (false = true) by decide)] at H; exact H
    clear H
    have H := H1
    clear H1
    by_cases c10 : a0_0 = 1
    ·rw [if_pos c10] at H
     have c10b0 : (a0_0 == 1) = true := beq_iff_eq.mpr c10
     have c10b1 : (a0_0 != 1) = false := bne_eq_false_iff_eq.mpr c10
     clear c10
     replace H := Option.bind_eq_some_iff.mp H
     obtain ⟨t105, A110, H⟩ := H
     replace H : (if t105 = true then (if a0_4 = 0 then (if a0_5 = 0 then (some (a0_6 == 0)) else (some false)) else (some false)) else (some false)) = some r := H
     have A11 := Asd.mk A110
     clear A110
     by_cases c12 : t105 = true
     ·subst c12
      have H1 : (if a0_4 = 0 then (if a0_5 = 0 then (some (a0_6 == 0)) else (some false)) else (some false)) = some r := by rw [if_pos rfl] at H; exact H
      clear H
      have H := H1
      clear H1
      by_cases c13 : a0_4 = 0
      ·rw [if_pos c13] at H
       have c13b0 : (a0_4 == 0) = true := beq_iff_eq.mpr c13
       have c13b1 : (a0_4 != 0) = false := bne_eq_false_iff_eq.mpr c13
       clear c13
       by_cases c14 : a0_5 = 0
       ·rw [if_pos c14] at H
        have c14b0 : (a0_5 == 0) = true := beq_iff_eq.mpr c14
        have c14b1 : (a0_5 != 0) = false := bne_eq_false_iff_eq.mpr c14
        clear c14
        obtain rfl := Option.some.inj H
        have hcz15_0 : wc.cell? ⟨gb103, 0, none⟩ = some (.int .i64 a0_0) := (bkC BK103.out 0).trans rfl
        have hcz15_1 : wc.cell? ⟨gb103, 1, none⟩ = some (.int .i64 a0_1) := (bkC BK103.out 1).trans rfl
        have hcz15_2 : wc.cell? ⟨gb103, 2, none⟩ = some (.int .i64 a0_2) := (bkC BK103.out 2).trans rfl
        have hcz15_3 : wc.cell? ⟨gb103, 3, none⟩ = some (.string a0_3) := (bkC BK103.out 3).trans rfl
        have hcz15_4 : wc.cell? ⟨gb103, 4, none⟩ = some (.int .i64 a0_4) := (bkC BK103.out 4).trans rfl
        have hcz15_5 : wc.cell? ⟨gb103, 5, none⟩ = some (.int .i64 a0_5) := (bkC BK103.out 5).trans rfl
        have hcz15_6 : wc.cell? ⟨gb103, 6, none⟩ = some (.int .i64 a0_6) := (bkC BK103.out 6).trans rfl
        have hcz15_7 : wc.cell? ⟨gb103, 7, none⟩ = some (.string a0_7) := (bkC BK103.out 7).trans rfl
        have hcz15_8 : wc.cell? ⟨gb103, 8, none⟩ = some (.slice A0_8 l0_8.length c0_8) := (bkC BK103.out 8).trans rfl
        have hfz15_0 := bkF BK103.out 0
        have hfz15_1 := bkF BK103.out 1
        have hfz15_2 := bkF BK103.out 2
        have hfz15_3 := bkF BK103.out 3
        have hfz15_4 := bkF BK103.out 4
        have hfz15_5 := bkF BK103.out 5
        have hfz15_6 := bkF BK103.out 6
        have hfz15_7 := bkF BK103.out 7
        have hfz15_8 := bkF BK103.out 8
        go_wp2_with (first | ((with_reducible refine gate_callee (f := 22) rfl ?_); refine goesL_ (some 22) rfl rfl Tryd.func22 (by kernel_rfl) rfl #[.agg #[.int .i64 a0_1, .int .i64 a0_2, .string a0_3]] rfl (by (try simp only [List.map_toArray, List.map_cons, List.map_nil]); first | done | rfl | (simp only [List.length_drop, List.length_take]; rfl)) ?_; (with_reducible refine (value_Right.calls a0_1 a0_2 a0_3 true _ A11.out).mono ?_); rintro e w16 ⟨rfl, hb⟩; refine ⟨_, rfl, ?_⟩; have n0_ := Asd.mk (blk_below (g := gb103) (o := .cells #[.int .i64 a0_0, .int .i64 a0_1, .int .i64 a0_2, .string a0_3, .int .i64 a0_4, .int .i64 a0_5, .int .i64 a0_6, .string a0_7, .slice none 0 0] 26 (0, 0)) (by (with_reducible repeat (first | refine bkN ?_ _ | refine bkD ?_ | refine bkA ?_ _)); refine blk_put (cs := #[.int .i64 a0_0, .int .i64 a0_1, .int .i64 a0_2, .string a0_3, .int .i64 a0_4, .int .i64 a0_5, .int .i64 a0_6, .string a0_7, .slice A0_8 l0_8.length c0_8]) ?_ 8 _ rfl; (with_reducible repeat (first | refine bkN ?_ _ | refine bkD ?_ | refine bkA ?_ _)); exact BK103.out) hb); have n1_ := Asd.mk (below_step (by repeat (first | (with_reducible first | exact HB.out | apply blA | apply pbN | apply blD | refine blS ?_ GE103.out) | exact HB.out)) hb); clear BK103; clear HB; have BK103 := n0_; have HB := n1_; clear n0_ n1_; (try clear hb); (try clear hb2); (try clear hk); (try clear hi); have hcz17_0 : w16.cell? ⟨gb103, 0, none⟩ = some (.int .i64 a0_0) := (bkC BK103.out 0).trans rfl; have hcz17_1 : w16.cell? ⟨gb103, 1, none⟩ = some (.int .i64 a0_1) := (bkC BK103.out 1).trans rfl; have hcz17_2 : w16.cell? ⟨gb103, 2, none⟩ = some (.int .i64 a0_2) := (bkC BK103.out 2).trans rfl; have hcz17_3 : w16.cell? ⟨gb103, 3, none⟩ = some (.string a0_3) := (bkC BK103.out 3).trans rfl; have hcz17_4 : w16.cell? ⟨gb103, 4, none⟩ = some (.int .i64 a0_4) := (bkC BK103.out 4).trans rfl; have hcz17_5 : w16.cell? ⟨gb103, 5, none⟩ = some (.int .i64 a0_5) := (bkC BK103.out 5).trans rfl; have hcz17_6 : w16.cell? ⟨gb103, 6, none⟩ = some (.int .i64 a0_6) := (bkC BK103.out 6).trans rfl; have hcz17_7 : w16.cell? ⟨gb103, 7, none⟩ = some (.string a0_7) := (bkC BK103.out 7).trans rfl; have hcz17_8 : w16.cell? ⟨gb103, 8, none⟩ = some (.slice none 0 0) := (bkC BK103.out 8).trans rfl; have hfz17_0 := bkF BK103.out 0; have hfz17_1 := bkF BK103.out 1; have hfz17_2 := bkF BK103.out 2; have hfz17_3 := bkF BK103.out 3; have hfz17_4 := bkF BK103.out 4; have hfz17_5 := bkF BK103.out 5; have hfz17_6 := bkF BK103.out 6; have hfz17_7 := bkF BK103.out 7; have hfz17_8 := bkF BK103.out 8))
        go_ret
        exact ⟨by first | rfl | (simp [errW_none, errW_some] <;> rfl) | (simp [*, errW_none, errW_some] <;> rfl), by repeat (first | (with_reducible first | exact HB.out | apply blA | apply pbN | apply blD | refine blS ?_ GE103.out) | exact HB.out)⟩
       ·rw [if_neg c14] at H
        have c14b0 : (a0_5 == 0) = false := beq_eq_false_iff_ne.mpr c14
        have c14b1 : (a0_5 != 0) = true := bne_iff_ne.mpr c14
        obtain rfl := Option.some.inj H
        have hcz18_0 : wc.cell? ⟨gb103, 0, none⟩ = some (.int .i64 a0_0) := (bkC BK103.out 0).trans rfl
        have hcz18_1 : wc.cell? ⟨gb103, 1, none⟩ = some (.int .i64 a0_1) := (bkC BK103.out 1).trans rfl
        have hcz18_2 : wc.cell? ⟨gb103, 2, none⟩ = some (.int .i64 a0_2) := (bkC BK103.out 2).trans rfl
        have hcz18_3 : wc.cell? ⟨gb103, 3, none⟩ = some (.string a0_3) := (bkC BK103.out 3).trans rfl
        have hcz18_4 : wc.cell? ⟨gb103, 4, none⟩ = some (.int .i64 a0_4) := (bkC BK103.out 4).trans rfl
        have hcz18_5 : wc.cell? ⟨gb103, 5, none⟩ = some (.int .i64 a0_5) := (bkC BK103.out 5).trans rfl
        have hcz18_6 : wc.cell? ⟨gb103, 6, none⟩ = some (.int .i64 a0_6) := (bkC BK103.out 6).trans rfl
        have hcz18_7 : wc.cell? ⟨gb103, 7, none⟩ = some (.string a0_7) := (bkC BK103.out 7).trans rfl
        have hcz18_8 : wc.cell? ⟨gb103, 8, none⟩ = some (.slice A0_8 l0_8.length c0_8) := (bkC BK103.out 8).trans rfl
        have hfz18_0 := bkF BK103.out 0
        have hfz18_1 := bkF BK103.out 1
        have hfz18_2 := bkF BK103.out 2
        have hfz18_3 := bkF BK103.out 3
        have hfz18_4 := bkF BK103.out 4
        have hfz18_5 := bkF BK103.out 5
        have hfz18_6 := bkF BK103.out 6
        have hfz18_7 := bkF BK103.out 7
        have hfz18_8 := bkF BK103.out 8
        go_wp2_with (first | ((with_reducible refine gate_callee (f := 22) rfl ?_); refine goesL_ (some 22) rfl rfl Tryd.func22 (by kernel_rfl) rfl #[.agg #[.int .i64 a0_1, .int .i64 a0_2, .string a0_3]] rfl (by (try simp only [List.map_toArray, List.map_cons, List.map_nil]); first | done | rfl | (simp only [List.length_drop, List.length_take]; rfl)) ?_; (with_reducible refine (value_Right.calls a0_1 a0_2 a0_3 true _ A11.out).mono ?_); rintro e w19 ⟨rfl, hb⟩; refine ⟨_, rfl, ?_⟩; have n0_ := Asd.mk (blk_below (g := gb103) (o := .cells #[.int .i64 a0_0, .int .i64 a0_1, .int .i64 a0_2, .string a0_3, .int .i64 a0_4, .int .i64 a0_5, .int .i64 a0_6, .string a0_7, .slice none 0 0] 26 (0, 0)) (by (with_reducible repeat (first | refine bkN ?_ _ | refine bkD ?_ | refine bkA ?_ _)); refine blk_put (cs := #[.int .i64 a0_0, .int .i64 a0_1, .int .i64 a0_2, .string a0_3, .int .i64 a0_4, .int .i64 a0_5, .int .i64 a0_6, .string a0_7, .slice A0_8 l0_8.length c0_8]) ?_ 8 _ rfl; (with_reducible repeat (first | refine bkN ?_ _ | refine bkD ?_ | refine bkA ?_ _)); exact BK103.out) hb); have n1_ := Asd.mk (below_step (by repeat (first | (with_reducible first | exact HB.out | apply blA | apply pbN | apply blD | refine blS ?_ GE103.out) | exact HB.out)) hb); clear BK103; clear HB; have BK103 := n0_; have HB := n1_; clear n0_ n1_; (try clear hb); (try clear hb2); (try clear hk); (try clear hi); have hcz20_0 : w19.cell? ⟨gb103, 0, none⟩ = some (.int .i64 a0_0) := (bkC BK103.out 0).trans rfl; have hcz20_1 : w19.cell? ⟨gb103, 1, none⟩ = some (.int .i64 a0_1) := (bkC BK103.out 1).trans rfl; have hcz20_2 : w19.cell? ⟨gb103, 2, none⟩ = some (.int .i64 a0_2) := (bkC BK103.out 2).trans rfl; have hcz20_3 : w19.cell? ⟨gb103, 3, none⟩ = some (.string a0_3) := (bkC BK103.out 3).trans rfl; have hcz20_4 : w19.cell? ⟨gb103, 4, none⟩ = some (.int .i64 a0_4) := (bkC BK103.out 4).trans rfl; have hcz20_5 : w19.cell? ⟨gb103, 5, none⟩ = some (.int .i64 a0_5) := (bkC BK103.out 5).trans rfl; have hcz20_6 : w19.cell? ⟨gb103, 6, none⟩ = some (.int .i64 a0_6) := (bkC BK103.out 6).trans rfl; have hcz20_7 : w19.cell? ⟨gb103, 7, none⟩ = some (.string a0_7) := (bkC BK103.out 7).trans rfl; have hcz20_8 : w19.cell? ⟨gb103, 8, none⟩ = some (.slice none 0 0) := (bkC BK103.out 8).trans rfl; have hfz20_0 := bkF BK103.out 0; have hfz20_1 := bkF BK103.out 1; have hfz20_2 := bkF BK103.out 2; have hfz20_3 := bkF BK103.out 3; have hfz20_4 := bkF BK103.out 4; have hfz20_5 := bkF BK103.out 5; have hfz20_6 := bkF BK103.out 6; have hfz20_7 := bkF BK103.out 7; have hfz20_8 := bkF BK103.out 8))
        go_ret
        exact ⟨by first | rfl | (simp [errW_none, errW_some] <;> rfl) | (simp [*, errW_none, errW_some] <;> rfl), by repeat (first | (with_reducible first | exact HB.out | apply blA | apply pbN | apply blD | refine blS ?_ GE103.out) | exact HB.out)⟩
      ·rw [if_neg c13] at H
       have c13b0 : (a0_4 == 0) = false := beq_eq_false_iff_ne.mpr c13
       have c13b1 : (a0_4 != 0) = true := bne_iff_ne.mpr c13
       obtain rfl := Option.some.inj H
       have hcz21_0 : wc.cell? ⟨gb103, 0, none⟩ = some (.int .i64 a0_0) := (bkC BK103.out 0).trans rfl
       have hcz21_1 : wc.cell? ⟨gb103, 1, none⟩ = some (.int .i64 a0_1) := (bkC BK103.out 1).trans rfl
       have hcz21_2 : wc.cell? ⟨gb103, 2, none⟩ = some (.int .i64 a0_2) := (bkC BK103.out 2).trans rfl
       have hcz21_3 : wc.cell? ⟨gb103, 3, none⟩ = some (.string a0_3) := (bkC BK103.out 3).trans rfl
       have hcz21_4 : wc.cell? ⟨gb103, 4, none⟩ = some (.int .i64 a0_4) := (bkC BK103.out 4).trans rfl
       have hcz21_5 : wc.cell? ⟨gb103, 5, none⟩ = some (.int .i64 a0_5) := (bkC BK103.out 5).trans rfl
       have hcz21_6 : wc.cell? ⟨gb103, 6, none⟩ = some (.int .i64 a0_6) := (bkC BK103.out 6).trans rfl
       have hcz21_7 : wc.cell? ⟨gb103, 7, none⟩ = some (.string a0_7) := (bkC BK103.out 7).trans rfl
       have hcz21_8 : wc.cell? ⟨gb103, 8, none⟩ = some (.slice A0_8 l0_8.length c0_8) := (bkC BK103.out 8).trans rfl
       have hfz21_0 := bkF BK103.out 0
       have hfz21_1 := bkF BK103.out 1
       have hfz21_2 := bkF BK103.out 2
       have hfz21_3 := bkF BK103.out 3
       have hfz21_4 := bkF BK103.out 4
       have hfz21_5 := bkF BK103.out 5
       have hfz21_6 := bkF BK103.out 6
       have hfz21_7 := bkF BK103.out 7
       have hfz21_8 := bkF BK103.out 8
       go_wp2_with (first | ((with_reducible refine gate_callee (f := 22) rfl ?_); refine goesL_ (some 22) rfl rfl Tryd.func22 (by kernel_rfl) rfl #[.agg #[.int .i64 a0_1, .int .i64 a0_2, .string a0_3]] rfl (by (try simp only [List.map_toArray, List.map_cons, List.map_nil]); first | done | rfl | (simp only [List.length_drop, List.length_take]; rfl)) ?_; (with_reducible refine (value_Right.calls a0_1 a0_2 a0_3 true _ A11.out).mono ?_); rintro e w22 ⟨rfl, hb⟩; refine ⟨_, rfl, ?_⟩; have n0_ := Asd.mk (blk_below (g := gb103) (o := .cells #[.int .i64 a0_0, .int .i64 a0_1, .int .i64 a0_2, .string a0_3, .int .i64 a0_4, .int .i64 a0_5, .int .i64 a0_6, .string a0_7, .slice none 0 0] 26 (0, 0)) (by (with_reducible repeat (first | refine bkN ?_ _ | refine bkD ?_ | refine bkA ?_ _)); refine blk_put (cs := #[.int .i64 a0_0, .int .i64 a0_1, .int .i64 a0_2, .string a0_3, .int .i64 a0_4, .int .i64 a0_5, .int .i64 a0_6, .string a0_7, .slice A0_8 l0_8.length c0_8]) ?_ 8 _ rfl; (with_reducible repeat (first | refine bkN ?_ _ | refine bkD ?_ | refine bkA ?_ _)); exact BK103.out) hb); have n1_ := Asd.mk (below_step (by repeat (first | (with_reducible first | exact HB.out | apply blA | apply pbN | apply blD | refine blS ?_ GE103.out) | exact HB.out)) hb); clear BK103; clear HB; have BK103 := n0_; have HB := n1_; clear n0_ n1_; (try clear hb); (try clear hb2); (try clear hk); (try clear hi); have hcz23_0 : w22.cell? ⟨gb103, 0, none⟩ = some (.int .i64 a0_0) := (bkC BK103.out 0).trans rfl; have hcz23_1 : w22.cell? ⟨gb103, 1, none⟩ = some (.int .i64 a0_1) := (bkC BK103.out 1).trans rfl; have hcz23_2 : w22.cell? ⟨gb103, 2, none⟩ = some (.int .i64 a0_2) := (bkC BK103.out 2).trans rfl; have hcz23_3 : w22.cell? ⟨gb103, 3, none⟩ = some (.string a0_3) := (bkC BK103.out 3).trans rfl; have hcz23_4 : w22.cell? ⟨gb103, 4, none⟩ = some (.int .i64 a0_4) := (bkC BK103.out 4).trans rfl; have hcz23_5 : w22.cell? ⟨gb103, 5, none⟩ = some (.int .i64 a0_5) := (bkC BK103.out 5).trans rfl; have hcz23_6 : w22.cell? ⟨gb103, 6, none⟩ = some (.int .i64 a0_6) := (bkC BK103.out 6).trans rfl; have hcz23_7 : w22.cell? ⟨gb103, 7, none⟩ = some (.string a0_7) := (bkC BK103.out 7).trans rfl; have hcz23_8 : w22.cell? ⟨gb103, 8, none⟩ = some (.slice none 0 0) := (bkC BK103.out 8).trans rfl; have hfz23_0 := bkF BK103.out 0; have hfz23_1 := bkF BK103.out 1; have hfz23_2 := bkF BK103.out 2; have hfz23_3 := bkF BK103.out 3; have hfz23_4 := bkF BK103.out 4; have hfz23_5 := bkF BK103.out 5; have hfz23_6 := bkF BK103.out 6; have hfz23_7 := bkF BK103.out 7; have hfz23_8 := bkF BK103.out 8))
       go_ret
       exact ⟨by first | rfl | (simp [errW_none, errW_some] <;> rfl) | (simp [*, errW_none, errW_some] <;> rfl), by repeat (first | (with_reducible first | exact HB.out | apply blA | apply pbN | apply blD | refine blS ?_ GE103.out) | exact HB.out)⟩
     ·replace c12 := Bool.eq_false_iff.mpr c12
      subst c12
      have H1 : (some false) = some r := by rw [if_neg (show ¬ (false = true) by decide)] at H; exact H
      clear H
      have H := H1
      clear H1
      obtain rfl := Option.some.inj H
      have hcz24_0 : wc.cell? ⟨gb103, 0, none⟩ = some (.int .i64 a0_0) := (bkC BK103.out 0).trans rfl
      have hcz24_1 : wc.cell? ⟨gb103, 1, none⟩ = some (.int .i64 a0_1) := (bkC BK103.out 1).trans rfl
      have hcz24_2 : wc.cell? ⟨gb103, 2, none⟩ = some (.int .i64 a0_2) := (bkC BK103.out 2).trans rfl
      have hcz24_3 : wc.cell? ⟨gb103, 3, none⟩ = some (.string a0_3) := (bkC BK103.out 3).trans rfl
      have hcz24_4 : wc.cell? ⟨gb103, 4, none⟩ = some (.int .i64 a0_4) := (bkC BK103.out 4).trans rfl
      have hcz24_5 : wc.cell? ⟨gb103, 5, none⟩ = some (.int .i64 a0_5) := (bkC BK103.out 5).trans rfl
      have hcz24_6 : wc.cell? ⟨gb103, 6, none⟩ = some (.int .i64 a0_6) := (bkC BK103.out 6).trans rfl
      have hcz24_7 : wc.cell? ⟨gb103, 7, none⟩ = some (.string a0_7) := (bkC BK103.out 7).trans rfl
      have hcz24_8 : wc.cell? ⟨gb103, 8, none⟩ = some (.slice A0_8 l0_8.length c0_8) := (bkC BK103.out 8).trans rfl
      have hfz24_0 := bkF BK103.out 0
      have hfz24_1 := bkF BK103.out 1
      have hfz24_2 := bkF BK103.out 2
      have hfz24_3 := bkF BK103.out 3
      have hfz24_4 := bkF BK103.out 4
      have hfz24_5 := bkF BK103.out 5
      have hfz24_6 := bkF BK103.out 6
      have hfz24_7 := bkF BK103.out 7
      have hfz24_8 := bkF BK103.out 8
      go_wp2_with (first | ((with_reducible refine gate_callee (f := 22) rfl ?_); refine goesL_ (some 22) rfl rfl Tryd.func22 (by kernel_rfl) rfl #[.agg #[.int .i64 a0_1, .int .i64 a0_2, .string a0_3]] rfl (by (try simp only [List.map_toArray, List.map_cons, List.map_nil]); first | done | rfl | (simp only [List.length_drop, List.length_take]; rfl)) ?_; (with_reducible refine (value_Right.calls a0_1 a0_2 a0_3 false _ A11.out).mono ?_); rintro e w25 ⟨rfl, hb⟩; refine ⟨_, rfl, ?_⟩; have n0_ := Asd.mk (blk_below (g := gb103) (o := .cells #[.int .i64 a0_0, .int .i64 a0_1, .int .i64 a0_2, .string a0_3, .int .i64 a0_4, .int .i64 a0_5, .int .i64 a0_6, .string a0_7, .slice none 0 0] 26 (0, 0)) (by (with_reducible repeat (first | refine bkN ?_ _ | refine bkD ?_ | refine bkA ?_ _)); refine blk_put (cs := #[.int .i64 a0_0, .int .i64 a0_1, .int .i64 a0_2, .string a0_3, .int .i64 a0_4, .int .i64 a0_5, .int .i64 a0_6, .string a0_7, .slice A0_8 l0_8.length c0_8]) ?_ 8 _ rfl; (with_reducible repeat (first | refine bkN ?_ _ | refine bkD ?_ | refine bkA ?_ _)); exact BK103.out) hb); have n1_ := Asd.mk (below_step (by repeat (first | (with_reducible first | exact HB.out | apply blA | apply pbN | apply blD | refine blS ?_ GE103.out) | exact HB.out)) hb); clear BK103; clear HB; have BK103 := n0_; have HB := n1_; clear n0_ n1_; (try clear hb); (try clear hb2); (try clear hk); (try clear hi)))
      go_ret
      exact ⟨by first | rfl | (simp [errW_none, errW_some] <;> rfl) | (simp [*, errW_none, errW_some] <;> rfl), by repeat (first | (with_reducible first | exact HB.out | apply blA | apply pbN | apply blD | refine blS ?_ GE103.out) | exact HB.out)⟩
    ·rw [if_neg c10] at H
     have c10b0 : (a0_0 == 1) = false := beq_eq_false_iff_ne.mpr c10
     have c10b1 : (a0_0 != 1) = true := bne_iff_ne.mpr c10
     by_cases c26 : a0_0 = 2
     ·rw [if_pos c26] at H
      have c26b0 : (a0_0 == 2) = true := beq_iff_eq.mpr c26
      have c26b1 : (a0_0 != 2) = false := bne_eq_false_iff_eq.mpr c26
      clear c26
      by_cases c27 : a0_4 ≥ 0
      ·rw [if_pos c27] at H
       have c27b0 : decide (0 ≤ a0_4) = true := decide_eq_true c27
       clear c27
       by_cases c28 : a0_4 ≤ 15
       ·rw [if_pos c28] at H
        have c28b0 : decide (a0_4 ≤ 15) = true := decide_eq_true c28
        clear c28
        by_cases c29 : a0_5 ≥ 0
        ·rw [if_pos c29] at H
         have c29b0 : decide (0 ≤ a0_5) = true := decide_eq_true c29
         clear c29
         by_cases c30 : a0_5 < 6
         ·rw [if_pos c30] at H
          have c30b0 : decide (a0_5 < 6) = true := decide_eq_true c30
          clear c30
          by_cases c31 : a0_6 = 0
          ·rw [if_pos c31] at H
           have c31b0 : (a0_6 == 0) = true := beq_iff_eq.mpr c31
           have c31b1 : (a0_6 != 0) = false := bne_eq_false_iff_eq.mpr c31
           clear c31
           obtain rfl := Option.some.inj H
           have hcz32_0 : wc.cell? ⟨gb103, 0, none⟩ = some (.int .i64 a0_0) := (bkC BK103.out 0).trans rfl
           have hcz32_1 : wc.cell? ⟨gb103, 1, none⟩ = some (.int .i64 a0_1) := (bkC BK103.out 1).trans rfl
           have hcz32_2 : wc.cell? ⟨gb103, 2, none⟩ = some (.int .i64 a0_2) := (bkC BK103.out 2).trans rfl
           have hcz32_3 : wc.cell? ⟨gb103, 3, none⟩ = some (.string a0_3) := (bkC BK103.out 3).trans rfl
           have hcz32_4 : wc.cell? ⟨gb103, 4, none⟩ = some (.int .i64 a0_4) := (bkC BK103.out 4).trans rfl
           have hcz32_5 : wc.cell? ⟨gb103, 5, none⟩ = some (.int .i64 a0_5) := (bkC BK103.out 5).trans rfl
           have hcz32_6 : wc.cell? ⟨gb103, 6, none⟩ = some (.int .i64 a0_6) := (bkC BK103.out 6).trans rfl
           have hcz32_7 : wc.cell? ⟨gb103, 7, none⟩ = some (.string a0_7) := (bkC BK103.out 7).trans rfl
           have hcz32_8 : wc.cell? ⟨gb103, 8, none⟩ = some (.slice A0_8 l0_8.length c0_8) := (bkC BK103.out 8).trans rfl
           have hfz32_0 := bkF BK103.out 0
           have hfz32_1 := bkF BK103.out 1
           have hfz32_2 := bkF BK103.out 2
           have hfz32_3 := bkF BK103.out 3
           have hfz32_4 := bkF BK103.out 4
           have hfz32_5 := bkF BK103.out 5
           have hfz32_6 := bkF BK103.out 6
           have hfz32_7 := bkF BK103.out 7
           have hfz32_8 := bkF BK103.out 8
           go_wp2
           go_ret
           exact ⟨by first | rfl | (simp [errW_none, errW_some] <;> rfl) | (simp [*, errW_none, errW_some] <;> rfl), by repeat (first | (with_reducible first | exact HB.out | apply blA | apply pbN | apply blD | refine blS ?_ GE103.out) | exact HB.out)⟩
          ·rw [if_neg c31] at H
           have c31b0 : (a0_6 == 0) = false := beq_eq_false_iff_ne.mpr c31
           have c31b1 : (a0_6 != 0) = true := bne_iff_ne.mpr c31
           obtain rfl := Option.some.inj H
           have hcz33_0 : wc.cell? ⟨gb103, 0, none⟩ = some (.int .i64 a0_0) := (bkC BK103.out 0).trans rfl
           have hcz33_1 : wc.cell? ⟨gb103, 1, none⟩ = some (.int .i64 a0_1) := (bkC BK103.out 1).trans rfl
           have hcz33_2 : wc.cell? ⟨gb103, 2, none⟩ = some (.int .i64 a0_2) := (bkC BK103.out 2).trans rfl
           have hcz33_3 : wc.cell? ⟨gb103, 3, none⟩ = some (.string a0_3) := (bkC BK103.out 3).trans rfl
           have hcz33_4 : wc.cell? ⟨gb103, 4, none⟩ = some (.int .i64 a0_4) := (bkC BK103.out 4).trans rfl
           have hcz33_5 : wc.cell? ⟨gb103, 5, none⟩ = some (.int .i64 a0_5) := (bkC BK103.out 5).trans rfl
           have hcz33_6 : wc.cell? ⟨gb103, 6, none⟩ = some (.int .i64 a0_6) := (bkC BK103.out 6).trans rfl
           have hcz33_7 : wc.cell? ⟨gb103, 7, none⟩ = some (.string a0_7) := (bkC BK103.out 7).trans rfl
           have hcz33_8 : wc.cell? ⟨gb103, 8, none⟩ = some (.slice A0_8 l0_8.length c0_8) := (bkC BK103.out 8).trans rfl
           have hfz33_0 := bkF BK103.out 0
           have hfz33_1 := bkF BK103.out 1
           have hfz33_2 := bkF BK103.out 2
           have hfz33_3 := bkF BK103.out 3
           have hfz33_4 := bkF BK103.out 4
           have hfz33_5 := bkF BK103.out 5
           have hfz33_6 := bkF BK103.out 6
           have hfz33_7 := bkF BK103.out 7
           have hfz33_8 := bkF BK103.out 8
           go_wp2
           go_ret
           exact ⟨by first | rfl | (simp [errW_none, errW_some] <;> rfl) | (simp [*, errW_none, errW_some] <;> rfl), by repeat (first | (with_reducible first | exact HB.out | apply blA | apply pbN | apply blD | refine blS ?_ GE103.out) | exact HB.out)⟩
         ·rw [if_neg c30] at H
          have c30b0 : decide (a0_5 < 6) = false := decide_eq_false c30
          clear c30
          obtain rfl := Option.some.inj H
          have hcz34_0 : wc.cell? ⟨gb103, 0, none⟩ = some (.int .i64 a0_0) := (bkC BK103.out 0).trans rfl
          have hcz34_1 : wc.cell? ⟨gb103, 1, none⟩ = some (.int .i64 a0_1) := (bkC BK103.out 1).trans rfl
          have hcz34_2 : wc.cell? ⟨gb103, 2, none⟩ = some (.int .i64 a0_2) := (bkC BK103.out 2).trans rfl
          have hcz34_3 : wc.cell? ⟨gb103, 3, none⟩ = some (.string a0_3) := (bkC BK103.out 3).trans rfl
          have hcz34_4 : wc.cell? ⟨gb103, 4, none⟩ = some (.int .i64 a0_4) := (bkC BK103.out 4).trans rfl
          have hcz34_5 : wc.cell? ⟨gb103, 5, none⟩ = some (.int .i64 a0_5) := (bkC BK103.out 5).trans rfl
          have hcz34_6 : wc.cell? ⟨gb103, 6, none⟩ = some (.int .i64 a0_6) := (bkC BK103.out 6).trans rfl
          have hcz34_7 : wc.cell? ⟨gb103, 7, none⟩ = some (.string a0_7) := (bkC BK103.out 7).trans rfl
          have hcz34_8 : wc.cell? ⟨gb103, 8, none⟩ = some (.slice A0_8 l0_8.length c0_8) := (bkC BK103.out 8).trans rfl
          have hfz34_0 := bkF BK103.out 0
          have hfz34_1 := bkF BK103.out 1
          have hfz34_2 := bkF BK103.out 2
          have hfz34_3 := bkF BK103.out 3
          have hfz34_4 := bkF BK103.out 4
          have hfz34_5 := bkF BK103.out 5
          have hfz34_6 := bkF BK103.out 6
          have hfz34_7 := bkF BK103.out 7
          have hfz34_8 := bkF BK103.out 8
          go_wp2
          go_ret
          exact ⟨by first | rfl | (simp [errW_none, errW_some] <;> rfl) | (simp [*, errW_none, errW_some] <;> rfl), by repeat (first | (with_reducible first | exact HB.out | apply blA | apply pbN | apply blD | refine blS ?_ GE103.out) | exact HB.out)⟩
        ·rw [if_neg c29] at H
         have c29b0 : decide (0 ≤ a0_5) = false := decide_eq_false c29
         clear c29
         obtain rfl := Option.some.inj H
         have hcz35_0 : wc.cell? ⟨gb103, 0, none⟩ = some (.int .i64 a0_0) := (bkC BK103.out 0).trans rfl
         have hcz35_1 : wc.cell? ⟨gb103, 1, none⟩ = some (.int .i64 a0_1) := (bkC BK103.out 1).trans rfl
         have hcz35_2 : wc.cell? ⟨gb103, 2, none⟩ = some (.int .i64 a0_2) := (bkC BK103.out 2).trans rfl
         have hcz35_3 : wc.cell? ⟨gb103, 3, none⟩ = some (.string a0_3) := (bkC BK103.out 3).trans rfl
         have hcz35_4 : wc.cell? ⟨gb103, 4, none⟩ = some (.int .i64 a0_4) := (bkC BK103.out 4).trans rfl
         have hcz35_5 : wc.cell? ⟨gb103, 5, none⟩ = some (.int .i64 a0_5) := (bkC BK103.out 5).trans rfl
         have hcz35_6 : wc.cell? ⟨gb103, 6, none⟩ = some (.int .i64 a0_6) := (bkC BK103.out 6).trans rfl
         have hcz35_7 : wc.cell? ⟨gb103, 7, none⟩ = some (.string a0_7) := (bkC BK103.out 7).trans rfl
         have hcz35_8 : wc.cell? ⟨gb103, 8, none⟩ = some (.slice A0_8 l0_8.length c0_8) := (bkC BK103.out 8).trans rfl
         have hfz35_0 := bkF BK103.out 0
         have hfz35_1 := bkF BK103.out 1
         have hfz35_2 := bkF BK103.out 2
         have hfz35_3 := bkF BK103.out 3
         have hfz35_4 := bkF BK103.out 4
         have hfz35_5 := bkF BK103.out 5
         have hfz35_6 := bkF BK103.out 6
         have hfz35_7 := bkF BK103.out 7
         have hfz35_8 := bkF BK103.out 8
         go_wp2
         go_ret
         exact ⟨by first | rfl | (simp [errW_none, errW_some] <;> rfl) | (simp [*, errW_none, errW_some] <;> rfl), by repeat (first | (with_reducible first | exact HB.out | apply blA | apply pbN | apply blD | refine blS ?_ GE103.out) | exact HB.out)⟩
       ·rw [if_neg c28] at H
        have c28b0 : decide (a0_4 ≤ 15) = false := decide_eq_false c28
        clear c28
        obtain rfl := Option.some.inj H
        have hcz36_0 : wc.cell? ⟨gb103, 0, none⟩ = some (.int .i64 a0_0) := (bkC BK103.out 0).trans rfl
        have hcz36_1 : wc.cell? ⟨gb103, 1, none⟩ = some (.int .i64 a0_1) := (bkC BK103.out 1).trans rfl
        have hcz36_2 : wc.cell? ⟨gb103, 2, none⟩ = some (.int .i64 a0_2) := (bkC BK103.out 2).trans rfl
        have hcz36_3 : wc.cell? ⟨gb103, 3, none⟩ = some (.string a0_3) := (bkC BK103.out 3).trans rfl
        have hcz36_4 : wc.cell? ⟨gb103, 4, none⟩ = some (.int .i64 a0_4) := (bkC BK103.out 4).trans rfl
        have hcz36_5 : wc.cell? ⟨gb103, 5, none⟩ = some (.int .i64 a0_5) := (bkC BK103.out 5).trans rfl
        have hcz36_6 : wc.cell? ⟨gb103, 6, none⟩ = some (.int .i64 a0_6) := (bkC BK103.out 6).trans rfl
        have hcz36_7 : wc.cell? ⟨gb103, 7, none⟩ = some (.string a0_7) := (bkC BK103.out 7).trans rfl
        have hcz36_8 : wc.cell? ⟨gb103, 8, none⟩ = some (.slice A0_8 l0_8.length c0_8) := (bkC BK103.out 8).trans rfl
        have hfz36_0 := bkF BK103.out 0
        have hfz36_1 := bkF BK103.out 1
        have hfz36_2 := bkF BK103.out 2
        have hfz36_3 := bkF BK103.out 3
        have hfz36_4 := bkF BK103.out 4
        have hfz36_5 := bkF BK103.out 5
        have hfz36_6 := bkF BK103.out 6
        have hfz36_7 := bkF BK103.out 7
        have hfz36_8 := bkF BK103.out 8
        go_wp2
        go_ret
        exact ⟨by first | rfl | (simp [errW_none, errW_some] <;> rfl) | (simp [*, errW_none, errW_some] <;> rfl), by repeat (first | (with_reducible first | exact HB.out | apply blA | apply pbN | apply blD | refine blS ?_ GE103.out) | exact HB.out)⟩
      ·rw [if_neg c27] at H
       have c27b0 : decide (0 ≤ a0_4) = false := decide_eq_false c27
       clear c27
       obtain rfl := Option.some.inj H
       have hcz37_0 : wc.cell? ⟨gb103, 0, none⟩ = some (.int .i64 a0_0) := (bkC BK103.out 0).trans rfl
       have hcz37_1 : wc.cell? ⟨gb103, 1, none⟩ = some (.int .i64 a0_1) := (bkC BK103.out 1).trans rfl
       have hcz37_2 : wc.cell? ⟨gb103, 2, none⟩ = some (.int .i64 a0_2) := (bkC BK103.out 2).trans rfl
       have hcz37_3 : wc.cell? ⟨gb103, 3, none⟩ = some (.string a0_3) := (bkC BK103.out 3).trans rfl
       have hcz37_4 : wc.cell? ⟨gb103, 4, none⟩ = some (.int .i64 a0_4) := (bkC BK103.out 4).trans rfl
       have hcz37_5 : wc.cell? ⟨gb103, 5, none⟩ = some (.int .i64 a0_5) := (bkC BK103.out 5).trans rfl
       have hcz37_6 : wc.cell? ⟨gb103, 6, none⟩ = some (.int .i64 a0_6) := (bkC BK103.out 6).trans rfl
       have hcz37_7 : wc.cell? ⟨gb103, 7, none⟩ = some (.string a0_7) := (bkC BK103.out 7).trans rfl
       have hcz37_8 : wc.cell? ⟨gb103, 8, none⟩ = some (.slice A0_8 l0_8.length c0_8) := (bkC BK103.out 8).trans rfl
       have hfz37_0 := bkF BK103.out 0
       have hfz37_1 := bkF BK103.out 1
       have hfz37_2 := bkF BK103.out 2
       have hfz37_3 := bkF BK103.out 3
       have hfz37_4 := bkF BK103.out 4
       have hfz37_5 := bkF BK103.out 5
       have hfz37_6 := bkF BK103.out 6
       have hfz37_7 := bkF BK103.out 7
       have hfz37_8 := bkF BK103.out 8
       go_wp2
       go_ret
       exact ⟨by first | rfl | (simp [errW_none, errW_some] <;> rfl) | (simp [*, errW_none, errW_some] <;> rfl), by repeat (first | (with_reducible first | exact HB.out | apply blA | apply pbN | apply blD | refine blS ?_ GE103.out) | exact HB.out)⟩
     ·rw [if_neg c26] at H
      have c26b0 : (a0_0 == 2) = false := beq_eq_false_iff_ne.mpr c26
      have c26b1 : (a0_0 != 2) = true := bne_iff_ne.mpr c26
      by_cases c38 : a0_0 = 3
      ·rw [if_pos c38] at H
       have c38b0 : (a0_0 == 3) = true := beq_iff_eq.mpr c38
       have c38b1 : (a0_0 != 3) = false := bne_eq_false_iff_eq.mpr c38
       clear c38
       by_cases c39 : a0_6 ≥ 1
       ·rw [if_pos c39] at H
        have c39b0 : decide (1 ≤ a0_6) = true := decide_eq_true c39
        clear c39
        by_cases c40 : a0_6 ≤ 4
        ·rw [if_pos c40] at H
         have c40b0 : decide (a0_6 ≤ 4) = true := decide_eq_true c40
         clear c40
         by_cases c41 : a0_4 = 0
         ·rw [if_pos c41] at H
          have c41b0 : (a0_4 == 0) = true := beq_iff_eq.mpr c41
          have c41b1 : (a0_4 != 0) = false := bne_eq_false_iff_eq.mpr c41
          clear c41
          by_cases c42 : a0_5 = 0
          ·rw [if_pos c42] at H
           have c42b0 : (a0_5 == 0) = true := beq_iff_eq.mpr c42
           have c42b1 : (a0_5 != 0) = false := bne_eq_false_iff_eq.mpr c42
           clear c42
           obtain rfl := Option.some.inj H
           have hcz43_0 : wc.cell? ⟨gb103, 0, none⟩ = some (.int .i64 a0_0) := (bkC BK103.out 0).trans rfl
           have hcz43_1 : wc.cell? ⟨gb103, 1, none⟩ = some (.int .i64 a0_1) := (bkC BK103.out 1).trans rfl
           have hcz43_2 : wc.cell? ⟨gb103, 2, none⟩ = some (.int .i64 a0_2) := (bkC BK103.out 2).trans rfl
           have hcz43_3 : wc.cell? ⟨gb103, 3, none⟩ = some (.string a0_3) := (bkC BK103.out 3).trans rfl
           have hcz43_4 : wc.cell? ⟨gb103, 4, none⟩ = some (.int .i64 a0_4) := (bkC BK103.out 4).trans rfl
           have hcz43_5 : wc.cell? ⟨gb103, 5, none⟩ = some (.int .i64 a0_5) := (bkC BK103.out 5).trans rfl
           have hcz43_6 : wc.cell? ⟨gb103, 6, none⟩ = some (.int .i64 a0_6) := (bkC BK103.out 6).trans rfl
           have hcz43_7 : wc.cell? ⟨gb103, 7, none⟩ = some (.string a0_7) := (bkC BK103.out 7).trans rfl
           have hcz43_8 : wc.cell? ⟨gb103, 8, none⟩ = some (.slice A0_8 l0_8.length c0_8) := (bkC BK103.out 8).trans rfl
           have hfz43_0 := bkF BK103.out 0
           have hfz43_1 := bkF BK103.out 1
           have hfz43_2 := bkF BK103.out 2
           have hfz43_3 := bkF BK103.out 3
           have hfz43_4 := bkF BK103.out 4
           have hfz43_5 := bkF BK103.out 5
           have hfz43_6 := bkF BK103.out 6
           have hfz43_7 := bkF BK103.out 7
           have hfz43_8 := bkF BK103.out 8
           go_wp2
           go_ret
           exact ⟨by first | rfl | (simp [errW_none, errW_some] <;> rfl) | (simp [*, errW_none, errW_some] <;> rfl), by repeat (first | (with_reducible first | exact HB.out | apply blA | apply pbN | apply blD | refine blS ?_ GE103.out) | exact HB.out)⟩
          ·rw [if_neg c42] at H
           have c42b0 : (a0_5 == 0) = false := beq_eq_false_iff_ne.mpr c42
           have c42b1 : (a0_5 != 0) = true := bne_iff_ne.mpr c42
           obtain rfl := Option.some.inj H
           have hcz44_0 : wc.cell? ⟨gb103, 0, none⟩ = some (.int .i64 a0_0) := (bkC BK103.out 0).trans rfl
           have hcz44_1 : wc.cell? ⟨gb103, 1, none⟩ = some (.int .i64 a0_1) := (bkC BK103.out 1).trans rfl
           have hcz44_2 : wc.cell? ⟨gb103, 2, none⟩ = some (.int .i64 a0_2) := (bkC BK103.out 2).trans rfl
           have hcz44_3 : wc.cell? ⟨gb103, 3, none⟩ = some (.string a0_3) := (bkC BK103.out 3).trans rfl
           have hcz44_4 : wc.cell? ⟨gb103, 4, none⟩ = some (.int .i64 a0_4) := (bkC BK103.out 4).trans rfl
           have hcz44_5 : wc.cell? ⟨gb103, 5, none⟩ = some (.int .i64 a0_5) := (bkC BK103.out 5).trans rfl
           have hcz44_6 : wc.cell? ⟨gb103, 6, none⟩ = some (.int .i64 a0_6) := (bkC BK103.out 6).trans rfl
           have hcz44_7 : wc.cell? ⟨gb103, 7, none⟩ = some (.string a0_7) := (bkC BK103.out 7).trans rfl
           have hcz44_8 : wc.cell? ⟨gb103, 8, none⟩ = some (.slice A0_8 l0_8.length c0_8) := (bkC BK103.out 8).trans rfl
           have hfz44_0 := bkF BK103.out 0
           have hfz44_1 := bkF BK103.out 1
           have hfz44_2 := bkF BK103.out 2
           have hfz44_3 := bkF BK103.out 3
           have hfz44_4 := bkF BK103.out 4
           have hfz44_5 := bkF BK103.out 5
           have hfz44_6 := bkF BK103.out 6
           have hfz44_7 := bkF BK103.out 7
           have hfz44_8 := bkF BK103.out 8
           go_wp2
           go_ret
           exact ⟨by first | rfl | (simp [errW_none, errW_some] <;> rfl) | (simp [*, errW_none, errW_some] <;> rfl), by repeat (first | (with_reducible first | exact HB.out | apply blA | apply pbN | apply blD | refine blS ?_ GE103.out) | exact HB.out)⟩
         ·rw [if_neg c41] at H
          have c41b0 : (a0_4 == 0) = false := beq_eq_false_iff_ne.mpr c41
          have c41b1 : (a0_4 != 0) = true := bne_iff_ne.mpr c41
          obtain rfl := Option.some.inj H
          have hcz45_0 : wc.cell? ⟨gb103, 0, none⟩ = some (.int .i64 a0_0) := (bkC BK103.out 0).trans rfl
          have hcz45_1 : wc.cell? ⟨gb103, 1, none⟩ = some (.int .i64 a0_1) := (bkC BK103.out 1).trans rfl
          have hcz45_2 : wc.cell? ⟨gb103, 2, none⟩ = some (.int .i64 a0_2) := (bkC BK103.out 2).trans rfl
          have hcz45_3 : wc.cell? ⟨gb103, 3, none⟩ = some (.string a0_3) := (bkC BK103.out 3).trans rfl
          have hcz45_4 : wc.cell? ⟨gb103, 4, none⟩ = some (.int .i64 a0_4) := (bkC BK103.out 4).trans rfl
          have hcz45_5 : wc.cell? ⟨gb103, 5, none⟩ = some (.int .i64 a0_5) := (bkC BK103.out 5).trans rfl
          have hcz45_6 : wc.cell? ⟨gb103, 6, none⟩ = some (.int .i64 a0_6) := (bkC BK103.out 6).trans rfl
          have hcz45_7 : wc.cell? ⟨gb103, 7, none⟩ = some (.string a0_7) := (bkC BK103.out 7).trans rfl
          have hcz45_8 : wc.cell? ⟨gb103, 8, none⟩ = some (.slice A0_8 l0_8.length c0_8) := (bkC BK103.out 8).trans rfl
          have hfz45_0 := bkF BK103.out 0
          have hfz45_1 := bkF BK103.out 1
          have hfz45_2 := bkF BK103.out 2
          have hfz45_3 := bkF BK103.out 3
          have hfz45_4 := bkF BK103.out 4
          have hfz45_5 := bkF BK103.out 5
          have hfz45_6 := bkF BK103.out 6
          have hfz45_7 := bkF BK103.out 7
          have hfz45_8 := bkF BK103.out 8
          go_wp2
          go_ret
          exact ⟨by first | rfl | (simp [errW_none, errW_some] <;> rfl) | (simp [*, errW_none, errW_some] <;> rfl), by repeat (first | (with_reducible first | exact HB.out | apply blA | apply pbN | apply blD | refine blS ?_ GE103.out) | exact HB.out)⟩
        ·rw [if_neg c40] at H
         have c40b0 : decide (a0_6 ≤ 4) = false := decide_eq_false c40
         clear c40
         obtain rfl := Option.some.inj H
         have hcz46_0 : wc.cell? ⟨gb103, 0, none⟩ = some (.int .i64 a0_0) := (bkC BK103.out 0).trans rfl
         have hcz46_1 : wc.cell? ⟨gb103, 1, none⟩ = some (.int .i64 a0_1) := (bkC BK103.out 1).trans rfl
         have hcz46_2 : wc.cell? ⟨gb103, 2, none⟩ = some (.int .i64 a0_2) := (bkC BK103.out 2).trans rfl
         have hcz46_3 : wc.cell? ⟨gb103, 3, none⟩ = some (.string a0_3) := (bkC BK103.out 3).trans rfl
         have hcz46_4 : wc.cell? ⟨gb103, 4, none⟩ = some (.int .i64 a0_4) := (bkC BK103.out 4).trans rfl
         have hcz46_5 : wc.cell? ⟨gb103, 5, none⟩ = some (.int .i64 a0_5) := (bkC BK103.out 5).trans rfl
         have hcz46_6 : wc.cell? ⟨gb103, 6, none⟩ = some (.int .i64 a0_6) := (bkC BK103.out 6).trans rfl
         have hcz46_7 : wc.cell? ⟨gb103, 7, none⟩ = some (.string a0_7) := (bkC BK103.out 7).trans rfl
         have hcz46_8 : wc.cell? ⟨gb103, 8, none⟩ = some (.slice A0_8 l0_8.length c0_8) := (bkC BK103.out 8).trans rfl
         have hfz46_0 := bkF BK103.out 0
         have hfz46_1 := bkF BK103.out 1
         have hfz46_2 := bkF BK103.out 2
         have hfz46_3 := bkF BK103.out 3
         have hfz46_4 := bkF BK103.out 4
         have hfz46_5 := bkF BK103.out 5
         have hfz46_6 := bkF BK103.out 6
         have hfz46_7 := bkF BK103.out 7
         have hfz46_8 := bkF BK103.out 8
         go_wp2
         go_ret
         exact ⟨by first | rfl | (simp [errW_none, errW_some] <;> rfl) | (simp [*, errW_none, errW_some] <;> rfl), by repeat (first | (with_reducible first | exact HB.out | apply blA | apply pbN | apply blD | refine blS ?_ GE103.out) | exact HB.out)⟩
       ·rw [if_neg c39] at H
        have c39b0 : decide (1 ≤ a0_6) = false := decide_eq_false c39
        clear c39
        obtain rfl := Option.some.inj H
        have hcz47_0 : wc.cell? ⟨gb103, 0, none⟩ = some (.int .i64 a0_0) := (bkC BK103.out 0).trans rfl
        have hcz47_1 : wc.cell? ⟨gb103, 1, none⟩ = some (.int .i64 a0_1) := (bkC BK103.out 1).trans rfl
        have hcz47_2 : wc.cell? ⟨gb103, 2, none⟩ = some (.int .i64 a0_2) := (bkC BK103.out 2).trans rfl
        have hcz47_3 : wc.cell? ⟨gb103, 3, none⟩ = some (.string a0_3) := (bkC BK103.out 3).trans rfl
        have hcz47_4 : wc.cell? ⟨gb103, 4, none⟩ = some (.int .i64 a0_4) := (bkC BK103.out 4).trans rfl
        have hcz47_5 : wc.cell? ⟨gb103, 5, none⟩ = some (.int .i64 a0_5) := (bkC BK103.out 5).trans rfl
        have hcz47_6 : wc.cell? ⟨gb103, 6, none⟩ = some (.int .i64 a0_6) := (bkC BK103.out 6).trans rfl
        have hcz47_7 : wc.cell? ⟨gb103, 7, none⟩ = some (.string a0_7) := (bkC BK103.out 7).trans rfl
        have hcz47_8 : wc.cell? ⟨gb103, 8, none⟩ = some (.slice A0_8 l0_8.length c0_8) := (bkC BK103.out 8).trans rfl
        have hfz47_0 := bkF BK103.out 0
        have hfz47_1 := bkF BK103.out 1
        have hfz47_2 := bkF BK103.out 2
        have hfz47_3 := bkF BK103.out 3
        have hfz47_4 := bkF BK103.out 4
        have hfz47_5 := bkF BK103.out 5
        have hfz47_6 := bkF BK103.out 6
        have hfz47_7 := bkF BK103.out 7
        have hfz47_8 := bkF BK103.out 8
        go_wp2
        go_ret
        exact ⟨by first | rfl | (simp [errW_none, errW_some] <;> rfl) | (simp [*, errW_none, errW_some] <;> rfl), by repeat (first | (with_reducible first | exact HB.out | apply blA | apply pbN | apply blD | refine blS ?_ GE103.out) | exact HB.out)⟩
      ·rw [if_neg c38] at H
       have c38b0 : (a0_0 == 3) = false := beq_eq_false_iff_ne.mpr c38
       have c38b1 : (a0_0 != 3) = true := bne_iff_ne.mpr c38
       by_cases c48 : a0_4 = 0
       ·rw [if_pos c48] at H
        have c48b0 : (a0_4 == 0) = true := beq_iff_eq.mpr c48
        have c48b1 : (a0_4 != 0) = false := bne_eq_false_iff_eq.mpr c48
        clear c48
        by_cases c49 : a0_5 = 0
        ·rw [if_pos c49] at H
         have c49b0 : (a0_5 == 0) = true := beq_iff_eq.mpr c49
         have c49b1 : (a0_5 != 0) = false := bne_eq_false_iff_eq.mpr c49
         clear c49
         by_cases c50 : a0_6 = 0
         ·rw [if_pos c50] at H
          have c50b0 : (a0_6 == 0) = true := beq_iff_eq.mpr c50
          have c50b1 : (a0_6 != 0) = false := bne_eq_false_iff_eq.mpr c50
          clear c50
          obtain rfl := Option.some.inj H
          have hcz51_0 : wc.cell? ⟨gb103, 0, none⟩ = some (.int .i64 a0_0) := (bkC BK103.out 0).trans rfl
          have hcz51_1 : wc.cell? ⟨gb103, 1, none⟩ = some (.int .i64 a0_1) := (bkC BK103.out 1).trans rfl
          have hcz51_2 : wc.cell? ⟨gb103, 2, none⟩ = some (.int .i64 a0_2) := (bkC BK103.out 2).trans rfl
          have hcz51_3 : wc.cell? ⟨gb103, 3, none⟩ = some (.string a0_3) := (bkC BK103.out 3).trans rfl
          have hcz51_4 : wc.cell? ⟨gb103, 4, none⟩ = some (.int .i64 a0_4) := (bkC BK103.out 4).trans rfl
          have hcz51_5 : wc.cell? ⟨gb103, 5, none⟩ = some (.int .i64 a0_5) := (bkC BK103.out 5).trans rfl
          have hcz51_6 : wc.cell? ⟨gb103, 6, none⟩ = some (.int .i64 a0_6) := (bkC BK103.out 6).trans rfl
          have hcz51_7 : wc.cell? ⟨gb103, 7, none⟩ = some (.string a0_7) := (bkC BK103.out 7).trans rfl
          have hcz51_8 : wc.cell? ⟨gb103, 8, none⟩ = some (.slice A0_8 l0_8.length c0_8) := (bkC BK103.out 8).trans rfl
          have hfz51_0 := bkF BK103.out 0
          have hfz51_1 := bkF BK103.out 1
          have hfz51_2 := bkF BK103.out 2
          have hfz51_3 := bkF BK103.out 3
          have hfz51_4 := bkF BK103.out 4
          have hfz51_5 := bkF BK103.out 5
          have hfz51_6 := bkF BK103.out 6
          have hfz51_7 := bkF BK103.out 7
          have hfz51_8 := bkF BK103.out 8
          go_wp2
          go_ret
          exact ⟨by first | rfl | (simp [errW_none, errW_some] <;> rfl) | (simp [*, errW_none, errW_some] <;> rfl), by repeat (first | (with_reducible first | exact HB.out | apply blA | apply pbN | apply blD | refine blS ?_ GE103.out) | exact HB.out)⟩
         ·rw [if_neg c50] at H
          have c50b0 : (a0_6 == 0) = false := beq_eq_false_iff_ne.mpr c50
          have c50b1 : (a0_6 != 0) = true := bne_iff_ne.mpr c50
          obtain rfl := Option.some.inj H
          have hcz52_0 : wc.cell? ⟨gb103, 0, none⟩ = some (.int .i64 a0_0) := (bkC BK103.out 0).trans rfl
          have hcz52_1 : wc.cell? ⟨gb103, 1, none⟩ = some (.int .i64 a0_1) := (bkC BK103.out 1).trans rfl
          have hcz52_2 : wc.cell? ⟨gb103, 2, none⟩ = some (.int .i64 a0_2) := (bkC BK103.out 2).trans rfl
          have hcz52_3 : wc.cell? ⟨gb103, 3, none⟩ = some (.string a0_3) := (bkC BK103.out 3).trans rfl
          have hcz52_4 : wc.cell? ⟨gb103, 4, none⟩ = some (.int .i64 a0_4) := (bkC BK103.out 4).trans rfl
          have hcz52_5 : wc.cell? ⟨gb103, 5, none⟩ = some (.int .i64 a0_5) := (bkC BK103.out 5).trans rfl
          have hcz52_6 : wc.cell? ⟨gb103, 6, none⟩ = some (.int .i64 a0_6) := (bkC BK103.out 6).trans rfl
          have hcz52_7 : wc.cell? ⟨gb103, 7, none⟩ = some (.string a0_7) := (bkC BK103.out 7).trans rfl
          have hcz52_8 : wc.cell? ⟨gb103, 8, none⟩ = some (.slice A0_8 l0_8.length c0_8) := (bkC BK103.out 8).trans rfl
          have hfz52_0 := bkF BK103.out 0
          have hfz52_1 := bkF BK103.out 1
          have hfz52_2 := bkF BK103.out 2
          have hfz52_3 := bkF BK103.out 3
          have hfz52_4 := bkF BK103.out 4
          have hfz52_5 := bkF BK103.out 5
          have hfz52_6 := bkF BK103.out 6
          have hfz52_7 := bkF BK103.out 7
          have hfz52_8 := bkF BK103.out 8
          go_wp2
          go_ret
          exact ⟨by first | rfl | (simp [errW_none, errW_some] <;> rfl) | (simp [*, errW_none, errW_some] <;> rfl), by repeat (first | (with_reducible first | exact HB.out | apply blA | apply pbN | apply blD | refine blS ?_ GE103.out) | exact HB.out)⟩
        ·rw [if_neg c49] at H
         have c49b0 : (a0_5 == 0) = false := beq_eq_false_iff_ne.mpr c49
         have c49b1 : (a0_5 != 0) = true := bne_iff_ne.mpr c49
         obtain rfl := Option.some.inj H
         have hcz53_0 : wc.cell? ⟨gb103, 0, none⟩ = some (.int .i64 a0_0) := (bkC BK103.out 0).trans rfl
         have hcz53_1 : wc.cell? ⟨gb103, 1, none⟩ = some (.int .i64 a0_1) := (bkC BK103.out 1).trans rfl
         have hcz53_2 : wc.cell? ⟨gb103, 2, none⟩ = some (.int .i64 a0_2) := (bkC BK103.out 2).trans rfl
         have hcz53_3 : wc.cell? ⟨gb103, 3, none⟩ = some (.string a0_3) := (bkC BK103.out 3).trans rfl
         have hcz53_4 : wc.cell? ⟨gb103, 4, none⟩ = some (.int .i64 a0_4) := (bkC BK103.out 4).trans rfl
         have hcz53_5 : wc.cell? ⟨gb103, 5, none⟩ = some (.int .i64 a0_5) := (bkC BK103.out 5).trans rfl
         have hcz53_6 : wc.cell? ⟨gb103, 6, none⟩ = some (.int .i64 a0_6) := (bkC BK103.out 6).trans rfl
         have hcz53_7 : wc.cell? ⟨gb103, 7, none⟩ = some (.string a0_7) := (bkC BK103.out 7).trans rfl
         have hcz53_8 : wc.cell? ⟨gb103, 8, none⟩ = some (.slice A0_8 l0_8.length c0_8) := (bkC BK103.out 8).trans rfl
         have hfz53_0 := bkF BK103.out 0
         have hfz53_1 := bkF BK103.out 1
         have hfz53_2 := bkF BK103.out 2
         have hfz53_3 := bkF BK103.out 3
         have hfz53_4 := bkF BK103.out 4
         have hfz53_5 := bkF BK103.out 5
         have hfz53_6 := bkF BK103.out 6
         have hfz53_7 := bkF BK103.out 7
         have hfz53_8 := bkF BK103.out 8
         go_wp2
         go_ret
         exact ⟨by first | rfl | (simp [errW_none, errW_some] <;> rfl) | (simp [*, errW_none, errW_some] <;> rfl), by repeat (first | (with_reducible first | exact HB.out | apply blA | apply pbN | apply blD | refine blS ?_ GE103.out) | exact HB.out)⟩
       ·rw [if_neg c48] at H
        have c48b0 : (a0_4 == 0) = false := beq_eq_false_iff_ne.mpr c48
        have c48b1 : (a0_4 != 0) = true := bne_iff_ne.mpr c48
        obtain rfl := Option.some.inj H
        have hcz54_0 : wc.cell? ⟨gb103, 0, none⟩ = some (.int .i64 a0_0) := (bkC BK103.out 0).trans rfl
        have hcz54_1 : wc.cell? ⟨gb103, 1, none⟩ = some (.int .i64 a0_1) := (bkC BK103.out 1).trans rfl
        have hcz54_2 : wc.cell? ⟨gb103, 2, none⟩ = some (.int .i64 a0_2) := (bkC BK103.out 2).trans rfl
        have hcz54_3 : wc.cell? ⟨gb103, 3, none⟩ = some (.string a0_3) := (bkC BK103.out 3).trans rfl
        have hcz54_4 : wc.cell? ⟨gb103, 4, none⟩ = some (.int .i64 a0_4) := (bkC BK103.out 4).trans rfl
        have hcz54_5 : wc.cell? ⟨gb103, 5, none⟩ = some (.int .i64 a0_5) := (bkC BK103.out 5).trans rfl
        have hcz54_6 : wc.cell? ⟨gb103, 6, none⟩ = some (.int .i64 a0_6) := (bkC BK103.out 6).trans rfl
        have hcz54_7 : wc.cell? ⟨gb103, 7, none⟩ = some (.string a0_7) := (bkC BK103.out 7).trans rfl
        have hcz54_8 : wc.cell? ⟨gb103, 8, none⟩ = some (.slice A0_8 l0_8.length c0_8) := (bkC BK103.out 8).trans rfl
        have hfz54_0 := bkF BK103.out 0
        have hfz54_1 := bkF BK103.out 1
        have hfz54_2 := bkF BK103.out 2
        have hfz54_3 := bkF BK103.out 3
        have hfz54_4 := bkF BK103.out 4
        have hfz54_5 := bkF BK103.out 5
        have hfz54_6 := bkF BK103.out 6
        have hfz54_7 := bkF BK103.out 7
        have hfz54_8 := bkF BK103.out 8
        go_wp2
        go_ret
        exact ⟨by first | rfl | (simp [errW_none, errW_some] <;> rfl) | (simp [*, errW_none, errW_some] <;> rfl), by repeat (first | (with_reducible first | exact HB.out | apply blA | apply pbN | apply blD | refine blS ?_ GE103.out) | exact HB.out)⟩
end Go.Proofs.YtkboodfnegedaaaDoor.E
namespace Go.Proofs.YtkboodfnegedaaaDoor.E
open Go.RowKit Go.Proofs.YtkboodfnegedaaaDoorW.PrintWords Go.Proofs.YtkboodfnegedaaaDoorW.PrintLast Go.Proofs.YtkboodfnegedaaaDoorW.PrintMore
def exC (e : S26) (A : Option Addr) (c : Nat) : Array Value := #[.int .i64 e.f0, .int .i64 e.f1.f0, .int .i64 e.f1.f1, .string e.f1.f2, .int .i64 e.f2, .int .i64 e.f3, .int .i64 e.f4, .string e.f5, .slice A e.f6.length c]
theorem at_ex {w : World} {A : Option Addr} {n : Nat} {xs : List S26} (h : Kd.C k26 w A n xs) (hn : xs.length = n) (k : Nat) (hk : k < n) :
    ∃ ad A8 c8 e, A = some ad ∧ xs[k]? = some e ∧ w.cell? (ad.add (k * 9)) = some (.int .i64 e.f0) ∧ w.cell? ⟨(ad.add (k * 9)).block, (ad.add (k * 9)).off + 1, none⟩ = some (.int .i64 e.f1.f0) ∧ w.cell? ⟨(ad.add (k * 9)).block, (ad.add (k * 9)).off + 2, none⟩ = some (.int .i64 e.f1.f1) ∧ w.cell? ⟨(ad.add (k * 9)).block, (ad.add (k * 9)).off + 3, none⟩ = some (.string e.f1.f2) ∧ w.cell? ⟨(ad.add (k * 9)).block, (ad.add (k * 9)).off + 4, none⟩ = some (.int .i64 e.f2) ∧ w.cell? ⟨(ad.add (k * 9)).block, (ad.add (k * 9)).off + 5, none⟩ = some (.int .i64 e.f3) ∧ w.cell? ⟨(ad.add (k * 9)).block, (ad.add (k * 9)).off + 6, none⟩ = some (.int .i64 e.f4) ∧ w.cell? ⟨(ad.add (k * 9)).block, (ad.add (k * 9)).off + 7, none⟩ = some (.string e.f5) ∧ w.cell? ⟨(ad.add (k * 9)).block, (ad.add (k * 9)).off + 8, none⟩ = some (.slice A8 e.f6.length c8) ∧ e.f6.length ≤ c8 ∧ k26.C w A8 e.f6.length e.f6 := by
  obtain ⟨ad, A8, c8, rfl, h0, h1, h2, h3, h4, h5, h6, h7, h8, hc8, hC8⟩ := at_T26 h (k : Int) (by omega) (by omega)
  have he : xs[k]? = some (rd_T26 xs k) := by
    unfold rd_T26
    simp [List.getElem?_eq_getElem (show k < xs.length by omega)]
  exact ⟨ad, A8, c8, _, rfl, he, h0, h1, h2, h3, h4, h5, h6, h7, h8, hc8, hC8⟩
def StepP (Inv : World → Prop) (Stop : World → Prop) (r : Ending) (W' : World) : Prop := (r = .returned (.bool false) ∧ Inv W') ∨ (r = .returned (.bool true) ∧ Stop W')
def IndexP (Inv : World → Prop) (Stop : World → Prop) (r : Ending) (W' : World) : Prop := (r = .returned (.int .i64 (-1)) ∧ Inv W') ∨ (∃ i : Nat, r = .returned (.int .i64 i) ∧ Stop W')
set_option maxRecDepth 100000 in
theorem index_ok (fid : Nat) (caps : Array Value) (xs : List S26) (A : Option Addr) (c : Nat) (w0 w : World) (hC : Kd.C k26 w0 A xs.length xs) (h63 : xs.length ≤ 9223372036854775807)
   (hcf : ∀ (args : Array Value) (W : World), (callFunc fid args).run Tryd.prog W = .ok (.enter fid args) W)
   (Inv : Nat → World → Prop) (Stop : World → Prop) (hInv : ∀ i W, Inv i W → Below w0.heap.size w0 W)
   (hstep : ∀ i e A8 c8 W, xs[i]? = some e → Inv i W → e.f6.length ≤ c8 → Kd.C k26 w0 A8 e.f6.length e.f6 → Calls Tryd.prog fid (#[.agg (exC e A8 c8)] ++ caps) W (StepP (Inv (i + 1)) Stop)) (hs : Inv 0 w) :
   Calls Tryd.prog 85 #[.slice A xs.length c, .func (.func fid) #[] caps] w (IndexP (Inv xs.length) Stop) := by
  obtain ⟨n, hn⟩ : ∃ n, xs.length = n := ⟨_, rfl⟩
  rw [hn] at hC h63 ⊢
  have HN := Lib.hid hn; clear hn
  have HC := Lib.hid hC; clear hC
  have HINV := Lib.hid hInv; clear hInv
  have HSTEP := Lib.hid hstep; clear hstep
  have HS := Lib.hid hs; clear hs
  go_enter Tryd.func85, Tryd.ntmps85
  go_wp2_with fail
  go_loopw [8] (fun v8 wr => ∃ k : Nat, k ≤ n ∧ v8 = .int .i64 k ∧ Hid (Inv k wr)) (fun i _ => n - (intOf i).toNat)
  case atStart => exact ⟨0, Nat.zero_le _, rfl, HS⟩
  case round =>
    obtain ⟨k, hk, rfl, HI⟩ := hrel
    by_cases hlt : k < n
    · have hlt' : (k : Int) < n := by omega
      obtain ⟨ad, A8, c8, e, rfl, HE, h0, h1, h2, h3, h4, h5, h6, h7, h8, hc8, hC8⟩ := at_ex HC.out HN.out k hlt
      replace HE := Lib.hid HE
      have HC8 := Lib.hid hC8; clear hC8
      have HB := Lib.hid (HINV.out k wr HI.out)
      replace h0 := pw_cell_below HB.out h0; replace h1 := pw_cell_below HB.out h1; replace h2 := pw_cell_below HB.out h2; replace h3 := pw_cell_below HB.out h3; replace h4 := pw_cell_below HB.out h4; replace h5 := pw_cell_below HB.out h5; replace h6 := pw_cell_below HB.out h6; replace h7 := pw_cell_below HB.out h7; replace h8 := pw_cell_below HB.out h8
      go_wp2_with fail
      refine (HSTEP.out k e A8 c8 wr HE.out HI.out hc8 HC8.out).mono ?_
      rintro r W' (⟨rfl, HI'⟩ | ⟨rfl, HST⟩)
      · have HI2 := Lib.hid HI'; clear HI'
        clear h0 h1 h2 h3 h4 h5 h6 h7 h8
        go_wp2_with fail
        go_roundw
        case rel => exact ⟨k + 1, by omega, by go_num, HI2⟩
        case measure => simp [intOf]; omega
      · have HI2 := Lib.hid HST; clear HST
        clear h0 h1 h2 h3 h4 h5 h6 h7 h8
        go_wp2_with fail
        go_ret
        exact .inr ⟨k, rfl, HI2.out⟩
    · have hlt' : ¬ (k : Int) < n := by omega
      obtain rfl : n = k := by omega
      go_wp2_with fail
      go_ret
      exact .inl ⟨rfl, HI.out⟩
def ContP (Inv : World → Prop) (Stop : World → Prop) (r : Ending) (W' : World) : Prop := (r = .returned (.bool false) ∧ Inv W') ∨ (r = .returned (.bool true) ∧ Stop W')
set_option maxRecDepth 100000 in
theorem contains_ok (fid : Nat) (caps : Array Value) (xs : List S26) (A : Option Addr) (c : Nat) (w0 w : World) (hC : Kd.C k26 w0 A xs.length xs) (h63 : xs.length ≤ 9223372036854775807)
   (hcf : ∀ (args : Array Value) (W : World), (callFunc fid args).run Tryd.prog W = .ok (.enter fid args) W)
   (Inv : Nat → World → Prop) (Stop : World → Prop) (hInv : ∀ i W, Inv i W → Below w0.heap.size w0 W)
   (hstep : ∀ i e A8 c8 W, xs[i]? = some e → Inv i W → e.f6.length ≤ c8 → Kd.C k26 w0 A8 e.f6.length e.f6 → Calls Tryd.prog fid (#[.agg (exC e A8 c8)] ++ caps) W (StepP (Inv (i + 1)) Stop)) (hs : Inv 0 w) :
   Calls Tryd.prog 50 #[.slice A xs.length c, .func (.func fid) #[] caps] w (ContP (Inv xs.length) Stop) := by
  have HIX := Lib.hid (index_ok fid caps xs A c w0 w hC h63 hcf Inv Stop hInv hstep hs)
  clear hC hcf hInv hstep hs
  go_enter Tryd.func50, Tryd.ntmps50
  go_wp2_with (go_at_call 85; refine HIX.out.mono ?_; rintro r W' (⟨rfl, HI⟩ | ⟨i, rfl, HST⟩))
  · go_ret
    exact .inl ⟨rfl, HI⟩
  · go_ret
    exact .inr ⟨rfl, HST⟩
end Go.Proofs.YtkboodfnegedaaaDoor.E
namespace Go.Proofs.YtkboodfnegedaaaDoor.E
open Go.RowKit Go.Proofs.YtkboodfnegedaaaDoorW.PrintWords Go.Proofs.YtkboodfnegedaaaDoorW.PrintLast Go.Proofs.YtkboodfnegedaaaDoorW.PrintMore
abbrev Ex := S26
def ownB (e : Ex) : Bool := (expr_own.f 1 e.f0 e.f1.f0 e.f1.f1 e.f1.f2 e.f2 e.f3 e.f4 e.f5 e.f6).getD false
theorem value_Right_some (a b : Int) (s : ByteArray) : ∃ r, value_Right.f a b s = some r := by
  unfold value_Right.f
  repeat' split
  all_goals exact ⟨_, rfl⟩
theorem own_some (e : Ex) : expr_own.f 1 e.f0 e.f1.f0 e.f1.f1 e.f1.f2 e.f2 e.f3 e.f4 e.f5 e.f6 = some (ownB e) := by
  have h : ∃ r, expr_own.f 1 e.f0 e.f1.f0 e.f1.f1 e.f1.f2 e.f2 e.f3 e.f4 e.f5 e.f6 = some r := by
    obtain ⟨v, hv⟩ := value_Right_some e.f1.f0 e.f1.f1 e.f1.f2
    have hj : ∀ b, ∃ r, expr_own.j0 1 b e.f0 e.f1.f0 e.f1.f1 e.f1.f2 e.f2 e.f3 e.f4 e.f5 e.f6 = some r := by
      intro b
      simp only [expr_own.j0, hv, Option.bind_some]
      repeat' split
      all_goals exact ⟨_, rfl⟩
    unfold expr_own.f expr_wants.f
    simp only [Option.bind_some]
    split <;> exact hj _
  obtain ⟨r, hr⟩ := h
  unfold ownB
  rw [hr]; rfl
theorem wants_le (op : Int) : wantsI op ≤ 2 := by
  by_cases h1 : op < 1
  · simp [wantsI, h1]
  · by_cases h2 : op ≥ 19
    · simp [wantsI, h1, h2]
    · obtain ⟨n, rfl⟩ : ∃ n : Nat, op = n := ⟨op.toNat, by omega⟩
      have h3 : n = 1 ∨ n = 2 ∨ n = 3 ∨ n = 4 ∨ n = 5 ∨ n = 6 ∨ n = 7 ∨ n = 8 ∨ n = 9 ∨ n = 10 ∨ n = 11 ∨ n = 12 ∨ n = 13 ∨ n = 14 ∨ n = 15 ∨ n = 16 ∨ n = 17 ∨ n = 18 := by omega
      rcases h3 with rfl | rfl | rfl | rfl | rfl | rfl | rfl | rfl | rfl | rfl | rfl | rfl | rfl | rfl | rfl | rfl | rfl | rfl <;> decide
theorem own_true {e : Ex} (h : ownB e = true) : e.f5.toList = [] ∧ (e.f6.length : Int) = wantsI e.f0 := by
  unfold ownB expr_own.f expr_wants.f at h
  simp only [Option.bind_some] at h
  split at h
  · refine ⟨by assumption, ?_⟩
    by_cases hl : (e.f6.length : Int) = wantsI e.f0
    · exact hl
    · rw [bne_iff_ne.mpr hl] at h
      simp [expr_own.j0] at h
  · simp [expr_own.j0] at h
mutual
/-- How many operations have been met behind e: none: it is not right. -/
def cnt : Ex → Nat → Nat → Option Nat
  | ⟨f0, f1, f2, f3, f4, f5, f6⟩, deep, many => if many + 1 > 200 then none else if deep > 20 then none else if ownB ⟨f0, f1, f2, f3, f4, f5, f6⟩ then cntL f6 (deep + 1) (many + 1) else none
def cntL : List Ex → Nat → Nat → Option Nat
  | [], _, many => some many
  | x :: xs, deep, many => (cnt x deep many).bind fun m => cntL xs deep m
end
theorem cnt_eq (e : Ex) (deep many : Nat) : cnt e deep many = if many + 1 > 200 then none else if deep > 20 then none else if ownB e then cntL e.f6 (deep + 1) (many + 1) else none := by
  cases e; rw [cnt]
theorem cntL_snoc (l : List Ex) (x : Ex) (deep : Nat) : ∀ many, cntL (l ++ [x]) deep many = (cntL l deep many).bind fun m => cnt x deep m := by
  induction l with
  | nil => intro many; simp [cntL]
  | cons y l ih =>
    intro many
    simp only [List.cons_append, cntL]
    cases cnt y deep many with
    | none => rfl
    | some m => simp only [Option.bind_some]; exact ih m
theorem cntL_none_of_take (l : List Ex) (k : Nat) (deep many : Nat) (h : cntL (l.take k) deep many = none) : cntL l deep many = none := by
  induction l generalizing k many with
  | nil => simp [cntL] at h
  | cons y l ih =>
    cases k with
    | zero => simp [cntL] at h
    | succ k =>
      simp only [List.take_succ_cons, cntL] at h ⊢
      cases hc : cnt y deep many with
      | none => rfl
      | some m => rw [hc] at h; exact ih k m h
def rightB (e : Ex) : Bool := (cnt e 1 0).isSome
end Go.Proofs.YtkboodfnegedaaaDoor.E
namespace Go.Proofs.YtkboodfnegedaaaDoor.E
open Go.RowKit Go.Proofs.YtkboodfnegedaaaDoorW.PrintWords Go.Proofs.YtkboodfnegedaaaDoorW.PrintLast Go.Proofs.YtkboodfnegedaaaDoorW.PrintMore
abbrev Va := S23
def vaC (v : Va) : Array Value := #[.int .i64 v.f0, .int .i64 v.f1, .string v.f2]
def zeroV : Va := ⟨0, 0, ⟨#[]⟩⟩
theorem info_va {v : Va} : (Tryd.prog.info? 23).map (·.size) = some (vaC v).size := by
  have h : (Tryd.prog.info? 23).map (·.size) = some 3 := by kernel_rfl
  rw [h]; rfl
theorem va_put {w : World} {rb : Nat} {u : Va} (h : w.heap[rb]? = some (.cells (vaC u) 23 (0, 0))) (v : Va) :
    (((w.setCell ⟨rb, 0, none⟩ (.int .i64 v.f0)).setCell ⟨rb, 1, none⟩ (.int .i64 v.f1)).setCell ⟨rb, 2, none⟩ (.string v.f2)).heap[rb]? = some (.cells (vaC v) 23 (0, 0)) :=
  blk_set (blk_set (blk_set h 0 _) 1 _) 2 _
theorem va_below {B : Nat} {w0 w : World} {rb : Nat} (h : Below B w0 w) (hr : B ≤ rb) (v : Va) : Below B w0 (((w.setCell ⟨rb, 0, none⟩ (.int .i64 v.f0)).setCell ⟨rb, 1, none⟩ (.int .i64 v.f1)).setCell ⟨rb, 2, none⟩ (.string v.f2)) :=
  ((h.setCell (p := ⟨rb, 0, none⟩) hr _).setCell (p := ⟨rb, 1, none⟩) hr _).setCell (p := ⟨rb, 2, none⟩) hr _
theorem va_far {w : World} {g rb : Nat} {o : Obj} (h : w.heap[g]? = some o) (hn : g ≠ rb) (v : Va) : (((w.setCell ⟨rb, 0, none⟩ (.int .i64 v.f0)).setCell ⟨rb, 1, none⟩ (.int .i64 v.f1)).setCell ⟨rb, 2, none⟩ (.string v.f2)).heap[g]? = some o :=
  (Below.heap_setCell _ ⟨rb, 2, none⟩ _ g hn).trans ((Below.heap_setCell _ ⟨rb, 1, none⟩ _ g hn).trans ((Below.heap_setCell _ ⟨rb, 0, none⟩ _ g hn).trans h))
theorem below_drewN' {B : Nat} {w W : World} (h : Below B w W) : Below B w W.drew := ⟨h.os, h.tape, h.output, h.size, h.block⟩
def value_truth.f (a0 : Bool) : Option (Int × Int × ByteArray) := some (2, if a0 = true then 1 else 0, (⟨#[]⟩ : ByteArray))
set_option maxRecDepth 100000 in
theorem truth_ok (b : Bool) (w : World) :
    Calls Tryd.prog 98 #[.bool b] w fun e w' => e = .returned (.agg (vaC ⟨2, if b = true then 1 else 0, ⟨#[]⟩⟩)) ∧ Below w.heap.size w w' := by
  go_enter Tryd.func98, Tryd.ntmps98
  go_upto_region 1 with (first | ((with_reducible refine gate_dst (N := 2) rfl ?_); refine box_event rfl (N := 2) rfl (cs := vaC zeroV) (t := 23) (by first | rfl | (go_simp; done) | (go_simp; rfl)) ?_; intro rb hgg w1 hbrb hBrb;  have hrb : w.heap.size ≤ rb := (by omega); clear hgg))
  have HB := Lib.hid hBrb; have HR := Lib.hid hbrb
  clear hBrb hbrb
  go_upto_region 2 with (first | ((with_reducible refine gate_dst (N := 3) rfl ?_); refine box_event rfl (N := 3) rfl (cs := vaC zeroV) (t := 23) (by first | rfl | (go_simp; done) | (go_simp; rfl)) ?_; intro vb hgg w2 hbvb hBvb;  have hvb : w.heap.size ≤ vb := (by have := HB.out.size; omega); have hrv : rb ≠ vb := (by have := blk_lt HR.out; omega); have hc0 : w2.cell? ⟨vb, 0, none⟩ = some (.int .i64 0) := ((bkC hbvb 0).trans rfl); have hc1 : w2.cell? ⟨vb, 1, none⟩ = some (.int .i64 0) := ((bkC hbvb 1).trans rfl); have hc2 : w2.cell? ⟨vb, 2, none⟩ = some (.string ⟨#[]⟩) := ((bkC hbvb 2).trans rfl); have hf0 := bkF hbvb 0; have hf1 := bkF hbvb 1; have hf2 := bkF hbvb 2; clear hgg))
  have hv3 := va_put hbvb ⟨2, 0, ⟨#[]⟩⟩
  have HB3 := Lib.hid (va_below (HB.out.trans (hBvb.mono HB.out.size)) hvb ⟨2, 0, ⟨#[]⟩⟩)
  have hr3 := va_far ((hBvb.block rb (blk_lt HR.out)).trans HR.out) hrv ⟨2, 0, ⟨#[]⟩⟩
  clear hc0 hc1 hc2 hf0 hf1 hf2 hbvb hBvb HB HR
  dsimp only at hv3 HB3 hr3
  generalize ((w2.setCell ⟨vb, 0, none⟩ (.int .i64 2)).setCell ⟨vb, 1, none⟩ (.int .i64 0)).setCell ⟨vb, 2, none⟩ (.string ⟨#[]⟩) = w3 at hv3 HB3 hr3 ⊢
  have hc0 : w3.cell? ⟨vb, 0, none⟩ = some (.int .i64 2) := ((bkC hv3 0).trans rfl)
  have hc1 : w3.cell? ⟨vb, 1, none⟩ = some (.int .i64 0) := ((bkC hv3 1).trans rfl)
  have hc2 : w3.cell? ⟨vb, 2, none⟩ = some (.string ⟨#[]⟩) := ((bkC hv3 2).trans rfl)
  have hf1 := bkF hv3 1
  have hd0 : w3.cell? ⟨rb, 0, none⟩ = some (.int .i64 0) := ((bkC hr3 0).trans rfl)
  have hd1 : w3.cell? ⟨rb, 1, none⟩ = some (.int .i64 0) := ((bkC hr3 1).trans rfl)
  have hd2 : w3.cell? ⟨rb, 2, none⟩ = some (.string ⟨#[]⟩) := ((bkC hr3 2).trans rfl)
  have hg0 := bkF hr3 0
  have hg1 := bkF hr3 1
  have hg2 := bkF hr3 2
  have hvr : vb ≠ rb := Ne.symm hrv
  cases b with
  | true =>
    go_wp2_with fail
    have hr4 : (w3.setCell ⟨vb, 1, none⟩ (.int .i64 1)).heap[rb]? = some (.cells (vaC zeroV) 23 (0, 0)) := (Below.heap_setCell _ ⟨vb, 1, none⟩ _ rb hrv).trans hr3
    have hB4 : Below w.heap.size w (w3.setCell ⟨vb, 1, none⟩ (.int .i64 1)) := HB3.out.setCell (p := ⟨vb, 1, none⟩) hvb _
    refine bodyPost_ret (results_cell_row rfl _ _ rb 23 (vaC ⟨2, 1, ⟨#[]⟩⟩) (0, 0) _ rfl ?blk Tryd.underlying23 rfl info_va) rfl ?_
    case blk => exact va_put hr4 ⟨2, 1, ⟨#[]⟩⟩
    exact ⟨rfl, va_below hB4 hrb ⟨2, 1, ⟨#[]⟩⟩⟩
  | false =>
    go_wp2_with fail
    refine bodyPost_ret (results_cell_row rfl _ _ rb 23 (vaC ⟨2, 0, ⟨#[]⟩⟩) (0, 0) _ rfl ?blk Tryd.underlying23 rfl info_va) rfl ?_
    case blk => exact va_put hr3 ⟨2, 0, ⟨#[]⟩⟩
    exact ⟨rfl, va_below HB3.out hrb ⟨2, 0, ⟨#[]⟩⟩⟩
theorem value_truth.calls (a0 : Bool) (r1 : Int) (r2 : Int) (r3 : ByteArray) (w : World) (h : value_truth.f a0 = some (r1, r2, r3)) :
    Calls Tryd.prog 98 #[.bool a0] w fun e w' => e = .returned (.agg #[.int .i64 r1, .int .i64 r2, .string r3]) ∧ Below w.heap.size w w' := by
  have h1 := Option.some.inj h
  simp only [Prod.mk.injEq] at h1
  obtain ⟨rfl, rfl, rfl⟩ := h1
  exact truth_ok a0 w
end Go.Proofs.YtkboodfnegedaaaDoor.E
namespace Go.Proofs.YtkboodfnegedaaaDoor.E
open Go.RowKit Go.Proofs.YtkboodfnegedaaaDoorW.PrintWords Go.Proofs.YtkboodfnegedaaaDoorW.PrintLast Go.Proofs.YtkboodfnegedaaaDoorW.PrintMore
def sizeU (a : Int) : Int := if a < 0 then IntKind.u64.wrap (-(IntKind.u64.wrap a)) else IntKind.u64.wrap a
theorem size_f (a : Int) : value_size.f a = some (sizeU a) := by unfold value_size.f sizeU; split <;> rfl
def mulHL (a b : Int) : Int × Int := (bits_Mul64.f (sizeU a) (sizeU b)).getD (0, 0)
theorem mul_f (a b : Int) : bits_Mul64.f (sizeU a) (sizeU b) = some (mulHL a b) := rfl
def mulR (a b : Int) : Va × Int :=
  if (mulHL a b).1 ≠ 0 then (zeroV, 3) else if (mulHL a b).2 > 9223372036854775808 then (zeroV, 3) else
  if (mulHL a b).2 = 9223372036854775808 ∧ (decide (a < 0) = decide (b < 0)) then (zeroV, 3) else
  (⟨1, wrap64 (if decide (a < 0) = decide (b < 0) then (mulHL a b).2 else IntKind.u64.wrap (-(mulHL a b).2)), ⟨#[]⟩⟩, 0)
def rightV (v : Va) : Bool := (value_Right.f v.f0 v.f1 v.f2).getD false
theorem right_some (v : Va) : value_Right.f v.f0 v.f1 v.f2 = some (rightV v) := by
  have h : ∃ b, value_Right.f v.f0 v.f1 v.f2 = some b := by
    unfold value_Right.f
    repeat' split
    all_goals exact ⟨_, rfl⟩
  obtain ⟨b, hb⟩ := h
  unfold rightV; rw [hb]; rfl
theorem wrap64_succ {j : Nat} (h : j < 9223372036854775807) : wrap64 ((j : Int) + 1) = ((j + 1 : Nat) : Int) := by
  rw [← i64_w, IntWalk.i64_in _ (by omega)]; rfl
def fitV (kind : Int) (v : Va) : Bool := rightV v && (v.f0 == 0 || v.f0 == kind)
theorem fits_l0 (kind : Int) (l : List Va) (hl : l.length < 9223372036854775807) : ∀ (d j k : Nat), l.length - j = d → j ≤ l.length → d < k → value_fits.l0 k kind l (l.length : Int) (j : Int) = some ((l.drop j).all (fitV kind)) := by
  intro d
  induction d with
  | zero =>
    intro j k h1 h2 h3
    obtain rfl : j = l.length := by omega
    obtain ⟨k, rfl⟩ : ∃ k', k = k' + 1 := ⟨k - 1, by omega⟩
    simp [value_fits.l0]
  | succ d ih =>
    intro j k h1 h2 h3
    obtain ⟨k, rfl⟩ : ∃ k', k = k' + 1 := ⟨k - 1, by omega⟩
    have hj : j < l.length := by omega
    have hg : rd_T23 l (j : Int) = l[j] := by simp [rd_T23, hj]
    have hd : l.drop j = l[j] :: l.drop (j + 1) := List.drop_eq_getElem_cons hj
    have hw := wrap64_succ (j := j) (by omega)
    have ih1 := ih (j + 1) k (by omega) (by omega) (by omega)
    rw [hd, List.all_cons]
    simp only [value_fits.l0, hg, right_some, hw, ih1, Option.bind_some]
    rw [if_pos (by omega), if_pos (by omega), if_pos (by omega)]
    unfold fitV
    by_cases h4 : rightV l[j] = true
    · rw [if_pos h4, h4]
      by_cases h5 : l[j].f0 = 0
      · rw [if_pos h5]; simp [h5]
      · rw [if_neg h5]
        by_cases h6 : l[j].f0 = kind
        · rw [if_pos h6]; simp [h6]
        · rw [if_neg h6]; simp [h5, h6]
    · rw [if_neg h4]
      simp [h4]
def nullV (kind : Int) (l : List Va) : Int × Bool := if l.all (fitV kind) = true then (0, l.any (·.f0 == 0)) else (1, true)
theorem null_l0 (l : List Va) (hl : l.length < 9223372036854775807) : ∀ (d j k : Nat), l.length - j = d → j ≤ l.length → d < k → value_null.l0 k l (l.length : Int) (j : Int) = some (0, (l.drop j).any (·.f0 == 0)) := by
  intro d
  induction d with
  | zero =>
    intro j k h1 h2 h3
    obtain rfl : j = l.length := by omega
    obtain ⟨k, rfl⟩ : ∃ k', k = k' + 1 := ⟨k - 1, by omega⟩
    simp [value_null.l0]
  | succ d ih =>
    intro j k h1 h2 h3
    obtain ⟨k, rfl⟩ : ∃ k', k = k' + 1 := ⟨k - 1, by omega⟩
    have hj : j < l.length := by omega
    have hg : rd_T23 l (j : Int) = l[j] := by simp [rd_T23, hj]
    have hd : l.drop j = l[j] :: l.drop (j + 1) := List.drop_eq_getElem_cons hj
    have hw := wrap64_succ (j := j) (by omega)
    have ih1 := ih (j + 1) k (by omega) (by omega) (by omega)
    rw [hd, List.any_cons]
    simp only [value_null.l0, hg, hw, ih1]
    rw [if_pos (by omega), if_pos (by omega), if_pos (by omega)]
    by_cases h5 : l[j].f0 = 0
    · rw [if_pos h5]; simp [h5]
    · rw [if_neg h5]; simp [h5]
theorem null_f (k : Nat) (kind : Int) (l : List Va) (hl : l.length < 9223372036854775807) (hk : l.length < k) : value_null.f k kind l = some (nullV kind l) := by
  unfold value_null.f value_fits.f nullV
  have h1 := fits_l0 kind l hl l.length 0 k (by omega) (by omega) hk
  have h2 := null_l0 l hl l.length 0 k (by omega) (by omega) hk
  simp only [List.drop_zero] at h1 h2
  replace h1 : value_fits.l0 k kind l (l.length : Int) 0 = some (l.all (fitV kind)) := h1
  rw [h1, Option.bind_some]
  split
  · exact h2
  · rfl
def mulV (a b : Va) : Va × Int := if (nullV 1 [a, b]).2 = true then (zeroV, (nullV 1 [a, b]).1) else mulR a.f1 b.f1
set_option maxHeartbeats 1000000 in
set_option maxRecDepth 100000 in
theorem mul_ok (a b : Va) (w : World) :
    Calls Tryd.prog 67 #[.agg (vaC a), .agg (vaC b)] w fun e w' => e = .returned (.tuple #[.agg (vaC (mulV a b).1), .int .i64 (mulV a b).2]) ∧ Below w.heap.size w w' := by
  obtain ⟨q, hq⟩ : ∃ q, mulV a b = q := ⟨_, rfl⟩
  rw [hq]
  have HQ := Lib.hid hq.symm; clear hq
  obtain ⟨L, hL⟩ : ∃ L, [a, b] = L := ⟨_, rfl⟩
  have hLl : L.length = 2 := by rw [← hL]; rfl
  obtain ⟨n, hn⟩ : ∃ n, nullV 1 L = n := ⟨_, rfl⟩
  have hnf := null_f 9 1 L (by omega) (by omega)
  rw [hn] at hnf
  have HNF : Hid (value_null.f 9 1 L = some (n.1, n.2)) := Lib.hid hnf; clear hnf
  have HL := Lib.hid hL; have HLL := Lib.hid hLl; clear hLl
  have HN := Lib.hid hn
  unfold vaC
  clear hL hn
  go_enter Tryd.func67, Tryd.ntmps67
  go_upto_region 1 with (first | ((with_reducible refine gate_dst (N := 2) rfl ?_); refine box_event rfl (N := 2) rfl (cs := vaC a) (t := 23) (by first | rfl | (go_simp; done) | (go_simp; rfl)) ?_; intro ga hgg w1 hbga hBga;  have hga : w.heap.size ≤ ga := (by omega); clear hgg) | ((with_reducible refine gate_dst (N := 3) rfl ?_); refine box_event rfl (N := 3) rfl (cs := vaC b) (t := 23) (by first | rfl | (go_simp; done) | (go_simp; rfl)) ?_; intro gb hgg w2 hbgb hBgb;  have hab : ga ≠ gb := (by have := blk_lt hbga; omega); clear hgg) | ((with_reducible refine gate_dst (N := 4) rfl ?_); refine box_event rfl (N := 4) rfl (cs := vaC zeroV) (t := 23) (by first | rfl | (go_simp; done) | (go_simp; rfl)) ?_; intro rb hgg w3 hbrb hBrb;  have hrb : w.heap.size ≤ rb := (by have := hBga.size; have := hBgb.size; omega); have har : ga ≠ rb := (by have := blk_lt hbga; have := hBgb.size; omega); have hbr : gb ≠ rb := (by have := blk_lt hbgb; omega); clear hgg))
  have ha3 := (hBrb.block ga (by have := hBgb.size; have := blk_lt hbga; omega)).trans ((hBgb.block ga (blk_lt hbga)).trans hbga)
  have hb3 := (hBrb.block gb (blk_lt hbgb)).trans hbgb
  have HB3 := Lib.hid (hBga.trans ((hBgb.trans (hBrb.mono hBgb.size)).mono hBga.size))
  clear hBga hBgb hBrb hbga hbgb
  have hz0 : w3.cell? ⟨ga, 0, none⟩ = some (.int .i64 a.f0) := (bkC ha3 0).trans rfl
  have hz1 : w3.cell? ⟨ga, 1, none⟩ = some (.int .i64 a.f1) := (bkC ha3 1).trans rfl
  have hz2 : w3.cell? ⟨ga, 2, none⟩ = some (.string a.f2) := (bkC ha3 2).trans rfl
  have hy0 : w3.cell? ⟨gb, 0, none⟩ = some (.int .i64 b.f0) := (bkC hb3 0).trans rfl
  have hy1 : w3.cell? ⟨gb, 1, none⟩ = some (.int .i64 b.f1) := (bkC hb3 1).trans rfl
  have hy2 : w3.cell? ⟨gb, 2, none⟩ = some (.string b.f2) := (bkC hb3 2).trans rfl
  obtain ⟨n1, n2⟩ := n
  go_upto_region 2 with (first
    | ((with_reducible refine gate_dst (N := 14) rfl ?_); refine Kd.R_lit k23 _ 23 rfl (N := 14) rfl (xs := [a, b]) (inner := [.int .i64 a.f0, .int .i64 a.f1, .string a.f2, .int .i64 b.f0, .int .i64 b.f1, .string b.f2]) (ok := fun _ => True) (okp := fun _ => True) ?hr ?hp (fun _ hk => hk) trivial (Below.refl _ _) (Nat.le_refl _) (by simp) ?_; (case hr => first | (go_simp; done) | (go_simp; rfl)); (case hp => exact (Reps.c3 (show Kd.M k23 _ _ _ a [.int .i64 a.f0, .int .i64 a.f1, .string a.f2] from (k23_mkM _ _ _ a)) (Reps.c3 (show Kd.M k23 _ _ _ b [.int .i64 b.f0, .int .i64 b.f1, .string b.f2] from (k23_mkM _ _ _ b)) (Reps.none _ _)))); intro v4 w4 ho hB4 hg_ hn_; rw [HL.out] at ho; obtain ⟨A4, c4, rfl, hc4, hC4⟩ := Kd.R_reads ho; clear hg_ hn_ ho)
    | (go_at_call 93; refine (value_null.calls 9 1 A4 c4 L n1 n2 w4 hC4 hc4 HNF.out).mono ?_; rintro r w5 ⟨rfl, hB5⟩))
  have hB : Below w3.heap.size w3 w5 := hB4.trans (hB5.mono hB4.size)
  have ha5 := (hB.block ga (blk_lt ha3)).trans ha3
  have hb5 := (hB.block gb (blk_lt hb3)).trans hb3
  have hr5 := (hB.block rb (blk_lt hbrb)).trans hbrb
  have HB5 := Lib.hid (HB3.out.trans (hB.mono HB3.out.size))
  clear hB4 hB5 hB hz0 hz1 hz2 hy0 hy1 hy2 ha3 hb3 hbrb hC4 hc4 HB3
  have hr0 : w5.cell? ⟨rb, 0, none⟩ = some (.int .i64 0) := (bkC hr5 0).trans rfl
  have hr1 : w5.cell? ⟨rb, 1, none⟩ = some (.int .i64 0) := (bkC hr5 1).trans rfl
  have hr2 : w5.cell? ⟨rb, 2, none⟩ = some (.string ⟨#[]⟩) := (bkC hr5 2).trans rfl
  have hf0 := bkF hr5 0
  have hf1 := bkF hr5 1
  have hf2 := bkF hr5 2
  cases n2 with
  | true =>
    have HQ2 : Hid (q = (zeroV, n1)) := by have h := HQ.out; unfold mulV at h; rw [HL.out, HN.out] at h; exact Lib.hid h
    go_wp2_with fail
    refine bodyPost_ret (results_ct rfl _ _ rb 23 (vaC zeroV) (0, 0) _ rfl ?blk Tryd.underlying23 rfl info_va) rfl ?_; (case blk => exact va_put hr5 zeroV); exact ⟨by rw [HQ2.out]; rfl, by (repeat refine below_drewN' ?_); exact va_below HB5.out hrb zeroV⟩
  | false =>
    have HQ2 : Hid (q = mulR a.f1 b.f1) := by have h := HQ.out; unfold mulV at h; rw [HL.out, HN.out] at h; exact Lib.hid h
    have HS := Lib.hid (fun (x : Int) w => value_size.calls x (sizeU x) w (size_f x))
    obtain ⟨hl, hhl⟩ : ∃ hl, mulHL a.f1 b.f1 = hl := ⟨_, rfl⟩
    have hmf := mul_f a.f1 b.f1
    rw [hhl] at hmf
    have HM := Lib.hid (fun w => bits_Mul64.calls (sizeU a.f1) (sizeU b.f1) hl.1 hl.2 w hmf)
    have HHL := Lib.hid hhl
    clear hmf hhl
    obtain ⟨hi, lo⟩ := hl
    have hz1 : w5.cell? ⟨ga, 1, none⟩ = some (.int .i64 a.f1) := (bkC ha5 1).trans rfl
    have hy1 : w5.cell? ⟨gb, 1, none⟩ = some (.int .i64 b.f1) := (bkC hb5 1).trans rfl
    go_upto_region 4 with (fail)
    go_region_held3 (fun w' => w'.cell? ⟨ga, 1, none⟩ = some (.int .i64 a.f1) ∧ w'.cell? ⟨gb, 1, none⟩ = some (.int .i64 b.f1)) (go_keep) (first | (go_at_call 96; with_reducible refine (HS.out a.f1 _).mono ?_; rintro r w' ⟨rfl, ⟨⟨m, rfl⟩⟩⟩) | (go_at_call 96; with_reducible refine (HS.out b.f1 _).mono ?_; rintro r w' ⟨rfl, ⟨⟨m2, rfl⟩⟩⟩) | (go_at_call 95; with_reducible refine (HM.out _).mono ?_; rintro r w' ⟨rfl, ⟨⟨m3, rfl⟩⟩⟩))
    have ha6 : (w5.drewN (1 + m + m2 + m3)).heap[ga]? = some (.cells (vaC a) 23 (0, 0)) := ha5
    have hb6 : (w5.drewN (1 + m + m2 + m3)).heap[gb]? = some (.cells (vaC b) 23 (0, 0)) := hb5
    have hr6 : (w5.drewN (1 + m + m2 + m3)).heap[rb]? = some (.cells (vaC zeroV) 23 (0, 0)) := hr5
    have HB6 := Lib.hid (pbN HB5.out (1 + m + m2 + m3))
    clear ha5 hb5 hr5 HB5 hz1 hy1 hr0 hr1 hr2 hf0 hf1 hf2
    generalize w5.drewN (1 + m + m2 + m3) = w6 at ha6 hb6 hr6 HB6 ⊢
    have hz1 : w6.cell? ⟨ga, 1, none⟩ = some (.int .i64 a.f1) := (bkC ha6 1).trans rfl
    have hy1 : w6.cell? ⟨gb, 1, none⟩ = some (.int .i64 b.f1) := (bkC hb6 1).trans rfl
    have hr0 : w6.cell? ⟨rb, 0, none⟩ = some (.int .i64 0) := (bkC hr6 0).trans rfl
    have hr1 : w6.cell? ⟨rb, 1, none⟩ = some (.int .i64 0) := (bkC hr6 1).trans rfl
    have hr2 : w6.cell? ⟨rb, 2, none⟩ = some (.string ⟨#[]⟩) := (bkC hr6 2).trans rfl
    have hf0 := bkF hr6 0
    have hf1 := bkF hr6 1
    have hf2 := bkF hr6 2
    have HNUM := Lib.hid (fun (x : Int) w => value_number.calls x 1 x ⟨#[]⟩ w rfl)
    obtain ⟨P, hP⟩ : ∃ P : Prop, (decide (a.f1 < 0) = decide (b.f1 < 0)) = P := ⟨_, rfl⟩
    have HQ3 : Hid (q = if hi ≠ 0 then (zeroV, 3) else if lo > 9223372036854775808 then (zeroV, 3) else
      if lo = 9223372036854775808 ∧ (decide (a.f1 < 0) = decide (b.f1 < 0)) then (zeroV, 3) else
      (⟨1, wrap64 (if decide (a.f1 < 0) = decide (b.f1 < 0) then lo else IntKind.u64.wrap (-lo)), ⟨#[]⟩⟩, 0)) := by
      have h := HQ2.out
      unfold mulR at h
      rw [HHL.out] at h
      exact Lib.hid h
    clear HQ HQ2
    by_cases hs : decide (a.f1 < 0) = decide (b.f1 < 0)
    · have HS2 := Lib.hid hs
      have hab : (a.f1 < 0 ∧ b.f1 < 0) ∨ (¬ a.f1 < 0 ∧ ¬ b.f1 < 0) := by
        by_cases h1 : a.f1 < 0 <;> by_cases h2 : b.f1 < 0 <;> simp_all
      clear hs hP
      rcases hab with ⟨h1, h2⟩ | ⟨h1, h2⟩
      all_goals
        by_cases h3 : hi = 0
        · by_cases h4 : 9223372036854775808 < lo
          · have HQ2 : Hid (q = (zeroV, 3)) := by have h := HQ3.out; rw [if_neg (fun h => h h3), if_pos h4] at h; exact Lib.hid h
            go_wp2_with fail
            refine bodyPost_ret (results_ct rfl _ _ rb 23 (vaC zeroV) (0, 0) _ rfl ?blk Tryd.underlying23 rfl info_va) rfl ?_; (case blk => exact va_put hr6 zeroV); exact ⟨by rw [HQ2.out]; rfl, by (repeat refine below_drewN' ?_); exact va_below HB6.out hrb zeroV⟩
          · by_cases h5 : lo = 9223372036854775808
            · have HQ2 : Hid (q = (zeroV, 3)) := by have h := HQ3.out; rw [if_neg (fun h => h h3), if_neg h4, if_pos ⟨h5, HS2.out⟩] at h; exact Lib.hid h
              go_wp2_with fail
              refine bodyPost_ret (results_ct rfl _ _ rb 23 (vaC zeroV) (0, 0) _ rfl ?blk Tryd.underlying23 rfl info_va) rfl ?_; (case blk => exact va_put hr6 zeroV); exact ⟨by rw [HQ2.out]; rfl, by (repeat refine below_drewN' ?_); exact va_below HB6.out hrb zeroV⟩
            · have HQ2 : Hid (q = (⟨1, wrap64 lo, ⟨#[]⟩⟩, 0)) := by have h := HQ3.out; rw [if_neg (fun h => h h3), if_neg h4, if_neg (fun h => h5 h.1), if_pos HS2.out] at h; exact Lib.hid h
              replace h5 : (lo == 9223372036854775808) = false := beq_eq_false_iff_ne.mpr h5
              go_wp2_with (first | (go_at_call 94; with_reducible refine (HNUM.out _ _).mono ?_; rintro r w7 ⟨rfl, hB7⟩; have hr7 := (hB7.block rb (blk_lt hr6)).trans hr6; have HB7 := Lib.hid (HB6.out.trans (hB7.mono HB6.out.size)); clear hr0 hr1 hr2 hf0 hf1 hf2; have hr0 : w7.cell? ⟨rb, 0, none⟩ = some (.int .i64 0) := ((bkC hr7 0).trans rfl); have hr1 : w7.cell? ⟨rb, 1, none⟩ = some (.int .i64 0) := ((bkC hr7 1).trans rfl); have hr2 : w7.cell? ⟨rb, 2, none⟩ = some (.string ⟨#[]⟩) := ((bkC hr7 2).trans rfl); have hf0 := bkF hr7 0; have hf1 := bkF hr7 1; have hf2 := bkF hr7 2))
              refine bodyPost_ret (results_ct rfl _ _ rb 23 (vaC ⟨1, wrap64 lo, ⟨#[]⟩⟩) (0, 0) _ rfl ?blk Tryd.underlying23 rfl info_va) rfl ?_; (case blk => exact va_put hr7 ⟨1, wrap64 lo, ⟨#[]⟩⟩); exact ⟨by rw [HQ2.out]; rfl, by (repeat refine below_drewN' ?_); exact va_below HB7.out hrb ⟨1, wrap64 lo, ⟨#[]⟩⟩⟩
        · have HQ2 : Hid (q = (zeroV, 3)) := by have h := HQ3.out; rw [if_pos h3] at h; exact Lib.hid h
          replace h3 : (hi != 0) = true := bne_iff_ne.mpr h3
          go_wp2_with fail
          refine bodyPost_ret (results_ct rfl _ _ rb 23 (vaC zeroV) (0, 0) _ rfl ?blk Tryd.underlying23 rfl info_va) rfl ?_; (case blk => exact va_put hr6 zeroV); exact ⟨by rw [HQ2.out]; rfl, by (repeat refine below_drewN' ?_); exact va_below HB6.out hrb zeroV⟩
    · have HS2 := Lib.hid hs
      have hab : (a.f1 < 0 ∧ ¬ b.f1 < 0) ∨ (¬ a.f1 < 0 ∧ b.f1 < 0) := by
        by_cases h1 : a.f1 < 0 <;> by_cases h2 : b.f1 < 0 <;> simp_all
      clear hs hP
      rcases hab with ⟨h1, h2⟩ | ⟨h1, h2⟩
      all_goals
        by_cases h3 : hi = 0
        · by_cases h4 : 9223372036854775808 < lo
          · have HQ2 : Hid (q = (zeroV, 3)) := by have h := HQ3.out; rw [if_neg (fun h => h h3), if_pos h4] at h; exact Lib.hid h
            go_wp2_with fail
            refine bodyPost_ret (results_ct rfl _ _ rb 23 (vaC zeroV) (0, 0) _ rfl ?blk Tryd.underlying23 rfl info_va) rfl ?_; (case blk => exact va_put hr6 zeroV); exact ⟨by rw [HQ2.out]; rfl, by (repeat refine below_drewN' ?_); exact va_below HB6.out hrb zeroV⟩
          · have HQ2 : Hid (q = (⟨1, wrap64 (IntKind.u64.wrap (-lo)), ⟨#[]⟩⟩, 0)) := by have h := HQ3.out; rw [if_neg (fun h => h h3), if_neg h4, if_neg (fun h => HS2.out h.2), if_neg HS2.out] at h; exact Lib.hid h
            obtain ⟨v5, h5⟩ : ∃ v5, (lo == 9223372036854775808) = v5 := ⟨_, rfl⟩
            cases v5
            all_goals
              go_wp2_with (first | (go_at_call 94; with_reducible refine (HNUM.out _ _).mono ?_; rintro r w7 ⟨rfl, hB7⟩; have hr7 := (hB7.block rb (blk_lt hr6)).trans hr6; have HB7 := Lib.hid (HB6.out.trans (hB7.mono HB6.out.size)); clear hr0 hr1 hr2 hf0 hf1 hf2; have hr0 : w7.cell? ⟨rb, 0, none⟩ = some (.int .i64 0) := ((bkC hr7 0).trans rfl); have hr1 : w7.cell? ⟨rb, 1, none⟩ = some (.int .i64 0) := ((bkC hr7 1).trans rfl); have hr2 : w7.cell? ⟨rb, 2, none⟩ = some (.string ⟨#[]⟩) := ((bkC hr7 2).trans rfl); have hf0 := bkF hr7 0; have hf1 := bkF hr7 1; have hf2 := bkF hr7 2))
              refine bodyPost_ret (results_ct rfl _ _ rb 23 (vaC ⟨1, wrap64 (IntKind.u64.wrap (-lo)), ⟨#[]⟩⟩) (0, 0) _ rfl ?blk Tryd.underlying23 rfl info_va) rfl ?_; (case blk => exact va_put hr7 ⟨1, wrap64 (IntKind.u64.wrap (-lo)), ⟨#[]⟩⟩); exact ⟨by rw [HQ2.out]; rfl, by (repeat refine below_drewN' ?_); exact va_below HB7.out hrb ⟨1, wrap64 (IntKind.u64.wrap (-lo)), ⟨#[]⟩⟩⟩
        · have HQ2 : Hid (q = (zeroV, 3)) := by have h := HQ3.out; rw [if_pos h3] at h; exact Lib.hid h
          replace h3 : (hi != 0) = true := bne_iff_ne.mpr h3
          go_wp2_with fail
          refine bodyPost_ret (results_ct rfl _ _ rb 23 (vaC zeroV) (0, 0) _ rfl ?blk Tryd.underlying23 rfl info_va) rfl ?_; (case blk => exact va_put hr6 zeroV); exact ⟨by rw [HQ2.out]; rfl, by (repeat refine below_drewN' ?_); exact va_below HB6.out hrb zeroV⟩
end Go.Proofs.YtkboodfnegedaaaDoor.E
