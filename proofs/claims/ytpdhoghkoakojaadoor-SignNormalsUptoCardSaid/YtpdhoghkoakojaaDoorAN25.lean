/- Contracts and plain lemmas of the functions that the law reaches, part 25. -/
import Derived.Test.YtpdhoghkoakojaaDoorAN3
import Derived.Test.YtpdhoghkoakojaaDoorAN16
namespace Go.Proofs.YtpdhoghkoakojaaDoor.E
open Go.RowKit Go.Proofs.YtpdhoghkoakojaaDoorW.PrintWords Go.Proofs.YtpdhoghkoakojaaDoorW.PrintLast Go.Proofs.YtpdhoghkoakojaaDoorW.PrintMore
attribute [local go_sem] max2_int min2_int max_two min_two max_three min_three max_four min_four   -- for this text's walks alone
set_option linter.unusedVariables false
set_option linter.unusedSimpArgs false
mutual
def q12_normal.l0 : Nat → Int → Int → Int → Int → ByteArray → Int → Int → Int → ByteArray → List (S26) → Int → Int → Int → ByteArray → Int → Int → Int → ByteArray → List (S26) → Option (Int × Int × Int × ByteArray × Int × Int × Int × ByteArray × (List (S26)))
 | 0, _, _, _, _, _, _, _, _, _, _, _, _, _, _, _, _, _, _, _ => none
 | k + 1, x4, x134000, x134001, x134002, x134003, x134004, x134005, x134006, x134007, x134008, x136000, x136001, x136002, x136003, x136004, x136005, x136006, x136007, x136008 => if x4 < (x134008.length : Int) then (if 0 ≤ x4 then ((q12_normal.f k ((rd_T26 x134008 x4).f0) ((rd_T26 x134008 x4).f1.f0) ((rd_T26 x134008 x4).f1.f1) ((rd_T26 x134008 x4).f1.f2) ((rd_T26 x134008 x4).f2) ((rd_T26 x134008 x4).f3) ((rd_T26 x134008 x4).f4) ((rd_T26 x134008 x4).f5) ((rd_T26 x134008 x4).f6)).bind fun bt137 => (if x136008.length < 1353245080339 then (q12_normal.l0 k (wrap64 (x4 + 1)) x134000 x134001 x134002 x134003 x134004 x134005 x134006 x134007 x134008 x136000 x136001 x136002 x136003 x136004 x136005 x136006 x136007 (x136008 ++ [(⟨bt137.1, (⟨bt137.2.1, bt137.2.2.1, bt137.2.2.2.1⟩ : S23), bt137.2.2.2.2.1, bt137.2.2.2.2.2.1, bt137.2.2.2.2.2.2.1, bt137.2.2.2.2.2.2.2.1, bt137.2.2.2.2.2.2.2.2⟩ : S26)])) else (none))) else (none)) else (if x136000 = 13 then (if 1 < (x136008.length : Int) then (if 0 < (x136008.length : Int) then (some (11, x136001, x136002, x136003, x136004, x136005, x136006, x136007, (([(⟨(rd_T26 x136008 1).f0, (⟨(rd_T26 x136008 1).f1.f0, (rd_T26 x136008 1).f1.f1, (rd_T26 x136008 1).f1.f2⟩ : S23), (rd_T26 x136008 1).f2, (rd_T26 x136008 1).f3, (rd_T26 x136008 1).f4, (rd_T26 x136008 1).f5, (rd_T26 x136008 1).f6⟩ : S26), (⟨(rd_T26 x136008 0).f0, (⟨(rd_T26 x136008 0).f1.f0, (rd_T26 x136008 0).f1.f1, (rd_T26 x136008 0).f1.f2⟩ : S23), (rd_T26 x136008 0).f2, (rd_T26 x136008 0).f3, (rd_T26 x136008 0).f4, (rd_T26 x136008 0).f5, (rd_T26 x136008 0).f6⟩ : S26)] : List (S26))))) else (none)) else (none)) else (if x136000 = 14 then (if 1 < (x136008.length : Int) then (if 0 < (x136008.length : Int) then (some (12, x136001, x136002, x136003, x136004, x136005, x136006, x136007, (([(⟨(rd_T26 x136008 1).f0, (⟨(rd_T26 x136008 1).f1.f0, (rd_T26 x136008 1).f1.f1, (rd_T26 x136008 1).f1.f2⟩ : S23), (rd_T26 x136008 1).f2, (rd_T26 x136008 1).f3, (rd_T26 x136008 1).f4, (rd_T26 x136008 1).f5, (rd_T26 x136008 1).f6⟩ : S26), (⟨(rd_T26 x136008 0).f0, (⟨(rd_T26 x136008 0).f1.f0, (rd_T26 x136008 0).f1.f1, (rd_T26 x136008 0).f1.f2⟩ : S23), (rd_T26 x136008 0).f2, (rd_T26 x136008 0).f3, (rd_T26 x136008 0).f4, (rd_T26 x136008 0).f5, (rd_T26 x136008 0).f6⟩ : S26)] : List (S26))))) else (none)) else (none)) else (if x136000 = 4 then (q12_normal.j1 k false (x136000 == 4) x136000 x136001 x136002 x136003 x136004 x136005 x136006 x136007 x136008) else (if x136000 = 6 then (q12_normal.j1 k false (x136000 == 6) x136000 x136001 x136002 x136003 x136004 x136005 x136006 x136007 x136008) else (if x136000 = 9 then (q12_normal.j1 k false (x136000 == 9) x136000 x136001 x136002 x136003 x136004 x136005 x136006 x136007 x136008) else (if x136000 = 10 then (q12_normal.j1 k false (x136000 == 10) x136000 x136001 x136002 x136003 x136004 x136005 x136006 x136007 x136008) else (if x136000 = 15 then (q12_normal.j1 k false (x136000 == 15) x136000 x136001 x136002 x136003 x136004 x136005 x136006 x136007 x136008) else (q12_normal.j1 k false (x136000 == 16) x136000 x136001 x136002 x136003 x136004 x136005 x136006 x136007 x136008))))))))
def q12_normal.j1 : Nat → Bool → Bool → Int → Int → Int → ByteArray → Int → Int → Int → ByteArray → List (S26) → Option (Int × Int × Int × ByteArray × Int × Int × Int × ByteArray × (List (S26)))
 | 0, _, _, _, _, _, _, _, _, _, _, _ => none
 | k + 1, x5, x34, x136000, x136001, x136002, x136003, x136004, x136005, x136006, x136007, x136008 => if x34 = true then (if 1 < (x136008.length : Int) then ((q08_Print.f ((rd_T26 x136008 1).f0) ((rd_T26 x136008 1).f1.f0) ((rd_T26 x136008 1).f1.f1) ((rd_T26 x136008 1).f1.f2) ((rd_T26 x136008 1).f2) ((rd_T26 x136008 1).f3) ((rd_T26 x136008 1).f4) ((rd_T26 x136008 1).f5) ((rd_T26 x136008 1).f6)).bind fun t162 => (if 0 < (x136008.length : Int) then ((q08_Print.f ((rd_T26 x136008 0).f0) ((rd_T26 x136008 0).f1.f0) ((rd_T26 x136008 0).f1.f1) ((rd_T26 x136008 0).f1.f2) ((rd_T26 x136008 0).f2) ((rd_T26 x136008 0).f3) ((rd_T26 x136008 0).f4) ((rd_T26 x136008 0).f5) ((rd_T26 x136008 0).f6)).bind fun t164 => (if (Op.bytesLess t162.toList t164.toList) = true then (some (x136000, x136001, x136002, x136003, x136004, x136005, x136006, x136007, (([(⟨(rd_T26 x136008 1).f0, (⟨(rd_T26 x136008 1).f1.f0, (rd_T26 x136008 1).f1.f1, (rd_T26 x136008 1).f1.f2⟩ : S23), (rd_T26 x136008 1).f2, (rd_T26 x136008 1).f3, (rd_T26 x136008 1).f4, (rd_T26 x136008 1).f5, (rd_T26 x136008 1).f6⟩ : S26), (⟨(rd_T26 x136008 0).f0, (⟨(rd_T26 x136008 0).f1.f0, (rd_T26 x136008 0).f1.f1, (rd_T26 x136008 0).f1.f2⟩ : S23), (rd_T26 x136008 0).f2, (rd_T26 x136008 0).f3, (rd_T26 x136008 0).f4, (rd_T26 x136008 0).f5, (rd_T26 x136008 0).f6⟩ : S26)] : List (S26))))) else (some (x136000, x136001, x136002, x136003, x136004, x136005, x136006, x136007, x136008)))) else (none))) else (none)) else (if x5 = true then (if 1 < (x136008.length : Int) then (if 0 < (x136008.length : Int) then (some (x136000, x136001, x136002, x136003, x136004, x136005, x136006, x136007, (([(⟨(rd_T26 x136008 1).f0, (⟨(rd_T26 x136008 1).f1.f0, (rd_T26 x136008 1).f1.f1, (rd_T26 x136008 1).f1.f2⟩ : S23), (rd_T26 x136008 1).f2, (rd_T26 x136008 1).f3, (rd_T26 x136008 1).f4, (rd_T26 x136008 1).f5, (rd_T26 x136008 1).f6⟩ : S26), (⟨(rd_T26 x136008 0).f0, (⟨(rd_T26 x136008 0).f1.f0, (rd_T26 x136008 0).f1.f1, (rd_T26 x136008 0).f1.f2⟩ : S23), (rd_T26 x136008 0).f2, (rd_T26 x136008 0).f3, (rd_T26 x136008 0).f4, (rd_T26 x136008 0).f5, (rd_T26 x136008 0).f6⟩ : S26)] : List (S26))))) else (none)) else (none)) else (some (x136000, x136001, x136002, x136003, x136004, x136005, x136006, x136007, x136008)))
def q12_normal.f : Nat → Int → Int → Int → ByteArray → Int → Int → Int → ByteArray → List (S26) → Option (Int × Int × Int × ByteArray × Int × Int × Int × ByteArray × (List (S26)))
 | 0, _, _, _, _, _, _, _, _, _ => none
 | k + 1, a0_0, a0_1, a0_2, a0_3, a0_4, a0_5, a0_6, a0_7, l0_8 => q12_normal.l0 k 0 a0_0 a0_1 a0_2 a0_3 a0_4 a0_5 a0_6 a0_7 l0_8 a0_0 a0_1 a0_2 a0_3 a0_4 a0_5 a0_6 a0_7 ([] : List (S26))
end
def q12_normal.T6 : Bool × List (List Nat × List Nat) := (true, [([], []), ([0], [0]), ([], []), ([2], [2]), ([], []), ([3, 4], [3, 4]), ([5], [5]), ([6], [6]), ([7], [7]), ([1, 8, 7], [1, 8]), ([0, 1, 2, 3, 4, 5, 6, 7, 8, 9], []), ([10, 9, 9, 0, 1, 2, 3, 4, 5, 6, 7, 8, 9], [9, 10])])
def q12_normal.B6 : List Nat := [0, 1, 0, 4, 0, 28, 60, 124, 252, 511, 1023, 2047]
theorem q12_normal.tab6 : rtab .any (opsOf Tryd.f26 6) = q12_normal.T6 := by kernel_rfl
theorem q12_normal.bits6 : waitsOk q12_normal.T6.2 q12_normal.B6 = true := by kernel_rfl
def q12_normal.T21 : Bool × List (List Nat × List Nat) := (true, [([], []), ([0], [0]), ([1], [1]), ([2], [2]), ([3], [3]), ([], []), ([5], [5]), ([6], [6]), ([7], [7]), ([8, 4], [8]), ([4, 9], [4, 9]), ([10, 9, 0, 1, 2, 3, 4, 5, 6, 7, 8, 9, 10], [10])])
def q12_normal.B21 : List Nat := [0, 1, 3, 7, 15, 0, 32, 96, 224, 511, 1023, 2047]
theorem q12_normal.tab21 : rtab .any (opsOf Tryd.f26 21) = q12_normal.T21 := by kernel_rfl
theorem q12_normal.bits21 : waitsOk q12_normal.T21.2 q12_normal.B21 = true := by kernel_rfl
def q12_normal.T23 : Bool × List (List Nat × List Nat) := (true, [([], []), ([0], [0]), ([1], [1]), ([2], [2]), ([], []), ([4], [4]), ([5], [5]), ([6], [6]), ([3, 7], [3, 7]), ([0, 1, 2, 3, 4, 5, 6, 7, 8], []), ([9, 8, 0, 1, 2, 3, 4, 5, 6, 7, 8], [8, 9])])
def q12_normal.B23 : List Nat := [0, 1, 3, 7, 0, 16, 48, 112, 255, 511, 1023]
theorem q12_normal.tab23 : rtab .any (opsOf Tryd.f26 23) = q12_normal.T23 := by kernel_rfl
theorem q12_normal.bits23 : waitsOk q12_normal.T23.2 q12_normal.B23 = true := by kernel_rfl
set_option maxHeartbeats 8000000 in
set_option maxRecDepth 100000 in
theorem q12_normal.calls (k : Nat) : ∀ (a0_0 : Int) (a0_1 : Int) (a0_2 : Int) (a0_3 : ByteArray) (a0_4 : Int) (a0_5 : Int) (a0_6 : Int) (a0_7 : ByteArray) (A0_8 : Option Addr) (c0_8 : Nat) (l0_8 : List (S26)) (r1 : Int) (r2 : Int) (r3 : Int) (r4 : ByteArray) (r5 : Int) (r6 : Int) (r7 : Int) (r8 : ByteArray) (r9 : List (S26)) (w : World) (hr0_8 : Kd.C k26 w A0_8 l0_8.length l0_8) (hc0_8 : l0_8.length ≤ c0_8) (h : q12_normal.f k a0_0 a0_1 a0_2 a0_3 a0_4 a0_5 a0_6 a0_7 l0_8 = some (r1, r2, r3, r4, r5, r6, r7, r8, r9)),
  Calls Tryd.prog 26 #[.agg #[.int .i64 a0_0, .int .i64 a0_1, .int .i64 a0_2, .string a0_3, .int .i64 a0_4, .int .i64 a0_5, .int .i64 a0_6, .string a0_7, .slice A0_8 l0_8.length c0_8]] w fun e w' => ∃ v8_ : Value, e = .returned (.agg #[.int .i64 r1, .int .i64 r2, .int .i64 r3, .string r4, .int .i64 r5, .int .i64 r6, .int .i64 r7, .string r8, v8_]) ∧ Kd.N k26 26 w' w.heap.size (fun k_ => (w.heap.size ≤ k_)) v8_ r9 ∧ Below w.heap.size w w' := by
 induction k using Nat.strongRecOn with
 | _ k ih =>
 intro a0_0 a0_1 a0_2 a0_3 a0_4 a0_5 a0_6 a0_7 A0_8 c0_8 l0_8 r1 r2 r3 r4 r5 r6 r7 r8 r9 w hr0_8 hc0_8 h
 cases k with
 | zero => exact absurd h (by simp [q12_normal.f])
 | succ k =>
 simp only [q12_normal.f] at h
 have hu26 := Tryd.underlying26
 have HR0_8 := Asd.mk hr0_8
 have HC0_8 := Asd.mk hc0_8
 clear hr0_8 hc0_8
 have HB := Asd.mk (Below.refl w.heap.size w)
 have H : (q12_normal.l0 k 0 a0_0 a0_1 a0_2 a0_3 a0_4 a0_5 a0_6 a0_7 l0_8 a0_0 a0_1 a0_2 a0_3 a0_4 a0_5 a0_6 a0_7 ([] : List (S26))) = some (r1, r2, r3, r4, r5, r6, r7, r8, r9) := h
 clear h
 have H' := Asd.mk H
 clear H
 go_enter Tryd.func26, Tryd.ntmps26
 go_wp2_with (first | ((with_reducible refine gate_dst (N := 1) rfl ?_); refine box_event rfl (N := 1) rfl (cs := #[.int .i64 a0_0, .int .i64 a0_1, .int .i64 a0_2, .string a0_3, .int .i64 a0_4, .int .i64 a0_5, .int .i64 a0_6, .string a0_7, .slice A0_8 l0_8.length c0_8]) (t := 26) (by first | (go_simp; done) | (go_simp; rfl)) ?_; intro gb133 hg w2 hbox hb; have BK133 := Asd.mk (hbox); have GW133 := Asd.mk (bZ hg HB.out); have GE133 := GW133; replace HB := Asd.mk (bS hb HB.out); clear hb hbox hg) | ((with_reducible refine gate_dst (N := 2) rfl ?_); refine box_event rfl (N := 2) rfl (cs := #[.int .i64 0, .int .i64 0, .int .i64 0, .string (⟨#[]⟩ : ByteArray), .int .i64 0, .int .i64 0, .int .i64 0, .string (⟨#[]⟩ : ByteArray), .slice none 0 0]) (t := 26) (by first | (go_simp; done) | (go_simp; rfl)) ?_; intro gb134 hg w3 hbox hb; have BK134 := Asd.mk (hbox); have GW134 := Asd.mk (bZ hg HB.out); have GE134 := GW134; have NB133_134 := Asd.mk (bL hg BK133.out); have NB134_133 := Asd.mk (bG hg BK133.out); replace BK133 := Asd.mk (bB hb BK133.out); replace HB := Asd.mk (bS hb HB.out); clear hb hbox hg; have hnb4 := NB133_134.out; have hnc4 := NB134_133.out; obtain ⟨hcz5_0, hcz5_1, hcz5_2, hcz5_3, hcz5_4, hcz5_5, hcz5_6, hcz5_7, hcz5_8⟩ := bkC9 BK133.out; obtain ⟨hfz5_0, hfz5_1, hfz5_2, hfz5_3, hfz5_4, hfz5_5, hfz5_6, hfz5_7, hfz5_8⟩ := bkF9 BK133.out) | ((with_reducible refine gate_dst (N := 3) rfl ?_); refine box_event rfl (N := 3) rfl (cs := #[.int .i64 0, .int .i64 0, .int .i64 0, .string (⟨#[]⟩ : ByteArray), .int .i64 0, .int .i64 0, .int .i64 0, .string (⟨#[]⟩ : ByteArray), .slice none 0 0]) (t := 26) (by first | (go_simp; done) | (go_simp; rfl)) ?_; intro gb135 hg w6 hbox hb; have BK135 := Asd.mk (hbox); have GW135 := Asd.mk (bZ hg HB.out); have GE135 := GW135; have NB133_135 := Asd.mk (bL hg BK133.out); have NB135_133 := Asd.mk (bG hg BK133.out); have NB134_135 := Asd.mk (bL hg BK134.out); have NB135_134 := Asd.mk (bG hg BK134.out); replace BK133 := Asd.mk (bB hb BK133.out); replace BK134 := Asd.mk (bB hb BK134.out); replace HB := Asd.mk (bS hb HB.out); clear hb hbox hg; have hnb7 := NB135_133.out; have hnc7 := NB133_135.out; have hnb8 := NB135_134.out; have hnc8 := NB134_135.out; obtain ⟨hcz9_0, hcz9_1, hcz9_2, hcz9_3, hcz9_4, hcz9_5, hcz9_6, hcz9_7, hcz9_8⟩ := bkC9 BK135.out; obtain ⟨hfz9_0, hfz9_1, hfz9_2, hfz9_3, hfz9_4, hfz9_5, hfz9_6, hfz9_7, hfz9_8⟩ := bkF9 BK135.out))
 go_loopg [4] k (fun kq v4 w' => ∃ (x4_1 : Int) (x136008_1 : List (S26)) (u136008 : Value), v4 = .int .i64 x4_1 ∧ Asd (q12_normal.l0 kq x4_1 a0_0 a0_1 a0_2 a0_3 a0_4 a0_5 a0_6 a0_7 l0_8 a0_0 a0_1 a0_2 a0_3 a0_4 a0_5 a0_6 a0_7 x136008_1 = some (r1, r2, r3, r4, r5, r6, r7, r8, r9)) ∧ Asd (kq ≤ k) ∧ Asd (Kd.N k26 26 w' w.heap.size (fun k_ => (w.heap.size ≤ k_) ∧ k_ ≠ gb133 ∧ k_ ≠ gb134 ∧ k_ ≠ gb135) u136008 x136008_1) ∧ Asd (w'.heap[gb133]? = some (.cells #[.int .i64 a0_0, .int .i64 a0_1, .int .i64 a0_2, .string a0_3, .int .i64 a0_4, .int .i64 a0_5, .int .i64 a0_6, .string a0_7, (.slice A0_8 l0_8.length c0_8)] 26 (0, 0))) ∧ Asd (w'.heap[gb134]? = some (.cells #[.int .i64 0, .int .i64 0, .int .i64 0, .string (⟨#[]⟩ : ByteArray), .int .i64 0, .int .i64 0, .int .i64 0, .string (⟨#[]⟩ : ByteArray), (.slice none 0 0)] 26 (0, 0))) ∧ Asd (w'.heap[gb135]? = some (.cells #[.int .i64 a0_0, .int .i64 a0_1, .int .i64 a0_2, .string a0_3, .int .i64 a0_4, .int .i64 a0_5, .int .i64 a0_6, .string a0_7, u136008] 26 (0, 0))) ∧ Asd (Below w.heap.size w w'))
 case atStart => exact ⟨(0), (([] : List (S26))), (.slice none 0 0), (by first | rfl | (simp; done) | (simp [*]; done)), H', ⟨Nat.le_refl _⟩, ⟨by first | exact Kd.R_nil _ _ _ _ _ | exact Kd.N_nil _ _ _ _ _ | exact Kd.V_nil _ _ _ _ _ | exact Kd.Q_nil _ _ _ _ _ | exact Kd.S_nil _ _ _ _ _⟩, ⟨by (with_reducible repeat (first | refine bkN ?_ _ | refine bkD ?_ | refine bkA ?_ _)); refine blk_far ?_ NB133_135.out _; (with_reducible repeat (first | refine bkN ?_ _ | refine bkD ?_ | refine bkA ?_ _)); refine blk_far ?_ NB133_135.out _; (with_reducible repeat (first | refine bkN ?_ _ | refine bkD ?_ | refine bkA ?_ _)); refine blk_far ?_ NB133_135.out _; (with_reducible repeat (first | refine bkN ?_ _ | refine bkD ?_ | refine bkA ?_ _)); refine blk_far ?_ NB133_135.out _; (with_reducible repeat (first | refine bkN ?_ _ | refine bkD ?_ | refine bkA ?_ _)); refine blk_far ?_ NB133_135.out _; (with_reducible repeat (first | refine bkN ?_ _ | refine bkD ?_ | refine bkA ?_ _)); refine blk_far ?_ NB133_135.out _; (with_reducible repeat (first | refine bkN ?_ _ | refine bkD ?_ | refine bkA ?_ _)); refine blk_far ?_ NB133_135.out _; (with_reducible repeat (first | refine bkN ?_ _ | refine bkD ?_ | refine bkA ?_ _)); refine blk_far ?_ NB133_135.out _; (with_reducible repeat (first | refine bkN ?_ _ | refine bkD ?_ | refine bkA ?_ _)); refine blk_far ?_ NB133_135.out _; (with_reducible repeat (first | refine bkN ?_ _ | refine bkD ?_ | refine bkA ?_ _)); refine blk_far ?_ NB133_135.out _; exact BK133.out⟩, ⟨by (with_reducible repeat (first | refine bkN ?_ _ | refine bkD ?_ | refine bkA ?_ _)); refine blk_far ?_ NB134_135.out _; (with_reducible repeat (first | refine bkN ?_ _ | refine bkD ?_ | refine bkA ?_ _)); refine blk_far ?_ NB134_135.out _; (with_reducible repeat (first | refine bkN ?_ _ | refine bkD ?_ | refine bkA ?_ _)); refine blk_far ?_ NB134_135.out _; (with_reducible repeat (first | refine bkN ?_ _ | refine bkD ?_ | refine bkA ?_ _)); refine blk_far ?_ NB134_135.out _; (with_reducible repeat (first | refine bkN ?_ _ | refine bkD ?_ | refine bkA ?_ _)); refine blk_far ?_ NB134_135.out _; (with_reducible repeat (first | refine bkN ?_ _ | refine bkD ?_ | refine bkA ?_ _)); refine blk_far ?_ NB134_135.out _; (with_reducible repeat (first | refine bkN ?_ _ | refine bkD ?_ | refine bkA ?_ _)); refine blk_far ?_ NB134_135.out _; (with_reducible repeat (first | refine bkN ?_ _ | refine bkD ?_ | refine bkA ?_ _)); refine blk_far ?_ NB134_135.out _; (with_reducible repeat (first | refine bkN ?_ _ | refine bkD ?_ | refine bkA ?_ _)); refine blk_far ?_ NB134_135.out _; (with_reducible repeat (first | refine bkN ?_ _ | refine bkD ?_ | refine bkA ?_ _)); refine blk_far ?_ NB134_135.out _; exact BK134.out⟩, ⟨by refine blk_put (cs := #[.int .i64 a0_0, .int .i64 a0_1, .int .i64 a0_2, .string a0_3, .int .i64 a0_4, .int .i64 a0_5, .int .i64 a0_6, .string a0_7, .slice A0_8 l0_8.length c0_8]) ?_ 8 _ rfl; refine blk_put (cs := #[.int .i64 a0_0, .int .i64 a0_1, .int .i64 a0_2, .string a0_3, .int .i64 a0_4, .int .i64 a0_5, .int .i64 a0_6, .string a0_7, .slice none 0 0]) ?_ 8 _ rfl; refine blk_put (cs := #[.int .i64 a0_0, .int .i64 a0_1, .int .i64 a0_2, .string a0_3, .int .i64 a0_4, .int .i64 a0_5, .int .i64 a0_6, .string (⟨#[]⟩ : ByteArray), .slice none 0 0]) ?_ 7 _ rfl; refine blk_put (cs := #[.int .i64 a0_0, .int .i64 a0_1, .int .i64 a0_2, .string a0_3, .int .i64 a0_4, .int .i64 a0_5, .int .i64 0, .string (⟨#[]⟩ : ByteArray), .slice none 0 0]) ?_ 6 _ rfl; refine blk_put (cs := #[.int .i64 a0_0, .int .i64 a0_1, .int .i64 a0_2, .string a0_3, .int .i64 a0_4, .int .i64 0, .int .i64 0, .string (⟨#[]⟩ : ByteArray), .slice none 0 0]) ?_ 5 _ rfl; refine blk_put (cs := #[.int .i64 a0_0, .int .i64 a0_1, .int .i64 a0_2, .string a0_3, .int .i64 0, .int .i64 0, .int .i64 0, .string (⟨#[]⟩ : ByteArray), .slice none 0 0]) ?_ 4 _ rfl; refine blk_put (cs := #[.int .i64 a0_0, .int .i64 a0_1, .int .i64 a0_2, .string (⟨#[]⟩ : ByteArray), .int .i64 0, .int .i64 0, .int .i64 0, .string (⟨#[]⟩ : ByteArray), .slice none 0 0]) ?_ 3 _ rfl; refine blk_put (cs := #[.int .i64 a0_0, .int .i64 a0_1, .int .i64 0, .string (⟨#[]⟩ : ByteArray), .int .i64 0, .int .i64 0, .int .i64 0, .string (⟨#[]⟩ : ByteArray), .slice none 0 0]) ?_ 2 _ rfl; refine blk_put (cs := #[.int .i64 a0_0, .int .i64 0, .int .i64 0, .string (⟨#[]⟩ : ByteArray), .int .i64 0, .int .i64 0, .int .i64 0, .string (⟨#[]⟩ : ByteArray), .slice none 0 0]) ?_ 1 _ rfl; refine blk_put (cs := #[.int .i64 0, .int .i64 0, .int .i64 0, .string (⟨#[]⟩ : ByteArray), .int .i64 0, .int .i64 0, .int .i64 0, .string (⟨#[]⟩ : ByteArray), .slice none 0 0]) ?_ 0 _ rfl; exact BK135.out⟩, ⟨by repeat (first | (with_reducible first | exact HB.out | apply blA | apply pbN | apply blD | refine blS ?_ GE133.out | refine blS ?_ GE134.out | refine blS ?_ GE135.out) | exact HB.out)⟩⟩
 case round =>
  clear H'
  try clear c2
  try clear p2
  try clear c4
  try clear c7
  try clear c8
  try clear hcz5_0
  try clear hcz5_1
  try clear hcz5_2
  try clear hcz5_3
  try clear hcz5_4
  try clear hcz5_5
  try clear hcz5_6
  try clear hcz5_7
  try clear hcz5_8
  try clear hcz9_0
  try clear hcz9_1
  try clear hcz9_2
  try clear hcz9_3
  try clear hcz9_4
  try clear hcz9_5
  try clear hcz9_6
  try clear hcz9_7
  try clear hcz9_8
  try clear hfz5_0
  try clear hfz5_1
  try clear hfz5_2
  try clear hfz5_3
  try clear hfz5_4
  try clear hfz5_5
  try clear hfz5_6
  try clear hfz5_7
  try clear hfz5_8
  try clear hfz9_0
  try clear hfz9_1
  try clear hfz9_2
  try clear hfz9_3
  try clear hfz9_4
  try clear hfz9_5
  try clear hfz9_6
  try clear hfz9_7
  try clear hfz9_8
  obtain ⟨x4_1, x136008_1, u136008, rfl, HA, HK1, HO_136008, BK133, BK134, BK135, HB⟩ := hrel
  cases gk with
  | zero => exact absurd HA.out (by simp [q12_normal.l0])
  | succ k1 =>
   have H := HA.out
   clear HA
   simp only [q12_normal.l0] at H
   by_cases c10 : x4_1 < (l0_8.length : Int)
   ·rw [if_pos c10] at H
    have c10b0 : decide (x4_1 < (l0_8.length : Int)) = true := decide_eq_true c10
    clear c10
    by_cases c11 : 0 ≤ x4_1
    ·rw [if_pos c11] at H
     have c11b0 : decide (0 ≤ x4_1) = true := decide_eq_true c11
     clear c11
     replace H := Option.bind_eq_some_iff.mp H
     obtain ⟨⟨t137, t138, t139, t140, t141, t142, t143, t144, t145⟩, A120, H⟩ := H
     replace H : (if x136008_1.length < 1353245080339 then (q12_normal.l0 k1 (wrap64 (x4_1 + 1)) a0_0 a0_1 a0_2 a0_3 a0_4 a0_5 a0_6 a0_7 l0_8 a0_0 a0_1 a0_2 a0_3 a0_4 a0_5 a0_6 a0_7 (x136008_1 ++ [(⟨t137, (⟨t138, t139, t140⟩ : S23), t141, t142, t143, t144, t145⟩ : S26)])) else (none)) = some (r1, r2, r3, r4, r5, r6, r7, r8, r9) := H
     have A12 := Asd.mk A120
     clear A120
     by_cases c13 : x136008_1.length < 1353245080339
     ·rw [if_pos c13] at H
      have LMc13 := Asd.mk c13
      clear c13
      obtain ⟨y148, hy148⟩ : ∃ y_ : List (S26), y_ = (x136008_1 ++ [(⟨t137, (⟨t138, t139, t140⟩ : S23), t141, t142, t143, t144, t145⟩ : S26)]) := ⟨_, rfl⟩
      replace H : (q12_normal.l0 k1 (wrap64 (x4_1 + 1)) a0_0 a0_1 a0_2 a0_3 a0_4 a0_5 a0_6 a0_7 l0_8 a0_0 a0_1 a0_2 a0_3 a0_4 a0_5 a0_6 a0_7 y148) = some (r1, r2, r3, r4, r5, r6, r7, r8, r9) := by first | (rw [hy148]; with_reducible exact H) | (have H2_ := (Option.bind_some _ _).symm.trans H; rw [hy148]; with_reducible exact H2_) | (have H2_ := (Option.bind_some _ _).symm.trans H; with_reducible exact H2_) | with_reducible exact H | (rw [hy148]; exact H) | exact H
      have Ny148 := Asd.mk hy148
      clear hy148
      have H' := Asd.mk H
      clear H
      have hnb14 := NB133_134.out
      have hnc14 := NB134_133.out
      have hnb15 := NB133_135.out
      have hnc15 := NB135_133.out
      obtain ⟨hcz16_0, hcz16_1, hcz16_2, hcz16_3, hcz16_4, hcz16_5, hcz16_6, hcz16_7, hcz16_8⟩ := bkC9 BK133.out
      obtain ⟨hfz16_0, hfz16_1, hfz16_2, hfz16_3, hfz16_4, hfz16_5, hfz16_6, hfz16_7, hfz16_8⟩ := bkF9 BK133.out
      try go_wp2
      have n0_ := Asd.mk (Kd.N_drew HO_136008.out)
      have n1_ := Asd.mk (bkD BK133.out)
      have n2_ := Asd.mk (bkD BK134.out)
      have n3_ := Asd.mk (bkD BK135.out)
      have n4_ := Asd.mk (blD HB.out)
      clear HO_136008 BK133 BK134 BK135 HB
      have HO_136008 := n0_
      have BK133 := n1_
      have BK134 := n2_
      have BK135 := n3_
      have HB := n4_
      clear n0_ n1_ n2_ n3_ n4_
      have p136 : 0 ≤ (x4_1 : Int) := of_decide_eq_true (by first | (with_reducible assumption) | assumption)
      have q136 : x4_1 < (l0_8.length : Int) := of_decide_eq_true (by first | (with_reducible assumption) | assumption)
      obtain ⟨ad136, A136_8, c136_8, e136, hx136_0, hx136_1, hx136_2, hx136_3, hx136_4, hx136_5, hx136_6, hx136_7, hx136_8, hl136_8, hi136_8⟩ := at_T26 HR0_8.out x4_1 p136 q136
      have hw136_8 := hx136_8
      have hw136_7 := hx136_7
      have hw136_6 := hx136_6
      have hw136_5 := hx136_5
      have hw136_4 := hx136_4
      have hw136_3 := hx136_3
      have hw136_2 := hx136_2
      have hw136_1 := hx136_1
      have hw136_0 := hx136_0
      cases e136
      replace hx136_0 := (HB.out.cell (World.block_lt_of_cell? w _ hx136_0)).trans hx136_0
      replace hx136_1 := (HB.out.cell (World.block_lt_of_cell? w _ hx136_1)).trans hx136_1
      replace hx136_2 := (HB.out.cell (World.block_lt_of_cell? w _ hx136_2)).trans hx136_2
      replace hx136_3 := (HB.out.cell (World.block_lt_of_cell? w _ hx136_3)).trans hx136_3
      replace hx136_4 := (HB.out.cell (World.block_lt_of_cell? w _ hx136_4)).trans hx136_4
      replace hx136_5 := (HB.out.cell (World.block_lt_of_cell? w _ hx136_5)).trans hx136_5
      replace hx136_6 := (HB.out.cell (World.block_lt_of_cell? w _ hx136_6)).trans hx136_6
      replace hx136_7 := (HB.out.cell (World.block_lt_of_cell? w _ hx136_7)).trans hx136_7
      replace hx136_8 := (HB.out.cell (World.block_lt_of_cell? w _ hx136_8)).trans hx136_8
      have HR136_8 := Asd.mk hi136_8
      have HC136_8 := Asd.mk hl136_8
      clear hi136_8 hl136_8
      replace p136 := eq_true p136
      replace q136 := eq_true q136
      refine start_ (n := 12) (S := fun w' => w'.cell? ⟨gb135, 0, none⟩ = some (.int .i64 a0_0) ∧ w'.cell? ⟨gb135, 1, none⟩ = some (.int .i64 a0_1) ∧ w'.cell? ⟨gb135, 2, none⟩ = some (.int .i64 a0_2) ∧ w'.cell? ⟨gb135, 3, none⟩ = some (.string a0_3) ∧ w'.cell? ⟨gb135, 4, none⟩ = some (.int .i64 a0_4) ∧ w'.cell? ⟨gb135, 5, none⟩ = some (.int .i64 a0_5) ∧ w'.cell? ⟨gb135, 6, none⟩ = some (.int .i64 a0_6) ∧ w'.cell? ⟨gb135, 7, none⟩ = some (.string a0_7) ∧ w'.cell? ⟨gb135, 8, none⟩ = some (u136008) ∧ w'.cell? ⟨gb133, 0, none⟩ = some (.int .i64 a0_0) ∧ w'.cell? ⟨gb133, 1, none⟩ = some (.int .i64 a0_1) ∧ w'.cell? ⟨gb133, 2, none⟩ = some (.int .i64 a0_2) ∧ w'.cell? ⟨gb133, 3, none⟩ = some (.string a0_3) ∧ w'.cell? ⟨gb133, 4, none⟩ = some (.int .i64 a0_4) ∧ w'.cell? ⟨gb133, 5, none⟩ = some (.int .i64 a0_5) ∧ w'.cell? ⟨gb133, 6, none⟩ = some (.int .i64 a0_6) ∧ w'.cell? ⟨gb133, 7, none⟩ = some (.string a0_7) ∧ w'.cell? ⟨gb133, 8, none⟩ = some (.slice (some ad136) l0_8.length c0_8) ∧ w'.cell? (ad136.add ((x4_1).toNat * 9)) = some (.int .i64 ((rd_T26 l0_8 x4_1).f0)) ∧ w'.cell? ⟨(ad136.add ((x4_1).toNat * 9)).block, (ad136.add ((x4_1).toNat * 9)).off + 1, none⟩ = some (.int .i64 ((rd_T26 l0_8 x4_1).f1.f0)) ∧ w'.cell? ⟨(ad136.add ((x4_1).toNat * 9)).block, (ad136.add ((x4_1).toNat * 9)).off + 2, none⟩ = some (.int .i64 ((rd_T26 l0_8 x4_1).f1.f1)) ∧ w'.cell? ⟨(ad136.add ((x4_1).toNat * 9)).block, (ad136.add ((x4_1).toNat * 9)).off + 3, none⟩ = some (.string ((rd_T26 l0_8 x4_1).f1.f2)) ∧ w'.cell? ⟨(ad136.add ((x4_1).toNat * 9)).block, (ad136.add ((x4_1).toNat * 9)).off + 4, none⟩ = some (.int .i64 ((rd_T26 l0_8 x4_1).f2)) ∧ w'.cell? ⟨(ad136.add ((x4_1).toNat * 9)).block, (ad136.add ((x4_1).toNat * 9)).off + 5, none⟩ = some (.int .i64 ((rd_T26 l0_8 x4_1).f3)) ∧ w'.cell? ⟨(ad136.add ((x4_1).toNat * 9)).block, (ad136.add ((x4_1).toNat * 9)).off + 6, none⟩ = some (.int .i64 ((rd_T26 l0_8 x4_1).f4)) ∧ w'.cell? ⟨(ad136.add ((x4_1).toNat * 9)).block, (ad136.add ((x4_1).toNat * 9)).off + 7, none⟩ = some (.string ((rd_T26 l0_8 x4_1).f5)) ∧ w'.cell? ⟨(ad136.add ((x4_1).toNat * 9)).block, (ad136.add ((x4_1).toNat * 9)).off + 8, none⟩ = some (.slice A136_8 ((rd_T26 l0_8 x4_1).f6).length c136_8)) (ds := [11]) #[false, false, false, false, false, false, false, false, false, false, false, false] (by kernel_rfl) rfl rfl ⟨(bkC BK135.out 0).trans rfl, (bkC BK135.out 1).trans rfl, (bkC BK135.out 2).trans rfl, (bkC BK135.out 3).trans rfl, (bkC BK135.out 4).trans rfl, (bkC BK135.out 5).trans rfl, (bkC BK135.out 6).trans rfl, (bkC BK135.out 7).trans rfl, (bkC BK135.out 8).trans rfl, (bkC BK133.out 0).trans rfl, (bkC BK133.out 1).trans rfl, (bkC BK133.out 2).trans rfl, (bkC BK133.out 3).trans rfl, (bkC BK133.out 4).trans rfl, (bkC BK133.out 5).trans rfl, (bkC BK133.out 6).trans rfl, (bkC BK133.out 7).trans rfl, (bkC BK133.out 8).trans rfl, ((HB.out.cell (World.block_lt_of_cell? w _ hw136_0)).trans hw136_0), ((HB.out.cell (World.block_lt_of_cell? w _ hw136_1)).trans hw136_1), ((HB.out.cell (World.block_lt_of_cell? w _ hw136_2)).trans hw136_2), ((HB.out.cell (World.block_lt_of_cell? w _ hw136_3)).trans hw136_3), ((HB.out.cell (World.block_lt_of_cell? w _ hw136_4)).trans hw136_4), ((HB.out.cell (World.block_lt_of_cell? w _ hw136_5)).trans hw136_5), ((HB.out.cell (World.block_lt_of_cell? w _ hw136_6)).trans hw136_6), ((HB.out.cell (World.block_lt_of_cell? w _ hw136_7)).trans hw136_7), ((HB.out.cell (World.block_lt_of_cell? w _ hw136_8)).trans hw136_8)⟩ (fun hHeld => ?_); refine with_tabW q12_normal.tab6 q12_normal.bits6 (fun HT_ HW_ => ?_)
      generalize wr.drew = w17 at HO_136008 BK133 BK134 BK135 HB HR136_8 hx136_0 hx136_1 hx136_2 hx136_3 hx136_4 hx136_5 hx136_6 hx136_7 hx136_8 hHeld ⊢
      refine pure_ (i := 0) (N := some 15) (v := ?_) (a' := ?_) #[true, false, false, false, false, false, false, false, false, false, false, false] rfl rfl (any_of HT_.out (by kernel_rfl)) (fun _ _ _ h => h) (Or.inl ⟨by rfl, ?_⟩) ?_ ?_
      rotate_left
      ·intro w'
       go_simp
       with_reducible rfl
      rotate_left
      ·simp only [Act.put, List.setIfInBounds_toArray, List.set_cons_zero, List.set_cons_succ, i64_w, i32_w]
       rfl
      refine pure_ (i := 2) (N := some 17) (v := ?_) (a' := ?_) #[true, false, true, false, false, false, false, false, false, false, false, false] rfl rfl (any_of HT_.out (by kernel_rfl)) (fun _ _ _ h => h) (Or.inl ⟨by rfl, ?_⟩) ?_ ?_
      rotate_left
      ·intro w'
       go_simp
       with_reducible rfl
      rotate_left
      ·simp only [Act.put, List.setIfInBounds_toArray, List.set_cons_zero, List.set_cons_succ, i64_w, i32_w]
       rfl
      refine pure_ (i := 4) (N := some 19) (v := ?_) (a' := ?_) #[true, false, true, false, true, false, false, false, false, false, false, false] rfl rfl (any_of HT_.out (by kernel_rfl)) (fun _ _ _ h => h) (Or.inl ⟨by rfl, ?_⟩) ?_ ?_
      rotate_left
      ·intro w'
       go_simp
       with_reducible rfl
      rotate_left
      ·simp only [Act.put, List.setIfInBounds_toArray, List.set_cons_zero, List.set_cons_succ, i64_w, i32_w]
       rfl
      refine take_ (i := 1) (N := some 16) (v := ?_) (a' := ?_) #[true, true, true, false, true, false, false, false, false, false, false, false] rfl rfl (take_ofW HT_.out HW_.out (by kernel_rfl)) (fun _ _ _ h => h) (Or.inl ⟨by rfl, ?_⟩) hHeld ?_ ?_
      rotate_left
      ·rintro w' ⟨s0, s1, s2, s3, s4, s5, s6, s7, s8, s9, s10, s11, s12, s13, s14, s15, s16, s17, s18, s19, s20, s21, s22, s23, s24, s25, s26⟩
       go_simp
       with_reducible rfl
      rotate_left
      ·simp only [Act.put, List.setIfInBounds_toArray, List.set_cons_zero, List.set_cons_succ, i64_w, i32_w]
       rfl
      refine take_ (i := 3) (N := some 18) (v := ?_) (a' := ?_) #[true, true, true, true, true, false, false, false, false, false, false, false] rfl rfl (take_ofW HT_.out HW_.out (by kernel_rfl)) (fun _ _ _ h => h) (Or.inl ⟨by rfl, ?_⟩) hHeld ?_ ?_
      rotate_left
      ·rintro w' ⟨s0, s1, s2, s3, s4, s5, s6, s7, s8, s9, s10, s11, s12, s13, s14, s15, s16, s17, s18, s19, s20, s21, s22, s23, s24, s25, s26⟩
       go_simp
       with_reducible rfl
      rotate_left
      ·simp only [Act.put, List.setIfInBounds_toArray, List.set_cons_zero, List.set_cons_succ, i64_w, i32_w]
       rfl
      refine pure_ (i := 5) (N := some 20) (v := ?_) (a' := ?_) #[true, true, true, true, true, true, false, false, false, false, false, false] rfl rfl (any_of HT_.out (by kernel_rfl)) (fun _ _ _ h => h) (Or.inl ⟨by rfl, ?_⟩) ?_ ?_
      rotate_left
      ·intro w'
       go_simp
       with_reducible rfl
      rotate_left
      ·simp only [Act.put, List.setIfInBounds_toArray, List.set_cons_zero, List.set_cons_succ, i64_w, i32_w]
       rfl
      refine take_ (i := 6) (N := some 21) (v := ?_) (a' := ?_) #[true, true, true, true, true, true, true, false, false, false, false, false] rfl rfl (take_ofW HT_.out HW_.out (by kernel_rfl)) (fun _ _ _ h => h) (Or.inl ⟨by rfl, ?_⟩) hHeld ?_ ?_
      rotate_left
      ·rintro w' ⟨s0, s1, s2, s3, s4, s5, s6, s7, s8, s9, s10, s11, s12, s13, s14, s15, s16, s17, s18, s19, s20, s21, s22, s23, s24, s25, s26⟩
       go_simp
       with_reducible rfl
      rotate_left
      ·simp only [Act.put, List.setIfInBounds_toArray, List.set_cons_zero, List.set_cons_succ, i64_w, i32_w]
       rfl
      refine one_ (i := 7) (N := some 22) #[true, true, true, true, true, true, true, true, false, false, false, false] rfl rfl (one_of HT_.out (by kernel_rfl)) (by decide) (fun K hK => ?_)
      refine goes_ Tryd.func26 (by kernel_rfl) rfl #[.agg #[.int .i64 ((rd_T26 l0_8 x4_1).f0), .int .i64 ((rd_T26 l0_8 x4_1).f1.f0), .int .i64 ((rd_T26 l0_8 x4_1).f1.f1), .string ((rd_T26 l0_8 x4_1).f1.f2), .int .i64 ((rd_T26 l0_8 x4_1).f2), .int .i64 ((rd_T26 l0_8 x4_1).f3), .int .i64 ((rd_T26 l0_8 x4_1).f4), .string ((rd_T26 l0_8 x4_1).f5), .slice A136_8 ((rd_T26 l0_8 x4_1).f6).length c136_8]] (by rfl) rfl rfl (by (try simp only [List.map_toArray, List.map_cons, List.map_nil]); first | done | rfl | (simp only [List.length_drop, List.length_take]; rfl)) ?_
      with_reducible refine (ih k1 (by have := HK1.out; omega) ((rd_T26 l0_8 x4_1).f0) ((rd_T26 l0_8 x4_1).f1.f0) ((rd_T26 l0_8 x4_1).f1.f1) ((rd_T26 l0_8 x4_1).f1.f2) ((rd_T26 l0_8 x4_1).f2) ((rd_T26 l0_8 x4_1).f3) ((rd_T26 l0_8 x4_1).f4) ((rd_T26 l0_8 x4_1).f5) _ _ ((rd_T26 l0_8 x4_1).f6) t137 t138 t139 t140 t141 t142 t143 t144 t145 _ ?side1 ?side2 A12.out).mono ?_
      (case side1 => repeat (first | exact (Kd.C_below HR136_8.out HB.out) | (with_reducible refine Kd.C_alloc ?_ _) | (with_reducible refine Kd.C_drewN ?_ _) | (with_reducible refine Kd.C_drew ?_)))
      (case side2 => exact HC136_8.out)
      rintro e w18 ⟨v146, rfl, ho0, hb⟩
      refine ⟨_, rfl, ?_⟩
      have n0_ := Asd.mk (Kd.N_elder' (by (with_reducible repeat (first | apply Kd.N_alloc | apply Kd.N_drewN | apply Kd.N_drew)); exact HO_136008.out) (Kd.N_base ho0) hb)
      have n1_ := Asd.mk (Kd.N_lower (Kd.N_mono (ok' := fun k_ => (w.heap.size ≤ k_) ∧ some k_ ≠ (u136008 : Value).ownBlock ∧ k_ ≠ gb133 ∧ k_ ≠ gb134 ∧ k_ ≠ gb135) ho0 (fun k_ hk_ => ⟨(Nat.le_trans (below_size (by repeat (first | (with_reducible first | exact HB.out | apply blA | apply pbN | apply blD | refine blS ?_ GE133.out | refine blS ?_ GE134.out | refine blS ?_ GE135.out) | exact HB.out))) hk_), (Kd.fresh' (Kd.N_lt (by (with_reducible repeat (first | apply Kd.N_alloc | apply Kd.N_drewN | apply Kd.N_drew)); exact HO_136008.out)) k_ hk_), (Kd.freshB (g := gb133) (o := .cells #[.int .i64 a0_0, .int .i64 a0_1, .int .i64 a0_2, .string a0_3, .int .i64 a0_4, .int .i64 a0_5, .int .i64 a0_6, .string a0_7, .slice (some ad136) l0_8.length c0_8] 26 (0, 0)) (by exact BK133.out) k_ hk_), (Kd.freshB (g := gb134) (o := .cells #[.int .i64 0, .int .i64 0, .int .i64 0, .string (⟨#[]⟩ : ByteArray), .int .i64 0, .int .i64 0, .int .i64 0, .string (⟨#[]⟩ : ByteArray), .slice none 0 0] 26 (0, 0)) (by exact BK134.out) k_ hk_), (Kd.freshB (g := gb135) (o := .cells #[.int .i64 a0_0, .int .i64 a0_1, .int .i64 a0_2, .string a0_3, .int .i64 a0_4, .int .i64 a0_5, .int .i64 a0_6, .string a0_7, u136008] 26 (0, 0)) (by exact BK135.out) k_ hk_)⟩)) (below_size (by repeat (first | (with_reducible first | exact HB.out | apply blA | apply pbN | apply blD | refine blS ?_ GE133.out | refine blS ?_ GE134.out | refine blS ?_ GE135.out) | exact HB.out))))
      have n2_ := Asd.mk (bB hb BK133.out)
      have n3_ := Asd.mk (bB hb BK134.out)
      have n4_ := Asd.mk (bB hb BK135.out)
      have n5_ := Asd.mk (bS hb HB.out)
      clear HO_136008 BK133 BK134 BK135 HB
      have HO_136008 := n0_
      have HO147 := n1_
      have BK133 := n2_
      have BK134 := n3_
      have BK135 := n4_
      have HB := n5_
      clear n0_ n1_ n2_ n3_ n4_ n5_
      (try clear hb)
      (try clear hb2)
      (try clear hk)
      (try clear hi)
      (try clear ho0)
      obtain ⟨Ao20, co20, eo20⟩ := Kd.N_slice HO147.out
      (first | subst eo20 | (injection eo20 with f1_ f2_ f3_; have f4_ := f1_.symm; have f5_ := f3_.symm; clear f1_ f2_ f3_; subst f4_; subst f5_))
      refine hK.out _ _ ⟨(bkC BK135.out 0).trans rfl, (bkC BK135.out 1).trans rfl, (bkC BK135.out 2).trans rfl, (bkC BK135.out 3).trans rfl, (bkC BK135.out 4).trans rfl, (bkC BK135.out 5).trans rfl, (bkC BK135.out 6).trans rfl, (bkC BK135.out 7).trans rfl, (bkC BK135.out 8).trans rfl, (bkC BK133.out 0).trans rfl, (bkC BK133.out 1).trans rfl, (bkC BK133.out 2).trans rfl, (bkC BK133.out 3).trans rfl, (bkC BK133.out 4).trans rfl, (bkC BK133.out 5).trans rfl, (bkC BK133.out 6).trans rfl, (bkC BK133.out 7).trans rfl, (bkC BK133.out 8).trans rfl, ((HB.out.cell (World.block_lt_of_cell? w _ hw136_0)).trans hw136_0), ((HB.out.cell (World.block_lt_of_cell? w _ hw136_1)).trans hw136_1), ((HB.out.cell (World.block_lt_of_cell? w _ hw136_2)).trans hw136_2), ((HB.out.cell (World.block_lt_of_cell? w _ hw136_3)).trans hw136_3), ((HB.out.cell (World.block_lt_of_cell? w _ hw136_4)).trans hw136_4), ((HB.out.cell (World.block_lt_of_cell? w _ hw136_5)).trans hw136_5), ((HB.out.cell (World.block_lt_of_cell? w _ hw136_6)).trans hw136_6), ((HB.out.cell (World.block_lt_of_cell? w _ hw136_7)).trans hw136_7), ((HB.out.cell (World.block_lt_of_cell? w _ hw136_8)).trans hw136_8)⟩ (fun hHeld => ?_)
      clear hK K
      refine norm_ (a' := ?_) ?_ ?_
      rotate_left
      ·show Act.put _ (some 22) _ = _
       simp only [Act.put, List.setIfInBounds_toArray, List.set_cons_zero, List.set_cons_succ, i64_w, i32_w]
       rfl
      refine one_ (i := 8) (N := some 23) #[true, true, true, true, true, true, true, true, true, false, false, false] rfl rfl (one_of HT_.out (by kernel_rfl)) (by decide) (fun K hK => ?_)
      refine value_ (w1 := ?_) (v := ?_) (by rfl) rfl ?_ ?_
      rotate_left 2
      ·go_simp
       constructor
       ·rfl
       ·rfl
      refine hK.out _ _ ⟨(bkC (bkA BK135.out _) 0).trans rfl, (bkC (bkA BK135.out _) 1).trans rfl, (bkC (bkA BK135.out _) 2).trans rfl, (bkC (bkA BK135.out _) 3).trans rfl, (bkC (bkA BK135.out _) 4).trans rfl, (bkC (bkA BK135.out _) 5).trans rfl, (bkC (bkA BK135.out _) 6).trans rfl, (bkC (bkA BK135.out _) 7).trans rfl, (bkC (bkA BK135.out _) 8).trans rfl, (bkC (bkA BK133.out _) 0).trans rfl, (bkC (bkA BK133.out _) 1).trans rfl, (bkC (bkA BK133.out _) 2).trans rfl, (bkC (bkA BK133.out _) 3).trans rfl, (bkC (bkA BK133.out _) 4).trans rfl, (bkC (bkA BK133.out _) 5).trans rfl, (bkC (bkA BK133.out _) 6).trans rfl, (bkC (bkA BK133.out _) 7).trans rfl, (bkC (bkA BK133.out _) 8).trans rfl, (World.cell?_alloc_lt _ _ _ (World.block_lt_of_cell? _ _ (((HB.out.cell (World.block_lt_of_cell? w _ hw136_0)).trans hw136_0)))).trans (((HB.out.cell (World.block_lt_of_cell? w _ hw136_0)).trans hw136_0)), (World.cell?_alloc_lt _ _ _ (World.block_lt_of_cell? _ _ (((HB.out.cell (World.block_lt_of_cell? w _ hw136_1)).trans hw136_1)))).trans (((HB.out.cell (World.block_lt_of_cell? w _ hw136_1)).trans hw136_1)), (World.cell?_alloc_lt _ _ _ (World.block_lt_of_cell? _ _ (((HB.out.cell (World.block_lt_of_cell? w _ hw136_2)).trans hw136_2)))).trans (((HB.out.cell (World.block_lt_of_cell? w _ hw136_2)).trans hw136_2)), (World.cell?_alloc_lt _ _ _ (World.block_lt_of_cell? _ _ (((HB.out.cell (World.block_lt_of_cell? w _ hw136_3)).trans hw136_3)))).trans (((HB.out.cell (World.block_lt_of_cell? w _ hw136_3)).trans hw136_3)), (World.cell?_alloc_lt _ _ _ (World.block_lt_of_cell? _ _ (((HB.out.cell (World.block_lt_of_cell? w _ hw136_4)).trans hw136_4)))).trans (((HB.out.cell (World.block_lt_of_cell? w _ hw136_4)).trans hw136_4)), (World.cell?_alloc_lt _ _ _ (World.block_lt_of_cell? _ _ (((HB.out.cell (World.block_lt_of_cell? w _ hw136_5)).trans hw136_5)))).trans (((HB.out.cell (World.block_lt_of_cell? w _ hw136_5)).trans hw136_5)), (World.cell?_alloc_lt _ _ _ (World.block_lt_of_cell? _ _ (((HB.out.cell (World.block_lt_of_cell? w _ hw136_6)).trans hw136_6)))).trans (((HB.out.cell (World.block_lt_of_cell? w _ hw136_6)).trans hw136_6)), (World.cell?_alloc_lt _ _ _ (World.block_lt_of_cell? _ _ (((HB.out.cell (World.block_lt_of_cell? w _ hw136_7)).trans hw136_7)))).trans (((HB.out.cell (World.block_lt_of_cell? w _ hw136_7)).trans hw136_7)), (World.cell?_alloc_lt _ _ _ (World.block_lt_of_cell? _ _ (((HB.out.cell (World.block_lt_of_cell? w _ hw136_8)).trans hw136_8)))).trans (((HB.out.cell (World.block_lt_of_cell? w _ hw136_8)).trans hw136_8))⟩ (fun hHeld => ?_)
      clear hK K
      refine norm_ (a' := ?_) ?_ ?_
      rotate_left
      ·show Act.put _ (some 23) _ = _
       simp only [Act.put, List.setIfInBounds_toArray, List.set_cons_zero, List.set_cons_succ, i64_w, i32_w]
       rfl
      refine one_ (i := 9) (N := some 24) #[true, true, true, true, true, true, true, true, true, true, false, false] rfl rfl (one_of HT_.out (by kernel_rfl)) (by decide) (fun K hK => ?_)
      refine Kd.N_append_step k26 (w0 := w) w.heap.size (by rfl) (.tmp 16) (.tmp 23) 24 26 (.agg #[(.int .i64 0), (.int .i64 0), (.int .i64 0), (.string ⟨#[]⟩), (.int .i64 0), (.int .i64 0), (.int .i64 0), (.string ⟨#[]⟩), (.slice none 0 0)]) 104 rfl Tryd.underlying24 info26 rfl (by decide) (by omega) u136008 x136008_1 (⟨t137, (⟨t138, t139, t140⟩ : S23), t141, t142, t143, t144, t145⟩ : S26) [.int .i64 t137, .int .i64 t138, .int .i64 t139, .string t140, .int .i64 t141, .int .i64 t142, .int .i64 t143, .string t144, .slice Ao20 t145.length co20] (fun k_ => (w.heap.size ≤ k_) ∧ k_ ≠ gb133 ∧ k_ ≠ gb134 ∧ k_ ≠ gb135) (fun k_ => ((fun k_ => (w.heap.size ≤ k_) ∧ k_ ≠ gb133 ∧ k_ ≠ gb134 ∧ k_ ≠ gb135)) k_ ∧ some k_ ≠ (u136008 : Value).ownBlock) rfl rfl ?aP (fun _ hk => hk) ?aF ?aO ?aB ?aS ?aL ?_
      (case aP => exact (k26_mkF _ _ (⟨t137, (⟨t138, t139, t140⟩ : S23), t141, t142, t143, t144, t145⟩ : S26) (Kd.N_reads' (Kd.N_mono (ok' := (fun k_ => ((fun k_ => (w.heap.size ≤ k_) ∧ k_ ≠ gb133 ∧ k_ ≠ gb134 ∧ k_ ≠ gb135)) k_ ∧ some k_ ≠ (u136008 : Value).ownBlock)) (HO147.out) (fun k_ hk => ⟨⟨hk.1, ⟨hk.2.2.1, ⟨hk.2.2.2.1, hk.2.2.2.2⟩⟩⟩, hk.2.1⟩))).2.1 (Kd.N_F (Kd.N_mono (ok' := (fun k_ => ((fun k_ => (w.heap.size ≤ k_) ∧ k_ ≠ gb133 ∧ k_ ≠ gb134 ∧ k_ ≠ gb135)) k_ ∧ some k_ ≠ (u136008 : Value).ownBlock)) (HO147.out) (fun k_ hk => ⟨⟨hk.1, ⟨hk.2.2.1, ⟨hk.2.2.2.1, hk.2.2.2.2⟩⟩⟩, hk.2.1⟩)))))
      (case aB => exact (by repeat (first | (with_reducible first | exact HB.out | apply blA | apply pbN | apply blD | refine blS ?_ GE133.out | refine blS ?_ GE134.out | refine blS ?_ GE135.out) | exact HB.out)))
      (case aF => exact (fun k_ hk => ⟨(Nat.le_trans (below_size (by repeat (first | (with_reducible first | exact HB.out | apply blA | apply pbN | apply blD | refine blS ?_ GE133.out | refine blS ?_ GE134.out | refine blS ?_ GE135.out) | exact HB.out))) hk), Kd.freshB (g := gb133) (o := .cells #[.int .i64 a0_0, .int .i64 a0_1, .int .i64 a0_2, .string a0_3, .int .i64 a0_4, .int .i64 a0_5, .int .i64 a0_6, .string a0_7, .slice (some ad136) l0_8.length c0_8] 26 (0, 0)) (by exact BK133.out) k_ hk, Kd.freshB (g := gb134) (o := .cells #[.int .i64 0, .int .i64 0, .int .i64 0, .string (⟨#[]⟩ : ByteArray), .int .i64 0, .int .i64 0, .int .i64 0, .string (⟨#[]⟩ : ByteArray), .slice none 0 0] 26 (0, 0)) (by exact BK134.out) k_ hk, Kd.freshB (g := gb135) (o := .cells #[.int .i64 a0_0, .int .i64 a0_1, .int .i64 a0_2, .string a0_3, .int .i64 a0_4, .int .i64 a0_5, .int .i64 a0_6, .string a0_7, u136008] 26 (0, 0)) (by exact BK135.out) k_ hk⟩))
      (case aO => exact (by (with_reducible repeat (first | apply Kd.N_alloc | apply Kd.N_drewN | apply Kd.N_drew)); exact Kd.N_mono HO_136008.out (fun _ hk => ⟨hk.1.1, ⟨hk.1.2.1, ⟨hk.1.2.2.1, hk.1.2.2.2⟩⟩⟩)))
      (case aS => exact (below_size (by repeat (first | (with_reducible first | exact HB.out | apply blA | apply pbN | apply blD | refine blS ?_ GE133.out | refine blS ?_ GE134.out | refine blS ?_ GE135.out) | exact HB.out))))
      (case aL => have := LMc13.out; omega)
      intro v149 w19 ho hb hg hat
      rw [← Ny148.out] at ho
      have n0_ := Asd.mk (blk_grown (g := gb133) (o := .cells #[.int .i64 a0_0, .int .i64 a0_1, .int .i64 a0_2, .string a0_3, .int .i64 a0_4, .int .i64 a0_5, .int .i64 a0_6, .string a0_7, .slice (some ad136) l0_8.length c0_8] 26 (0, 0)) (by exact BK133.out) hg (Kd.N_away HO_136008.out (fun _ hk => hk.1.2.1)))
      have n1_ := Asd.mk (blk_grown (g := gb134) (o := .cells #[.int .i64 0, .int .i64 0, .int .i64 0, .string (⟨#[]⟩ : ByteArray), .int .i64 0, .int .i64 0, .int .i64 0, .string (⟨#[]⟩ : ByteArray), .slice none 0 0] 26 (0, 0)) (by exact BK134.out) hg (Kd.N_away HO_136008.out (fun _ hk => hk.1.2.2.1)))
      have n2_ := Asd.mk (blk_grown (g := gb135) (o := .cells #[.int .i64 a0_0, .int .i64 a0_1, .int .i64 a0_2, .string a0_3, .int .i64 a0_4, .int .i64 a0_5, .int .i64 a0_6, .string a0_7, u136008] 26 (0, 0)) (by exact BK135.out) hg (Kd.N_away HO_136008.out (fun _ hk => hk.1.2.2.2)))
      have n3_ := Asd.mk (hb)
      have n4_ := Asd.mk (ho)
      clear BK133 BK134 BK135 HB HO_136008 HO147
      have BK133 := n0_
      have BK134 := n1_
      have BK135 := n2_
      have HB := n3_
      have HO150 := n4_
      clear n0_ n1_ n2_ n3_ n4_ ho hb hg hat
      obtain ⟨Ao21, co21, eo21⟩ := Kd.N_slice HO150.out
      (first | subst eo21 | (injection eo21 with f1_ f2_ f3_; have f4_ := f1_.symm; have f5_ := f3_.symm; clear f1_ f2_ f3_; subst f4_; subst f5_))
      refine hK.out _ _ ⟨(bkC BK135.out 0).trans rfl, (bkC BK135.out 1).trans rfl, (bkC BK135.out 2).trans rfl, (bkC BK135.out 3).trans rfl, (bkC BK135.out 4).trans rfl, (bkC BK135.out 5).trans rfl, (bkC BK135.out 6).trans rfl, (bkC BK135.out 7).trans rfl, (bkC BK135.out 8).trans rfl, (bkC BK133.out 0).trans rfl, (bkC BK133.out 1).trans rfl, (bkC BK133.out 2).trans rfl, (bkC BK133.out 3).trans rfl, (bkC BK133.out 4).trans rfl, (bkC BK133.out 5).trans rfl, (bkC BK133.out 6).trans rfl, (bkC BK133.out 7).trans rfl, (bkC BK133.out 8).trans rfl, ((HB.out.cell (World.block_lt_of_cell? w _ hw136_0)).trans hw136_0), ((HB.out.cell (World.block_lt_of_cell? w _ hw136_1)).trans hw136_1), ((HB.out.cell (World.block_lt_of_cell? w _ hw136_2)).trans hw136_2), ((HB.out.cell (World.block_lt_of_cell? w _ hw136_3)).trans hw136_3), ((HB.out.cell (World.block_lt_of_cell? w _ hw136_4)).trans hw136_4), ((HB.out.cell (World.block_lt_of_cell? w _ hw136_5)).trans hw136_5), ((HB.out.cell (World.block_lt_of_cell? w _ hw136_6)).trans hw136_6), ((HB.out.cell (World.block_lt_of_cell? w _ hw136_7)).trans hw136_7), ((HB.out.cell (World.block_lt_of_cell? w _ hw136_8)).trans hw136_8)⟩ (fun hHeld => ?_)
      clear hK K
      refine norm_ (a' := ?_) ?_ ?_
      rotate_left
      ·show Act.put _ (some 24) _ = _
       simp only [Act.put, List.setIfInBounds_toArray, List.set_cons_zero, List.set_cons_succ, i64_w, i32_w]
       rfl
      refine pure_ (i := 10) (N := some 25) (v := ?_) (a' := ?_) #[true, true, true, true, true, true, true, true, true, true, true, false] rfl rfl (any_of HT_.out (by kernel_rfl)) (fun _ _ _ h => h) (Or.inl ⟨by rfl, ?_⟩) ?_ ?_
      rotate_left
      ·intro w'
       go_simp
       with_reducible rfl
      rotate_left
      ·simp only [Act.put, List.setIfInBounds_toArray, List.set_cons_zero, List.set_cons_succ, i64_w, i32_w]
       rfl
      refine last_ (i := 11) (N := none) #[true, true, true, true, true, true, true, true, true, true, true, true] rfl rfl (one_of HT_.out (by kernel_rfl)) (by decide) (fun K hK => ?_)
      have hs22 : w19.cell? ⟨gb135, 8, none⟩ = some (u136008) := (bkC BK135.out 8).trans rfl
      have hfs22 := bkF BK135.out 8
      have hns22_0 := NB133_135.out
      have hns22_1 := NB134_135.out
      have hms22_0 := NB135_133.out
      have hms22_1 := NB135_134.out
      refine skip_ (w1 := ?_) (by rfl) rfl ?_ ?_
      rotate_left
      ·go_simp
       rfl
      refine hK.out _ _ ?_
      clear hK K
      refine done_ (done_of HT_.out (by kernel_rfl)) ?_
      try go_wp2
      go_roundg k1
      case measure => have := HK1.out; omega
      case rel => exact ⟨(wrap64 (x4_1 + 1)), (y148), (.slice Ao21 y148.length co21), (by first | rfl | (simp; done) | (simp [*]; done)), H', ⟨by have := HK1.out; omega⟩, ⟨by (with_reducible repeat (first | apply Kd.N_alloc | apply Kd.N_drewN | apply Kd.N_drew)); exact Kd.N_mono (Kd.N_far (p := ⟨gb135, 8, none⟩) (Kd.N_mono HO150.out (fun k_ hk => (⟨hk, hk.2.2.2⟩ : _ ∧ k_ ≠ gb135))) (fun _ hk => hk.2) (.slice Ao21 y148.length co21)) (fun _ hk => ⟨hk.1.1, ⟨hk.1.2.1, ⟨hk.1.2.2.1, hk.1.2.2.2⟩⟩⟩)⟩, ⟨by (with_reducible repeat (first | refine bkN ?_ _ | refine bkD ?_ | refine bkA ?_ _)); refine blk_far ?_ NB133_135.out _; exact BK133.out⟩, ⟨by (with_reducible repeat (first | refine bkN ?_ _ | refine bkD ?_ | refine bkA ?_ _)); refine blk_far ?_ NB134_135.out _; exact BK134.out⟩, ⟨by refine blk_put (cs := #[.int .i64 a0_0, .int .i64 a0_1, .int .i64 a0_2, .string a0_3, .int .i64 a0_4, .int .i64 a0_5, .int .i64 a0_6, .string a0_7, u136008]) ?_ 8 _ rfl; exact BK135.out⟩, ⟨by repeat (first | (with_reducible first | exact HB.out | apply blA | apply pbN | apply blD | refine blS ?_ GE133.out | refine blS ?_ GE134.out | refine blS ?_ GE135.out) | exact HB.out)⟩⟩
     ·rw [if_neg c13] at H
      exact absurd H (by simp)
    ·rw [if_neg c11] at H
     exact absurd H (by simp)
   ·rw [if_neg c10] at H
    have c10b0 : decide (x4_1 < (l0_8.length : Int)) = false := decide_eq_false c10
    clear c10
    by_cases c23 : a0_0 = 13
    ·rw [if_pos c23] at H
     have c23b0 : (a0_0 == 13) = true := beq_iff_eq.mpr c23
     have c23b1 : (a0_0 != 13) = false := bne_eq_false_iff_eq.mpr c23
     clear c23
     by_cases c24 : 1 < (x136008_1.length : Int)
     ·rw [if_pos c24] at H
      have c24b0 : decide (1 < (x136008_1.length : Int)) = true := decide_eq_true c24
      have c24b1 : decide (1 < x136008_1.length) = true := decide_eq_true (by omega)
      clear c24
      by_cases c25 : 0 < (x136008_1.length : Int)
      ·rw [if_pos c25] at H
       have c25b0 : decide (0 < (x136008_1.length : Int)) = true := decide_eq_true c25
       have c25b1 : decide (0 < x136008_1.length) = true := decide_eq_true (by omega)
       clear c25
       obtain ⟨y153, hy153⟩ : ∃ y_ : List (S26), y_ = (([(⟨(rd_T26 x136008_1 1).f0, (⟨(rd_T26 x136008_1 1).f1.f0, (rd_T26 x136008_1 1).f1.f1, (rd_T26 x136008_1 1).f1.f2⟩ : S23), (rd_T26 x136008_1 1).f2, (rd_T26 x136008_1 1).f3, (rd_T26 x136008_1 1).f4, (rd_T26 x136008_1 1).f5, (rd_T26 x136008_1 1).f6⟩ : S26), (⟨(rd_T26 x136008_1 0).f0, (⟨(rd_T26 x136008_1 0).f1.f0, (rd_T26 x136008_1 0).f1.f1, (rd_T26 x136008_1 0).f1.f2⟩ : S23), (rd_T26 x136008_1 0).f2, (rd_T26 x136008_1 0).f3, (rd_T26 x136008_1 0).f4, (rd_T26 x136008_1 0).f5, (rd_T26 x136008_1 0).f6⟩ : S26)] : List (S26))) := ⟨_, rfl⟩
       replace H : (some (11, a0_1, a0_2, a0_3, a0_4, a0_5, a0_6, a0_7, y153)) = some (r1, r2, r3, r4, r5, r6, r7, r8, r9) := by first | (rw [hy153]; with_reducible exact H) | (have H2_ := (Option.bind_some _ _).symm.trans H; rw [hy153]; with_reducible exact H2_) | (have H2_ := (Option.bind_some _ _).symm.trans H; with_reducible exact H2_) | with_reducible exact H | (rw [hy153]; exact H) | exact H
       have Ny153 := Asd.mk hy153
       clear hy153
       simp only [Option.some.injEq, Prod.mk.injEq] at H
       obtain ⟨rfl, rfl, rfl, rfl, rfl, rfl, rfl, rfl, rfl⟩ := H
       have hnb26 := NB133_134.out
       have hnc26 := NB134_133.out
       have hnb27 := NB133_135.out
       have hnc27 := NB135_133.out
       obtain ⟨hcz28_0, hcz28_1, hcz28_2, hcz28_3, hcz28_4, hcz28_5, hcz28_6, hcz28_7, hcz28_8⟩ := bkC9 BK133.out
       obtain ⟨hfz28_0, hfz28_1, hfz28_2, hfz28_3, hfz28_4, hfz28_5, hfz28_6, hfz28_7, hfz28_8⟩ := bkF9 BK133.out
       have hnb29 := NB135_134.out
       have hnc29 := NB134_135.out
       obtain ⟨hcz30_0, hcz30_1, hcz30_2, hcz30_3, hcz30_4, hcz30_5, hcz30_6, hcz30_7, hcz30_8⟩ := bkC9 BK135.out
       obtain ⟨hfz30_0, hfz30_1, hfz30_2, hfz30_3, hfz30_4, hfz30_5, hfz30_6, hfz30_7, hfz30_8⟩ := bkF9 BK135.out
       try go_wp2
       have n0_ : Asd (Kd.N k26 26 (wr.setCell ⟨gb135, 0, none⟩ (.int .i64 11)) w.heap.size (fun k_ => (w.heap.size ≤ k_) ∧ k_ ≠ gb133 ∧ k_ ≠ gb134 ∧ k_ ≠ gb135) u136008 x136008_1) := ⟨by (with_reducible repeat (first | apply Kd.N_alloc | apply Kd.N_drewN | apply Kd.N_drew)); exact Kd.N_mono (Kd.N_far (p := ⟨gb135, 0, none⟩) (Kd.N_mono HO_136008.out (fun k_ hk => (⟨hk, hk.2.2.2⟩ : _ ∧ k_ ≠ gb135))) (fun _ hk => hk.2) (.int .i64 11)) (fun _ hk => ⟨hk.1.1, ⟨hk.1.2.1, ⟨hk.1.2.2.1, hk.1.2.2.2⟩⟩⟩)⟩
       have n1_ : Asd ((wr.setCell ⟨gb135, 0, none⟩ (.int .i64 11)).heap[gb133]? = some (.cells #[.int .i64 a0_0, .int .i64 a0_1, .int .i64 a0_2, .string a0_3, .int .i64 a0_4, .int .i64 a0_5, .int .i64 a0_6, .string a0_7, .slice A0_8 l0_8.length c0_8] 26 (0, 0))) := ⟨by (with_reducible repeat (first | refine bkN ?_ _ | refine bkD ?_ | refine bkA ?_ _)); refine blk_far ?_ NB133_135.out _; exact BK133.out⟩
       have n2_ : Asd ((wr.setCell ⟨gb135, 0, none⟩ (.int .i64 11)).heap[gb134]? = some (.cells #[.int .i64 0, .int .i64 0, .int .i64 0, .string (⟨#[]⟩ : ByteArray), .int .i64 0, .int .i64 0, .int .i64 0, .string (⟨#[]⟩ : ByteArray), .slice none 0 0] 26 (0, 0))) := ⟨by (with_reducible repeat (first | refine bkN ?_ _ | refine bkD ?_ | refine bkA ?_ _)); refine blk_far ?_ NB134_135.out _; exact BK134.out⟩
       have n3_ : Asd ((wr.setCell ⟨gb135, 0, none⟩ (.int .i64 11)).heap[gb135]? = some (.cells #[.int .i64 11, .int .i64 a0_1, .int .i64 a0_2, .string a0_3, .int .i64 a0_4, .int .i64 a0_5, .int .i64 a0_6, .string a0_7, u136008] 26 (0, 0))) := ⟨by refine blk_put (cs := #[.int .i64 a0_0, .int .i64 a0_1, .int .i64 a0_2, .string a0_3, .int .i64 a0_4, .int .i64 a0_5, .int .i64 a0_6, .string a0_7, u136008]) ?_ 0 _ rfl; exact BK135.out⟩
       have n4_ : Asd (Below w.heap.size w (wr.setCell ⟨gb135, 0, none⟩ (.int .i64 11))) := ⟨by repeat (first | (with_reducible first | exact HB.out | apply blA | apply pbN | apply blD | refine blS ?_ GE133.out | refine blS ?_ GE134.out | refine blS ?_ GE135.out) | exact HB.out)⟩
       (try clear HO_136008)
       (try clear BK133)
       (try clear BK134)
       (try clear BK135)
       (try clear HB)
       generalize (wr.setCell ⟨gb135, 0, none⟩ (.int .i64 11)) = w31 at n0_ n1_ n2_ n3_ n4_ ⊢
       have HO_136008 := n0_
       have BK133 := n1_
       have BK134 := n2_
       have BK135 := n3_
       have HB := n4_
       clear n0_ n1_ n2_ n3_ n4_
       have n0_ := Asd.mk (Kd.N_drew HO_136008.out)
       have n1_ := Asd.mk (bkD BK133.out)
       have n2_ := Asd.mk (bkD BK134.out)
       have n3_ := Asd.mk (bkD BK135.out)
       have n4_ := Asd.mk (blD HB.out)
       clear HO_136008 BK133 BK134 BK135 HB
       have HO_136008 := n0_
       have BK133 := n1_
       have BK134 := n2_
       have BK135 := n3_
       have HB := n4_
       clear n0_ n1_ n2_ n3_ n4_
       obtain ⟨Ao33, co33, eo33⟩ := Kd.N_slice HO_136008.out
       (first | subst eo33 | (injection eo33 with f1_ f2_ f3_; have f4_ := f1_.symm; have f5_ := f3_.symm; clear f1_ f2_ f3_; subst f4_; subst f5_))
       have p151 : 0 ≤ (1 : Int) := (by omega)
       have q151 : 1 < (x136008_1.length : Int) := of_decide_eq_true (by first | (with_reducible assumption) | assumption)
       obtain ⟨ad151, A151_8, c151_8, e151, hx151_0, hx151_1, hx151_2, hx151_3, hx151_4, hx151_5, hx151_6, hx151_7, hx151_8, hl151_8, hi151_8⟩ := at_T26 (Kd.N_reads' HO_136008.out).2.2 1 p151 q151
       cases e151
       obtain ⟨ce151, hce151, hMe151, hcc151⟩ := Kd.N_get HO_136008.out z26 1 p151 (by first | exact q151 | exact of_decide_eq_true (by first | (with_reducible assumption) | assumption) | (have e_ := (Kd.N_reads' HO_136008.out).1; omega))
       obtain ⟨ua151_8, uc151_8, rfl, ul151_8, ge151_8⟩ := k26_openF hMe151
       have hv151_8 := hcc151 8 _ rfl
       rw [add_field _ _ 8 (by omega)] at hv151_8
       replace hv151_8 := Option.some.inj (hv151_8.symm.trans hx151_8)
       injection hv151_8 with hva_ hvn_ hvc_
       rw [hva_] at ge151_8
       rw [hvc_] at ul151_8
       have HL151_8 := Asd.mk (show Kd.V k26 26 _ w.heap.size _ _ ((rd_T26 x136008_1 1).f6) from Kd.V_mk ul151_8 ge151_8)
       clear hva_ hvn_ hvc_ ge151_8 ul151_8 hcc151 hce151
       (try simp only [show (1 : Int).toNat = 1 from rfl, Nat.reduceMul, Nat.reduceEqDiff, Go.Addr.add, ↓reduceIte] at hx151_0)
       (try simp only [show (1 : Int).toNat = 1 from rfl, Nat.reduceMul, Nat.reduceEqDiff, Go.Addr.add, ↓reduceIte] at hx151_1)
       (try simp only [show (1 : Int).toNat = 1 from rfl, Nat.reduceMul, Nat.reduceEqDiff, Go.Addr.add, ↓reduceIte] at hx151_2)
       (try simp only [show (1 : Int).toNat = 1 from rfl, Nat.reduceMul, Nat.reduceEqDiff, Go.Addr.add, ↓reduceIte] at hx151_3)
       (try simp only [show (1 : Int).toNat = 1 from rfl, Nat.reduceMul, Nat.reduceEqDiff, Go.Addr.add, ↓reduceIte] at hx151_4)
       (try simp only [show (1 : Int).toNat = 1 from rfl, Nat.reduceMul, Nat.reduceEqDiff, Go.Addr.add, ↓reduceIte] at hx151_5)
       (try simp only [show (1 : Int).toNat = 1 from rfl, Nat.reduceMul, Nat.reduceEqDiff, Go.Addr.add, ↓reduceIte] at hx151_6)
       (try simp only [show (1 : Int).toNat = 1 from rfl, Nat.reduceMul, Nat.reduceEqDiff, Go.Addr.add, ↓reduceIte] at hx151_7)
       (try simp only [show (1 : Int).toNat = 1 from rfl, Nat.reduceMul, Nat.reduceEqDiff, Go.Addr.add, ↓reduceIte] at hx151_8)
       have qi151 : (1 < x136008_1.length) = True := eq_true (by omega)
       (try rw [show ((1 : Int)).toNat = 1 from rfl] at hx151_0)
       (try rw [show 1 * 9 = 9 from rfl] at hx151_0)
       (try rw [show ((1 : Int)).toNat = 1 from rfl] at hx151_1)
       (try rw [show 1 * 9 = 9 from rfl] at hx151_1)
       (try rw [show ((1 : Int)).toNat = 1 from rfl] at hx151_2)
       (try rw [show 1 * 9 = 9 from rfl] at hx151_2)
       (try rw [show ((1 : Int)).toNat = 1 from rfl] at hx151_3)
       (try rw [show 1 * 9 = 9 from rfl] at hx151_3)
       (try rw [show ((1 : Int)).toNat = 1 from rfl] at hx151_4)
       (try rw [show 1 * 9 = 9 from rfl] at hx151_4)
       (try rw [show ((1 : Int)).toNat = 1 from rfl] at hx151_5)
       (try rw [show 1 * 9 = 9 from rfl] at hx151_5)
       (try rw [show ((1 : Int)).toNat = 1 from rfl] at hx151_6)
       (try rw [show 1 * 9 = 9 from rfl] at hx151_6)
       (try rw [show ((1 : Int)).toNat = 1 from rfl] at hx151_7)
       (try rw [show 1 * 9 = 9 from rfl] at hx151_7)
       (try rw [show ((1 : Int)).toNat = 1 from rfl] at hx151_8)
       (try rw [show 1 * 9 = 9 from rfl] at hx151_8)
       have HR151_8 := Asd.mk hi151_8
       have HC151_8 := Asd.mk hl151_8
       clear hi151_8 hl151_8
       replace p151 := eq_true p151
       replace q151 := eq_true q151
       have p152 : 0 ≤ (0 : Int) := (by omega)
       have q152 : 0 < (x136008_1.length : Int) := of_decide_eq_true (by first | (with_reducible assumption) | assumption)
       obtain ⟨ad152, A152_8, c152_8, e152, hx152_0, hx152_1, hx152_2, hx152_3, hx152_4, hx152_5, hx152_6, hx152_7, hx152_8, hl152_8, hi152_8⟩ := at_T26 (Kd.N_reads' HO_136008.out).2.2 0 p152 q152
       obtain rfl : ad151 = ad152 := (by injection e152)
       obtain ⟨ce152, hce152, hMe152, hcc152⟩ := Kd.N_get HO_136008.out z26 0 p152 (by first | exact q152 | exact of_decide_eq_true (by first | (with_reducible assumption) | assumption) | (have e_ := (Kd.N_reads' HO_136008.out).1; omega))
       obtain ⟨ua152_8, uc152_8, rfl, ul152_8, ge152_8⟩ := k26_openF hMe152
       have hv152_8 := hcc152 8 _ rfl
       rw [add_field _ _ 8 (by omega)] at hv152_8
       replace hv152_8 := Option.some.inj (hv152_8.symm.trans hx152_8)
       injection hv152_8 with hva_ hvn_ hvc_
       rw [hva_] at ge152_8
       rw [hvc_] at ul152_8
       have HL152_8 := Asd.mk (show Kd.V k26 26 _ w.heap.size _ _ ((rd_T26 x136008_1 0).f6) from Kd.V_mk ul152_8 ge152_8)
       clear hva_ hvn_ hvc_ ge152_8 ul152_8 hcc152 hce152
       have qi152 : (0 < x136008_1.length) = True := eq_true (by omega)
       (try rw [show ((0 : Int)).toNat = 0 from rfl] at hx152_0)
       (try rw [show 0 * 9 = 0 from rfl] at hx152_0)
       (try rw [Addr.add_zero'] at hx152_0)
       (try rw [show ((0 : Int)).toNat = 0 from rfl] at hx152_1)
       (try rw [show 0 * 9 = 0 from rfl] at hx152_1)
       (try rw [Addr.add_zero'] at hx152_1)
       (try rw [show ((0 : Int)).toNat = 0 from rfl] at hx152_2)
       (try rw [show 0 * 9 = 0 from rfl] at hx152_2)
       (try rw [Addr.add_zero'] at hx152_2)
       (try rw [show ((0 : Int)).toNat = 0 from rfl] at hx152_3)
       (try rw [show 0 * 9 = 0 from rfl] at hx152_3)
       (try rw [Addr.add_zero'] at hx152_3)
       (try rw [show ((0 : Int)).toNat = 0 from rfl] at hx152_4)
       (try rw [show 0 * 9 = 0 from rfl] at hx152_4)
       (try rw [Addr.add_zero'] at hx152_4)
       (try rw [show ((0 : Int)).toNat = 0 from rfl] at hx152_5)
       (try rw [show 0 * 9 = 0 from rfl] at hx152_5)
       (try rw [Addr.add_zero'] at hx152_5)
       (try rw [show ((0 : Int)).toNat = 0 from rfl] at hx152_6)
       (try rw [show 0 * 9 = 0 from rfl] at hx152_6)
       (try rw [Addr.add_zero'] at hx152_6)
       (try rw [show ((0 : Int)).toNat = 0 from rfl] at hx152_7)
       (try rw [show 0 * 9 = 0 from rfl] at hx152_7)
       (try rw [Addr.add_zero'] at hx152_7)
       (try rw [show ((0 : Int)).toNat = 0 from rfl] at hx152_8)
       (try rw [show 0 * 9 = 0 from rfl] at hx152_8)
       (try rw [Addr.add_zero'] at hx152_8)
       have HR152_8 := Asd.mk hi152_8
       have HC152_8 := Asd.mk hl152_8
       clear hi152_8 hl152_8
       replace p152 := eq_true p152
       replace q152 := eq_true q152
       refine start_ (n := 11) (S := fun w' => w'.cell? ⟨gb135, 0, none⟩ = some (.int .i64 11) ∧ w'.cell? ⟨gb135, 1, none⟩ = some (.int .i64 a0_1) ∧ w'.cell? ⟨gb135, 2, none⟩ = some (.int .i64 a0_2) ∧ w'.cell? ⟨gb135, 3, none⟩ = some (.string a0_3) ∧ w'.cell? ⟨gb135, 4, none⟩ = some (.int .i64 a0_4) ∧ w'.cell? ⟨gb135, 5, none⟩ = some (.int .i64 a0_5) ∧ w'.cell? ⟨gb135, 6, none⟩ = some (.int .i64 a0_6) ∧ w'.cell? ⟨gb135, 7, none⟩ = some (.string a0_7) ∧ w'.cell? ⟨gb135, 8, none⟩ = some (.slice (some ad151) x136008_1.length co33) ∧ w'.cell? ⟨ad151.block, ad151.off + 9, none⟩ = some (.int .i64 ((rd_T26 x136008_1 1).f0)) ∧ w'.cell? ⟨ad151.block, ad151.off + 9 + 1, none⟩ = some (.int .i64 ((rd_T26 x136008_1 1).f1.f0)) ∧ w'.cell? ⟨ad151.block, ad151.off + 9 + 2, none⟩ = some (.int .i64 ((rd_T26 x136008_1 1).f1.f1)) ∧ w'.cell? ⟨ad151.block, ad151.off + 9 + 3, none⟩ = some (.string ((rd_T26 x136008_1 1).f1.f2)) ∧ w'.cell? ⟨ad151.block, ad151.off + 9 + 4, none⟩ = some (.int .i64 ((rd_T26 x136008_1 1).f2)) ∧ w'.cell? ⟨ad151.block, ad151.off + 9 + 5, none⟩ = some (.int .i64 ((rd_T26 x136008_1 1).f3)) ∧ w'.cell? ⟨ad151.block, ad151.off + 9 + 6, none⟩ = some (.int .i64 ((rd_T26 x136008_1 1).f4)) ∧ w'.cell? ⟨ad151.block, ad151.off + 9 + 7, none⟩ = some (.string ((rd_T26 x136008_1 1).f5)) ∧ w'.cell? ⟨ad151.block, ad151.off + 9 + 8, none⟩ = some (.slice A151_8 ((rd_T26 x136008_1 1).f6).length c151_8) ∧ w'.cell? ad151 = some (.int .i64 ((rd_T26 x136008_1 0).f0)) ∧ w'.cell? ⟨ad151.block, ad151.off + 1, none⟩ = some (.int .i64 ((rd_T26 x136008_1 0).f1.f0)) ∧ w'.cell? ⟨ad151.block, ad151.off + 2, none⟩ = some (.int .i64 ((rd_T26 x136008_1 0).f1.f1)) ∧ w'.cell? ⟨ad151.block, ad151.off + 3, none⟩ = some (.string ((rd_T26 x136008_1 0).f1.f2)) ∧ w'.cell? ⟨ad151.block, ad151.off + 4, none⟩ = some (.int .i64 ((rd_T26 x136008_1 0).f2)) ∧ w'.cell? ⟨ad151.block, ad151.off + 5, none⟩ = some (.int .i64 ((rd_T26 x136008_1 0).f3)) ∧ w'.cell? ⟨ad151.block, ad151.off + 6, none⟩ = some (.int .i64 ((rd_T26 x136008_1 0).f4)) ∧ w'.cell? ⟨ad151.block, ad151.off + 7, none⟩ = some (.string ((rd_T26 x136008_1 0).f5)) ∧ w'.cell? ⟨ad151.block, ad151.off + 8, none⟩ = some (.slice A152_8 ((rd_T26 x136008_1 0).f6).length c152_8)) (ds := [10]) #[false, false, false, false, false, false, false, false, false, false, false] (by kernel_rfl) rfl rfl ⟨(bkC BK135.out 0).trans rfl, (bkC BK135.out 1).trans rfl, (bkC BK135.out 2).trans rfl, (bkC BK135.out 3).trans rfl, (bkC BK135.out 4).trans rfl, (bkC BK135.out 5).trans rfl, (bkC BK135.out 6).trans rfl, (bkC BK135.out 7).trans rfl, (bkC BK135.out 8).trans rfl, hx151_0, hx151_1, hx151_2, hx151_3, hx151_4, hx151_5, hx151_6, hx151_7, hx151_8, hx152_0, hx152_1, hx152_2, hx152_3, hx152_4, hx152_5, hx152_6, hx152_7, hx152_8⟩ (fun hHeld => ?_); refine with_tabW q12_normal.tab23 q12_normal.bits23 (fun HT_ HW_ => ?_)
       generalize w31.drew = w32 at HO_136008 BK133 BK134 BK135 HB HL151_8 HL152_8 HR151_8 HR152_8 hx151_0 hx151_1 hx151_2 hx151_3 hx151_4 hx151_5 hx151_6 hx151_7 hx151_8 hx152_0 hx152_1 hx152_2 hx152_3 hx152_4 hx152_5 hx152_6 hx152_7 hx152_8 hHeld ⊢
       refine pure_ (i := 0) (N := some 53) (v := ?_) (a' := ?_) #[true, false, false, false, false, false, false, false, false, false, false] rfl rfl (any_of HT_.out (by kernel_rfl)) (fun _ _ _ h => h) (Or.inl ⟨by rfl, ?_⟩) ?_ ?_
       rotate_left
       ·intro w'
        go_simp
        with_reducible rfl
       rotate_left
       ·simp only [Act.put, List.setIfInBounds_toArray, List.set_cons_zero, List.set_cons_succ, i64_w, i32_w]
        rfl
       refine pure_ (i := 4) (N := some 57) (v := ?_) (a' := ?_) #[true, false, false, false, true, false, false, false, false, false, false] rfl rfl (any_of HT_.out (by kernel_rfl)) (fun _ _ _ h => h) (Or.inl ⟨by rfl, ?_⟩) ?_ ?_
       rotate_left
       ·intro w'
        go_simp
        with_reducible rfl
       rotate_left
       ·simp only [Act.put, List.setIfInBounds_toArray, List.set_cons_zero, List.set_cons_succ, i64_w, i32_w]
        rfl
       refine take_ (i := 1) (N := some 54) (v := ?_) (a' := ?_) #[true, true, false, false, true, false, false, false, false, false, false] rfl rfl (take_ofW HT_.out HW_.out (by kernel_rfl)) (fun _ _ _ h => h) (Or.inl ⟨by rfl, ?_⟩) hHeld ?_ ?_
       rotate_left
       ·rintro w' ⟨s0, s1, s2, s3, s4, s5, s6, s7, s8, s9, s10, s11, s12, s13, s14, s15, s16, s17, s18, s19, s20, s21, s22, s23, s24, s25, s26⟩
        go_simp
        with_reducible rfl
       rotate_left
       ·simp only [Act.put, List.setIfInBounds_toArray, List.set_cons_zero, List.set_cons_succ, i64_w, i32_w]
        rfl
       refine pure_ (i := 2) (N := some 55) (v := ?_) (a' := ?_) #[true, true, true, false, true, false, false, false, false, false, false] rfl rfl (any_of HT_.out (by kernel_rfl)) (fun _ _ _ h => h) (Or.inl ⟨by rfl, ?_⟩) ?_ ?_
       rotate_left
       ·intro w'
        go_simp
        with_reducible rfl
       rotate_left
       ·simp only [Act.put, List.setIfInBounds_toArray, List.set_cons_zero, List.set_cons_succ, i64_w, i32_w]
        rfl
       refine take_ (i := 3) (N := some 56) (v := ?_) (a' := ?_) #[true, true, true, true, true, false, false, false, false, false, false] rfl rfl (take_ofW HT_.out HW_.out (by kernel_rfl)) (fun _ _ _ h => h) (Or.inl ⟨by rfl, ?_⟩) hHeld ?_ ?_
       rotate_left
       ·rintro w' ⟨s0, s1, s2, s3, s4, s5, s6, s7, s8, s9, s10, s11, s12, s13, s14, s15, s16, s17, s18, s19, s20, s21, s22, s23, s24, s25, s26⟩
        go_simp
        with_reducible rfl
       rotate_left
       ·simp only [Act.put, List.setIfInBounds_toArray, List.set_cons_zero, List.set_cons_succ, i64_w, i32_w]
        rfl
       refine take_ (i := 5) (N := some 58) (v := ?_) (a' := ?_) #[true, true, true, true, true, true, false, false, false, false, false] rfl rfl (take_ofW HT_.out HW_.out (by kernel_rfl)) (fun _ _ _ h => h) (Or.inl ⟨by rfl, ?_⟩) hHeld ?_ ?_
       rotate_left
       ·rintro w' ⟨s0, s1, s2, s3, s4, s5, s6, s7, s8, s9, s10, s11, s12, s13, s14, s15, s16, s17, s18, s19, s20, s21, s22, s23, s24, s25, s26⟩
        go_simp
        with_reducible rfl
       rotate_left
       ·simp only [Act.put, List.setIfInBounds_toArray, List.set_cons_zero, List.set_cons_succ, i64_w, i32_w]
        rfl
       refine pure_ (i := 6) (N := some 59) (v := ?_) (a' := ?_) #[true, true, true, true, true, true, true, false, false, false, false] rfl rfl (any_of HT_.out (by kernel_rfl)) (fun _ _ _ h => h) (Or.inl ⟨by rfl, ?_⟩) ?_ ?_
       rotate_left
       ·intro w'
        go_simp
        with_reducible rfl
       rotate_left
       ·simp only [Act.put, List.setIfInBounds_toArray, List.set_cons_zero, List.set_cons_succ, i64_w, i32_w]
        rfl
       refine take_ (i := 7) (N := some 60) (v := ?_) (a' := ?_) #[true, true, true, true, true, true, true, true, false, false, false] rfl rfl (take_ofW HT_.out HW_.out (by kernel_rfl)) (fun _ _ _ h => h) (Or.inl ⟨by rfl, ?_⟩) hHeld ?_ ?_
       rotate_left
       ·rintro w' ⟨s0, s1, s2, s3, s4, s5, s6, s7, s8, s9, s10, s11, s12, s13, s14, s15, s16, s17, s18, s19, s20, s21, s22, s23, s24, s25, s26⟩
        go_simp
        with_reducible rfl
       rotate_left
       ·simp only [Act.put, List.setIfInBounds_toArray, List.set_cons_zero, List.set_cons_succ, i64_w, i32_w]
        rfl
       refine one_ (i := 8) (N := some 61) #[true, true, true, true, true, true, true, true, true, false, false] rfl rfl (one_of HT_.out (by kernel_rfl)) (by decide) (fun K hK => ?_)
       refine Kd.N_lit_step k26 _ 26 ?hg (N' := 61) ?hd (xs := ([(⟨(rd_T26 x136008_1 1).f0, (⟨(rd_T26 x136008_1 1).f1.f0, (rd_T26 x136008_1 1).f1.f1, (rd_T26 x136008_1 1).f1.f2⟩ : S23), (rd_T26 x136008_1 1).f2, (rd_T26 x136008_1 1).f3, (rd_T26 x136008_1 1).f4, (rd_T26 x136008_1 1).f5, (rd_T26 x136008_1 1).f6⟩ : S26), (⟨(rd_T26 x136008_1 0).f0, (⟨(rd_T26 x136008_1 0).f1.f0, (rd_T26 x136008_1 0).f1.f1, (rd_T26 x136008_1 0).f1.f2⟩ : S23), (rd_T26 x136008_1 0).f2, (rd_T26 x136008_1 0).f3, (rd_T26 x136008_1 0).f4, (rd_T26 x136008_1 0).f5, (rd_T26 x136008_1 0).f6⟩ : S26)] : List (S26))) (inner := [.int .i64 ((rd_T26 x136008_1 1).f0), .int .i64 ((rd_T26 x136008_1 1).f1.f0), .int .i64 ((rd_T26 x136008_1 1).f1.f1), .string ((rd_T26 x136008_1 1).f1.f2), .int .i64 ((rd_T26 x136008_1 1).f2), .int .i64 ((rd_T26 x136008_1 1).f3), .int .i64 ((rd_T26 x136008_1 1).f4), .string ((rd_T26 x136008_1 1).f5), .slice A151_8 ((rd_T26 x136008_1 1).f6).length c151_8, .int .i64 ((rd_T26 x136008_1 0).f0), .int .i64 ((rd_T26 x136008_1 0).f1.f0), .int .i64 ((rd_T26 x136008_1 0).f1.f1), .string ((rd_T26 x136008_1 0).f1.f2), .int .i64 ((rd_T26 x136008_1 0).f2), .int .i64 ((rd_T26 x136008_1 0).f3), .int .i64 ((rd_T26 x136008_1 0).f4), .string ((rd_T26 x136008_1 0).f5), .slice A152_8 ((rd_T26 x136008_1 0).f6).length c152_8]) (ok := (fun k_ => (w.heap.size ≤ k_) ∧ some k_ ≠ (.slice (some ad151) x136008_1.length co33 : Value).ownBlock ∧ k_ ≠ gb133 ∧ k_ ≠ gb134 ∧ k_ ≠ gb135)) (okp := (fun k_ => (w.heap.size ≤ k_) ∧ some k_ ≠ (.slice (some ad151) x136008_1.length co33 : Value).ownBlock ∧ k_ ≠ gb133 ∧ k_ ≠ gb134 ∧ k_ ≠ gb135)) ?hr ?hp (fun _ hk => hk) ((show ∀ k_, w32.heap.size ≤ k_ → (fun k_ => (w.heap.size ≤ k_) ∧ some k_ ≠ (.slice (some ad151) x136008_1.length co33 : Value).ownBlock ∧ k_ ≠ gb133 ∧ k_ ≠ gb134 ∧ k_ ≠ gb135) k_ from fun k_ hk => ⟨(Nat.le_trans (below_size (by repeat (first | (with_reducible first | exact HB.out | apply blA | apply pbN | apply blD | refine blS ?_ GE133.out | refine blS ?_ GE134.out | refine blS ?_ GE135.out) | exact HB.out))) hk), Kd.fresh' (Kd.N_lt (by (with_reducible repeat (first | apply Kd.N_alloc | apply Kd.N_drewN | apply Kd.N_drew)); exact HO_136008.out)) k_ hk, Kd.freshB (g := gb133) (o := .cells #[.int .i64 a0_0, .int .i64 a0_1, .int .i64 a0_2, .string a0_3, .int .i64 a0_4, .int .i64 a0_5, .int .i64 a0_6, .string a0_7, .slice A0_8 l0_8.length c0_8] 26 (0, 0)) (by exact BK133.out) k_ hk, Kd.freshB (g := gb134) (o := .cells #[.int .i64 0, .int .i64 0, .int .i64 0, .string (⟨#[]⟩ : ByteArray), .int .i64 0, .int .i64 0, .int .i64 0, .string (⟨#[]⟩ : ByteArray), .slice none 0 0] 26 (0, 0)) (by exact BK134.out) k_ hk, Kd.freshB (g := gb135) (o := .cells #[.int .i64 11, .int .i64 a0_1, .int .i64 a0_2, .string a0_3, .int .i64 a0_4, .int .i64 a0_5, .int .i64 a0_6, .string a0_7, .slice (some ad151) x136008_1.length co33] 26 (0, 0)) (by exact BK135.out) k_ hk⟩) _ (Nat.le_refl _)) (Below.refl _ _) (Nat.le_refl _) (by simp) ?_; (case hd => rfl); (case hg => rfl); (case hr => first | (go_simp; done) | (go_simp; rfl)); (case hp => exact (Reps.c9 (show Kd.FK k26 _ _ (⟨(rd_T26 x136008_1 1).f0, (⟨(rd_T26 x136008_1 1).f1.f0, (rd_T26 x136008_1 1).f1.f1, (rd_T26 x136008_1 1).f1.f2⟩ : S23), (rd_T26 x136008_1 1).f2, (rd_T26 x136008_1 1).f3, (rd_T26 x136008_1 1).f4, (rd_T26 x136008_1 1).f5, (rd_T26 x136008_1 1).f6⟩ : S26) [.int .i64 ((rd_T26 x136008_1 1).f0), .int .i64 ((rd_T26 x136008_1 1).f1.f0), .int .i64 ((rd_T26 x136008_1 1).f1.f1), .string ((rd_T26 x136008_1 1).f1.f2), .int .i64 ((rd_T26 x136008_1 1).f2), .int .i64 ((rd_T26 x136008_1 1).f3), .int .i64 ((rd_T26 x136008_1 1).f4), .string ((rd_T26 x136008_1 1).f5), .slice A151_8 ((rd_T26 x136008_1 1).f6).length c151_8] from (k26_mkF _ _ (⟨(rd_T26 x136008_1 1).f0, (⟨(rd_T26 x136008_1 1).f1.f0, (rd_T26 x136008_1 1).f1.f1, (rd_T26 x136008_1 1).f1.f2⟩ : S23), (rd_T26 x136008_1 1).f2, (rd_T26 x136008_1 1).f3, (rd_T26 x136008_1 1).f4, (rd_T26 x136008_1 1).f5, (rd_T26 x136008_1 1).f6⟩ : S26) (Kd.V_reads' (Kd.V_mono (ok' := (fun k_ => (w.heap.size ≤ k_) ∧ some k_ ≠ (.slice (some ad151) x136008_1.length co33 : Value).ownBlock ∧ k_ ≠ gb133 ∧ k_ ≠ gb134 ∧ k_ ≠ gb135)) (HL151_8.out) (fun k_ hk => ⟨hk.1.1, ⟨hk.2, ⟨hk.1.2.1, ⟨hk.1.2.2.1, hk.1.2.2.2⟩⟩⟩⟩))).2.1 (Kd.V_F (Kd.V_mono (ok' := (fun k_ => (w.heap.size ≤ k_) ∧ some k_ ≠ (.slice (some ad151) x136008_1.length co33 : Value).ownBlock ∧ k_ ≠ gb133 ∧ k_ ≠ gb134 ∧ k_ ≠ gb135)) (HL151_8.out) (fun k_ hk => ⟨hk.1.1, ⟨hk.2, ⟨hk.1.2.1, ⟨hk.1.2.2.1, hk.1.2.2.2⟩⟩⟩⟩))))) (Reps.c9 (show Kd.FK k26 _ _ (⟨(rd_T26 x136008_1 0).f0, (⟨(rd_T26 x136008_1 0).f1.f0, (rd_T26 x136008_1 0).f1.f1, (rd_T26 x136008_1 0).f1.f2⟩ : S23), (rd_T26 x136008_1 0).f2, (rd_T26 x136008_1 0).f3, (rd_T26 x136008_1 0).f4, (rd_T26 x136008_1 0).f5, (rd_T26 x136008_1 0).f6⟩ : S26) [.int .i64 ((rd_T26 x136008_1 0).f0), .int .i64 ((rd_T26 x136008_1 0).f1.f0), .int .i64 ((rd_T26 x136008_1 0).f1.f1), .string ((rd_T26 x136008_1 0).f1.f2), .int .i64 ((rd_T26 x136008_1 0).f2), .int .i64 ((rd_T26 x136008_1 0).f3), .int .i64 ((rd_T26 x136008_1 0).f4), .string ((rd_T26 x136008_1 0).f5), .slice A152_8 ((rd_T26 x136008_1 0).f6).length c152_8] from (k26_mkF _ _ (⟨(rd_T26 x136008_1 0).f0, (⟨(rd_T26 x136008_1 0).f1.f0, (rd_T26 x136008_1 0).f1.f1, (rd_T26 x136008_1 0).f1.f2⟩ : S23), (rd_T26 x136008_1 0).f2, (rd_T26 x136008_1 0).f3, (rd_T26 x136008_1 0).f4, (rd_T26 x136008_1 0).f5, (rd_T26 x136008_1 0).f6⟩ : S26) (Kd.V_reads' (Kd.V_mono (ok' := (fun k_ => (w.heap.size ≤ k_) ∧ some k_ ≠ (.slice (some ad151) x136008_1.length co33 : Value).ownBlock ∧ k_ ≠ gb133 ∧ k_ ≠ gb134 ∧ k_ ≠ gb135)) (HL152_8.out) (fun k_ hk => ⟨hk.1.1, ⟨hk.2, ⟨hk.1.2.1, ⟨hk.1.2.2.1, hk.1.2.2.2⟩⟩⟩⟩))).2.1 (Kd.V_F (Kd.V_mono (ok' := (fun k_ => (w.heap.size ≤ k_) ∧ some k_ ≠ (.slice (some ad151) x136008_1.length co33 : Value).ownBlock ∧ k_ ≠ gb133 ∧ k_ ≠ gb134 ∧ k_ ≠ gb135)) (HL152_8.out) (fun k_ hk => ⟨hk.1.1, ⟨hk.2, ⟨hk.1.2.1, ⟨hk.1.2.2.1, hk.1.2.2.2⟩⟩⟩⟩))))) (Reps.none _ _))))
       intro v154 w34 ho35 hb hg_ hnew_
       have HS9_ := (hb.cell (World.block_lt_of_cell? _ _ (hHeld.2.2.2.2.2.2.2.2.2.1))).trans (hHeld.2.2.2.2.2.2.2.2.2.1)
       have HS10_ := (hb.cell (World.block_lt_of_cell? _ _ (hHeld.2.2.2.2.2.2.2.2.2.2.1))).trans (hHeld.2.2.2.2.2.2.2.2.2.2.1)
       have HS11_ := (hb.cell (World.block_lt_of_cell? _ _ (hHeld.2.2.2.2.2.2.2.2.2.2.2.1))).trans (hHeld.2.2.2.2.2.2.2.2.2.2.2.1)
       have HS12_ := (hb.cell (World.block_lt_of_cell? _ _ (hHeld.2.2.2.2.2.2.2.2.2.2.2.2.1))).trans (hHeld.2.2.2.2.2.2.2.2.2.2.2.2.1)
       have HS13_ := (hb.cell (World.block_lt_of_cell? _ _ (hHeld.2.2.2.2.2.2.2.2.2.2.2.2.2.1))).trans (hHeld.2.2.2.2.2.2.2.2.2.2.2.2.2.1)
       have HS14_ := (hb.cell (World.block_lt_of_cell? _ _ (hHeld.2.2.2.2.2.2.2.2.2.2.2.2.2.2.1))).trans (hHeld.2.2.2.2.2.2.2.2.2.2.2.2.2.2.1)
       have HS15_ := (hb.cell (World.block_lt_of_cell? _ _ (hHeld.2.2.2.2.2.2.2.2.2.2.2.2.2.2.2.1))).trans (hHeld.2.2.2.2.2.2.2.2.2.2.2.2.2.2.2.1)
       have HS16_ := (hb.cell (World.block_lt_of_cell? _ _ (hHeld.2.2.2.2.2.2.2.2.2.2.2.2.2.2.2.2.1))).trans (hHeld.2.2.2.2.2.2.2.2.2.2.2.2.2.2.2.2.1)
       have HS17_ := (hb.cell (World.block_lt_of_cell? _ _ (hHeld.2.2.2.2.2.2.2.2.2.2.2.2.2.2.2.2.2.1))).trans (hHeld.2.2.2.2.2.2.2.2.2.2.2.2.2.2.2.2.2.1)
       have HS18_ := (hb.cell (World.block_lt_of_cell? _ _ (hHeld.2.2.2.2.2.2.2.2.2.2.2.2.2.2.2.2.2.2.1))).trans (hHeld.2.2.2.2.2.2.2.2.2.2.2.2.2.2.2.2.2.2.1)
       have HS19_ := (hb.cell (World.block_lt_of_cell? _ _ (hHeld.2.2.2.2.2.2.2.2.2.2.2.2.2.2.2.2.2.2.2.1))).trans (hHeld.2.2.2.2.2.2.2.2.2.2.2.2.2.2.2.2.2.2.2.1)
       have HS20_ := (hb.cell (World.block_lt_of_cell? _ _ (hHeld.2.2.2.2.2.2.2.2.2.2.2.2.2.2.2.2.2.2.2.2.1))).trans (hHeld.2.2.2.2.2.2.2.2.2.2.2.2.2.2.2.2.2.2.2.2.1)
       have HS21_ := (hb.cell (World.block_lt_of_cell? _ _ (hHeld.2.2.2.2.2.2.2.2.2.2.2.2.2.2.2.2.2.2.2.2.2.1))).trans (hHeld.2.2.2.2.2.2.2.2.2.2.2.2.2.2.2.2.2.2.2.2.2.1)
       have HS22_ := (hb.cell (World.block_lt_of_cell? _ _ (hHeld.2.2.2.2.2.2.2.2.2.2.2.2.2.2.2.2.2.2.2.2.2.2.1))).trans (hHeld.2.2.2.2.2.2.2.2.2.2.2.2.2.2.2.2.2.2.2.2.2.2.1)
       have HS23_ := (hb.cell (World.block_lt_of_cell? _ _ (hHeld.2.2.2.2.2.2.2.2.2.2.2.2.2.2.2.2.2.2.2.2.2.2.2.1))).trans (hHeld.2.2.2.2.2.2.2.2.2.2.2.2.2.2.2.2.2.2.2.2.2.2.2.1)
       have HS24_ := (hb.cell (World.block_lt_of_cell? _ _ (hHeld.2.2.2.2.2.2.2.2.2.2.2.2.2.2.2.2.2.2.2.2.2.2.2.2.1))).trans (hHeld.2.2.2.2.2.2.2.2.2.2.2.2.2.2.2.2.2.2.2.2.2.2.2.2.1)
       have HS25_ := (hb.cell (World.block_lt_of_cell? _ _ (hHeld.2.2.2.2.2.2.2.2.2.2.2.2.2.2.2.2.2.2.2.2.2.2.2.2.2.1))).trans (hHeld.2.2.2.2.2.2.2.2.2.2.2.2.2.2.2.2.2.2.2.2.2.2.2.2.2.1)
       have HS26_ := (hb.cell (World.block_lt_of_cell? _ _ (hHeld.2.2.2.2.2.2.2.2.2.2.2.2.2.2.2.2.2.2.2.2.2.2.2.2.2.2))).trans (hHeld.2.2.2.2.2.2.2.2.2.2.2.2.2.2.2.2.2.2.2.2.2.2.2.2.2.2)
       clear hg_ hnew_
       (first | rw [← Ny153.out] at ho35 | (simp only [Int.reduceToNat] at ho35; rw [← Ny153.out] at ho35))
       have n0_ := Asd.mk (Kd.N_elder' (by (with_reducible repeat (first | apply Kd.N_alloc | apply Kd.N_drewN | apply Kd.N_drew)); exact HO_136008.out) (Kd.N_base ho35) hb)
       have n1_ := Asd.mk (Kd.V_elder' (by (with_reducible repeat (first | apply Kd.V_alloc | apply Kd.V_drewN | apply Kd.V_drew)); exact HL151_8.out) (Kd.N_base ho35) hb)
       have n2_ := Asd.mk (Kd.V_elder' (by (with_reducible repeat (first | apply Kd.V_alloc | apply Kd.V_drewN | apply Kd.V_drew)); exact HL152_8.out) (Kd.N_base ho35) hb)
       have n3_ := Asd.mk (Kd.N_lower ho35 (below_size (by repeat (first | (with_reducible first | exact HB.out | apply blA | apply pbN | apply blD | refine blS ?_ GE133.out | refine blS ?_ GE134.out | refine blS ?_ GE135.out) | exact HB.out))))
       have n4_ := Asd.mk (bB hb BK133.out)
       have n5_ := Asd.mk (bB hb BK134.out)
       have n6_ := Asd.mk (bB hb BK135.out)
       have n7_ := Asd.mk (Kd.C_below (by repeat (first | (with_reducible exact HR151_8.out) | (with_reducible refine Kd.C_alloc ?_ _) | (with_reducible refine Kd.C_drewN ?_ _) | (with_reducible refine Kd.C_drew ?_) | exact HR151_8.out)) hb)
       have n8_ := Asd.mk (Kd.C_below (by repeat (first | (with_reducible exact HR152_8.out) | (with_reducible refine Kd.C_alloc ?_ _) | (with_reducible refine Kd.C_drewN ?_ _) | (with_reducible refine Kd.C_drew ?_) | exact HR152_8.out)) hb)
       have n9_ := Asd.mk (bS hb HB.out)
       clear HO_136008 HL151_8 HL152_8 BK133 BK134 BK135 HR151_8 HR152_8 HB
       have HO_136008 := n0_
       have HL151_8 := n1_
       have HL152_8 := n2_
       have HO155 := n3_
       have BK133 := n4_
       have BK134 := n5_
       have BK135 := n6_
       have HR151_8 := n7_
       have HR152_8 := n8_
       have HB := n9_
       clear n0_ n1_ n2_ n3_ n4_ n5_ n6_ n7_ n8_ n9_ hb ho35
       obtain ⟨Ao36, co36, eo36⟩ := Kd.N_slice HO155.out
       (first | subst eo36 | (injection eo36 with f1_ f2_ f3_; have f4_ := f1_.symm; have f5_ := f3_.symm; clear f1_ f2_ f3_; subst f4_; subst f5_))
       refine hK.out _ _ ⟨(bkC BK135.out 0).trans rfl, (bkC BK135.out 1).trans rfl, (bkC BK135.out 2).trans rfl, (bkC BK135.out 3).trans rfl, (bkC BK135.out 4).trans rfl, (bkC BK135.out 5).trans rfl, (bkC BK135.out 6).trans rfl, (bkC BK135.out 7).trans rfl, (bkC BK135.out 8).trans rfl, HS9_, HS10_, HS11_, HS12_, HS13_, HS14_, HS15_, HS16_, HS17_, HS18_, HS19_, HS20_, HS21_, HS22_, HS23_, HS24_, HS25_, HS26_⟩ (fun hHeld => ?_)
       clear hK K
       refine norm_ (a' := ?_) ?_ ?_
       rotate_left
       ·show Act.put _ (some 61) _ = _
        simp only [Act.put, List.setIfInBounds_toArray, List.set_cons_zero, List.set_cons_succ, i64_w, i32_w]
        rfl
       refine pure_ (i := 9) (N := some 62) (v := ?_) (a' := ?_) #[true, true, true, true, true, true, true, true, true, true, false] rfl rfl (any_of HT_.out (by kernel_rfl)) (fun _ _ _ h => h) (Or.inl ⟨by rfl, ?_⟩) ?_ ?_
       rotate_left
       ·intro w'
        go_simp
        with_reducible rfl
       rotate_left
       ·simp only [Act.put, List.setIfInBounds_toArray, List.set_cons_zero, List.set_cons_succ, i64_w, i32_w]
        rfl
       refine last_ (i := 10) (N := none) #[true, true, true, true, true, true, true, true, true, true, true] rfl rfl (one_of HT_.out (by kernel_rfl)) (by decide) (fun K hK => ?_)
       have hs37 : w34.cell? ⟨gb135, 8, none⟩ = some (.slice (some ad151) x136008_1.length co33) := (bkC BK135.out 8).trans rfl
       have hfs37 := bkF BK135.out 8
       have hns37_0 := NB133_135.out
       have hns37_1 := NB134_135.out
       have hms37_0 := NB135_133.out
       have hms37_1 := NB135_134.out
       refine skip_ (w1 := ?_) (by rfl) rfl ?_ ?_
       rotate_left
       ·go_simp
        rfl
       refine hK.out _ _ ?_
       clear hK K
       refine done_ (done_of HT_.out (by kernel_rfl)) ?_
       obtain ⟨hcz38_0, hcz38_1, hcz38_2, hcz38_3, hcz38_4, hcz38_5, hcz38_6, hcz38_7, hcz38_8⟩ := bkC9 BK135.out
       obtain ⟨hfz38_0, hfz38_1, hfz38_2, hfz38_3, hfz38_4, hfz38_5, hfz38_6, hfz38_7, hfz38_8⟩ := bkF9 BK135.out
       obtain ⟨hcz39_0, hcz39_1, hcz39_2, hcz39_3, hcz39_4, hcz39_5, hcz39_6, hcz39_7, hcz39_8⟩ := bkC9 BK134.out
       obtain ⟨hfz39_0, hfz39_1, hfz39_2, hfz39_3, hfz39_4, hfz39_5, hfz39_6, hfz39_7, hfz39_8⟩ := bkF9 BK134.out
       try go_wp2
       refine bodyPost_ret (results_cell_row rfl _ _ gb134 26 #[.int .i64 11, .int .i64 a0_1, .int .i64 a0_2, .string a0_3, .int .i64 a0_4, .int .i64 a0_5, .int .i64 a0_6, .string a0_7, .slice Ao36 y153.length co36] (0, 0) _ rfl (by refine blk_put (cs := #[.int .i64 11, .int .i64 a0_1, .int .i64 a0_2, .string a0_3, .int .i64 a0_4, .int .i64 a0_5, .int .i64 a0_6, .string a0_7, .slice none 0 0]) ?_ 8 _ rfl; refine blk_put (cs := #[.int .i64 11, .int .i64 a0_1, .int .i64 a0_2, .string a0_3, .int .i64 a0_4, .int .i64 a0_5, .int .i64 a0_6, .string (⟨#[]⟩ : ByteArray), .slice none 0 0]) ?_ 7 _ rfl; refine blk_put (cs := #[.int .i64 11, .int .i64 a0_1, .int .i64 a0_2, .string a0_3, .int .i64 a0_4, .int .i64 a0_5, .int .i64 0, .string (⟨#[]⟩ : ByteArray), .slice none 0 0]) ?_ 6 _ rfl; refine blk_put (cs := #[.int .i64 11, .int .i64 a0_1, .int .i64 a0_2, .string a0_3, .int .i64 a0_4, .int .i64 0, .int .i64 0, .string (⟨#[]⟩ : ByteArray), .slice none 0 0]) ?_ 5 _ rfl; refine blk_put (cs := #[.int .i64 11, .int .i64 a0_1, .int .i64 a0_2, .string a0_3, .int .i64 0, .int .i64 0, .int .i64 0, .string (⟨#[]⟩ : ByteArray), .slice none 0 0]) ?_ 4 _ rfl; refine blk_put (cs := #[.int .i64 11, .int .i64 a0_1, .int .i64 a0_2, .string (⟨#[]⟩ : ByteArray), .int .i64 0, .int .i64 0, .int .i64 0, .string (⟨#[]⟩ : ByteArray), .slice none 0 0]) ?_ 3 _ rfl; refine blk_put (cs := #[.int .i64 11, .int .i64 a0_1, .int .i64 0, .string (⟨#[]⟩ : ByteArray), .int .i64 0, .int .i64 0, .int .i64 0, .string (⟨#[]⟩ : ByteArray), .slice none 0 0]) ?_ 2 _ rfl; refine blk_put (cs := #[.int .i64 11, .int .i64 0, .int .i64 0, .string (⟨#[]⟩ : ByteArray), .int .i64 0, .int .i64 0, .int .i64 0, .string (⟨#[]⟩ : ByteArray), .slice none 0 0]) ?_ 1 _ rfl; refine blk_put (cs := #[.int .i64 0, .int .i64 0, .int .i64 0, .string (⟨#[]⟩ : ByteArray), .int .i64 0, .int .i64 0, .int .i64 0, .string (⟨#[]⟩ : ByteArray), .slice none 0 0]) ?_ 0 _ rfl; (with_reducible repeat (first | refine bkN ?_ _ | refine bkD ?_ | refine bkA ?_ _)); refine blk_far ?_ NB134_135.out _; exact BK134.out) Tryd.underlying26 rfl (by kernel_rfl)) rfl ?_
       exact ⟨_, by first | rfl | (simp [errW_none, errW_some] <;> rfl) | (simp [*, errW_none, errW_some] <;> rfl), by (with_reducible repeat (first | apply Kd.N_alloc | apply Kd.N_drewN | apply Kd.N_drew)); exact Kd.N_mono (Kd.N_far (p := ⟨gb134, 8, none⟩) (Kd.N_far (p := ⟨gb134, 7, none⟩) (Kd.N_far (p := ⟨gb134, 6, none⟩) (Kd.N_far (p := ⟨gb134, 5, none⟩) (Kd.N_far (p := ⟨gb134, 4, none⟩) (Kd.N_far (p := ⟨gb134, 3, none⟩) (Kd.N_far (p := ⟨gb134, 2, none⟩) (Kd.N_far (p := ⟨gb134, 1, none⟩) (Kd.N_far (p := ⟨gb134, 0, none⟩) (Kd.N_far (p := ⟨gb135, 8, none⟩) (Kd.N_mono (Kd.N_mono HO155.out (fun k_ hk => (⟨hk, hk.2.2.2.2⟩ : _ ∧ k_ ≠ gb135))) (fun k_ hk => (⟨hk, hk.1.2.2.2.1⟩ : _ ∧ k_ ≠ gb134))) (fun _ hk => hk.1.2) (.slice Ao36 y153.length co36)) (fun _ hk => hk.2) (.int .i64 11)) (fun _ hk => hk.2) (.int .i64 a0_1)) (fun _ hk => hk.2) (.int .i64 a0_2)) (fun _ hk => hk.2) (.string a0_3)) (fun _ hk => hk.2) (.int .i64 a0_4)) (fun _ hk => hk.2) (.int .i64 a0_5)) (fun _ hk => hk.2) (.int .i64 a0_6)) (fun _ hk => hk.2) (.string a0_7)) (fun _ hk => hk.2) (.slice Ao36 y153.length co36)) (fun _ hk => hk.1.1.1), by repeat (first | (with_reducible first | exact HB.out | apply blA | apply pbN | apply blD | refine blS ?_ GE133.out | refine blS ?_ GE134.out | refine blS ?_ GE135.out) | exact HB.out)⟩
      ·rw [if_neg c25] at H
       exact absurd H (by simp)
     ·rw [if_neg c24] at H
      exact absurd H (by simp)
    ·rw [if_neg c23] at H
     have c23b0 : (a0_0 == 13) = false := beq_eq_false_iff_ne.mpr c23
     have c23b1 : (a0_0 != 13) = true := bne_iff_ne.mpr c23
     by_cases c40 : a0_0 = 14
     ·rw [if_pos c40] at H
      have c40b0 : (a0_0 == 14) = true := beq_iff_eq.mpr c40
      have c40b1 : (a0_0 != 14) = false := bne_eq_false_iff_eq.mpr c40
      clear c40
      by_cases c41 : 1 < (x136008_1.length : Int)
      ·rw [if_pos c41] at H
       have c41b0 : decide (1 < (x136008_1.length : Int)) = true := decide_eq_true c41
       have c41b1 : decide (1 < x136008_1.length) = true := decide_eq_true (by omega)
       clear c41
       by_cases c42 : 0 < (x136008_1.length : Int)
       ·rw [if_pos c42] at H
        have c42b0 : decide (0 < (x136008_1.length : Int)) = true := decide_eq_true c42
        have c42b1 : decide (0 < x136008_1.length) = true := decide_eq_true (by omega)
        clear c42
        obtain ⟨y158, hy158⟩ : ∃ y_ : List (S26), y_ = (([(⟨(rd_T26 x136008_1 1).f0, (⟨(rd_T26 x136008_1 1).f1.f0, (rd_T26 x136008_1 1).f1.f1, (rd_T26 x136008_1 1).f1.f2⟩ : S23), (rd_T26 x136008_1 1).f2, (rd_T26 x136008_1 1).f3, (rd_T26 x136008_1 1).f4, (rd_T26 x136008_1 1).f5, (rd_T26 x136008_1 1).f6⟩ : S26), (⟨(rd_T26 x136008_1 0).f0, (⟨(rd_T26 x136008_1 0).f1.f0, (rd_T26 x136008_1 0).f1.f1, (rd_T26 x136008_1 0).f1.f2⟩ : S23), (rd_T26 x136008_1 0).f2, (rd_T26 x136008_1 0).f3, (rd_T26 x136008_1 0).f4, (rd_T26 x136008_1 0).f5, (rd_T26 x136008_1 0).f6⟩ : S26)] : List (S26))) := ⟨_, rfl⟩
        replace H : (some (12, a0_1, a0_2, a0_3, a0_4, a0_5, a0_6, a0_7, y158)) = some (r1, r2, r3, r4, r5, r6, r7, r8, r9) := by first | (rw [hy158]; with_reducible exact H) | (have H2_ := (Option.bind_some _ _).symm.trans H; rw [hy158]; with_reducible exact H2_) | (have H2_ := (Option.bind_some _ _).symm.trans H; with_reducible exact H2_) | with_reducible exact H | (rw [hy158]; exact H) | exact H
        have Ny158 := Asd.mk hy158
        clear hy158
        simp only [Option.some.injEq, Prod.mk.injEq] at H
        obtain ⟨rfl, rfl, rfl, rfl, rfl, rfl, rfl, rfl, rfl⟩ := H
        have hnb43 := NB133_134.out
        have hnc43 := NB134_133.out
        have hnb44 := NB133_135.out
        have hnc44 := NB135_133.out
        obtain ⟨hcz45_0, hcz45_1, hcz45_2, hcz45_3, hcz45_4, hcz45_5, hcz45_6, hcz45_7, hcz45_8⟩ := bkC9 BK133.out
        obtain ⟨hfz45_0, hfz45_1, hfz45_2, hfz45_3, hfz45_4, hfz45_5, hfz45_6, hfz45_7, hfz45_8⟩ := bkF9 BK133.out
        have hnb46 := NB135_134.out
        have hnc46 := NB134_135.out
        obtain ⟨hcz47_0, hcz47_1, hcz47_2, hcz47_3, hcz47_4, hcz47_5, hcz47_6, hcz47_7, hcz47_8⟩ := bkC9 BK135.out
        obtain ⟨hfz47_0, hfz47_1, hfz47_2, hfz47_3, hfz47_4, hfz47_5, hfz47_6, hfz47_7, hfz47_8⟩ := bkF9 BK135.out
        try go_wp2
        have n0_ : Asd (Kd.N k26 26 (wr.setCell ⟨gb135, 0, none⟩ (.int .i64 12)) w.heap.size (fun k_ => (w.heap.size ≤ k_) ∧ k_ ≠ gb133 ∧ k_ ≠ gb134 ∧ k_ ≠ gb135) u136008 x136008_1) := ⟨by (with_reducible repeat (first | apply Kd.N_alloc | apply Kd.N_drewN | apply Kd.N_drew)); exact Kd.N_mono (Kd.N_far (p := ⟨gb135, 0, none⟩) (Kd.N_mono HO_136008.out (fun k_ hk => (⟨hk, hk.2.2.2⟩ : _ ∧ k_ ≠ gb135))) (fun _ hk => hk.2) (.int .i64 12)) (fun _ hk => ⟨hk.1.1, ⟨hk.1.2.1, ⟨hk.1.2.2.1, hk.1.2.2.2⟩⟩⟩)⟩
        have n1_ : Asd ((wr.setCell ⟨gb135, 0, none⟩ (.int .i64 12)).heap[gb133]? = some (.cells #[.int .i64 a0_0, .int .i64 a0_1, .int .i64 a0_2, .string a0_3, .int .i64 a0_4, .int .i64 a0_5, .int .i64 a0_6, .string a0_7, .slice A0_8 l0_8.length c0_8] 26 (0, 0))) := ⟨by (with_reducible repeat (first | refine bkN ?_ _ | refine bkD ?_ | refine bkA ?_ _)); refine blk_far ?_ NB133_135.out _; exact BK133.out⟩
        have n2_ : Asd ((wr.setCell ⟨gb135, 0, none⟩ (.int .i64 12)).heap[gb134]? = some (.cells #[.int .i64 0, .int .i64 0, .int .i64 0, .string (⟨#[]⟩ : ByteArray), .int .i64 0, .int .i64 0, .int .i64 0, .string (⟨#[]⟩ : ByteArray), .slice none 0 0] 26 (0, 0))) := ⟨by (with_reducible repeat (first | refine bkN ?_ _ | refine bkD ?_ | refine bkA ?_ _)); refine blk_far ?_ NB134_135.out _; exact BK134.out⟩
        have n3_ : Asd ((wr.setCell ⟨gb135, 0, none⟩ (.int .i64 12)).heap[gb135]? = some (.cells #[.int .i64 12, .int .i64 a0_1, .int .i64 a0_2, .string a0_3, .int .i64 a0_4, .int .i64 a0_5, .int .i64 a0_6, .string a0_7, u136008] 26 (0, 0))) := ⟨by refine blk_put (cs := #[.int .i64 a0_0, .int .i64 a0_1, .int .i64 a0_2, .string a0_3, .int .i64 a0_4, .int .i64 a0_5, .int .i64 a0_6, .string a0_7, u136008]) ?_ 0 _ rfl; exact BK135.out⟩
        have n4_ : Asd (Below w.heap.size w (wr.setCell ⟨gb135, 0, none⟩ (.int .i64 12))) := ⟨by repeat (first | (with_reducible first | exact HB.out | apply blA | apply pbN | apply blD | refine blS ?_ GE133.out | refine blS ?_ GE134.out | refine blS ?_ GE135.out) | exact HB.out)⟩
        (try clear HO_136008)
        (try clear BK133)
        (try clear BK134)
        (try clear BK135)
        (try clear HB)
        generalize (wr.setCell ⟨gb135, 0, none⟩ (.int .i64 12)) = w48 at n0_ n1_ n2_ n3_ n4_ ⊢
        have HO_136008 := n0_
        have BK133 := n1_
        have BK134 := n2_
        have BK135 := n3_
        have HB := n4_
        clear n0_ n1_ n2_ n3_ n4_
        have n0_ := Asd.mk (Kd.N_drew HO_136008.out)
        have n1_ := Asd.mk (bkD BK133.out)
        have n2_ := Asd.mk (bkD BK134.out)
        have n3_ := Asd.mk (bkD BK135.out)
        have n4_ := Asd.mk (blD HB.out)
        clear HO_136008 BK133 BK134 BK135 HB
        have HO_136008 := n0_
        have BK133 := n1_
        have BK134 := n2_
        have BK135 := n3_
        have HB := n4_
        clear n0_ n1_ n2_ n3_ n4_
        obtain ⟨Ao50, co50, eo50⟩ := Kd.N_slice HO_136008.out
        (first | subst eo50 | (injection eo50 with f1_ f2_ f3_; have f4_ := f1_.symm; have f5_ := f3_.symm; clear f1_ f2_ f3_; subst f4_; subst f5_))
        have p156 : 0 ≤ (1 : Int) := (by omega)
        have q156 : 1 < (x136008_1.length : Int) := of_decide_eq_true (by first | (with_reducible assumption) | assumption)
        obtain ⟨ad156, A156_8, c156_8, e156, hx156_0, hx156_1, hx156_2, hx156_3, hx156_4, hx156_5, hx156_6, hx156_7, hx156_8, hl156_8, hi156_8⟩ := at_T26 (Kd.N_reads' HO_136008.out).2.2 1 p156 q156
        cases e156
        obtain ⟨ce156, hce156, hMe156, hcc156⟩ := Kd.N_get HO_136008.out z26 1 p156 (by first | exact q156 | exact of_decide_eq_true (by first | (with_reducible assumption) | assumption) | (have e_ := (Kd.N_reads' HO_136008.out).1; omega))
        obtain ⟨ua156_8, uc156_8, rfl, ul156_8, ge156_8⟩ := k26_openF hMe156
        have hv156_8 := hcc156 8 _ rfl
        rw [add_field _ _ 8 (by omega)] at hv156_8
        replace hv156_8 := Option.some.inj (hv156_8.symm.trans hx156_8)
        injection hv156_8 with hva_ hvn_ hvc_
        rw [hva_] at ge156_8
        rw [hvc_] at ul156_8
        have HL156_8 := Asd.mk (show Kd.V k26 26 _ w.heap.size _ _ ((rd_T26 x136008_1 1).f6) from Kd.V_mk ul156_8 ge156_8)
        clear hva_ hvn_ hvc_ ge156_8 ul156_8 hcc156 hce156
        (try simp only [show (1 : Int).toNat = 1 from rfl, Nat.reduceMul, Nat.reduceEqDiff, Go.Addr.add, ↓reduceIte] at hx156_0)
        (try simp only [show (1 : Int).toNat = 1 from rfl, Nat.reduceMul, Nat.reduceEqDiff, Go.Addr.add, ↓reduceIte] at hx156_1)
        (try simp only [show (1 : Int).toNat = 1 from rfl, Nat.reduceMul, Nat.reduceEqDiff, Go.Addr.add, ↓reduceIte] at hx156_2)
        (try simp only [show (1 : Int).toNat = 1 from rfl, Nat.reduceMul, Nat.reduceEqDiff, Go.Addr.add, ↓reduceIte] at hx156_3)
        (try simp only [show (1 : Int).toNat = 1 from rfl, Nat.reduceMul, Nat.reduceEqDiff, Go.Addr.add, ↓reduceIte] at hx156_4)
        (try simp only [show (1 : Int).toNat = 1 from rfl, Nat.reduceMul, Nat.reduceEqDiff, Go.Addr.add, ↓reduceIte] at hx156_5)
        (try simp only [show (1 : Int).toNat = 1 from rfl, Nat.reduceMul, Nat.reduceEqDiff, Go.Addr.add, ↓reduceIte] at hx156_6)
        (try simp only [show (1 : Int).toNat = 1 from rfl, Nat.reduceMul, Nat.reduceEqDiff, Go.Addr.add, ↓reduceIte] at hx156_7)
        (try simp only [show (1 : Int).toNat = 1 from rfl, Nat.reduceMul, Nat.reduceEqDiff, Go.Addr.add, ↓reduceIte] at hx156_8)
        have qi156 : (1 < x136008_1.length) = True := eq_true (by omega)
        (try rw [show ((1 : Int)).toNat = 1 from rfl] at hx156_0)
        (try rw [show 1 * 9 = 9 from rfl] at hx156_0)
        (try rw [show ((1 : Int)).toNat = 1 from rfl] at hx156_1)
        (try rw [show 1 * 9 = 9 from rfl] at hx156_1)
        (try rw [show ((1 : Int)).toNat = 1 from rfl] at hx156_2)
        (try rw [show 1 * 9 = 9 from rfl] at hx156_2)
        (try rw [show ((1 : Int)).toNat = 1 from rfl] at hx156_3)
        (try rw [show 1 * 9 = 9 from rfl] at hx156_3)
        (try rw [show ((1 : Int)).toNat = 1 from rfl] at hx156_4)
        (try rw [show 1 * 9 = 9 from rfl] at hx156_4)
        (try rw [show ((1 : Int)).toNat = 1 from rfl] at hx156_5)
        (try rw [show 1 * 9 = 9 from rfl] at hx156_5)
        (try rw [show ((1 : Int)).toNat = 1 from rfl] at hx156_6)
        (try rw [show 1 * 9 = 9 from rfl] at hx156_6)
        (try rw [show ((1 : Int)).toNat = 1 from rfl] at hx156_7)
        (try rw [show 1 * 9 = 9 from rfl] at hx156_7)
        (try rw [show ((1 : Int)).toNat = 1 from rfl] at hx156_8)
        (try rw [show 1 * 9 = 9 from rfl] at hx156_8)
        have HR156_8 := Asd.mk hi156_8
        have HC156_8 := Asd.mk hl156_8
        clear hi156_8 hl156_8
        replace p156 := eq_true p156
        replace q156 := eq_true q156
        have p157 : 0 ≤ (0 : Int) := (by omega)
        have q157 : 0 < (x136008_1.length : Int) := of_decide_eq_true (by first | (with_reducible assumption) | assumption)
        obtain ⟨ad157, A157_8, c157_8, e157, hx157_0, hx157_1, hx157_2, hx157_3, hx157_4, hx157_5, hx157_6, hx157_7, hx157_8, hl157_8, hi157_8⟩ := at_T26 (Kd.N_reads' HO_136008.out).2.2 0 p157 q157
        obtain rfl : ad156 = ad157 := (by injection e157)
        obtain ⟨ce157, hce157, hMe157, hcc157⟩ := Kd.N_get HO_136008.out z26 0 p157 (by first | exact q157 | exact of_decide_eq_true (by first | (with_reducible assumption) | assumption) | (have e_ := (Kd.N_reads' HO_136008.out).1; omega))
        obtain ⟨ua157_8, uc157_8, rfl, ul157_8, ge157_8⟩ := k26_openF hMe157
        have hv157_8 := hcc157 8 _ rfl
        rw [add_field _ _ 8 (by omega)] at hv157_8
        replace hv157_8 := Option.some.inj (hv157_8.symm.trans hx157_8)
        injection hv157_8 with hva_ hvn_ hvc_
        rw [hva_] at ge157_8
        rw [hvc_] at ul157_8
        have HL157_8 := Asd.mk (show Kd.V k26 26 _ w.heap.size _ _ ((rd_T26 x136008_1 0).f6) from Kd.V_mk ul157_8 ge157_8)
        clear hva_ hvn_ hvc_ ge157_8 ul157_8 hcc157 hce157
        have qi157 : (0 < x136008_1.length) = True := eq_true (by omega)
        (try rw [show ((0 : Int)).toNat = 0 from rfl] at hx157_0)
        (try rw [show 0 * 9 = 0 from rfl] at hx157_0)
        (try rw [Addr.add_zero'] at hx157_0)
        (try rw [show ((0 : Int)).toNat = 0 from rfl] at hx157_1)
        (try rw [show 0 * 9 = 0 from rfl] at hx157_1)
        (try rw [Addr.add_zero'] at hx157_1)
        (try rw [show ((0 : Int)).toNat = 0 from rfl] at hx157_2)
        (try rw [show 0 * 9 = 0 from rfl] at hx157_2)
        (try rw [Addr.add_zero'] at hx157_2)
        (try rw [show ((0 : Int)).toNat = 0 from rfl] at hx157_3)
        (try rw [show 0 * 9 = 0 from rfl] at hx157_3)
        (try rw [Addr.add_zero'] at hx157_3)
        (try rw [show ((0 : Int)).toNat = 0 from rfl] at hx157_4)
        (try rw [show 0 * 9 = 0 from rfl] at hx157_4)
        (try rw [Addr.add_zero'] at hx157_4)
        (try rw [show ((0 : Int)).toNat = 0 from rfl] at hx157_5)
        (try rw [show 0 * 9 = 0 from rfl] at hx157_5)
        (try rw [Addr.add_zero'] at hx157_5)
        (try rw [show ((0 : Int)).toNat = 0 from rfl] at hx157_6)
        (try rw [show 0 * 9 = 0 from rfl] at hx157_6)
        (try rw [Addr.add_zero'] at hx157_6)
        (try rw [show ((0 : Int)).toNat = 0 from rfl] at hx157_7)
        (try rw [show 0 * 9 = 0 from rfl] at hx157_7)
        (try rw [Addr.add_zero'] at hx157_7)
        (try rw [show ((0 : Int)).toNat = 0 from rfl] at hx157_8)
        (try rw [show 0 * 9 = 0 from rfl] at hx157_8)
        (try rw [Addr.add_zero'] at hx157_8)
        have HR157_8 := Asd.mk hi157_8
        have HC157_8 := Asd.mk hl157_8
        clear hi157_8 hl157_8
        replace p157 := eq_true p157
        replace q157 := eq_true q157
        refine start_ (n := 11) (S := fun w' => w'.cell? ⟨gb135, 0, none⟩ = some (.int .i64 12) ∧ w'.cell? ⟨gb135, 1, none⟩ = some (.int .i64 a0_1) ∧ w'.cell? ⟨gb135, 2, none⟩ = some (.int .i64 a0_2) ∧ w'.cell? ⟨gb135, 3, none⟩ = some (.string a0_3) ∧ w'.cell? ⟨gb135, 4, none⟩ = some (.int .i64 a0_4) ∧ w'.cell? ⟨gb135, 5, none⟩ = some (.int .i64 a0_5) ∧ w'.cell? ⟨gb135, 6, none⟩ = some (.int .i64 a0_6) ∧ w'.cell? ⟨gb135, 7, none⟩ = some (.string a0_7) ∧ w'.cell? ⟨gb135, 8, none⟩ = some (.slice (some ad156) x136008_1.length co50) ∧ w'.cell? ⟨ad156.block, ad156.off + 9, none⟩ = some (.int .i64 ((rd_T26 x136008_1 1).f0)) ∧ w'.cell? ⟨ad156.block, ad156.off + 9 + 1, none⟩ = some (.int .i64 ((rd_T26 x136008_1 1).f1.f0)) ∧ w'.cell? ⟨ad156.block, ad156.off + 9 + 2, none⟩ = some (.int .i64 ((rd_T26 x136008_1 1).f1.f1)) ∧ w'.cell? ⟨ad156.block, ad156.off + 9 + 3, none⟩ = some (.string ((rd_T26 x136008_1 1).f1.f2)) ∧ w'.cell? ⟨ad156.block, ad156.off + 9 + 4, none⟩ = some (.int .i64 ((rd_T26 x136008_1 1).f2)) ∧ w'.cell? ⟨ad156.block, ad156.off + 9 + 5, none⟩ = some (.int .i64 ((rd_T26 x136008_1 1).f3)) ∧ w'.cell? ⟨ad156.block, ad156.off + 9 + 6, none⟩ = some (.int .i64 ((rd_T26 x136008_1 1).f4)) ∧ w'.cell? ⟨ad156.block, ad156.off + 9 + 7, none⟩ = some (.string ((rd_T26 x136008_1 1).f5)) ∧ w'.cell? ⟨ad156.block, ad156.off + 9 + 8, none⟩ = some (.slice A156_8 ((rd_T26 x136008_1 1).f6).length c156_8) ∧ w'.cell? ad156 = some (.int .i64 ((rd_T26 x136008_1 0).f0)) ∧ w'.cell? ⟨ad156.block, ad156.off + 1, none⟩ = some (.int .i64 ((rd_T26 x136008_1 0).f1.f0)) ∧ w'.cell? ⟨ad156.block, ad156.off + 2, none⟩ = some (.int .i64 ((rd_T26 x136008_1 0).f1.f1)) ∧ w'.cell? ⟨ad156.block, ad156.off + 3, none⟩ = some (.string ((rd_T26 x136008_1 0).f1.f2)) ∧ w'.cell? ⟨ad156.block, ad156.off + 4, none⟩ = some (.int .i64 ((rd_T26 x136008_1 0).f2)) ∧ w'.cell? ⟨ad156.block, ad156.off + 5, none⟩ = some (.int .i64 ((rd_T26 x136008_1 0).f3)) ∧ w'.cell? ⟨ad156.block, ad156.off + 6, none⟩ = some (.int .i64 ((rd_T26 x136008_1 0).f4)) ∧ w'.cell? ⟨ad156.block, ad156.off + 7, none⟩ = some (.string ((rd_T26 x136008_1 0).f5)) ∧ w'.cell? ⟨ad156.block, ad156.off + 8, none⟩ = some (.slice A157_8 ((rd_T26 x136008_1 0).f6).length c157_8)) (ds := [10]) #[false, false, false, false, false, false, false, false, false, false, false] (by kernel_rfl) rfl rfl ⟨(bkC BK135.out 0).trans rfl, (bkC BK135.out 1).trans rfl, (bkC BK135.out 2).trans rfl, (bkC BK135.out 3).trans rfl, (bkC BK135.out 4).trans rfl, (bkC BK135.out 5).trans rfl, (bkC BK135.out 6).trans rfl, (bkC BK135.out 7).trans rfl, (bkC BK135.out 8).trans rfl, hx156_0, hx156_1, hx156_2, hx156_3, hx156_4, hx156_5, hx156_6, hx156_7, hx156_8, hx157_0, hx157_1, hx157_2, hx157_3, hx157_4, hx157_5, hx157_6, hx157_7, hx157_8⟩ (fun hHeld => ?_); refine with_tabW q12_normal.tab23 q12_normal.bits23 (fun HT_ HW_ => ?_)
        generalize w48.drew = w49 at HO_136008 BK133 BK134 BK135 HB HL156_8 HL157_8 HR156_8 HR157_8 hx156_0 hx156_1 hx156_2 hx156_3 hx156_4 hx156_5 hx156_6 hx156_7 hx156_8 hx157_0 hx157_1 hx157_2 hx157_3 hx157_4 hx157_5 hx157_6 hx157_7 hx157_8 hHeld ⊢
        refine pure_ (i := 0) (N := some 53) (v := ?_) (a' := ?_) #[true, false, false, false, false, false, false, false, false, false, false] rfl rfl (any_of HT_.out (by kernel_rfl)) (fun _ _ _ h => h) (Or.inl ⟨by rfl, ?_⟩) ?_ ?_
        rotate_left
        ·intro w'
         go_simp
         with_reducible rfl
        rotate_left
        ·simp only [Act.put, List.setIfInBounds_toArray, List.set_cons_zero, List.set_cons_succ, i64_w, i32_w]
         rfl
        refine pure_ (i := 4) (N := some 57) (v := ?_) (a' := ?_) #[true, false, false, false, true, false, false, false, false, false, false] rfl rfl (any_of HT_.out (by kernel_rfl)) (fun _ _ _ h => h) (Or.inl ⟨by rfl, ?_⟩) ?_ ?_
        rotate_left
        ·intro w'
         go_simp
         with_reducible rfl
        rotate_left
        ·simp only [Act.put, List.setIfInBounds_toArray, List.set_cons_zero, List.set_cons_succ, i64_w, i32_w]
         rfl
        refine take_ (i := 1) (N := some 54) (v := ?_) (a' := ?_) #[true, true, false, false, true, false, false, false, false, false, false] rfl rfl (take_ofW HT_.out HW_.out (by kernel_rfl)) (fun _ _ _ h => h) (Or.inl ⟨by rfl, ?_⟩) hHeld ?_ ?_
        rotate_left
        ·rintro w' ⟨s0, s1, s2, s3, s4, s5, s6, s7, s8, s9, s10, s11, s12, s13, s14, s15, s16, s17, s18, s19, s20, s21, s22, s23, s24, s25, s26⟩
         go_simp
         with_reducible rfl
        rotate_left
        ·simp only [Act.put, List.setIfInBounds_toArray, List.set_cons_zero, List.set_cons_succ, i64_w, i32_w]
         rfl
        refine pure_ (i := 2) (N := some 55) (v := ?_) (a' := ?_) #[true, true, true, false, true, false, false, false, false, false, false] rfl rfl (any_of HT_.out (by kernel_rfl)) (fun _ _ _ h => h) (Or.inl ⟨by rfl, ?_⟩) ?_ ?_
        rotate_left
        ·intro w'
         go_simp
         with_reducible rfl
        rotate_left
        ·simp only [Act.put, List.setIfInBounds_toArray, List.set_cons_zero, List.set_cons_succ, i64_w, i32_w]
         rfl
        refine take_ (i := 3) (N := some 56) (v := ?_) (a' := ?_) #[true, true, true, true, true, false, false, false, false, false, false] rfl rfl (take_ofW HT_.out HW_.out (by kernel_rfl)) (fun _ _ _ h => h) (Or.inl ⟨by rfl, ?_⟩) hHeld ?_ ?_
        rotate_left
        ·rintro w' ⟨s0, s1, s2, s3, s4, s5, s6, s7, s8, s9, s10, s11, s12, s13, s14, s15, s16, s17, s18, s19, s20, s21, s22, s23, s24, s25, s26⟩
         go_simp
         with_reducible rfl
        rotate_left
        ·simp only [Act.put, List.setIfInBounds_toArray, List.set_cons_zero, List.set_cons_succ, i64_w, i32_w]
         rfl
        refine take_ (i := 5) (N := some 58) (v := ?_) (a' := ?_) #[true, true, true, true, true, true, false, false, false, false, false] rfl rfl (take_ofW HT_.out HW_.out (by kernel_rfl)) (fun _ _ _ h => h) (Or.inl ⟨by rfl, ?_⟩) hHeld ?_ ?_
        rotate_left
        ·rintro w' ⟨s0, s1, s2, s3, s4, s5, s6, s7, s8, s9, s10, s11, s12, s13, s14, s15, s16, s17, s18, s19, s20, s21, s22, s23, s24, s25, s26⟩
         go_simp
         with_reducible rfl
        rotate_left
        ·simp only [Act.put, List.setIfInBounds_toArray, List.set_cons_zero, List.set_cons_succ, i64_w, i32_w]
         rfl
        refine pure_ (i := 6) (N := some 59) (v := ?_) (a' := ?_) #[true, true, true, true, true, true, true, false, false, false, false] rfl rfl (any_of HT_.out (by kernel_rfl)) (fun _ _ _ h => h) (Or.inl ⟨by rfl, ?_⟩) ?_ ?_
        rotate_left
        ·intro w'
         go_simp
         with_reducible rfl
        rotate_left
        ·simp only [Act.put, List.setIfInBounds_toArray, List.set_cons_zero, List.set_cons_succ, i64_w, i32_w]
         rfl
        refine take_ (i := 7) (N := some 60) (v := ?_) (a' := ?_) #[true, true, true, true, true, true, true, true, false, false, false] rfl rfl (take_ofW HT_.out HW_.out (by kernel_rfl)) (fun _ _ _ h => h) (Or.inl ⟨by rfl, ?_⟩) hHeld ?_ ?_
        rotate_left
        ·rintro w' ⟨s0, s1, s2, s3, s4, s5, s6, s7, s8, s9, s10, s11, s12, s13, s14, s15, s16, s17, s18, s19, s20, s21, s22, s23, s24, s25, s26⟩
         go_simp
         with_reducible rfl
        rotate_left
        ·simp only [Act.put, List.setIfInBounds_toArray, List.set_cons_zero, List.set_cons_succ, i64_w, i32_w]
         rfl
        refine one_ (i := 8) (N := some 61) #[true, true, true, true, true, true, true, true, true, false, false] rfl rfl (one_of HT_.out (by kernel_rfl)) (by decide) (fun K hK => ?_)
        refine Kd.N_lit_step k26 _ 26 ?hg (N' := 61) ?hd (xs := ([(⟨(rd_T26 x136008_1 1).f0, (⟨(rd_T26 x136008_1 1).f1.f0, (rd_T26 x136008_1 1).f1.f1, (rd_T26 x136008_1 1).f1.f2⟩ : S23), (rd_T26 x136008_1 1).f2, (rd_T26 x136008_1 1).f3, (rd_T26 x136008_1 1).f4, (rd_T26 x136008_1 1).f5, (rd_T26 x136008_1 1).f6⟩ : S26), (⟨(rd_T26 x136008_1 0).f0, (⟨(rd_T26 x136008_1 0).f1.f0, (rd_T26 x136008_1 0).f1.f1, (rd_T26 x136008_1 0).f1.f2⟩ : S23), (rd_T26 x136008_1 0).f2, (rd_T26 x136008_1 0).f3, (rd_T26 x136008_1 0).f4, (rd_T26 x136008_1 0).f5, (rd_T26 x136008_1 0).f6⟩ : S26)] : List (S26))) (inner := [.int .i64 ((rd_T26 x136008_1 1).f0), .int .i64 ((rd_T26 x136008_1 1).f1.f0), .int .i64 ((rd_T26 x136008_1 1).f1.f1), .string ((rd_T26 x136008_1 1).f1.f2), .int .i64 ((rd_T26 x136008_1 1).f2), .int .i64 ((rd_T26 x136008_1 1).f3), .int .i64 ((rd_T26 x136008_1 1).f4), .string ((rd_T26 x136008_1 1).f5), .slice A156_8 ((rd_T26 x136008_1 1).f6).length c156_8, .int .i64 ((rd_T26 x136008_1 0).f0), .int .i64 ((rd_T26 x136008_1 0).f1.f0), .int .i64 ((rd_T26 x136008_1 0).f1.f1), .string ((rd_T26 x136008_1 0).f1.f2), .int .i64 ((rd_T26 x136008_1 0).f2), .int .i64 ((rd_T26 x136008_1 0).f3), .int .i64 ((rd_T26 x136008_1 0).f4), .string ((rd_T26 x136008_1 0).f5), .slice A157_8 ((rd_T26 x136008_1 0).f6).length c157_8]) (ok := (fun k_ => (w.heap.size ≤ k_) ∧ some k_ ≠ (.slice (some ad156) x136008_1.length co50 : Value).ownBlock ∧ k_ ≠ gb133 ∧ k_ ≠ gb134 ∧ k_ ≠ gb135)) (okp := (fun k_ => (w.heap.size ≤ k_) ∧ some k_ ≠ (.slice (some ad156) x136008_1.length co50 : Value).ownBlock ∧ k_ ≠ gb133 ∧ k_ ≠ gb134 ∧ k_ ≠ gb135)) ?hr ?hp (fun _ hk => hk) ((show ∀ k_, w49.heap.size ≤ k_ → (fun k_ => (w.heap.size ≤ k_) ∧ some k_ ≠ (.slice (some ad156) x136008_1.length co50 : Value).ownBlock ∧ k_ ≠ gb133 ∧ k_ ≠ gb134 ∧ k_ ≠ gb135) k_ from fun k_ hk => ⟨(Nat.le_trans (below_size (by repeat (first | (with_reducible first | exact HB.out | apply blA | apply pbN | apply blD | refine blS ?_ GE133.out | refine blS ?_ GE134.out | refine blS ?_ GE135.out) | exact HB.out))) hk), Kd.fresh' (Kd.N_lt (by (with_reducible repeat (first | apply Kd.N_alloc | apply Kd.N_drewN | apply Kd.N_drew)); exact HO_136008.out)) k_ hk, Kd.freshB (g := gb133) (o := .cells #[.int .i64 a0_0, .int .i64 a0_1, .int .i64 a0_2, .string a0_3, .int .i64 a0_4, .int .i64 a0_5, .int .i64 a0_6, .string a0_7, .slice A0_8 l0_8.length c0_8] 26 (0, 0)) (by exact BK133.out) k_ hk, Kd.freshB (g := gb134) (o := .cells #[.int .i64 0, .int .i64 0, .int .i64 0, .string (⟨#[]⟩ : ByteArray), .int .i64 0, .int .i64 0, .int .i64 0, .string (⟨#[]⟩ : ByteArray), .slice none 0 0] 26 (0, 0)) (by exact BK134.out) k_ hk, Kd.freshB (g := gb135) (o := .cells #[.int .i64 12, .int .i64 a0_1, .int .i64 a0_2, .string a0_3, .int .i64 a0_4, .int .i64 a0_5, .int .i64 a0_6, .string a0_7, .slice (some ad156) x136008_1.length co50] 26 (0, 0)) (by exact BK135.out) k_ hk⟩) _ (Nat.le_refl _)) (Below.refl _ _) (Nat.le_refl _) (by simp) ?_; (case hd => rfl); (case hg => rfl); (case hr => first | (go_simp; done) | (go_simp; rfl)); (case hp => exact (Reps.c9 (show Kd.FK k26 _ _ (⟨(rd_T26 x136008_1 1).f0, (⟨(rd_T26 x136008_1 1).f1.f0, (rd_T26 x136008_1 1).f1.f1, (rd_T26 x136008_1 1).f1.f2⟩ : S23), (rd_T26 x136008_1 1).f2, (rd_T26 x136008_1 1).f3, (rd_T26 x136008_1 1).f4, (rd_T26 x136008_1 1).f5, (rd_T26 x136008_1 1).f6⟩ : S26) [.int .i64 ((rd_T26 x136008_1 1).f0), .int .i64 ((rd_T26 x136008_1 1).f1.f0), .int .i64 ((rd_T26 x136008_1 1).f1.f1), .string ((rd_T26 x136008_1 1).f1.f2), .int .i64 ((rd_T26 x136008_1 1).f2), .int .i64 ((rd_T26 x136008_1 1).f3), .int .i64 ((rd_T26 x136008_1 1).f4), .string ((rd_T26 x136008_1 1).f5), .slice A156_8 ((rd_T26 x136008_1 1).f6).length c156_8] from (k26_mkF _ _ (⟨(rd_T26 x136008_1 1).f0, (⟨(rd_T26 x136008_1 1).f1.f0, (rd_T26 x136008_1 1).f1.f1, (rd_T26 x136008_1 1).f1.f2⟩ : S23), (rd_T26 x136008_1 1).f2, (rd_T26 x136008_1 1).f3, (rd_T26 x136008_1 1).f4, (rd_T26 x136008_1 1).f5, (rd_T26 x136008_1 1).f6⟩ : S26) (Kd.V_reads' (Kd.V_mono (ok' := (fun k_ => (w.heap.size ≤ k_) ∧ some k_ ≠ (.slice (some ad156) x136008_1.length co50 : Value).ownBlock ∧ k_ ≠ gb133 ∧ k_ ≠ gb134 ∧ k_ ≠ gb135)) (HL156_8.out) (fun k_ hk => ⟨hk.1.1, ⟨hk.2, ⟨hk.1.2.1, ⟨hk.1.2.2.1, hk.1.2.2.2⟩⟩⟩⟩))).2.1 (Kd.V_F (Kd.V_mono (ok' := (fun k_ => (w.heap.size ≤ k_) ∧ some k_ ≠ (.slice (some ad156) x136008_1.length co50 : Value).ownBlock ∧ k_ ≠ gb133 ∧ k_ ≠ gb134 ∧ k_ ≠ gb135)) (HL156_8.out) (fun k_ hk => ⟨hk.1.1, ⟨hk.2, ⟨hk.1.2.1, ⟨hk.1.2.2.1, hk.1.2.2.2⟩⟩⟩⟩))))) (Reps.c9 (show Kd.FK k26 _ _ (⟨(rd_T26 x136008_1 0).f0, (⟨(rd_T26 x136008_1 0).f1.f0, (rd_T26 x136008_1 0).f1.f1, (rd_T26 x136008_1 0).f1.f2⟩ : S23), (rd_T26 x136008_1 0).f2, (rd_T26 x136008_1 0).f3, (rd_T26 x136008_1 0).f4, (rd_T26 x136008_1 0).f5, (rd_T26 x136008_1 0).f6⟩ : S26) [.int .i64 ((rd_T26 x136008_1 0).f0), .int .i64 ((rd_T26 x136008_1 0).f1.f0), .int .i64 ((rd_T26 x136008_1 0).f1.f1), .string ((rd_T26 x136008_1 0).f1.f2), .int .i64 ((rd_T26 x136008_1 0).f2), .int .i64 ((rd_T26 x136008_1 0).f3), .int .i64 ((rd_T26 x136008_1 0).f4), .string ((rd_T26 x136008_1 0).f5), .slice A157_8 ((rd_T26 x136008_1 0).f6).length c157_8] from (k26_mkF _ _ (⟨(rd_T26 x136008_1 0).f0, (⟨(rd_T26 x136008_1 0).f1.f0, (rd_T26 x136008_1 0).f1.f1, (rd_T26 x136008_1 0).f1.f2⟩ : S23), (rd_T26 x136008_1 0).f2, (rd_T26 x136008_1 0).f3, (rd_T26 x136008_1 0).f4, (rd_T26 x136008_1 0).f5, (rd_T26 x136008_1 0).f6⟩ : S26) (Kd.V_reads' (Kd.V_mono (ok' := (fun k_ => (w.heap.size ≤ k_) ∧ some k_ ≠ (.slice (some ad156) x136008_1.length co50 : Value).ownBlock ∧ k_ ≠ gb133 ∧ k_ ≠ gb134 ∧ k_ ≠ gb135)) (HL157_8.out) (fun k_ hk => ⟨hk.1.1, ⟨hk.2, ⟨hk.1.2.1, ⟨hk.1.2.2.1, hk.1.2.2.2⟩⟩⟩⟩))).2.1 (Kd.V_F (Kd.V_mono (ok' := (fun k_ => (w.heap.size ≤ k_) ∧ some k_ ≠ (.slice (some ad156) x136008_1.length co50 : Value).ownBlock ∧ k_ ≠ gb133 ∧ k_ ≠ gb134 ∧ k_ ≠ gb135)) (HL157_8.out) (fun k_ hk => ⟨hk.1.1, ⟨hk.2, ⟨hk.1.2.1, ⟨hk.1.2.2.1, hk.1.2.2.2⟩⟩⟩⟩))))) (Reps.none _ _))))
        intro v159 w51 ho52 hb hg_ hnew_
        have HS9_ := (hb.cell (World.block_lt_of_cell? _ _ (hHeld.2.2.2.2.2.2.2.2.2.1))).trans (hHeld.2.2.2.2.2.2.2.2.2.1)
        have HS10_ := (hb.cell (World.block_lt_of_cell? _ _ (hHeld.2.2.2.2.2.2.2.2.2.2.1))).trans (hHeld.2.2.2.2.2.2.2.2.2.2.1)
        have HS11_ := (hb.cell (World.block_lt_of_cell? _ _ (hHeld.2.2.2.2.2.2.2.2.2.2.2.1))).trans (hHeld.2.2.2.2.2.2.2.2.2.2.2.1)
        have HS12_ := (hb.cell (World.block_lt_of_cell? _ _ (hHeld.2.2.2.2.2.2.2.2.2.2.2.2.1))).trans (hHeld.2.2.2.2.2.2.2.2.2.2.2.2.1)
        have HS13_ := (hb.cell (World.block_lt_of_cell? _ _ (hHeld.2.2.2.2.2.2.2.2.2.2.2.2.2.1))).trans (hHeld.2.2.2.2.2.2.2.2.2.2.2.2.2.1)
        have HS14_ := (hb.cell (World.block_lt_of_cell? _ _ (hHeld.2.2.2.2.2.2.2.2.2.2.2.2.2.2.1))).trans (hHeld.2.2.2.2.2.2.2.2.2.2.2.2.2.2.1)
        have HS15_ := (hb.cell (World.block_lt_of_cell? _ _ (hHeld.2.2.2.2.2.2.2.2.2.2.2.2.2.2.2.1))).trans (hHeld.2.2.2.2.2.2.2.2.2.2.2.2.2.2.2.1)
        have HS16_ := (hb.cell (World.block_lt_of_cell? _ _ (hHeld.2.2.2.2.2.2.2.2.2.2.2.2.2.2.2.2.1))).trans (hHeld.2.2.2.2.2.2.2.2.2.2.2.2.2.2.2.2.1)
        have HS17_ := (hb.cell (World.block_lt_of_cell? _ _ (hHeld.2.2.2.2.2.2.2.2.2.2.2.2.2.2.2.2.2.1))).trans (hHeld.2.2.2.2.2.2.2.2.2.2.2.2.2.2.2.2.2.1)
        have HS18_ := (hb.cell (World.block_lt_of_cell? _ _ (hHeld.2.2.2.2.2.2.2.2.2.2.2.2.2.2.2.2.2.2.1))).trans (hHeld.2.2.2.2.2.2.2.2.2.2.2.2.2.2.2.2.2.2.1)
        have HS19_ := (hb.cell (World.block_lt_of_cell? _ _ (hHeld.2.2.2.2.2.2.2.2.2.2.2.2.2.2.2.2.2.2.2.1))).trans (hHeld.2.2.2.2.2.2.2.2.2.2.2.2.2.2.2.2.2.2.2.1)
        have HS20_ := (hb.cell (World.block_lt_of_cell? _ _ (hHeld.2.2.2.2.2.2.2.2.2.2.2.2.2.2.2.2.2.2.2.2.1))).trans (hHeld.2.2.2.2.2.2.2.2.2.2.2.2.2.2.2.2.2.2.2.2.1)
        have HS21_ := (hb.cell (World.block_lt_of_cell? _ _ (hHeld.2.2.2.2.2.2.2.2.2.2.2.2.2.2.2.2.2.2.2.2.2.1))).trans (hHeld.2.2.2.2.2.2.2.2.2.2.2.2.2.2.2.2.2.2.2.2.2.1)
        have HS22_ := (hb.cell (World.block_lt_of_cell? _ _ (hHeld.2.2.2.2.2.2.2.2.2.2.2.2.2.2.2.2.2.2.2.2.2.2.1))).trans (hHeld.2.2.2.2.2.2.2.2.2.2.2.2.2.2.2.2.2.2.2.2.2.2.1)
        have HS23_ := (hb.cell (World.block_lt_of_cell? _ _ (hHeld.2.2.2.2.2.2.2.2.2.2.2.2.2.2.2.2.2.2.2.2.2.2.2.1))).trans (hHeld.2.2.2.2.2.2.2.2.2.2.2.2.2.2.2.2.2.2.2.2.2.2.2.1)
        have HS24_ := (hb.cell (World.block_lt_of_cell? _ _ (hHeld.2.2.2.2.2.2.2.2.2.2.2.2.2.2.2.2.2.2.2.2.2.2.2.2.1))).trans (hHeld.2.2.2.2.2.2.2.2.2.2.2.2.2.2.2.2.2.2.2.2.2.2.2.2.1)
        have HS25_ := (hb.cell (World.block_lt_of_cell? _ _ (hHeld.2.2.2.2.2.2.2.2.2.2.2.2.2.2.2.2.2.2.2.2.2.2.2.2.2.1))).trans (hHeld.2.2.2.2.2.2.2.2.2.2.2.2.2.2.2.2.2.2.2.2.2.2.2.2.2.1)
        have HS26_ := (hb.cell (World.block_lt_of_cell? _ _ (hHeld.2.2.2.2.2.2.2.2.2.2.2.2.2.2.2.2.2.2.2.2.2.2.2.2.2.2))).trans (hHeld.2.2.2.2.2.2.2.2.2.2.2.2.2.2.2.2.2.2.2.2.2.2.2.2.2.2)
        clear hg_ hnew_
        (first | rw [← Ny158.out] at ho52 | (simp only [Int.reduceToNat] at ho52; rw [← Ny158.out] at ho52))
        have n0_ := Asd.mk (Kd.N_elder' (by (with_reducible repeat (first | apply Kd.N_alloc | apply Kd.N_drewN | apply Kd.N_drew)); exact HO_136008.out) (Kd.N_base ho52) hb)
        have n1_ := Asd.mk (Kd.V_elder' (by (with_reducible repeat (first | apply Kd.V_alloc | apply Kd.V_drewN | apply Kd.V_drew)); exact HL156_8.out) (Kd.N_base ho52) hb)
        have n2_ := Asd.mk (Kd.V_elder' (by (with_reducible repeat (first | apply Kd.V_alloc | apply Kd.V_drewN | apply Kd.V_drew)); exact HL157_8.out) (Kd.N_base ho52) hb)
        have n3_ := Asd.mk (Kd.N_lower ho52 (below_size (by repeat (first | (with_reducible first | exact HB.out | apply blA | apply pbN | apply blD | refine blS ?_ GE133.out | refine blS ?_ GE134.out | refine blS ?_ GE135.out) | exact HB.out))))
        have n4_ := Asd.mk (bB hb BK133.out)
        have n5_ := Asd.mk (bB hb BK134.out)
        have n6_ := Asd.mk (bB hb BK135.out)
        have n7_ := Asd.mk (Kd.C_below (by repeat (first | (with_reducible exact HR156_8.out) | (with_reducible refine Kd.C_alloc ?_ _) | (with_reducible refine Kd.C_drewN ?_ _) | (with_reducible refine Kd.C_drew ?_) | exact HR156_8.out)) hb)
        have n8_ := Asd.mk (Kd.C_below (by repeat (first | (with_reducible exact HR157_8.out) | (with_reducible refine Kd.C_alloc ?_ _) | (with_reducible refine Kd.C_drewN ?_ _) | (with_reducible refine Kd.C_drew ?_) | exact HR157_8.out)) hb)
        have n9_ := Asd.mk (bS hb HB.out)
        clear HO_136008 HL156_8 HL157_8 BK133 BK134 BK135 HR156_8 HR157_8 HB
        have HO_136008 := n0_
        have HL156_8 := n1_
        have HL157_8 := n2_
        have HO160 := n3_
        have BK133 := n4_
        have BK134 := n5_
        have BK135 := n6_
        have HR156_8 := n7_
        have HR157_8 := n8_
        have HB := n9_
        clear n0_ n1_ n2_ n3_ n4_ n5_ n6_ n7_ n8_ n9_ hb ho52
        obtain ⟨Ao53, co53, eo53⟩ := Kd.N_slice HO160.out
        (first | subst eo53 | (injection eo53 with f1_ f2_ f3_; have f4_ := f1_.symm; have f5_ := f3_.symm; clear f1_ f2_ f3_; subst f4_; subst f5_))
        refine hK.out _ _ ⟨(bkC BK135.out 0).trans rfl, (bkC BK135.out 1).trans rfl, (bkC BK135.out 2).trans rfl, (bkC BK135.out 3).trans rfl, (bkC BK135.out 4).trans rfl, (bkC BK135.out 5).trans rfl, (bkC BK135.out 6).trans rfl, (bkC BK135.out 7).trans rfl, (bkC BK135.out 8).trans rfl, HS9_, HS10_, HS11_, HS12_, HS13_, HS14_, HS15_, HS16_, HS17_, HS18_, HS19_, HS20_, HS21_, HS22_, HS23_, HS24_, HS25_, HS26_⟩ (fun hHeld => ?_)
        clear hK K
        refine norm_ (a' := ?_) ?_ ?_
        rotate_left
        ·show Act.put _ (some 61) _ = _
         simp only [Act.put, List.setIfInBounds_toArray, List.set_cons_zero, List.set_cons_succ, i64_w, i32_w]
         rfl
        refine pure_ (i := 9) (N := some 62) (v := ?_) (a' := ?_) #[true, true, true, true, true, true, true, true, true, true, false] rfl rfl (any_of HT_.out (by kernel_rfl)) (fun _ _ _ h => h) (Or.inl ⟨by rfl, ?_⟩) ?_ ?_
        rotate_left
        ·intro w'
         go_simp
         with_reducible rfl
        rotate_left
        ·simp only [Act.put, List.setIfInBounds_toArray, List.set_cons_zero, List.set_cons_succ, i64_w, i32_w]
         rfl
        refine last_ (i := 10) (N := none) #[true, true, true, true, true, true, true, true, true, true, true] rfl rfl (one_of HT_.out (by kernel_rfl)) (by decide) (fun K hK => ?_)
        have hs54 : w51.cell? ⟨gb135, 8, none⟩ = some (.slice (some ad156) x136008_1.length co50) := (bkC BK135.out 8).trans rfl
        have hfs54 := bkF BK135.out 8
        have hns54_0 := NB133_135.out
        have hns54_1 := NB134_135.out
        have hms54_0 := NB135_133.out
        have hms54_1 := NB135_134.out
        refine skip_ (w1 := ?_) (by rfl) rfl ?_ ?_
        rotate_left
        ·go_simp
         rfl
        refine hK.out _ _ ?_
        clear hK K
        refine done_ (done_of HT_.out (by kernel_rfl)) ?_
        obtain ⟨hcz55_0, hcz55_1, hcz55_2, hcz55_3, hcz55_4, hcz55_5, hcz55_6, hcz55_7, hcz55_8⟩ := bkC9 BK135.out
        obtain ⟨hfz55_0, hfz55_1, hfz55_2, hfz55_3, hfz55_4, hfz55_5, hfz55_6, hfz55_7, hfz55_8⟩ := bkF9 BK135.out
        obtain ⟨hcz56_0, hcz56_1, hcz56_2, hcz56_3, hcz56_4, hcz56_5, hcz56_6, hcz56_7, hcz56_8⟩ := bkC9 BK134.out
        obtain ⟨hfz56_0, hfz56_1, hfz56_2, hfz56_3, hfz56_4, hfz56_5, hfz56_6, hfz56_7, hfz56_8⟩ := bkF9 BK134.out
        try go_wp2
        refine bodyPost_ret (results_cell_row rfl _ _ gb134 26 #[.int .i64 12, .int .i64 a0_1, .int .i64 a0_2, .string a0_3, .int .i64 a0_4, .int .i64 a0_5, .int .i64 a0_6, .string a0_7, .slice Ao53 y158.length co53] (0, 0) _ rfl (by refine blk_put (cs := #[.int .i64 12, .int .i64 a0_1, .int .i64 a0_2, .string a0_3, .int .i64 a0_4, .int .i64 a0_5, .int .i64 a0_6, .string a0_7, .slice none 0 0]) ?_ 8 _ rfl; refine blk_put (cs := #[.int .i64 12, .int .i64 a0_1, .int .i64 a0_2, .string a0_3, .int .i64 a0_4, .int .i64 a0_5, .int .i64 a0_6, .string (⟨#[]⟩ : ByteArray), .slice none 0 0]) ?_ 7 _ rfl; refine blk_put (cs := #[.int .i64 12, .int .i64 a0_1, .int .i64 a0_2, .string a0_3, .int .i64 a0_4, .int .i64 a0_5, .int .i64 0, .string (⟨#[]⟩ : ByteArray), .slice none 0 0]) ?_ 6 _ rfl; refine blk_put (cs := #[.int .i64 12, .int .i64 a0_1, .int .i64 a0_2, .string a0_3, .int .i64 a0_4, .int .i64 0, .int .i64 0, .string (⟨#[]⟩ : ByteArray), .slice none 0 0]) ?_ 5 _ rfl; refine blk_put (cs := #[.int .i64 12, .int .i64 a0_1, .int .i64 a0_2, .string a0_3, .int .i64 0, .int .i64 0, .int .i64 0, .string (⟨#[]⟩ : ByteArray), .slice none 0 0]) ?_ 4 _ rfl; refine blk_put (cs := #[.int .i64 12, .int .i64 a0_1, .int .i64 a0_2, .string (⟨#[]⟩ : ByteArray), .int .i64 0, .int .i64 0, .int .i64 0, .string (⟨#[]⟩ : ByteArray), .slice none 0 0]) ?_ 3 _ rfl; refine blk_put (cs := #[.int .i64 12, .int .i64 a0_1, .int .i64 0, .string (⟨#[]⟩ : ByteArray), .int .i64 0, .int .i64 0, .int .i64 0, .string (⟨#[]⟩ : ByteArray), .slice none 0 0]) ?_ 2 _ rfl; refine blk_put (cs := #[.int .i64 12, .int .i64 0, .int .i64 0, .string (⟨#[]⟩ : ByteArray), .int .i64 0, .int .i64 0, .int .i64 0, .string (⟨#[]⟩ : ByteArray), .slice none 0 0]) ?_ 1 _ rfl; refine blk_put (cs := #[.int .i64 0, .int .i64 0, .int .i64 0, .string (⟨#[]⟩ : ByteArray), .int .i64 0, .int .i64 0, .int .i64 0, .string (⟨#[]⟩ : ByteArray), .slice none 0 0]) ?_ 0 _ rfl; (with_reducible repeat (first | refine bkN ?_ _ | refine bkD ?_ | refine bkA ?_ _)); refine blk_far ?_ NB134_135.out _; exact BK134.out) Tryd.underlying26 rfl (by kernel_rfl)) rfl ?_
        exact ⟨_, by first | rfl | (simp [errW_none, errW_some] <;> rfl) | (simp [*, errW_none, errW_some] <;> rfl), by (with_reducible repeat (first | apply Kd.N_alloc | apply Kd.N_drewN | apply Kd.N_drew)); exact Kd.N_mono (Kd.N_far (p := ⟨gb134, 8, none⟩) (Kd.N_far (p := ⟨gb134, 7, none⟩) (Kd.N_far (p := ⟨gb134, 6, none⟩) (Kd.N_far (p := ⟨gb134, 5, none⟩) (Kd.N_far (p := ⟨gb134, 4, none⟩) (Kd.N_far (p := ⟨gb134, 3, none⟩) (Kd.N_far (p := ⟨gb134, 2, none⟩) (Kd.N_far (p := ⟨gb134, 1, none⟩) (Kd.N_far (p := ⟨gb134, 0, none⟩) (Kd.N_far (p := ⟨gb135, 8, none⟩) (Kd.N_mono (Kd.N_mono HO160.out (fun k_ hk => (⟨hk, hk.2.2.2.2⟩ : _ ∧ k_ ≠ gb135))) (fun k_ hk => (⟨hk, hk.1.2.2.2.1⟩ : _ ∧ k_ ≠ gb134))) (fun _ hk => hk.1.2) (.slice Ao53 y158.length co53)) (fun _ hk => hk.2) (.int .i64 12)) (fun _ hk => hk.2) (.int .i64 a0_1)) (fun _ hk => hk.2) (.int .i64 a0_2)) (fun _ hk => hk.2) (.string a0_3)) (fun _ hk => hk.2) (.int .i64 a0_4)) (fun _ hk => hk.2) (.int .i64 a0_5)) (fun _ hk => hk.2) (.int .i64 a0_6)) (fun _ hk => hk.2) (.string a0_7)) (fun _ hk => hk.2) (.slice Ao53 y158.length co53)) (fun _ hk => hk.1.1.1), by repeat (first | (with_reducible first | exact HB.out | apply blA | apply pbN | apply blD | refine blS ?_ GE133.out | refine blS ?_ GE134.out | refine blS ?_ GE135.out) | exact HB.out)⟩
       ·rw [if_neg c42] at H
        exact absurd H (by simp)
      ·rw [if_neg c41] at H
       exact absurd H (by simp)
     ·rw [if_neg c40] at H
      have c40b0 : (a0_0 == 14) = false := beq_eq_false_iff_ne.mpr c40
      have c40b1 : (a0_0 != 14) = true := bne_iff_ne.mpr c40
      have HC57 := Asd.mk H
      clear H
      have hnb58 := NB133_134.out
      have hnc58 := NB134_133.out
      have hnb59 := NB133_135.out
      have hnc59 := NB135_133.out
      obtain ⟨hcz60_0, hcz60_1, hcz60_2, hcz60_3, hcz60_4, hcz60_5, hcz60_6, hcz60_7, hcz60_8⟩ := bkC9 BK133.out
      obtain ⟨hfz60_0, hfz60_1, hfz60_2, hfz60_3, hfz60_4, hfz60_5, hfz60_6, hfz60_7, hfz60_8⟩ := bkF9 BK133.out
      have hnb61 := NB135_134.out
      have hnc61 := NB134_135.out
      obtain ⟨hcz62_0, hcz62_1, hcz62_2, hcz62_3, hcz62_4, hcz62_5, hcz62_6, hcz62_7, hcz62_8⟩ := bkC9 BK135.out
      obtain ⟨hfz62_0, hfz62_1, hfz62_2, hfz62_3, hfz62_4, hfz62_5, hfz62_6, hfz62_7, hfz62_8⟩ := bkF9 BK135.out
      go_upto_if 34 with (fail)
      go_cut [34] (fun v34 wc => ∃ (kq : Nat) (x34_56 : Bool), v34 = .bool x34_56 ∧ Asd (q12_normal.j1 kq false x34_56 a0_0 a0_1 a0_2 a0_3 a0_4 a0_5 a0_6 a0_7 x136008_1 = some (r1, r2, r3, r4, r5, r6, r7, r8, r9)) ∧ Asd (kq ≤ k1) ∧ Asd (Kd.N k26 26 wc w.heap.size (fun k_ => (w.heap.size ≤ k_) ∧ k_ ≠ gb133 ∧ k_ ≠ gb134 ∧ k_ ≠ gb135) u136008 x136008_1) ∧ Asd (wc.heap[gb133]? = some (.cells #[.int .i64 a0_0, .int .i64 a0_1, .int .i64 a0_2, .string a0_3, .int .i64 a0_4, .int .i64 a0_5, .int .i64 a0_6, .string a0_7, (.slice A0_8 l0_8.length c0_8)] 26 (0, 0))) ∧ Asd (wc.heap[gb134]? = some (.cells #[.int .i64 0, .int .i64 0, .int .i64 0, .string (⟨#[]⟩ : ByteArray), .int .i64 0, .int .i64 0, .int .i64 0, .string (⟨#[]⟩ : ByteArray), (.slice none 0 0)] 26 (0, 0))) ∧ Asd (wc.heap[gb135]? = some (.cells #[.int .i64 a0_0, .int .i64 a0_1, .int .i64 a0_2, .string a0_3, .int .i64 a0_4, .int .i64 a0_5, .int .i64 a0_6, .string a0_7, u136008] 26 (0, 0))) ∧ Asd (Below w.heap.size w wc))
      case first =>
       have H := HC57.out
       clear HC57
       by_cases c63 : a0_0 = 4
       ·rw [if_pos c63] at H
        have c63b0 : (a0_0 == 4) = true := beq_iff_eq.mpr c63
        have c63b1 : (a0_0 != 4) = false := bne_eq_false_iff_eq.mpr c63
        clear c63
        (first | rw [c63b0] | (simp only [i64_w, i32_w]; rw [c63b0]) | skip)
        have H' := Asd.mk H
        clear H
        go_wp2
        go_meet
        case rel => exact ⟨_, ((a0_0 == 4)), (by first | rfl | (simp; done) | (simp [*]; done)), H', ⟨by have := HK1.out; first | omega | exact Nat.le_refl _⟩, ⟨by (with_reducible repeat (first | apply Kd.N_alloc | apply Kd.N_drewN | apply Kd.N_drew)); exact HO_136008.out⟩, ⟨by exact BK133.out⟩, ⟨by exact BK134.out⟩, ⟨by exact BK135.out⟩, ⟨by repeat (first | (with_reducible first | exact HB.out | apply blA | apply pbN | apply blD | refine blS ?_ GE133.out | refine blS ?_ GE134.out | refine blS ?_ GE135.out) | exact HB.out)⟩⟩
       ·rw [if_neg c63] at H
        have c63b0 : (a0_0 == 4) = false := beq_eq_false_iff_ne.mpr c63
        have c63b1 : (a0_0 != 4) = true := bne_iff_ne.mpr c63
        (first | rw [c63b0] | (simp only [i64_w, i32_w]; rw [c63b0]) | skip)
        by_cases c64 : a0_0 = 6
        ·rw [if_pos c64] at H
         have c64b0 : (a0_0 == 6) = true := beq_iff_eq.mpr c64
         have c64b1 : (a0_0 != 6) = false := bne_eq_false_iff_eq.mpr c64
         clear c64
         have H' := Asd.mk H
         clear H
         go_wp2
         go_meet
         case rel => exact ⟨_, ((a0_0 == 6)), (by first | rfl | (simp; done) | (simp [*]; done)), H', ⟨by have := HK1.out; first | omega | exact Nat.le_refl _⟩, ⟨by (with_reducible repeat (first | apply Kd.N_alloc | apply Kd.N_drewN | apply Kd.N_drew)); exact HO_136008.out⟩, ⟨by exact BK133.out⟩, ⟨by exact BK134.out⟩, ⟨by exact BK135.out⟩, ⟨by repeat (first | (with_reducible first | exact HB.out | apply blA | apply pbN | apply blD | refine blS ?_ GE133.out | refine blS ?_ GE134.out | refine blS ?_ GE135.out) | exact HB.out)⟩⟩
        ·rw [if_neg c64] at H
         have c64b0 : (a0_0 == 6) = false := beq_eq_false_iff_ne.mpr c64
         have c64b1 : (a0_0 != 6) = true := bne_iff_ne.mpr c64
         by_cases c65 : a0_0 = 9
         ·rw [if_pos c65] at H
          have c65b0 : (a0_0 == 9) = true := beq_iff_eq.mpr c65
          have c65b1 : (a0_0 != 9) = false := bne_eq_false_iff_eq.mpr c65
          clear c65
          have H' := Asd.mk H
          clear H
          go_wp2
          go_meet
          case rel => exact ⟨_, ((a0_0 == 9)), (by first | rfl | (simp; done) | (simp [*]; done)), H', ⟨by have := HK1.out; first | omega | exact Nat.le_refl _⟩, ⟨by (with_reducible repeat (first | apply Kd.N_alloc | apply Kd.N_drewN | apply Kd.N_drew)); exact HO_136008.out⟩, ⟨by exact BK133.out⟩, ⟨by exact BK134.out⟩, ⟨by exact BK135.out⟩, ⟨by repeat (first | (with_reducible first | exact HB.out | apply blA | apply pbN | apply blD | refine blS ?_ GE133.out | refine blS ?_ GE134.out | refine blS ?_ GE135.out) | exact HB.out)⟩⟩
         ·rw [if_neg c65] at H
          have c65b0 : (a0_0 == 9) = false := beq_eq_false_iff_ne.mpr c65
          have c65b1 : (a0_0 != 9) = true := bne_iff_ne.mpr c65
          by_cases c66 : a0_0 = 10
          ·rw [if_pos c66] at H
           have c66b0 : (a0_0 == 10) = true := beq_iff_eq.mpr c66
           have c66b1 : (a0_0 != 10) = false := bne_eq_false_iff_eq.mpr c66
           clear c66
           have H' := Asd.mk H
           clear H
           go_wp2
           go_meet
           case rel => exact ⟨_, ((a0_0 == 10)), (by first | rfl | (simp; done) | (simp [*]; done)), H', ⟨by have := HK1.out; first | omega | exact Nat.le_refl _⟩, ⟨by (with_reducible repeat (first | apply Kd.N_alloc | apply Kd.N_drewN | apply Kd.N_drew)); exact HO_136008.out⟩, ⟨by exact BK133.out⟩, ⟨by exact BK134.out⟩, ⟨by exact BK135.out⟩, ⟨by repeat (first | (with_reducible first | exact HB.out | apply blA | apply pbN | apply blD | refine blS ?_ GE133.out | refine blS ?_ GE134.out | refine blS ?_ GE135.out) | exact HB.out)⟩⟩
          ·rw [if_neg c66] at H
           have c66b0 : (a0_0 == 10) = false := beq_eq_false_iff_ne.mpr c66
           have c66b1 : (a0_0 != 10) = true := bne_iff_ne.mpr c66
           by_cases c67 : a0_0 = 15
           ·rw [if_pos c67] at H
            have c67b0 : (a0_0 == 15) = true := beq_iff_eq.mpr c67
            have c67b1 : (a0_0 != 15) = false := bne_eq_false_iff_eq.mpr c67
            clear c67
            have H' := Asd.mk H
            clear H
            go_wp2
            go_meet
            case rel => exact ⟨_, ((a0_0 == 15)), (by first | rfl | (simp; done) | (simp [*]; done)), H', ⟨by have := HK1.out; first | omega | exact Nat.le_refl _⟩, ⟨by (with_reducible repeat (first | apply Kd.N_alloc | apply Kd.N_drewN | apply Kd.N_drew)); exact HO_136008.out⟩, ⟨by exact BK133.out⟩, ⟨by exact BK134.out⟩, ⟨by exact BK135.out⟩, ⟨by repeat (first | (with_reducible first | exact HB.out | apply blA | apply pbN | apply blD | refine blS ?_ GE133.out | refine blS ?_ GE134.out | refine blS ?_ GE135.out) | exact HB.out)⟩⟩
           ·rw [if_neg c67] at H
            have c67b0 : (a0_0 == 15) = false := beq_eq_false_iff_ne.mpr c67
            have c67b1 : (a0_0 != 15) = true := bne_iff_ne.mpr c67
            have H' := Asd.mk H
            clear H
            go_wp2
            go_meet
            case rel => exact ⟨_, ((a0_0 == 16)), (by first | rfl | (simp; done) | (simp [*]; done)), H', ⟨by have := HK1.out; first | omega | exact Nat.le_refl _⟩, ⟨by (with_reducible repeat (first | apply Kd.N_alloc | apply Kd.N_drewN | apply Kd.N_drew)); exact HO_136008.out⟩, ⟨by exact BK133.out⟩, ⟨by exact BK134.out⟩, ⟨by exact BK135.out⟩, ⟨by repeat (first | (with_reducible first | exact HB.out | apply blA | apply pbN | apply blD | refine blS ?_ GE133.out | refine blS ?_ GE134.out | refine blS ?_ GE135.out) | exact HB.out)⟩⟩
      case rest =>
       clear HC57
       try clear c1
       try clear p1
       try clear q1
       try clear hx1
       try clear qi1
       try clear c2
       try clear p2
       try clear c4
       try clear c5
       try clear c6
       try clear c9
       try clear c15
       try clear p15
       try clear q15
       try clear hx15
       try clear qi15
       try clear c23
       try clear c23b0
       try clear c23b1
       try clear c24
       try clear c25
       try clear c40
       try clear c40b0
       try clear c40b1
       try clear c41
       try clear c41b0
       try clear c41b1
       try clear c42
       try clear c42b0
       try clear c42b1
       try clear c43
       try clear c44
       try clear c46
       try clear c58
       try clear c59
       try clear c61
       try clear c63
       try clear c63b0
       try clear c63b1
       try clear c64
       try clear c64b0
       try clear c64b1
       try clear c65
       try clear c65b0
       try clear c65b1
       try clear c66
       try clear c66b0
       try clear c66b1
       try clear c67
       try clear c67b0
       try clear c67b1
       try clear hcz38_0
       try clear hcz38_1
       try clear hcz38_2
       try clear hcz38_3
       try clear hcz38_4
       try clear hcz38_5
       try clear hcz38_6
       try clear hcz38_7
       try clear hcz38_8
       try clear hcz39_0
       try clear hcz39_1
       try clear hcz39_2
       try clear hcz39_3
       try clear hcz39_4
       try clear hcz39_5
       try clear hcz39_6
       try clear hcz39_7
       try clear hcz39_8
       try clear hcz45_0
       try clear hcz45_1
       try clear hcz45_2
       try clear hcz45_3
       try clear hcz45_4
       try clear hcz45_5
       try clear hcz45_6
       try clear hcz45_7
       try clear hcz45_8
       try clear hcz47_0
       try clear hcz47_1
       try clear hcz47_2
       try clear hcz47_3
       try clear hcz47_4
       try clear hcz47_5
       try clear hcz47_6
       try clear hcz47_7
       try clear hcz47_8
       try clear hcz55_0
       try clear hcz55_1
       try clear hcz55_2
       try clear hcz55_3
       try clear hcz55_4
       try clear hcz55_5
       try clear hcz55_6
       try clear hcz55_7
       try clear hcz55_8
       try clear hcz56_0
       try clear hcz56_1
       try clear hcz56_2
       try clear hcz56_3
       try clear hcz56_4
       try clear hcz56_5
       try clear hcz56_6
       try clear hcz56_7
       try clear hcz56_8
       try clear hcz60_0
       try clear hcz60_1
       try clear hcz60_2
       try clear hcz60_3
       try clear hcz60_4
       try clear hcz60_5
       try clear hcz60_6
       try clear hcz60_7
       try clear hcz60_8
       try clear hcz62_0
       try clear hcz62_1
       try clear hcz62_2
       try clear hcz62_3
       try clear hcz62_4
       try clear hcz62_5
       try clear hcz62_6
       try clear hcz62_7
       try clear hcz62_8
       try clear hfz38_0
       try clear hfz38_1
       try clear hfz38_2
       try clear hfz38_3
       try clear hfz38_4
       try clear hfz38_5
       try clear hfz38_6
       try clear hfz38_7
       try clear hfz38_8
       try clear hfz39_0
       try clear hfz39_1
       try clear hfz39_2
       try clear hfz39_3
       try clear hfz39_4
       try clear hfz39_5
       try clear hfz39_6
       try clear hfz39_7
       try clear hfz39_8
       try clear hfz45_0
       try clear hfz45_1
       try clear hfz45_2
       try clear hfz45_3
       try clear hfz45_4
       try clear hfz45_5
       try clear hfz45_6
       try clear hfz45_7
       try clear hfz45_8
       try clear hfz47_0
       try clear hfz47_1
       try clear hfz47_2
       try clear hfz47_3
       try clear hfz47_4
       try clear hfz47_5
       try clear hfz47_6
       try clear hfz47_7
       try clear hfz47_8
       try clear hfz55_0
       try clear hfz55_1
       try clear hfz55_2
       try clear hfz55_3
       try clear hfz55_4
       try clear hfz55_5
       try clear hfz55_6
       try clear hfz55_7
       try clear hfz55_8
       try clear hfz56_0
       try clear hfz56_1
       try clear hfz56_2
       try clear hfz56_3
       try clear hfz56_4
       try clear hfz56_5
       try clear hfz56_6
       try clear hfz56_7
       try clear hfz56_8
       try clear hfz60_0
       try clear hfz60_1
       try clear hfz60_2
       try clear hfz60_3
       try clear hfz60_4
       try clear hfz60_5
       try clear hfz60_6
       try clear hfz60_7
       try clear hfz60_8
       try clear hfz62_0
       try clear hfz62_1
       try clear hfz62_2
       try clear hfz62_3
       try clear hfz62_4
       try clear hfz62_5
       try clear hfz62_6
       try clear hfz62_7
       try clear hfz62_8
       try clear hx156_0
       try clear hx156_1
       try clear hx156_2
       try clear hx156_3
       try clear hx156_4
       try clear hx156_5
       try clear hx156_6
       try clear hx156_7
       try clear hx156_8
       try clear hx157_0
       try clear hx157_1
       try clear hx157_2
       try clear hx157_3
       try clear hx157_4
       try clear hx157_5
       try clear hx157_6
       try clear hx157_7
       try clear hx157_8
       try clear p156
       try clear p157
       try clear q156
       try clear q157
       obtain ⟨kq, x34_56, rfl, HA, HJ56, HO_136008, BK133, BK134, BK135, HB⟩ := hcut
       cases kq with
       | zero => exact absurd HA.out (by simp [q12_normal.j1])
       | succ kj56 =>
        have H := HA.out
        clear HA
        simp only [q12_normal.j1] at H
        by_cases c68 : x34_56 = true
        ·subst c68
         have H1 : (if 1 < (x136008_1.length : Int) then ((q08_Print.f ((rd_T26 x136008_1 1).f0) ((rd_T26 x136008_1 1).f1.f0) ((rd_T26 x136008_1 1).f1.f1) ((rd_T26 x136008_1 1).f1.f2) ((rd_T26 x136008_1 1).f2) ((rd_T26 x136008_1 1).f3) ((rd_T26 x136008_1 1).f4) ((rd_T26 x136008_1 1).f5) ((rd_T26 x136008_1 1).f6)).bind fun t162 => (if 0 < (x136008_1.length : Int) then ((q08_Print.f ((rd_T26 x136008_1 0).f0) ((rd_T26 x136008_1 0).f1.f0) ((rd_T26 x136008_1 0).f1.f1) ((rd_T26 x136008_1 0).f1.f2) ((rd_T26 x136008_1 0).f2) ((rd_T26 x136008_1 0).f3) ((rd_T26 x136008_1 0).f4) ((rd_T26 x136008_1 0).f5) ((rd_T26 x136008_1 0).f6)).bind fun t164 => (if (Op.bytesLess t162.toList t164.toList) = true then (some (a0_0, a0_1, a0_2, a0_3, a0_4, a0_5, a0_6, a0_7, (([(⟨(rd_T26 x136008_1 1).f0, (⟨(rd_T26 x136008_1 1).f1.f0, (rd_T26 x136008_1 1).f1.f1, (rd_T26 x136008_1 1).f1.f2⟩ : S23), (rd_T26 x136008_1 1).f2, (rd_T26 x136008_1 1).f3, (rd_T26 x136008_1 1).f4, (rd_T26 x136008_1 1).f5, (rd_T26 x136008_1 1).f6⟩ : S26), (⟨(rd_T26 x136008_1 0).f0, (⟨(rd_T26 x136008_1 0).f1.f0, (rd_T26 x136008_1 0).f1.f1, (rd_T26 x136008_1 0).f1.f2⟩ : S23), (rd_T26 x136008_1 0).f2, (rd_T26 x136008_1 0).f3, (rd_T26 x136008_1 0).f4, (rd_T26 x136008_1 0).f5, (rd_T26 x136008_1 0).f6⟩ : S26)] : List (S26))))) else (some (a0_0, a0_1, a0_2, a0_3, a0_4, a0_5, a0_6, a0_7, x136008_1)))) else (none))) else (none)) = some (r1, r2, r3, r4, r5, r6, r7, r8, r9) := by rw [if_pos rfl] at H; exact H
         clear H
         have H := H1
         clear H1
         by_cases c69 : 1 < (x136008_1.length : Int)
         ·rw [if_pos c69] at H
          have c69b0 : decide (1 < (x136008_1.length : Int)) = true := decide_eq_true c69
          have c69b1 : decide (1 < x136008_1.length) = true := decide_eq_true (by omega)
          clear c69
          replace H := Option.bind_eq_some_iff.mp H
          obtain ⟨t162, A700, H⟩ := H
          replace H : (if 0 < (x136008_1.length : Int) then ((q08_Print.f ((rd_T26 x136008_1 0).f0) ((rd_T26 x136008_1 0).f1.f0) ((rd_T26 x136008_1 0).f1.f1) ((rd_T26 x136008_1 0).f1.f2) ((rd_T26 x136008_1 0).f2) ((rd_T26 x136008_1 0).f3) ((rd_T26 x136008_1 0).f4) ((rd_T26 x136008_1 0).f5) ((rd_T26 x136008_1 0).f6)).bind fun t164 => (if (Op.bytesLess t162.toList t164.toList) = true then (some (a0_0, a0_1, a0_2, a0_3, a0_4, a0_5, a0_6, a0_7, (([(⟨(rd_T26 x136008_1 1).f0, (⟨(rd_T26 x136008_1 1).f1.f0, (rd_T26 x136008_1 1).f1.f1, (rd_T26 x136008_1 1).f1.f2⟩ : S23), (rd_T26 x136008_1 1).f2, (rd_T26 x136008_1 1).f3, (rd_T26 x136008_1 1).f4, (rd_T26 x136008_1 1).f5, (rd_T26 x136008_1 1).f6⟩ : S26), (⟨(rd_T26 x136008_1 0).f0, (⟨(rd_T26 x136008_1 0).f1.f0, (rd_T26 x136008_1 0).f1.f1, (rd_T26 x136008_1 0).f1.f2⟩ : S23), (rd_T26 x136008_1 0).f2, (rd_T26 x136008_1 0).f3, (rd_T26 x136008_1 0).f4, (rd_T26 x136008_1 0).f5, (rd_T26 x136008_1 0).f6⟩ : S26)] : List (S26))))) else (some (a0_0, a0_1, a0_2, a0_3, a0_4, a0_5, a0_6, a0_7, x136008_1)))) else (none)) = some (r1, r2, r3, r4, r5, r6, r7, r8, r9) := H
          have A70 := Asd.mk A700
          clear A700
          by_cases c71 : 0 < (x136008_1.length : Int)
          ·rw [if_pos c71] at H
           have c71b0 : decide (0 < (x136008_1.length : Int)) = true := decide_eq_true c71
           have c71b1 : decide (0 < x136008_1.length) = true := decide_eq_true (by omega)
           clear c71
           replace H := Option.bind_eq_some_iff.mp H
           obtain ⟨t164, A720, H⟩ := H
           replace H : (if (Op.bytesLess t162.toList t164.toList) = true then (some (a0_0, a0_1, a0_2, a0_3, a0_4, a0_5, a0_6, a0_7, (([(⟨(rd_T26 x136008_1 1).f0, (⟨(rd_T26 x136008_1 1).f1.f0, (rd_T26 x136008_1 1).f1.f1, (rd_T26 x136008_1 1).f1.f2⟩ : S23), (rd_T26 x136008_1 1).f2, (rd_T26 x136008_1 1).f3, (rd_T26 x136008_1 1).f4, (rd_T26 x136008_1 1).f5, (rd_T26 x136008_1 1).f6⟩ : S26), (⟨(rd_T26 x136008_1 0).f0, (⟨(rd_T26 x136008_1 0).f1.f0, (rd_T26 x136008_1 0).f1.f1, (rd_T26 x136008_1 0).f1.f2⟩ : S23), (rd_T26 x136008_1 0).f2, (rd_T26 x136008_1 0).f3, (rd_T26 x136008_1 0).f4, (rd_T26 x136008_1 0).f5, (rd_T26 x136008_1 0).f6⟩ : S26)] : List (S26))))) else (some (a0_0, a0_1, a0_2, a0_3, a0_4, a0_5, a0_6, a0_7, x136008_1))) = some (r1, r2, r3, r4, r5, r6, r7, r8, r9) := H
           have A72 := Asd.mk A720
           clear A720
           by_cases c73 : (Op.bytesLess t162.toList t164.toList) = true
           ·rw [if_pos c73] at H
            have c73b0 : (Op.bytesLess t162.toList t164.toList) = true := c73
            clear c73
            obtain ⟨y167, hy167⟩ : ∃ y_ : List (S26), y_ = (([(⟨(rd_T26 x136008_1 1).f0, (⟨(rd_T26 x136008_1 1).f1.f0, (rd_T26 x136008_1 1).f1.f1, (rd_T26 x136008_1 1).f1.f2⟩ : S23), (rd_T26 x136008_1 1).f2, (rd_T26 x136008_1 1).f3, (rd_T26 x136008_1 1).f4, (rd_T26 x136008_1 1).f5, (rd_T26 x136008_1 1).f6⟩ : S26), (⟨(rd_T26 x136008_1 0).f0, (⟨(rd_T26 x136008_1 0).f1.f0, (rd_T26 x136008_1 0).f1.f1, (rd_T26 x136008_1 0).f1.f2⟩ : S23), (rd_T26 x136008_1 0).f2, (rd_T26 x136008_1 0).f3, (rd_T26 x136008_1 0).f4, (rd_T26 x136008_1 0).f5, (rd_T26 x136008_1 0).f6⟩ : S26)] : List (S26))) := ⟨_, rfl⟩
            replace H : (some (a0_0, a0_1, a0_2, a0_3, a0_4, a0_5, a0_6, a0_7, y167)) = some (r1, r2, r3, r4, r5, r6, r7, r8, r9) := by first | (rw [hy167]; with_reducible exact H) | (have H2_ := (Option.bind_some _ _).symm.trans H; rw [hy167]; with_reducible exact H2_) | (have H2_ := (Option.bind_some _ _).symm.trans H; with_reducible exact H2_) | with_reducible exact H | (rw [hy167]; exact H) | exact H
            have Ny167 := Asd.mk hy167
            clear hy167
            simp only [Option.some.injEq, Prod.mk.injEq] at H
            obtain ⟨rfl, rfl, rfl, rfl, rfl, rfl, rfl, rfl, rfl⟩ := H
            try go_wp2
            have n0_ := Asd.mk (Kd.N_drew HO_136008.out)
            have n1_ := Asd.mk (bkD BK133.out)
            have n2_ := Asd.mk (bkD BK134.out)
            have n3_ := Asd.mk (bkD BK135.out)
            have n4_ := Asd.mk (blD HB.out)
            clear HO_136008 BK133 BK134 BK135 HB
            have HO_136008 := n0_
            have BK133 := n1_
            have BK134 := n2_
            have BK135 := n3_
            have HB := n4_
            clear n0_ n1_ n2_ n3_ n4_
            obtain ⟨Ao75, co75, eo75⟩ := Kd.N_slice HO_136008.out
            (first | subst eo75 | (injection eo75 with f1_ f2_ f3_; have f4_ := f1_.symm; have f5_ := f3_.symm; clear f1_ f2_ f3_; subst f4_; subst f5_))
            have p161 : 0 ≤ (1 : Int) := (by omega)
            have q161 : 1 < (x136008_1.length : Int) := of_decide_eq_true (by first | (with_reducible assumption) | assumption)
            obtain ⟨ad161, A161_8, c161_8, e161, hx161_0, hx161_1, hx161_2, hx161_3, hx161_4, hx161_5, hx161_6, hx161_7, hx161_8, hl161_8, hi161_8⟩ := at_T26 (Kd.N_reads' HO_136008.out).2.2 1 p161 q161
            cases e161
            obtain ⟨ce161, hce161, hMe161, hcc161⟩ := Kd.N_get HO_136008.out z26 1 p161 (by first | exact q161 | exact of_decide_eq_true (by first | (with_reducible assumption) | assumption) | (have e_ := (Kd.N_reads' HO_136008.out).1; omega))
            obtain ⟨ua161_8, uc161_8, rfl, ul161_8, ge161_8⟩ := k26_openF hMe161
            have hv161_8 := hcc161 8 _ rfl
            rw [add_field _ _ 8 (by omega)] at hv161_8
            replace hv161_8 := Option.some.inj (hv161_8.symm.trans hx161_8)
            injection hv161_8 with hva_ hvn_ hvc_
            rw [hva_] at ge161_8
            rw [hvc_] at ul161_8
            have HL161_8 := Asd.mk (show Kd.V k26 26 _ w.heap.size _ _ ((rd_T26 x136008_1 1).f6) from Kd.V_mk ul161_8 ge161_8)
            clear hva_ hvn_ hvc_ ge161_8 ul161_8 hcc161 hce161
            (try simp only [show (1 : Int).toNat = 1 from rfl, Nat.reduceMul, Nat.reduceEqDiff, Go.Addr.add, ↓reduceIte] at hx161_0)
            (try simp only [show (1 : Int).toNat = 1 from rfl, Nat.reduceMul, Nat.reduceEqDiff, Go.Addr.add, ↓reduceIte] at hx161_1)
            (try simp only [show (1 : Int).toNat = 1 from rfl, Nat.reduceMul, Nat.reduceEqDiff, Go.Addr.add, ↓reduceIte] at hx161_2)
            (try simp only [show (1 : Int).toNat = 1 from rfl, Nat.reduceMul, Nat.reduceEqDiff, Go.Addr.add, ↓reduceIte] at hx161_3)
            (try simp only [show (1 : Int).toNat = 1 from rfl, Nat.reduceMul, Nat.reduceEqDiff, Go.Addr.add, ↓reduceIte] at hx161_4)
            (try simp only [show (1 : Int).toNat = 1 from rfl, Nat.reduceMul, Nat.reduceEqDiff, Go.Addr.add, ↓reduceIte] at hx161_5)
            (try simp only [show (1 : Int).toNat = 1 from rfl, Nat.reduceMul, Nat.reduceEqDiff, Go.Addr.add, ↓reduceIte] at hx161_6)
            (try simp only [show (1 : Int).toNat = 1 from rfl, Nat.reduceMul, Nat.reduceEqDiff, Go.Addr.add, ↓reduceIte] at hx161_7)
            (try simp only [show (1 : Int).toNat = 1 from rfl, Nat.reduceMul, Nat.reduceEqDiff, Go.Addr.add, ↓reduceIte] at hx161_8)
            have qi161 : (1 < x136008_1.length) = True := eq_true (by omega)
            (try rw [show ((1 : Int)).toNat = 1 from rfl] at hx161_0)
            (try rw [show 1 * 9 = 9 from rfl] at hx161_0)
            (try rw [show ((1 : Int)).toNat = 1 from rfl] at hx161_1)
            (try rw [show 1 * 9 = 9 from rfl] at hx161_1)
            (try rw [show ((1 : Int)).toNat = 1 from rfl] at hx161_2)
            (try rw [show 1 * 9 = 9 from rfl] at hx161_2)
            (try rw [show ((1 : Int)).toNat = 1 from rfl] at hx161_3)
            (try rw [show 1 * 9 = 9 from rfl] at hx161_3)
            (try rw [show ((1 : Int)).toNat = 1 from rfl] at hx161_4)
            (try rw [show 1 * 9 = 9 from rfl] at hx161_4)
            (try rw [show ((1 : Int)).toNat = 1 from rfl] at hx161_5)
            (try rw [show 1 * 9 = 9 from rfl] at hx161_5)
            (try rw [show ((1 : Int)).toNat = 1 from rfl] at hx161_6)
            (try rw [show 1 * 9 = 9 from rfl] at hx161_6)
            (try rw [show ((1 : Int)).toNat = 1 from rfl] at hx161_7)
            (try rw [show 1 * 9 = 9 from rfl] at hx161_7)
            (try rw [show ((1 : Int)).toNat = 1 from rfl] at hx161_8)
            (try rw [show 1 * 9 = 9 from rfl] at hx161_8)
            have HR161_8 := Asd.mk hi161_8
            have HC161_8 := Asd.mk hl161_8
            clear hi161_8 hl161_8
            replace p161 := eq_true p161
            replace q161 := eq_true q161
            have p163 : 0 ≤ (0 : Int) := (by omega)
            have q163 : 0 < (x136008_1.length : Int) := of_decide_eq_true (by first | (with_reducible assumption) | assumption)
            obtain ⟨ad163, A163_8, c163_8, e163, hx163_0, hx163_1, hx163_2, hx163_3, hx163_4, hx163_5, hx163_6, hx163_7, hx163_8, hl163_8, hi163_8⟩ := at_T26 (Kd.N_reads' HO_136008.out).2.2 0 p163 q163
            obtain rfl : ad161 = ad163 := (by injection e163)
            obtain ⟨ce163, hce163, hMe163, hcc163⟩ := Kd.N_get HO_136008.out z26 0 p163 (by first | exact q163 | exact of_decide_eq_true (by first | (with_reducible assumption) | assumption) | (have e_ := (Kd.N_reads' HO_136008.out).1; omega))
            obtain ⟨ua163_8, uc163_8, rfl, ul163_8, ge163_8⟩ := k26_openF hMe163
            have hv163_8 := hcc163 8 _ rfl
            rw [add_field _ _ 8 (by omega)] at hv163_8
            replace hv163_8 := Option.some.inj (hv163_8.symm.trans hx163_8)
            injection hv163_8 with hva_ hvn_ hvc_
            rw [hva_] at ge163_8
            rw [hvc_] at ul163_8
            have HL163_8 := Asd.mk (show Kd.V k26 26 _ w.heap.size _ _ ((rd_T26 x136008_1 0).f6) from Kd.V_mk ul163_8 ge163_8)
            clear hva_ hvn_ hvc_ ge163_8 ul163_8 hcc163 hce163
            have qi163 : (0 < x136008_1.length) = True := eq_true (by omega)
            (try rw [show ((0 : Int)).toNat = 0 from rfl] at hx163_0)
            (try rw [show 0 * 9 = 0 from rfl] at hx163_0)
            (try rw [Addr.add_zero'] at hx163_0)
            (try rw [show ((0 : Int)).toNat = 0 from rfl] at hx163_1)
            (try rw [show 0 * 9 = 0 from rfl] at hx163_1)
            (try rw [Addr.add_zero'] at hx163_1)
            (try rw [show ((0 : Int)).toNat = 0 from rfl] at hx163_2)
            (try rw [show 0 * 9 = 0 from rfl] at hx163_2)
            (try rw [Addr.add_zero'] at hx163_2)
            (try rw [show ((0 : Int)).toNat = 0 from rfl] at hx163_3)
            (try rw [show 0 * 9 = 0 from rfl] at hx163_3)
            (try rw [Addr.add_zero'] at hx163_3)
            (try rw [show ((0 : Int)).toNat = 0 from rfl] at hx163_4)
            (try rw [show 0 * 9 = 0 from rfl] at hx163_4)
            (try rw [Addr.add_zero'] at hx163_4)
            (try rw [show ((0 : Int)).toNat = 0 from rfl] at hx163_5)
            (try rw [show 0 * 9 = 0 from rfl] at hx163_5)
            (try rw [Addr.add_zero'] at hx163_5)
            (try rw [show ((0 : Int)).toNat = 0 from rfl] at hx163_6)
            (try rw [show 0 * 9 = 0 from rfl] at hx163_6)
            (try rw [Addr.add_zero'] at hx163_6)
            (try rw [show ((0 : Int)).toNat = 0 from rfl] at hx163_7)
            (try rw [show 0 * 9 = 0 from rfl] at hx163_7)
            (try rw [Addr.add_zero'] at hx163_7)
            (try rw [show ((0 : Int)).toNat = 0 from rfl] at hx163_8)
            (try rw [show 0 * 9 = 0 from rfl] at hx163_8)
            (try rw [Addr.add_zero'] at hx163_8)
            have HR163_8 := Asd.mk hi163_8
            have HC163_8 := Asd.mk hl163_8
            clear hi163_8 hl163_8
            replace p163 := eq_true p163
            replace q163 := eq_true q163
            refine start_ (n := 12) (S := fun w' => w'.cell? ⟨gb135, 0, none⟩ = some (.int .i64 a0_0) ∧ w'.cell? ⟨gb135, 1, none⟩ = some (.int .i64 a0_1) ∧ w'.cell? ⟨gb135, 2, none⟩ = some (.int .i64 a0_2) ∧ w'.cell? ⟨gb135, 3, none⟩ = some (.string a0_3) ∧ w'.cell? ⟨gb135, 4, none⟩ = some (.int .i64 a0_4) ∧ w'.cell? ⟨gb135, 5, none⟩ = some (.int .i64 a0_5) ∧ w'.cell? ⟨gb135, 6, none⟩ = some (.int .i64 a0_6) ∧ w'.cell? ⟨gb135, 7, none⟩ = some (.string a0_7) ∧ w'.cell? ⟨gb135, 8, none⟩ = some (.slice (some ad161) x136008_1.length co75) ∧ w'.cell? ⟨ad161.block, ad161.off + 9, none⟩ = some (.int .i64 ((rd_T26 x136008_1 1).f0)) ∧ w'.cell? ⟨ad161.block, ad161.off + 9 + 1, none⟩ = some (.int .i64 ((rd_T26 x136008_1 1).f1.f0)) ∧ w'.cell? ⟨ad161.block, ad161.off + 9 + 2, none⟩ = some (.int .i64 ((rd_T26 x136008_1 1).f1.f1)) ∧ w'.cell? ⟨ad161.block, ad161.off + 9 + 3, none⟩ = some (.string ((rd_T26 x136008_1 1).f1.f2)) ∧ w'.cell? ⟨ad161.block, ad161.off + 9 + 4, none⟩ = some (.int .i64 ((rd_T26 x136008_1 1).f2)) ∧ w'.cell? ⟨ad161.block, ad161.off + 9 + 5, none⟩ = some (.int .i64 ((rd_T26 x136008_1 1).f3)) ∧ w'.cell? ⟨ad161.block, ad161.off + 9 + 6, none⟩ = some (.int .i64 ((rd_T26 x136008_1 1).f4)) ∧ w'.cell? ⟨ad161.block, ad161.off + 9 + 7, none⟩ = some (.string ((rd_T26 x136008_1 1).f5)) ∧ w'.cell? ⟨ad161.block, ad161.off + 9 + 8, none⟩ = some (.slice A161_8 ((rd_T26 x136008_1 1).f6).length c161_8) ∧ w'.cell? ad161 = some (.int .i64 ((rd_T26 x136008_1 0).f0)) ∧ w'.cell? ⟨ad161.block, ad161.off + 1, none⟩ = some (.int .i64 ((rd_T26 x136008_1 0).f1.f0)) ∧ w'.cell? ⟨ad161.block, ad161.off + 2, none⟩ = some (.int .i64 ((rd_T26 x136008_1 0).f1.f1)) ∧ w'.cell? ⟨ad161.block, ad161.off + 3, none⟩ = some (.string ((rd_T26 x136008_1 0).f1.f2)) ∧ w'.cell? ⟨ad161.block, ad161.off + 4, none⟩ = some (.int .i64 ((rd_T26 x136008_1 0).f2)) ∧ w'.cell? ⟨ad161.block, ad161.off + 5, none⟩ = some (.int .i64 ((rd_T26 x136008_1 0).f3)) ∧ w'.cell? ⟨ad161.block, ad161.off + 6, none⟩ = some (.int .i64 ((rd_T26 x136008_1 0).f4)) ∧ w'.cell? ⟨ad161.block, ad161.off + 7, none⟩ = some (.string ((rd_T26 x136008_1 0).f5)) ∧ w'.cell? ⟨ad161.block, ad161.off + 8, none⟩ = some (.slice A163_8 ((rd_T26 x136008_1 0).f6).length c163_8)) (ds := []) #[false, false, false, false, false, false, false, false, false, false, false, false] (by kernel_rfl) rfl rfl ⟨(bkC BK135.out 0).trans rfl, (bkC BK135.out 1).trans rfl, (bkC BK135.out 2).trans rfl, (bkC BK135.out 3).trans rfl, (bkC BK135.out 4).trans rfl, (bkC BK135.out 5).trans rfl, (bkC BK135.out 6).trans rfl, (bkC BK135.out 7).trans rfl, (bkC BK135.out 8).trans rfl, hx161_0, hx161_1, hx161_2, hx161_3, hx161_4, hx161_5, hx161_6, hx161_7, hx161_8, hx163_0, hx163_1, hx163_2, hx163_3, hx163_4, hx163_5, hx163_6, hx163_7, hx163_8⟩ (fun hHeld => ?_); refine with_tabW q12_normal.tab21 q12_normal.bits21 (fun HT_ HW_ => ?_)
            generalize wc.drew = w74 at HO_136008 BK133 BK134 BK135 HB HL161_8 HL163_8 HR161_8 HR163_8 hx161_0 hx161_1 hx161_2 hx161_3 hx161_4 hx161_5 hx161_6 hx161_7 hx161_8 hx163_0 hx163_1 hx163_2 hx163_3 hx163_4 hx163_5 hx163_6 hx163_7 hx163_8 hHeld ⊢
            refine pure_ (i := 0) (N := some 41) (v := ?_) (a' := ?_) #[true, false, false, false, false, false, false, false, false, false, false, false] rfl rfl (any_of HT_.out (by kernel_rfl)) (fun _ _ _ h => h) (Or.inl ⟨by rfl, ?_⟩) ?_ ?_
            rotate_left
            ·intro w'
             go_simp
             with_reducible rfl
            rotate_left
            ·simp only [Act.put, List.setIfInBounds_toArray, List.set_cons_zero, List.set_cons_succ, i64_w, i32_w]
             rfl
            refine pure_ (i := 5) (N := some 46) (v := ?_) (a' := ?_) #[true, false, false, false, false, true, false, false, false, false, false, false] rfl rfl (any_of HT_.out (by kernel_rfl)) (fun _ _ _ h => h) (Or.inl ⟨by rfl, ?_⟩) ?_ ?_
            rotate_left
            ·intro w'
             go_simp
             with_reducible rfl
            rotate_left
            ·simp only [Act.put, List.setIfInBounds_toArray, List.set_cons_zero, List.set_cons_succ, i64_w, i32_w]
             rfl
            refine take_ (i := 1) (N := some 42) (v := ?_) (a' := ?_) #[true, true, false, false, false, true, false, false, false, false, false, false] rfl rfl (take_ofW HT_.out HW_.out (by kernel_rfl)) (fun _ _ _ h => h) (Or.inl ⟨by rfl, ?_⟩) hHeld ?_ ?_
            rotate_left
            ·rintro w' ⟨s0, s1, s2, s3, s4, s5, s6, s7, s8, s9, s10, s11, s12, s13, s14, s15, s16, s17, s18, s19, s20, s21, s22, s23, s24, s25, s26⟩
             go_simp
             with_reducible rfl
            rotate_left
            ·simp only [Act.put, List.setIfInBounds_toArray, List.set_cons_zero, List.set_cons_succ, i64_w, i32_w]
             rfl
            refine pure_ (i := 2) (N := some 43) (v := ?_) (a' := ?_) #[true, true, true, false, false, true, false, false, false, false, false, false] rfl rfl (any_of HT_.out (by kernel_rfl)) (fun _ _ _ h => h) (Or.inl ⟨by rfl, ?_⟩) ?_ ?_
            rotate_left
            ·intro w'
             go_simp
             with_reducible rfl
            rotate_left
            ·simp only [Act.put, List.setIfInBounds_toArray, List.set_cons_zero, List.set_cons_succ, i64_w, i32_w]
             rfl
            refine take_ (i := 3) (N := some 44) (v := ?_) (a' := ?_) #[true, true, true, true, false, true, false, false, false, false, false, false] rfl rfl (take_ofW HT_.out HW_.out (by kernel_rfl)) (fun _ _ _ h => h) (Or.inl ⟨by rfl, ?_⟩) hHeld ?_ ?_
            rotate_left
            ·rintro w' ⟨s0, s1, s2, s3, s4, s5, s6, s7, s8, s9, s10, s11, s12, s13, s14, s15, s16, s17, s18, s19, s20, s21, s22, s23, s24, s25, s26⟩
             go_simp
             with_reducible rfl
            rotate_left
            ·simp only [Act.put, List.setIfInBounds_toArray, List.set_cons_zero, List.set_cons_succ, i64_w, i32_w]
             rfl
            refine take_ (i := 6) (N := some 47) (v := ?_) (a' := ?_) #[true, true, true, true, false, true, true, false, false, false, false, false] rfl rfl (take_ofW HT_.out HW_.out (by kernel_rfl)) (fun _ _ _ h => h) (Or.inl ⟨by rfl, ?_⟩) hHeld ?_ ?_
            rotate_left
            ·rintro w' ⟨s0, s1, s2, s3, s4, s5, s6, s7, s8, s9, s10, s11, s12, s13, s14, s15, s16, s17, s18, s19, s20, s21, s22, s23, s24, s25, s26⟩
             go_simp
             with_reducible rfl
            rotate_left
            ·simp only [Act.put, List.setIfInBounds_toArray, List.set_cons_zero, List.set_cons_succ, i64_w, i32_w]
             rfl
            refine pure_ (i := 7) (N := some 48) (v := ?_) (a' := ?_) #[true, true, true, true, false, true, true, true, false, false, false, false] rfl rfl (any_of HT_.out (by kernel_rfl)) (fun _ _ _ h => h) (Or.inl ⟨by rfl, ?_⟩) ?_ ?_
            rotate_left
            ·intro w'
             go_simp
             with_reducible rfl
            rotate_left
            ·simp only [Act.put, List.setIfInBounds_toArray, List.set_cons_zero, List.set_cons_succ, i64_w, i32_w]
             rfl
            refine take_ (i := 8) (N := some 49) (v := ?_) (a' := ?_) #[true, true, true, true, false, true, true, true, true, false, false, false] rfl rfl (take_ofW HT_.out HW_.out (by kernel_rfl)) (fun _ _ _ h => h) (Or.inl ⟨by rfl, ?_⟩) hHeld ?_ ?_
            rotate_left
            ·rintro w' ⟨s0, s1, s2, s3, s4, s5, s6, s7, s8, s9, s10, s11, s12, s13, s14, s15, s16, s17, s18, s19, s20, s21, s22, s23, s24, s25, s26⟩
             go_simp
             with_reducible rfl
            rotate_left
            ·simp only [Act.put, List.setIfInBounds_toArray, List.set_cons_zero, List.set_cons_succ, i64_w, i32_w]
             rfl
            refine one_ (i := 4) (N := some 45) #[true, true, true, true, true, true, true, true, true, false, false, false] rfl rfl (one_of HT_.out (by kernel_rfl)) (by decide) (fun K hK => ?_)
            refine goes_ Tryd.func9 (by kernel_rfl) rfl #[.agg #[.int .i64 ((rd_T26 x136008_1 1).f0), .int .i64 ((rd_T26 x136008_1 1).f1.f0), .int .i64 ((rd_T26 x136008_1 1).f1.f1), .string ((rd_T26 x136008_1 1).f1.f2), .int .i64 ((rd_T26 x136008_1 1).f2), .int .i64 ((rd_T26 x136008_1 1).f3), .int .i64 ((rd_T26 x136008_1 1).f4), .string ((rd_T26 x136008_1 1).f5), .slice A161_8 ((rd_T26 x136008_1 1).f6).length c161_8]] (by rfl) rfl rfl (by (try simp only [List.map_toArray, List.map_cons, List.map_nil]); first | done | rfl | (simp only [List.length_drop, List.length_take]; rfl)) ?_
            with_reducible refine (q08_Print.calls ((rd_T26 x136008_1 1).f0) ((rd_T26 x136008_1 1).f1.f0) ((rd_T26 x136008_1 1).f1.f1) ((rd_T26 x136008_1 1).f1.f2) ((rd_T26 x136008_1 1).f2) ((rd_T26 x136008_1 1).f3) ((rd_T26 x136008_1 1).f4) ((rd_T26 x136008_1 1).f5) _ _ ((rd_T26 x136008_1 1).f6) t162 _ ?side1 ?side2 A70.out).mono ?_
            (case side1 => repeat (first | exact (by repeat (first | (with_reducible exact HR161_8.out) | (with_reducible refine Kd.C_alloc ?_ _) | (with_reducible refine Kd.C_drewN ?_ _) | (with_reducible refine Kd.C_drew ?_) | exact HR161_8.out)) | (with_reducible refine Kd.C_alloc ?_ _) | (with_reducible refine Kd.C_drewN ?_ _) | (with_reducible refine Kd.C_drew ?_)))
            (case side2 => exact HC161_8.out)
            rintro e w76 ⟨rfl, hb⟩
            have HS9_ := (hb.cell (World.block_lt_of_cell? _ _ (hHeld.2.2.2.2.2.2.2.2.2.1))).trans (hHeld.2.2.2.2.2.2.2.2.2.1)
            have HS10_ := (hb.cell (World.block_lt_of_cell? _ _ (hHeld.2.2.2.2.2.2.2.2.2.2.1))).trans (hHeld.2.2.2.2.2.2.2.2.2.2.1)
            have HS11_ := (hb.cell (World.block_lt_of_cell? _ _ (hHeld.2.2.2.2.2.2.2.2.2.2.2.1))).trans (hHeld.2.2.2.2.2.2.2.2.2.2.2.1)
            have HS12_ := (hb.cell (World.block_lt_of_cell? _ _ (hHeld.2.2.2.2.2.2.2.2.2.2.2.2.1))).trans (hHeld.2.2.2.2.2.2.2.2.2.2.2.2.1)
            have HS13_ := (hb.cell (World.block_lt_of_cell? _ _ (hHeld.2.2.2.2.2.2.2.2.2.2.2.2.2.1))).trans (hHeld.2.2.2.2.2.2.2.2.2.2.2.2.2.1)
            have HS14_ := (hb.cell (World.block_lt_of_cell? _ _ (hHeld.2.2.2.2.2.2.2.2.2.2.2.2.2.2.1))).trans (hHeld.2.2.2.2.2.2.2.2.2.2.2.2.2.2.1)
            have HS15_ := (hb.cell (World.block_lt_of_cell? _ _ (hHeld.2.2.2.2.2.2.2.2.2.2.2.2.2.2.2.1))).trans (hHeld.2.2.2.2.2.2.2.2.2.2.2.2.2.2.2.1)
            have HS16_ := (hb.cell (World.block_lt_of_cell? _ _ (hHeld.2.2.2.2.2.2.2.2.2.2.2.2.2.2.2.2.1))).trans (hHeld.2.2.2.2.2.2.2.2.2.2.2.2.2.2.2.2.1)
            have HS17_ := (hb.cell (World.block_lt_of_cell? _ _ (hHeld.2.2.2.2.2.2.2.2.2.2.2.2.2.2.2.2.2.1))).trans (hHeld.2.2.2.2.2.2.2.2.2.2.2.2.2.2.2.2.2.1)
            have HS18_ := (hb.cell (World.block_lt_of_cell? _ _ (hHeld.2.2.2.2.2.2.2.2.2.2.2.2.2.2.2.2.2.2.1))).trans (hHeld.2.2.2.2.2.2.2.2.2.2.2.2.2.2.2.2.2.2.1)
            have HS19_ := (hb.cell (World.block_lt_of_cell? _ _ (hHeld.2.2.2.2.2.2.2.2.2.2.2.2.2.2.2.2.2.2.2.1))).trans (hHeld.2.2.2.2.2.2.2.2.2.2.2.2.2.2.2.2.2.2.2.1)
            have HS20_ := (hb.cell (World.block_lt_of_cell? _ _ (hHeld.2.2.2.2.2.2.2.2.2.2.2.2.2.2.2.2.2.2.2.2.1))).trans (hHeld.2.2.2.2.2.2.2.2.2.2.2.2.2.2.2.2.2.2.2.2.1)
            have HS21_ := (hb.cell (World.block_lt_of_cell? _ _ (hHeld.2.2.2.2.2.2.2.2.2.2.2.2.2.2.2.2.2.2.2.2.2.1))).trans (hHeld.2.2.2.2.2.2.2.2.2.2.2.2.2.2.2.2.2.2.2.2.2.1)
            have HS22_ := (hb.cell (World.block_lt_of_cell? _ _ (hHeld.2.2.2.2.2.2.2.2.2.2.2.2.2.2.2.2.2.2.2.2.2.2.1))).trans (hHeld.2.2.2.2.2.2.2.2.2.2.2.2.2.2.2.2.2.2.2.2.2.2.1)
            have HS23_ := (hb.cell (World.block_lt_of_cell? _ _ (hHeld.2.2.2.2.2.2.2.2.2.2.2.2.2.2.2.2.2.2.2.2.2.2.2.1))).trans (hHeld.2.2.2.2.2.2.2.2.2.2.2.2.2.2.2.2.2.2.2.2.2.2.2.1)
            have HS24_ := (hb.cell (World.block_lt_of_cell? _ _ (hHeld.2.2.2.2.2.2.2.2.2.2.2.2.2.2.2.2.2.2.2.2.2.2.2.2.1))).trans (hHeld.2.2.2.2.2.2.2.2.2.2.2.2.2.2.2.2.2.2.2.2.2.2.2.2.1)
            have HS25_ := (hb.cell (World.block_lt_of_cell? _ _ (hHeld.2.2.2.2.2.2.2.2.2.2.2.2.2.2.2.2.2.2.2.2.2.2.2.2.2.1))).trans (hHeld.2.2.2.2.2.2.2.2.2.2.2.2.2.2.2.2.2.2.2.2.2.2.2.2.2.1)
            have HS26_ := (hb.cell (World.block_lt_of_cell? _ _ (hHeld.2.2.2.2.2.2.2.2.2.2.2.2.2.2.2.2.2.2.2.2.2.2.2.2.2.2))).trans (hHeld.2.2.2.2.2.2.2.2.2.2.2.2.2.2.2.2.2.2.2.2.2.2.2.2.2.2)
            refine ⟨_, rfl, ?_⟩
            have n0_ := Asd.mk (Kd.N_below (by (with_reducible repeat (first | apply Kd.N_alloc | apply Kd.N_drewN | apply Kd.N_drew)); exact HO_136008.out) hb)
            have n1_ := Asd.mk (Kd.V_below (by (with_reducible repeat (first | apply Kd.V_alloc | apply Kd.V_drewN | apply Kd.V_drew)); exact HL161_8.out) hb)
            have n2_ := Asd.mk (Kd.V_below (by (with_reducible repeat (first | apply Kd.V_alloc | apply Kd.V_drewN | apply Kd.V_drew)); exact HL163_8.out) hb)
            have n3_ := Asd.mk (bB hb BK133.out)
            have n4_ := Asd.mk (bB hb BK134.out)
            have n5_ := Asd.mk (bB hb BK135.out)
            have n6_ := Asd.mk (Kd.C_below (by repeat (first | (with_reducible exact HR161_8.out) | (with_reducible refine Kd.C_alloc ?_ _) | (with_reducible refine Kd.C_drewN ?_ _) | (with_reducible refine Kd.C_drew ?_) | exact HR161_8.out)) hb)
            have n7_ := Asd.mk (Kd.C_below (by repeat (first | (with_reducible exact HR163_8.out) | (with_reducible refine Kd.C_alloc ?_ _) | (with_reducible refine Kd.C_drewN ?_ _) | (with_reducible refine Kd.C_drew ?_) | exact HR163_8.out)) hb)
            have n8_ := Asd.mk (bS hb HB.out)
            clear HO_136008 HL161_8 HL163_8 BK133 BK134 BK135 HR161_8 HR163_8 HB
            have HO_136008 := n0_
            have HL161_8 := n1_
            have HL163_8 := n2_
            have BK133 := n3_
            have BK134 := n4_
            have BK135 := n5_
            have HR161_8 := n6_
            have HR163_8 := n7_
            have HB := n8_
            clear n0_ n1_ n2_ n3_ n4_ n5_ n6_ n7_ n8_
            (try clear hb)
            (try clear hb2)
            (try clear hk)
            (try clear hi)
            refine hK.out _ _ ⟨(bkC BK135.out 0).trans rfl, (bkC BK135.out 1).trans rfl, (bkC BK135.out 2).trans rfl, (bkC BK135.out 3).trans rfl, (bkC BK135.out 4).trans rfl, (bkC BK135.out 5).trans rfl, (bkC BK135.out 6).trans rfl, (bkC BK135.out 7).trans rfl, (bkC BK135.out 8).trans rfl, HS9_, HS10_, HS11_, HS12_, HS13_, HS14_, HS15_, HS16_, HS17_, HS18_, HS19_, HS20_, HS21_, HS22_, HS23_, HS24_, HS25_, HS26_⟩ (fun hHeld => ?_)
            clear hK K
            refine norm_ (a' := ?_) ?_ ?_
            rotate_left
            ·show Act.put _ (some 45) _ = _
             simp only [Act.put, List.setIfInBounds_toArray, List.set_cons_zero, List.set_cons_succ, i64_w, i32_w]
             rfl
            refine one_ (i := 9) (N := some 50) #[true, true, true, true, true, true, true, true, true, true, false, false] rfl rfl (one_of HT_.out (by kernel_rfl)) (by decide) (fun K hK => ?_)
            refine goes_ Tryd.func9 (by kernel_rfl) rfl #[.agg #[.int .i64 ((rd_T26 x136008_1 0).f0), .int .i64 ((rd_T26 x136008_1 0).f1.f0), .int .i64 ((rd_T26 x136008_1 0).f1.f1), .string ((rd_T26 x136008_1 0).f1.f2), .int .i64 ((rd_T26 x136008_1 0).f2), .int .i64 ((rd_T26 x136008_1 0).f3), .int .i64 ((rd_T26 x136008_1 0).f4), .string ((rd_T26 x136008_1 0).f5), .slice A163_8 ((rd_T26 x136008_1 0).f6).length c163_8]] (by rfl) rfl rfl (by (try simp only [List.map_toArray, List.map_cons, List.map_nil]); first | done | rfl | (simp only [List.length_drop, List.length_take]; rfl)) ?_
            with_reducible refine (q08_Print.calls ((rd_T26 x136008_1 0).f0) ((rd_T26 x136008_1 0).f1.f0) ((rd_T26 x136008_1 0).f1.f1) ((rd_T26 x136008_1 0).f1.f2) ((rd_T26 x136008_1 0).f2) ((rd_T26 x136008_1 0).f3) ((rd_T26 x136008_1 0).f4) ((rd_T26 x136008_1 0).f5) _ _ ((rd_T26 x136008_1 0).f6) t164 _ ?side1 ?side2 A72.out).mono ?_
            (case side1 => repeat (first | exact (by repeat (first | (with_reducible exact HR163_8.out) | (with_reducible refine Kd.C_alloc ?_ _) | (with_reducible refine Kd.C_drewN ?_ _) | (with_reducible refine Kd.C_drew ?_) | exact HR163_8.out)) | (with_reducible refine Kd.C_alloc ?_ _) | (with_reducible refine Kd.C_drewN ?_ _) | (with_reducible refine Kd.C_drew ?_)))
            (case side2 => exact HC163_8.out)
            rintro e w77 ⟨rfl, hb⟩
            have HS9_ := (hb.cell (World.block_lt_of_cell? _ _ (hHeld.2.2.2.2.2.2.2.2.2.1))).trans (hHeld.2.2.2.2.2.2.2.2.2.1)
            have HS10_ := (hb.cell (World.block_lt_of_cell? _ _ (hHeld.2.2.2.2.2.2.2.2.2.2.1))).trans (hHeld.2.2.2.2.2.2.2.2.2.2.1)
            have HS11_ := (hb.cell (World.block_lt_of_cell? _ _ (hHeld.2.2.2.2.2.2.2.2.2.2.2.1))).trans (hHeld.2.2.2.2.2.2.2.2.2.2.2.1)
            have HS12_ := (hb.cell (World.block_lt_of_cell? _ _ (hHeld.2.2.2.2.2.2.2.2.2.2.2.2.1))).trans (hHeld.2.2.2.2.2.2.2.2.2.2.2.2.1)
            have HS13_ := (hb.cell (World.block_lt_of_cell? _ _ (hHeld.2.2.2.2.2.2.2.2.2.2.2.2.2.1))).trans (hHeld.2.2.2.2.2.2.2.2.2.2.2.2.2.1)
            have HS14_ := (hb.cell (World.block_lt_of_cell? _ _ (hHeld.2.2.2.2.2.2.2.2.2.2.2.2.2.2.1))).trans (hHeld.2.2.2.2.2.2.2.2.2.2.2.2.2.2.1)
            have HS15_ := (hb.cell (World.block_lt_of_cell? _ _ (hHeld.2.2.2.2.2.2.2.2.2.2.2.2.2.2.2.1))).trans (hHeld.2.2.2.2.2.2.2.2.2.2.2.2.2.2.2.1)
            have HS16_ := (hb.cell (World.block_lt_of_cell? _ _ (hHeld.2.2.2.2.2.2.2.2.2.2.2.2.2.2.2.2.1))).trans (hHeld.2.2.2.2.2.2.2.2.2.2.2.2.2.2.2.2.1)
            have HS17_ := (hb.cell (World.block_lt_of_cell? _ _ (hHeld.2.2.2.2.2.2.2.2.2.2.2.2.2.2.2.2.2.1))).trans (hHeld.2.2.2.2.2.2.2.2.2.2.2.2.2.2.2.2.2.1)
            have HS18_ := (hb.cell (World.block_lt_of_cell? _ _ (hHeld.2.2.2.2.2.2.2.2.2.2.2.2.2.2.2.2.2.2.1))).trans (hHeld.2.2.2.2.2.2.2.2.2.2.2.2.2.2.2.2.2.2.1)
            have HS19_ := (hb.cell (World.block_lt_of_cell? _ _ (hHeld.2.2.2.2.2.2.2.2.2.2.2.2.2.2.2.2.2.2.2.1))).trans (hHeld.2.2.2.2.2.2.2.2.2.2.2.2.2.2.2.2.2.2.2.1)
            have HS20_ := (hb.cell (World.block_lt_of_cell? _ _ (hHeld.2.2.2.2.2.2.2.2.2.2.2.2.2.2.2.2.2.2.2.2.1))).trans (hHeld.2.2.2.2.2.2.2.2.2.2.2.2.2.2.2.2.2.2.2.2.1)
            have HS21_ := (hb.cell (World.block_lt_of_cell? _ _ (hHeld.2.2.2.2.2.2.2.2.2.2.2.2.2.2.2.2.2.2.2.2.2.1))).trans (hHeld.2.2.2.2.2.2.2.2.2.2.2.2.2.2.2.2.2.2.2.2.2.1)
            have HS22_ := (hb.cell (World.block_lt_of_cell? _ _ (hHeld.2.2.2.2.2.2.2.2.2.2.2.2.2.2.2.2.2.2.2.2.2.2.1))).trans (hHeld.2.2.2.2.2.2.2.2.2.2.2.2.2.2.2.2.2.2.2.2.2.2.1)
            have HS23_ := (hb.cell (World.block_lt_of_cell? _ _ (hHeld.2.2.2.2.2.2.2.2.2.2.2.2.2.2.2.2.2.2.2.2.2.2.2.1))).trans (hHeld.2.2.2.2.2.2.2.2.2.2.2.2.2.2.2.2.2.2.2.2.2.2.2.1)
            have HS24_ := (hb.cell (World.block_lt_of_cell? _ _ (hHeld.2.2.2.2.2.2.2.2.2.2.2.2.2.2.2.2.2.2.2.2.2.2.2.2.1))).trans (hHeld.2.2.2.2.2.2.2.2.2.2.2.2.2.2.2.2.2.2.2.2.2.2.2.2.1)
            have HS25_ := (hb.cell (World.block_lt_of_cell? _ _ (hHeld.2.2.2.2.2.2.2.2.2.2.2.2.2.2.2.2.2.2.2.2.2.2.2.2.2.1))).trans (hHeld.2.2.2.2.2.2.2.2.2.2.2.2.2.2.2.2.2.2.2.2.2.2.2.2.2.1)
            have HS26_ := (hb.cell (World.block_lt_of_cell? _ _ (hHeld.2.2.2.2.2.2.2.2.2.2.2.2.2.2.2.2.2.2.2.2.2.2.2.2.2.2))).trans (hHeld.2.2.2.2.2.2.2.2.2.2.2.2.2.2.2.2.2.2.2.2.2.2.2.2.2.2)
            refine ⟨_, rfl, ?_⟩
            have n0_ := Asd.mk (Kd.N_below (by (with_reducible repeat (first | apply Kd.N_alloc | apply Kd.N_drewN | apply Kd.N_drew)); exact HO_136008.out) hb)
            have n1_ := Asd.mk (Kd.V_below (by (with_reducible repeat (first | apply Kd.V_alloc | apply Kd.V_drewN | apply Kd.V_drew)); exact HL161_8.out) hb)
            have n2_ := Asd.mk (Kd.V_below (by (with_reducible repeat (first | apply Kd.V_alloc | apply Kd.V_drewN | apply Kd.V_drew)); exact HL163_8.out) hb)
            have n3_ := Asd.mk (bB hb BK133.out)
            have n4_ := Asd.mk (bB hb BK134.out)
            have n5_ := Asd.mk (bB hb BK135.out)
            have n6_ := Asd.mk (Kd.C_below (by repeat (first | (with_reducible exact HR161_8.out) | (with_reducible refine Kd.C_alloc ?_ _) | (with_reducible refine Kd.C_drewN ?_ _) | (with_reducible refine Kd.C_drew ?_) | exact HR161_8.out)) hb)
            have n7_ := Asd.mk (Kd.C_below (by repeat (first | (with_reducible exact HR163_8.out) | (with_reducible refine Kd.C_alloc ?_ _) | (with_reducible refine Kd.C_drewN ?_ _) | (with_reducible refine Kd.C_drew ?_) | exact HR163_8.out)) hb)
            have n8_ := Asd.mk (bS hb HB.out)
            clear HO_136008 HL161_8 HL163_8 BK133 BK134 BK135 HR161_8 HR163_8 HB
            have HO_136008 := n0_
            have HL161_8 := n1_
            have HL163_8 := n2_
            have BK133 := n3_
            have BK134 := n4_
            have BK135 := n5_
            have HR161_8 := n6_
            have HR163_8 := n7_
            have HB := n8_
            clear n0_ n1_ n2_ n3_ n4_ n5_ n6_ n7_ n8_
            (try clear hb)
            (try clear hb2)
            (try clear hk)
            (try clear hi)
            refine hK.out _ _ ⟨(bkC BK135.out 0).trans rfl, (bkC BK135.out 1).trans rfl, (bkC BK135.out 2).trans rfl, (bkC BK135.out 3).trans rfl, (bkC BK135.out 4).trans rfl, (bkC BK135.out 5).trans rfl, (bkC BK135.out 6).trans rfl, (bkC BK135.out 7).trans rfl, (bkC BK135.out 8).trans rfl, HS9_, HS10_, HS11_, HS12_, HS13_, HS14_, HS15_, HS16_, HS17_, HS18_, HS19_, HS20_, HS21_, HS22_, HS23_, HS24_, HS25_, HS26_⟩ (fun hHeld => ?_)
            clear hK K
            refine norm_ (a' := ?_) ?_ ?_
            rotate_left
            ·show Act.put _ (some 50) _ = _
             simp only [Act.put, List.setIfInBounds_toArray, List.set_cons_zero, List.set_cons_succ, i64_w, i32_w]
             rfl
            refine pure_ (i := 10) (N := some 51) (v := ?_) (a' := ?_) #[true, true, true, true, true, true, true, true, true, true, true, false] rfl rfl (any_of HT_.out (by kernel_rfl)) (fun _ _ _ h => h) (Or.inl ⟨by rfl, ?_⟩) ?_ ?_
            rotate_left
            ·intro w'
             go_simp
             with_reducible rfl
            rotate_left
            ·simp only [Act.put, List.setIfInBounds_toArray, List.set_cons_zero, List.set_cons_succ, i64_w, i32_w]
             rfl
            refine pure_ (i := 11) (N := some 5) (v := ?_) (a' := ?_) #[true, true, true, true, true, true, true, true, true, true, true, true] rfl rfl (any_of HT_.out (by kernel_rfl)) (fun _ _ _ h => h) (Or.inl ⟨by rfl, ?_⟩) ?_ ?_
            rotate_left
            ·intro w'
             go_simp
             with_reducible rfl
            rotate_left
            ·simp only [Act.put, List.setIfInBounds_toArray, List.set_cons_zero, List.set_cons_succ, i64_w, i32_w]
             rfl
            refine done_ (done_of HT_.out (by kernel_rfl)) ?_
            try go_wp2
            have n0_ := Asd.mk (Kd.N_drew HO_136008.out)
            have n1_ := Asd.mk (Kd.V_drew HL161_8.out)
            have n2_ := Asd.mk (Kd.V_drew HL163_8.out)
            have n3_ := Asd.mk (bkD BK133.out)
            have n4_ := Asd.mk (bkD BK134.out)
            have n5_ := Asd.mk (bkD BK135.out)
            have n6_ := Asd.mk (Kd.C_drew HR161_8.out)
            have n7_ := Asd.mk (Kd.C_drew HR163_8.out)
            have n8_ := Asd.mk (blD HB.out)
            clear HO_136008 HL161_8 HL163_8 BK133 BK134 BK135 HR161_8 HR163_8 HB
            have HO_136008 := n0_
            have HL161_8 := n1_
            have HL163_8 := n2_
            have BK133 := n3_
            have BK134 := n4_
            have BK135 := n5_
            have HR161_8 := n6_
            have HR163_8 := n7_
            have HB := n8_
            clear n0_ n1_ n2_ n3_ n4_ n5_ n6_ n7_ n8_
            have p165 : 0 ≤ (1 : Int) := (by omega)
            have q165 : 1 < (x136008_1.length : Int) := of_decide_eq_true (by first | (with_reducible assumption) | assumption)
            obtain ⟨ad165, A165_8, c165_8, e165, hx165_0, hx165_1, hx165_2, hx165_3, hx165_4, hx165_5, hx165_6, hx165_7, hx165_8, hl165_8, hi165_8⟩ := at_T26 (Kd.N_reads' HO_136008.out).2.2 1 p165 q165
            obtain rfl : ad161 = ad165 := (by injection e165)
            obtain ⟨ce165, hce165, hMe165, hcc165⟩ := Kd.N_get HO_136008.out z26 1 p165 (by first | exact q165 | exact of_decide_eq_true (by first | (with_reducible assumption) | assumption) | (have e_ := (Kd.N_reads' HO_136008.out).1; omega))
            obtain ⟨ua165_8, uc165_8, rfl, ul165_8, ge165_8⟩ := k26_openF hMe165
            have hv165_8 := hcc165 8 _ rfl
            rw [add_field _ _ 8 (by omega)] at hv165_8
            replace hv165_8 := Option.some.inj (hv165_8.symm.trans hx165_8)
            injection hv165_8 with hva_ hvn_ hvc_
            rw [hva_] at ge165_8
            rw [hvc_] at ul165_8
            have HL165_8 := Asd.mk (show Kd.V k26 26 _ w.heap.size _ _ ((rd_T26 x136008_1 1).f6) from Kd.V_mk ul165_8 ge165_8)
            clear hva_ hvn_ hvc_ ge165_8 ul165_8 hcc165 hce165
            (try simp only [show (1 : Int).toNat = 1 from rfl, Nat.reduceMul, Nat.reduceEqDiff, Go.Addr.add, ↓reduceIte] at hx165_0)
            (try simp only [show (1 : Int).toNat = 1 from rfl, Nat.reduceMul, Nat.reduceEqDiff, Go.Addr.add, ↓reduceIte] at hx165_1)
            (try simp only [show (1 : Int).toNat = 1 from rfl, Nat.reduceMul, Nat.reduceEqDiff, Go.Addr.add, ↓reduceIte] at hx165_2)
            (try simp only [show (1 : Int).toNat = 1 from rfl, Nat.reduceMul, Nat.reduceEqDiff, Go.Addr.add, ↓reduceIte] at hx165_3)
            (try simp only [show (1 : Int).toNat = 1 from rfl, Nat.reduceMul, Nat.reduceEqDiff, Go.Addr.add, ↓reduceIte] at hx165_4)
            (try simp only [show (1 : Int).toNat = 1 from rfl, Nat.reduceMul, Nat.reduceEqDiff, Go.Addr.add, ↓reduceIte] at hx165_5)
            (try simp only [show (1 : Int).toNat = 1 from rfl, Nat.reduceMul, Nat.reduceEqDiff, Go.Addr.add, ↓reduceIte] at hx165_6)
            (try simp only [show (1 : Int).toNat = 1 from rfl, Nat.reduceMul, Nat.reduceEqDiff, Go.Addr.add, ↓reduceIte] at hx165_7)
            (try simp only [show (1 : Int).toNat = 1 from rfl, Nat.reduceMul, Nat.reduceEqDiff, Go.Addr.add, ↓reduceIte] at hx165_8)
            have qi165 : (1 < x136008_1.length) = True := eq_true (by omega)
            (try rw [show ((1 : Int)).toNat = 1 from rfl] at hx165_0)
            (try rw [show 1 * 9 = 9 from rfl] at hx165_0)
            (try rw [show ((1 : Int)).toNat = 1 from rfl] at hx165_1)
            (try rw [show 1 * 9 = 9 from rfl] at hx165_1)
            (try rw [show ((1 : Int)).toNat = 1 from rfl] at hx165_2)
            (try rw [show 1 * 9 = 9 from rfl] at hx165_2)
            (try rw [show ((1 : Int)).toNat = 1 from rfl] at hx165_3)
            (try rw [show 1 * 9 = 9 from rfl] at hx165_3)
            (try rw [show ((1 : Int)).toNat = 1 from rfl] at hx165_4)
            (try rw [show 1 * 9 = 9 from rfl] at hx165_4)
            (try rw [show ((1 : Int)).toNat = 1 from rfl] at hx165_5)
            (try rw [show 1 * 9 = 9 from rfl] at hx165_5)
            (try rw [show ((1 : Int)).toNat = 1 from rfl] at hx165_6)
            (try rw [show 1 * 9 = 9 from rfl] at hx165_6)
            (try rw [show ((1 : Int)).toNat = 1 from rfl] at hx165_7)
            (try rw [show 1 * 9 = 9 from rfl] at hx165_7)
            (try rw [show ((1 : Int)).toNat = 1 from rfl] at hx165_8)
            (try rw [show 1 * 9 = 9 from rfl] at hx165_8)
            have HR165_8 := Asd.mk hi165_8
            have HC165_8 := Asd.mk hl165_8
            clear hi165_8 hl165_8
            replace p165 := eq_true p165
            replace q165 := eq_true q165
            have p166 : 0 ≤ (0 : Int) := (by omega)
            have q166 : 0 < (x136008_1.length : Int) := of_decide_eq_true (by first | (with_reducible assumption) | assumption)
            obtain ⟨ad166, A166_8, c166_8, e166, hx166_0, hx166_1, hx166_2, hx166_3, hx166_4, hx166_5, hx166_6, hx166_7, hx166_8, hl166_8, hi166_8⟩ := at_T26 (Kd.N_reads' HO_136008.out).2.2 0 p166 q166
            obtain rfl : ad161 = ad166 := (by injection e166)
            obtain ⟨ce166, hce166, hMe166, hcc166⟩ := Kd.N_get HO_136008.out z26 0 p166 (by first | exact q166 | exact of_decide_eq_true (by first | (with_reducible assumption) | assumption) | (have e_ := (Kd.N_reads' HO_136008.out).1; omega))
            obtain ⟨ua166_8, uc166_8, rfl, ul166_8, ge166_8⟩ := k26_openF hMe166
            have hv166_8 := hcc166 8 _ rfl
            rw [add_field _ _ 8 (by omega)] at hv166_8
            replace hv166_8 := Option.some.inj (hv166_8.symm.trans hx166_8)
            injection hv166_8 with hva_ hvn_ hvc_
            rw [hva_] at ge166_8
            rw [hvc_] at ul166_8
            have HL166_8 := Asd.mk (show Kd.V k26 26 _ w.heap.size _ _ ((rd_T26 x136008_1 0).f6) from Kd.V_mk ul166_8 ge166_8)
            clear hva_ hvn_ hvc_ ge166_8 ul166_8 hcc166 hce166
            have qi166 : (0 < x136008_1.length) = True := eq_true (by omega)
            (try rw [show ((0 : Int)).toNat = 0 from rfl] at hx166_0)
            (try rw [show 0 * 9 = 0 from rfl] at hx166_0)
            (try rw [Addr.add_zero'] at hx166_0)
            (try rw [show ((0 : Int)).toNat = 0 from rfl] at hx166_1)
            (try rw [show 0 * 9 = 0 from rfl] at hx166_1)
            (try rw [Addr.add_zero'] at hx166_1)
            (try rw [show ((0 : Int)).toNat = 0 from rfl] at hx166_2)
            (try rw [show 0 * 9 = 0 from rfl] at hx166_2)
            (try rw [Addr.add_zero'] at hx166_2)
            (try rw [show ((0 : Int)).toNat = 0 from rfl] at hx166_3)
            (try rw [show 0 * 9 = 0 from rfl] at hx166_3)
            (try rw [Addr.add_zero'] at hx166_3)
            (try rw [show ((0 : Int)).toNat = 0 from rfl] at hx166_4)
            (try rw [show 0 * 9 = 0 from rfl] at hx166_4)
            (try rw [Addr.add_zero'] at hx166_4)
            (try rw [show ((0 : Int)).toNat = 0 from rfl] at hx166_5)
            (try rw [show 0 * 9 = 0 from rfl] at hx166_5)
            (try rw [Addr.add_zero'] at hx166_5)
            (try rw [show ((0 : Int)).toNat = 0 from rfl] at hx166_6)
            (try rw [show 0 * 9 = 0 from rfl] at hx166_6)
            (try rw [Addr.add_zero'] at hx166_6)
            (try rw [show ((0 : Int)).toNat = 0 from rfl] at hx166_7)
            (try rw [show 0 * 9 = 0 from rfl] at hx166_7)
            (try rw [Addr.add_zero'] at hx166_7)
            (try rw [show ((0 : Int)).toNat = 0 from rfl] at hx166_8)
            (try rw [show 0 * 9 = 0 from rfl] at hx166_8)
            (try rw [Addr.add_zero'] at hx166_8)
            have HR166_8 := Asd.mk hi166_8
            have HC166_8 := Asd.mk hl166_8
            clear hi166_8 hl166_8
            replace p166 := eq_true p166
            replace q166 := eq_true q166
            refine start_ (n := 11) (S := fun w' => w'.cell? ⟨gb135, 0, none⟩ = some (.int .i64 a0_0) ∧ w'.cell? ⟨gb135, 1, none⟩ = some (.int .i64 a0_1) ∧ w'.cell? ⟨gb135, 2, none⟩ = some (.int .i64 a0_2) ∧ w'.cell? ⟨gb135, 3, none⟩ = some (.string a0_3) ∧ w'.cell? ⟨gb135, 4, none⟩ = some (.int .i64 a0_4) ∧ w'.cell? ⟨gb135, 5, none⟩ = some (.int .i64 a0_5) ∧ w'.cell? ⟨gb135, 6, none⟩ = some (.int .i64 a0_6) ∧ w'.cell? ⟨gb135, 7, none⟩ = some (.string a0_7) ∧ w'.cell? ⟨gb135, 8, none⟩ = some (.slice (some ad161) x136008_1.length co75) ∧ w'.cell? ⟨ad161.block, ad161.off + 9, none⟩ = some (.int .i64 ((rd_T26 x136008_1 1).f0)) ∧ w'.cell? ⟨ad161.block, ad161.off + 9 + 1, none⟩ = some (.int .i64 ((rd_T26 x136008_1 1).f1.f0)) ∧ w'.cell? ⟨ad161.block, ad161.off + 9 + 2, none⟩ = some (.int .i64 ((rd_T26 x136008_1 1).f1.f1)) ∧ w'.cell? ⟨ad161.block, ad161.off + 9 + 3, none⟩ = some (.string ((rd_T26 x136008_1 1).f1.f2)) ∧ w'.cell? ⟨ad161.block, ad161.off + 9 + 4, none⟩ = some (.int .i64 ((rd_T26 x136008_1 1).f2)) ∧ w'.cell? ⟨ad161.block, ad161.off + 9 + 5, none⟩ = some (.int .i64 ((rd_T26 x136008_1 1).f3)) ∧ w'.cell? ⟨ad161.block, ad161.off + 9 + 6, none⟩ = some (.int .i64 ((rd_T26 x136008_1 1).f4)) ∧ w'.cell? ⟨ad161.block, ad161.off + 9 + 7, none⟩ = some (.string ((rd_T26 x136008_1 1).f5)) ∧ w'.cell? ⟨ad161.block, ad161.off + 9 + 8, none⟩ = some (.slice A165_8 ((rd_T26 x136008_1 1).f6).length c165_8) ∧ w'.cell? ad161 = some (.int .i64 ((rd_T26 x136008_1 0).f0)) ∧ w'.cell? ⟨ad161.block, ad161.off + 1, none⟩ = some (.int .i64 ((rd_T26 x136008_1 0).f1.f0)) ∧ w'.cell? ⟨ad161.block, ad161.off + 2, none⟩ = some (.int .i64 ((rd_T26 x136008_1 0).f1.f1)) ∧ w'.cell? ⟨ad161.block, ad161.off + 3, none⟩ = some (.string ((rd_T26 x136008_1 0).f1.f2)) ∧ w'.cell? ⟨ad161.block, ad161.off + 4, none⟩ = some (.int .i64 ((rd_T26 x136008_1 0).f2)) ∧ w'.cell? ⟨ad161.block, ad161.off + 5, none⟩ = some (.int .i64 ((rd_T26 x136008_1 0).f3)) ∧ w'.cell? ⟨ad161.block, ad161.off + 6, none⟩ = some (.int .i64 ((rd_T26 x136008_1 0).f4)) ∧ w'.cell? ⟨ad161.block, ad161.off + 7, none⟩ = some (.string ((rd_T26 x136008_1 0).f5)) ∧ w'.cell? ⟨ad161.block, ad161.off + 8, none⟩ = some (.slice A166_8 ((rd_T26 x136008_1 0).f6).length c166_8)) (ds := [10]) #[false, false, false, false, false, false, false, false, false, false, false] (by kernel_rfl) rfl rfl ⟨(bkC BK135.out 0).trans rfl, (bkC BK135.out 1).trans rfl, (bkC BK135.out 2).trans rfl, (bkC BK135.out 3).trans rfl, (bkC BK135.out 4).trans rfl, (bkC BK135.out 5).trans rfl, (bkC BK135.out 6).trans rfl, (bkC BK135.out 7).trans rfl, (bkC BK135.out 8).trans rfl, hx165_0, hx165_1, hx165_2, hx165_3, hx165_4, hx165_5, hx165_6, hx165_7, hx165_8, hx166_0, hx166_1, hx166_2, hx166_3, hx166_4, hx166_5, hx166_6, hx166_7, hx166_8⟩ (fun hHeld => ?_); refine with_tabW q12_normal.tab23 q12_normal.bits23 (fun HT_ HW_ => ?_)
            generalize w77.drew = w78 at HO_136008 HL161_8 HL163_8 BK133 BK134 BK135 HR161_8 HR163_8 HB HL165_8 HL166_8 HR165_8 HR166_8 hx165_0 hx165_1 hx165_2 hx165_3 hx165_4 hx165_5 hx165_6 hx165_7 hx165_8 hx166_0 hx166_1 hx166_2 hx166_3 hx166_4 hx166_5 hx166_6 hx166_7 hx166_8 hHeld ⊢
            refine pure_ (i := 0) (N := some 53) (v := ?_) (a' := ?_) #[true, false, false, false, false, false, false, false, false, false, false] rfl rfl (any_of HT_.out (by kernel_rfl)) (fun _ _ _ h => h) (Or.inl ⟨by rfl, ?_⟩) ?_ ?_
            rotate_left
            ·intro w'
             go_simp
             with_reducible rfl
            rotate_left
            ·simp only [Act.put, List.setIfInBounds_toArray, List.set_cons_zero, List.set_cons_succ, i64_w, i32_w]
             rfl
            refine pure_ (i := 4) (N := some 57) (v := ?_) (a' := ?_) #[true, false, false, false, true, false, false, false, false, false, false] rfl rfl (any_of HT_.out (by kernel_rfl)) (fun _ _ _ h => h) (Or.inl ⟨by rfl, ?_⟩) ?_ ?_
            rotate_left
            ·intro w'
             go_simp
             with_reducible rfl
            rotate_left
            ·simp only [Act.put, List.setIfInBounds_toArray, List.set_cons_zero, List.set_cons_succ, i64_w, i32_w]
             rfl
            refine take_ (i := 1) (N := some 54) (v := ?_) (a' := ?_) #[true, true, false, false, true, false, false, false, false, false, false] rfl rfl (take_ofW HT_.out HW_.out (by kernel_rfl)) (fun _ _ _ h => h) (Or.inl ⟨by rfl, ?_⟩) hHeld ?_ ?_
            rotate_left
            ·rintro w' ⟨s0, s1, s2, s3, s4, s5, s6, s7, s8, s9, s10, s11, s12, s13, s14, s15, s16, s17, s18, s19, s20, s21, s22, s23, s24, s25, s26⟩
             go_simp
             with_reducible rfl
            rotate_left
            ·simp only [Act.put, List.setIfInBounds_toArray, List.set_cons_zero, List.set_cons_succ, i64_w, i32_w]
             rfl
            refine pure_ (i := 2) (N := some 55) (v := ?_) (a' := ?_) #[true, true, true, false, true, false, false, false, false, false, false] rfl rfl (any_of HT_.out (by kernel_rfl)) (fun _ _ _ h => h) (Or.inl ⟨by rfl, ?_⟩) ?_ ?_
            rotate_left
            ·intro w'
             go_simp
             with_reducible rfl
            rotate_left
            ·simp only [Act.put, List.setIfInBounds_toArray, List.set_cons_zero, List.set_cons_succ, i64_w, i32_w]
             rfl
            refine take_ (i := 3) (N := some 56) (v := ?_) (a' := ?_) #[true, true, true, true, true, false, false, false, false, false, false] rfl rfl (take_ofW HT_.out HW_.out (by kernel_rfl)) (fun _ _ _ h => h) (Or.inl ⟨by rfl, ?_⟩) hHeld ?_ ?_
            rotate_left
            ·rintro w' ⟨s0, s1, s2, s3, s4, s5, s6, s7, s8, s9, s10, s11, s12, s13, s14, s15, s16, s17, s18, s19, s20, s21, s22, s23, s24, s25, s26⟩
             go_simp
             with_reducible rfl
            rotate_left
            ·simp only [Act.put, List.setIfInBounds_toArray, List.set_cons_zero, List.set_cons_succ, i64_w, i32_w]
             rfl
            refine take_ (i := 5) (N := some 58) (v := ?_) (a' := ?_) #[true, true, true, true, true, true, false, false, false, false, false] rfl rfl (take_ofW HT_.out HW_.out (by kernel_rfl)) (fun _ _ _ h => h) (Or.inl ⟨by rfl, ?_⟩) hHeld ?_ ?_
            rotate_left
            ·rintro w' ⟨s0, s1, s2, s3, s4, s5, s6, s7, s8, s9, s10, s11, s12, s13, s14, s15, s16, s17, s18, s19, s20, s21, s22, s23, s24, s25, s26⟩
             go_simp
             with_reducible rfl
            rotate_left
            ·simp only [Act.put, List.setIfInBounds_toArray, List.set_cons_zero, List.set_cons_succ, i64_w, i32_w]
             rfl
            refine pure_ (i := 6) (N := some 59) (v := ?_) (a' := ?_) #[true, true, true, true, true, true, true, false, false, false, false] rfl rfl (any_of HT_.out (by kernel_rfl)) (fun _ _ _ h => h) (Or.inl ⟨by rfl, ?_⟩) ?_ ?_
            rotate_left
            ·intro w'
             go_simp
             with_reducible rfl
            rotate_left
            ·simp only [Act.put, List.setIfInBounds_toArray, List.set_cons_zero, List.set_cons_succ, i64_w, i32_w]
             rfl
            refine take_ (i := 7) (N := some 60) (v := ?_) (a' := ?_) #[true, true, true, true, true, true, true, true, false, false, false] rfl rfl (take_ofW HT_.out HW_.out (by kernel_rfl)) (fun _ _ _ h => h) (Or.inl ⟨by rfl, ?_⟩) hHeld ?_ ?_
            rotate_left
            ·rintro w' ⟨s0, s1, s2, s3, s4, s5, s6, s7, s8, s9, s10, s11, s12, s13, s14, s15, s16, s17, s18, s19, s20, s21, s22, s23, s24, s25, s26⟩
             go_simp
             with_reducible rfl
            rotate_left
            ·simp only [Act.put, List.setIfInBounds_toArray, List.set_cons_zero, List.set_cons_succ, i64_w, i32_w]
             rfl
            refine one_ (i := 8) (N := some 61) #[true, true, true, true, true, true, true, true, true, false, false] rfl rfl (one_of HT_.out (by kernel_rfl)) (by decide) (fun K hK => ?_)
            refine Kd.N_lit_step k26 _ 26 ?hg (N' := 61) ?hd (xs := ([(⟨(rd_T26 x136008_1 1).f0, (⟨(rd_T26 x136008_1 1).f1.f0, (rd_T26 x136008_1 1).f1.f1, (rd_T26 x136008_1 1).f1.f2⟩ : S23), (rd_T26 x136008_1 1).f2, (rd_T26 x136008_1 1).f3, (rd_T26 x136008_1 1).f4, (rd_T26 x136008_1 1).f5, (rd_T26 x136008_1 1).f6⟩ : S26), (⟨(rd_T26 x136008_1 0).f0, (⟨(rd_T26 x136008_1 0).f1.f0, (rd_T26 x136008_1 0).f1.f1, (rd_T26 x136008_1 0).f1.f2⟩ : S23), (rd_T26 x136008_1 0).f2, (rd_T26 x136008_1 0).f3, (rd_T26 x136008_1 0).f4, (rd_T26 x136008_1 0).f5, (rd_T26 x136008_1 0).f6⟩ : S26)] : List (S26))) (inner := [.int .i64 ((rd_T26 x136008_1 1).f0), .int .i64 ((rd_T26 x136008_1 1).f1.f0), .int .i64 ((rd_T26 x136008_1 1).f1.f1), .string ((rd_T26 x136008_1 1).f1.f2), .int .i64 ((rd_T26 x136008_1 1).f2), .int .i64 ((rd_T26 x136008_1 1).f3), .int .i64 ((rd_T26 x136008_1 1).f4), .string ((rd_T26 x136008_1 1).f5), .slice A165_8 ((rd_T26 x136008_1 1).f6).length c165_8, .int .i64 ((rd_T26 x136008_1 0).f0), .int .i64 ((rd_T26 x136008_1 0).f1.f0), .int .i64 ((rd_T26 x136008_1 0).f1.f1), .string ((rd_T26 x136008_1 0).f1.f2), .int .i64 ((rd_T26 x136008_1 0).f2), .int .i64 ((rd_T26 x136008_1 0).f3), .int .i64 ((rd_T26 x136008_1 0).f4), .string ((rd_T26 x136008_1 0).f5), .slice A166_8 ((rd_T26 x136008_1 0).f6).length c166_8]) (ok := (fun k_ => (w.heap.size ≤ k_) ∧ some k_ ≠ (.slice (some ad161) x136008_1.length co75 : Value).ownBlock ∧ k_ ≠ gb133 ∧ k_ ≠ gb134 ∧ k_ ≠ gb135)) (okp := (fun k_ => (w.heap.size ≤ k_) ∧ some k_ ≠ (.slice (some ad161) x136008_1.length co75 : Value).ownBlock ∧ k_ ≠ gb133 ∧ k_ ≠ gb134 ∧ k_ ≠ gb135)) ?hr ?hp (fun _ hk => hk) ((show ∀ k_, w78.heap.size ≤ k_ → (fun k_ => (w.heap.size ≤ k_) ∧ some k_ ≠ (.slice (some ad161) x136008_1.length co75 : Value).ownBlock ∧ k_ ≠ gb133 ∧ k_ ≠ gb134 ∧ k_ ≠ gb135) k_ from fun k_ hk => ⟨(Nat.le_trans (below_size (by repeat (first | (with_reducible first | exact HB.out | apply blA | apply pbN | apply blD | refine blS ?_ GE133.out | refine blS ?_ GE134.out | refine blS ?_ GE135.out) | exact HB.out))) hk), Kd.fresh' (Kd.N_lt (by (with_reducible repeat (first | apply Kd.N_alloc | apply Kd.N_drewN | apply Kd.N_drew)); exact HO_136008.out)) k_ hk, Kd.freshB (g := gb133) (o := .cells #[.int .i64 a0_0, .int .i64 a0_1, .int .i64 a0_2, .string a0_3, .int .i64 a0_4, .int .i64 a0_5, .int .i64 a0_6, .string a0_7, .slice A0_8 l0_8.length c0_8] 26 (0, 0)) (by exact BK133.out) k_ hk, Kd.freshB (g := gb134) (o := .cells #[.int .i64 0, .int .i64 0, .int .i64 0, .string (⟨#[]⟩ : ByteArray), .int .i64 0, .int .i64 0, .int .i64 0, .string (⟨#[]⟩ : ByteArray), .slice none 0 0] 26 (0, 0)) (by exact BK134.out) k_ hk, Kd.freshB (g := gb135) (o := .cells #[.int .i64 a0_0, .int .i64 a0_1, .int .i64 a0_2, .string a0_3, .int .i64 a0_4, .int .i64 a0_5, .int .i64 a0_6, .string a0_7, .slice (some ad161) x136008_1.length co75] 26 (0, 0)) (by exact BK135.out) k_ hk⟩) _ (Nat.le_refl _)) (Below.refl _ _) (Nat.le_refl _) (by simp) ?_; (case hd => rfl); (case hg => rfl); (case hr => first | (go_simp; done) | (go_simp; rfl)); (case hp => exact (Reps.c9 (show Kd.FK k26 _ _ (⟨(rd_T26 x136008_1 1).f0, (⟨(rd_T26 x136008_1 1).f1.f0, (rd_T26 x136008_1 1).f1.f1, (rd_T26 x136008_1 1).f1.f2⟩ : S23), (rd_T26 x136008_1 1).f2, (rd_T26 x136008_1 1).f3, (rd_T26 x136008_1 1).f4, (rd_T26 x136008_1 1).f5, (rd_T26 x136008_1 1).f6⟩ : S26) [.int .i64 ((rd_T26 x136008_1 1).f0), .int .i64 ((rd_T26 x136008_1 1).f1.f0), .int .i64 ((rd_T26 x136008_1 1).f1.f1), .string ((rd_T26 x136008_1 1).f1.f2), .int .i64 ((rd_T26 x136008_1 1).f2), .int .i64 ((rd_T26 x136008_1 1).f3), .int .i64 ((rd_T26 x136008_1 1).f4), .string ((rd_T26 x136008_1 1).f5), .slice A165_8 ((rd_T26 x136008_1 1).f6).length c165_8] from (k26_mkF _ _ (⟨(rd_T26 x136008_1 1).f0, (⟨(rd_T26 x136008_1 1).f1.f0, (rd_T26 x136008_1 1).f1.f1, (rd_T26 x136008_1 1).f1.f2⟩ : S23), (rd_T26 x136008_1 1).f2, (rd_T26 x136008_1 1).f3, (rd_T26 x136008_1 1).f4, (rd_T26 x136008_1 1).f5, (rd_T26 x136008_1 1).f6⟩ : S26) (Kd.V_reads' (Kd.V_mono (ok' := (fun k_ => (w.heap.size ≤ k_) ∧ some k_ ≠ (.slice (some ad161) x136008_1.length co75 : Value).ownBlock ∧ k_ ≠ gb133 ∧ k_ ≠ gb134 ∧ k_ ≠ gb135)) (HL165_8.out) (fun k_ hk => ⟨hk.1.1, ⟨hk.2, ⟨hk.1.2.1, ⟨hk.1.2.2.1, hk.1.2.2.2⟩⟩⟩⟩))).2.1 (Kd.V_F (Kd.V_mono (ok' := (fun k_ => (w.heap.size ≤ k_) ∧ some k_ ≠ (.slice (some ad161) x136008_1.length co75 : Value).ownBlock ∧ k_ ≠ gb133 ∧ k_ ≠ gb134 ∧ k_ ≠ gb135)) (HL165_8.out) (fun k_ hk => ⟨hk.1.1, ⟨hk.2, ⟨hk.1.2.1, ⟨hk.1.2.2.1, hk.1.2.2.2⟩⟩⟩⟩))))) (Reps.c9 (show Kd.FK k26 _ _ (⟨(rd_T26 x136008_1 0).f0, (⟨(rd_T26 x136008_1 0).f1.f0, (rd_T26 x136008_1 0).f1.f1, (rd_T26 x136008_1 0).f1.f2⟩ : S23), (rd_T26 x136008_1 0).f2, (rd_T26 x136008_1 0).f3, (rd_T26 x136008_1 0).f4, (rd_T26 x136008_1 0).f5, (rd_T26 x136008_1 0).f6⟩ : S26) [.int .i64 ((rd_T26 x136008_1 0).f0), .int .i64 ((rd_T26 x136008_1 0).f1.f0), .int .i64 ((rd_T26 x136008_1 0).f1.f1), .string ((rd_T26 x136008_1 0).f1.f2), .int .i64 ((rd_T26 x136008_1 0).f2), .int .i64 ((rd_T26 x136008_1 0).f3), .int .i64 ((rd_T26 x136008_1 0).f4), .string ((rd_T26 x136008_1 0).f5), .slice A166_8 ((rd_T26 x136008_1 0).f6).length c166_8] from (k26_mkF _ _ (⟨(rd_T26 x136008_1 0).f0, (⟨(rd_T26 x136008_1 0).f1.f0, (rd_T26 x136008_1 0).f1.f1, (rd_T26 x136008_1 0).f1.f2⟩ : S23), (rd_T26 x136008_1 0).f2, (rd_T26 x136008_1 0).f3, (rd_T26 x136008_1 0).f4, (rd_T26 x136008_1 0).f5, (rd_T26 x136008_1 0).f6⟩ : S26) (Kd.V_reads' (Kd.V_mono (ok' := (fun k_ => (w.heap.size ≤ k_) ∧ some k_ ≠ (.slice (some ad161) x136008_1.length co75 : Value).ownBlock ∧ k_ ≠ gb133 ∧ k_ ≠ gb134 ∧ k_ ≠ gb135)) (HL166_8.out) (fun k_ hk => ⟨hk.1.1, ⟨hk.2, ⟨hk.1.2.1, ⟨hk.1.2.2.1, hk.1.2.2.2⟩⟩⟩⟩))).2.1 (Kd.V_F (Kd.V_mono (ok' := (fun k_ => (w.heap.size ≤ k_) ∧ some k_ ≠ (.slice (some ad161) x136008_1.length co75 : Value).ownBlock ∧ k_ ≠ gb133 ∧ k_ ≠ gb134 ∧ k_ ≠ gb135)) (HL166_8.out) (fun k_ hk => ⟨hk.1.1, ⟨hk.2, ⟨hk.1.2.1, ⟨hk.1.2.2.1, hk.1.2.2.2⟩⟩⟩⟩))))) (Reps.none _ _))))
            intro v168 w79 ho80 hb hg_ hnew_
            have HS9_ := (hb.cell (World.block_lt_of_cell? _ _ (hHeld.2.2.2.2.2.2.2.2.2.1))).trans (hHeld.2.2.2.2.2.2.2.2.2.1)
            have HS10_ := (hb.cell (World.block_lt_of_cell? _ _ (hHeld.2.2.2.2.2.2.2.2.2.2.1))).trans (hHeld.2.2.2.2.2.2.2.2.2.2.1)
            have HS11_ := (hb.cell (World.block_lt_of_cell? _ _ (hHeld.2.2.2.2.2.2.2.2.2.2.2.1))).trans (hHeld.2.2.2.2.2.2.2.2.2.2.2.1)
            have HS12_ := (hb.cell (World.block_lt_of_cell? _ _ (hHeld.2.2.2.2.2.2.2.2.2.2.2.2.1))).trans (hHeld.2.2.2.2.2.2.2.2.2.2.2.2.1)
            have HS13_ := (hb.cell (World.block_lt_of_cell? _ _ (hHeld.2.2.2.2.2.2.2.2.2.2.2.2.2.1))).trans (hHeld.2.2.2.2.2.2.2.2.2.2.2.2.2.1)
            have HS14_ := (hb.cell (World.block_lt_of_cell? _ _ (hHeld.2.2.2.2.2.2.2.2.2.2.2.2.2.2.1))).trans (hHeld.2.2.2.2.2.2.2.2.2.2.2.2.2.2.1)
            have HS15_ := (hb.cell (World.block_lt_of_cell? _ _ (hHeld.2.2.2.2.2.2.2.2.2.2.2.2.2.2.2.1))).trans (hHeld.2.2.2.2.2.2.2.2.2.2.2.2.2.2.2.1)
            have HS16_ := (hb.cell (World.block_lt_of_cell? _ _ (hHeld.2.2.2.2.2.2.2.2.2.2.2.2.2.2.2.2.1))).trans (hHeld.2.2.2.2.2.2.2.2.2.2.2.2.2.2.2.2.1)
            have HS17_ := (hb.cell (World.block_lt_of_cell? _ _ (hHeld.2.2.2.2.2.2.2.2.2.2.2.2.2.2.2.2.2.1))).trans (hHeld.2.2.2.2.2.2.2.2.2.2.2.2.2.2.2.2.2.1)
            have HS18_ := (hb.cell (World.block_lt_of_cell? _ _ (hHeld.2.2.2.2.2.2.2.2.2.2.2.2.2.2.2.2.2.2.1))).trans (hHeld.2.2.2.2.2.2.2.2.2.2.2.2.2.2.2.2.2.2.1)
            have HS19_ := (hb.cell (World.block_lt_of_cell? _ _ (hHeld.2.2.2.2.2.2.2.2.2.2.2.2.2.2.2.2.2.2.2.1))).trans (hHeld.2.2.2.2.2.2.2.2.2.2.2.2.2.2.2.2.2.2.2.1)
            have HS20_ := (hb.cell (World.block_lt_of_cell? _ _ (hHeld.2.2.2.2.2.2.2.2.2.2.2.2.2.2.2.2.2.2.2.2.1))).trans (hHeld.2.2.2.2.2.2.2.2.2.2.2.2.2.2.2.2.2.2.2.2.1)
            have HS21_ := (hb.cell (World.block_lt_of_cell? _ _ (hHeld.2.2.2.2.2.2.2.2.2.2.2.2.2.2.2.2.2.2.2.2.2.1))).trans (hHeld.2.2.2.2.2.2.2.2.2.2.2.2.2.2.2.2.2.2.2.2.2.1)
            have HS22_ := (hb.cell (World.block_lt_of_cell? _ _ (hHeld.2.2.2.2.2.2.2.2.2.2.2.2.2.2.2.2.2.2.2.2.2.2.1))).trans (hHeld.2.2.2.2.2.2.2.2.2.2.2.2.2.2.2.2.2.2.2.2.2.2.1)
            have HS23_ := (hb.cell (World.block_lt_of_cell? _ _ (hHeld.2.2.2.2.2.2.2.2.2.2.2.2.2.2.2.2.2.2.2.2.2.2.2.1))).trans (hHeld.2.2.2.2.2.2.2.2.2.2.2.2.2.2.2.2.2.2.2.2.2.2.2.1)
            have HS24_ := (hb.cell (World.block_lt_of_cell? _ _ (hHeld.2.2.2.2.2.2.2.2.2.2.2.2.2.2.2.2.2.2.2.2.2.2.2.2.1))).trans (hHeld.2.2.2.2.2.2.2.2.2.2.2.2.2.2.2.2.2.2.2.2.2.2.2.2.1)
            have HS25_ := (hb.cell (World.block_lt_of_cell? _ _ (hHeld.2.2.2.2.2.2.2.2.2.2.2.2.2.2.2.2.2.2.2.2.2.2.2.2.2.1))).trans (hHeld.2.2.2.2.2.2.2.2.2.2.2.2.2.2.2.2.2.2.2.2.2.2.2.2.2.1)
            have HS26_ := (hb.cell (World.block_lt_of_cell? _ _ (hHeld.2.2.2.2.2.2.2.2.2.2.2.2.2.2.2.2.2.2.2.2.2.2.2.2.2.2))).trans (hHeld.2.2.2.2.2.2.2.2.2.2.2.2.2.2.2.2.2.2.2.2.2.2.2.2.2.2)
            clear hg_ hnew_
            (first | rw [← Ny167.out] at ho80 | (simp only [Int.reduceToNat] at ho80; rw [← Ny167.out] at ho80))
            have n0_ := Asd.mk (Kd.N_elder' (by (with_reducible repeat (first | apply Kd.N_alloc | apply Kd.N_drewN | apply Kd.N_drew)); exact HO_136008.out) (Kd.N_base ho80) hb)
            have n1_ := Asd.mk (Kd.V_elder' (by (with_reducible repeat (first | apply Kd.V_alloc | apply Kd.V_drewN | apply Kd.V_drew)); exact HL161_8.out) (Kd.N_base ho80) hb)
            have n2_ := Asd.mk (Kd.V_elder' (by (with_reducible repeat (first | apply Kd.V_alloc | apply Kd.V_drewN | apply Kd.V_drew)); exact HL163_8.out) (Kd.N_base ho80) hb)
            have n3_ := Asd.mk (Kd.V_elder' (by (with_reducible repeat (first | apply Kd.V_alloc | apply Kd.V_drewN | apply Kd.V_drew)); exact HL165_8.out) (Kd.N_base ho80) hb)
            have n4_ := Asd.mk (Kd.V_elder' (by (with_reducible repeat (first | apply Kd.V_alloc | apply Kd.V_drewN | apply Kd.V_drew)); exact HL166_8.out) (Kd.N_base ho80) hb)
            have n5_ := Asd.mk (Kd.N_lower ho80 (below_size (by repeat (first | (with_reducible first | exact HB.out | apply blA | apply pbN | apply blD | refine blS ?_ GE133.out | refine blS ?_ GE134.out | refine blS ?_ GE135.out) | exact HB.out))))
            have n6_ := Asd.mk (bB hb BK133.out)
            have n7_ := Asd.mk (bB hb BK134.out)
            have n8_ := Asd.mk (bB hb BK135.out)
            have n9_ := Asd.mk (Kd.C_below (by repeat (first | (with_reducible exact HR161_8.out) | (with_reducible refine Kd.C_alloc ?_ _) | (with_reducible refine Kd.C_drewN ?_ _) | (with_reducible refine Kd.C_drew ?_) | exact HR161_8.out)) hb)
            have n10_ := Asd.mk (Kd.C_below (by repeat (first | (with_reducible exact HR163_8.out) | (with_reducible refine Kd.C_alloc ?_ _) | (with_reducible refine Kd.C_drewN ?_ _) | (with_reducible refine Kd.C_drew ?_) | exact HR163_8.out)) hb)
            have n11_ := Asd.mk (Kd.C_below (by repeat (first | (with_reducible exact HR165_8.out) | (with_reducible refine Kd.C_alloc ?_ _) | (with_reducible refine Kd.C_drewN ?_ _) | (with_reducible refine Kd.C_drew ?_) | exact HR165_8.out)) hb)
            have n12_ := Asd.mk (Kd.C_below (by repeat (first | (with_reducible exact HR166_8.out) | (with_reducible refine Kd.C_alloc ?_ _) | (with_reducible refine Kd.C_drewN ?_ _) | (with_reducible refine Kd.C_drew ?_) | exact HR166_8.out)) hb)
            have n13_ := Asd.mk (bS hb HB.out)
            clear HO_136008 HL161_8 HL163_8 HL165_8 HL166_8 BK133 BK134 BK135 HR161_8 HR163_8 HR165_8 HR166_8 HB
            have HO_136008 := n0_
            have HL161_8 := n1_
            have HL163_8 := n2_
            have HL165_8 := n3_
            have HL166_8 := n4_
            have HO169 := n5_
            have BK133 := n6_
            have BK134 := n7_
            have BK135 := n8_
            have HR161_8 := n9_
            have HR163_8 := n10_
            have HR165_8 := n11_
            have HR166_8 := n12_
            have HB := n13_
            clear n0_ n1_ n2_ n3_ n4_ n5_ n6_ n7_ n8_ n9_ n10_ n11_ n12_ n13_ hb ho80
            obtain ⟨Ao81, co81, eo81⟩ := Kd.N_slice HO169.out
            (first | subst eo81 | (injection eo81 with f1_ f2_ f3_; have f4_ := f1_.symm; have f5_ := f3_.symm; clear f1_ f2_ f3_; subst f4_; subst f5_))
            refine hK.out _ _ ⟨(bkC BK135.out 0).trans rfl, (bkC BK135.out 1).trans rfl, (bkC BK135.out 2).trans rfl, (bkC BK135.out 3).trans rfl, (bkC BK135.out 4).trans rfl, (bkC BK135.out 5).trans rfl, (bkC BK135.out 6).trans rfl, (bkC BK135.out 7).trans rfl, (bkC BK135.out 8).trans rfl, HS9_, HS10_, HS11_, HS12_, HS13_, HS14_, HS15_, HS16_, HS17_, HS18_, HS19_, HS20_, HS21_, HS22_, HS23_, HS24_, HS25_, HS26_⟩ (fun hHeld => ?_)
            clear hK K
            refine norm_ (a' := ?_) ?_ ?_
            rotate_left
            ·show Act.put _ (some 61) _ = _
             simp only [Act.put, List.setIfInBounds_toArray, List.set_cons_zero, List.set_cons_succ, i64_w, i32_w]
             rfl
            refine pure_ (i := 9) (N := some 62) (v := ?_) (a' := ?_) #[true, true, true, true, true, true, true, true, true, true, false] rfl rfl (any_of HT_.out (by kernel_rfl)) (fun _ _ _ h => h) (Or.inl ⟨by rfl, ?_⟩) ?_ ?_
            rotate_left
            ·intro w'
             go_simp
             with_reducible rfl
            rotate_left
            ·simp only [Act.put, List.setIfInBounds_toArray, List.set_cons_zero, List.set_cons_succ, i64_w, i32_w]
             rfl
            refine last_ (i := 10) (N := none) #[true, true, true, true, true, true, true, true, true, true, true] rfl rfl (one_of HT_.out (by kernel_rfl)) (by decide) (fun K hK => ?_)
            have hs82 : w79.cell? ⟨gb135, 8, none⟩ = some (.slice (some ad161) x136008_1.length co75) := (bkC BK135.out 8).trans rfl
            have hfs82 := bkF BK135.out 8
            have hns82_0 := NB133_135.out
            have hns82_1 := NB134_135.out
            have hms82_0 := NB135_133.out
            have hms82_1 := NB135_134.out
            refine skip_ (w1 := ?_) (by rfl) rfl ?_ ?_
            rotate_left
            ·go_simp
             rfl
            refine hK.out _ _ ?_
            clear hK K
            refine done_ (done_of HT_.out (by kernel_rfl)) ?_
            have hnb83 := NB135_133.out
            have hnc83 := NB133_135.out
            have hnb84 := NB135_134.out
            have hnc84 := NB134_135.out
            obtain ⟨hcz85_0, hcz85_1, hcz85_2, hcz85_3, hcz85_4, hcz85_5, hcz85_6, hcz85_7, hcz85_8⟩ := bkC9 BK135.out
            obtain ⟨hfz85_0, hfz85_1, hfz85_2, hfz85_3, hfz85_4, hfz85_5, hfz85_6, hfz85_7, hfz85_8⟩ := bkF9 BK135.out
            have hnb86 := NB134_133.out
            have hnc86 := NB133_134.out
            obtain ⟨hcz87_0, hcz87_1, hcz87_2, hcz87_3, hcz87_4, hcz87_5, hcz87_6, hcz87_7, hcz87_8⟩ := bkC9 BK134.out
            obtain ⟨hfz87_0, hfz87_1, hfz87_2, hfz87_3, hfz87_4, hfz87_5, hfz87_6, hfz87_7, hfz87_8⟩ := bkF9 BK134.out
            try go_wp2
            refine bodyPost_ret (results_cell_row rfl _ _ gb134 26 #[.int .i64 a0_0, .int .i64 a0_1, .int .i64 a0_2, .string a0_3, .int .i64 a0_4, .int .i64 a0_5, .int .i64 a0_6, .string a0_7, .slice Ao81 y167.length co81] (0, 0) _ rfl (by refine blk_put (cs := #[.int .i64 a0_0, .int .i64 a0_1, .int .i64 a0_2, .string a0_3, .int .i64 a0_4, .int .i64 a0_5, .int .i64 a0_6, .string a0_7, .slice none 0 0]) ?_ 8 _ rfl; refine blk_put (cs := #[.int .i64 a0_0, .int .i64 a0_1, .int .i64 a0_2, .string a0_3, .int .i64 a0_4, .int .i64 a0_5, .int .i64 a0_6, .string (⟨#[]⟩ : ByteArray), .slice none 0 0]) ?_ 7 _ rfl; refine blk_put (cs := #[.int .i64 a0_0, .int .i64 a0_1, .int .i64 a0_2, .string a0_3, .int .i64 a0_4, .int .i64 a0_5, .int .i64 0, .string (⟨#[]⟩ : ByteArray), .slice none 0 0]) ?_ 6 _ rfl; refine blk_put (cs := #[.int .i64 a0_0, .int .i64 a0_1, .int .i64 a0_2, .string a0_3, .int .i64 a0_4, .int .i64 0, .int .i64 0, .string (⟨#[]⟩ : ByteArray), .slice none 0 0]) ?_ 5 _ rfl; refine blk_put (cs := #[.int .i64 a0_0, .int .i64 a0_1, .int .i64 a0_2, .string a0_3, .int .i64 0, .int .i64 0, .int .i64 0, .string (⟨#[]⟩ : ByteArray), .slice none 0 0]) ?_ 4 _ rfl; refine blk_put (cs := #[.int .i64 a0_0, .int .i64 a0_1, .int .i64 a0_2, .string (⟨#[]⟩ : ByteArray), .int .i64 0, .int .i64 0, .int .i64 0, .string (⟨#[]⟩ : ByteArray), .slice none 0 0]) ?_ 3 _ rfl; refine blk_put (cs := #[.int .i64 a0_0, .int .i64 a0_1, .int .i64 0, .string (⟨#[]⟩ : ByteArray), .int .i64 0, .int .i64 0, .int .i64 0, .string (⟨#[]⟩ : ByteArray), .slice none 0 0]) ?_ 2 _ rfl; refine blk_put (cs := #[.int .i64 a0_0, .int .i64 0, .int .i64 0, .string (⟨#[]⟩ : ByteArray), .int .i64 0, .int .i64 0, .int .i64 0, .string (⟨#[]⟩ : ByteArray), .slice none 0 0]) ?_ 1 _ rfl; refine blk_put (cs := #[.int .i64 0, .int .i64 0, .int .i64 0, .string (⟨#[]⟩ : ByteArray), .int .i64 0, .int .i64 0, .int .i64 0, .string (⟨#[]⟩ : ByteArray), .slice none 0 0]) ?_ 0 _ rfl; (with_reducible repeat (first | refine bkN ?_ _ | refine bkD ?_ | refine bkA ?_ _)); refine blk_far ?_ NB134_135.out _; exact BK134.out) Tryd.underlying26 rfl (by kernel_rfl)) rfl ?_
            exact ⟨_, by first | rfl | (simp [errW_none, errW_some] <;> rfl) | (simp [*, errW_none, errW_some] <;> rfl), by (with_reducible repeat (first | apply Kd.N_alloc | apply Kd.N_drewN | apply Kd.N_drew)); exact Kd.N_mono (Kd.N_far (p := ⟨gb134, 8, none⟩) (Kd.N_far (p := ⟨gb134, 7, none⟩) (Kd.N_far (p := ⟨gb134, 6, none⟩) (Kd.N_far (p := ⟨gb134, 5, none⟩) (Kd.N_far (p := ⟨gb134, 4, none⟩) (Kd.N_far (p := ⟨gb134, 3, none⟩) (Kd.N_far (p := ⟨gb134, 2, none⟩) (Kd.N_far (p := ⟨gb134, 1, none⟩) (Kd.N_far (p := ⟨gb134, 0, none⟩) (Kd.N_far (p := ⟨gb135, 8, none⟩) (Kd.N_mono (Kd.N_mono HO169.out (fun k_ hk => (⟨hk, hk.2.2.2.2⟩ : _ ∧ k_ ≠ gb135))) (fun k_ hk => (⟨hk, hk.1.2.2.2.1⟩ : _ ∧ k_ ≠ gb134))) (fun _ hk => hk.1.2) (.slice Ao81 y167.length co81)) (fun _ hk => hk.2) (.int .i64 a0_0)) (fun _ hk => hk.2) (.int .i64 a0_1)) (fun _ hk => hk.2) (.int .i64 a0_2)) (fun _ hk => hk.2) (.string a0_3)) (fun _ hk => hk.2) (.int .i64 a0_4)) (fun _ hk => hk.2) (.int .i64 a0_5)) (fun _ hk => hk.2) (.int .i64 a0_6)) (fun _ hk => hk.2) (.string a0_7)) (fun _ hk => hk.2) (.slice Ao81 y167.length co81)) (fun _ hk => hk.1.1.1), by repeat (first | (with_reducible first | exact HB.out | apply blA | apply pbN | apply blD | refine blS ?_ GE133.out | refine blS ?_ GE134.out | refine blS ?_ GE135.out) | exact HB.out)⟩
           ·rw [if_neg c73] at H
            have c73b0 : (Op.bytesLess t162.toList t164.toList) = false := by simpa using c73
            clear c73
            simp only [Option.some.injEq, Prod.mk.injEq] at H
            obtain ⟨rfl, rfl, rfl, rfl, rfl, rfl, rfl, rfl, rfl⟩ := H
            try go_wp2
            have n0_ := Asd.mk (Kd.N_drew HO_136008.out)
            have n1_ := Asd.mk (bkD BK133.out)
            have n2_ := Asd.mk (bkD BK134.out)
            have n3_ := Asd.mk (bkD BK135.out)
            have n4_ := Asd.mk (blD HB.out)
            clear HO_136008 BK133 BK134 BK135 HB
            have HO_136008 := n0_
            have BK133 := n1_
            have BK134 := n2_
            have BK135 := n3_
            have HB := n4_
            clear n0_ n1_ n2_ n3_ n4_
            obtain ⟨Ao89, co89, eo89⟩ := Kd.N_slice HO_136008.out
            (first | subst eo89 | (injection eo89 with f1_ f2_ f3_; have f4_ := f1_.symm; have f5_ := f3_.symm; clear f1_ f2_ f3_; subst f4_; subst f5_))
            have p161 : 0 ≤ (1 : Int) := (by omega)
            have q161 : 1 < (x136008_1.length : Int) := of_decide_eq_true (by first | (with_reducible assumption) | assumption)
            obtain ⟨ad161, A161_8, c161_8, e161, hx161_0, hx161_1, hx161_2, hx161_3, hx161_4, hx161_5, hx161_6, hx161_7, hx161_8, hl161_8, hi161_8⟩ := at_T26 (Kd.N_reads' HO_136008.out).2.2 1 p161 q161
            cases e161
            obtain ⟨ce161, hce161, hMe161, hcc161⟩ := Kd.N_get HO_136008.out z26 1 p161 (by first | exact q161 | exact of_decide_eq_true (by first | (with_reducible assumption) | assumption) | (have e_ := (Kd.N_reads' HO_136008.out).1; omega))
            obtain ⟨ua161_8, uc161_8, rfl, ul161_8, ge161_8⟩ := k26_openF hMe161
            have hv161_8 := hcc161 8 _ rfl
            rw [add_field _ _ 8 (by omega)] at hv161_8
            replace hv161_8 := Option.some.inj (hv161_8.symm.trans hx161_8)
            injection hv161_8 with hva_ hvn_ hvc_
            rw [hva_] at ge161_8
            rw [hvc_] at ul161_8
            have HL161_8 := Asd.mk (show Kd.V k26 26 _ w.heap.size _ _ ((rd_T26 x136008_1 1).f6) from Kd.V_mk ul161_8 ge161_8)
            clear hva_ hvn_ hvc_ ge161_8 ul161_8 hcc161 hce161
            (try simp only [show (1 : Int).toNat = 1 from rfl, Nat.reduceMul, Nat.reduceEqDiff, Go.Addr.add, ↓reduceIte] at hx161_0)
            (try simp only [show (1 : Int).toNat = 1 from rfl, Nat.reduceMul, Nat.reduceEqDiff, Go.Addr.add, ↓reduceIte] at hx161_1)
            (try simp only [show (1 : Int).toNat = 1 from rfl, Nat.reduceMul, Nat.reduceEqDiff, Go.Addr.add, ↓reduceIte] at hx161_2)
            (try simp only [show (1 : Int).toNat = 1 from rfl, Nat.reduceMul, Nat.reduceEqDiff, Go.Addr.add, ↓reduceIte] at hx161_3)
            (try simp only [show (1 : Int).toNat = 1 from rfl, Nat.reduceMul, Nat.reduceEqDiff, Go.Addr.add, ↓reduceIte] at hx161_4)
            (try simp only [show (1 : Int).toNat = 1 from rfl, Nat.reduceMul, Nat.reduceEqDiff, Go.Addr.add, ↓reduceIte] at hx161_5)
            (try simp only [show (1 : Int).toNat = 1 from rfl, Nat.reduceMul, Nat.reduceEqDiff, Go.Addr.add, ↓reduceIte] at hx161_6)
            (try simp only [show (1 : Int).toNat = 1 from rfl, Nat.reduceMul, Nat.reduceEqDiff, Go.Addr.add, ↓reduceIte] at hx161_7)
            (try simp only [show (1 : Int).toNat = 1 from rfl, Nat.reduceMul, Nat.reduceEqDiff, Go.Addr.add, ↓reduceIte] at hx161_8)
            have qi161 : (1 < x136008_1.length) = True := eq_true (by omega)
            (try rw [show ((1 : Int)).toNat = 1 from rfl] at hx161_0)
            (try rw [show 1 * 9 = 9 from rfl] at hx161_0)
            (try rw [show ((1 : Int)).toNat = 1 from rfl] at hx161_1)
            (try rw [show 1 * 9 = 9 from rfl] at hx161_1)
            (try rw [show ((1 : Int)).toNat = 1 from rfl] at hx161_2)
            (try rw [show 1 * 9 = 9 from rfl] at hx161_2)
            (try rw [show ((1 : Int)).toNat = 1 from rfl] at hx161_3)
            (try rw [show 1 * 9 = 9 from rfl] at hx161_3)
            (try rw [show ((1 : Int)).toNat = 1 from rfl] at hx161_4)
            (try rw [show 1 * 9 = 9 from rfl] at hx161_4)
            (try rw [show ((1 : Int)).toNat = 1 from rfl] at hx161_5)
            (try rw [show 1 * 9 = 9 from rfl] at hx161_5)
            (try rw [show ((1 : Int)).toNat = 1 from rfl] at hx161_6)
            (try rw [show 1 * 9 = 9 from rfl] at hx161_6)
            (try rw [show ((1 : Int)).toNat = 1 from rfl] at hx161_7)
            (try rw [show 1 * 9 = 9 from rfl] at hx161_7)
            (try rw [show ((1 : Int)).toNat = 1 from rfl] at hx161_8)
            (try rw [show 1 * 9 = 9 from rfl] at hx161_8)
            have HR161_8 := Asd.mk hi161_8
            have HC161_8 := Asd.mk hl161_8
            clear hi161_8 hl161_8
            replace p161 := eq_true p161
            replace q161 := eq_true q161
            have p163 : 0 ≤ (0 : Int) := (by omega)
            have q163 : 0 < (x136008_1.length : Int) := of_decide_eq_true (by first | (with_reducible assumption) | assumption)
            obtain ⟨ad163, A163_8, c163_8, e163, hx163_0, hx163_1, hx163_2, hx163_3, hx163_4, hx163_5, hx163_6, hx163_7, hx163_8, hl163_8, hi163_8⟩ := at_T26 (Kd.N_reads' HO_136008.out).2.2 0 p163 q163
            obtain rfl : ad161 = ad163 := (by injection e163)
            obtain ⟨ce163, hce163, hMe163, hcc163⟩ := Kd.N_get HO_136008.out z26 0 p163 (by first | exact q163 | exact of_decide_eq_true (by first | (with_reducible assumption) | assumption) | (have e_ := (Kd.N_reads' HO_136008.out).1; omega))
            obtain ⟨ua163_8, uc163_8, rfl, ul163_8, ge163_8⟩ := k26_openF hMe163
            have hv163_8 := hcc163 8 _ rfl
            rw [add_field _ _ 8 (by omega)] at hv163_8
            replace hv163_8 := Option.some.inj (hv163_8.symm.trans hx163_8)
            injection hv163_8 with hva_ hvn_ hvc_
            rw [hva_] at ge163_8
            rw [hvc_] at ul163_8
            have HL163_8 := Asd.mk (show Kd.V k26 26 _ w.heap.size _ _ ((rd_T26 x136008_1 0).f6) from Kd.V_mk ul163_8 ge163_8)
            clear hva_ hvn_ hvc_ ge163_8 ul163_8 hcc163 hce163
            have qi163 : (0 < x136008_1.length) = True := eq_true (by omega)
            (try rw [show ((0 : Int)).toNat = 0 from rfl] at hx163_0)
            (try rw [show 0 * 9 = 0 from rfl] at hx163_0)
            (try rw [Addr.add_zero'] at hx163_0)
            (try rw [show ((0 : Int)).toNat = 0 from rfl] at hx163_1)
            (try rw [show 0 * 9 = 0 from rfl] at hx163_1)
            (try rw [Addr.add_zero'] at hx163_1)
            (try rw [show ((0 : Int)).toNat = 0 from rfl] at hx163_2)
            (try rw [show 0 * 9 = 0 from rfl] at hx163_2)
            (try rw [Addr.add_zero'] at hx163_2)
            (try rw [show ((0 : Int)).toNat = 0 from rfl] at hx163_3)
            (try rw [show 0 * 9 = 0 from rfl] at hx163_3)
            (try rw [Addr.add_zero'] at hx163_3)
            (try rw [show ((0 : Int)).toNat = 0 from rfl] at hx163_4)
            (try rw [show 0 * 9 = 0 from rfl] at hx163_4)
            (try rw [Addr.add_zero'] at hx163_4)
            (try rw [show ((0 : Int)).toNat = 0 from rfl] at hx163_5)
            (try rw [show 0 * 9 = 0 from rfl] at hx163_5)
            (try rw [Addr.add_zero'] at hx163_5)
            (try rw [show ((0 : Int)).toNat = 0 from rfl] at hx163_6)
            (try rw [show 0 * 9 = 0 from rfl] at hx163_6)
            (try rw [Addr.add_zero'] at hx163_6)
            (try rw [show ((0 : Int)).toNat = 0 from rfl] at hx163_7)
            (try rw [show 0 * 9 = 0 from rfl] at hx163_7)
            (try rw [Addr.add_zero'] at hx163_7)
            (try rw [show ((0 : Int)).toNat = 0 from rfl] at hx163_8)
            (try rw [show 0 * 9 = 0 from rfl] at hx163_8)
            (try rw [Addr.add_zero'] at hx163_8)
            have HR163_8 := Asd.mk hi163_8
            have HC163_8 := Asd.mk hl163_8
            clear hi163_8 hl163_8
            replace p163 := eq_true p163
            replace q163 := eq_true q163
            refine start_ (n := 12) (S := fun w' => w'.cell? ⟨gb135, 0, none⟩ = some (.int .i64 a0_0) ∧ w'.cell? ⟨gb135, 1, none⟩ = some (.int .i64 a0_1) ∧ w'.cell? ⟨gb135, 2, none⟩ = some (.int .i64 a0_2) ∧ w'.cell? ⟨gb135, 3, none⟩ = some (.string a0_3) ∧ w'.cell? ⟨gb135, 4, none⟩ = some (.int .i64 a0_4) ∧ w'.cell? ⟨gb135, 5, none⟩ = some (.int .i64 a0_5) ∧ w'.cell? ⟨gb135, 6, none⟩ = some (.int .i64 a0_6) ∧ w'.cell? ⟨gb135, 7, none⟩ = some (.string a0_7) ∧ w'.cell? ⟨gb135, 8, none⟩ = some (.slice (some ad161) x136008_1.length co89) ∧ w'.cell? ⟨ad161.block, ad161.off + 9, none⟩ = some (.int .i64 ((rd_T26 x136008_1 1).f0)) ∧ w'.cell? ⟨ad161.block, ad161.off + 9 + 1, none⟩ = some (.int .i64 ((rd_T26 x136008_1 1).f1.f0)) ∧ w'.cell? ⟨ad161.block, ad161.off + 9 + 2, none⟩ = some (.int .i64 ((rd_T26 x136008_1 1).f1.f1)) ∧ w'.cell? ⟨ad161.block, ad161.off + 9 + 3, none⟩ = some (.string ((rd_T26 x136008_1 1).f1.f2)) ∧ w'.cell? ⟨ad161.block, ad161.off + 9 + 4, none⟩ = some (.int .i64 ((rd_T26 x136008_1 1).f2)) ∧ w'.cell? ⟨ad161.block, ad161.off + 9 + 5, none⟩ = some (.int .i64 ((rd_T26 x136008_1 1).f3)) ∧ w'.cell? ⟨ad161.block, ad161.off + 9 + 6, none⟩ = some (.int .i64 ((rd_T26 x136008_1 1).f4)) ∧ w'.cell? ⟨ad161.block, ad161.off + 9 + 7, none⟩ = some (.string ((rd_T26 x136008_1 1).f5)) ∧ w'.cell? ⟨ad161.block, ad161.off + 9 + 8, none⟩ = some (.slice A161_8 ((rd_T26 x136008_1 1).f6).length c161_8) ∧ w'.cell? ad161 = some (.int .i64 ((rd_T26 x136008_1 0).f0)) ∧ w'.cell? ⟨ad161.block, ad161.off + 1, none⟩ = some (.int .i64 ((rd_T26 x136008_1 0).f1.f0)) ∧ w'.cell? ⟨ad161.block, ad161.off + 2, none⟩ = some (.int .i64 ((rd_T26 x136008_1 0).f1.f1)) ∧ w'.cell? ⟨ad161.block, ad161.off + 3, none⟩ = some (.string ((rd_T26 x136008_1 0).f1.f2)) ∧ w'.cell? ⟨ad161.block, ad161.off + 4, none⟩ = some (.int .i64 ((rd_T26 x136008_1 0).f2)) ∧ w'.cell? ⟨ad161.block, ad161.off + 5, none⟩ = some (.int .i64 ((rd_T26 x136008_1 0).f3)) ∧ w'.cell? ⟨ad161.block, ad161.off + 6, none⟩ = some (.int .i64 ((rd_T26 x136008_1 0).f4)) ∧ w'.cell? ⟨ad161.block, ad161.off + 7, none⟩ = some (.string ((rd_T26 x136008_1 0).f5)) ∧ w'.cell? ⟨ad161.block, ad161.off + 8, none⟩ = some (.slice A163_8 ((rd_T26 x136008_1 0).f6).length c163_8)) (ds := []) #[false, false, false, false, false, false, false, false, false, false, false, false] (by kernel_rfl) rfl rfl ⟨(bkC BK135.out 0).trans rfl, (bkC BK135.out 1).trans rfl, (bkC BK135.out 2).trans rfl, (bkC BK135.out 3).trans rfl, (bkC BK135.out 4).trans rfl, (bkC BK135.out 5).trans rfl, (bkC BK135.out 6).trans rfl, (bkC BK135.out 7).trans rfl, (bkC BK135.out 8).trans rfl, hx161_0, hx161_1, hx161_2, hx161_3, hx161_4, hx161_5, hx161_6, hx161_7, hx161_8, hx163_0, hx163_1, hx163_2, hx163_3, hx163_4, hx163_5, hx163_6, hx163_7, hx163_8⟩ (fun hHeld => ?_); refine with_tabW q12_normal.tab21 q12_normal.bits21 (fun HT_ HW_ => ?_)
            generalize wc.drew = w88 at HO_136008 BK133 BK134 BK135 HB HL161_8 HL163_8 HR161_8 HR163_8 hx161_0 hx161_1 hx161_2 hx161_3 hx161_4 hx161_5 hx161_6 hx161_7 hx161_8 hx163_0 hx163_1 hx163_2 hx163_3 hx163_4 hx163_5 hx163_6 hx163_7 hx163_8 hHeld ⊢
            refine pure_ (i := 0) (N := some 41) (v := ?_) (a' := ?_) #[true, false, false, false, false, false, false, false, false, false, false, false] rfl rfl (any_of HT_.out (by kernel_rfl)) (fun _ _ _ h => h) (Or.inl ⟨by rfl, ?_⟩) ?_ ?_
            rotate_left
            ·intro w'
             go_simp
             with_reducible rfl
            rotate_left
            ·simp only [Act.put, List.setIfInBounds_toArray, List.set_cons_zero, List.set_cons_succ, i64_w, i32_w]
             rfl
            refine pure_ (i := 5) (N := some 46) (v := ?_) (a' := ?_) #[true, false, false, false, false, true, false, false, false, false, false, false] rfl rfl (any_of HT_.out (by kernel_rfl)) (fun _ _ _ h => h) (Or.inl ⟨by rfl, ?_⟩) ?_ ?_
            rotate_left
            ·intro w'
             go_simp
             with_reducible rfl
            rotate_left
            ·simp only [Act.put, List.setIfInBounds_toArray, List.set_cons_zero, List.set_cons_succ, i64_w, i32_w]
             rfl
            refine take_ (i := 1) (N := some 42) (v := ?_) (a' := ?_) #[true, true, false, false, false, true, false, false, false, false, false, false] rfl rfl (take_ofW HT_.out HW_.out (by kernel_rfl)) (fun _ _ _ h => h) (Or.inl ⟨by rfl, ?_⟩) hHeld ?_ ?_
            rotate_left
            ·rintro w' ⟨s0, s1, s2, s3, s4, s5, s6, s7, s8, s9, s10, s11, s12, s13, s14, s15, s16, s17, s18, s19, s20, s21, s22, s23, s24, s25, s26⟩
             go_simp
             with_reducible rfl
            rotate_left
            ·simp only [Act.put, List.setIfInBounds_toArray, List.set_cons_zero, List.set_cons_succ, i64_w, i32_w]
             rfl
            refine pure_ (i := 2) (N := some 43) (v := ?_) (a' := ?_) #[true, true, true, false, false, true, false, false, false, false, false, false] rfl rfl (any_of HT_.out (by kernel_rfl)) (fun _ _ _ h => h) (Or.inl ⟨by rfl, ?_⟩) ?_ ?_
            rotate_left
            ·intro w'
             go_simp
             with_reducible rfl
            rotate_left
            ·simp only [Act.put, List.setIfInBounds_toArray, List.set_cons_zero, List.set_cons_succ, i64_w, i32_w]
             rfl
            refine take_ (i := 3) (N := some 44) (v := ?_) (a' := ?_) #[true, true, true, true, false, true, false, false, false, false, false, false] rfl rfl (take_ofW HT_.out HW_.out (by kernel_rfl)) (fun _ _ _ h => h) (Or.inl ⟨by rfl, ?_⟩) hHeld ?_ ?_
            rotate_left
            ·rintro w' ⟨s0, s1, s2, s3, s4, s5, s6, s7, s8, s9, s10, s11, s12, s13, s14, s15, s16, s17, s18, s19, s20, s21, s22, s23, s24, s25, s26⟩
             go_simp
             with_reducible rfl
            rotate_left
            ·simp only [Act.put, List.setIfInBounds_toArray, List.set_cons_zero, List.set_cons_succ, i64_w, i32_w]
             rfl
            refine take_ (i := 6) (N := some 47) (v := ?_) (a' := ?_) #[true, true, true, true, false, true, true, false, false, false, false, false] rfl rfl (take_ofW HT_.out HW_.out (by kernel_rfl)) (fun _ _ _ h => h) (Or.inl ⟨by rfl, ?_⟩) hHeld ?_ ?_
            rotate_left
            ·rintro w' ⟨s0, s1, s2, s3, s4, s5, s6, s7, s8, s9, s10, s11, s12, s13, s14, s15, s16, s17, s18, s19, s20, s21, s22, s23, s24, s25, s26⟩
             go_simp
             with_reducible rfl
            rotate_left
            ·simp only [Act.put, List.setIfInBounds_toArray, List.set_cons_zero, List.set_cons_succ, i64_w, i32_w]
             rfl
            refine pure_ (i := 7) (N := some 48) (v := ?_) (a' := ?_) #[true, true, true, true, false, true, true, true, false, false, false, false] rfl rfl (any_of HT_.out (by kernel_rfl)) (fun _ _ _ h => h) (Or.inl ⟨by rfl, ?_⟩) ?_ ?_
            rotate_left
            ·intro w'
             go_simp
             with_reducible rfl
            rotate_left
            ·simp only [Act.put, List.setIfInBounds_toArray, List.set_cons_zero, List.set_cons_succ, i64_w, i32_w]
             rfl
            refine take_ (i := 8) (N := some 49) (v := ?_) (a' := ?_) #[true, true, true, true, false, true, true, true, true, false, false, false] rfl rfl (take_ofW HT_.out HW_.out (by kernel_rfl)) (fun _ _ _ h => h) (Or.inl ⟨by rfl, ?_⟩) hHeld ?_ ?_
            rotate_left
            ·rintro w' ⟨s0, s1, s2, s3, s4, s5, s6, s7, s8, s9, s10, s11, s12, s13, s14, s15, s16, s17, s18, s19, s20, s21, s22, s23, s24, s25, s26⟩
             go_simp
             with_reducible rfl
            rotate_left
            ·simp only [Act.put, List.setIfInBounds_toArray, List.set_cons_zero, List.set_cons_succ, i64_w, i32_w]
             rfl
            refine one_ (i := 4) (N := some 45) #[true, true, true, true, true, true, true, true, true, false, false, false] rfl rfl (one_of HT_.out (by kernel_rfl)) (by decide) (fun K hK => ?_)
            refine goes_ Tryd.func9 (by kernel_rfl) rfl #[.agg #[.int .i64 ((rd_T26 x136008_1 1).f0), .int .i64 ((rd_T26 x136008_1 1).f1.f0), .int .i64 ((rd_T26 x136008_1 1).f1.f1), .string ((rd_T26 x136008_1 1).f1.f2), .int .i64 ((rd_T26 x136008_1 1).f2), .int .i64 ((rd_T26 x136008_1 1).f3), .int .i64 ((rd_T26 x136008_1 1).f4), .string ((rd_T26 x136008_1 1).f5), .slice A161_8 ((rd_T26 x136008_1 1).f6).length c161_8]] (by rfl) rfl rfl (by (try simp only [List.map_toArray, List.map_cons, List.map_nil]); first | done | rfl | (simp only [List.length_drop, List.length_take]; rfl)) ?_
            with_reducible refine (q08_Print.calls ((rd_T26 x136008_1 1).f0) ((rd_T26 x136008_1 1).f1.f0) ((rd_T26 x136008_1 1).f1.f1) ((rd_T26 x136008_1 1).f1.f2) ((rd_T26 x136008_1 1).f2) ((rd_T26 x136008_1 1).f3) ((rd_T26 x136008_1 1).f4) ((rd_T26 x136008_1 1).f5) _ _ ((rd_T26 x136008_1 1).f6) t162 _ ?side1 ?side2 A70.out).mono ?_
            (case side1 => repeat (first | exact (by repeat (first | (with_reducible exact HR161_8.out) | (with_reducible refine Kd.C_alloc ?_ _) | (with_reducible refine Kd.C_drewN ?_ _) | (with_reducible refine Kd.C_drew ?_) | exact HR161_8.out)) | (with_reducible refine Kd.C_alloc ?_ _) | (with_reducible refine Kd.C_drewN ?_ _) | (with_reducible refine Kd.C_drew ?_)))
            (case side2 => exact HC161_8.out)
            rintro e w90 ⟨rfl, hb⟩
            have HS9_ := (hb.cell (World.block_lt_of_cell? _ _ (hHeld.2.2.2.2.2.2.2.2.2.1))).trans (hHeld.2.2.2.2.2.2.2.2.2.1)
            have HS10_ := (hb.cell (World.block_lt_of_cell? _ _ (hHeld.2.2.2.2.2.2.2.2.2.2.1))).trans (hHeld.2.2.2.2.2.2.2.2.2.2.1)
            have HS11_ := (hb.cell (World.block_lt_of_cell? _ _ (hHeld.2.2.2.2.2.2.2.2.2.2.2.1))).trans (hHeld.2.2.2.2.2.2.2.2.2.2.2.1)
            have HS12_ := (hb.cell (World.block_lt_of_cell? _ _ (hHeld.2.2.2.2.2.2.2.2.2.2.2.2.1))).trans (hHeld.2.2.2.2.2.2.2.2.2.2.2.2.1)
            have HS13_ := (hb.cell (World.block_lt_of_cell? _ _ (hHeld.2.2.2.2.2.2.2.2.2.2.2.2.2.1))).trans (hHeld.2.2.2.2.2.2.2.2.2.2.2.2.2.1)
            have HS14_ := (hb.cell (World.block_lt_of_cell? _ _ (hHeld.2.2.2.2.2.2.2.2.2.2.2.2.2.2.1))).trans (hHeld.2.2.2.2.2.2.2.2.2.2.2.2.2.2.1)
            have HS15_ := (hb.cell (World.block_lt_of_cell? _ _ (hHeld.2.2.2.2.2.2.2.2.2.2.2.2.2.2.2.1))).trans (hHeld.2.2.2.2.2.2.2.2.2.2.2.2.2.2.2.1)
            have HS16_ := (hb.cell (World.block_lt_of_cell? _ _ (hHeld.2.2.2.2.2.2.2.2.2.2.2.2.2.2.2.2.1))).trans (hHeld.2.2.2.2.2.2.2.2.2.2.2.2.2.2.2.2.1)
            have HS17_ := (hb.cell (World.block_lt_of_cell? _ _ (hHeld.2.2.2.2.2.2.2.2.2.2.2.2.2.2.2.2.2.1))).trans (hHeld.2.2.2.2.2.2.2.2.2.2.2.2.2.2.2.2.2.1)
            have HS18_ := (hb.cell (World.block_lt_of_cell? _ _ (hHeld.2.2.2.2.2.2.2.2.2.2.2.2.2.2.2.2.2.2.1))).trans (hHeld.2.2.2.2.2.2.2.2.2.2.2.2.2.2.2.2.2.2.1)
            have HS19_ := (hb.cell (World.block_lt_of_cell? _ _ (hHeld.2.2.2.2.2.2.2.2.2.2.2.2.2.2.2.2.2.2.2.1))).trans (hHeld.2.2.2.2.2.2.2.2.2.2.2.2.2.2.2.2.2.2.2.1)
            have HS20_ := (hb.cell (World.block_lt_of_cell? _ _ (hHeld.2.2.2.2.2.2.2.2.2.2.2.2.2.2.2.2.2.2.2.2.1))).trans (hHeld.2.2.2.2.2.2.2.2.2.2.2.2.2.2.2.2.2.2.2.2.1)
            have HS21_ := (hb.cell (World.block_lt_of_cell? _ _ (hHeld.2.2.2.2.2.2.2.2.2.2.2.2.2.2.2.2.2.2.2.2.2.1))).trans (hHeld.2.2.2.2.2.2.2.2.2.2.2.2.2.2.2.2.2.2.2.2.2.1)
            have HS22_ := (hb.cell (World.block_lt_of_cell? _ _ (hHeld.2.2.2.2.2.2.2.2.2.2.2.2.2.2.2.2.2.2.2.2.2.2.1))).trans (hHeld.2.2.2.2.2.2.2.2.2.2.2.2.2.2.2.2.2.2.2.2.2.2.1)
            have HS23_ := (hb.cell (World.block_lt_of_cell? _ _ (hHeld.2.2.2.2.2.2.2.2.2.2.2.2.2.2.2.2.2.2.2.2.2.2.2.1))).trans (hHeld.2.2.2.2.2.2.2.2.2.2.2.2.2.2.2.2.2.2.2.2.2.2.2.1)
            have HS24_ := (hb.cell (World.block_lt_of_cell? _ _ (hHeld.2.2.2.2.2.2.2.2.2.2.2.2.2.2.2.2.2.2.2.2.2.2.2.2.1))).trans (hHeld.2.2.2.2.2.2.2.2.2.2.2.2.2.2.2.2.2.2.2.2.2.2.2.2.1)
            have HS25_ := (hb.cell (World.block_lt_of_cell? _ _ (hHeld.2.2.2.2.2.2.2.2.2.2.2.2.2.2.2.2.2.2.2.2.2.2.2.2.2.1))).trans (hHeld.2.2.2.2.2.2.2.2.2.2.2.2.2.2.2.2.2.2.2.2.2.2.2.2.2.1)
            have HS26_ := (hb.cell (World.block_lt_of_cell? _ _ (hHeld.2.2.2.2.2.2.2.2.2.2.2.2.2.2.2.2.2.2.2.2.2.2.2.2.2.2))).trans (hHeld.2.2.2.2.2.2.2.2.2.2.2.2.2.2.2.2.2.2.2.2.2.2.2.2.2.2)
            refine ⟨_, rfl, ?_⟩
            have n0_ := Asd.mk (Kd.N_below (by (with_reducible repeat (first | apply Kd.N_alloc | apply Kd.N_drewN | apply Kd.N_drew)); exact HO_136008.out) hb)
            have n1_ := Asd.mk (Kd.V_below (by (with_reducible repeat (first | apply Kd.V_alloc | apply Kd.V_drewN | apply Kd.V_drew)); exact HL161_8.out) hb)
            have n2_ := Asd.mk (Kd.V_below (by (with_reducible repeat (first | apply Kd.V_alloc | apply Kd.V_drewN | apply Kd.V_drew)); exact HL163_8.out) hb)
            have n3_ := Asd.mk (bB hb BK133.out)
            have n4_ := Asd.mk (bB hb BK134.out)
            have n5_ := Asd.mk (bB hb BK135.out)
            have n6_ := Asd.mk (Kd.C_below (by repeat (first | (with_reducible exact HR161_8.out) | (with_reducible refine Kd.C_alloc ?_ _) | (with_reducible refine Kd.C_drewN ?_ _) | (with_reducible refine Kd.C_drew ?_) | exact HR161_8.out)) hb)
            have n7_ := Asd.mk (Kd.C_below (by repeat (first | (with_reducible exact HR163_8.out) | (with_reducible refine Kd.C_alloc ?_ _) | (with_reducible refine Kd.C_drewN ?_ _) | (with_reducible refine Kd.C_drew ?_) | exact HR163_8.out)) hb)
            have n8_ := Asd.mk (bS hb HB.out)
            clear HO_136008 HL161_8 HL163_8 BK133 BK134 BK135 HR161_8 HR163_8 HB
            have HO_136008 := n0_
            have HL161_8 := n1_
            have HL163_8 := n2_
            have BK133 := n3_
            have BK134 := n4_
            have BK135 := n5_
            have HR161_8 := n6_
            have HR163_8 := n7_
            have HB := n8_
            clear n0_ n1_ n2_ n3_ n4_ n5_ n6_ n7_ n8_
            (try clear hb)
            (try clear hb2)
            (try clear hk)
            (try clear hi)
            refine hK.out _ _ ⟨(bkC BK135.out 0).trans rfl, (bkC BK135.out 1).trans rfl, (bkC BK135.out 2).trans rfl, (bkC BK135.out 3).trans rfl, (bkC BK135.out 4).trans rfl, (bkC BK135.out 5).trans rfl, (bkC BK135.out 6).trans rfl, (bkC BK135.out 7).trans rfl, (bkC BK135.out 8).trans rfl, HS9_, HS10_, HS11_, HS12_, HS13_, HS14_, HS15_, HS16_, HS17_, HS18_, HS19_, HS20_, HS21_, HS22_, HS23_, HS24_, HS25_, HS26_⟩ (fun hHeld => ?_)
            clear hK K
            refine norm_ (a' := ?_) ?_ ?_
            rotate_left
            ·show Act.put _ (some 45) _ = _
             simp only [Act.put, List.setIfInBounds_toArray, List.set_cons_zero, List.set_cons_succ, i64_w, i32_w]
             rfl
            refine one_ (i := 9) (N := some 50) #[true, true, true, true, true, true, true, true, true, true, false, false] rfl rfl (one_of HT_.out (by kernel_rfl)) (by decide) (fun K hK => ?_)
            refine goes_ Tryd.func9 (by kernel_rfl) rfl #[.agg #[.int .i64 ((rd_T26 x136008_1 0).f0), .int .i64 ((rd_T26 x136008_1 0).f1.f0), .int .i64 ((rd_T26 x136008_1 0).f1.f1), .string ((rd_T26 x136008_1 0).f1.f2), .int .i64 ((rd_T26 x136008_1 0).f2), .int .i64 ((rd_T26 x136008_1 0).f3), .int .i64 ((rd_T26 x136008_1 0).f4), .string ((rd_T26 x136008_1 0).f5), .slice A163_8 ((rd_T26 x136008_1 0).f6).length c163_8]] (by rfl) rfl rfl (by (try simp only [List.map_toArray, List.map_cons, List.map_nil]); first | done | rfl | (simp only [List.length_drop, List.length_take]; rfl)) ?_
            with_reducible refine (q08_Print.calls ((rd_T26 x136008_1 0).f0) ((rd_T26 x136008_1 0).f1.f0) ((rd_T26 x136008_1 0).f1.f1) ((rd_T26 x136008_1 0).f1.f2) ((rd_T26 x136008_1 0).f2) ((rd_T26 x136008_1 0).f3) ((rd_T26 x136008_1 0).f4) ((rd_T26 x136008_1 0).f5) _ _ ((rd_T26 x136008_1 0).f6) t164 _ ?side1 ?side2 A72.out).mono ?_
            (case side1 => repeat (first | exact (by repeat (first | (with_reducible exact HR163_8.out) | (with_reducible refine Kd.C_alloc ?_ _) | (with_reducible refine Kd.C_drewN ?_ _) | (with_reducible refine Kd.C_drew ?_) | exact HR163_8.out)) | (with_reducible refine Kd.C_alloc ?_ _) | (with_reducible refine Kd.C_drewN ?_ _) | (with_reducible refine Kd.C_drew ?_)))
            (case side2 => exact HC163_8.out)
            rintro e w91 ⟨rfl, hb⟩
            have HS9_ := (hb.cell (World.block_lt_of_cell? _ _ (hHeld.2.2.2.2.2.2.2.2.2.1))).trans (hHeld.2.2.2.2.2.2.2.2.2.1)
            have HS10_ := (hb.cell (World.block_lt_of_cell? _ _ (hHeld.2.2.2.2.2.2.2.2.2.2.1))).trans (hHeld.2.2.2.2.2.2.2.2.2.2.1)
            have HS11_ := (hb.cell (World.block_lt_of_cell? _ _ (hHeld.2.2.2.2.2.2.2.2.2.2.2.1))).trans (hHeld.2.2.2.2.2.2.2.2.2.2.2.1)
            have HS12_ := (hb.cell (World.block_lt_of_cell? _ _ (hHeld.2.2.2.2.2.2.2.2.2.2.2.2.1))).trans (hHeld.2.2.2.2.2.2.2.2.2.2.2.2.1)
            have HS13_ := (hb.cell (World.block_lt_of_cell? _ _ (hHeld.2.2.2.2.2.2.2.2.2.2.2.2.2.1))).trans (hHeld.2.2.2.2.2.2.2.2.2.2.2.2.2.1)
            have HS14_ := (hb.cell (World.block_lt_of_cell? _ _ (hHeld.2.2.2.2.2.2.2.2.2.2.2.2.2.2.1))).trans (hHeld.2.2.2.2.2.2.2.2.2.2.2.2.2.2.1)
            have HS15_ := (hb.cell (World.block_lt_of_cell? _ _ (hHeld.2.2.2.2.2.2.2.2.2.2.2.2.2.2.2.1))).trans (hHeld.2.2.2.2.2.2.2.2.2.2.2.2.2.2.2.1)
            have HS16_ := (hb.cell (World.block_lt_of_cell? _ _ (hHeld.2.2.2.2.2.2.2.2.2.2.2.2.2.2.2.2.1))).trans (hHeld.2.2.2.2.2.2.2.2.2.2.2.2.2.2.2.2.1)
            have HS17_ := (hb.cell (World.block_lt_of_cell? _ _ (hHeld.2.2.2.2.2.2.2.2.2.2.2.2.2.2.2.2.2.1))).trans (hHeld.2.2.2.2.2.2.2.2.2.2.2.2.2.2.2.2.2.1)
            have HS18_ := (hb.cell (World.block_lt_of_cell? _ _ (hHeld.2.2.2.2.2.2.2.2.2.2.2.2.2.2.2.2.2.2.1))).trans (hHeld.2.2.2.2.2.2.2.2.2.2.2.2.2.2.2.2.2.2.1)
            have HS19_ := (hb.cell (World.block_lt_of_cell? _ _ (hHeld.2.2.2.2.2.2.2.2.2.2.2.2.2.2.2.2.2.2.2.1))).trans (hHeld.2.2.2.2.2.2.2.2.2.2.2.2.2.2.2.2.2.2.2.1)
            have HS20_ := (hb.cell (World.block_lt_of_cell? _ _ (hHeld.2.2.2.2.2.2.2.2.2.2.2.2.2.2.2.2.2.2.2.2.1))).trans (hHeld.2.2.2.2.2.2.2.2.2.2.2.2.2.2.2.2.2.2.2.2.1)
            have HS21_ := (hb.cell (World.block_lt_of_cell? _ _ (hHeld.2.2.2.2.2.2.2.2.2.2.2.2.2.2.2.2.2.2.2.2.2.1))).trans (hHeld.2.2.2.2.2.2.2.2.2.2.2.2.2.2.2.2.2.2.2.2.2.1)
            have HS22_ := (hb.cell (World.block_lt_of_cell? _ _ (hHeld.2.2.2.2.2.2.2.2.2.2.2.2.2.2.2.2.2.2.2.2.2.2.1))).trans (hHeld.2.2.2.2.2.2.2.2.2.2.2.2.2.2.2.2.2.2.2.2.2.2.1)
            have HS23_ := (hb.cell (World.block_lt_of_cell? _ _ (hHeld.2.2.2.2.2.2.2.2.2.2.2.2.2.2.2.2.2.2.2.2.2.2.2.1))).trans (hHeld.2.2.2.2.2.2.2.2.2.2.2.2.2.2.2.2.2.2.2.2.2.2.2.1)
            have HS24_ := (hb.cell (World.block_lt_of_cell? _ _ (hHeld.2.2.2.2.2.2.2.2.2.2.2.2.2.2.2.2.2.2.2.2.2.2.2.2.1))).trans (hHeld.2.2.2.2.2.2.2.2.2.2.2.2.2.2.2.2.2.2.2.2.2.2.2.2.1)
            have HS25_ := (hb.cell (World.block_lt_of_cell? _ _ (hHeld.2.2.2.2.2.2.2.2.2.2.2.2.2.2.2.2.2.2.2.2.2.2.2.2.2.1))).trans (hHeld.2.2.2.2.2.2.2.2.2.2.2.2.2.2.2.2.2.2.2.2.2.2.2.2.2.1)
            have HS26_ := (hb.cell (World.block_lt_of_cell? _ _ (hHeld.2.2.2.2.2.2.2.2.2.2.2.2.2.2.2.2.2.2.2.2.2.2.2.2.2.2))).trans (hHeld.2.2.2.2.2.2.2.2.2.2.2.2.2.2.2.2.2.2.2.2.2.2.2.2.2.2)
            refine ⟨_, rfl, ?_⟩
            have n0_ := Asd.mk (Kd.N_below (by (with_reducible repeat (first | apply Kd.N_alloc | apply Kd.N_drewN | apply Kd.N_drew)); exact HO_136008.out) hb)
            have n1_ := Asd.mk (Kd.V_below (by (with_reducible repeat (first | apply Kd.V_alloc | apply Kd.V_drewN | apply Kd.V_drew)); exact HL161_8.out) hb)
            have n2_ := Asd.mk (Kd.V_below (by (with_reducible repeat (first | apply Kd.V_alloc | apply Kd.V_drewN | apply Kd.V_drew)); exact HL163_8.out) hb)
            have n3_ := Asd.mk (bB hb BK133.out)
            have n4_ := Asd.mk (bB hb BK134.out)
            have n5_ := Asd.mk (bB hb BK135.out)
            have n6_ := Asd.mk (Kd.C_below (by repeat (first | (with_reducible exact HR161_8.out) | (with_reducible refine Kd.C_alloc ?_ _) | (with_reducible refine Kd.C_drewN ?_ _) | (with_reducible refine Kd.C_drew ?_) | exact HR161_8.out)) hb)
            have n7_ := Asd.mk (Kd.C_below (by repeat (first | (with_reducible exact HR163_8.out) | (with_reducible refine Kd.C_alloc ?_ _) | (with_reducible refine Kd.C_drewN ?_ _) | (with_reducible refine Kd.C_drew ?_) | exact HR163_8.out)) hb)
            have n8_ := Asd.mk (bS hb HB.out)
            clear HO_136008 HL161_8 HL163_8 BK133 BK134 BK135 HR161_8 HR163_8 HB
            have HO_136008 := n0_
            have HL161_8 := n1_
            have HL163_8 := n2_
            have BK133 := n3_
            have BK134 := n4_
            have BK135 := n5_
            have HR161_8 := n6_
            have HR163_8 := n7_
            have HB := n8_
            clear n0_ n1_ n2_ n3_ n4_ n5_ n6_ n7_ n8_
            (try clear hb)
            (try clear hb2)
            (try clear hk)
            (try clear hi)
            refine hK.out _ _ ⟨(bkC BK135.out 0).trans rfl, (bkC BK135.out 1).trans rfl, (bkC BK135.out 2).trans rfl, (bkC BK135.out 3).trans rfl, (bkC BK135.out 4).trans rfl, (bkC BK135.out 5).trans rfl, (bkC BK135.out 6).trans rfl, (bkC BK135.out 7).trans rfl, (bkC BK135.out 8).trans rfl, HS9_, HS10_, HS11_, HS12_, HS13_, HS14_, HS15_, HS16_, HS17_, HS18_, HS19_, HS20_, HS21_, HS22_, HS23_, HS24_, HS25_, HS26_⟩ (fun hHeld => ?_)
            clear hK K
            refine norm_ (a' := ?_) ?_ ?_
            rotate_left
            ·show Act.put _ (some 50) _ = _
             simp only [Act.put, List.setIfInBounds_toArray, List.set_cons_zero, List.set_cons_succ, i64_w, i32_w]
             rfl
            refine pure_ (i := 10) (N := some 51) (v := ?_) (a' := ?_) #[true, true, true, true, true, true, true, true, true, true, true, false] rfl rfl (any_of HT_.out (by kernel_rfl)) (fun _ _ _ h => h) (Or.inl ⟨by rfl, ?_⟩) ?_ ?_
            rotate_left
            ·intro w'
             go_simp
             with_reducible rfl
            rotate_left
            ·simp only [Act.put, List.setIfInBounds_toArray, List.set_cons_zero, List.set_cons_succ, i64_w, i32_w]
             rfl
            refine pure_ (i := 11) (N := some 5) (v := ?_) (a' := ?_) #[true, true, true, true, true, true, true, true, true, true, true, true] rfl rfl (any_of HT_.out (by kernel_rfl)) (fun _ _ _ h => h) (Or.inl ⟨by rfl, ?_⟩) ?_ ?_
            rotate_left
            ·intro w'
             go_simp
             with_reducible rfl
            rotate_left
            ·simp only [Act.put, List.setIfInBounds_toArray, List.set_cons_zero, List.set_cons_succ, i64_w, i32_w]
             rfl
            refine done_ (done_of HT_.out (by kernel_rfl)) ?_
            have hnb92 := NB135_133.out
            have hnc92 := NB133_135.out
            have hnb93 := NB135_134.out
            have hnc93 := NB134_135.out
            obtain ⟨hcz94_0, hcz94_1, hcz94_2, hcz94_3, hcz94_4, hcz94_5, hcz94_6, hcz94_7, hcz94_8⟩ := bkC9 BK135.out
            obtain ⟨hfz94_0, hfz94_1, hfz94_2, hfz94_3, hfz94_4, hfz94_5, hfz94_6, hfz94_7, hfz94_8⟩ := bkF9 BK135.out
            have hnb95 := NB134_133.out
            have hnc95 := NB133_134.out
            obtain ⟨hcz96_0, hcz96_1, hcz96_2, hcz96_3, hcz96_4, hcz96_5, hcz96_6, hcz96_7, hcz96_8⟩ := bkC9 BK134.out
            obtain ⟨hfz96_0, hfz96_1, hfz96_2, hfz96_3, hfz96_4, hfz96_5, hfz96_6, hfz96_7, hfz96_8⟩ := bkF9 BK134.out
            try go_wp2
            refine bodyPost_ret (results_cell_row rfl _ _ gb134 26 #[.int .i64 a0_0, .int .i64 a0_1, .int .i64 a0_2, .string a0_3, .int .i64 a0_4, .int .i64 a0_5, .int .i64 a0_6, .string a0_7, .slice (some ad161) x136008_1.length co89] (0, 0) _ rfl (by refine blk_put (cs := #[.int .i64 a0_0, .int .i64 a0_1, .int .i64 a0_2, .string a0_3, .int .i64 a0_4, .int .i64 a0_5, .int .i64 a0_6, .string a0_7, .slice none 0 0]) ?_ 8 _ rfl; refine blk_put (cs := #[.int .i64 a0_0, .int .i64 a0_1, .int .i64 a0_2, .string a0_3, .int .i64 a0_4, .int .i64 a0_5, .int .i64 a0_6, .string (⟨#[]⟩ : ByteArray), .slice none 0 0]) ?_ 7 _ rfl; refine blk_put (cs := #[.int .i64 a0_0, .int .i64 a0_1, .int .i64 a0_2, .string a0_3, .int .i64 a0_4, .int .i64 a0_5, .int .i64 0, .string (⟨#[]⟩ : ByteArray), .slice none 0 0]) ?_ 6 _ rfl; refine blk_put (cs := #[.int .i64 a0_0, .int .i64 a0_1, .int .i64 a0_2, .string a0_3, .int .i64 a0_4, .int .i64 0, .int .i64 0, .string (⟨#[]⟩ : ByteArray), .slice none 0 0]) ?_ 5 _ rfl; refine blk_put (cs := #[.int .i64 a0_0, .int .i64 a0_1, .int .i64 a0_2, .string a0_3, .int .i64 0, .int .i64 0, .int .i64 0, .string (⟨#[]⟩ : ByteArray), .slice none 0 0]) ?_ 4 _ rfl; refine blk_put (cs := #[.int .i64 a0_0, .int .i64 a0_1, .int .i64 a0_2, .string (⟨#[]⟩ : ByteArray), .int .i64 0, .int .i64 0, .int .i64 0, .string (⟨#[]⟩ : ByteArray), .slice none 0 0]) ?_ 3 _ rfl; refine blk_put (cs := #[.int .i64 a0_0, .int .i64 a0_1, .int .i64 0, .string (⟨#[]⟩ : ByteArray), .int .i64 0, .int .i64 0, .int .i64 0, .string (⟨#[]⟩ : ByteArray), .slice none 0 0]) ?_ 2 _ rfl; refine blk_put (cs := #[.int .i64 a0_0, .int .i64 0, .int .i64 0, .string (⟨#[]⟩ : ByteArray), .int .i64 0, .int .i64 0, .int .i64 0, .string (⟨#[]⟩ : ByteArray), .slice none 0 0]) ?_ 1 _ rfl; refine blk_put (cs := #[.int .i64 0, .int .i64 0, .int .i64 0, .string (⟨#[]⟩ : ByteArray), .int .i64 0, .int .i64 0, .int .i64 0, .string (⟨#[]⟩ : ByteArray), .slice none 0 0]) ?_ 0 _ rfl; exact BK134.out) Tryd.underlying26 rfl (by kernel_rfl)) rfl ?_
            exact ⟨_, by first | rfl | (simp [errW_none, errW_some] <;> rfl) | (simp [*, errW_none, errW_some] <;> rfl), by (with_reducible repeat (first | apply Kd.N_alloc | apply Kd.N_drewN | apply Kd.N_drew)); exact Kd.N_mono (Kd.N_far (p := ⟨gb134, 8, none⟩) (Kd.N_far (p := ⟨gb134, 7, none⟩) (Kd.N_far (p := ⟨gb134, 6, none⟩) (Kd.N_far (p := ⟨gb134, 5, none⟩) (Kd.N_far (p := ⟨gb134, 4, none⟩) (Kd.N_far (p := ⟨gb134, 3, none⟩) (Kd.N_far (p := ⟨gb134, 2, none⟩) (Kd.N_far (p := ⟨gb134, 1, none⟩) (Kd.N_far (p := ⟨gb134, 0, none⟩) (Kd.N_mono HO_136008.out (fun k_ hk => (⟨hk, hk.2.2.1⟩ : _ ∧ k_ ≠ gb134))) (fun _ hk => hk.2) (.int .i64 a0_0)) (fun _ hk => hk.2) (.int .i64 a0_1)) (fun _ hk => hk.2) (.int .i64 a0_2)) (fun _ hk => hk.2) (.string a0_3)) (fun _ hk => hk.2) (.int .i64 a0_4)) (fun _ hk => hk.2) (.int .i64 a0_5)) (fun _ hk => hk.2) (.int .i64 a0_6)) (fun _ hk => hk.2) (.string a0_7)) (fun _ hk => hk.2) (.slice (some ad161) x136008_1.length co89)) (fun _ hk => hk.1.1), by repeat (first | (with_reducible first | exact HB.out | apply blA | apply pbN | apply blD | refine blS ?_ GE133.out | refine blS ?_ GE134.out | refine blS ?_ GE135.out) | exact HB.out)⟩
          ·rw [if_neg c71] at H
           exact absurd H (by simp)
         ·rw [if_neg c69] at H
          exact absurd H (by simp)
        ·replace c68 := Bool.eq_false_iff.mpr c68
         subst c68
         have H1 : (if false = true then (if 1 < (x136008_1.length : Int) then (if 0 < (x136008_1.length : Int) then (some (a0_0, a0_1, a0_2, a0_3, a0_4, a0_5, a0_6, a0_7, (([(⟨(rd_T26 x136008_1 1).f0, (⟨(rd_T26 x136008_1 1).f1.f0, (rd_T26 x136008_1 1).f1.f1, (rd_T26 x136008_1 1).f1.f2⟩ : S23), (rd_T26 x136008_1 1).f2, (rd_T26 x136008_1 1).f3, (rd_T26 x136008_1 1).f4, (rd_T26 x136008_1 1).f5, (rd_T26 x136008_1 1).f6⟩ : S26), (⟨(rd_T26 x136008_1 0).f0, (⟨(rd_T26 x136008_1 0).f1.f0, (rd_T26 x136008_1 0).f1.f1, (rd_T26 x136008_1 0).f1.f2⟩ : S23), (rd_T26 x136008_1 0).f2, (rd_T26 x136008_1 0).f3, (rd_T26 x136008_1 0).f4, (rd_T26 x136008_1 0).f5, (rd_T26 x136008_1 0).f6⟩ : S26)] : List (S26))))) else (none)) else (none)) else (some (a0_0, a0_1, a0_2, a0_3, a0_4, a0_5, a0_6, a0_7, x136008_1))) = some (r1, r2, r3, r4, r5, r6, r7, r8, r9) := by rw [if_neg (show ¬ (false = true) by decide)] at H; exact H
         clear H
         have H := H1
         clear H1
         by_cases c97 : false = true
         ·exact absurd c97 (by decide)
         ·clear c97
          have H1 : (some (a0_0, a0_1, a0_2, a0_3, a0_4, a0_5, a0_6, a0_7, x136008_1)) = some (r1, r2, r3, r4, r5, r6, r7, r8, r9) := by rw [if_neg (show ¬ (false = true) by decide)] at H; exact H
          clear H
          have H := H1
          clear H1
          simp only [Option.some.injEq, Prod.mk.injEq] at H
          obtain ⟨rfl, rfl, rfl, rfl, rfl, rfl, rfl, rfl, rfl⟩ := H
          have hnb111 := NB135_133.out
          have hnc111 := NB133_135.out
          have hnb112 := NB135_134.out
          have hnc112 := NB134_135.out
          obtain ⟨hcz113_0, hcz113_1, hcz113_2, hcz113_3, hcz113_4, hcz113_5, hcz113_6, hcz113_7, hcz113_8⟩ := bkC9 BK135.out
          obtain ⟨hfz113_0, hfz113_1, hfz113_2, hfz113_3, hfz113_4, hfz113_5, hfz113_6, hfz113_7, hfz113_8⟩ := bkF9 BK135.out
          have hnb114 := NB134_133.out
          have hnc114 := NB133_134.out
          obtain ⟨hcz115_0, hcz115_1, hcz115_2, hcz115_3, hcz115_4, hcz115_5, hcz115_6, hcz115_7, hcz115_8⟩ := bkC9 BK134.out
          obtain ⟨hfz115_0, hfz115_1, hfz115_2, hfz115_3, hfz115_4, hfz115_5, hfz115_6, hfz115_7, hfz115_8⟩ := bkF9 BK134.out
          obtain ⟨Ao116, co116, eo116⟩ := Kd.N_slice HO_136008.out
          subst eo116
          go_wp2
          refine bodyPost_ret (results_cell_row rfl _ _ gb134 26 #[.int .i64 a0_0, .int .i64 a0_1, .int .i64 a0_2, .string a0_3, .int .i64 a0_4, .int .i64 a0_5, .int .i64 a0_6, .string a0_7, .slice Ao116 x136008_1.length co116] (0, 0) _ rfl (by refine blk_put (cs := #[.int .i64 a0_0, .int .i64 a0_1, .int .i64 a0_2, .string a0_3, .int .i64 a0_4, .int .i64 a0_5, .int .i64 a0_6, .string a0_7, .slice none 0 0]) ?_ 8 _ rfl; refine blk_put (cs := #[.int .i64 a0_0, .int .i64 a0_1, .int .i64 a0_2, .string a0_3, .int .i64 a0_4, .int .i64 a0_5, .int .i64 a0_6, .string (⟨#[]⟩ : ByteArray), .slice none 0 0]) ?_ 7 _ rfl; refine blk_put (cs := #[.int .i64 a0_0, .int .i64 a0_1, .int .i64 a0_2, .string a0_3, .int .i64 a0_4, .int .i64 a0_5, .int .i64 0, .string (⟨#[]⟩ : ByteArray), .slice none 0 0]) ?_ 6 _ rfl; refine blk_put (cs := #[.int .i64 a0_0, .int .i64 a0_1, .int .i64 a0_2, .string a0_3, .int .i64 a0_4, .int .i64 0, .int .i64 0, .string (⟨#[]⟩ : ByteArray), .slice none 0 0]) ?_ 5 _ rfl; refine blk_put (cs := #[.int .i64 a0_0, .int .i64 a0_1, .int .i64 a0_2, .string a0_3, .int .i64 0, .int .i64 0, .int .i64 0, .string (⟨#[]⟩ : ByteArray), .slice none 0 0]) ?_ 4 _ rfl; refine blk_put (cs := #[.int .i64 a0_0, .int .i64 a0_1, .int .i64 a0_2, .string (⟨#[]⟩ : ByteArray), .int .i64 0, .int .i64 0, .int .i64 0, .string (⟨#[]⟩ : ByteArray), .slice none 0 0]) ?_ 3 _ rfl; refine blk_put (cs := #[.int .i64 a0_0, .int .i64 a0_1, .int .i64 0, .string (⟨#[]⟩ : ByteArray), .int .i64 0, .int .i64 0, .int .i64 0, .string (⟨#[]⟩ : ByteArray), .slice none 0 0]) ?_ 2 _ rfl; refine blk_put (cs := #[.int .i64 a0_0, .int .i64 0, .int .i64 0, .string (⟨#[]⟩ : ByteArray), .int .i64 0, .int .i64 0, .int .i64 0, .string (⟨#[]⟩ : ByteArray), .slice none 0 0]) ?_ 1 _ rfl; refine blk_put (cs := #[.int .i64 0, .int .i64 0, .int .i64 0, .string (⟨#[]⟩ : ByteArray), .int .i64 0, .int .i64 0, .int .i64 0, .string (⟨#[]⟩ : ByteArray), .slice none 0 0]) ?_ 0 _ rfl; exact BK134.out) Tryd.underlying26 rfl (by kernel_rfl)) rfl ?_
          exact ⟨_, by first | rfl | (simp [errW_none, errW_some] <;> rfl) | (simp [*, errW_none, errW_some] <;> rfl), by (with_reducible repeat (first | apply Kd.N_alloc | apply Kd.N_drewN | apply Kd.N_drew)); exact Kd.N_mono (Kd.N_far (p := ⟨gb134, 8, none⟩) (Kd.N_far (p := ⟨gb134, 7, none⟩) (Kd.N_far (p := ⟨gb134, 6, none⟩) (Kd.N_far (p := ⟨gb134, 5, none⟩) (Kd.N_far (p := ⟨gb134, 4, none⟩) (Kd.N_far (p := ⟨gb134, 3, none⟩) (Kd.N_far (p := ⟨gb134, 2, none⟩) (Kd.N_far (p := ⟨gb134, 1, none⟩) (Kd.N_far (p := ⟨gb134, 0, none⟩) (Kd.N_mono HO_136008.out (fun k_ hk => (⟨hk, hk.2.2.1⟩ : _ ∧ k_ ≠ gb134))) (fun _ hk => hk.2) (.int .i64 a0_0)) (fun _ hk => hk.2) (.int .i64 a0_1)) (fun _ hk => hk.2) (.int .i64 a0_2)) (fun _ hk => hk.2) (.string a0_3)) (fun _ hk => hk.2) (.int .i64 a0_4)) (fun _ hk => hk.2) (.int .i64 a0_5)) (fun _ hk => hk.2) (.int .i64 a0_6)) (fun _ hk => hk.2) (.string a0_7)) (fun _ hk => hk.2) (.slice Ao116 x136008_1.length co116)) (fun _ hk => hk.1.1), by repeat (first | (with_reducible first | exact HB.out | apply blA | apply pbN | apply blD | refine blS ?_ GE133.out | refine blS ?_ GE134.out | refine blS ?_ GE135.out) | exact HB.out)⟩
end Go.Proofs.YtpdhoghkoakojaaDoor.E
