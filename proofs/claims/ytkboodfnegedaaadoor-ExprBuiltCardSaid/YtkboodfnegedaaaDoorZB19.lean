/- Contracts and plain lemmas of the functions that the law reaches, part 19. -/
import Derived.Test.YtkboodfnegedaaaDoorZB17
import Derived.Test.YtkboodfnegedaaaDoorZB18
namespace Go.Proofs.YtkboodfnegedaaaDoor.E
open Go.RowKit Go.Proofs.YtkboodfnegedaaaDoorW.PrintWords Go.Proofs.YtkboodfnegedaaaDoorW.PrintLast Go.Proofs.YtkboodfnegedaaaDoorW.PrintMore
def notE (a : Ex) : Ex := ⟨17, zeroV, 0, 0, 0, ⟨#[]⟩, [a]⟩
def fewE (a : Ex) : Ex := ⟨15, zeroV, 0, 0, 0, ⟨#[]⟩, [a]⟩
def manyE (a b : Ex) : Ex := ⟨17, zeroV, 0, 0, 0, ⟨#[]⟩, [a, b]⟩
def oddE (a b : Ex) : Ex := ⟨15, zeroV, 0, 0, 1, ⟨#[]⟩, [a, b]⟩
theorem ex1_C {w : World} {g : Nat} {a : Ex} {Aa : Option Addr} {ca : Nat} (h : w.heap[g]? = some (.cells (exC a Aa ca) 26 (0, 0))) (ha : a.f6.length ≤ ca) (hA : Kd.C k26 w Aa a.f6.length a.f6) :
    Kd.C k26 w (some ⟨g, 0, none⟩) 1 [a] := by
  refine ⟨rfl, by omega, fun _ => ⟨_, rfl, ?_⟩⟩
  intro j p hp
  match j, hp with
  | 0, hp =>
    obtain rfl := Option.some.inj hp
    refine ⟨_, rfl, k26_mk w a ha hA, ?_⟩
    intro i u hu
    have hi : i < 9 := by
      have := (List.getElem?_eq_some_iff.1 hu).1; simpa using this
    obtain rfl | rfl | rfl | rfl | rfl | rfl | rfl | rfl | rfl : i = 0 ∨ i = 1 ∨ i = 2 ∨ i = 3 ∨ i = 4 ∨ i = 5 ∨ i = 6 ∨ i = 7 ∨ i = 8 := by omega
    · have hu' := Option.some.inj hu; subst hu'; rw [add_plain]; exact (bkC h 0).trans rfl
    · have hu' := Option.some.inj hu; subst hu'; rw [add_plain]; exact (bkC h 1).trans rfl
    · have hu' := Option.some.inj hu; subst hu'; rw [add_plain]; exact (bkC h 2).trans rfl
    · have hu' := Option.some.inj hu; subst hu'; rw [add_plain]; exact (bkC h 3).trans rfl
    · have hu' := Option.some.inj hu; subst hu'; rw [add_plain]; exact (bkC h 4).trans rfl
    · have hu' := Option.some.inj hu; subst hu'; rw [add_plain]; exact (bkC h 5).trans rfl
    · have hu' := Option.some.inj hu; subst hu'; rw [add_plain]; exact (bkC h 6).trans rfl
    · have hu' := Option.some.inj hu; subst hu'; rw [add_plain]; exact (bkC h 7).trans rfl
    · have hu' := Option.some.inj hu; subst hu'; rw [add_plain]; exact (bkC h 8).trans rfl
def builtR.T : Bool × List (List Nat × List Nat) := (true, [([], []), ([0], [0]), ([1], [1]), ([2, 1, 1], [1, 2]), ([3, 1], [1, 3]), ([1, 4], [1, 4]), ([5, 3], [5]), ([6], [6]), ([7, 6, 6], [6, 7]), ([8, 6], [6, 8]), ([6, 9], [6, 9]), ([10, 8], [10]), ([11], [11]), ([12, 11, 11], [11, 12]), ([13, 11], [11, 13]), ([11, 14], [11, 14]), ([15, 13], [15]), ([16], [16]), ([17, 16, 16], [16, 17]), ([18, 16], [16, 18]), ([19, 18, 16], [16, 19]), ([20], [20]), ([21, 20, 20], [20, 21]), ([20], [20]), ([23, 22, 20], [20, 23]), ([24, 24, 20], [20, 24]), ([25], [25]), ([26, 25, 25], [25, 26]), ([25, 27, 20], [20, 25, 27]), ([22, 28, 20], [20, 22, 28]), ([20, 29, 16], [16, 20, 29]), ([16, 30], [16, 30]), ([31, 27, 0, 1, 2, 3, 4, 5, 6, 7, 8, 9, 10, 11, 12, 13, 14, 15, 16, 17, 18, 19, 20, 21, 22, 23, 24, 25, 26, 27, 28, 29, 30, 31], [31])])
def builtR.B : List Nat := [0, 1, 3, 7, 15, 31, 63, 127, 255, 511, 1023, 2047, 4095, 8191, 16383, 32767, 65535, 131071, 262143, 524287, 1048575, 2097151, 4194303, 2097151, 16777215, 33554431, 67108863, 134217727, 268435455, 536870911, 1073741823, 2147483647, 4294967295]
theorem builtR.tab : rtab .any (opsOf Tryd.f7 12) = builtR.T := by kernel_rfl
theorem builtR.bits : waitsOk builtR.T.2 builtR.B = true := by kernel_rfl
set_option maxHeartbeats 8000000 in
set_option maxRecDepth 100000 in
theorem built_ok (a b : Ex) (Aa Ab : Option Addr) (ca cb : Nat) (w : World) (hT : TabW w) (ha : a.f6.length ≤ ca) (hb : b.f6.length ≤ cb) (hA : Kd.C k26 w Aa a.f6.length a.f6) (hB : Kd.C k26 w Ab b.f6.length b.f6)
    (p1 : rightB (notE a) = true → rightB a = true) (p2 : rightB (twoE 15 a b) = true → rightB a = true ∧ rightB b = true) (p3 : rightB (fewE a) = false) (p4 : rightB (manyE a b) = false) (p5 : rightB (oddE a b) = false) (p6 : rightB (twoE 15 a b) = true → safeB (twoE 15 a b) = (safeB a && safeB b)) :
    Calls Tryd.prog 7 #[.agg (exC a Aa ca), .agg (exC b Ab cb)] w fun r w' => r = .returned (.bool true) ∧ Below w.heap.size w w' := by
  have HT := Lib.hid hT; have KA := Lib.hid hA; have KB := Lib.hid hB; have P1 := Lib.hid p1; have P2 := Lib.hid p2; have P3 := Lib.hid p3; have P4 := Lib.hid p4; have P5 := Lib.hid p5; have P6 := Lib.hid p6
  clear hT hA hB p1 p2 p3 p4 p5 p6
  unfold exC
  go_enter Tryd.func7, Tryd.ntmps7
  go_upto_region 2 with (first | ((with_reducible refine gate_dst (N := 2) rfl ?_); refine box_event rfl (N := 2) rfl (cs := exC a Aa ca) (t := 26) (by first | rfl | (go_simp; done) | (go_simp; rfl)) ?_; intro ga hgg w1 hbga hBga; clear hgg) | ((with_reducible refine gate_dst (N := 3) rfl ?_); refine box_event rfl (N := 3) rfl (cs := exC b Ab cb) (t := 26) (by first | rfl | (go_simp; done) | (go_simp; rfl)) ?_; intro gb hgg w2 hbgb hBgb; clear hgg) | (go_at_call 11; refine (examples_ok _ (tab_at HT.out (hBga.trans (hBgb.mono hBga.size)))).mono ?_; rintro r w3 ⟨rfl, hB3⟩))
  have HB3 := Lib.hid (hBga.trans ((hBgb.trans (hB3.mono hBgb.size)).mono hBga.size))
  have BA3 := Lib.hid ((hB3.block ga (by have := hBgb.size; have := blk_lt hbga; omega)).trans ((hBgb.block ga (blk_lt hbga)).trans hbga))
  have BB3 := Lib.hid ((hB3.block gb (blk_lt hbgb)).trans hbgb)
  have KA3 := Lib.hid (Kd.C_below KA.out HB3.out); have KB3 := Lib.hid (Kd.C_below KB.out HB3.out)
  clear hbga hbgb hBga hBgb hB3 KA KB HT
  have za0 : w3.cell? ⟨ga, 0, none⟩ = some (.int .i64 a.f0) := (bkC BA3.out 0).trans rfl; have za1 : w3.cell? ⟨ga, 1, none⟩ = some (.int .i64 a.f1.f0) := (bkC BA3.out 1).trans rfl; have za2 : w3.cell? ⟨ga, 2, none⟩ = some (.int .i64 a.f1.f1) := (bkC BA3.out 2).trans rfl; have za3 : w3.cell? ⟨ga, 3, none⟩ = some (.string a.f1.f2) := (bkC BA3.out 3).trans rfl; have za4 : w3.cell? ⟨ga, 4, none⟩ = some (.int .i64 a.f2) := (bkC BA3.out 4).trans rfl; have za5 : w3.cell? ⟨ga, 5, none⟩ = some (.int .i64 a.f3) := (bkC BA3.out 5).trans rfl; have za6 : w3.cell? ⟨ga, 6, none⟩ = some (.int .i64 a.f4) := (bkC BA3.out 6).trans rfl; have za7 : w3.cell? ⟨ga, 7, none⟩ = some (.string a.f5) := (bkC BA3.out 7).trans rfl; have za8 : w3.cell? ⟨ga, 8, none⟩ = some (.slice Aa a.f6.length ca) := (bkC BA3.out 8).trans rfl
  go_upto_region 3 with (first | ((with_reducible refine gate_dst (N := 6) rfl ?_); refine box_event rfl (N := 6) rfl (cs := zerosE) (t := 26) (by first | rfl | (go_simp; done) | (go_simp; rfl)) ?_; intro nb hgg w4 hbnb hBnb; have hnw : w.heap.size ≤ nb := (by rw [hgg]; exact (blA HB3.out _).size); have hn3 : w3.heap.size ≤ nb := (by rw [hgg]; exact (blA (Below.refl _ w3) _).size); have hne : ¬ nb = w3.heap.size := (by rw [hgg]; simp); clear hgg) | ((with_reducible refine gate_store (p := 6) (v := .tmp 14) rfl ?_); refine wpList_store_row rfl 26 (.tmp 6) (.tmp 14) rfl nb (exC (notE a) (some ⟨w3.heap.size, 0, none⟩) 1) rfl rfl 26 zerosE hbnb (info_ex _ _ _) rfl (one_ex _ _ _) ?_))
  have hB5 : Below w3.heap.size w3 (w4.setRow nb (exC (notE a) (some ⟨w3.heap.size, 0, none⟩) 1)) := below_setRow' ((blA (Below.refl _ w3) _).trans (hBnb.mono (blA (Below.refl _ w3) _).size)) hn3 _
  have S5 : (w4.setRow nb (exC (notE a) (some ⟨w3.heap.size, 0, none⟩) 1)).heap[w3.heap.size]? = some (.cells (exC a Aa ca) 26 (0, 0)) := setRow_far _ hne ((hBnb.block _ (blk_lt (heap_alloc_new w3 _))).trans (heap_alloc_new w3 _)) _
  have N5 := Lib.hid (setRow_at w4 nb _ zerosE (exC (notE a) (some ⟨w3.heap.size, 0, none⟩) 1) hbnb)
  clear hbnb hBnb hne hn3
  generalize w4.setRow nb (exC (notE a) (some ⟨w3.heap.size, 0, none⟩) 1) = w5 at hB5 S5 N5 ⊢
  have KN5 := Lib.hid (ex1_C S5 ha (Kd.C_below KA3.out hB5))
  have HB5 := Lib.hid (HB3.out.trans (hB5.mono HB3.out.size)); have BA5 := Lib.hid ((hB5.block ga (blk_lt BA3.out)).trans BA3.out); have BB5 := Lib.hid ((hB5.block gb (blk_lt BB3.out)).trans BB3.out); have KA5 := Lib.hid (Kd.C_below KA3.out hB5); have KB5 := Lib.hid (Kd.C_below KB3.out hB5)
  clear hB5 S5 HB3 BA3 BB3 KA3 KB3
  clear za0 za1 za2 za3 za4 za5 za6 za7 za8
  generalize w3.heap.size = s1 at N5 KN5 ⊢
  have HRN : Hid (∀ w', Below w5.heap.size w5 w' → Calls Tryd.prog 17 #[.agg #[.int .i64 17, .int .i64 0, .int .i64 0, .string ⟨#[]⟩, .int .i64 0, .int .i64 0, .int .i64 0, .string ⟨#[]⟩, .slice (some ⟨s1, 0, none⟩) 1 1]] w' fun r w'' => r = .returned (.bool (rightB (notE a))) ∧ Below w'.heap.size w' w'') := Lib.hid (fun w' h => right_ok (notE a) _ 1 w' (Kd.C_below KN5.out h) (by simp [notE]))
  have HRA : Hid (∀ w', Below w5.heap.size w5 w' → Calls Tryd.prog 17 #[.agg #[.int .i64 a.f0, .int .i64 a.f1.f0, .int .i64 a.f1.f1, .string a.f1.f2, .int .i64 a.f2, .int .i64 a.f3, .int .i64 a.f4, .string a.f5, .slice Aa a.f6.length ca]] w' fun r w'' => r = .returned (.bool (rightB a)) ∧ Below w'.heap.size w' w'') := Lib.hid (fun w' h => right_ok a Aa ca w' (Kd.C_below KA5.out h) ha)
  have zn0 : w5.cell? ⟨nb, 0, none⟩ = some (.int .i64 17) := (bkC N5.out 0).trans rfl; have zn1 : w5.cell? ⟨nb, 1, none⟩ = some (.int .i64 0) := (bkC N5.out 1).trans rfl; have zn2 : w5.cell? ⟨nb, 2, none⟩ = some (.int .i64 0) := (bkC N5.out 2).trans rfl; have zn3 : w5.cell? ⟨nb, 3, none⟩ = some (.string ⟨#[]⟩) := (bkC N5.out 3).trans rfl; have zn4 : w5.cell? ⟨nb, 4, none⟩ = some (.int .i64 0) := (bkC N5.out 4).trans rfl; have zn5 : w5.cell? ⟨nb, 5, none⟩ = some (.int .i64 0) := (bkC N5.out 5).trans rfl; have zn6 : w5.cell? ⟨nb, 6, none⟩ = some (.int .i64 0) := (bkC N5.out 6).trans rfl; have zn7 : w5.cell? ⟨nb, 7, none⟩ = some (.string ⟨#[]⟩) := (bkC N5.out 7).trans rfl; have zn8 : w5.cell? ⟨nb, 8, none⟩ = some (.slice (some ⟨s1, 0, none⟩) 1 1) := (bkC N5.out 8).trans rfl
  simp only [Act.put, List.setIfInBounds_toArray, List.set_cons_succ, List.set_cons_zero]
  go_cut [21] from 15 to 22 (fun s21 wx => s21 = .bool false ∧ Below w5.heap.size w5 wx)
  case first =>
    cases h1 : rightB (notE a) with
    | false =>
      rw [h1] at HRN
      clear h1
      go_wp2_with (go_at_call 17; (with_reducible refine (HRN.out _ (Below.refl _ _)).mono ?_); rintro r w6 ⟨rfl, hB6⟩)
      go_meet; exact ⟨rfl, hB6⟩
    | true =>
      have h2 := P1.out h1
      rw [h1] at HRN; rw [h2] at HRA
      clear h1 h2
      go_wp2_with (first
        | (go_at_call 17; (with_reducible refine (HRN.out _ (Below.refl _ _)).mono ?_); rintro r w6 ⟨rfl, hB6⟩; have BA6 := Lib.hid ((hB6.block ga (blk_lt BA5.out)).trans BA5.out); have za0 : w6.cell? ⟨ga, 0, none⟩ = some (.int .i64 a.f0) := (bkC BA6.out 0).trans rfl; have za1 : w6.cell? ⟨ga, 1, none⟩ = some (.int .i64 a.f1.f0) := (bkC BA6.out 1).trans rfl; have za2 : w6.cell? ⟨ga, 2, none⟩ = some (.int .i64 a.f1.f1) := (bkC BA6.out 2).trans rfl; have za3 : w6.cell? ⟨ga, 3, none⟩ = some (.string a.f1.f2) := (bkC BA6.out 3).trans rfl; have za4 : w6.cell? ⟨ga, 4, none⟩ = some (.int .i64 a.f2) := (bkC BA6.out 4).trans rfl; have za5 : w6.cell? ⟨ga, 5, none⟩ = some (.int .i64 a.f3) := (bkC BA6.out 5).trans rfl; have za6 : w6.cell? ⟨ga, 6, none⟩ = some (.int .i64 a.f4) := (bkC BA6.out 6).trans rfl; have za7 : w6.cell? ⟨ga, 7, none⟩ = some (.string a.f5) := (bkC BA6.out 7).trans rfl; have za8 : w6.cell? ⟨ga, 8, none⟩ = some (.slice Aa a.f6.length ca) := (bkC BA6.out 8).trans rfl)
        | (go_at_call 17; (with_reducible refine (HRA.out _ hB6).mono ?_); rintro r w7 ⟨rfl, hB7⟩))
      go_meet; exact ⟨rfl, hB6.trans (hB7.mono hB6.size)⟩
  case rest =>
    obtain ⟨rfl, hBx⟩ := hcut
    have HB9 := Lib.hid (HB5.out.trans (hBx.mono HB5.out.size)); have BA9 := Lib.hid ((hBx.block ga (blk_lt BA5.out)).trans BA5.out); have BB9 := Lib.hid ((hBx.block gb (blk_lt BB5.out)).trans BB5.out); have KA9 := Lib.hid (Kd.C_below KA5.out hBx); have KB9 := Lib.hid (Kd.C_below KB5.out hBx)
    clear hBx HB5 BA5 BB5 KA5 KB5 HRN HRA KN5 N5 P1
    clear zn0 zn1 zn2 zn3 zn4 zn5 zn6 zn7 zn8
    obtain ⟨w9, rfl⟩ : ∃ w9 : World, w9 = wc := ⟨_, rfl⟩
    have HT2 : Hid (Calls Tryd.prog 23 #[.int .i64 15, .agg #[.int .i64 a.f0, .int .i64 a.f1.f0, .int .i64 a.f1.f1, .string a.f1.f2, .int .i64 a.f2, .int .i64 a.f3, .int .i64 a.f4, .string a.f5, .slice Aa a.f6.length ca], .agg #[.int .i64 b.f0, .int .i64 b.f1.f0, .int .i64 b.f1.f1, .string b.f1.f2, .int .i64 b.f2, .int .i64 b.f3, .int .i64 b.f4, .string b.f5, .slice Ab b.f6.length cb]] w9 fun r w' => ∃ A, r = .returned (.agg #[.int .i64 15, .int .i64 0, .int .i64 0, .string ⟨#[]⟩, .int .i64 0, .int .i64 0, .int .i64 0, .string ⟨#[]⟩, .slice A 2 2]) ∧ Kd.C k26 w' A 2 [a, b] ∧ Below w9.heap.size w9 w') := Lib.hid (two_ok 15 a b Aa Ab ca cb w9 ha hb KA9.out KB9.out)
    have za0 : w9.cell? ⟨ga, 0, none⟩ = some (.int .i64 a.f0) := (bkC BA9.out 0).trans rfl; have za1 : w9.cell? ⟨ga, 1, none⟩ = some (.int .i64 a.f1.f0) := (bkC BA9.out 1).trans rfl; have za2 : w9.cell? ⟨ga, 2, none⟩ = some (.int .i64 a.f1.f1) := (bkC BA9.out 2).trans rfl; have za3 : w9.cell? ⟨ga, 3, none⟩ = some (.string a.f1.f2) := (bkC BA9.out 3).trans rfl; have za4 : w9.cell? ⟨ga, 4, none⟩ = some (.int .i64 a.f2) := (bkC BA9.out 4).trans rfl; have za5 : w9.cell? ⟨ga, 5, none⟩ = some (.int .i64 a.f3) := (bkC BA9.out 5).trans rfl; have za6 : w9.cell? ⟨ga, 6, none⟩ = some (.int .i64 a.f4) := (bkC BA9.out 6).trans rfl; have za7 : w9.cell? ⟨ga, 7, none⟩ = some (.string a.f5) := (bkC BA9.out 7).trans rfl; have za8 : w9.cell? ⟨ga, 8, none⟩ = some (.slice Aa a.f6.length ca) := (bkC BA9.out 8).trans rfl
    have zb0 : w9.cell? ⟨gb, 0, none⟩ = some (.int .i64 b.f0) := (bkC BB9.out 0).trans rfl; have zb1 : w9.cell? ⟨gb, 1, none⟩ = some (.int .i64 b.f1.f0) := (bkC BB9.out 1).trans rfl; have zb2 : w9.cell? ⟨gb, 2, none⟩ = some (.int .i64 b.f1.f1) := (bkC BB9.out 2).trans rfl; have zb3 : w9.cell? ⟨gb, 3, none⟩ = some (.string b.f1.f2) := (bkC BB9.out 3).trans rfl; have zb4 : w9.cell? ⟨gb, 4, none⟩ = some (.int .i64 b.f2) := (bkC BB9.out 4).trans rfl; have zb5 : w9.cell? ⟨gb, 5, none⟩ = some (.int .i64 b.f3) := (bkC BB9.out 5).trans rfl; have zb6 : w9.cell? ⟨gb, 6, none⟩ = some (.int .i64 b.f4) := (bkC BB9.out 6).trans rfl; have zb7 : w9.cell? ⟨gb, 7, none⟩ = some (.string b.f5) := (bkC BB9.out 7).trans rfl; have zb8 : w9.cell? ⟨gb, 8, none⟩ = some (.slice Ab b.f6.length cb) := (bkC BB9.out 8).trans rfl
    go_upto_region 6 with (first | (go_at_call 23; refine HT2.out.mono ?_; rintro r w10 ⟨A2, rfl, hC10, hB10⟩) | ((with_reducible refine gate_dst (N := 7) rfl ?_); refine box_event rfl (N := 7) rfl (cs := zerosE) (t := 26) (by first | rfl | (go_simp; done) | (go_simp; rfl)) ?_; intro bb hgg w11 hbbb hBbb; have hbw : w9.heap.size ≤ bb := (by rw [hgg]; exact hB10.size); have hbx : w10.heap.size ≤ bb := (by rw [hgg]; exact Nat.le_refl _); clear hgg) | ((with_reducible refine gate_store (p := 7) (v := .tmp 24) rfl ?_); refine wpList_store_row rfl 26 (.tmp 7) (.tmp 24) rfl bb (exC (twoE 15 a b) A2 2) rfl rfl 26 zerosE hbbb (info_ex _ _ _) rfl (one_ex _ _ _) ?_))
    have hB12 : Below w9.heap.size w9 (w11.setRow bb (exC (twoE 15 a b) A2 2)) := below_setRow' (hB10.trans (hBbb.mono hB10.size)) hbw _
    have D12 := Lib.hid (setRow_at w11 bb _ zerosE (exC (twoE 15 a b) A2 2) hbbb)
    have hC12 : Kd.C k26 (w11.setRow bb (exC (twoE 15 a b) A2 2)) A2 2 [a, b] := Kd.C_below hC10 (below_setRow' hBbb hbx _)
    clear hC10 hBbb hbbb hB10 hbw hbx
    generalize w11.setRow bb (exC (twoE 15 a b) A2 2) = w12 at hB12 D12 hC12 ⊢
    have HB12 := Lib.hid (HB9.out.trans (hB12.mono HB9.out.size)); have BA12 := Lib.hid ((hB12.block ga (blk_lt BA9.out)).trans BA9.out); have BB12 := Lib.hid ((hB12.block gb (blk_lt BB9.out)).trans BB9.out); have KA12 := Lib.hid (Kd.C_below KA9.out hB12); have KB12 := Lib.hid (Kd.C_below KB9.out hB12); have KD12 := Lib.hid hC12
    clear hB12 hC12 HB9 BA9 BB9 KA9 KB9 HT2
    clear za0 za1 za2 za3 za4 za5 za6 za7 za8 zb0 zb1 zb2 zb3 zb4 zb5 zb6 zb7 zb8
    have HRD : Hid (∀ w', Below w12.heap.size w12 w' → Calls Tryd.prog 17 #[.agg #[.int .i64 15, .int .i64 0, .int .i64 0, .string ⟨#[]⟩, .int .i64 0, .int .i64 0, .int .i64 0, .string ⟨#[]⟩, .slice A2 2 2]] w' fun r w'' => r = .returned (.bool (rightB (twoE 15 a b))) ∧ Below w'.heap.size w' w'') := Lib.hid (fun w' h => right_ok (twoE 15 a b) A2 2 w' (Kd.C_below KD12.out h) (by simp [twoE]))
    have HRA : Hid (∀ w', Below w12.heap.size w12 w' → Calls Tryd.prog 17 #[.agg #[.int .i64 a.f0, .int .i64 a.f1.f0, .int .i64 a.f1.f1, .string a.f1.f2, .int .i64 a.f2, .int .i64 a.f3, .int .i64 a.f4, .string a.f5, .slice Aa a.f6.length ca]] w' fun r w'' => r = .returned (.bool (rightB a)) ∧ Below w'.heap.size w' w'') := Lib.hid (fun w' h => right_ok a Aa ca w' (Kd.C_below KA12.out h) ha)
    have HRB : Hid (∀ w', Below w12.heap.size w12 w' → Calls Tryd.prog 17 #[.agg #[.int .i64 b.f0, .int .i64 b.f1.f0, .int .i64 b.f1.f1, .string b.f1.f2, .int .i64 b.f2, .int .i64 b.f3, .int .i64 b.f4, .string b.f5, .slice Ab b.f6.length cb]] w' fun r w'' => r = .returned (.bool (rightB b)) ∧ Below w'.heap.size w' w'') := Lib.hid (fun w' h => right_ok b Ab cb w' (Kd.C_below KB12.out h) hb)
    have zd0 : w12.cell? ⟨bb, 0, none⟩ = some (.int .i64 15) := (bkC D12.out 0).trans rfl; have zd1 : w12.cell? ⟨bb, 1, none⟩ = some (.int .i64 0) := (bkC D12.out 1).trans rfl; have zd2 : w12.cell? ⟨bb, 2, none⟩ = some (.int .i64 0) := (bkC D12.out 2).trans rfl; have zd3 : w12.cell? ⟨bb, 3, none⟩ = some (.string ⟨#[]⟩) := (bkC D12.out 3).trans rfl; have zd4 : w12.cell? ⟨bb, 4, none⟩ = some (.int .i64 0) := (bkC D12.out 4).trans rfl; have zd5 : w12.cell? ⟨bb, 5, none⟩ = some (.int .i64 0) := (bkC D12.out 5).trans rfl; have zd6 : w12.cell? ⟨bb, 6, none⟩ = some (.int .i64 0) := (bkC D12.out 6).trans rfl; have zd7 : w12.cell? ⟨bb, 7, none⟩ = some (.string ⟨#[]⟩) := (bkC D12.out 7).trans rfl; have zd8 : w12.cell? ⟨bb, 8, none⟩ = some (.slice A2 2 2) := (bkC D12.out 8).trans rfl
    simp only [Act.put, List.setIfInBounds_toArray, List.set_cons_succ, List.set_cons_zero]
    go_cut [36] from 25 to 37 (fun s36 wx => s36 = .bool false ∧ Below w12.heap.size w12 wx)
    case first =>
      cases h1 : rightB (twoE 15 a b) with
      | false =>
        rw [h1] at HRD
        clear h1
        go_wp2_with (go_at_call 17; (with_reducible refine (HRD.out _ (Below.refl _ _)).mono ?_); rintro r w13 ⟨rfl, hB13⟩)
        go_meet; exact ⟨rfl, hB13⟩
      | true =>
        have h2 := P2.out h1
        rw [h1] at HRD; rw [h2.1] at HRA; rw [h2.2] at HRB
        clear h1 h2
        go_wp2_with (first
          | (go_at_call 17; (with_reducible refine (HRD.out _ (Below.refl _ _)).mono ?_); rintro r w13 ⟨rfl, hB13⟩; have BA13 := Lib.hid ((hB13.block ga (blk_lt BA12.out)).trans BA12.out); have za0 : w13.cell? ⟨ga, 0, none⟩ = some (.int .i64 a.f0) := (bkC BA13.out 0).trans rfl; have za1 : w13.cell? ⟨ga, 1, none⟩ = some (.int .i64 a.f1.f0) := (bkC BA13.out 1).trans rfl; have za2 : w13.cell? ⟨ga, 2, none⟩ = some (.int .i64 a.f1.f1) := (bkC BA13.out 2).trans rfl; have za3 : w13.cell? ⟨ga, 3, none⟩ = some (.string a.f1.f2) := (bkC BA13.out 3).trans rfl; have za4 : w13.cell? ⟨ga, 4, none⟩ = some (.int .i64 a.f2) := (bkC BA13.out 4).trans rfl; have za5 : w13.cell? ⟨ga, 5, none⟩ = some (.int .i64 a.f3) := (bkC BA13.out 5).trans rfl; have za6 : w13.cell? ⟨ga, 6, none⟩ = some (.int .i64 a.f4) := (bkC BA13.out 6).trans rfl; have za7 : w13.cell? ⟨ga, 7, none⟩ = some (.string a.f5) := (bkC BA13.out 7).trans rfl; have za8 : w13.cell? ⟨ga, 8, none⟩ = some (.slice Aa a.f6.length ca) := (bkC BA13.out 8).trans rfl)
          | (go_at_call 17; (with_reducible refine (HRA.out _ hB13).mono ?_); rintro r w14 ⟨rfl, hB14⟩; have hB14' := hB13.trans (hB14.mono hB13.size); have BB14 := Lib.hid ((hB14'.block gb (blk_lt BB12.out)).trans BB12.out); have zb0 : w14.cell? ⟨gb, 0, none⟩ = some (.int .i64 b.f0) := (bkC BB14.out 0).trans rfl; have zb1 : w14.cell? ⟨gb, 1, none⟩ = some (.int .i64 b.f1.f0) := (bkC BB14.out 1).trans rfl; have zb2 : w14.cell? ⟨gb, 2, none⟩ = some (.int .i64 b.f1.f1) := (bkC BB14.out 2).trans rfl; have zb3 : w14.cell? ⟨gb, 3, none⟩ = some (.string b.f1.f2) := (bkC BB14.out 3).trans rfl; have zb4 : w14.cell? ⟨gb, 4, none⟩ = some (.int .i64 b.f2) := (bkC BB14.out 4).trans rfl; have zb5 : w14.cell? ⟨gb, 5, none⟩ = some (.int .i64 b.f3) := (bkC BB14.out 5).trans rfl; have zb6 : w14.cell? ⟨gb, 6, none⟩ = some (.int .i64 b.f4) := (bkC BB14.out 6).trans rfl; have zb7 : w14.cell? ⟨gb, 7, none⟩ = some (.string b.f5) := (bkC BB14.out 7).trans rfl; have zb8 : w14.cell? ⟨gb, 8, none⟩ = some (.slice Ab b.f6.length cb) := (bkC BB14.out 8).trans rfl)
          | (go_at_call 17; (with_reducible refine (HRB.out _ hB14').mono ?_); rintro r w15 ⟨rfl, hB15⟩))
        go_meet; exact ⟨rfl, hB14'.trans (hB15.mono hB14'.size)⟩
    case rest =>
      obtain ⟨rfl, hBx⟩ := hcut
      have HB16 := Lib.hid (HB12.out.trans (hBx.mono HB12.out.size)); have BA16 := Lib.hid ((hBx.block ga (blk_lt BA12.out)).trans BA12.out); have BB16 := Lib.hid ((hBx.block gb (blk_lt BB12.out)).trans BB12.out); have KA16 := Lib.hid (Kd.C_below KA12.out hBx); have KB16 := Lib.hid (Kd.C_below KB12.out hBx); have D16 := Lib.hid ((hBx.block bb (blk_lt D12.out)).trans D12.out); have KD16 := Lib.hid (Kd.C_below KD12.out hBx)
      clear hBx HB12 BA12 BB12 KA12 KB12 D12 KD12 HRA HRB HRD
      clear zd0 zd1 zd2 zd3 zd4 zd5 zd6 zd7 zd8
      obtain ⟨w16, rfl⟩ : ∃ w16 : World, w16 = wc := ⟨_, rfl⟩
      have za0 : w16.cell? ⟨ga, 0, none⟩ = some (.int .i64 a.f0) := (bkC BA16.out 0).trans rfl; have za1 : w16.cell? ⟨ga, 1, none⟩ = some (.int .i64 a.f1.f0) := (bkC BA16.out 1).trans rfl; have za2 : w16.cell? ⟨ga, 2, none⟩ = some (.int .i64 a.f1.f1) := (bkC BA16.out 2).trans rfl; have za3 : w16.cell? ⟨ga, 3, none⟩ = some (.string a.f1.f2) := (bkC BA16.out 3).trans rfl; have za4 : w16.cell? ⟨ga, 4, none⟩ = some (.int .i64 a.f2) := (bkC BA16.out 4).trans rfl; have za5 : w16.cell? ⟨ga, 5, none⟩ = some (.int .i64 a.f3) := (bkC BA16.out 5).trans rfl; have za6 : w16.cell? ⟨ga, 6, none⟩ = some (.int .i64 a.f4) := (bkC BA16.out 6).trans rfl; have za7 : w16.cell? ⟨ga, 7, none⟩ = some (.string a.f5) := (bkC BA16.out 7).trans rfl; have za8 : w16.cell? ⟨ga, 8, none⟩ = some (.slice Aa a.f6.length ca) := (bkC BA16.out 8).trans rfl
      go_upto_region 9 with (first | ((with_reducible refine gate_dst (N := 8) rfl ?_); refine box_event rfl (N := 8) rfl (cs := zerosE) (t := 26) (by first | rfl | (go_simp; done) | (go_simp; rfl)) ?_; intro fb hgg w17 hbfb hBfb; have hn3 : w16.heap.size ≤ fb := (by rw [hgg]; exact (blA (Below.refl _ w16) _).size); have hne : ¬ fb = w16.heap.size := (by rw [hgg]; simp); clear hgg) | ((with_reducible refine gate_store (p := 8) (v := .tmp 39) rfl ?_); refine wpList_store_row rfl 26 (.tmp 8) (.tmp 39) rfl fb (exC (fewE a) (some ⟨w16.heap.size, 0, none⟩) 1) rfl rfl 26 zerosE hbfb (info_ex _ _ _) rfl (one_ex _ _ _) ?_))
      have hB18 : Below w16.heap.size w16 (w17.setRow fb (exC (fewE a) (some ⟨w16.heap.size, 0, none⟩) 1)) := below_setRow' ((blA (Below.refl _ w16) _).trans (hBfb.mono (blA (Below.refl _ w16) _).size)) hn3 _
      have S18 : (w17.setRow fb (exC (fewE a) (some ⟨w16.heap.size, 0, none⟩) 1)).heap[w16.heap.size]? = some (.cells (exC a Aa ca) 26 (0, 0)) := setRow_far _ hne ((hBfb.block _ (blk_lt (heap_alloc_new w16 _))).trans (heap_alloc_new w16 _)) _
      have F18 := Lib.hid (setRow_at w17 fb _ zerosE (exC (fewE a) (some ⟨w16.heap.size, 0, none⟩) 1) hbfb)
      clear hbfb hBfb hne hn3
      generalize w17.setRow fb (exC (fewE a) (some ⟨w16.heap.size, 0, none⟩) 1) = w18 at hB18 S18 F18 ⊢
      have KF18 := Lib.hid (ex1_C S18 ha (Kd.C_below KA16.out hB18))
      have HB18 := Lib.hid (HB16.out.trans (hB18.mono HB16.out.size)); have BA18 := Lib.hid ((hB18.block ga (blk_lt BA16.out)).trans BA16.out); have BB18 := Lib.hid ((hB18.block gb (blk_lt BB16.out)).trans BB16.out); have KA18 := Lib.hid (Kd.C_below KA16.out hB18); have KB18 := Lib.hid (Kd.C_below KB16.out hB18); have D18 := Lib.hid ((hB18.block bb (blk_lt D16.out)).trans D16.out); have KD18 := Lib.hid (Kd.C_below KD16.out hB18)
      clear hB18 S18 HB16 BA16 BB16 KA16 KB16 D16 KD16
      clear za0 za1 za2 za3 za4 za5 za6 za7 za8
      generalize w16.heap.size = s2 at F18 KF18 ⊢
      have za0 : w18.cell? ⟨ga, 0, none⟩ = some (.int .i64 a.f0) := (bkC BA18.out 0).trans rfl; have za1 : w18.cell? ⟨ga, 1, none⟩ = some (.int .i64 a.f1.f0) := (bkC BA18.out 1).trans rfl; have za2 : w18.cell? ⟨ga, 2, none⟩ = some (.int .i64 a.f1.f1) := (bkC BA18.out 2).trans rfl; have za3 : w18.cell? ⟨ga, 3, none⟩ = some (.string a.f1.f2) := (bkC BA18.out 3).trans rfl; have za4 : w18.cell? ⟨ga, 4, none⟩ = some (.int .i64 a.f2) := (bkC BA18.out 4).trans rfl; have za5 : w18.cell? ⟨ga, 5, none⟩ = some (.int .i64 a.f3) := (bkC BA18.out 5).trans rfl; have za6 : w18.cell? ⟨ga, 6, none⟩ = some (.int .i64 a.f4) := (bkC BA18.out 6).trans rfl; have za7 : w18.cell? ⟨ga, 7, none⟩ = some (.string a.f5) := (bkC BA18.out 7).trans rfl; have za8 : w18.cell? ⟨ga, 8, none⟩ = some (.slice Aa a.f6.length ca) := (bkC BA18.out 8).trans rfl
      have zb0 : w18.cell? ⟨gb, 0, none⟩ = some (.int .i64 b.f0) := (bkC BB18.out 0).trans rfl; have zb1 : w18.cell? ⟨gb, 1, none⟩ = some (.int .i64 b.f1.f0) := (bkC BB18.out 1).trans rfl; have zb2 : w18.cell? ⟨gb, 2, none⟩ = some (.int .i64 b.f1.f1) := (bkC BB18.out 2).trans rfl; have zb3 : w18.cell? ⟨gb, 3, none⟩ = some (.string b.f1.f2) := (bkC BB18.out 3).trans rfl; have zb4 : w18.cell? ⟨gb, 4, none⟩ = some (.int .i64 b.f2) := (bkC BB18.out 4).trans rfl; have zb5 : w18.cell? ⟨gb, 5, none⟩ = some (.int .i64 b.f3) := (bkC BB18.out 5).trans rfl; have zb6 : w18.cell? ⟨gb, 6, none⟩ = some (.int .i64 b.f4) := (bkC BB18.out 6).trans rfl; have zb7 : w18.cell? ⟨gb, 7, none⟩ = some (.string b.f5) := (bkC BB18.out 7).trans rfl; have zb8 : w18.cell? ⟨gb, 8, none⟩ = some (.slice Ab b.f6.length cb) := (bkC BB18.out 8).trans rfl
      go_upto_region 10 with (first | ((with_reducible refine gate_dst (N := 9) rfl ?_); refine box_event rfl (N := 9) rfl (cs := zerosE) (t := 26) (by first | rfl | (go_simp; done) | (go_simp; rfl)) ?_; intro mb hgg w19 hbmb hBmb; have hn3 : w18.heap.size ≤ mb := (by rw [hgg]; exact (blA (Below.refl _ w18) _).size); have hne : ¬ mb = w18.heap.size := (by rw [hgg]; simp); clear hgg) | ((with_reducible refine gate_store (p := 9) (v := .tmp 43) rfl ?_); refine wpList_store_row rfl 26 (.tmp 9) (.tmp 43) rfl mb (exC (manyE a b) (some ⟨w18.heap.size, 0, none⟩) 2) rfl rfl 26 zerosE hbmb (info_ex _ _ _) rfl (one_ex _ _ _) ?_))
      have hB20 : Below w18.heap.size w18 (w19.setRow mb (exC (manyE a b) (some ⟨w18.heap.size, 0, none⟩) 2)) := below_setRow' ((blA (Below.refl _ w18) _).trans (hBmb.mono (blA (Below.refl _ w18) _).size)) hn3 _
      have S20 : (w19.setRow mb (exC (manyE a b) (some ⟨w18.heap.size, 0, none⟩) 2)).heap[w18.heap.size]? = some (.cells (ex2 a b Aa Ab ca cb) 26 (0, 0)) := setRow_far _ hne ((hBmb.block _ (blk_lt (heap_alloc_new w18 _))).trans (heap_alloc_new w18 _)) _
      have M20 := Lib.hid (setRow_at w19 mb _ zerosE (exC (manyE a b) (some ⟨w18.heap.size, 0, none⟩) 2) hbmb)
      clear hbmb hBmb hne hn3
      generalize w19.setRow mb (exC (manyE a b) (some ⟨w18.heap.size, 0, none⟩) 2) = w20 at hB20 S20 M20 ⊢
      have KM20 := Lib.hid (ex2_C S20 ha hb (Kd.C_below KA18.out hB20) (Kd.C_below KB18.out hB20))
      have HB20 := Lib.hid (HB18.out.trans (hB20.mono HB18.out.size)); have BA20 := Lib.hid ((hB20.block ga (blk_lt BA18.out)).trans BA18.out); have BB20 := Lib.hid ((hB20.block gb (blk_lt BB18.out)).trans BB18.out); have KA20 := Lib.hid (Kd.C_below KA18.out hB20); have KB20 := Lib.hid (Kd.C_below KB18.out hB20); have D20 := Lib.hid ((hB20.block bb (blk_lt D18.out)).trans D18.out); have KD20 := Lib.hid (Kd.C_below KD18.out hB20); have F20 := Lib.hid ((hB20.block fb (blk_lt F18.out)).trans F18.out); have KF20 := Lib.hid (Kd.C_below KF18.out hB20)
      clear hB20 S20 HB18 BA18 BB18 KA18 KB18 D18 KD18 F18 KF18
      clear za0 za1 za2 za3 za4 za5 za6 za7 za8 zb0 zb1 zb2 zb3 zb4 zb5 zb6 zb7 zb8
      generalize w18.heap.size = s3 at M20 KM20 ⊢
      have zd0 : w20.cell? ⟨bb, 0, none⟩ = some (.int .i64 15) := (bkC D20.out 0).trans rfl; have zd1 : w20.cell? ⟨bb, 1, none⟩ = some (.int .i64 0) := (bkC D20.out 1).trans rfl; have zd2 : w20.cell? ⟨bb, 2, none⟩ = some (.int .i64 0) := (bkC D20.out 2).trans rfl; have zd3 : w20.cell? ⟨bb, 3, none⟩ = some (.string ⟨#[]⟩) := (bkC D20.out 3).trans rfl; have zd4 : w20.cell? ⟨bb, 4, none⟩ = some (.int .i64 0) := (bkC D20.out 4).trans rfl; have zd5 : w20.cell? ⟨bb, 5, none⟩ = some (.int .i64 0) := (bkC D20.out 5).trans rfl; have zd6 : w20.cell? ⟨bb, 6, none⟩ = some (.int .i64 0) := (bkC D20.out 6).trans rfl; have zd7 : w20.cell? ⟨bb, 7, none⟩ = some (.string ⟨#[]⟩) := (bkC D20.out 7).trans rfl; have zd8 : w20.cell? ⟨bb, 8, none⟩ = some (.slice A2 2 2) := (bkC D20.out 8).trans rfl
      go_upto_region 11 with (first | ((with_reducible refine gate_dst (N := 10) rfl ?_); refine box_event rfl (N := 10) rfl (cs := zerosE) (t := 26) (by first | rfl | (go_simp; done) | (go_simp; rfl)) ?_; intro ob hgg w21 hbob hBob; have hn3 : w20.heap.size ≤ ob := (by rw [hgg]; exact Nat.le_refl _); clear hgg) | ((with_reducible refine gate_store (p := 10) (v := .tmp 44) rfl ?_); refine wpList_store_row rfl 26 (.tmp 10) (.tmp 44) rfl ob (exC (twoE 15 a b) A2 2) rfl rfl 26 zerosE hbob (info_ex _ _ _) rfl (one_ex _ _ _) ?_))
      have hB22 : Below w20.heap.size w20 (w21.setRow ob (exC (twoE 15 a b) A2 2)) := below_setRow' hBob hn3 _
      have O22 := setRow_at w21 ob _ zerosE (exC (twoE 15 a b) A2 2) hbob
      clear hbob hBob
      generalize w21.setRow ob (exC (twoE 15 a b) A2 2) = w22 at hB22 O22 ⊢
      have fo := bkF O22 6; have zo6 : w22.cell? ⟨ob, 6, none⟩ = some (.int .i64 0) := (bkC O22 6).trans rfl
      clear zd0 zd1 zd2 zd3 zd4 zd5 zd6 zd7 zd8
      go_upto_region 12 with (fail)
      have hB23 : Below w20.heap.size w20 (w22.setCell ⟨ob, 6, none⟩ (.int .i64 1)) := hB22.setCell (p := ⟨ob, 6, none⟩) hn3 _
      have O23 : (w22.setCell ⟨ob, 6, none⟩ (.int .i64 1)).heap[ob]? = some (.cells (exC (oddE a b) A2 2) 26 (0, 0)) := blk_set O22 6 _
      clear fo zo6 hB22 O22 hn3
      generalize w22.setCell ⟨ob, 6, none⟩ (.int .i64 1) = w23 at hB23 O23 ⊢
      have HO23 := Lib.hid O23
      have HB23 := Lib.hid (HB20.out.trans (hB23.mono HB20.out.size)); have BA23 := Lib.hid ((hB23.block ga (blk_lt BA20.out)).trans BA20.out); have BB23 := Lib.hid ((hB23.block gb (blk_lt BB20.out)).trans BB20.out); have KA23 := Lib.hid (Kd.C_below KA20.out hB23); have KB23 := Lib.hid (Kd.C_below KB20.out hB23); have D23 := Lib.hid ((hB23.block bb (blk_lt D20.out)).trans D20.out); have KD23 := Lib.hid (Kd.C_below KD20.out hB23); have F23 := Lib.hid ((hB23.block fb (blk_lt F20.out)).trans F20.out); have KF23 := Lib.hid (Kd.C_below KF20.out hB23); have M23 := Lib.hid ((hB23.block mb (blk_lt M20.out)).trans M20.out); have KM23 := Lib.hid (Kd.C_below KM20.out hB23)
      clear hB23 O23 HB20 BA20 BB20 KA20 KB20 D20 KD20 F20 KF20 M20 KM20
      try simp only [Act.put, List.setIfInBounds_toArray, List.set_cons_succ, List.set_cons_zero]
      have HRF : Hid (∀ w', Below w23.heap.size w23 w' → Calls Tryd.prog 17 #[.agg #[.int .i64 15, .int .i64 0, .int .i64 0, .string ⟨#[]⟩, .int .i64 0, .int .i64 0, .int .i64 0, .string ⟨#[]⟩, .slice (some ⟨s2, 0, none⟩) 1 1]] w' fun r w'' => r = .returned (.bool (rightB (fewE a))) ∧ Below w'.heap.size w' w'') := Lib.hid (fun w' h => right_ok (fewE a) _ 1 w' (Kd.C_below KF23.out h) (by simp [fewE]))
      have HRM : Hid (∀ w', Below w23.heap.size w23 w' → Calls Tryd.prog 17 #[.agg #[.int .i64 17, .int .i64 0, .int .i64 0, .string ⟨#[]⟩, .int .i64 0, .int .i64 0, .int .i64 0, .string ⟨#[]⟩, .slice (some ⟨s3, 0, none⟩) 2 2]] w' fun r w'' => r = .returned (.bool (rightB (manyE a b))) ∧ Below w'.heap.size w' w'') := Lib.hid (fun w' h => right_ok (manyE a b) _ 2 w' (Kd.C_below KM23.out h) (by simp [manyE]))
      have HRO : Hid (∀ w', Below w23.heap.size w23 w' → Calls Tryd.prog 17 #[.agg #[.int .i64 15, .int .i64 0, .int .i64 0, .string ⟨#[]⟩, .int .i64 0, .int .i64 0, .int .i64 1, .string ⟨#[]⟩, .slice A2 2 2]] w' fun r w'' => r = .returned (.bool (rightB (oddE a b))) ∧ Below w'.heap.size w' w'') := Lib.hid (fun w' h => right_ok (oddE a b) A2 2 w' (Kd.C_below KD23.out h) (by simp [oddE]))
      have HRD : Hid (∀ w', Below w23.heap.size w23 w' → Calls Tryd.prog 17 #[.agg #[.int .i64 15, .int .i64 0, .int .i64 0, .string ⟨#[]⟩, .int .i64 0, .int .i64 0, .int .i64 0, .string ⟨#[]⟩, .slice A2 2 2]] w' fun r w'' => r = .returned (.bool (rightB (twoE 15 a b))) ∧ Below w'.heap.size w' w'') := Lib.hid (fun w' h => right_ok (twoE 15 a b) A2 2 w' (Kd.C_below KD23.out h) (by simp [twoE]))
      have HSD : Hid (∀ w', Below w23.heap.size w23 w' → Calls Tryd.prog 21 #[.agg #[.int .i64 15, .int .i64 0, .int .i64 0, .string ⟨#[]⟩, .int .i64 0, .int .i64 0, .int .i64 0, .string ⟨#[]⟩, .slice A2 2 2]] w' fun r w'' => r = .returned (.bool (safeB (twoE 15 a b))) ∧ Below w'.heap.size w' w'') := Lib.hid (fun w' h => safe_ok (twoE 15 a b) A2 2 w' (Kd.C_below KD23.out h) (by simp [twoE]))
      have HSA : Hid (∀ w', Below w23.heap.size w23 w' → Calls Tryd.prog 21 #[.agg #[.int .i64 a.f0, .int .i64 a.f1.f0, .int .i64 a.f1.f1, .string a.f1.f2, .int .i64 a.f2, .int .i64 a.f3, .int .i64 a.f4, .string a.f5, .slice Aa a.f6.length ca]] w' fun r w'' => r = .returned (.bool (safeB a)) ∧ Below w'.heap.size w' w'') := Lib.hid (fun w' h => safe_ok a Aa ca w' (Kd.C_below KA23.out h) ha)
      have HSB : Hid (∀ w', Below w23.heap.size w23 w' → Calls Tryd.prog 21 #[.agg #[.int .i64 b.f0, .int .i64 b.f1.f0, .int .i64 b.f1.f1, .string b.f1.f2, .int .i64 b.f2, .int .i64 b.f3, .int .i64 b.f4, .string b.f5, .slice Ab b.f6.length cb]] w' fun r w'' => r = .returned (.bool (safeB b)) ∧ Below w'.heap.size w' w'') := Lib.hid (fun w' h => safe_ok b Ab cb w' (Kd.C_below KB23.out h) hb)
      have sAll : Hid (∀ w', Below w23.heap.size w23 w' → (w'.cell? ⟨fb, 0, none⟩ = some (.int .i64 15) ∧ w'.cell? ⟨fb, 1, none⟩ = some (.int .i64 0) ∧ w'.cell? ⟨fb, 2, none⟩ = some (.int .i64 0) ∧ w'.cell? ⟨fb, 3, none⟩ = some (.string ⟨#[]⟩) ∧ w'.cell? ⟨fb, 4, none⟩ = some (.int .i64 0) ∧ w'.cell? ⟨fb, 5, none⟩ = some (.int .i64 0) ∧ w'.cell? ⟨fb, 6, none⟩ = some (.int .i64 0) ∧ w'.cell? ⟨fb, 7, none⟩ = some (.string ⟨#[]⟩) ∧ w'.cell? ⟨fb, 8, none⟩ = some (.slice (some ⟨s2, 0, none⟩) 1 1) ∧ w'.cell? ⟨mb, 0, none⟩ = some (.int .i64 17) ∧ w'.cell? ⟨mb, 1, none⟩ = some (.int .i64 0) ∧ w'.cell? ⟨mb, 2, none⟩ = some (.int .i64 0) ∧ w'.cell? ⟨mb, 3, none⟩ = some (.string ⟨#[]⟩) ∧ w'.cell? ⟨mb, 4, none⟩ = some (.int .i64 0) ∧ w'.cell? ⟨mb, 5, none⟩ = some (.int .i64 0) ∧ w'.cell? ⟨mb, 6, none⟩ = some (.int .i64 0) ∧ w'.cell? ⟨mb, 7, none⟩ = some (.string ⟨#[]⟩) ∧ w'.cell? ⟨mb, 8, none⟩ = some (.slice (some ⟨s3, 0, none⟩) 2 2) ∧ w'.cell? ⟨ob, 0, none⟩ = some (.int .i64 15) ∧ w'.cell? ⟨ob, 1, none⟩ = some (.int .i64 0) ∧ w'.cell? ⟨ob, 2, none⟩ = some (.int .i64 0) ∧ w'.cell? ⟨ob, 3, none⟩ = some (.string ⟨#[]⟩) ∧ w'.cell? ⟨ob, 4, none⟩ = some (.int .i64 0) ∧ w'.cell? ⟨ob, 5, none⟩ = some (.int .i64 0) ∧ w'.cell? ⟨ob, 6, none⟩ = some (.int .i64 1) ∧ w'.cell? ⟨ob, 7, none⟩ = some (.string ⟨#[]⟩) ∧ w'.cell? ⟨ob, 8, none⟩ = some (.slice A2 2 2) ∧ w'.cell? ⟨bb, 0, none⟩ = some (.int .i64 15) ∧ w'.cell? ⟨bb, 1, none⟩ = some (.int .i64 0) ∧ w'.cell? ⟨bb, 2, none⟩ = some (.int .i64 0) ∧ w'.cell? ⟨bb, 3, none⟩ = some (.string ⟨#[]⟩) ∧ w'.cell? ⟨bb, 4, none⟩ = some (.int .i64 0) ∧ w'.cell? ⟨bb, 5, none⟩ = some (.int .i64 0) ∧ w'.cell? ⟨bb, 6, none⟩ = some (.int .i64 0) ∧ w'.cell? ⟨bb, 7, none⟩ = some (.string ⟨#[]⟩) ∧ w'.cell? ⟨bb, 8, none⟩ = some (.slice A2 2 2) ∧ w'.cell? ⟨ga, 0, none⟩ = some (.int .i64 a.f0) ∧ w'.cell? ⟨ga, 1, none⟩ = some (.int .i64 a.f1.f0) ∧ w'.cell? ⟨ga, 2, none⟩ = some (.int .i64 a.f1.f1) ∧ w'.cell? ⟨ga, 3, none⟩ = some (.string a.f1.f2) ∧ w'.cell? ⟨ga, 4, none⟩ = some (.int .i64 a.f2) ∧ w'.cell? ⟨ga, 5, none⟩ = some (.int .i64 a.f3) ∧ w'.cell? ⟨ga, 6, none⟩ = some (.int .i64 a.f4) ∧ w'.cell? ⟨ga, 7, none⟩ = some (.string a.f5) ∧ w'.cell? ⟨ga, 8, none⟩ = some (.slice Aa a.f6.length ca) ∧ w'.cell? ⟨gb, 0, none⟩ = some (.int .i64 b.f0) ∧ w'.cell? ⟨gb, 1, none⟩ = some (.int .i64 b.f1.f0) ∧ w'.cell? ⟨gb, 2, none⟩ = some (.int .i64 b.f1.f1) ∧ w'.cell? ⟨gb, 3, none⟩ = some (.string b.f1.f2) ∧ w'.cell? ⟨gb, 4, none⟩ = some (.int .i64 b.f2) ∧ w'.cell? ⟨gb, 5, none⟩ = some (.int .i64 b.f3) ∧ w'.cell? ⟨gb, 6, none⟩ = some (.int .i64 b.f4) ∧ w'.cell? ⟨gb, 7, none⟩ = some (.string b.f5) ∧ w'.cell? ⟨gb, 8, none⟩ = some (.slice Ab b.f6.length cb))) := Lib.hid (fun w' h => by have Hfb := (h.block fb (blk_lt F23.out)).trans F23.out; have Hmb := (h.block mb (blk_lt M23.out)).trans M23.out; have Hob := (h.block ob (blk_lt HO23.out)).trans HO23.out; have Hbb := (h.block bb (blk_lt D23.out)).trans D23.out; have Hga := (h.block ga (blk_lt BA23.out)).trans BA23.out; have Hgb := (h.block gb (blk_lt BB23.out)).trans BB23.out; exact ⟨(bkC Hfb 0).trans rfl, (bkC Hfb 1).trans rfl, (bkC Hfb 2).trans rfl, (bkC Hfb 3).trans rfl, (bkC Hfb 4).trans rfl, (bkC Hfb 5).trans rfl, (bkC Hfb 6).trans rfl, (bkC Hfb 7).trans rfl, (bkC Hfb 8).trans rfl, (bkC Hmb 0).trans rfl, (bkC Hmb 1).trans rfl, (bkC Hmb 2).trans rfl, (bkC Hmb 3).trans rfl, (bkC Hmb 4).trans rfl, (bkC Hmb 5).trans rfl, (bkC Hmb 6).trans rfl, (bkC Hmb 7).trans rfl, (bkC Hmb 8).trans rfl, (bkC Hob 0).trans rfl, (bkC Hob 1).trans rfl, (bkC Hob 2).trans rfl, (bkC Hob 3).trans rfl, (bkC Hob 4).trans rfl, (bkC Hob 5).trans rfl, (bkC Hob 6).trans rfl, (bkC Hob 7).trans rfl, (bkC Hob 8).trans rfl, (bkC Hbb 0).trans rfl, (bkC Hbb 1).trans rfl, (bkC Hbb 2).trans rfl, (bkC Hbb 3).trans rfl, (bkC Hbb 4).trans rfl, (bkC Hbb 5).trans rfl, (bkC Hbb 6).trans rfl, (bkC Hbb 7).trans rfl, (bkC Hbb 8).trans rfl, (bkC Hga 0).trans rfl, (bkC Hga 1).trans rfl, (bkC Hga 2).trans rfl, (bkC Hga 3).trans rfl, (bkC Hga 4).trans rfl, (bkC Hga 5).trans rfl, (bkC Hga 6).trans rfl, (bkC Hga 7).trans rfl, (bkC Hga 8).trans rfl, (bkC Hgb 0).trans rfl, (bkC Hgb 1).trans rfl, (bkC Hgb 2).trans rfl, (bkC Hgb 3).trans rfl, (bkC Hgb 4).trans rfl, (bkC Hgb 5).trans rfl, (bkC Hgb 6).trans rfl, (bkC Hgb 7).trans rfl, (bkC Hgb 8).trans rfl⟩)
      rw [P3.out] at HRF; rw [P4.out] at HRM; rw [P5.out] at HRO
      have hD0 : Below w23.heap.size w23 w23 := Below.refl _ _
      have hD1 : Below w23.heap.size w23 w23.drew := ⟨rfl, rfl, rfl, Nat.le_refl _, fun _ _ => rfl⟩
      cases h1 : rightB (twoE 15 a b) with
      | false =>
        rw [h1] at HRD; clear h1 P6 P2 P3 P4 P5 HSD HSA HSB
        refine start_ (n := 33) (S := fun w' => w'.cell? ⟨fb, 0, none⟩ = some (.int .i64 15) ∧ w'.cell? ⟨fb, 1, none⟩ = some (.int .i64 0) ∧ w'.cell? ⟨fb, 2, none⟩ = some (.int .i64 0) ∧ w'.cell? ⟨fb, 3, none⟩ = some (.string ⟨#[]⟩) ∧ w'.cell? ⟨fb, 4, none⟩ = some (.int .i64 0) ∧ w'.cell? ⟨fb, 5, none⟩ = some (.int .i64 0) ∧ w'.cell? ⟨fb, 6, none⟩ = some (.int .i64 0) ∧ w'.cell? ⟨fb, 7, none⟩ = some (.string ⟨#[]⟩) ∧ w'.cell? ⟨fb, 8, none⟩ = some (.slice (some ⟨s2, 0, none⟩) 1 1) ∧ w'.cell? ⟨mb, 0, none⟩ = some (.int .i64 17) ∧ w'.cell? ⟨mb, 1, none⟩ = some (.int .i64 0) ∧ w'.cell? ⟨mb, 2, none⟩ = some (.int .i64 0) ∧ w'.cell? ⟨mb, 3, none⟩ = some (.string ⟨#[]⟩) ∧ w'.cell? ⟨mb, 4, none⟩ = some (.int .i64 0) ∧ w'.cell? ⟨mb, 5, none⟩ = some (.int .i64 0) ∧ w'.cell? ⟨mb, 6, none⟩ = some (.int .i64 0) ∧ w'.cell? ⟨mb, 7, none⟩ = some (.string ⟨#[]⟩) ∧ w'.cell? ⟨mb, 8, none⟩ = some (.slice (some ⟨s3, 0, none⟩) 2 2) ∧ w'.cell? ⟨ob, 0, none⟩ = some (.int .i64 15) ∧ w'.cell? ⟨ob, 1, none⟩ = some (.int .i64 0) ∧ w'.cell? ⟨ob, 2, none⟩ = some (.int .i64 0) ∧ w'.cell? ⟨ob, 3, none⟩ = some (.string ⟨#[]⟩) ∧ w'.cell? ⟨ob, 4, none⟩ = some (.int .i64 0) ∧ w'.cell? ⟨ob, 5, none⟩ = some (.int .i64 0) ∧ w'.cell? ⟨ob, 6, none⟩ = some (.int .i64 1) ∧ w'.cell? ⟨ob, 7, none⟩ = some (.string ⟨#[]⟩) ∧ w'.cell? ⟨ob, 8, none⟩ = some (.slice A2 2 2) ∧ w'.cell? ⟨bb, 0, none⟩ = some (.int .i64 15) ∧ w'.cell? ⟨bb, 1, none⟩ = some (.int .i64 0) ∧ w'.cell? ⟨bb, 2, none⟩ = some (.int .i64 0) ∧ w'.cell? ⟨bb, 3, none⟩ = some (.string ⟨#[]⟩) ∧ w'.cell? ⟨bb, 4, none⟩ = some (.int .i64 0) ∧ w'.cell? ⟨bb, 5, none⟩ = some (.int .i64 0) ∧ w'.cell? ⟨bb, 6, none⟩ = some (.int .i64 0) ∧ w'.cell? ⟨bb, 7, none⟩ = some (.string ⟨#[]⟩) ∧ w'.cell? ⟨bb, 8, none⟩ = some (.slice A2 2 2) ∧ w'.cell? ⟨ga, 0, none⟩ = some (.int .i64 a.f0) ∧ w'.cell? ⟨ga, 1, none⟩ = some (.int .i64 a.f1.f0) ∧ w'.cell? ⟨ga, 2, none⟩ = some (.int .i64 a.f1.f1) ∧ w'.cell? ⟨ga, 3, none⟩ = some (.string a.f1.f2) ∧ w'.cell? ⟨ga, 4, none⟩ = some (.int .i64 a.f2) ∧ w'.cell? ⟨ga, 5, none⟩ = some (.int .i64 a.f3) ∧ w'.cell? ⟨ga, 6, none⟩ = some (.int .i64 a.f4) ∧ w'.cell? ⟨ga, 7, none⟩ = some (.string a.f5) ∧ w'.cell? ⟨ga, 8, none⟩ = some (.slice Aa a.f6.length ca) ∧ w'.cell? ⟨gb, 0, none⟩ = some (.int .i64 b.f0) ∧ w'.cell? ⟨gb, 1, none⟩ = some (.int .i64 b.f1.f0) ∧ w'.cell? ⟨gb, 2, none⟩ = some (.int .i64 b.f1.f1) ∧ w'.cell? ⟨gb, 3, none⟩ = some (.string b.f1.f2) ∧ w'.cell? ⟨gb, 4, none⟩ = some (.int .i64 b.f2) ∧ w'.cell? ⟨gb, 5, none⟩ = some (.int .i64 b.f3) ∧ w'.cell? ⟨gb, 6, none⟩ = some (.int .i64 b.f4) ∧ w'.cell? ⟨gb, 7, none⟩ = some (.string b.f5) ∧ w'.cell? ⟨gb, 8, none⟩ = some (.slice Ab b.f6.length cb)) (ds := []) #[false, false, false, false, false, false, false, false, false, false, false, false, false, false, false, false, false, false, false, false, false, false, false, false, false, false, false, false, false, false, false, false, false] (by kernel_rfl) rfl rfl (sAll.out _ hD1) (fun hHeld => ?_); refine with_tabW builtR.tab builtR.bits (fun HT_ HW_ => ?_)
        generalize w23.drew = vs at hD1 hHeld ⊢
        refine pure_ (i := 0) (N := (some 46)) (v := ?_) (a' := ?_) #[true, false, false, false, false, false, false, false, false, false, false, false, false, false, false, false, false, false, false, false, false, false, false, false, false, false, false, false, false, false, false, false, false] rfl rfl (any_of HT_.out (by kernel_rfl)) (fun _ _ _ h => h) (Or.inl ⟨by rfl, ?_⟩) ?_ ?_
        rotate_left
        · intro w'
          go_simp
          with_reducible rfl
        rotate_left
        · simp only [Act.put, List.setIfInBounds_toArray, List.set_cons_zero, List.set_cons_succ]
          rfl
        refine pure_ (i := 1) (N := (some 47)) (v := ?_) (a' := ?_) #[true, true, false, false, false, false, false, false, false, false, false, false, false, false, false, false, false, false, false, false, false, false, false, false, false, false, false, false, false, false, false, false, false] rfl rfl (any_of HT_.out (by kernel_rfl)) (fun _ _ _ h => h) (Or.inl ⟨by rfl, ?_⟩) ?_ ?_
        rotate_left
        · intro w'
          go_simp
          with_reducible rfl
        rotate_left
        · simp only [Act.put, List.setIfInBounds_toArray, List.set_cons_zero, List.set_cons_succ]
          rfl
        refine take_ (i := 2) (N := (some 48)) (v := ?_) (a' := ?_) #[true, true, true, false, false, false, false, false, false, false, false, false, false, false, false, false, false, false, false, false, false, false, false, false, false, false, false, false, false, false, false, false, false] rfl rfl (take_ofW HT_.out HW_.out (by kernel_rfl)) (fun _ _ _ h => h) (Or.inl ⟨by rfl, ?_⟩) hHeld ?_ ?_
        rotate_left
        · rintro w' ⟨s0, s1, s2, s3, s4, s5, s6, s7, s8, s9, s10, s11, s12, s13, s14, s15, s16, s17, s18, s19, s20, s21, s22, s23, s24, s25, s26, s27, s28, s29, s30, s31, s32, s33, s34, s35, s36, s37, s38, s39, s40, s41, s42, s43, s44, s45, s46, s47, s48, s49, s50, s51, s52, s53⟩
          go_simp
          with_reducible rfl
        rotate_left
        · simp only [Act.put, List.setIfInBounds_toArray, List.set_cons_zero, List.set_cons_succ]
          rfl
        refine one_ (i := 3) (N := (some 49)) #[true, true, true, true, false, false, false, false, false, false, false, false, false, false, false, false, false, false, false, false, false, false, false, false, false, false, false, false, false, false, false, false, false] rfl rfl (one_of HT_.out (by kernel_rfl)) (by decide) (fun K hK => ?_)
        refine goes_ Tryd.func17 (by kernel_rfl) rfl #[.agg #[.int .i64 15, .int .i64 0, .int .i64 0, .string ⟨#[]⟩, .int .i64 0, .int .i64 0, .int .i64 0, .string ⟨#[]⟩, .slice (some ⟨s2, 0, none⟩) 1 1]] (by rfl) rfl rfl (by (try simp only [List.map_toArray, List.map_cons, List.map_nil]); first | done | rfl) ?_
        with_reducible refine (HRF.out _ hD1).mono ?_
        rintro e v1 ⟨rfl, hN⟩
        refine ⟨_, rfl, ?_⟩
        have hv1 : Below w23.heap.size w23 v1 := hD1.trans (hN.mono hD1.size)
        clear hN
        refine hK.out _ _ (sAll.out _ hv1) (fun hHeld => ?_)
        clear hK K
        refine norm_ (a' := ?_) ?_ ?_
        rotate_left
        · show Act.put _ (some 49) _ = _
          simp only [Act.put, List.setIfInBounds_toArray, List.set_cons_zero, List.set_cons_succ]
          rfl
        refine pure_ (i := 4) (N := (some 50)) (v := ?_) (a' := ?_) #[true, true, true, true, true, false, false, false, false, false, false, false, false, false, false, false, false, false, false, false, false, false, false, false, false, false, false, false, false, false, false, false, false] rfl rfl (any_of HT_.out (by kernel_rfl)) (fun _ _ _ h => h) (Or.inl ⟨by rfl, ?_⟩) ?_ ?_
        rotate_left
        · intro w'
          go_simp
          with_reducible rfl
        rotate_left
        · simp only [Act.put, List.setIfInBounds_toArray, List.set_cons_zero, List.set_cons_succ]
          rfl
        refine pure_ (i := 5) (N := (some 51)) (v := ?_) (a' := ?_) #[true, true, true, true, true, true, false, false, false, false, false, false, false, false, false, false, false, false, false, false, false, false, false, false, false, false, false, false, false, false, false, false, false] rfl rfl (any_of HT_.out (by kernel_rfl)) (fun _ _ _ h => h) (Or.inl ⟨by rfl, ?_⟩) ?_ ?_
        rotate_left
        · intro w'
          go_simp
          with_reducible rfl
        rotate_left
        · simp only [Act.put, List.setIfInBounds_toArray, List.set_cons_zero, List.set_cons_succ]
          rfl
        refine pure_ (i := 6) (N := (some 52)) (v := ?_) (a' := ?_) #[true, true, true, true, true, true, true, false, false, false, false, false, false, false, false, false, false, false, false, false, false, false, false, false, false, false, false, false, false, false, false, false, false] rfl rfl (any_of HT_.out (by kernel_rfl)) (fun _ _ _ h => h) (Or.inl ⟨by rfl, ?_⟩) ?_ ?_
        rotate_left
        · intro w'
          go_simp
          with_reducible rfl
        rotate_left
        · simp only [Act.put, List.setIfInBounds_toArray, List.set_cons_zero, List.set_cons_succ]
          rfl
        refine take_ (i := 7) (N := (some 53)) (v := ?_) (a' := ?_) #[true, true, true, true, true, true, true, true, false, false, false, false, false, false, false, false, false, false, false, false, false, false, false, false, false, false, false, false, false, false, false, false, false] rfl rfl (take_ofW HT_.out HW_.out (by kernel_rfl)) (fun _ _ _ h => h) (Or.inl ⟨by rfl, ?_⟩) hHeld ?_ ?_
        rotate_left
        · rintro w' ⟨s0, s1, s2, s3, s4, s5, s6, s7, s8, s9, s10, s11, s12, s13, s14, s15, s16, s17, s18, s19, s20, s21, s22, s23, s24, s25, s26, s27, s28, s29, s30, s31, s32, s33, s34, s35, s36, s37, s38, s39, s40, s41, s42, s43, s44, s45, s46, s47, s48, s49, s50, s51, s52, s53⟩
          go_simp
          with_reducible rfl
        rotate_left
        · simp only [Act.put, List.setIfInBounds_toArray, List.set_cons_zero, List.set_cons_succ]
          rfl
        refine one_ (i := 8) (N := (some 54)) #[true, true, true, true, true, true, true, true, true, false, false, false, false, false, false, false, false, false, false, false, false, false, false, false, false, false, false, false, false, false, false, false, false] rfl rfl (one_of HT_.out (by kernel_rfl)) (by decide) (fun K hK => ?_)
        refine goes_ Tryd.func17 (by kernel_rfl) rfl #[.agg #[.int .i64 17, .int .i64 0, .int .i64 0, .string ⟨#[]⟩, .int .i64 0, .int .i64 0, .int .i64 0, .string ⟨#[]⟩, .slice (some ⟨s3, 0, none⟩) 2 2]] (by rfl) rfl rfl (by (try simp only [List.map_toArray, List.map_cons, List.map_nil]); first | done | rfl) ?_
        with_reducible refine (HRM.out _ hv1).mono ?_
        rintro e v2 ⟨rfl, hN⟩
        refine ⟨_, rfl, ?_⟩
        have hv2 : Below w23.heap.size w23 v2 := hv1.trans (hN.mono hv1.size)
        clear hN
        refine hK.out _ _ (sAll.out _ hv2) (fun hHeld => ?_)
        clear hK K
        refine norm_ (a' := ?_) ?_ ?_
        rotate_left
        · show Act.put _ (some 54) _ = _
          simp only [Act.put, List.setIfInBounds_toArray, List.set_cons_zero, List.set_cons_succ]
          rfl
        refine pure_ (i := 9) (N := (some 55)) (v := ?_) (a' := ?_) #[true, true, true, true, true, true, true, true, true, true, false, false, false, false, false, false, false, false, false, false, false, false, false, false, false, false, false, false, false, false, false, false, false] rfl rfl (any_of HT_.out (by kernel_rfl)) (fun _ _ _ h => h) (Or.inl ⟨by rfl, ?_⟩) ?_ ?_
        rotate_left
        · intro w'
          go_simp
          with_reducible rfl
        rotate_left
        · simp only [Act.put, List.setIfInBounds_toArray, List.set_cons_zero, List.set_cons_succ]
          rfl
        refine pure_ (i := 10) (N := (some 56)) (v := ?_) (a' := ?_) #[true, true, true, true, true, true, true, true, true, true, true, false, false, false, false, false, false, false, false, false, false, false, false, false, false, false, false, false, false, false, false, false, false] rfl rfl (any_of HT_.out (by kernel_rfl)) (fun _ _ _ h => h) (Or.inl ⟨by rfl, ?_⟩) ?_ ?_
        rotate_left
        · intro w'
          go_simp
          with_reducible rfl
        rotate_left
        · simp only [Act.put, List.setIfInBounds_toArray, List.set_cons_zero, List.set_cons_succ]
          rfl
        refine pure_ (i := 11) (N := (some 57)) (v := ?_) (a' := ?_) #[true, true, true, true, true, true, true, true, true, true, true, true, false, false, false, false, false, false, false, false, false, false, false, false, false, false, false, false, false, false, false, false, false] rfl rfl (any_of HT_.out (by kernel_rfl)) (fun _ _ _ h => h) (Or.inl ⟨by rfl, ?_⟩) ?_ ?_
        rotate_left
        · intro w'
          go_simp
          with_reducible rfl
        rotate_left
        · simp only [Act.put, List.setIfInBounds_toArray, List.set_cons_zero, List.set_cons_succ]
          rfl
        refine take_ (i := 12) (N := (some 58)) (v := ?_) (a' := ?_) #[true, true, true, true, true, true, true, true, true, true, true, true, true, false, false, false, false, false, false, false, false, false, false, false, false, false, false, false, false, false, false, false, false] rfl rfl (take_ofW HT_.out HW_.out (by kernel_rfl)) (fun _ _ _ h => h) (Or.inl ⟨by rfl, ?_⟩) hHeld ?_ ?_
        rotate_left
        · rintro w' ⟨s0, s1, s2, s3, s4, s5, s6, s7, s8, s9, s10, s11, s12, s13, s14, s15, s16, s17, s18, s19, s20, s21, s22, s23, s24, s25, s26, s27, s28, s29, s30, s31, s32, s33, s34, s35, s36, s37, s38, s39, s40, s41, s42, s43, s44, s45, s46, s47, s48, s49, s50, s51, s52, s53⟩
          go_simp
          with_reducible rfl
        rotate_left
        · simp only [Act.put, List.setIfInBounds_toArray, List.set_cons_zero, List.set_cons_succ]
          rfl
        refine one_ (i := 13) (N := (some 59)) #[true, true, true, true, true, true, true, true, true, true, true, true, true, true, false, false, false, false, false, false, false, false, false, false, false, false, false, false, false, false, false, false, false] rfl rfl (one_of HT_.out (by kernel_rfl)) (by decide) (fun K hK => ?_)
        refine goes_ Tryd.func17 (by kernel_rfl) rfl #[.agg #[.int .i64 15, .int .i64 0, .int .i64 0, .string ⟨#[]⟩, .int .i64 0, .int .i64 0, .int .i64 1, .string ⟨#[]⟩, .slice A2 2 2]] (by rfl) rfl rfl (by (try simp only [List.map_toArray, List.map_cons, List.map_nil]); first | done | rfl) ?_
        with_reducible refine (HRO.out _ hv2).mono ?_
        rintro e v3 ⟨rfl, hN⟩
        refine ⟨_, rfl, ?_⟩
        have hv3 : Below w23.heap.size w23 v3 := hv2.trans (hN.mono hv2.size)
        clear hN
        refine hK.out _ _ (sAll.out _ hv3) (fun hHeld => ?_)
        clear hK K
        refine norm_ (a' := ?_) ?_ ?_
        rotate_left
        · show Act.put _ (some 59) _ = _
          simp only [Act.put, List.setIfInBounds_toArray, List.set_cons_zero, List.set_cons_succ]
          rfl
        refine pure_ (i := 14) (N := (some 60)) (v := ?_) (a' := ?_) #[true, true, true, true, true, true, true, true, true, true, true, true, true, true, true, false, false, false, false, false, false, false, false, false, false, false, false, false, false, false, false, false, false] rfl rfl (any_of HT_.out (by kernel_rfl)) (fun _ _ _ h => h) (Or.inl ⟨by rfl, ?_⟩) ?_ ?_
        rotate_left
        · intro w'
          go_simp
          with_reducible rfl
        rotate_left
        · simp only [Act.put, List.setIfInBounds_toArray, List.set_cons_zero, List.set_cons_succ]
          rfl
        refine pure_ (i := 15) (N := (some 61)) (v := ?_) (a' := ?_) #[true, true, true, true, true, true, true, true, true, true, true, true, true, true, true, true, false, false, false, false, false, false, false, false, false, false, false, false, false, false, false, false, false] rfl rfl (any_of HT_.out (by kernel_rfl)) (fun _ _ _ h => h) (Or.inl ⟨by rfl, ?_⟩) ?_ ?_
        rotate_left
        · intro w'
          go_simp
          with_reducible rfl
        rotate_left
        · simp only [Act.put, List.setIfInBounds_toArray, List.set_cons_zero, List.set_cons_succ]
          rfl
        refine pure_ (i := 16) (N := (some 62)) (v := ?_) (a' := ?_) #[true, true, true, true, true, true, true, true, true, true, true, true, true, true, true, true, true, false, false, false, false, false, false, false, false, false, false, false, false, false, false, false, false] rfl rfl (any_of HT_.out (by kernel_rfl)) (fun _ _ _ h => h) (Or.inl ⟨by rfl, ?_⟩) ?_ ?_
        rotate_left
        · intro w'
          go_simp
          with_reducible rfl
        rotate_left
        · simp only [Act.put, List.setIfInBounds_toArray, List.set_cons_zero, List.set_cons_succ]
          rfl
        refine take_ (i := 17) (N := (some 63)) (v := ?_) (a' := ?_) #[true, true, true, true, true, true, true, true, true, true, true, true, true, true, true, true, true, true, false, false, false, false, false, false, false, false, false, false, false, false, false, false, false] rfl rfl (take_ofW HT_.out HW_.out (by kernel_rfl)) (fun _ _ _ h => h) (Or.inl ⟨by rfl, ?_⟩) hHeld ?_ ?_
        rotate_left
        · rintro w' ⟨s0, s1, s2, s3, s4, s5, s6, s7, s8, s9, s10, s11, s12, s13, s14, s15, s16, s17, s18, s19, s20, s21, s22, s23, s24, s25, s26, s27, s28, s29, s30, s31, s32, s33, s34, s35, s36, s37, s38, s39, s40, s41, s42, s43, s44, s45, s46, s47, s48, s49, s50, s51, s52, s53⟩
          go_simp
          with_reducible rfl
        rotate_left
        · simp only [Act.put, List.setIfInBounds_toArray, List.set_cons_zero, List.set_cons_succ]
          rfl
        refine one_ (i := 18) (N := (some 64)) #[true, true, true, true, true, true, true, true, true, true, true, true, true, true, true, true, true, true, true, false, false, false, false, false, false, false, false, false, false, false, false, false, false] rfl rfl (one_of HT_.out (by kernel_rfl)) (by decide) (fun K hK => ?_)
        refine goes_ Tryd.func17 (by kernel_rfl) rfl #[.agg #[.int .i64 15, .int .i64 0, .int .i64 0, .string ⟨#[]⟩, .int .i64 0, .int .i64 0, .int .i64 0, .string ⟨#[]⟩, .slice A2 2 2]] (by rfl) rfl rfl (by (try simp only [List.map_toArray, List.map_cons, List.map_nil]); first | done | rfl) ?_
        with_reducible refine (HRD.out _ hv3).mono ?_
        rintro e v4 ⟨rfl, hN⟩
        refine ⟨_, rfl, ?_⟩
        have hv4 : Below w23.heap.size w23 v4 := hv3.trans (hN.mono hv3.size)
        clear hN
        refine hK.out _ _ (sAll.out _ hv4) (fun hHeld => ?_)
        clear hK K
        refine norm_ (a' := ?_) ?_ ?_
        rotate_left
        · show Act.put _ (some 64) _ = _
          simp only [Act.put, List.setIfInBounds_toArray, List.set_cons_zero, List.set_cons_succ]
          rfl
        refine pure_ (i := 19) (N := (some 65)) (v := ?_) (a' := ?_) #[true, true, true, true, true, true, true, true, true, true, true, true, true, true, true, true, true, true, true, true, false, false, false, false, false, false, false, false, false, false, false, false, false] rfl rfl (any_of HT_.out (by kernel_rfl)) (fun _ _ _ h => h) (Or.inl ⟨by rfl, ?_⟩) ?_ ?_
        rotate_left
        · intro w'
          go_simp
          with_reducible rfl
        rotate_left
        · simp only [Act.put, List.setIfInBounds_toArray, List.set_cons_zero, List.set_cons_succ]
          rfl
        refine pure_ (i := 20) (N := (some 66)) (v := ?_) (a' := ?_) #[true, true, true, true, true, true, true, true, true, true, true, true, true, true, true, true, true, true, true, true, true, false, false, false, false, false, false, false, false, false, false, false, false] rfl rfl (any_of HT_.out (by kernel_rfl)) (fun _ _ _ h => h) (Or.inl ⟨by rfl, ?_⟩) ?_ ?_
        rotate_left
        · intro w'
          go_simp
          with_reducible rfl
        rotate_left
        · simp only [Act.put, List.setIfInBounds_toArray, List.set_cons_zero, List.set_cons_succ]
          rfl
        refine pure_ (i := 21) (N := (some 67)) (v := undef) (a' := ?_) #[true, true, true, true, true, true, true, true, true, true, true, true, true, true, true, true, true, true, true, true, true, true, false, false, false, false, false, false, false, false, false, false, false] rfl rfl (any_of HT_.out (by kernel_rfl)) (fun _ _ _ h => h) (Or.inr ⟨by rfl, rfl⟩) ?_ ?_
        rotate_left
        · simp only [Act.put, List.setIfInBounds_toArray, List.set_cons_zero, List.set_cons_succ]
          rfl
        refine pure_ (i := 22) (N := (some 68)) (v := undef) (a' := ?_) #[true, true, true, true, true, true, true, true, true, true, true, true, true, true, true, true, true, true, true, true, true, true, true, false, false, false, false, false, false, false, false, false, false] rfl rfl (any_of HT_.out (by kernel_rfl)) (fun _ _ _ h => h) (Or.inr ⟨by rfl, rfl⟩) ?_ ?_
        rotate_left
        · simp only [Act.put, List.setIfInBounds_toArray, List.set_cons_zero, List.set_cons_succ]
          rfl
        refine pure_ (i := 23) (N := (some 69)) (v := undef) (a' := ?_) #[true, true, true, true, true, true, true, true, true, true, true, true, true, true, true, true, true, true, true, true, true, true, true, true, false, false, false, false, false, false, false, false, false] rfl rfl (any_of HT_.out (by kernel_rfl)) (fun _ _ _ h => h) (Or.inr ⟨by rfl, rfl⟩) ?_ ?_
        rotate_left
        · simp only [Act.put, List.setIfInBounds_toArray, List.set_cons_zero, List.set_cons_succ]
          rfl
        refine pure_ (i := 24) (N := (some 70)) (v := undef) (a' := ?_) #[true, true, true, true, true, true, true, true, true, true, true, true, true, true, true, true, true, true, true, true, true, true, true, true, true, false, false, false, false, false, false, false, false] rfl rfl (any_of HT_.out (by kernel_rfl)) (fun _ _ _ h => h) (Or.inr ⟨by rfl, rfl⟩) ?_ ?_
        rotate_left
        · simp only [Act.put, List.setIfInBounds_toArray, List.set_cons_zero, List.set_cons_succ]
          rfl
        refine pure_ (i := 25) (N := (some 71)) (v := undef) (a' := ?_) #[true, true, true, true, true, true, true, true, true, true, true, true, true, true, true, true, true, true, true, true, true, true, true, true, true, true, false, false, false, false, false, false, false] rfl rfl (any_of HT_.out (by kernel_rfl)) (fun _ _ _ h => h) (Or.inr ⟨by rfl, rfl⟩) ?_ ?_
        rotate_left
        · simp only [Act.put, List.setIfInBounds_toArray, List.set_cons_zero, List.set_cons_succ]
          rfl
        refine pure_ (i := 26) (N := (some 72)) (v := undef) (a' := ?_) #[true, true, true, true, true, true, true, true, true, true, true, true, true, true, true, true, true, true, true, true, true, true, true, true, true, true, true, false, false, false, false, false, false] rfl rfl (any_of HT_.out (by kernel_rfl)) (fun _ _ _ h => h) (Or.inr ⟨by rfl, rfl⟩) ?_ ?_
        rotate_left
        · simp only [Act.put, List.setIfInBounds_toArray, List.set_cons_zero, List.set_cons_succ]
          rfl
        refine pure_ (i := 27) (N := (some 73)) (v := undef) (a' := ?_) #[true, true, true, true, true, true, true, true, true, true, true, true, true, true, true, true, true, true, true, true, true, true, true, true, true, true, true, true, false, false, false, false, false] rfl rfl (any_of HT_.out (by kernel_rfl)) (fun _ _ _ h => h) (Or.inr ⟨by rfl, rfl⟩) ?_ ?_
        rotate_left
        · simp only [Act.put, List.setIfInBounds_toArray, List.set_cons_zero, List.set_cons_succ]
          rfl
        refine pure_ (i := 28) (N := (some 74)) (v := undef) (a' := ?_) #[true, true, true, true, true, true, true, true, true, true, true, true, true, true, true, true, true, true, true, true, true, true, true, true, true, true, true, true, true, false, false, false, false] rfl rfl (any_of HT_.out (by kernel_rfl)) (fun _ _ _ h => h) (Or.inr ⟨by rfl, rfl⟩) ?_ ?_
        rotate_left
        · simp only [Act.put, List.setIfInBounds_toArray, List.set_cons_zero, List.set_cons_succ]
          rfl
        refine pure_ (i := 29) (N := (some 75)) (v := undef) (a' := ?_) #[true, true, true, true, true, true, true, true, true, true, true, true, true, true, true, true, true, true, true, true, true, true, true, true, true, true, true, true, true, true, false, false, false] rfl rfl (any_of HT_.out (by kernel_rfl)) (fun _ _ _ h => h) (Or.inr ⟨by rfl, rfl⟩) ?_ ?_
        rotate_left
        · simp only [Act.put, List.setIfInBounds_toArray, List.set_cons_zero, List.set_cons_succ]
          rfl
        refine pure_ (i := 30) (N := (some 76)) (v := ?_) (a' := ?_) #[true, true, true, true, true, true, true, true, true, true, true, true, true, true, true, true, true, true, true, true, true, true, true, true, true, true, true, true, true, true, true, false, false] rfl rfl (any_of HT_.out (by kernel_rfl)) (fun _ _ _ h => h) (Or.inl ⟨by rfl, ?_⟩) ?_ ?_
        rotate_left
        · intro w'
          go_simp
          with_reducible rfl
        rotate_left
        · simp only [Act.put, List.setIfInBounds_toArray, List.set_cons_zero, List.set_cons_succ]
          rfl
        refine pure_ (i := 31) (N := (some 77)) (v := ?_) (a' := ?_) #[true, true, true, true, true, true, true, true, true, true, true, true, true, true, true, true, true, true, true, true, true, true, true, true, true, true, true, true, true, true, true, true, false] rfl rfl (any_of HT_.out (by kernel_rfl)) (fun _ _ _ h => h) (Or.inl ⟨by rfl, ?_⟩) ?_ ?_
        rotate_left
        · intro w'
          go_simp
          with_reducible rfl
        rotate_left
        · simp only [Act.put, List.setIfInBounds_toArray, List.set_cons_zero, List.set_cons_succ]
          rfl
        refine pure_ (i := 32) (N := (some 4)) (v := ?_) (a' := ?_) #[true, true, true, true, true, true, true, true, true, true, true, true, true, true, true, true, true, true, true, true, true, true, true, true, true, true, true, true, true, true, true, true, true] rfl rfl (any_of HT_.out (by kernel_rfl)) (fun _ _ _ h => h) (Or.inl ⟨by rfl, ?_⟩) ?_ ?_
        rotate_left
        · intro w'
          go_simp
          with_reducible rfl
        rotate_left
        · simp only [Act.put, List.setIfInBounds_toArray, List.set_cons_zero, List.set_cons_succ]
          rfl
        refine done_ (done_of HT_.out (by kernel_rfl)) ?_
        try go_wp2_with fail
        go_ret; exact ⟨rfl, HB23.out.trans (hv4.mono HB23.out.size)⟩
      | true =>
        have h2 := P6.out h1
        rw [h1] at HRD; clear h1 P6 P2 P3 P4 P5
        cases hsa : safeB a with
        | false =>
          rw [hsa, Bool.false_and] at h2
          rw [h2] at HSD; rw [hsa] at HSA; clear h2 hsa HSB
          refine start_ (n := 33) (S := fun w' => w'.cell? ⟨fb, 0, none⟩ = some (.int .i64 15) ∧ w'.cell? ⟨fb, 1, none⟩ = some (.int .i64 0) ∧ w'.cell? ⟨fb, 2, none⟩ = some (.int .i64 0) ∧ w'.cell? ⟨fb, 3, none⟩ = some (.string ⟨#[]⟩) ∧ w'.cell? ⟨fb, 4, none⟩ = some (.int .i64 0) ∧ w'.cell? ⟨fb, 5, none⟩ = some (.int .i64 0) ∧ w'.cell? ⟨fb, 6, none⟩ = some (.int .i64 0) ∧ w'.cell? ⟨fb, 7, none⟩ = some (.string ⟨#[]⟩) ∧ w'.cell? ⟨fb, 8, none⟩ = some (.slice (some ⟨s2, 0, none⟩) 1 1) ∧ w'.cell? ⟨mb, 0, none⟩ = some (.int .i64 17) ∧ w'.cell? ⟨mb, 1, none⟩ = some (.int .i64 0) ∧ w'.cell? ⟨mb, 2, none⟩ = some (.int .i64 0) ∧ w'.cell? ⟨mb, 3, none⟩ = some (.string ⟨#[]⟩) ∧ w'.cell? ⟨mb, 4, none⟩ = some (.int .i64 0) ∧ w'.cell? ⟨mb, 5, none⟩ = some (.int .i64 0) ∧ w'.cell? ⟨mb, 6, none⟩ = some (.int .i64 0) ∧ w'.cell? ⟨mb, 7, none⟩ = some (.string ⟨#[]⟩) ∧ w'.cell? ⟨mb, 8, none⟩ = some (.slice (some ⟨s3, 0, none⟩) 2 2) ∧ w'.cell? ⟨ob, 0, none⟩ = some (.int .i64 15) ∧ w'.cell? ⟨ob, 1, none⟩ = some (.int .i64 0) ∧ w'.cell? ⟨ob, 2, none⟩ = some (.int .i64 0) ∧ w'.cell? ⟨ob, 3, none⟩ = some (.string ⟨#[]⟩) ∧ w'.cell? ⟨ob, 4, none⟩ = some (.int .i64 0) ∧ w'.cell? ⟨ob, 5, none⟩ = some (.int .i64 0) ∧ w'.cell? ⟨ob, 6, none⟩ = some (.int .i64 1) ∧ w'.cell? ⟨ob, 7, none⟩ = some (.string ⟨#[]⟩) ∧ w'.cell? ⟨ob, 8, none⟩ = some (.slice A2 2 2) ∧ w'.cell? ⟨bb, 0, none⟩ = some (.int .i64 15) ∧ w'.cell? ⟨bb, 1, none⟩ = some (.int .i64 0) ∧ w'.cell? ⟨bb, 2, none⟩ = some (.int .i64 0) ∧ w'.cell? ⟨bb, 3, none⟩ = some (.string ⟨#[]⟩) ∧ w'.cell? ⟨bb, 4, none⟩ = some (.int .i64 0) ∧ w'.cell? ⟨bb, 5, none⟩ = some (.int .i64 0) ∧ w'.cell? ⟨bb, 6, none⟩ = some (.int .i64 0) ∧ w'.cell? ⟨bb, 7, none⟩ = some (.string ⟨#[]⟩) ∧ w'.cell? ⟨bb, 8, none⟩ = some (.slice A2 2 2) ∧ w'.cell? ⟨ga, 0, none⟩ = some (.int .i64 a.f0) ∧ w'.cell? ⟨ga, 1, none⟩ = some (.int .i64 a.f1.f0) ∧ w'.cell? ⟨ga, 2, none⟩ = some (.int .i64 a.f1.f1) ∧ w'.cell? ⟨ga, 3, none⟩ = some (.string a.f1.f2) ∧ w'.cell? ⟨ga, 4, none⟩ = some (.int .i64 a.f2) ∧ w'.cell? ⟨ga, 5, none⟩ = some (.int .i64 a.f3) ∧ w'.cell? ⟨ga, 6, none⟩ = some (.int .i64 a.f4) ∧ w'.cell? ⟨ga, 7, none⟩ = some (.string a.f5) ∧ w'.cell? ⟨ga, 8, none⟩ = some (.slice Aa a.f6.length ca) ∧ w'.cell? ⟨gb, 0, none⟩ = some (.int .i64 b.f0) ∧ w'.cell? ⟨gb, 1, none⟩ = some (.int .i64 b.f1.f0) ∧ w'.cell? ⟨gb, 2, none⟩ = some (.int .i64 b.f1.f1) ∧ w'.cell? ⟨gb, 3, none⟩ = some (.string b.f1.f2) ∧ w'.cell? ⟨gb, 4, none⟩ = some (.int .i64 b.f2) ∧ w'.cell? ⟨gb, 5, none⟩ = some (.int .i64 b.f3) ∧ w'.cell? ⟨gb, 6, none⟩ = some (.int .i64 b.f4) ∧ w'.cell? ⟨gb, 7, none⟩ = some (.string b.f5) ∧ w'.cell? ⟨gb, 8, none⟩ = some (.slice Ab b.f6.length cb)) (ds := []) #[false, false, false, false, false, false, false, false, false, false, false, false, false, false, false, false, false, false, false, false, false, false, false, false, false, false, false, false, false, false, false, false, false] (by kernel_rfl) rfl rfl (sAll.out _ hD1) (fun hHeld => ?_); refine with_tabW builtR.tab builtR.bits (fun HT_ HW_ => ?_)
          generalize w23.drew = vs at hD1 hHeld ⊢
          refine pure_ (i := 0) (N := (some 46)) (v := ?_) (a' := ?_) #[true, false, false, false, false, false, false, false, false, false, false, false, false, false, false, false, false, false, false, false, false, false, false, false, false, false, false, false, false, false, false, false, false] rfl rfl (any_of HT_.out (by kernel_rfl)) (fun _ _ _ h => h) (Or.inl ⟨by rfl, ?_⟩) ?_ ?_
          rotate_left
          · intro w'
            go_simp
            with_reducible rfl
          rotate_left
          · simp only [Act.put, List.setIfInBounds_toArray, List.set_cons_zero, List.set_cons_succ]
            rfl
          refine pure_ (i := 1) (N := (some 47)) (v := ?_) (a' := ?_) #[true, true, false, false, false, false, false, false, false, false, false, false, false, false, false, false, false, false, false, false, false, false, false, false, false, false, false, false, false, false, false, false, false] rfl rfl (any_of HT_.out (by kernel_rfl)) (fun _ _ _ h => h) (Or.inl ⟨by rfl, ?_⟩) ?_ ?_
          rotate_left
          · intro w'
            go_simp
            with_reducible rfl
          rotate_left
          · simp only [Act.put, List.setIfInBounds_toArray, List.set_cons_zero, List.set_cons_succ]
            rfl
          refine take_ (i := 2) (N := (some 48)) (v := ?_) (a' := ?_) #[true, true, true, false, false, false, false, false, false, false, false, false, false, false, false, false, false, false, false, false, false, false, false, false, false, false, false, false, false, false, false, false, false] rfl rfl (take_ofW HT_.out HW_.out (by kernel_rfl)) (fun _ _ _ h => h) (Or.inl ⟨by rfl, ?_⟩) hHeld ?_ ?_
          rotate_left
          · rintro w' ⟨s0, s1, s2, s3, s4, s5, s6, s7, s8, s9, s10, s11, s12, s13, s14, s15, s16, s17, s18, s19, s20, s21, s22, s23, s24, s25, s26, s27, s28, s29, s30, s31, s32, s33, s34, s35, s36, s37, s38, s39, s40, s41, s42, s43, s44, s45, s46, s47, s48, s49, s50, s51, s52, s53⟩
            go_simp
            with_reducible rfl
          rotate_left
          · simp only [Act.put, List.setIfInBounds_toArray, List.set_cons_zero, List.set_cons_succ]
            rfl
          refine one_ (i := 3) (N := (some 49)) #[true, true, true, true, false, false, false, false, false, false, false, false, false, false, false, false, false, false, false, false, false, false, false, false, false, false, false, false, false, false, false, false, false] rfl rfl (one_of HT_.out (by kernel_rfl)) (by decide) (fun K hK => ?_)
          refine goes_ Tryd.func17 (by kernel_rfl) rfl #[.agg #[.int .i64 15, .int .i64 0, .int .i64 0, .string ⟨#[]⟩, .int .i64 0, .int .i64 0, .int .i64 0, .string ⟨#[]⟩, .slice (some ⟨s2, 0, none⟩) 1 1]] (by rfl) rfl rfl (by (try simp only [List.map_toArray, List.map_cons, List.map_nil]); first | done | rfl) ?_
          with_reducible refine (HRF.out _ hD1).mono ?_
          rintro e v1 ⟨rfl, hN⟩
          refine ⟨_, rfl, ?_⟩
          have hv1 : Below w23.heap.size w23 v1 := hD1.trans (hN.mono hD1.size)
          clear hN
          refine hK.out _ _ (sAll.out _ hv1) (fun hHeld => ?_)
          clear hK K
          refine norm_ (a' := ?_) ?_ ?_
          rotate_left
          · show Act.put _ (some 49) _ = _
            simp only [Act.put, List.setIfInBounds_toArray, List.set_cons_zero, List.set_cons_succ]
            rfl
          refine pure_ (i := 4) (N := (some 50)) (v := ?_) (a' := ?_) #[true, true, true, true, true, false, false, false, false, false, false, false, false, false, false, false, false, false, false, false, false, false, false, false, false, false, false, false, false, false, false, false, false] rfl rfl (any_of HT_.out (by kernel_rfl)) (fun _ _ _ h => h) (Or.inl ⟨by rfl, ?_⟩) ?_ ?_
          rotate_left
          · intro w'
            go_simp
            with_reducible rfl
          rotate_left
          · simp only [Act.put, List.setIfInBounds_toArray, List.set_cons_zero, List.set_cons_succ]
            rfl
          refine pure_ (i := 5) (N := (some 51)) (v := ?_) (a' := ?_) #[true, true, true, true, true, true, false, false, false, false, false, false, false, false, false, false, false, false, false, false, false, false, false, false, false, false, false, false, false, false, false, false, false] rfl rfl (any_of HT_.out (by kernel_rfl)) (fun _ _ _ h => h) (Or.inl ⟨by rfl, ?_⟩) ?_ ?_
          rotate_left
          · intro w'
            go_simp
            with_reducible rfl
          rotate_left
          · simp only [Act.put, List.setIfInBounds_toArray, List.set_cons_zero, List.set_cons_succ]
            rfl
          refine pure_ (i := 6) (N := (some 52)) (v := ?_) (a' := ?_) #[true, true, true, true, true, true, true, false, false, false, false, false, false, false, false, false, false, false, false, false, false, false, false, false, false, false, false, false, false, false, false, false, false] rfl rfl (any_of HT_.out (by kernel_rfl)) (fun _ _ _ h => h) (Or.inl ⟨by rfl, ?_⟩) ?_ ?_
          rotate_left
          · intro w'
            go_simp
            with_reducible rfl
          rotate_left
          · simp only [Act.put, List.setIfInBounds_toArray, List.set_cons_zero, List.set_cons_succ]
            rfl
          refine take_ (i := 7) (N := (some 53)) (v := ?_) (a' := ?_) #[true, true, true, true, true, true, true, true, false, false, false, false, false, false, false, false, false, false, false, false, false, false, false, false, false, false, false, false, false, false, false, false, false] rfl rfl (take_ofW HT_.out HW_.out (by kernel_rfl)) (fun _ _ _ h => h) (Or.inl ⟨by rfl, ?_⟩) hHeld ?_ ?_
          rotate_left
          · rintro w' ⟨s0, s1, s2, s3, s4, s5, s6, s7, s8, s9, s10, s11, s12, s13, s14, s15, s16, s17, s18, s19, s20, s21, s22, s23, s24, s25, s26, s27, s28, s29, s30, s31, s32, s33, s34, s35, s36, s37, s38, s39, s40, s41, s42, s43, s44, s45, s46, s47, s48, s49, s50, s51, s52, s53⟩
            go_simp
            with_reducible rfl
          rotate_left
          · simp only [Act.put, List.setIfInBounds_toArray, List.set_cons_zero, List.set_cons_succ]
            rfl
          refine one_ (i := 8) (N := (some 54)) #[true, true, true, true, true, true, true, true, true, false, false, false, false, false, false, false, false, false, false, false, false, false, false, false, false, false, false, false, false, false, false, false, false] rfl rfl (one_of HT_.out (by kernel_rfl)) (by decide) (fun K hK => ?_)
          refine goes_ Tryd.func17 (by kernel_rfl) rfl #[.agg #[.int .i64 17, .int .i64 0, .int .i64 0, .string ⟨#[]⟩, .int .i64 0, .int .i64 0, .int .i64 0, .string ⟨#[]⟩, .slice (some ⟨s3, 0, none⟩) 2 2]] (by rfl) rfl rfl (by (try simp only [List.map_toArray, List.map_cons, List.map_nil]); first | done | rfl) ?_
          with_reducible refine (HRM.out _ hv1).mono ?_
          rintro e v2 ⟨rfl, hN⟩
          refine ⟨_, rfl, ?_⟩
          have hv2 : Below w23.heap.size w23 v2 := hv1.trans (hN.mono hv1.size)
          clear hN
          refine hK.out _ _ (sAll.out _ hv2) (fun hHeld => ?_)
          clear hK K
          refine norm_ (a' := ?_) ?_ ?_
          rotate_left
          · show Act.put _ (some 54) _ = _
            simp only [Act.put, List.setIfInBounds_toArray, List.set_cons_zero, List.set_cons_succ]
            rfl
          refine pure_ (i := 9) (N := (some 55)) (v := ?_) (a' := ?_) #[true, true, true, true, true, true, true, true, true, true, false, false, false, false, false, false, false, false, false, false, false, false, false, false, false, false, false, false, false, false, false, false, false] rfl rfl (any_of HT_.out (by kernel_rfl)) (fun _ _ _ h => h) (Or.inl ⟨by rfl, ?_⟩) ?_ ?_
          rotate_left
          · intro w'
            go_simp
            with_reducible rfl
          rotate_left
          · simp only [Act.put, List.setIfInBounds_toArray, List.set_cons_zero, List.set_cons_succ]
            rfl
          refine pure_ (i := 10) (N := (some 56)) (v := ?_) (a' := ?_) #[true, true, true, true, true, true, true, true, true, true, true, false, false, false, false, false, false, false, false, false, false, false, false, false, false, false, false, false, false, false, false, false, false] rfl rfl (any_of HT_.out (by kernel_rfl)) (fun _ _ _ h => h) (Or.inl ⟨by rfl, ?_⟩) ?_ ?_
          rotate_left
          · intro w'
            go_simp
            with_reducible rfl
          rotate_left
          · simp only [Act.put, List.setIfInBounds_toArray, List.set_cons_zero, List.set_cons_succ]
            rfl
          refine pure_ (i := 11) (N := (some 57)) (v := ?_) (a' := ?_) #[true, true, true, true, true, true, true, true, true, true, true, true, false, false, false, false, false, false, false, false, false, false, false, false, false, false, false, false, false, false, false, false, false] rfl rfl (any_of HT_.out (by kernel_rfl)) (fun _ _ _ h => h) (Or.inl ⟨by rfl, ?_⟩) ?_ ?_
          rotate_left
          · intro w'
            go_simp
            with_reducible rfl
          rotate_left
          · simp only [Act.put, List.setIfInBounds_toArray, List.set_cons_zero, List.set_cons_succ]
            rfl
          refine take_ (i := 12) (N := (some 58)) (v := ?_) (a' := ?_) #[true, true, true, true, true, true, true, true, true, true, true, true, true, false, false, false, false, false, false, false, false, false, false, false, false, false, false, false, false, false, false, false, false] rfl rfl (take_ofW HT_.out HW_.out (by kernel_rfl)) (fun _ _ _ h => h) (Or.inl ⟨by rfl, ?_⟩) hHeld ?_ ?_
          rotate_left
          · rintro w' ⟨s0, s1, s2, s3, s4, s5, s6, s7, s8, s9, s10, s11, s12, s13, s14, s15, s16, s17, s18, s19, s20, s21, s22, s23, s24, s25, s26, s27, s28, s29, s30, s31, s32, s33, s34, s35, s36, s37, s38, s39, s40, s41, s42, s43, s44, s45, s46, s47, s48, s49, s50, s51, s52, s53⟩
            go_simp
            with_reducible rfl
          rotate_left
          · simp only [Act.put, List.setIfInBounds_toArray, List.set_cons_zero, List.set_cons_succ]
            rfl
          refine one_ (i := 13) (N := (some 59)) #[true, true, true, true, true, true, true, true, true, true, true, true, true, true, false, false, false, false, false, false, false, false, false, false, false, false, false, false, false, false, false, false, false] rfl rfl (one_of HT_.out (by kernel_rfl)) (by decide) (fun K hK => ?_)
          refine goes_ Tryd.func17 (by kernel_rfl) rfl #[.agg #[.int .i64 15, .int .i64 0, .int .i64 0, .string ⟨#[]⟩, .int .i64 0, .int .i64 0, .int .i64 1, .string ⟨#[]⟩, .slice A2 2 2]] (by rfl) rfl rfl (by (try simp only [List.map_toArray, List.map_cons, List.map_nil]); first | done | rfl) ?_
          with_reducible refine (HRO.out _ hv2).mono ?_
          rintro e v3 ⟨rfl, hN⟩
          refine ⟨_, rfl, ?_⟩
          have hv3 : Below w23.heap.size w23 v3 := hv2.trans (hN.mono hv2.size)
          clear hN
          refine hK.out _ _ (sAll.out _ hv3) (fun hHeld => ?_)
          clear hK K
          refine norm_ (a' := ?_) ?_ ?_
          rotate_left
          · show Act.put _ (some 59) _ = _
            simp only [Act.put, List.setIfInBounds_toArray, List.set_cons_zero, List.set_cons_succ]
            rfl
          refine pure_ (i := 14) (N := (some 60)) (v := ?_) (a' := ?_) #[true, true, true, true, true, true, true, true, true, true, true, true, true, true, true, false, false, false, false, false, false, false, false, false, false, false, false, false, false, false, false, false, false] rfl rfl (any_of HT_.out (by kernel_rfl)) (fun _ _ _ h => h) (Or.inl ⟨by rfl, ?_⟩) ?_ ?_
          rotate_left
          · intro w'
            go_simp
            with_reducible rfl
          rotate_left
          · simp only [Act.put, List.setIfInBounds_toArray, List.set_cons_zero, List.set_cons_succ]
            rfl
          refine pure_ (i := 15) (N := (some 61)) (v := ?_) (a' := ?_) #[true, true, true, true, true, true, true, true, true, true, true, true, true, true, true, true, false, false, false, false, false, false, false, false, false, false, false, false, false, false, false, false, false] rfl rfl (any_of HT_.out (by kernel_rfl)) (fun _ _ _ h => h) (Or.inl ⟨by rfl, ?_⟩) ?_ ?_
          rotate_left
          · intro w'
            go_simp
            with_reducible rfl
          rotate_left
          · simp only [Act.put, List.setIfInBounds_toArray, List.set_cons_zero, List.set_cons_succ]
            rfl
          refine pure_ (i := 16) (N := (some 62)) (v := ?_) (a' := ?_) #[true, true, true, true, true, true, true, true, true, true, true, true, true, true, true, true, true, false, false, false, false, false, false, false, false, false, false, false, false, false, false, false, false] rfl rfl (any_of HT_.out (by kernel_rfl)) (fun _ _ _ h => h) (Or.inl ⟨by rfl, ?_⟩) ?_ ?_
          rotate_left
          · intro w'
            go_simp
            with_reducible rfl
          rotate_left
          · simp only [Act.put, List.setIfInBounds_toArray, List.set_cons_zero, List.set_cons_succ]
            rfl
          refine take_ (i := 17) (N := (some 63)) (v := ?_) (a' := ?_) #[true, true, true, true, true, true, true, true, true, true, true, true, true, true, true, true, true, true, false, false, false, false, false, false, false, false, false, false, false, false, false, false, false] rfl rfl (take_ofW HT_.out HW_.out (by kernel_rfl)) (fun _ _ _ h => h) (Or.inl ⟨by rfl, ?_⟩) hHeld ?_ ?_
          rotate_left
          · rintro w' ⟨s0, s1, s2, s3, s4, s5, s6, s7, s8, s9, s10, s11, s12, s13, s14, s15, s16, s17, s18, s19, s20, s21, s22, s23, s24, s25, s26, s27, s28, s29, s30, s31, s32, s33, s34, s35, s36, s37, s38, s39, s40, s41, s42, s43, s44, s45, s46, s47, s48, s49, s50, s51, s52, s53⟩
            go_simp
            with_reducible rfl
          rotate_left
          · simp only [Act.put, List.setIfInBounds_toArray, List.set_cons_zero, List.set_cons_succ]
            rfl
          refine one_ (i := 18) (N := (some 64)) #[true, true, true, true, true, true, true, true, true, true, true, true, true, true, true, true, true, true, true, false, false, false, false, false, false, false, false, false, false, false, false, false, false] rfl rfl (one_of HT_.out (by kernel_rfl)) (by decide) (fun K hK => ?_)
          refine goes_ Tryd.func17 (by kernel_rfl) rfl #[.agg #[.int .i64 15, .int .i64 0, .int .i64 0, .string ⟨#[]⟩, .int .i64 0, .int .i64 0, .int .i64 0, .string ⟨#[]⟩, .slice A2 2 2]] (by rfl) rfl rfl (by (try simp only [List.map_toArray, List.map_cons, List.map_nil]); first | done | rfl) ?_
          with_reducible refine (HRD.out _ hv3).mono ?_
          rintro e v4 ⟨rfl, hN⟩
          refine ⟨_, rfl, ?_⟩
          have hv4 : Below w23.heap.size w23 v4 := hv3.trans (hN.mono hv3.size)
          clear hN
          refine hK.out _ _ (sAll.out _ hv4) (fun hHeld => ?_)
          clear hK K
          refine norm_ (a' := ?_) ?_ ?_
          rotate_left
          · show Act.put _ (some 64) _ = _
            simp only [Act.put, List.setIfInBounds_toArray, List.set_cons_zero, List.set_cons_succ]
            rfl
          refine pure_ (i := 19) (N := (some 65)) (v := ?_) (a' := ?_) #[true, true, true, true, true, true, true, true, true, true, true, true, true, true, true, true, true, true, true, true, false, false, false, false, false, false, false, false, false, false, false, false, false] rfl rfl (any_of HT_.out (by kernel_rfl)) (fun _ _ _ h => h) (Or.inl ⟨by rfl, ?_⟩) ?_ ?_
          rotate_left
          · intro w'
            go_simp
            with_reducible rfl
          rotate_left
          · simp only [Act.put, List.setIfInBounds_toArray, List.set_cons_zero, List.set_cons_succ]
            rfl
          refine pure_ (i := 20) (N := (some 66)) (v := ?_) (a' := ?_) #[true, true, true, true, true, true, true, true, true, true, true, true, true, true, true, true, true, true, true, true, true, false, false, false, false, false, false, false, false, false, false, false, false] rfl rfl (any_of HT_.out (by kernel_rfl)) (fun _ _ _ h => h) (Or.inl ⟨by rfl, ?_⟩) ?_ ?_
          rotate_left
          · intro w'
            go_simp
            with_reducible rfl
          rotate_left
          · simp only [Act.put, List.setIfInBounds_toArray, List.set_cons_zero, List.set_cons_succ]
            rfl
          refine take_ (i := 21) (N := (some 67)) (v := ?_) (a' := ?_) #[true, true, true, true, true, true, true, true, true, true, true, true, true, true, true, true, true, true, true, true, true, true, false, false, false, false, false, false, false, false, false, false, false] rfl rfl (take_ofW HT_.out HW_.out (by kernel_rfl)) (fun _ _ _ h => h) (Or.inl ⟨by rfl, ?_⟩) hHeld ?_ ?_
          rotate_left
          · rintro w' ⟨s0, s1, s2, s3, s4, s5, s6, s7, s8, s9, s10, s11, s12, s13, s14, s15, s16, s17, s18, s19, s20, s21, s22, s23, s24, s25, s26, s27, s28, s29, s30, s31, s32, s33, s34, s35, s36, s37, s38, s39, s40, s41, s42, s43, s44, s45, s46, s47, s48, s49, s50, s51, s52, s53⟩
            go_simp
            with_reducible rfl
          rotate_left
          · simp only [Act.put, List.setIfInBounds_toArray, List.set_cons_zero, List.set_cons_succ]
            rfl
          refine take_ (i := 23) (N := (some 69)) (v := ?_) (a' := ?_) #[true, true, true, true, true, true, true, true, true, true, true, true, true, true, true, true, true, true, true, true, true, true, false, true, false, false, false, false, false, false, false, false, false] rfl rfl (take_ofW HT_.out HW_.out (by kernel_rfl)) (fun _ _ _ h => h) (Or.inl ⟨by rfl, ?_⟩) hHeld ?_ ?_
          rotate_left
          · rintro w' ⟨s0, s1, s2, s3, s4, s5, s6, s7, s8, s9, s10, s11, s12, s13, s14, s15, s16, s17, s18, s19, s20, s21, s22, s23, s24, s25, s26, s27, s28, s29, s30, s31, s32, s33, s34, s35, s36, s37, s38, s39, s40, s41, s42, s43, s44, s45, s46, s47, s48, s49, s50, s51, s52, s53⟩
            go_simp
            with_reducible rfl
          rotate_left
          · simp only [Act.put, List.setIfInBounds_toArray, List.set_cons_zero, List.set_cons_succ]
            rfl
          refine one_ (i := 22) (N := (some 68)) #[true, true, true, true, true, true, true, true, true, true, true, true, true, true, true, true, true, true, true, true, true, true, true, true, false, false, false, false, false, false, false, false, false] rfl rfl (one_of HT_.out (by kernel_rfl)) (by decide) (fun K hK => ?_)
          refine goes_ Tryd.func21 (by kernel_rfl) rfl #[.agg #[.int .i64 15, .int .i64 0, .int .i64 0, .string ⟨#[]⟩, .int .i64 0, .int .i64 0, .int .i64 0, .string ⟨#[]⟩, .slice A2 2 2]] (by rfl) rfl rfl (by (try simp only [List.map_toArray, List.map_cons, List.map_nil]); first | done | rfl) ?_
          with_reducible refine (HSD.out _ hv4).mono ?_
          rintro e v5 ⟨rfl, hN⟩
          refine ⟨_, rfl, ?_⟩
          have hv5 : Below w23.heap.size w23 v5 := hv4.trans (hN.mono hv4.size)
          clear hN
          refine hK.out _ _ (sAll.out _ hv5) (fun hHeld => ?_)
          clear hK K
          refine norm_ (a' := ?_) ?_ ?_
          rotate_left
          · show Act.put _ (some 68) _ = _
            simp only [Act.put, List.setIfInBounds_toArray, List.set_cons_zero, List.set_cons_succ]
            rfl
          refine one_ (i := 24) (N := (some 70)) #[true, true, true, true, true, true, true, true, true, true, true, true, true, true, true, true, true, true, true, true, true, true, true, true, true, false, false, false, false, false, false, false, false] rfl rfl (one_of HT_.out (by kernel_rfl)) (by decide) (fun K hK => ?_)
          refine goes_ Tryd.func21 (by kernel_rfl) rfl #[.agg #[.int .i64 a.f0, .int .i64 a.f1.f0, .int .i64 a.f1.f1, .string a.f1.f2, .int .i64 a.f2, .int .i64 a.f3, .int .i64 a.f4, .string a.f5, .slice Aa a.f6.length ca]] (by rfl) rfl rfl (by (try simp only [List.map_toArray, List.map_cons, List.map_nil]); first | done | rfl) ?_
          with_reducible refine (HSA.out _ hv5).mono ?_
          rintro e v6 ⟨rfl, hN⟩
          refine ⟨_, rfl, ?_⟩
          have hv6 : Below w23.heap.size w23 v6 := hv5.trans (hN.mono hv5.size)
          clear hN
          refine hK.out _ _ (sAll.out _ hv6) (fun hHeld => ?_)
          clear hK K
          refine norm_ (a' := ?_) ?_ ?_
          rotate_left
          · show Act.put _ (some 70) _ = _
            simp only [Act.put, List.setIfInBounds_toArray, List.set_cons_zero, List.set_cons_succ]
            rfl
          refine pure_ (i := 25) (N := (some 71)) (v := ?_) (a' := ?_) #[true, true, true, true, true, true, true, true, true, true, true, true, true, true, true, true, true, true, true, true, true, true, true, true, true, true, false, false, false, false, false, false, false] rfl rfl (any_of HT_.out (by kernel_rfl)) (fun _ _ _ h => h) (Or.inl ⟨by rfl, ?_⟩) ?_ ?_
          rotate_left
          · intro w'
            go_simp
            with_reducible rfl
          rotate_left
          · simp only [Act.put, List.setIfInBounds_toArray, List.set_cons_zero, List.set_cons_succ]
            rfl
          refine pure_ (i := 26) (N := (some 72)) (v := undef) (a' := ?_) #[true, true, true, true, true, true, true, true, true, true, true, true, true, true, true, true, true, true, true, true, true, true, true, true, true, true, true, false, false, false, false, false, false] rfl rfl (any_of HT_.out (by kernel_rfl)) (fun _ _ _ h => h) (Or.inr ⟨by rfl, rfl⟩) ?_ ?_
          rotate_left
          · simp only [Act.put, List.setIfInBounds_toArray, List.set_cons_zero, List.set_cons_succ]
            rfl
          refine pure_ (i := 27) (N := (some 73)) (v := undef) (a' := ?_) #[true, true, true, true, true, true, true, true, true, true, true, true, true, true, true, true, true, true, true, true, true, true, true, true, true, true, true, true, false, false, false, false, false] rfl rfl (any_of HT_.out (by kernel_rfl)) (fun _ _ _ h => h) (Or.inr ⟨by rfl, rfl⟩) ?_ ?_
          rotate_left
          · simp only [Act.put, List.setIfInBounds_toArray, List.set_cons_zero, List.set_cons_succ]
            rfl
          refine pure_ (i := 28) (N := (some 74)) (v := ?_) (a' := ?_) #[true, true, true, true, true, true, true, true, true, true, true, true, true, true, true, true, true, true, true, true, true, true, true, true, true, true, true, true, true, false, false, false, false] rfl rfl (any_of HT_.out (by kernel_rfl)) (fun _ _ _ h => h) (Or.inl ⟨by rfl, ?_⟩) ?_ ?_
          rotate_left
          · intro w'
            go_simp
            with_reducible rfl
          rotate_left
          · simp only [Act.put, List.setIfInBounds_toArray, List.set_cons_zero, List.set_cons_succ]
            rfl
          refine pure_ (i := 29) (N := (some 75)) (v := ?_) (a' := ?_) #[true, true, true, true, true, true, true, true, true, true, true, true, true, true, true, true, true, true, true, true, true, true, true, true, true, true, true, true, true, true, false, false, false] rfl rfl (any_of HT_.out (by kernel_rfl)) (fun _ _ _ h => h) (Or.inl ⟨by rfl, ?_⟩) ?_ ?_
          rotate_left
          · intro w'
            go_simp
            with_reducible rfl
          rotate_left
          · simp only [Act.put, List.setIfInBounds_toArray, List.set_cons_zero, List.set_cons_succ]
            rfl
          refine pure_ (i := 30) (N := (some 76)) (v := ?_) (a' := ?_) #[true, true, true, true, true, true, true, true, true, true, true, true, true, true, true, true, true, true, true, true, true, true, true, true, true, true, true, true, true, true, true, false, false] rfl rfl (any_of HT_.out (by kernel_rfl)) (fun _ _ _ h => h) (Or.inl ⟨by rfl, ?_⟩) ?_ ?_
          rotate_left
          · intro w'
            go_simp
            with_reducible rfl
          rotate_left
          · simp only [Act.put, List.setIfInBounds_toArray, List.set_cons_zero, List.set_cons_succ]
            rfl
          refine pure_ (i := 31) (N := (some 77)) (v := ?_) (a' := ?_) #[true, true, true, true, true, true, true, true, true, true, true, true, true, true, true, true, true, true, true, true, true, true, true, true, true, true, true, true, true, true, true, true, false] rfl rfl (any_of HT_.out (by kernel_rfl)) (fun _ _ _ h => h) (Or.inl ⟨by rfl, ?_⟩) ?_ ?_
          rotate_left
          · intro w'
            go_simp
            with_reducible rfl
          rotate_left
          · simp only [Act.put, List.setIfInBounds_toArray, List.set_cons_zero, List.set_cons_succ]
            rfl
          refine pure_ (i := 32) (N := (some 4)) (v := ?_) (a' := ?_) #[true, true, true, true, true, true, true, true, true, true, true, true, true, true, true, true, true, true, true, true, true, true, true, true, true, true, true, true, true, true, true, true, true] rfl rfl (any_of HT_.out (by kernel_rfl)) (fun _ _ _ h => h) (Or.inl ⟨by rfl, ?_⟩) ?_ ?_
          rotate_left
          · intro w'
            go_simp
            with_reducible rfl
          rotate_left
          · simp only [Act.put, List.setIfInBounds_toArray, List.set_cons_zero, List.set_cons_succ]
            rfl
          refine done_ (done_of HT_.out (by kernel_rfl)) ?_
          try go_wp2_with fail
          go_ret; exact ⟨rfl, HB23.out.trans (hv6.mono HB23.out.size)⟩
        | true =>
          rw [hsa, Bool.true_and] at h2
          rw [hsa] at HSA
          cases hsb : safeB b with
          | false =>
            rw [hsb] at h2 HSB
            rw [h2] at HSD; clear h2 hsa hsb
            refine start_ (n := 33) (S := fun w' => w'.cell? ⟨fb, 0, none⟩ = some (.int .i64 15) ∧ w'.cell? ⟨fb, 1, none⟩ = some (.int .i64 0) ∧ w'.cell? ⟨fb, 2, none⟩ = some (.int .i64 0) ∧ w'.cell? ⟨fb, 3, none⟩ = some (.string ⟨#[]⟩) ∧ w'.cell? ⟨fb, 4, none⟩ = some (.int .i64 0) ∧ w'.cell? ⟨fb, 5, none⟩ = some (.int .i64 0) ∧ w'.cell? ⟨fb, 6, none⟩ = some (.int .i64 0) ∧ w'.cell? ⟨fb, 7, none⟩ = some (.string ⟨#[]⟩) ∧ w'.cell? ⟨fb, 8, none⟩ = some (.slice (some ⟨s2, 0, none⟩) 1 1) ∧ w'.cell? ⟨mb, 0, none⟩ = some (.int .i64 17) ∧ w'.cell? ⟨mb, 1, none⟩ = some (.int .i64 0) ∧ w'.cell? ⟨mb, 2, none⟩ = some (.int .i64 0) ∧ w'.cell? ⟨mb, 3, none⟩ = some (.string ⟨#[]⟩) ∧ w'.cell? ⟨mb, 4, none⟩ = some (.int .i64 0) ∧ w'.cell? ⟨mb, 5, none⟩ = some (.int .i64 0) ∧ w'.cell? ⟨mb, 6, none⟩ = some (.int .i64 0) ∧ w'.cell? ⟨mb, 7, none⟩ = some (.string ⟨#[]⟩) ∧ w'.cell? ⟨mb, 8, none⟩ = some (.slice (some ⟨s3, 0, none⟩) 2 2) ∧ w'.cell? ⟨ob, 0, none⟩ = some (.int .i64 15) ∧ w'.cell? ⟨ob, 1, none⟩ = some (.int .i64 0) ∧ w'.cell? ⟨ob, 2, none⟩ = some (.int .i64 0) ∧ w'.cell? ⟨ob, 3, none⟩ = some (.string ⟨#[]⟩) ∧ w'.cell? ⟨ob, 4, none⟩ = some (.int .i64 0) ∧ w'.cell? ⟨ob, 5, none⟩ = some (.int .i64 0) ∧ w'.cell? ⟨ob, 6, none⟩ = some (.int .i64 1) ∧ w'.cell? ⟨ob, 7, none⟩ = some (.string ⟨#[]⟩) ∧ w'.cell? ⟨ob, 8, none⟩ = some (.slice A2 2 2) ∧ w'.cell? ⟨bb, 0, none⟩ = some (.int .i64 15) ∧ w'.cell? ⟨bb, 1, none⟩ = some (.int .i64 0) ∧ w'.cell? ⟨bb, 2, none⟩ = some (.int .i64 0) ∧ w'.cell? ⟨bb, 3, none⟩ = some (.string ⟨#[]⟩) ∧ w'.cell? ⟨bb, 4, none⟩ = some (.int .i64 0) ∧ w'.cell? ⟨bb, 5, none⟩ = some (.int .i64 0) ∧ w'.cell? ⟨bb, 6, none⟩ = some (.int .i64 0) ∧ w'.cell? ⟨bb, 7, none⟩ = some (.string ⟨#[]⟩) ∧ w'.cell? ⟨bb, 8, none⟩ = some (.slice A2 2 2) ∧ w'.cell? ⟨ga, 0, none⟩ = some (.int .i64 a.f0) ∧ w'.cell? ⟨ga, 1, none⟩ = some (.int .i64 a.f1.f0) ∧ w'.cell? ⟨ga, 2, none⟩ = some (.int .i64 a.f1.f1) ∧ w'.cell? ⟨ga, 3, none⟩ = some (.string a.f1.f2) ∧ w'.cell? ⟨ga, 4, none⟩ = some (.int .i64 a.f2) ∧ w'.cell? ⟨ga, 5, none⟩ = some (.int .i64 a.f3) ∧ w'.cell? ⟨ga, 6, none⟩ = some (.int .i64 a.f4) ∧ w'.cell? ⟨ga, 7, none⟩ = some (.string a.f5) ∧ w'.cell? ⟨ga, 8, none⟩ = some (.slice Aa a.f6.length ca) ∧ w'.cell? ⟨gb, 0, none⟩ = some (.int .i64 b.f0) ∧ w'.cell? ⟨gb, 1, none⟩ = some (.int .i64 b.f1.f0) ∧ w'.cell? ⟨gb, 2, none⟩ = some (.int .i64 b.f1.f1) ∧ w'.cell? ⟨gb, 3, none⟩ = some (.string b.f1.f2) ∧ w'.cell? ⟨gb, 4, none⟩ = some (.int .i64 b.f2) ∧ w'.cell? ⟨gb, 5, none⟩ = some (.int .i64 b.f3) ∧ w'.cell? ⟨gb, 6, none⟩ = some (.int .i64 b.f4) ∧ w'.cell? ⟨gb, 7, none⟩ = some (.string b.f5) ∧ w'.cell? ⟨gb, 8, none⟩ = some (.slice Ab b.f6.length cb)) (ds := []) #[false, false, false, false, false, false, false, false, false, false, false, false, false, false, false, false, false, false, false, false, false, false, false, false, false, false, false, false, false, false, false, false, false] (by kernel_rfl) rfl rfl (sAll.out _ hD1) (fun hHeld => ?_); refine with_tabW builtR.tab builtR.bits (fun HT_ HW_ => ?_)
            generalize w23.drew = vs at hD1 hHeld ⊢
            refine pure_ (i := 0) (N := (some 46)) (v := ?_) (a' := ?_) #[true, false, false, false, false, false, false, false, false, false, false, false, false, false, false, false, false, false, false, false, false, false, false, false, false, false, false, false, false, false, false, false, false] rfl rfl (any_of HT_.out (by kernel_rfl)) (fun _ _ _ h => h) (Or.inl ⟨by rfl, ?_⟩) ?_ ?_
            rotate_left
            · intro w'
              go_simp
              with_reducible rfl
            rotate_left
            · simp only [Act.put, List.setIfInBounds_toArray, List.set_cons_zero, List.set_cons_succ]
              rfl
            refine pure_ (i := 1) (N := (some 47)) (v := ?_) (a' := ?_) #[true, true, false, false, false, false, false, false, false, false, false, false, false, false, false, false, false, false, false, false, false, false, false, false, false, false, false, false, false, false, false, false, false] rfl rfl (any_of HT_.out (by kernel_rfl)) (fun _ _ _ h => h) (Or.inl ⟨by rfl, ?_⟩) ?_ ?_
            rotate_left
            · intro w'
              go_simp
              with_reducible rfl
            rotate_left
            · simp only [Act.put, List.setIfInBounds_toArray, List.set_cons_zero, List.set_cons_succ]
              rfl
            refine take_ (i := 2) (N := (some 48)) (v := ?_) (a' := ?_) #[true, true, true, false, false, false, false, false, false, false, false, false, false, false, false, false, false, false, false, false, false, false, false, false, false, false, false, false, false, false, false, false, false] rfl rfl (take_ofW HT_.out HW_.out (by kernel_rfl)) (fun _ _ _ h => h) (Or.inl ⟨by rfl, ?_⟩) hHeld ?_ ?_
            rotate_left
            · rintro w' ⟨s0, s1, s2, s3, s4, s5, s6, s7, s8, s9, s10, s11, s12, s13, s14, s15, s16, s17, s18, s19, s20, s21, s22, s23, s24, s25, s26, s27, s28, s29, s30, s31, s32, s33, s34, s35, s36, s37, s38, s39, s40, s41, s42, s43, s44, s45, s46, s47, s48, s49, s50, s51, s52, s53⟩
              go_simp
              with_reducible rfl
            rotate_left
            · simp only [Act.put, List.setIfInBounds_toArray, List.set_cons_zero, List.set_cons_succ]
              rfl
            refine one_ (i := 3) (N := (some 49)) #[true, true, true, true, false, false, false, false, false, false, false, false, false, false, false, false, false, false, false, false, false, false, false, false, false, false, false, false, false, false, false, false, false] rfl rfl (one_of HT_.out (by kernel_rfl)) (by decide) (fun K hK => ?_)
            refine goes_ Tryd.func17 (by kernel_rfl) rfl #[.agg #[.int .i64 15, .int .i64 0, .int .i64 0, .string ⟨#[]⟩, .int .i64 0, .int .i64 0, .int .i64 0, .string ⟨#[]⟩, .slice (some ⟨s2, 0, none⟩) 1 1]] (by rfl) rfl rfl (by (try simp only [List.map_toArray, List.map_cons, List.map_nil]); first | done | rfl) ?_
            with_reducible refine (HRF.out _ hD1).mono ?_
            rintro e v1 ⟨rfl, hN⟩
            refine ⟨_, rfl, ?_⟩
            have hv1 : Below w23.heap.size w23 v1 := hD1.trans (hN.mono hD1.size)
            clear hN
            refine hK.out _ _ (sAll.out _ hv1) (fun hHeld => ?_)
            clear hK K
            refine norm_ (a' := ?_) ?_ ?_
            rotate_left
            · show Act.put _ (some 49) _ = _
              simp only [Act.put, List.setIfInBounds_toArray, List.set_cons_zero, List.set_cons_succ]
              rfl
            refine pure_ (i := 4) (N := (some 50)) (v := ?_) (a' := ?_) #[true, true, true, true, true, false, false, false, false, false, false, false, false, false, false, false, false, false, false, false, false, false, false, false, false, false, false, false, false, false, false, false, false] rfl rfl (any_of HT_.out (by kernel_rfl)) (fun _ _ _ h => h) (Or.inl ⟨by rfl, ?_⟩) ?_ ?_
            rotate_left
            · intro w'
              go_simp
              with_reducible rfl
            rotate_left
            · simp only [Act.put, List.setIfInBounds_toArray, List.set_cons_zero, List.set_cons_succ]
              rfl
            refine pure_ (i := 5) (N := (some 51)) (v := ?_) (a' := ?_) #[true, true, true, true, true, true, false, false, false, false, false, false, false, false, false, false, false, false, false, false, false, false, false, false, false, false, false, false, false, false, false, false, false] rfl rfl (any_of HT_.out (by kernel_rfl)) (fun _ _ _ h => h) (Or.inl ⟨by rfl, ?_⟩) ?_ ?_
            rotate_left
            · intro w'
              go_simp
              with_reducible rfl
            rotate_left
            · simp only [Act.put, List.setIfInBounds_toArray, List.set_cons_zero, List.set_cons_succ]
              rfl
            refine pure_ (i := 6) (N := (some 52)) (v := ?_) (a' := ?_) #[true, true, true, true, true, true, true, false, false, false, false, false, false, false, false, false, false, false, false, false, false, false, false, false, false, false, false, false, false, false, false, false, false] rfl rfl (any_of HT_.out (by kernel_rfl)) (fun _ _ _ h => h) (Or.inl ⟨by rfl, ?_⟩) ?_ ?_
            rotate_left
            · intro w'
              go_simp
              with_reducible rfl
            rotate_left
            · simp only [Act.put, List.setIfInBounds_toArray, List.set_cons_zero, List.set_cons_succ]
              rfl
            refine take_ (i := 7) (N := (some 53)) (v := ?_) (a' := ?_) #[true, true, true, true, true, true, true, true, false, false, false, false, false, false, false, false, false, false, false, false, false, false, false, false, false, false, false, false, false, false, false, false, false] rfl rfl (take_ofW HT_.out HW_.out (by kernel_rfl)) (fun _ _ _ h => h) (Or.inl ⟨by rfl, ?_⟩) hHeld ?_ ?_
            rotate_left
            · rintro w' ⟨s0, s1, s2, s3, s4, s5, s6, s7, s8, s9, s10, s11, s12, s13, s14, s15, s16, s17, s18, s19, s20, s21, s22, s23, s24, s25, s26, s27, s28, s29, s30, s31, s32, s33, s34, s35, s36, s37, s38, s39, s40, s41, s42, s43, s44, s45, s46, s47, s48, s49, s50, s51, s52, s53⟩
              go_simp
              with_reducible rfl
            rotate_left
            · simp only [Act.put, List.setIfInBounds_toArray, List.set_cons_zero, List.set_cons_succ]
              rfl
            refine one_ (i := 8) (N := (some 54)) #[true, true, true, true, true, true, true, true, true, false, false, false, false, false, false, false, false, false, false, false, false, false, false, false, false, false, false, false, false, false, false, false, false] rfl rfl (one_of HT_.out (by kernel_rfl)) (by decide) (fun K hK => ?_)
            refine goes_ Tryd.func17 (by kernel_rfl) rfl #[.agg #[.int .i64 17, .int .i64 0, .int .i64 0, .string ⟨#[]⟩, .int .i64 0, .int .i64 0, .int .i64 0, .string ⟨#[]⟩, .slice (some ⟨s3, 0, none⟩) 2 2]] (by rfl) rfl rfl (by (try simp only [List.map_toArray, List.map_cons, List.map_nil]); first | done | rfl) ?_
            with_reducible refine (HRM.out _ hv1).mono ?_
            rintro e v2 ⟨rfl, hN⟩
            refine ⟨_, rfl, ?_⟩
            have hv2 : Below w23.heap.size w23 v2 := hv1.trans (hN.mono hv1.size)
            clear hN
            refine hK.out _ _ (sAll.out _ hv2) (fun hHeld => ?_)
            clear hK K
            refine norm_ (a' := ?_) ?_ ?_
            rotate_left
            · show Act.put _ (some 54) _ = _
              simp only [Act.put, List.setIfInBounds_toArray, List.set_cons_zero, List.set_cons_succ]
              rfl
            refine pure_ (i := 9) (N := (some 55)) (v := ?_) (a' := ?_) #[true, true, true, true, true, true, true, true, true, true, false, false, false, false, false, false, false, false, false, false, false, false, false, false, false, false, false, false, false, false, false, false, false] rfl rfl (any_of HT_.out (by kernel_rfl)) (fun _ _ _ h => h) (Or.inl ⟨by rfl, ?_⟩) ?_ ?_
            rotate_left
            · intro w'
              go_simp
              with_reducible rfl
            rotate_left
            · simp only [Act.put, List.setIfInBounds_toArray, List.set_cons_zero, List.set_cons_succ]
              rfl
            refine pure_ (i := 10) (N := (some 56)) (v := ?_) (a' := ?_) #[true, true, true, true, true, true, true, true, true, true, true, false, false, false, false, false, false, false, false, false, false, false, false, false, false, false, false, false, false, false, false, false, false] rfl rfl (any_of HT_.out (by kernel_rfl)) (fun _ _ _ h => h) (Or.inl ⟨by rfl, ?_⟩) ?_ ?_
            rotate_left
            · intro w'
              go_simp
              with_reducible rfl
            rotate_left
            · simp only [Act.put, List.setIfInBounds_toArray, List.set_cons_zero, List.set_cons_succ]
              rfl
            refine pure_ (i := 11) (N := (some 57)) (v := ?_) (a' := ?_) #[true, true, true, true, true, true, true, true, true, true, true, true, false, false, false, false, false, false, false, false, false, false, false, false, false, false, false, false, false, false, false, false, false] rfl rfl (any_of HT_.out (by kernel_rfl)) (fun _ _ _ h => h) (Or.inl ⟨by rfl, ?_⟩) ?_ ?_
            rotate_left
            · intro w'
              go_simp
              with_reducible rfl
            rotate_left
            · simp only [Act.put, List.setIfInBounds_toArray, List.set_cons_zero, List.set_cons_succ]
              rfl
            refine take_ (i := 12) (N := (some 58)) (v := ?_) (a' := ?_) #[true, true, true, true, true, true, true, true, true, true, true, true, true, false, false, false, false, false, false, false, false, false, false, false, false, false, false, false, false, false, false, false, false] rfl rfl (take_ofW HT_.out HW_.out (by kernel_rfl)) (fun _ _ _ h => h) (Or.inl ⟨by rfl, ?_⟩) hHeld ?_ ?_
            rotate_left
            · rintro w' ⟨s0, s1, s2, s3, s4, s5, s6, s7, s8, s9, s10, s11, s12, s13, s14, s15, s16, s17, s18, s19, s20, s21, s22, s23, s24, s25, s26, s27, s28, s29, s30, s31, s32, s33, s34, s35, s36, s37, s38, s39, s40, s41, s42, s43, s44, s45, s46, s47, s48, s49, s50, s51, s52, s53⟩
              go_simp
              with_reducible rfl
            rotate_left
            · simp only [Act.put, List.setIfInBounds_toArray, List.set_cons_zero, List.set_cons_succ]
              rfl
            refine one_ (i := 13) (N := (some 59)) #[true, true, true, true, true, true, true, true, true, true, true, true, true, true, false, false, false, false, false, false, false, false, false, false, false, false, false, false, false, false, false, false, false] rfl rfl (one_of HT_.out (by kernel_rfl)) (by decide) (fun K hK => ?_)
            refine goes_ Tryd.func17 (by kernel_rfl) rfl #[.agg #[.int .i64 15, .int .i64 0, .int .i64 0, .string ⟨#[]⟩, .int .i64 0, .int .i64 0, .int .i64 1, .string ⟨#[]⟩, .slice A2 2 2]] (by rfl) rfl rfl (by (try simp only [List.map_toArray, List.map_cons, List.map_nil]); first | done | rfl) ?_
            with_reducible refine (HRO.out _ hv2).mono ?_
            rintro e v3 ⟨rfl, hN⟩
            refine ⟨_, rfl, ?_⟩
            have hv3 : Below w23.heap.size w23 v3 := hv2.trans (hN.mono hv2.size)
            clear hN
            refine hK.out _ _ (sAll.out _ hv3) (fun hHeld => ?_)
            clear hK K
            refine norm_ (a' := ?_) ?_ ?_
            rotate_left
            · show Act.put _ (some 59) _ = _
              simp only [Act.put, List.setIfInBounds_toArray, List.set_cons_zero, List.set_cons_succ]
              rfl
            refine pure_ (i := 14) (N := (some 60)) (v := ?_) (a' := ?_) #[true, true, true, true, true, true, true, true, true, true, true, true, true, true, true, false, false, false, false, false, false, false, false, false, false, false, false, false, false, false, false, false, false] rfl rfl (any_of HT_.out (by kernel_rfl)) (fun _ _ _ h => h) (Or.inl ⟨by rfl, ?_⟩) ?_ ?_
            rotate_left
            · intro w'
              go_simp
              with_reducible rfl
            rotate_left
            · simp only [Act.put, List.setIfInBounds_toArray, List.set_cons_zero, List.set_cons_succ]
              rfl
            refine pure_ (i := 15) (N := (some 61)) (v := ?_) (a' := ?_) #[true, true, true, true, true, true, true, true, true, true, true, true, true, true, true, true, false, false, false, false, false, false, false, false, false, false, false, false, false, false, false, false, false] rfl rfl (any_of HT_.out (by kernel_rfl)) (fun _ _ _ h => h) (Or.inl ⟨by rfl, ?_⟩) ?_ ?_
            rotate_left
            · intro w'
              go_simp
              with_reducible rfl
            rotate_left
            · simp only [Act.put, List.setIfInBounds_toArray, List.set_cons_zero, List.set_cons_succ]
              rfl
            refine pure_ (i := 16) (N := (some 62)) (v := ?_) (a' := ?_) #[true, true, true, true, true, true, true, true, true, true, true, true, true, true, true, true, true, false, false, false, false, false, false, false, false, false, false, false, false, false, false, false, false] rfl rfl (any_of HT_.out (by kernel_rfl)) (fun _ _ _ h => h) (Or.inl ⟨by rfl, ?_⟩) ?_ ?_
            rotate_left
            · intro w'
              go_simp
              with_reducible rfl
            rotate_left
            · simp only [Act.put, List.setIfInBounds_toArray, List.set_cons_zero, List.set_cons_succ]
              rfl
            refine take_ (i := 17) (N := (some 63)) (v := ?_) (a' := ?_) #[true, true, true, true, true, true, true, true, true, true, true, true, true, true, true, true, true, true, false, false, false, false, false, false, false, false, false, false, false, false, false, false, false] rfl rfl (take_ofW HT_.out HW_.out (by kernel_rfl)) (fun _ _ _ h => h) (Or.inl ⟨by rfl, ?_⟩) hHeld ?_ ?_
            rotate_left
            · rintro w' ⟨s0, s1, s2, s3, s4, s5, s6, s7, s8, s9, s10, s11, s12, s13, s14, s15, s16, s17, s18, s19, s20, s21, s22, s23, s24, s25, s26, s27, s28, s29, s30, s31, s32, s33, s34, s35, s36, s37, s38, s39, s40, s41, s42, s43, s44, s45, s46, s47, s48, s49, s50, s51, s52, s53⟩
              go_simp
              with_reducible rfl
            rotate_left
            · simp only [Act.put, List.setIfInBounds_toArray, List.set_cons_zero, List.set_cons_succ]
              rfl
            refine one_ (i := 18) (N := (some 64)) #[true, true, true, true, true, true, true, true, true, true, true, true, true, true, true, true, true, true, true, false, false, false, false, false, false, false, false, false, false, false, false, false, false] rfl rfl (one_of HT_.out (by kernel_rfl)) (by decide) (fun K hK => ?_)
            refine goes_ Tryd.func17 (by kernel_rfl) rfl #[.agg #[.int .i64 15, .int .i64 0, .int .i64 0, .string ⟨#[]⟩, .int .i64 0, .int .i64 0, .int .i64 0, .string ⟨#[]⟩, .slice A2 2 2]] (by rfl) rfl rfl (by (try simp only [List.map_toArray, List.map_cons, List.map_nil]); first | done | rfl) ?_
            with_reducible refine (HRD.out _ hv3).mono ?_
            rintro e v4 ⟨rfl, hN⟩
            refine ⟨_, rfl, ?_⟩
            have hv4 : Below w23.heap.size w23 v4 := hv3.trans (hN.mono hv3.size)
            clear hN
            refine hK.out _ _ (sAll.out _ hv4) (fun hHeld => ?_)
            clear hK K
            refine norm_ (a' := ?_) ?_ ?_
            rotate_left
            · show Act.put _ (some 64) _ = _
              simp only [Act.put, List.setIfInBounds_toArray, List.set_cons_zero, List.set_cons_succ]
              rfl
            refine pure_ (i := 19) (N := (some 65)) (v := ?_) (a' := ?_) #[true, true, true, true, true, true, true, true, true, true, true, true, true, true, true, true, true, true, true, true, false, false, false, false, false, false, false, false, false, false, false, false, false] rfl rfl (any_of HT_.out (by kernel_rfl)) (fun _ _ _ h => h) (Or.inl ⟨by rfl, ?_⟩) ?_ ?_
            rotate_left
            · intro w'
              go_simp
              with_reducible rfl
            rotate_left
            · simp only [Act.put, List.setIfInBounds_toArray, List.set_cons_zero, List.set_cons_succ]
              rfl
            refine pure_ (i := 20) (N := (some 66)) (v := ?_) (a' := ?_) #[true, true, true, true, true, true, true, true, true, true, true, true, true, true, true, true, true, true, true, true, true, false, false, false, false, false, false, false, false, false, false, false, false] rfl rfl (any_of HT_.out (by kernel_rfl)) (fun _ _ _ h => h) (Or.inl ⟨by rfl, ?_⟩) ?_ ?_
            rotate_left
            · intro w'
              go_simp
              with_reducible rfl
            rotate_left
            · simp only [Act.put, List.setIfInBounds_toArray, List.set_cons_zero, List.set_cons_succ]
              rfl
            refine take_ (i := 21) (N := (some 67)) (v := ?_) (a' := ?_) #[true, true, true, true, true, true, true, true, true, true, true, true, true, true, true, true, true, true, true, true, true, true, false, false, false, false, false, false, false, false, false, false, false] rfl rfl (take_ofW HT_.out HW_.out (by kernel_rfl)) (fun _ _ _ h => h) (Or.inl ⟨by rfl, ?_⟩) hHeld ?_ ?_
            rotate_left
            · rintro w' ⟨s0, s1, s2, s3, s4, s5, s6, s7, s8, s9, s10, s11, s12, s13, s14, s15, s16, s17, s18, s19, s20, s21, s22, s23, s24, s25, s26, s27, s28, s29, s30, s31, s32, s33, s34, s35, s36, s37, s38, s39, s40, s41, s42, s43, s44, s45, s46, s47, s48, s49, s50, s51, s52, s53⟩
              go_simp
              with_reducible rfl
            rotate_left
            · simp only [Act.put, List.setIfInBounds_toArray, List.set_cons_zero, List.set_cons_succ]
              rfl
            refine take_ (i := 23) (N := (some 69)) (v := ?_) (a' := ?_) #[true, true, true, true, true, true, true, true, true, true, true, true, true, true, true, true, true, true, true, true, true, true, false, true, false, false, false, false, false, false, false, false, false] rfl rfl (take_ofW HT_.out HW_.out (by kernel_rfl)) (fun _ _ _ h => h) (Or.inl ⟨by rfl, ?_⟩) hHeld ?_ ?_
            rotate_left
            · rintro w' ⟨s0, s1, s2, s3, s4, s5, s6, s7, s8, s9, s10, s11, s12, s13, s14, s15, s16, s17, s18, s19, s20, s21, s22, s23, s24, s25, s26, s27, s28, s29, s30, s31, s32, s33, s34, s35, s36, s37, s38, s39, s40, s41, s42, s43, s44, s45, s46, s47, s48, s49, s50, s51, s52, s53⟩
              go_simp
              with_reducible rfl
            rotate_left
            · simp only [Act.put, List.setIfInBounds_toArray, List.set_cons_zero, List.set_cons_succ]
              rfl
            refine one_ (i := 22) (N := (some 68)) #[true, true, true, true, true, true, true, true, true, true, true, true, true, true, true, true, true, true, true, true, true, true, true, true, false, false, false, false, false, false, false, false, false] rfl rfl (one_of HT_.out (by kernel_rfl)) (by decide) (fun K hK => ?_)
            refine goes_ Tryd.func21 (by kernel_rfl) rfl #[.agg #[.int .i64 15, .int .i64 0, .int .i64 0, .string ⟨#[]⟩, .int .i64 0, .int .i64 0, .int .i64 0, .string ⟨#[]⟩, .slice A2 2 2]] (by rfl) rfl rfl (by (try simp only [List.map_toArray, List.map_cons, List.map_nil]); first | done | rfl) ?_
            with_reducible refine (HSD.out _ hv4).mono ?_
            rintro e v5 ⟨rfl, hN⟩
            refine ⟨_, rfl, ?_⟩
            have hv5 : Below w23.heap.size w23 v5 := hv4.trans (hN.mono hv4.size)
            clear hN
            refine hK.out _ _ (sAll.out _ hv5) (fun hHeld => ?_)
            clear hK K
            refine norm_ (a' := ?_) ?_ ?_
            rotate_left
            · show Act.put _ (some 68) _ = _
              simp only [Act.put, List.setIfInBounds_toArray, List.set_cons_zero, List.set_cons_succ]
              rfl
            refine one_ (i := 24) (N := (some 70)) #[true, true, true, true, true, true, true, true, true, true, true, true, true, true, true, true, true, true, true, true, true, true, true, true, true, false, false, false, false, false, false, false, false] rfl rfl (one_of HT_.out (by kernel_rfl)) (by decide) (fun K hK => ?_)
            refine goes_ Tryd.func21 (by kernel_rfl) rfl #[.agg #[.int .i64 a.f0, .int .i64 a.f1.f0, .int .i64 a.f1.f1, .string a.f1.f2, .int .i64 a.f2, .int .i64 a.f3, .int .i64 a.f4, .string a.f5, .slice Aa a.f6.length ca]] (by rfl) rfl rfl (by (try simp only [List.map_toArray, List.map_cons, List.map_nil]); first | done | rfl) ?_
            with_reducible refine (HSA.out _ hv5).mono ?_
            rintro e v6 ⟨rfl, hN⟩
            refine ⟨_, rfl, ?_⟩
            have hv6 : Below w23.heap.size w23 v6 := hv5.trans (hN.mono hv5.size)
            clear hN
            refine hK.out _ _ (sAll.out _ hv6) (fun hHeld => ?_)
            clear hK K
            refine norm_ (a' := ?_) ?_ ?_
            rotate_left
            · show Act.put _ (some 70) _ = _
              simp only [Act.put, List.setIfInBounds_toArray, List.set_cons_zero, List.set_cons_succ]
              rfl
            refine pure_ (i := 25) (N := (some 71)) (v := ?_) (a' := ?_) #[true, true, true, true, true, true, true, true, true, true, true, true, true, true, true, true, true, true, true, true, true, true, true, true, true, true, false, false, false, false, false, false, false] rfl rfl (any_of HT_.out (by kernel_rfl)) (fun _ _ _ h => h) (Or.inl ⟨by rfl, ?_⟩) ?_ ?_
            rotate_left
            · intro w'
              go_simp
              with_reducible rfl
            rotate_left
            · simp only [Act.put, List.setIfInBounds_toArray, List.set_cons_zero, List.set_cons_succ]
              rfl
            refine take_ (i := 26) (N := (some 72)) (v := ?_) (a' := ?_) #[true, true, true, true, true, true, true, true, true, true, true, true, true, true, true, true, true, true, true, true, true, true, true, true, true, true, true, false, false, false, false, false, false] rfl rfl (take_ofW HT_.out HW_.out (by kernel_rfl)) (fun _ _ _ h => h) (Or.inl ⟨by rfl, ?_⟩) hHeld ?_ ?_
            rotate_left
            · rintro w' ⟨s0, s1, s2, s3, s4, s5, s6, s7, s8, s9, s10, s11, s12, s13, s14, s15, s16, s17, s18, s19, s20, s21, s22, s23, s24, s25, s26, s27, s28, s29, s30, s31, s32, s33, s34, s35, s36, s37, s38, s39, s40, s41, s42, s43, s44, s45, s46, s47, s48, s49, s50, s51, s52, s53⟩
              go_simp
              with_reducible rfl
            rotate_left
            · simp only [Act.put, List.setIfInBounds_toArray, List.set_cons_zero, List.set_cons_succ]
              rfl
            refine one_ (i := 27) (N := (some 73)) #[true, true, true, true, true, true, true, true, true, true, true, true, true, true, true, true, true, true, true, true, true, true, true, true, true, true, true, true, false, false, false, false, false] rfl rfl (one_of HT_.out (by kernel_rfl)) (by decide) (fun K hK => ?_)
            refine goes_ Tryd.func21 (by kernel_rfl) rfl #[.agg #[.int .i64 b.f0, .int .i64 b.f1.f0, .int .i64 b.f1.f1, .string b.f1.f2, .int .i64 b.f2, .int .i64 b.f3, .int .i64 b.f4, .string b.f5, .slice Ab b.f6.length cb]] (by rfl) rfl rfl (by (try simp only [List.map_toArray, List.map_cons, List.map_nil]); first | done | rfl) ?_
            with_reducible refine (HSB.out _ hv6).mono ?_
            rintro e v7 ⟨rfl, hN⟩
            refine ⟨_, rfl, ?_⟩
            have hv7 : Below w23.heap.size w23 v7 := hv6.trans (hN.mono hv6.size)
            clear hN
            refine hK.out _ _ (sAll.out _ hv7) (fun hHeld => ?_)
            clear hK K
            refine norm_ (a' := ?_) ?_ ?_
            rotate_left
            · show Act.put _ (some 73) _ = _
              simp only [Act.put, List.setIfInBounds_toArray, List.set_cons_zero, List.set_cons_succ]
              rfl
            refine pure_ (i := 28) (N := (some 74)) (v := ?_) (a' := ?_) #[true, true, true, true, true, true, true, true, true, true, true, true, true, true, true, true, true, true, true, true, true, true, true, true, true, true, true, true, true, false, false, false, false] rfl rfl (any_of HT_.out (by kernel_rfl)) (fun _ _ _ h => h) (Or.inl ⟨by rfl, ?_⟩) ?_ ?_
            rotate_left
            · intro w'
              go_simp
              with_reducible rfl
            rotate_left
            · simp only [Act.put, List.setIfInBounds_toArray, List.set_cons_zero, List.set_cons_succ]
              rfl
            refine pure_ (i := 29) (N := (some 75)) (v := ?_) (a' := ?_) #[true, true, true, true, true, true, true, true, true, true, true, true, true, true, true, true, true, true, true, true, true, true, true, true, true, true, true, true, true, true, false, false, false] rfl rfl (any_of HT_.out (by kernel_rfl)) (fun _ _ _ h => h) (Or.inl ⟨by rfl, ?_⟩) ?_ ?_
            rotate_left
            · intro w'
              go_simp
              with_reducible rfl
            rotate_left
            · simp only [Act.put, List.setIfInBounds_toArray, List.set_cons_zero, List.set_cons_succ]
              rfl
            refine pure_ (i := 30) (N := (some 76)) (v := ?_) (a' := ?_) #[true, true, true, true, true, true, true, true, true, true, true, true, true, true, true, true, true, true, true, true, true, true, true, true, true, true, true, true, true, true, true, false, false] rfl rfl (any_of HT_.out (by kernel_rfl)) (fun _ _ _ h => h) (Or.inl ⟨by rfl, ?_⟩) ?_ ?_
            rotate_left
            · intro w'
              go_simp
              with_reducible rfl
            rotate_left
            · simp only [Act.put, List.setIfInBounds_toArray, List.set_cons_zero, List.set_cons_succ]
              rfl
            refine pure_ (i := 31) (N := (some 77)) (v := ?_) (a' := ?_) #[true, true, true, true, true, true, true, true, true, true, true, true, true, true, true, true, true, true, true, true, true, true, true, true, true, true, true, true, true, true, true, true, false] rfl rfl (any_of HT_.out (by kernel_rfl)) (fun _ _ _ h => h) (Or.inl ⟨by rfl, ?_⟩) ?_ ?_
            rotate_left
            · intro w'
              go_simp
              with_reducible rfl
            rotate_left
            · simp only [Act.put, List.setIfInBounds_toArray, List.set_cons_zero, List.set_cons_succ]
              rfl
            refine pure_ (i := 32) (N := (some 4)) (v := ?_) (a' := ?_) #[true, true, true, true, true, true, true, true, true, true, true, true, true, true, true, true, true, true, true, true, true, true, true, true, true, true, true, true, true, true, true, true, true] rfl rfl (any_of HT_.out (by kernel_rfl)) (fun _ _ _ h => h) (Or.inl ⟨by rfl, ?_⟩) ?_ ?_
            rotate_left
            · intro w'
              go_simp
              with_reducible rfl
            rotate_left
            · simp only [Act.put, List.setIfInBounds_toArray, List.set_cons_zero, List.set_cons_succ]
              rfl
            refine done_ (done_of HT_.out (by kernel_rfl)) ?_
            try go_wp2_with fail
            go_ret; exact ⟨rfl, HB23.out.trans (hv7.mono HB23.out.size)⟩
          | true =>
            rw [hsb] at h2 HSB
            rw [h2] at HSD; clear h2 hsa hsb
            refine start_ (n := 33) (S := fun w' => w'.cell? ⟨fb, 0, none⟩ = some (.int .i64 15) ∧ w'.cell? ⟨fb, 1, none⟩ = some (.int .i64 0) ∧ w'.cell? ⟨fb, 2, none⟩ = some (.int .i64 0) ∧ w'.cell? ⟨fb, 3, none⟩ = some (.string ⟨#[]⟩) ∧ w'.cell? ⟨fb, 4, none⟩ = some (.int .i64 0) ∧ w'.cell? ⟨fb, 5, none⟩ = some (.int .i64 0) ∧ w'.cell? ⟨fb, 6, none⟩ = some (.int .i64 0) ∧ w'.cell? ⟨fb, 7, none⟩ = some (.string ⟨#[]⟩) ∧ w'.cell? ⟨fb, 8, none⟩ = some (.slice (some ⟨s2, 0, none⟩) 1 1) ∧ w'.cell? ⟨mb, 0, none⟩ = some (.int .i64 17) ∧ w'.cell? ⟨mb, 1, none⟩ = some (.int .i64 0) ∧ w'.cell? ⟨mb, 2, none⟩ = some (.int .i64 0) ∧ w'.cell? ⟨mb, 3, none⟩ = some (.string ⟨#[]⟩) ∧ w'.cell? ⟨mb, 4, none⟩ = some (.int .i64 0) ∧ w'.cell? ⟨mb, 5, none⟩ = some (.int .i64 0) ∧ w'.cell? ⟨mb, 6, none⟩ = some (.int .i64 0) ∧ w'.cell? ⟨mb, 7, none⟩ = some (.string ⟨#[]⟩) ∧ w'.cell? ⟨mb, 8, none⟩ = some (.slice (some ⟨s3, 0, none⟩) 2 2) ∧ w'.cell? ⟨ob, 0, none⟩ = some (.int .i64 15) ∧ w'.cell? ⟨ob, 1, none⟩ = some (.int .i64 0) ∧ w'.cell? ⟨ob, 2, none⟩ = some (.int .i64 0) ∧ w'.cell? ⟨ob, 3, none⟩ = some (.string ⟨#[]⟩) ∧ w'.cell? ⟨ob, 4, none⟩ = some (.int .i64 0) ∧ w'.cell? ⟨ob, 5, none⟩ = some (.int .i64 0) ∧ w'.cell? ⟨ob, 6, none⟩ = some (.int .i64 1) ∧ w'.cell? ⟨ob, 7, none⟩ = some (.string ⟨#[]⟩) ∧ w'.cell? ⟨ob, 8, none⟩ = some (.slice A2 2 2) ∧ w'.cell? ⟨bb, 0, none⟩ = some (.int .i64 15) ∧ w'.cell? ⟨bb, 1, none⟩ = some (.int .i64 0) ∧ w'.cell? ⟨bb, 2, none⟩ = some (.int .i64 0) ∧ w'.cell? ⟨bb, 3, none⟩ = some (.string ⟨#[]⟩) ∧ w'.cell? ⟨bb, 4, none⟩ = some (.int .i64 0) ∧ w'.cell? ⟨bb, 5, none⟩ = some (.int .i64 0) ∧ w'.cell? ⟨bb, 6, none⟩ = some (.int .i64 0) ∧ w'.cell? ⟨bb, 7, none⟩ = some (.string ⟨#[]⟩) ∧ w'.cell? ⟨bb, 8, none⟩ = some (.slice A2 2 2) ∧ w'.cell? ⟨ga, 0, none⟩ = some (.int .i64 a.f0) ∧ w'.cell? ⟨ga, 1, none⟩ = some (.int .i64 a.f1.f0) ∧ w'.cell? ⟨ga, 2, none⟩ = some (.int .i64 a.f1.f1) ∧ w'.cell? ⟨ga, 3, none⟩ = some (.string a.f1.f2) ∧ w'.cell? ⟨ga, 4, none⟩ = some (.int .i64 a.f2) ∧ w'.cell? ⟨ga, 5, none⟩ = some (.int .i64 a.f3) ∧ w'.cell? ⟨ga, 6, none⟩ = some (.int .i64 a.f4) ∧ w'.cell? ⟨ga, 7, none⟩ = some (.string a.f5) ∧ w'.cell? ⟨ga, 8, none⟩ = some (.slice Aa a.f6.length ca) ∧ w'.cell? ⟨gb, 0, none⟩ = some (.int .i64 b.f0) ∧ w'.cell? ⟨gb, 1, none⟩ = some (.int .i64 b.f1.f0) ∧ w'.cell? ⟨gb, 2, none⟩ = some (.int .i64 b.f1.f1) ∧ w'.cell? ⟨gb, 3, none⟩ = some (.string b.f1.f2) ∧ w'.cell? ⟨gb, 4, none⟩ = some (.int .i64 b.f2) ∧ w'.cell? ⟨gb, 5, none⟩ = some (.int .i64 b.f3) ∧ w'.cell? ⟨gb, 6, none⟩ = some (.int .i64 b.f4) ∧ w'.cell? ⟨gb, 7, none⟩ = some (.string b.f5) ∧ w'.cell? ⟨gb, 8, none⟩ = some (.slice Ab b.f6.length cb)) (ds := []) #[false, false, false, false, false, false, false, false, false, false, false, false, false, false, false, false, false, false, false, false, false, false, false, false, false, false, false, false, false, false, false, false, false] (by kernel_rfl) rfl rfl (sAll.out _ hD1) (fun hHeld => ?_); refine with_tabW builtR.tab builtR.bits (fun HT_ HW_ => ?_)
            generalize w23.drew = vs at hD1 hHeld ⊢
            refine pure_ (i := 0) (N := (some 46)) (v := ?_) (a' := ?_) #[true, false, false, false, false, false, false, false, false, false, false, false, false, false, false, false, false, false, false, false, false, false, false, false, false, false, false, false, false, false, false, false, false] rfl rfl (any_of HT_.out (by kernel_rfl)) (fun _ _ _ h => h) (Or.inl ⟨by rfl, ?_⟩) ?_ ?_
            rotate_left
            · intro w'
              go_simp
              with_reducible rfl
            rotate_left
            · simp only [Act.put, List.setIfInBounds_toArray, List.set_cons_zero, List.set_cons_succ]
              rfl
            refine pure_ (i := 1) (N := (some 47)) (v := ?_) (a' := ?_) #[true, true, false, false, false, false, false, false, false, false, false, false, false, false, false, false, false, false, false, false, false, false, false, false, false, false, false, false, false, false, false, false, false] rfl rfl (any_of HT_.out (by kernel_rfl)) (fun _ _ _ h => h) (Or.inl ⟨by rfl, ?_⟩) ?_ ?_
            rotate_left
            · intro w'
              go_simp
              with_reducible rfl
            rotate_left
            · simp only [Act.put, List.setIfInBounds_toArray, List.set_cons_zero, List.set_cons_succ]
              rfl
            refine take_ (i := 2) (N := (some 48)) (v := ?_) (a' := ?_) #[true, true, true, false, false, false, false, false, false, false, false, false, false, false, false, false, false, false, false, false, false, false, false, false, false, false, false, false, false, false, false, false, false] rfl rfl (take_ofW HT_.out HW_.out (by kernel_rfl)) (fun _ _ _ h => h) (Or.inl ⟨by rfl, ?_⟩) hHeld ?_ ?_
            rotate_left
            · rintro w' ⟨s0, s1, s2, s3, s4, s5, s6, s7, s8, s9, s10, s11, s12, s13, s14, s15, s16, s17, s18, s19, s20, s21, s22, s23, s24, s25, s26, s27, s28, s29, s30, s31, s32, s33, s34, s35, s36, s37, s38, s39, s40, s41, s42, s43, s44, s45, s46, s47, s48, s49, s50, s51, s52, s53⟩
              go_simp
              with_reducible rfl
            rotate_left
            · simp only [Act.put, List.setIfInBounds_toArray, List.set_cons_zero, List.set_cons_succ]
              rfl
            refine one_ (i := 3) (N := (some 49)) #[true, true, true, true, false, false, false, false, false, false, false, false, false, false, false, false, false, false, false, false, false, false, false, false, false, false, false, false, false, false, false, false, false] rfl rfl (one_of HT_.out (by kernel_rfl)) (by decide) (fun K hK => ?_)
            refine goes_ Tryd.func17 (by kernel_rfl) rfl #[.agg #[.int .i64 15, .int .i64 0, .int .i64 0, .string ⟨#[]⟩, .int .i64 0, .int .i64 0, .int .i64 0, .string ⟨#[]⟩, .slice (some ⟨s2, 0, none⟩) 1 1]] (by rfl) rfl rfl (by (try simp only [List.map_toArray, List.map_cons, List.map_nil]); first | done | rfl) ?_
            with_reducible refine (HRF.out _ hD1).mono ?_
            rintro e v1 ⟨rfl, hN⟩
            refine ⟨_, rfl, ?_⟩
            have hv1 : Below w23.heap.size w23 v1 := hD1.trans (hN.mono hD1.size)
            clear hN
            refine hK.out _ _ (sAll.out _ hv1) (fun hHeld => ?_)
            clear hK K
            refine norm_ (a' := ?_) ?_ ?_
            rotate_left
            · show Act.put _ (some 49) _ = _
              simp only [Act.put, List.setIfInBounds_toArray, List.set_cons_zero, List.set_cons_succ]
              rfl
            refine pure_ (i := 4) (N := (some 50)) (v := ?_) (a' := ?_) #[true, true, true, true, true, false, false, false, false, false, false, false, false, false, false, false, false, false, false, false, false, false, false, false, false, false, false, false, false, false, false, false, false] rfl rfl (any_of HT_.out (by kernel_rfl)) (fun _ _ _ h => h) (Or.inl ⟨by rfl, ?_⟩) ?_ ?_
            rotate_left
            · intro w'
              go_simp
              with_reducible rfl
            rotate_left
            · simp only [Act.put, List.setIfInBounds_toArray, List.set_cons_zero, List.set_cons_succ]
              rfl
            refine pure_ (i := 5) (N := (some 51)) (v := ?_) (a' := ?_) #[true, true, true, true, true, true, false, false, false, false, false, false, false, false, false, false, false, false, false, false, false, false, false, false, false, false, false, false, false, false, false, false, false] rfl rfl (any_of HT_.out (by kernel_rfl)) (fun _ _ _ h => h) (Or.inl ⟨by rfl, ?_⟩) ?_ ?_
            rotate_left
            · intro w'
              go_simp
              with_reducible rfl
            rotate_left
            · simp only [Act.put, List.setIfInBounds_toArray, List.set_cons_zero, List.set_cons_succ]
              rfl
            refine pure_ (i := 6) (N := (some 52)) (v := ?_) (a' := ?_) #[true, true, true, true, true, true, true, false, false, false, false, false, false, false, false, false, false, false, false, false, false, false, false, false, false, false, false, false, false, false, false, false, false] rfl rfl (any_of HT_.out (by kernel_rfl)) (fun _ _ _ h => h) (Or.inl ⟨by rfl, ?_⟩) ?_ ?_
            rotate_left
            · intro w'
              go_simp
              with_reducible rfl
            rotate_left
            · simp only [Act.put, List.setIfInBounds_toArray, List.set_cons_zero, List.set_cons_succ]
              rfl
            refine take_ (i := 7) (N := (some 53)) (v := ?_) (a' := ?_) #[true, true, true, true, true, true, true, true, false, false, false, false, false, false, false, false, false, false, false, false, false, false, false, false, false, false, false, false, false, false, false, false, false] rfl rfl (take_ofW HT_.out HW_.out (by kernel_rfl)) (fun _ _ _ h => h) (Or.inl ⟨by rfl, ?_⟩) hHeld ?_ ?_
            rotate_left
            · rintro w' ⟨s0, s1, s2, s3, s4, s5, s6, s7, s8, s9, s10, s11, s12, s13, s14, s15, s16, s17, s18, s19, s20, s21, s22, s23, s24, s25, s26, s27, s28, s29, s30, s31, s32, s33, s34, s35, s36, s37, s38, s39, s40, s41, s42, s43, s44, s45, s46, s47, s48, s49, s50, s51, s52, s53⟩
              go_simp
              with_reducible rfl
            rotate_left
            · simp only [Act.put, List.setIfInBounds_toArray, List.set_cons_zero, List.set_cons_succ]
              rfl
            refine one_ (i := 8) (N := (some 54)) #[true, true, true, true, true, true, true, true, true, false, false, false, false, false, false, false, false, false, false, false, false, false, false, false, false, false, false, false, false, false, false, false, false] rfl rfl (one_of HT_.out (by kernel_rfl)) (by decide) (fun K hK => ?_)
            refine goes_ Tryd.func17 (by kernel_rfl) rfl #[.agg #[.int .i64 17, .int .i64 0, .int .i64 0, .string ⟨#[]⟩, .int .i64 0, .int .i64 0, .int .i64 0, .string ⟨#[]⟩, .slice (some ⟨s3, 0, none⟩) 2 2]] (by rfl) rfl rfl (by (try simp only [List.map_toArray, List.map_cons, List.map_nil]); first | done | rfl) ?_
            with_reducible refine (HRM.out _ hv1).mono ?_
            rintro e v2 ⟨rfl, hN⟩
            refine ⟨_, rfl, ?_⟩
            have hv2 : Below w23.heap.size w23 v2 := hv1.trans (hN.mono hv1.size)
            clear hN
            refine hK.out _ _ (sAll.out _ hv2) (fun hHeld => ?_)
            clear hK K
            refine norm_ (a' := ?_) ?_ ?_
            rotate_left
            · show Act.put _ (some 54) _ = _
              simp only [Act.put, List.setIfInBounds_toArray, List.set_cons_zero, List.set_cons_succ]
              rfl
            refine pure_ (i := 9) (N := (some 55)) (v := ?_) (a' := ?_) #[true, true, true, true, true, true, true, true, true, true, false, false, false, false, false, false, false, false, false, false, false, false, false, false, false, false, false, false, false, false, false, false, false] rfl rfl (any_of HT_.out (by kernel_rfl)) (fun _ _ _ h => h) (Or.inl ⟨by rfl, ?_⟩) ?_ ?_
            rotate_left
            · intro w'
              go_simp
              with_reducible rfl
            rotate_left
            · simp only [Act.put, List.setIfInBounds_toArray, List.set_cons_zero, List.set_cons_succ]
              rfl
            refine pure_ (i := 10) (N := (some 56)) (v := ?_) (a' := ?_) #[true, true, true, true, true, true, true, true, true, true, true, false, false, false, false, false, false, false, false, false, false, false, false, false, false, false, false, false, false, false, false, false, false] rfl rfl (any_of HT_.out (by kernel_rfl)) (fun _ _ _ h => h) (Or.inl ⟨by rfl, ?_⟩) ?_ ?_
            rotate_left
            · intro w'
              go_simp
              with_reducible rfl
            rotate_left
            · simp only [Act.put, List.setIfInBounds_toArray, List.set_cons_zero, List.set_cons_succ]
              rfl
            refine pure_ (i := 11) (N := (some 57)) (v := ?_) (a' := ?_) #[true, true, true, true, true, true, true, true, true, true, true, true, false, false, false, false, false, false, false, false, false, false, false, false, false, false, false, false, false, false, false, false, false] rfl rfl (any_of HT_.out (by kernel_rfl)) (fun _ _ _ h => h) (Or.inl ⟨by rfl, ?_⟩) ?_ ?_
            rotate_left
            · intro w'
              go_simp
              with_reducible rfl
            rotate_left
            · simp only [Act.put, List.setIfInBounds_toArray, List.set_cons_zero, List.set_cons_succ]
              rfl
            refine take_ (i := 12) (N := (some 58)) (v := ?_) (a' := ?_) #[true, true, true, true, true, true, true, true, true, true, true, true, true, false, false, false, false, false, false, false, false, false, false, false, false, false, false, false, false, false, false, false, false] rfl rfl (take_ofW HT_.out HW_.out (by kernel_rfl)) (fun _ _ _ h => h) (Or.inl ⟨by rfl, ?_⟩) hHeld ?_ ?_
            rotate_left
            · rintro w' ⟨s0, s1, s2, s3, s4, s5, s6, s7, s8, s9, s10, s11, s12, s13, s14, s15, s16, s17, s18, s19, s20, s21, s22, s23, s24, s25, s26, s27, s28, s29, s30, s31, s32, s33, s34, s35, s36, s37, s38, s39, s40, s41, s42, s43, s44, s45, s46, s47, s48, s49, s50, s51, s52, s53⟩
              go_simp
              with_reducible rfl
            rotate_left
            · simp only [Act.put, List.setIfInBounds_toArray, List.set_cons_zero, List.set_cons_succ]
              rfl
            refine one_ (i := 13) (N := (some 59)) #[true, true, true, true, true, true, true, true, true, true, true, true, true, true, false, false, false, false, false, false, false, false, false, false, false, false, false, false, false, false, false, false, false] rfl rfl (one_of HT_.out (by kernel_rfl)) (by decide) (fun K hK => ?_)
            refine goes_ Tryd.func17 (by kernel_rfl) rfl #[.agg #[.int .i64 15, .int .i64 0, .int .i64 0, .string ⟨#[]⟩, .int .i64 0, .int .i64 0, .int .i64 1, .string ⟨#[]⟩, .slice A2 2 2]] (by rfl) rfl rfl (by (try simp only [List.map_toArray, List.map_cons, List.map_nil]); first | done | rfl) ?_
            with_reducible refine (HRO.out _ hv2).mono ?_
            rintro e v3 ⟨rfl, hN⟩
            refine ⟨_, rfl, ?_⟩
            have hv3 : Below w23.heap.size w23 v3 := hv2.trans (hN.mono hv2.size)
            clear hN
            refine hK.out _ _ (sAll.out _ hv3) (fun hHeld => ?_)
            clear hK K
            refine norm_ (a' := ?_) ?_ ?_
            rotate_left
            · show Act.put _ (some 59) _ = _
              simp only [Act.put, List.setIfInBounds_toArray, List.set_cons_zero, List.set_cons_succ]
              rfl
            refine pure_ (i := 14) (N := (some 60)) (v := ?_) (a' := ?_) #[true, true, true, true, true, true, true, true, true, true, true, true, true, true, true, false, false, false, false, false, false, false, false, false, false, false, false, false, false, false, false, false, false] rfl rfl (any_of HT_.out (by kernel_rfl)) (fun _ _ _ h => h) (Or.inl ⟨by rfl, ?_⟩) ?_ ?_
            rotate_left
            · intro w'
              go_simp
              with_reducible rfl
            rotate_left
            · simp only [Act.put, List.setIfInBounds_toArray, List.set_cons_zero, List.set_cons_succ]
              rfl
            refine pure_ (i := 15) (N := (some 61)) (v := ?_) (a' := ?_) #[true, true, true, true, true, true, true, true, true, true, true, true, true, true, true, true, false, false, false, false, false, false, false, false, false, false, false, false, false, false, false, false, false] rfl rfl (any_of HT_.out (by kernel_rfl)) (fun _ _ _ h => h) (Or.inl ⟨by rfl, ?_⟩) ?_ ?_
            rotate_left
            · intro w'
              go_simp
              with_reducible rfl
            rotate_left
            · simp only [Act.put, List.setIfInBounds_toArray, List.set_cons_zero, List.set_cons_succ]
              rfl
            refine pure_ (i := 16) (N := (some 62)) (v := ?_) (a' := ?_) #[true, true, true, true, true, true, true, true, true, true, true, true, true, true, true, true, true, false, false, false, false, false, false, false, false, false, false, false, false, false, false, false, false] rfl rfl (any_of HT_.out (by kernel_rfl)) (fun _ _ _ h => h) (Or.inl ⟨by rfl, ?_⟩) ?_ ?_
            rotate_left
            · intro w'
              go_simp
              with_reducible rfl
            rotate_left
            · simp only [Act.put, List.setIfInBounds_toArray, List.set_cons_zero, List.set_cons_succ]
              rfl
            refine take_ (i := 17) (N := (some 63)) (v := ?_) (a' := ?_) #[true, true, true, true, true, true, true, true, true, true, true, true, true, true, true, true, true, true, false, false, false, false, false, false, false, false, false, false, false, false, false, false, false] rfl rfl (take_ofW HT_.out HW_.out (by kernel_rfl)) (fun _ _ _ h => h) (Or.inl ⟨by rfl, ?_⟩) hHeld ?_ ?_
            rotate_left
            · rintro w' ⟨s0, s1, s2, s3, s4, s5, s6, s7, s8, s9, s10, s11, s12, s13, s14, s15, s16, s17, s18, s19, s20, s21, s22, s23, s24, s25, s26, s27, s28, s29, s30, s31, s32, s33, s34, s35, s36, s37, s38, s39, s40, s41, s42, s43, s44, s45, s46, s47, s48, s49, s50, s51, s52, s53⟩
              go_simp
              with_reducible rfl
            rotate_left
            · simp only [Act.put, List.setIfInBounds_toArray, List.set_cons_zero, List.set_cons_succ]
              rfl
            refine one_ (i := 18) (N := (some 64)) #[true, true, true, true, true, true, true, true, true, true, true, true, true, true, true, true, true, true, true, false, false, false, false, false, false, false, false, false, false, false, false, false, false] rfl rfl (one_of HT_.out (by kernel_rfl)) (by decide) (fun K hK => ?_)
            refine goes_ Tryd.func17 (by kernel_rfl) rfl #[.agg #[.int .i64 15, .int .i64 0, .int .i64 0, .string ⟨#[]⟩, .int .i64 0, .int .i64 0, .int .i64 0, .string ⟨#[]⟩, .slice A2 2 2]] (by rfl) rfl rfl (by (try simp only [List.map_toArray, List.map_cons, List.map_nil]); first | done | rfl) ?_
            with_reducible refine (HRD.out _ hv3).mono ?_
            rintro e v4 ⟨rfl, hN⟩
            refine ⟨_, rfl, ?_⟩
            have hv4 : Below w23.heap.size w23 v4 := hv3.trans (hN.mono hv3.size)
            clear hN
            refine hK.out _ _ (sAll.out _ hv4) (fun hHeld => ?_)
            clear hK K
            refine norm_ (a' := ?_) ?_ ?_
            rotate_left
            · show Act.put _ (some 64) _ = _
              simp only [Act.put, List.setIfInBounds_toArray, List.set_cons_zero, List.set_cons_succ]
              rfl
            refine pure_ (i := 19) (N := (some 65)) (v := ?_) (a' := ?_) #[true, true, true, true, true, true, true, true, true, true, true, true, true, true, true, true, true, true, true, true, false, false, false, false, false, false, false, false, false, false, false, false, false] rfl rfl (any_of HT_.out (by kernel_rfl)) (fun _ _ _ h => h) (Or.inl ⟨by rfl, ?_⟩) ?_ ?_
            rotate_left
            · intro w'
              go_simp
              with_reducible rfl
            rotate_left
            · simp only [Act.put, List.setIfInBounds_toArray, List.set_cons_zero, List.set_cons_succ]
              rfl
            refine pure_ (i := 20) (N := (some 66)) (v := ?_) (a' := ?_) #[true, true, true, true, true, true, true, true, true, true, true, true, true, true, true, true, true, true, true, true, true, false, false, false, false, false, false, false, false, false, false, false, false] rfl rfl (any_of HT_.out (by kernel_rfl)) (fun _ _ _ h => h) (Or.inl ⟨by rfl, ?_⟩) ?_ ?_
            rotate_left
            · intro w'
              go_simp
              with_reducible rfl
            rotate_left
            · simp only [Act.put, List.setIfInBounds_toArray, List.set_cons_zero, List.set_cons_succ]
              rfl
            refine take_ (i := 21) (N := (some 67)) (v := ?_) (a' := ?_) #[true, true, true, true, true, true, true, true, true, true, true, true, true, true, true, true, true, true, true, true, true, true, false, false, false, false, false, false, false, false, false, false, false] rfl rfl (take_ofW HT_.out HW_.out (by kernel_rfl)) (fun _ _ _ h => h) (Or.inl ⟨by rfl, ?_⟩) hHeld ?_ ?_
            rotate_left
            · rintro w' ⟨s0, s1, s2, s3, s4, s5, s6, s7, s8, s9, s10, s11, s12, s13, s14, s15, s16, s17, s18, s19, s20, s21, s22, s23, s24, s25, s26, s27, s28, s29, s30, s31, s32, s33, s34, s35, s36, s37, s38, s39, s40, s41, s42, s43, s44, s45, s46, s47, s48, s49, s50, s51, s52, s53⟩
              go_simp
              with_reducible rfl
            rotate_left
            · simp only [Act.put, List.setIfInBounds_toArray, List.set_cons_zero, List.set_cons_succ]
              rfl
            refine take_ (i := 23) (N := (some 69)) (v := ?_) (a' := ?_) #[true, true, true, true, true, true, true, true, true, true, true, true, true, true, true, true, true, true, true, true, true, true, false, true, false, false, false, false, false, false, false, false, false] rfl rfl (take_ofW HT_.out HW_.out (by kernel_rfl)) (fun _ _ _ h => h) (Or.inl ⟨by rfl, ?_⟩) hHeld ?_ ?_
            rotate_left
            · rintro w' ⟨s0, s1, s2, s3, s4, s5, s6, s7, s8, s9, s10, s11, s12, s13, s14, s15, s16, s17, s18, s19, s20, s21, s22, s23, s24, s25, s26, s27, s28, s29, s30, s31, s32, s33, s34, s35, s36, s37, s38, s39, s40, s41, s42, s43, s44, s45, s46, s47, s48, s49, s50, s51, s52, s53⟩
              go_simp
              with_reducible rfl
            rotate_left
            · simp only [Act.put, List.setIfInBounds_toArray, List.set_cons_zero, List.set_cons_succ]
              rfl
            refine one_ (i := 22) (N := (some 68)) #[true, true, true, true, true, true, true, true, true, true, true, true, true, true, true, true, true, true, true, true, true, true, true, true, false, false, false, false, false, false, false, false, false] rfl rfl (one_of HT_.out (by kernel_rfl)) (by decide) (fun K hK => ?_)
            refine goes_ Tryd.func21 (by kernel_rfl) rfl #[.agg #[.int .i64 15, .int .i64 0, .int .i64 0, .string ⟨#[]⟩, .int .i64 0, .int .i64 0, .int .i64 0, .string ⟨#[]⟩, .slice A2 2 2]] (by rfl) rfl rfl (by (try simp only [List.map_toArray, List.map_cons, List.map_nil]); first | done | rfl) ?_
            with_reducible refine (HSD.out _ hv4).mono ?_
            rintro e v5 ⟨rfl, hN⟩
            refine ⟨_, rfl, ?_⟩
            have hv5 : Below w23.heap.size w23 v5 := hv4.trans (hN.mono hv4.size)
            clear hN
            refine hK.out _ _ (sAll.out _ hv5) (fun hHeld => ?_)
            clear hK K
            refine norm_ (a' := ?_) ?_ ?_
            rotate_left
            · show Act.put _ (some 68) _ = _
              simp only [Act.put, List.setIfInBounds_toArray, List.set_cons_zero, List.set_cons_succ]
              rfl
            refine one_ (i := 24) (N := (some 70)) #[true, true, true, true, true, true, true, true, true, true, true, true, true, true, true, true, true, true, true, true, true, true, true, true, true, false, false, false, false, false, false, false, false] rfl rfl (one_of HT_.out (by kernel_rfl)) (by decide) (fun K hK => ?_)
            refine goes_ Tryd.func21 (by kernel_rfl) rfl #[.agg #[.int .i64 a.f0, .int .i64 a.f1.f0, .int .i64 a.f1.f1, .string a.f1.f2, .int .i64 a.f2, .int .i64 a.f3, .int .i64 a.f4, .string a.f5, .slice Aa a.f6.length ca]] (by rfl) rfl rfl (by (try simp only [List.map_toArray, List.map_cons, List.map_nil]); first | done | rfl) ?_
            with_reducible refine (HSA.out _ hv5).mono ?_
            rintro e v6 ⟨rfl, hN⟩
            refine ⟨_, rfl, ?_⟩
            have hv6 : Below w23.heap.size w23 v6 := hv5.trans (hN.mono hv5.size)
            clear hN
            refine hK.out _ _ (sAll.out _ hv6) (fun hHeld => ?_)
            clear hK K
            refine norm_ (a' := ?_) ?_ ?_
            rotate_left
            · show Act.put _ (some 70) _ = _
              simp only [Act.put, List.setIfInBounds_toArray, List.set_cons_zero, List.set_cons_succ]
              rfl
            refine pure_ (i := 25) (N := (some 71)) (v := ?_) (a' := ?_) #[true, true, true, true, true, true, true, true, true, true, true, true, true, true, true, true, true, true, true, true, true, true, true, true, true, true, false, false, false, false, false, false, false] rfl rfl (any_of HT_.out (by kernel_rfl)) (fun _ _ _ h => h) (Or.inl ⟨by rfl, ?_⟩) ?_ ?_
            rotate_left
            · intro w'
              go_simp
              with_reducible rfl
            rotate_left
            · simp only [Act.put, List.setIfInBounds_toArray, List.set_cons_zero, List.set_cons_succ]
              rfl
            refine take_ (i := 26) (N := (some 72)) (v := ?_) (a' := ?_) #[true, true, true, true, true, true, true, true, true, true, true, true, true, true, true, true, true, true, true, true, true, true, true, true, true, true, true, false, false, false, false, false, false] rfl rfl (take_ofW HT_.out HW_.out (by kernel_rfl)) (fun _ _ _ h => h) (Or.inl ⟨by rfl, ?_⟩) hHeld ?_ ?_
            rotate_left
            · rintro w' ⟨s0, s1, s2, s3, s4, s5, s6, s7, s8, s9, s10, s11, s12, s13, s14, s15, s16, s17, s18, s19, s20, s21, s22, s23, s24, s25, s26, s27, s28, s29, s30, s31, s32, s33, s34, s35, s36, s37, s38, s39, s40, s41, s42, s43, s44, s45, s46, s47, s48, s49, s50, s51, s52, s53⟩
              go_simp
              with_reducible rfl
            rotate_left
            · simp only [Act.put, List.setIfInBounds_toArray, List.set_cons_zero, List.set_cons_succ]
              rfl
            refine one_ (i := 27) (N := (some 73)) #[true, true, true, true, true, true, true, true, true, true, true, true, true, true, true, true, true, true, true, true, true, true, true, true, true, true, true, true, false, false, false, false, false] rfl rfl (one_of HT_.out (by kernel_rfl)) (by decide) (fun K hK => ?_)
            refine goes_ Tryd.func21 (by kernel_rfl) rfl #[.agg #[.int .i64 b.f0, .int .i64 b.f1.f0, .int .i64 b.f1.f1, .string b.f1.f2, .int .i64 b.f2, .int .i64 b.f3, .int .i64 b.f4, .string b.f5, .slice Ab b.f6.length cb]] (by rfl) rfl rfl (by (try simp only [List.map_toArray, List.map_cons, List.map_nil]); first | done | rfl) ?_
            with_reducible refine (HSB.out _ hv6).mono ?_
            rintro e v7 ⟨rfl, hN⟩
            refine ⟨_, rfl, ?_⟩
            have hv7 : Below w23.heap.size w23 v7 := hv6.trans (hN.mono hv6.size)
            clear hN
            refine hK.out _ _ (sAll.out _ hv7) (fun hHeld => ?_)
            clear hK K
            refine norm_ (a' := ?_) ?_ ?_
            rotate_left
            · show Act.put _ (some 73) _ = _
              simp only [Act.put, List.setIfInBounds_toArray, List.set_cons_zero, List.set_cons_succ]
              rfl
            refine pure_ (i := 28) (N := (some 74)) (v := ?_) (a' := ?_) #[true, true, true, true, true, true, true, true, true, true, true, true, true, true, true, true, true, true, true, true, true, true, true, true, true, true, true, true, true, false, false, false, false] rfl rfl (any_of HT_.out (by kernel_rfl)) (fun _ _ _ h => h) (Or.inl ⟨by rfl, ?_⟩) ?_ ?_
            rotate_left
            · intro w'
              go_simp
              with_reducible rfl
            rotate_left
            · simp only [Act.put, List.setIfInBounds_toArray, List.set_cons_zero, List.set_cons_succ]
              rfl
            refine pure_ (i := 29) (N := (some 75)) (v := ?_) (a' := ?_) #[true, true, true, true, true, true, true, true, true, true, true, true, true, true, true, true, true, true, true, true, true, true, true, true, true, true, true, true, true, true, false, false, false] rfl rfl (any_of HT_.out (by kernel_rfl)) (fun _ _ _ h => h) (Or.inl ⟨by rfl, ?_⟩) ?_ ?_
            rotate_left
            · intro w'
              go_simp
              with_reducible rfl
            rotate_left
            · simp only [Act.put, List.setIfInBounds_toArray, List.set_cons_zero, List.set_cons_succ]
              rfl
            refine pure_ (i := 30) (N := (some 76)) (v := ?_) (a' := ?_) #[true, true, true, true, true, true, true, true, true, true, true, true, true, true, true, true, true, true, true, true, true, true, true, true, true, true, true, true, true, true, true, false, false] rfl rfl (any_of HT_.out (by kernel_rfl)) (fun _ _ _ h => h) (Or.inl ⟨by rfl, ?_⟩) ?_ ?_
            rotate_left
            · intro w'
              go_simp
              with_reducible rfl
            rotate_left
            · simp only [Act.put, List.setIfInBounds_toArray, List.set_cons_zero, List.set_cons_succ]
              rfl
            refine pure_ (i := 31) (N := (some 77)) (v := ?_) (a' := ?_) #[true, true, true, true, true, true, true, true, true, true, true, true, true, true, true, true, true, true, true, true, true, true, true, true, true, true, true, true, true, true, true, true, false] rfl rfl (any_of HT_.out (by kernel_rfl)) (fun _ _ _ h => h) (Or.inl ⟨by rfl, ?_⟩) ?_ ?_
            rotate_left
            · intro w'
              go_simp
              with_reducible rfl
            rotate_left
            · simp only [Act.put, List.setIfInBounds_toArray, List.set_cons_zero, List.set_cons_succ]
              rfl
            refine pure_ (i := 32) (N := (some 4)) (v := ?_) (a' := ?_) #[true, true, true, true, true, true, true, true, true, true, true, true, true, true, true, true, true, true, true, true, true, true, true, true, true, true, true, true, true, true, true, true, true] rfl rfl (any_of HT_.out (by kernel_rfl)) (fun _ _ _ h => h) (Or.inl ⟨by rfl, ?_⟩) ?_ ?_
            rotate_left
            · intro w'
              go_simp
              with_reducible rfl
            rotate_left
            · simp only [Act.put, List.setIfInBounds_toArray, List.set_cons_zero, List.set_cons_succ]
              rfl
            refine done_ (done_of HT_.out (by kernel_rfl)) ?_
            try go_wp2_with fail
            go_ret; exact ⟨rfl, HB23.out.trans (hv7.mono HB23.out.size)⟩
end Go.Proofs.YtkboodfnegedaaaDoor.E
