/- Contracts and plain lemmas of the functions that the law reaches, part 21. -/
import Derived.Deep.RegionHeld3
import Derived.Deep.DeepCutAuto
import Derived.Laws.BitsLemmas
import Derived.Lib.ItoaLen
import Derived.Test.YtkboodfnegedaaaDoorZL3
import Derived.Test.YtkboodfnegedaaaDoorZL4
import Derived.Test.YtkboodfnegedaaaDoorZL6
import Derived.Test.YtkboodfnegedaaaDoorZL9
import Derived.Test.YtkboodfnegedaaaDoorZL11
import Derived.Test.YtkboodfnegedaaaDoorZL13
import Derived.Test.YtkboodfnegedaaaDoorZL14
import Derived.Test.YtkboodfnegedaaaDoorZL19
import Derived.Test.YtkboodfnegedaaaDoorZL20
namespace Go.Proofs.YtkboodfnegedaaaDoor.E
open Go.RowKit Go.Proofs.YtkboodfnegedaaaDoorW.PrintWords Go.Proofs.YtkboodfnegedaaaDoorW.PrintLast Go.Proofs.YtkboodfnegedaaaDoorW.PrintMore
def nullE : Ex := ⟨1, zeroV, 0, 0, 0, ⟨#[]⟩, []⟩
def exText : Ex := twoE 4 (refE 0 1) (numE 2)
def exDiv : Ex := twoE 7 (numE 1) (numE 0)
theorem ex_text : textRes exText = (⟨#[40, 52, 32, 82, 48, 46, 49, 32, 73, 50, 41]⟩, 0) := by kernel_rfl
theorem ex_eval1 : (evalRes (twoE 9 exDiv nullE) [] []).2 = 4 := by kernel_rfl
theorem ex_eval2 : (evalRes (twoE 15 nullE (twoE 9 exDiv (numE 1))) [] []).2 = 4 := by kernel_rfl
theorem ex_kind : kindRes (twoE 11 (refE 0 1) (numE 2)) [[0, 1]] [] = (2, 0) := by kernel_rfl
theorem ex_div : rightB exDiv = true := by kernel_rfl
theorem ex_tab : tabN (refE 2 0) = 4 := by kernel_rfl
theorem num_back {w w' : World} (h : Below w.drew.heap.size w.drew w') : Below w.heap.size w w' := ⟨h.os, h.tape, h.output, h.size, h.block⟩
theorem num_back2 {w w' : World} {o : Obj} (h : Below (w.alloc o).drew.heap.size (w.alloc o).drew w') : Below w.heap.size w w' := (blA (Below.refl _ w) o).trans ((num_back h).mono (blA (Below.refl _ w) o).size)
theorem ints01_C (w : World) : Kd.C (Kd.int .i64) (w.alloc (.cells #[.int .i64 0, .int .i64 1] 3)) (some ⟨w.heap.size, 0, none⟩) 2 [0, 1] := by
  refine ⟨rfl, by omega, fun _ => ⟨_, rfl, ?_⟩⟩
  have h : (w.alloc (.cells #[.int .i64 0, .int .i64 1] 3)).heap[w.heap.size]? = some (.cells #[.int .i64 0, .int .i64 1] 3 (0, 0)) := heap_alloc_new w _
  intro j p hp
  match j, hp with
  | 0, hp =>
    obtain rfl := Option.some.inj hp
    refine ⟨_, rfl, rfl, ?_⟩
    intro i u hu
    obtain rfl : i = 0 := by have := (List.getElem?_eq_some_iff.1 hu).1; simpa using this
    have hu' := Option.some.inj hu; subst hu'; rw [add_plain]; exact (bkC h 0).trans rfl
  | 1, hp =>
    obtain rfl := Option.some.inj hp
    refine ⟨_, rfl, rfl, ?_⟩
    intro i u hu
    obtain rfl : i = 0 := by have := (List.getElem?_eq_some_iff.1 hu).1; simpa using this
    have hu' := Option.some.inj hu; subst hu'; rw [add_plain]; exact (bkC h 1).trans rfl
theorem rows01_C (w : World) : Kd.C (Kd.slice 3 (Kd.int .i64)) ((w.alloc (.cells #[.int .i64 0, .int .i64 1] 3)).alloc (.cells #[.slice (some ⟨w.heap.size, 0, none⟩) 2 2] 28)) (some ⟨w.heap.size + 1, 0, none⟩) 1 [[0, 1]] := by
  refine ⟨rfl, by omega, fun _ => ⟨_, rfl, ?_⟩⟩
  have h : ((w.alloc (.cells #[.int .i64 0, .int .i64 1] 3)).alloc (.cells #[.slice (some ⟨w.heap.size, 0, none⟩) 2 2] 28)).heap[w.heap.size + 1]? = some (.cells #[.slice (some ⟨w.heap.size, 0, none⟩) 2 2] 28 (0, 0)) := by
    have h := heap_alloc_new (w.alloc (.cells #[.int .i64 0, .int .i64 1] 3)) (.cells #[.slice (some ⟨w.heap.size, 0, none⟩) 2 2] 28)
    simpa using h
  intro j p hp
  match j, hp with
  | 0, hp =>
    obtain rfl := Option.some.inj hp
    refine ⟨[.slice (some ⟨w.heap.size, 0, none⟩) 2 2], rfl, ⟨_, 2, rfl, by decide, Kd.C_alloc (ints01_C w) _⟩, ?_⟩
    intro i u hu
    obtain rfl : i = 0 := by have := (List.getElem?_eq_some_iff.1 hu).1; simpa using this
    have hu' := Option.some.inj hu; subst hu'; rw [add_plain]; exact (bkC h 0).trans rfl
set_option maxHeartbeats 4000000 in
set_option maxRecDepth 100000 in
theorem examples_ok (w : World) (hT : TabW w) : Calls Tryd.prog 11 #[] w fun r w' => r = .returned (.bool true) ∧ Below w.heap.size w w' := by
  have HT := Lib.hid hT; clear hT
  have HREF : Hid (∀ (a b : Int) w, Calls Tryd.prog 34 #[.int .i64 a, .int .i64 b] w fun r w' => r = .returned (.agg #[.int .i64 2, .int .i64 0, .int .i64 0, .string ⟨#[]⟩, .int .i64 a, .int .i64 b, .int .i64 0, .string ⟨#[]⟩, .slice none 0 0]) ∧ Below w.heap.size w w') := Lib.hid ref_ok
  have HNUM : Hid (∀ (n : Int) w, Calls Tryd.prog 35 #[.int .i64 n] w fun r w' => r = .returned (.agg #[.int .i64 1, .int .i64 1, .int .i64 n, .string ⟨#[]⟩, .int .i64 0, .int .i64 0, .int .i64 0, .string ⟨#[]⟩, .slice none 0 0]) ∧ Below w.heap.size w w') := Lib.hid num_ok9
  have HT1 : Hid (∀ w, Calls Tryd.prog 23 #[.int .i64 4, .agg #[.int .i64 2, .int .i64 0, .int .i64 0, .string ⟨#[]⟩, .int .i64 0, .int .i64 1, .int .i64 0, .string ⟨#[]⟩, .slice none 0 0], .agg #[.int .i64 1, .int .i64 1, .int .i64 2, .string ⟨#[]⟩, .int .i64 0, .int .i64 0, .int .i64 0, .string ⟨#[]⟩, .slice none 0 0]] w fun r w' => ∃ A, r = .returned (.agg #[.int .i64 4, .int .i64 0, .int .i64 0, .string ⟨#[]⟩, .int .i64 0, .int .i64 0, .int .i64 0, .string ⟨#[]⟩, .slice A 2 2]) ∧ Kd.C k26 w' A 2 [refE 0 1, numE 2] ∧ Below w.heap.size w w') := Lib.hid (fun w => two_ok 4 (refE 0 1) (numE 2) none none 0 0 w (by decide) (by decide) (Kd.C_nil _ _) (Kd.C_nil _ _))
  go_enter Tryd.func11, Tryd.ntmps11
  go_upto_region 2 with (first
    | (go_at_call 34; refine (HREF.out _ _ _).mono ?_; rintro r w1 ⟨rfl, hB1⟩)
    | (go_at_call 35; refine (HNUM.out _ _).mono ?_; rintro r w2 ⟨rfl, hB2⟩)
    | (go_at_call 23; refine (HT1.out _).mono ?_; rintro r w3 ⟨A1, rfl, hC3, hB3⟩; have hW3 : Below w.heap.size w w3 := hB1.trans ((hB2.trans (hB3.mono hB2.size)).mono hB1.size); have HTX : Calls Tryd.prog 24 #[.agg #[.int .i64 4, .int .i64 0, .int .i64 0, .string ⟨#[]⟩, .int .i64 0, .int .i64 0, .int .i64 0, .string ⟨#[]⟩, .slice A1 2 2]] w3 (fun r w' => r = .returned (.tuple #[.string ⟨#[40, 52, 32, 82, 48, 46, 49, 32, 73, 50, 41]⟩, .int .i64 0]) ∧ Below w3.heap.size w3 w') := (by have h := Text_ok exText A1 2 w3 (Lib.tabBelow_of_tabIs HT.out w3 hW3) (by kernel_rfl) hC3 (by decide); rw [ex_text] at h; exact h))
    | (go_at_call 24; refine HTX.mono ?_; rintro r w4 ⟨rfl, hB4⟩))
  have HW := hW3.trans (hB4.mono hW3.size)
  clear hB1 hB2 hB3 hB4 hW3 hC3 HTX
  go_upto_region 3 with (first | ((with_reducible refine gate_dst (N := 3) rfl ?_); refine box_event rfl (N := 3) rfl (cs := zerosE) (t := 26) (by first | rfl | (go_simp; done) | (go_simp; rfl)) ?_; intro nb hgg w5 hbnb hBnb;  have hnw : w.heap.size ≤ nb := (by have := HW.size; omega); have hnr : w4.heap.size ≤ nb := (by omega); clear hgg) | ((with_reducible refine gate_store (p := 3) (v := .tmp 18) rfl ?_); refine wpList_store_row rfl 26 (.tmp 3) (.tmp 18) rfl nb (exC nullE none 0) rfl rfl 26 zerosE hbnb (info_ex _ _ _) rfl (one_ex _ _ _) ?_))
  have BKN := setRow_at w5 nb _ zerosE (exC nullE none 0) hbnb
  replace HW : Below w.heap.size w (w5.setRow nb (exC nullE none 0)) := below_setRow' (HW.trans (hBnb.mono HW.size)) hnw _
  clear hbnb hBnb hnr
  generalize w5.setRow nb (exC nullE none 0) = w6 at BKN HW ⊢
  have HT2 : Hid (∀ w, Calls Tryd.prog 23 #[.int .i64 7, .agg #[.int .i64 1, .int .i64 1, .int .i64 1, .string ⟨#[]⟩, .int .i64 0, .int .i64 0, .int .i64 0, .string ⟨#[]⟩, .slice none 0 0], .agg #[.int .i64 1, .int .i64 1, .int .i64 0, .string ⟨#[]⟩, .int .i64 0, .int .i64 0, .int .i64 0, .string ⟨#[]⟩, .slice none 0 0]] w fun r w' => ∃ A, r = .returned (.agg #[.int .i64 7, .int .i64 0, .int .i64 0, .string ⟨#[]⟩, .int .i64 0, .int .i64 0, .int .i64 0, .string ⟨#[]⟩, .slice A 2 2]) ∧ Kd.C k26 w' A 2 [numE 1, numE 0] ∧ Below w.heap.size w w') := Lib.hid (fun w => two_ok 7 (numE 1) (numE 0) none none 0 0 w (by decide) (by decide) (Kd.C_nil _ _) (Kd.C_nil _ _))
  go_upto_region 4 with (first
    | (go_at_call 35; refine (HNUM.out _ _).mono ?_; rintro r w7 ⟨rfl, hB7⟩; replace BKN := (hB7.block nb (blk_lt BKN)).trans BKN; replace HW := HW.trans (hB7.mono HW.size); clear hB7)
    | (go_at_call 23; refine (HT2.out _).mono ?_; rintro r w8 ⟨A2, rfl, hC8, hB8⟩; replace BKN := (hB8.block nb (blk_lt BKN)).trans BKN; replace HW := HW.trans (hB8.mono HW.size); clear hB8)
    | ((with_reducible refine gate_dst (N := 4) rfl ?_); refine box_event rfl (N := 4) rfl (cs := zerosE) (t := 26) (by first | rfl | (go_simp; done) | (go_simp; rfl)) ?_; intro dv hgg w9 hbdv hBdv;  have hdw : w.heap.size ≤ dv := (by have := HW.size; omega); have hdr : w8.heap.size ≤ dv := (by omega); have hnd : nb ≠ dv := (by have := blk_lt BKN; omega); replace BKN := (hBdv.block nb (blk_lt BKN)).trans BKN; replace HW := HW.trans (hBdv.mono HW.size); clear hgg)
    | ((with_reducible refine gate_store (p := 4) (v := .tmp 21) rfl ?_); refine wpList_store_row rfl 26 (.tmp 4) (.tmp 21) rfl dv (exC exDiv A2 2) rfl rfl 26 zerosE hbdv (info_ex _ _ _) rfl (one_ex _ _ _) ?_))
  have BKD := setRow_at w9 dv _ zerosE (exC exDiv A2 2) hbdv
  replace BKN := setRow_far w9 (show ¬ dv = nb from Ne.symm hnd) BKN (exC exDiv A2 2)
  have hCD : Kd.C k26 (w9.setRow dv (exC exDiv A2 2)) A2 2 [numE 1, numE 0] := Kd.C_below hC8 (below_setRow' hBdv hdr _)
  replace HW : Below w.heap.size w (w9.setRow dv (exC exDiv A2 2)) := below_setRow' HW hdw _
  clear hC8 hbdv hBdv hdr
  generalize w9.setRow dv (exC exDiv A2 2) = w10 at BKN BKD hCD HW ⊢
  have HCD := Lib.hid hCD; have HBN := Lib.hid BKN; have HBD := Lib.hid BKD; have HWW := Lib.hid HW
  clear hCD BKN BKD HW
  have hz0 : w10.cell? ⟨dv, 0, none⟩ = some (.int .i64 7) := (bkC HBD.out 0).trans rfl; have hy0 : w10.cell? ⟨nb, 0, none⟩ = some (.int .i64 1) := (bkC HBN.out 0).trans rfl; have hz1 : w10.cell? ⟨dv, 1, none⟩ = some (.int .i64 0) := (bkC HBD.out 1).trans rfl; have hy1 : w10.cell? ⟨nb, 1, none⟩ = some (.int .i64 0) := (bkC HBN.out 1).trans rfl; have hz2 : w10.cell? ⟨dv, 2, none⟩ = some (.int .i64 0) := (bkC HBD.out 2).trans rfl; have hy2 : w10.cell? ⟨nb, 2, none⟩ = some (.int .i64 0) := (bkC HBN.out 2).trans rfl; have hz3 : w10.cell? ⟨dv, 3, none⟩ = some (.string ⟨#[]⟩) := (bkC HBD.out 3).trans rfl; have hy3 : w10.cell? ⟨nb, 3, none⟩ = some (.string ⟨#[]⟩) := (bkC HBN.out 3).trans rfl; have hz4 : w10.cell? ⟨dv, 4, none⟩ = some (.int .i64 0) := (bkC HBD.out 4).trans rfl; have hy4 : w10.cell? ⟨nb, 4, none⟩ = some (.int .i64 0) := (bkC HBN.out 4).trans rfl; have hz5 : w10.cell? ⟨dv, 5, none⟩ = some (.int .i64 0) := (bkC HBD.out 5).trans rfl; have hy5 : w10.cell? ⟨nb, 5, none⟩ = some (.int .i64 0) := (bkC HBN.out 5).trans rfl; have hz6 : w10.cell? ⟨dv, 6, none⟩ = some (.int .i64 0) := (bkC HBD.out 6).trans rfl; have hy6 : w10.cell? ⟨nb, 6, none⟩ = some (.int .i64 0) := (bkC HBN.out 6).trans rfl; have hz7 : w10.cell? ⟨dv, 7, none⟩ = some (.string ⟨#[]⟩) := (bkC HBD.out 7).trans rfl; have hy7 : w10.cell? ⟨nb, 7, none⟩ = some (.string ⟨#[]⟩) := (bkC HBN.out 7).trans rfl; have hz8 : w10.cell? ⟨dv, 8, none⟩ = some (.slice A2 2 2) := (bkC HBD.out 8).trans rfl; have hy8 : w10.cell? ⟨nb, 8, none⟩ = some (.slice none 0 0) := (bkC HBN.out 8).trans rfl
  obtain ⟨v1, hv1⟩ : ∃ v1, (evalRes (twoE 9 exDiv nullE) [] []).1 = v1 := ⟨_, rfl⟩
  have HE1 : Hid (evalRes (twoE 9 exDiv nullE) [] [] = (v1, 4)) := Lib.hid (Prod.ext hv1 ex_eval1)
  clear hv1
  have HT3 : Hid (Calls Tryd.prog 23 #[.int .i64 9, .agg #[.int .i64 7, .int .i64 0, .int .i64 0, .string ⟨#[]⟩, .int .i64 0, .int .i64 0, .int .i64 0, .string ⟨#[]⟩, .slice A2 2 2], .agg #[.int .i64 1, .int .i64 0, .int .i64 0, .string ⟨#[]⟩, .int .i64 0, .int .i64 0, .int .i64 0, .string ⟨#[]⟩, .slice none 0 0]] w10 fun r w' => ∃ A, r = .returned (.agg #[.int .i64 9, .int .i64 0, .int .i64 0, .string ⟨#[]⟩, .int .i64 0, .int .i64 0, .int .i64 0, .string ⟨#[]⟩, .slice A 2 2]) ∧ Kd.C k26 w' A 2 [exDiv, nullE] ∧ Below w10.heap.size w10 w') := Lib.hid (two_ok 9 exDiv nullE A2 none 2 0 w10 (by decide) (by decide) HCD.out (Kd.C_nil _ _))
  go_upto_region 5 with (first
    | (go_at_call 23; refine HT3.out.mono ?_; rintro r w11 ⟨A3, rfl, hC11, hB11⟩; have HEV : Hid (Calls Tryd.prog 14 #[.agg #[.int .i64 9, .int .i64 0, .int .i64 0, .string ⟨#[]⟩, .int .i64 0, .int .i64 0, .int .i64 0, .string ⟨#[]⟩, .slice A3 2 2], .slice none 0 0, .slice none 0 0] w11 fun r w' => r = .returned (.tuple #[.agg #[.int .i64 v1.f0, .int .i64 v1.f1, .string v1.f2], .int .i64 4]) ∧ Below w11.heap.size w11 w') := (by have h := Eval_ok (twoE 9 exDiv nullE) A3 none none 2 0 0 [] [] w11 hC11 (by decide) (Kd.C_nil _ _) (by decide) (Kd.C_nil _ _) (by decide); rw [HE1.out] at h; exact Lib.hid h))
    | (go_at_call 14; refine HEV.out.mono ?_; rintro r w12 ⟨rfl, hB12⟩; have hB12' := hB11.trans (hB12.mono hB11.size))
    | ((with_reducible refine gate_dst (N := 5) rfl ?_); refine box_event rfl (N := 5) rfl (cs := vaC zeroV) (t := 23) (by first | rfl | (go_simp; done) | (go_simp; rfl)) ?_; intro va hgg w13 hbva hBva;  have hva : w10.heap.size ≤ va := (by have := hB12'.size; omega); obtain ⟨hc0, hc1, hc2⟩ := bkC3 hbva; have hf0 := bkF hbva 0; have hf1 := bkF hbva 1; have hf2 := bkF hbva 2; clear hgg))
  have hB14 := va_below (hB12'.trans (hBva.mono hB12'.size)) hva v1
  clear hc0 hc1 hc2 hf0 hf1 hf2 hbva hBva hB12' hB12 hB11 HEV hC11
  clear hz0 hz1 hz2 hz3 hz4 hz5 hz6 hz7 hz8 hy0 hy1 hy2 hy3 hy4 hy5 hy6 hy7 hy8
  generalize ((w13.setCell ⟨va, 0, none⟩ (.int .i64 v1.f0)).setCell ⟨va, 1, none⟩ (.int .i64 v1.f1)).setCell ⟨va, 2, none⟩ (.string v1.f2) = w14 at hB14 ⊢
  have HBN14 := Lib.hid ((hB14.block nb (blk_lt HBN.out)).trans HBN.out)
  have HBD14 := Lib.hid ((hB14.block dv (blk_lt HBD.out)).trans HBD.out)
  have HC14 := Lib.hid (Kd.C_below HCD.out hB14)
  have HW14 := Lib.hid (HWW.out.trans (hB14.mono HWW.out.size))
  clear hB14
  have hz0 : w14.cell? ⟨dv, 0, none⟩ = some (.int .i64 7) := (bkC HBD14.out 0).trans rfl; have hy0 : w14.cell? ⟨nb, 0, none⟩ = some (.int .i64 1) := (bkC HBN14.out 0).trans rfl; have hz1 : w14.cell? ⟨dv, 1, none⟩ = some (.int .i64 0) := (bkC HBD14.out 1).trans rfl; have hy1 : w14.cell? ⟨nb, 1, none⟩ = some (.int .i64 0) := (bkC HBN14.out 1).trans rfl; have hz2 : w14.cell? ⟨dv, 2, none⟩ = some (.int .i64 0) := (bkC HBD14.out 2).trans rfl; have hy2 : w14.cell? ⟨nb, 2, none⟩ = some (.int .i64 0) := (bkC HBN14.out 2).trans rfl; have hz3 : w14.cell? ⟨dv, 3, none⟩ = some (.string ⟨#[]⟩) := (bkC HBD14.out 3).trans rfl; have hy3 : w14.cell? ⟨nb, 3, none⟩ = some (.string ⟨#[]⟩) := (bkC HBN14.out 3).trans rfl; have hz4 : w14.cell? ⟨dv, 4, none⟩ = some (.int .i64 0) := (bkC HBD14.out 4).trans rfl; have hy4 : w14.cell? ⟨nb, 4, none⟩ = some (.int .i64 0) := (bkC HBN14.out 4).trans rfl; have hz5 : w14.cell? ⟨dv, 5, none⟩ = some (.int .i64 0) := (bkC HBD14.out 5).trans rfl; have hy5 : w14.cell? ⟨nb, 5, none⟩ = some (.int .i64 0) := (bkC HBN14.out 5).trans rfl; have hz6 : w14.cell? ⟨dv, 6, none⟩ = some (.int .i64 0) := (bkC HBD14.out 6).trans rfl; have hy6 : w14.cell? ⟨nb, 6, none⟩ = some (.int .i64 0) := (bkC HBN14.out 6).trans rfl; have hz7 : w14.cell? ⟨dv, 7, none⟩ = some (.string ⟨#[]⟩) := (bkC HBD14.out 7).trans rfl; have hy7 : w14.cell? ⟨nb, 7, none⟩ = some (.string ⟨#[]⟩) := (bkC HBN14.out 7).trans rfl; have hz8 : w14.cell? ⟨dv, 8, none⟩ = some (.slice A2 2 2) := (bkC HBD14.out 8).trans rfl; have hy8 : w14.cell? ⟨nb, 8, none⟩ = some (.slice none 0 0) := (bkC HBN14.out 8).trans rfl
  obtain ⟨v2, hv2⟩ : ∃ v2, (evalRes (twoE 15 nullE (twoE 9 exDiv (numE 1))) [] []).1 = v2 := ⟨_, rfl⟩
  have HE2 : Hid (evalRes (twoE 15 nullE (twoE 9 exDiv (numE 1))) [] [] = (v2, 4)) := Lib.hid (Prod.ext hv2 ex_eval2)
  clear hv2
  have HT5 : Hid (∀ w, Below w14.heap.size w14 w → Calls Tryd.prog 23 #[.int .i64 9, .agg #[.int .i64 7, .int .i64 0, .int .i64 0, .string ⟨#[]⟩, .int .i64 0, .int .i64 0, .int .i64 0, .string ⟨#[]⟩, .slice A2 2 2], .agg #[.int .i64 1, .int .i64 1, .int .i64 1, .string ⟨#[]⟩, .int .i64 0, .int .i64 0, .int .i64 0, .string ⟨#[]⟩, .slice none 0 0]] w fun r w' => ∃ A, r = .returned (.agg #[.int .i64 9, .int .i64 0, .int .i64 0, .string ⟨#[]⟩, .int .i64 0, .int .i64 0, .int .i64 0, .string ⟨#[]⟩, .slice A 2 2]) ∧ Kd.C k26 w' A 2 [exDiv, numE 1] ∧ Below w.heap.size w w') := Lib.hid (fun w hw => two_ok 9 exDiv (numE 1) A2 none 2 0 w (by decide) (by decide) (Kd.C_below HC14.out hw) (Kd.C_nil _ _))
  have HT6 : Hid (∀ A4 w, Kd.C k26 w A4 2 [exDiv, numE 1] → Calls Tryd.prog 23 #[.int .i64 15, .agg #[.int .i64 1, .int .i64 0, .int .i64 0, .string ⟨#[]⟩, .int .i64 0, .int .i64 0, .int .i64 0, .string ⟨#[]⟩, .slice none 0 0], .agg #[.int .i64 9, .int .i64 0, .int .i64 0, .string ⟨#[]⟩, .int .i64 0, .int .i64 0, .int .i64 0, .string ⟨#[]⟩, .slice A4 2 2]] w fun r w' => ∃ A, r = .returned (.agg #[.int .i64 15, .int .i64 0, .int .i64 0, .string ⟨#[]⟩, .int .i64 0, .int .i64 0, .int .i64 0, .string ⟨#[]⟩, .slice A 2 2]) ∧ Kd.C k26 w' A 2 [nullE, twoE 9 exDiv (numE 1)] ∧ Below w.heap.size w w') := Lib.hid (fun A4 w h => two_ok 15 nullE (twoE 9 exDiv (numE 1)) none A4 0 2 w (by decide) (by decide) (Kd.C_nil _ _) h)
  have HEV2 : Hid (∀ A5 w, Kd.C k26 w A5 2 [nullE, twoE 9 exDiv (numE 1)] → Calls Tryd.prog 14 #[.agg #[.int .i64 15, .int .i64 0, .int .i64 0, .string ⟨#[]⟩, .int .i64 0, .int .i64 0, .int .i64 0, .string ⟨#[]⟩, .slice A5 2 2], .slice none 0 0, .slice none 0 0] w fun r w' => r = .returned (.tuple #[.agg #[.int .i64 v2.f0, .int .i64 v2.f1, .string v2.f2], .int .i64 4]) ∧ Below w.heap.size w w') := Lib.hid (fun A5 w h => by have h := Eval_ok (twoE 15 nullE (twoE 9 exDiv (numE 1))) A5 none none 2 0 0 [] [] w h (by decide) (Kd.C_nil _ _) (by decide) (Kd.C_nil _ _) (by decide); rw [HE2.out] at h; exact h)
  go_upto_region 6 with fail
  go_cut [8] (fun s8 wx => s8 = .int .i64 4 ∧ Below w14.heap.size w14 wx)
  case first =>
    go_region_held3 (fun w' => w'.cell? ⟨dv, 0, none⟩ = some (.int .i64 7) ∧ w'.cell? ⟨dv, 1, none⟩ = some (.int .i64 0) ∧ w'.cell? ⟨dv, 2, none⟩ = some (.int .i64 0) ∧ w'.cell? ⟨dv, 3, none⟩ = some (.string ⟨#[]⟩) ∧ w'.cell? ⟨dv, 4, none⟩ = some (.int .i64 0) ∧ w'.cell? ⟨dv, 5, none⟩ = some (.int .i64 0) ∧ w'.cell? ⟨dv, 6, none⟩ = some (.int .i64 0) ∧ w'.cell? ⟨dv, 7, none⟩ = some (.string ⟨#[]⟩) ∧ w'.cell? ⟨dv, 8, none⟩ = some (.slice A2 2 2) ∧ w'.cell? ⟨nb, 0, none⟩ = some (.int .i64 1) ∧ w'.cell? ⟨nb, 1, none⟩ = some (.int .i64 0) ∧ w'.cell? ⟨nb, 2, none⟩ = some (.int .i64 0) ∧ w'.cell? ⟨nb, 3, none⟩ = some (.string ⟨#[]⟩) ∧ w'.cell? ⟨nb, 4, none⟩ = some (.int .i64 0) ∧ w'.cell? ⟨nb, 5, none⟩ = some (.int .i64 0) ∧ w'.cell? ⟨nb, 6, none⟩ = some (.int .i64 0) ∧ w'.cell? ⟨nb, 7, none⟩ = some (.string ⟨#[]⟩) ∧ w'.cell? ⟨nb, 8, none⟩ = some (.slice none 0 0)) (go_keep) (first
      | (go_at_call 35; (with_reducible refine (HNUM.out _ _).mono ?_); rintro r w15 ⟨rfl, hB15⟩; (first | (have hq1 : dv ≠ w14.heap.size := Nat.ne_of_lt (blk_lt HBD14.out); have hq2 : nb ≠ w14.heap.size := Nat.ne_of_lt (blk_lt HBN14.out); have hq3 := Ne.symm hq1; have hq4 := Ne.symm hq2; have hq5 := eq_false hq1; have hq6 := eq_false hq2; have hq7 := eq_false hq3; have hq8 := eq_false hq4; have HV15 : w15.heap[w14.heap.size]? = some (.cells #[.int .i64 0, .int .i64 0, .string ⟨#[]⟩] 23 (0, 0)) := (hB15.block _ (blk_lt (heap_alloc_new w14 _))).trans (heap_alloc_new w14 _); have hu0 := ((bkC HV15 0).trans rfl : w15.cell? ⟨_, 0, none⟩ = some (.int .i64 0)); have hu1 := ((bkC HV15 1).trans rfl : w15.cell? ⟨_, 1, none⟩ = some (.int .i64 0)); have hu2 := ((bkC HV15 2).trans rfl : w15.cell? ⟨_, 2, none⟩ = some (.string ⟨#[]⟩)); have hv0 := bkF HV15 0; have hv1 := bkF HV15 1; have hv2 := bkF HV15 2) | skip); replace hB15 : Below w14.heap.size w14 w15 := (by first | (with_reducible exact num_back hB15) | exact num_back2 hB15); have HBN15 := Lib.hid ((hB15.block nb (blk_lt HBN14.out)).trans HBN14.out); have HBD15 := Lib.hid ((hB15.block dv (blk_lt HBD14.out)).trans HBD14.out); have hz0 : w15.cell? ⟨dv, 0, none⟩ = some (.int .i64 7) := (bkC HBD15.out 0).trans rfl; have hy0 : w15.cell? ⟨nb, 0, none⟩ = some (.int .i64 1) := (bkC HBN15.out 0).trans rfl; have hz1 : w15.cell? ⟨dv, 1, none⟩ = some (.int .i64 0) := (bkC HBD15.out 1).trans rfl; have hy1 : w15.cell? ⟨nb, 1, none⟩ = some (.int .i64 0) := (bkC HBN15.out 1).trans rfl; have hz2 : w15.cell? ⟨dv, 2, none⟩ = some (.int .i64 0) := (bkC HBD15.out 2).trans rfl; have hy2 : w15.cell? ⟨nb, 2, none⟩ = some (.int .i64 0) := (bkC HBN15.out 2).trans rfl; have hz3 : w15.cell? ⟨dv, 3, none⟩ = some (.string ⟨#[]⟩) := (bkC HBD15.out 3).trans rfl; have hy3 : w15.cell? ⟨nb, 3, none⟩ = some (.string ⟨#[]⟩) := (bkC HBN15.out 3).trans rfl; have hz4 : w15.cell? ⟨dv, 4, none⟩ = some (.int .i64 0) := (bkC HBD15.out 4).trans rfl; have hy4 : w15.cell? ⟨nb, 4, none⟩ = some (.int .i64 0) := (bkC HBN15.out 4).trans rfl; have hz5 : w15.cell? ⟨dv, 5, none⟩ = some (.int .i64 0) := (bkC HBD15.out 5).trans rfl; have hy5 : w15.cell? ⟨nb, 5, none⟩ = some (.int .i64 0) := (bkC HBN15.out 5).trans rfl; have hz6 : w15.cell? ⟨dv, 6, none⟩ = some (.int .i64 0) := (bkC HBD15.out 6).trans rfl; have hy6 : w15.cell? ⟨nb, 6, none⟩ = some (.int .i64 0) := (bkC HBN15.out 6).trans rfl; have hz7 : w15.cell? ⟨dv, 7, none⟩ = some (.string ⟨#[]⟩) := (bkC HBD15.out 7).trans rfl; have hy7 : w15.cell? ⟨nb, 7, none⟩ = some (.string ⟨#[]⟩) := (bkC HBN15.out 7).trans rfl; have hz8 : w15.cell? ⟨dv, 8, none⟩ = some (.slice A2 2 2) := (bkC HBD15.out 8).trans rfl; have hy8 : w15.cell? ⟨nb, 8, none⟩ = some (.slice none 0 0) := (bkC HBN15.out 8).trans rfl)
      | (go_at_call 23; (with_reducible refine (HT5.out _ (by first | exact hB15 | exact hB15.alloc hB15.size _)).mono ?_); rintro r w16 ⟨A4, rfl, hC16, hB16⟩; have hB16' : Below w14.heap.size w14 w16 := (by first | exact hB15.trans (hB16.mono hB15.size) | exact (hB15.alloc hB15.size _).trans (hB16.mono (hB15.alloc hB15.size _).size)); have HBN16 := Lib.hid ((hB16'.block nb (blk_lt HBN14.out)).trans HBN14.out); have HBD16 := Lib.hid ((hB16'.block dv (blk_lt HBD14.out)).trans HBD14.out); have hz0 : w16.cell? ⟨dv, 0, none⟩ = some (.int .i64 7) := (bkC HBD16.out 0).trans rfl; have hy0 : w16.cell? ⟨nb, 0, none⟩ = some (.int .i64 1) := (bkC HBN16.out 0).trans rfl; have hz1 : w16.cell? ⟨dv, 1, none⟩ = some (.int .i64 0) := (bkC HBD16.out 1).trans rfl; have hy1 : w16.cell? ⟨nb, 1, none⟩ = some (.int .i64 0) := (bkC HBN16.out 1).trans rfl; have hz2 : w16.cell? ⟨dv, 2, none⟩ = some (.int .i64 0) := (bkC HBD16.out 2).trans rfl; have hy2 : w16.cell? ⟨nb, 2, none⟩ = some (.int .i64 0) := (bkC HBN16.out 2).trans rfl; have hz3 : w16.cell? ⟨dv, 3, none⟩ = some (.string ⟨#[]⟩) := (bkC HBD16.out 3).trans rfl; have hy3 : w16.cell? ⟨nb, 3, none⟩ = some (.string ⟨#[]⟩) := (bkC HBN16.out 3).trans rfl; have hz4 : w16.cell? ⟨dv, 4, none⟩ = some (.int .i64 0) := (bkC HBD16.out 4).trans rfl; have hy4 : w16.cell? ⟨nb, 4, none⟩ = some (.int .i64 0) := (bkC HBN16.out 4).trans rfl; have hz5 : w16.cell? ⟨dv, 5, none⟩ = some (.int .i64 0) := (bkC HBD16.out 5).trans rfl; have hy5 : w16.cell? ⟨nb, 5, none⟩ = some (.int .i64 0) := (bkC HBN16.out 5).trans rfl; have hz6 : w16.cell? ⟨dv, 6, none⟩ = some (.int .i64 0) := (bkC HBD16.out 6).trans rfl; have hy6 : w16.cell? ⟨nb, 6, none⟩ = some (.int .i64 0) := (bkC HBN16.out 6).trans rfl; have hz7 : w16.cell? ⟨dv, 7, none⟩ = some (.string ⟨#[]⟩) := (bkC HBD16.out 7).trans rfl; have hy7 : w16.cell? ⟨nb, 7, none⟩ = some (.string ⟨#[]⟩) := (bkC HBN16.out 7).trans rfl; have hz8 : w16.cell? ⟨dv, 8, none⟩ = some (.slice A2 2 2) := (bkC HBD16.out 8).trans rfl; have hy8 : w16.cell? ⟨nb, 8, none⟩ = some (.slice none 0 0) := (bkC HBN16.out 8).trans rfl; (first | (have HV16 := (hB16.block _ (blk_lt HV15)).trans HV15; have hu0 := ((bkC HV16 0).trans rfl : w16.cell? ⟨_, 0, none⟩ = some (.int .i64 0)); have hu1 := ((bkC HV16 1).trans rfl : w16.cell? ⟨_, 1, none⟩ = some (.int .i64 0)); have hu2 := ((bkC HV16 2).trans rfl : w16.cell? ⟨_, 2, none⟩ = some (.string ⟨#[]⟩)); have hv0 := bkF HV16 0; have hv1 := bkF HV16 1; have hv2 := bkF HV16 2) | (have hq1 : dv ≠ w15.heap.size := Nat.ne_of_lt (blk_lt HBD15.out); have hq2 : nb ≠ w15.heap.size := Nat.ne_of_lt (blk_lt HBN15.out); have hq3 := Ne.symm hq1; have hq4 := Ne.symm hq2; have hq5 := eq_false hq1; have hq6 := eq_false hq2; have hq7 := eq_false hq3; have hq8 := eq_false hq4; have HV16 : w16.heap[w15.heap.size]? = some (.cells #[.int .i64 0, .int .i64 0, .string ⟨#[]⟩] 23 (0, 0)) := (hB16.block _ (blk_lt (heap_alloc_new w15 _))).trans (heap_alloc_new w15 _); have hu0 := ((bkC HV16 0).trans rfl : w16.cell? ⟨_, 0, none⟩ = some (.int .i64 0)); have hu1 := ((bkC HV16 1).trans rfl : w16.cell? ⟨_, 1, none⟩ = some (.int .i64 0)); have hu2 := ((bkC HV16 2).trans rfl : w16.cell? ⟨_, 2, none⟩ = some (.string ⟨#[]⟩)); have hv0 := bkF HV16 0; have hv1 := bkF HV16 1; have hv2 := bkF HV16 2) | skip))
      | (go_at_call 23; (with_reducible refine (HT6.out _ _ (by first | exact hC16 | exact Kd.C_alloc hC16 _)).mono ?_); rintro r w17 ⟨A5, rfl, hC17, hB17⟩; have hB17' : Below w14.heap.size w14 w17 := (by first | exact hB16'.trans (hB17.mono hB16'.size) | exact (hB16'.alloc hB16'.size _).trans (hB17.mono (hB16'.alloc hB16'.size _).size)); have HBN17 := Lib.hid ((hB17'.block nb (blk_lt HBN14.out)).trans HBN14.out); have HBD17 := Lib.hid ((hB17'.block dv (blk_lt HBD14.out)).trans HBD14.out); have hz0 : w17.cell? ⟨dv, 0, none⟩ = some (.int .i64 7) := (bkC HBD17.out 0).trans rfl; have hy0 : w17.cell? ⟨nb, 0, none⟩ = some (.int .i64 1) := (bkC HBN17.out 0).trans rfl; have hz1 : w17.cell? ⟨dv, 1, none⟩ = some (.int .i64 0) := (bkC HBD17.out 1).trans rfl; have hy1 : w17.cell? ⟨nb, 1, none⟩ = some (.int .i64 0) := (bkC HBN17.out 1).trans rfl; have hz2 : w17.cell? ⟨dv, 2, none⟩ = some (.int .i64 0) := (bkC HBD17.out 2).trans rfl; have hy2 : w17.cell? ⟨nb, 2, none⟩ = some (.int .i64 0) := (bkC HBN17.out 2).trans rfl; have hz3 : w17.cell? ⟨dv, 3, none⟩ = some (.string ⟨#[]⟩) := (bkC HBD17.out 3).trans rfl; have hy3 : w17.cell? ⟨nb, 3, none⟩ = some (.string ⟨#[]⟩) := (bkC HBN17.out 3).trans rfl; have hz4 : w17.cell? ⟨dv, 4, none⟩ = some (.int .i64 0) := (bkC HBD17.out 4).trans rfl; have hy4 : w17.cell? ⟨nb, 4, none⟩ = some (.int .i64 0) := (bkC HBN17.out 4).trans rfl; have hz5 : w17.cell? ⟨dv, 5, none⟩ = some (.int .i64 0) := (bkC HBD17.out 5).trans rfl; have hy5 : w17.cell? ⟨nb, 5, none⟩ = some (.int .i64 0) := (bkC HBN17.out 5).trans rfl; have hz6 : w17.cell? ⟨dv, 6, none⟩ = some (.int .i64 0) := (bkC HBD17.out 6).trans rfl; have hy6 : w17.cell? ⟨nb, 6, none⟩ = some (.int .i64 0) := (bkC HBN17.out 6).trans rfl; have hz7 : w17.cell? ⟨dv, 7, none⟩ = some (.string ⟨#[]⟩) := (bkC HBD17.out 7).trans rfl; have hy7 : w17.cell? ⟨nb, 7, none⟩ = some (.string ⟨#[]⟩) := (bkC HBN17.out 7).trans rfl; have hz8 : w17.cell? ⟨dv, 8, none⟩ = some (.slice A2 2 2) := (bkC HBD17.out 8).trans rfl; have hy8 : w17.cell? ⟨nb, 8, none⟩ = some (.slice none 0 0) := (bkC HBN17.out 8).trans rfl; (first | (have HV17 := (hB17.block _ (blk_lt HV16)).trans HV16; have hu0 := ((bkC HV17 0).trans rfl : w17.cell? ⟨_, 0, none⟩ = some (.int .i64 0)); have hu1 := ((bkC HV17 1).trans rfl : w17.cell? ⟨_, 1, none⟩ = some (.int .i64 0)); have hu2 := ((bkC HV17 2).trans rfl : w17.cell? ⟨_, 2, none⟩ = some (.string ⟨#[]⟩)); have hv0 := bkF HV17 0; have hv1 := bkF HV17 1; have hv2 := bkF HV17 2) | (have hq1 : dv ≠ w16.heap.size := Nat.ne_of_lt (blk_lt HBD16.out); have hq2 : nb ≠ w16.heap.size := Nat.ne_of_lt (blk_lt HBN16.out); have hq3 := Ne.symm hq1; have hq4 := Ne.symm hq2; have hq5 := eq_false hq1; have hq6 := eq_false hq2; have hq7 := eq_false hq3; have hq8 := eq_false hq4; have HV17 : w17.heap[w16.heap.size]? = some (.cells #[.int .i64 0, .int .i64 0, .string ⟨#[]⟩] 23 (0, 0)) := (hB17.block _ (blk_lt (heap_alloc_new w16 _))).trans (heap_alloc_new w16 _); have hu0 := ((bkC HV17 0).trans rfl : w17.cell? ⟨_, 0, none⟩ = some (.int .i64 0)); have hu1 := ((bkC HV17 1).trans rfl : w17.cell? ⟨_, 1, none⟩ = some (.int .i64 0)); have hu2 := ((bkC HV17 2).trans rfl : w17.cell? ⟨_, 2, none⟩ = some (.string ⟨#[]⟩)); have hv0 := bkF HV17 0; have hv1 := bkF HV17 1; have hv2 := bkF HV17 2) | skip))
      | (go_at_call 14; (with_reducible refine (HEV2.out _ _ (by first | exact hC17 | exact Kd.C_alloc hC17 _)).mono ?_); rintro r w18 ⟨rfl, hB18⟩; have hB18' : Below w14.heap.size w14 w18 := (by first | exact hB17'.trans (hB18.mono hB17'.size) | exact (hB17'.alloc hB17'.size _).trans (hB18.mono (hB17'.alloc hB17'.size _).size)); have HBN18 := Lib.hid ((hB18'.block nb (blk_lt HBN14.out)).trans HBN14.out); have HBD18 := Lib.hid ((hB18'.block dv (blk_lt HBD14.out)).trans HBD14.out); have hz0 : w18.cell? ⟨dv, 0, none⟩ = some (.int .i64 7) := (bkC HBD18.out 0).trans rfl; have hy0 : w18.cell? ⟨nb, 0, none⟩ = some (.int .i64 1) := (bkC HBN18.out 0).trans rfl; have hz1 : w18.cell? ⟨dv, 1, none⟩ = some (.int .i64 0) := (bkC HBD18.out 1).trans rfl; have hy1 : w18.cell? ⟨nb, 1, none⟩ = some (.int .i64 0) := (bkC HBN18.out 1).trans rfl; have hz2 : w18.cell? ⟨dv, 2, none⟩ = some (.int .i64 0) := (bkC HBD18.out 2).trans rfl; have hy2 : w18.cell? ⟨nb, 2, none⟩ = some (.int .i64 0) := (bkC HBN18.out 2).trans rfl; have hz3 : w18.cell? ⟨dv, 3, none⟩ = some (.string ⟨#[]⟩) := (bkC HBD18.out 3).trans rfl; have hy3 : w18.cell? ⟨nb, 3, none⟩ = some (.string ⟨#[]⟩) := (bkC HBN18.out 3).trans rfl; have hz4 : w18.cell? ⟨dv, 4, none⟩ = some (.int .i64 0) := (bkC HBD18.out 4).trans rfl; have hy4 : w18.cell? ⟨nb, 4, none⟩ = some (.int .i64 0) := (bkC HBN18.out 4).trans rfl; have hz5 : w18.cell? ⟨dv, 5, none⟩ = some (.int .i64 0) := (bkC HBD18.out 5).trans rfl; have hy5 : w18.cell? ⟨nb, 5, none⟩ = some (.int .i64 0) := (bkC HBN18.out 5).trans rfl; have hz6 : w18.cell? ⟨dv, 6, none⟩ = some (.int .i64 0) := (bkC HBD18.out 6).trans rfl; have hy6 : w18.cell? ⟨nb, 6, none⟩ = some (.int .i64 0) := (bkC HBN18.out 6).trans rfl; have hz7 : w18.cell? ⟨dv, 7, none⟩ = some (.string ⟨#[]⟩) := (bkC HBD18.out 7).trans rfl; have hy7 : w18.cell? ⟨nb, 7, none⟩ = some (.string ⟨#[]⟩) := (bkC HBN18.out 7).trans rfl; have hz8 : w18.cell? ⟨dv, 8, none⟩ = some (.slice A2 2 2) := (bkC HBD18.out 8).trans rfl; have hy8 : w18.cell? ⟨nb, 8, none⟩ = some (.slice none 0 0) := (bkC HBN18.out 8).trans rfl; (first | (have HV18 := (hB18.block _ (blk_lt HV17)).trans HV17; have hu0 := ((bkC HV18 0).trans rfl : w18.cell? ⟨_, 0, none⟩ = some (.int .i64 0)); have hu1 := ((bkC HV18 1).trans rfl : w18.cell? ⟨_, 1, none⟩ = some (.int .i64 0)); have hu2 := ((bkC HV18 2).trans rfl : w18.cell? ⟨_, 2, none⟩ = some (.string ⟨#[]⟩)); have hv0 := bkF HV18 0; have hv1 := bkF HV18 1; have hv2 := bkF HV18 2) | (have hq1 : dv ≠ w17.heap.size := Nat.ne_of_lt (blk_lt HBD17.out); have hq2 : nb ≠ w17.heap.size := Nat.ne_of_lt (blk_lt HBN17.out); have hq3 := Ne.symm hq1; have hq4 := Ne.symm hq2; have hq5 := eq_false hq1; have hq6 := eq_false hq2; have hq7 := eq_false hq3; have hq8 := eq_false hq4; have HV18 : w18.heap[w17.heap.size]? = some (.cells #[.int .i64 0, .int .i64 0, .string ⟨#[]⟩] 23 (0, 0)) := (hB18.block _ (blk_lt (heap_alloc_new w17 _))).trans (heap_alloc_new w17 _); have hu0 := ((bkC HV18 0).trans rfl : w18.cell? ⟨_, 0, none⟩ = some (.int .i64 0)); have hu1 := ((bkC HV18 1).trans rfl : w18.cell? ⟨_, 1, none⟩ = some (.int .i64 0)); have hu2 := ((bkC HV18 2).trans rfl : w18.cell? ⟨_, 2, none⟩ = some (.string ⟨#[]⟩)); have hv0 := bkF HV18 0; have hv1 := bkF HV18 1; have hv2 := bkF HV18 2) | skip)))
    all_goals (go_wp2_with fail; go_meet; exact ⟨rfl, (by first | exact blA hB18' _ | exact va_below hB18' hB17'.size v2 | exact va_below hB18' hB16'.size v2 | exact va_below hB18' hB15.size v2 | exact va_below hB18' (Nat.le_refl _) v2)⟩)
  case rest =>
    obtain ⟨rfl, hBx⟩ := hcut
    have HW20 := Lib.hid (HW14.out.trans (hBx.mono HW14.out.size))
    have HBD20 := Lib.hid ((hBx.block dv (blk_lt HBD14.out)).trans HBD14.out)
    have HC20 := Lib.hid (Kd.C_below HC14.out hBx)
    clear hBx HC14 HBD14 HBN14 HW14 HEV2 HT6 HT5 HT3 HT2 HT1 HE1 HE2 hz0 hz1 hz2 hz3 hz4 hz5 hz6 hz7 hz8 hy0 hy1 hy2 hy3 hy4 hy5 hy6 hy7 hy8
    have HT8 : Hid (∀ w, Calls Tryd.prog 23 #[.int .i64 11, .agg #[.int .i64 2, .int .i64 0, .int .i64 0, .string ⟨#[]⟩, .int .i64 0, .int .i64 1, .int .i64 0, .string ⟨#[]⟩, .slice none 0 0], .agg #[.int .i64 1, .int .i64 1, .int .i64 2, .string ⟨#[]⟩, .int .i64 0, .int .i64 0, .int .i64 0, .string ⟨#[]⟩, .slice none 0 0]] w fun r w' => ∃ A, r = .returned (.agg #[.int .i64 11, .int .i64 0, .int .i64 0, .string ⟨#[]⟩, .int .i64 0, .int .i64 0, .int .i64 0, .string ⟨#[]⟩, .slice A 2 2]) ∧ Kd.C k26 w' A 2 [refE 0 1, numE 2] ∧ Below w.heap.size w w') := Lib.hid (fun w => two_ok 11 (refE 0 1) (numE 2) none none 0 0 w (by decide) (by decide) (Kd.C_nil _ _) (Kd.C_nil _ _))
    have HKD : Hid (∀ A6 W, Kd.C k26 W A6 2 [refE 0 1, numE 2] → Calls Tryd.prog 12 #[.agg #[.int .i64 11, .int .i64 0, .int .i64 0, .string ⟨#[]⟩, .int .i64 0, .int .i64 0, .int .i64 0, .string ⟨#[]⟩, .slice A6 2 2], .slice (some ⟨W.heap.size + 1, 0, none⟩) 1 1, .slice none 0 0] ((W.alloc (.cells #[.int .i64 0, .int .i64 1] 3)).alloc (.cells #[.slice (some ⟨W.heap.size, 0, none⟩) 2 2] 28)) fun r w' => r = .returned (.tuple #[.int .i64 2, .int .i64 0]) ∧ Below W.heap.size W w') := Lib.hid (fun A6 W h => by
      have hb2 := blA (blA (Below.refl _ W) (.cells #[.int .i64 0, .int .i64 1] 3)) (.cells #[.slice (some ⟨W.heap.size, 0, none⟩) 2 2] 28)
      have h := Kind_ok (twoE 11 (refE 0 1) (numE 2)) A6 (some ⟨W.heap.size + 1, 0, none⟩) none 2 1 0 [[0, 1]] [] _ (Kd.C_below h hb2) (by decide) (rows01_C W) (by decide) (Kd.C_nil _ _) (by decide)
      rw [ex_kind] at h
      exact h.mono fun _ _ ⟨he, hw⟩ => ⟨he, hb2.trans (hw.mono hb2.size)⟩)
    go_upto_region 7 with (first
      | (go_at_call 34; refine (HREF.out _ _ _).mono ?_; rintro r w21 ⟨rfl, hB21⟩)
      | (go_at_call 35; refine (HNUM.out _ _).mono ?_; rintro r w22 ⟨rfl, hB22⟩)
      | (go_at_call 23; refine (HT8.out _).mono ?_; rintro r w23 ⟨A6, rfl, hC23, hB23⟩)
      | (go_at_call 12; refine (HKD.out _ _ hC23).mono ?_; rintro r w24 ⟨rfl, hB24⟩))
    have hB24' : Below wc.heap.size wc w24 := hB21.trans ((hB22.trans ((hB23.trans (hB24.mono hB23.size)).mono hB22.size)).mono hB21.size)
    have HW24 := Lib.hid (HW20.out.trans (hB24'.mono HW20.out.size))
    have HBD24 := Lib.hid ((hB24'.block dv (blk_lt HBD20.out)).trans HBD20.out)
    have HC24 := Lib.hid (Kd.C_below HC20.out hB24')
    clear hB24' hB24 hB23 hB22 hB21 hC23 HC20 HBD20 HW20 HKD HT8 HNUM
    obtain ⟨hz0, hz1, hz2, hz3, hz4, hz5, hz6, hz7, hz8⟩ := bkC9 HBD24.out
    have HRG : Hid (Calls Tryd.prog 17 #[.agg #[.int .i64 7, .int .i64 0, .int .i64 0, .string ⟨#[]⟩, .int .i64 0, .int .i64 0, .int .i64 0, .string ⟨#[]⟩, .slice A2 2 2]] w24 fun r w' => r = .returned (.bool true) ∧ Below w24.heap.size w24 w') := Lib.hid (by have h := right_ok exDiv A2 2 w24 HC24.out (by decide); rw [ex_div] at h; exact h)
    have HTB : Hid (∀ w, Calls Tryd.prog 16 #[.agg #[.int .i64 2, .int .i64 0, .int .i64 0, .string ⟨#[]⟩, .int .i64 2, .int .i64 0, .int .i64 0, .string ⟨#[]⟩, .slice none 0 0]] w fun r w' => r = .returned (.int .i64 4) ∧ Below w.heap.size w w') := Lib.hid (fun w => by have h := tables_ok (refE 2 0) none 0 w (Kd.C_nil _ _) (by decide); rw [ex_tab] at h; exact h)
    go_wp2_with (first
      | (go_at_call 17; refine HRG.out.mono ?_; rintro r w25 ⟨rfl, hB25⟩)
      | (go_at_call 34; refine (HREF.out _ _ _).mono ?_; rintro r w26 ⟨rfl, hB26⟩)
      | (go_at_call 16; refine (HTB.out _).mono ?_; rintro r w27 ⟨rfl, hB27⟩))
    have hW25 := HW24.out.trans (hB25.mono HW24.out.size)
    have hW26 := hW25.trans (hB26.mono hW25.size)
    have hW27 := hW26.trans (hB27.mono hW26.size)
    go_ret
    exact ⟨rfl, hW27⟩
end Go.Proofs.YtkboodfnegedaaaDoor.E
namespace Go.Proofs.YtkboodfnegedaaaDoor.E
set_option linter.unusedSimpArgs false
set_option linter.unusedVariables false
open Go.RowKit Go.Proofs.YtkboodfnegedaaaDoorW.PrintWords Go.Proofs.YtkboodfnegedaaaDoorW.PrintLast Go.Proofs.YtkboodfnegedaaaDoorW.PrintMore
mutual
theorem Ex.ind {P : Ex → Prop} (h : ∀ e : Ex, (∀ x ∈ e.f6, P x) → P e) : (e : Ex) → P e
  | ⟨f0, f1, f2, f3, f4, f5, f6⟩ => h _ (Ex.indL h f6)
theorem Ex.indL {P : Ex → Prop} (h : ∀ e : Ex, (∀ x ∈ e.f6, P x) → P e) : (l : List Ex) → ∀ x ∈ l, P x
  | [] => fun x hx => by simp at hx
  | y :: ys => fun x hx => by
    have hy := Ex.ind h y
    rcases List.mem_cons.1 hx with e | hx
    · rw [e]; exact hy
    · exact Ex.indL h ys x hx
end
mutual
/-- What is joined by AND. -/
def splitE : Ex → List Ex
  | ⟨f0, f1, f2, f3, f4, f5, f6⟩ => if f0 = 15 then splitL f6 else [⟨f0, f1, f2, f3, f4, f5, f6⟩]
def splitL : List Ex → List Ex
  | [] => []
  | x :: xs => splitE x ++ splitL xs
end
theorem splitE_eq (e : Ex) : splitE e = if e.f0 = 15 then splitL e.f6 else [e] := by cases e; rw [splitE]
def small (e : Ex) : Prop := ∃ p, meas e = some p ∧ p.1 ≤ 20 ∧ p.2 ≤ 200
theorem small_right {e : Ex} : small e ↔ rightB e = true := by
  rw [right_meas]
  unfold small
  cases meas e with
  | none => simp
  | some p => simp
theorem two_meas {e x y : Ex} {p : Nat × Nat} (h : meas e = some p) (hxy : e.f6 = [x, y]) : ∃ a b, meas x = some a ∧ meas y = some b ∧ p = (max a.1 b.1 + 1, a.2 + b.2 + 1) := by
  rw [meas_eq] at h
  split at h
  · rw [hxy, measL, measL, measL] at h
    cases hx : meas x with
    | none => rw [hx] at h; simp at h
    | some a =>
      cases hy : meas y with
      | none => rw [hx, hy] at h; simp at h
      | some b =>
        rw [hx, hy] at h
        simp only [Option.bind_some, Option.map_some, Option.some.injEq] at h
        refine ⟨a, b, rfl, rfl, ?_⟩
        rw [← h]
        simp
  · cases h
theorem exSplit_right (e : Ex) : expr_Right.f e.f0 e.f1.f0 e.f1.f1 e.f1.f2 e.f2 e.f3 e.f4 e.f5 e.f6 = some (rightB e) := by
  have he : (⟨e.f0, ⟨e.f1.f0, e.f1.f1, e.f1.f2⟩, e.f2, e.f3, e.f4, e.f5, e.f6⟩ : Ex) = e := by cases e; rfl
  unfold expr_Right.f
  rw [he]
theorem split_ev (e : Ex) : ∀ p, meas e = some p → p.1 ≤ 20 → p.2 ≤ 200 → Ev (fun k => expr_Split.f (k) e.f0 e.f1.f0 e.f1.f1 e.f1.f2 e.f2 e.f3 e.f4 e.f5 e.f6) (splitE e) ∧ (splitE e).length ≤ p.2 := by
  induction e using Ex.ind with
  | h e ih =>
    intro p hp h1 h2
    have hr : rightB e = true := small_right.1 ⟨p, hp, h1, h2⟩
    have hee : (⟨e.f0, ⟨e.f1.f0, e.f1.f1, e.f1.f2⟩, e.f2, e.f3, e.f4, e.f5, e.f6⟩ : Ex) = e := by cases e; rfl
    obtain ⟨ho, _⟩ := meas_own hp
    by_cases h15 : e.f0 = 15
    · obtain ⟨x, y, hxy⟩ := own_two ho (by omega) (by omega) (by omega)
      obtain ⟨a, b, ha, hb, rfl⟩ := two_meas hp hxy
      simp only [] at h1 h2
      obtain ⟨ex, lx⟩ := ih x (by rw [hxy]; simp) a ha (by omega) (by omega)
      obtain ⟨ey, ly⟩ := ih y (by rw [hxy]; simp) b hb (by omega) (by omega)
      have hs : splitE e = splitE x ++ splitE y := by
        rw [splitE_eq, if_pos h15, hxy, splitL, splitL, splitL, List.append_nil]
      rw [hs]
      refine ⟨Ev.steps 1 (f := fun k => (expr_Split.f (k) x.f0 x.f1.f0 x.f1.f1 x.f1.f2 x.f2 x.f3 x.f4 x.f5 x.f6).bind fun t => (expr_Split.f (k) y.f0 y.f1.f0 y.f1.f1 y.f1.f2 y.f2 y.f3 y.f4 y.f5 y.f6).bind fun u => if t.length + u.length < 1353245080339 then some (t ++ u) else none) (fun k => ?_) (Ev.bind ex (Ev.bind ey ?_)), by simp; omega⟩
      · rw [expr_Split.f, exSplit_right, hr]
        simp only [Option.bind_some, if_true, if_pos h15]
        rw [hxy]
        rfl
      · simp only [if_pos (show (splitE x).length + (splitE y).length < 1353245080339 by omega)]
        exact Ev.now _
    · have hs : splitE e = [e] := by rw [splitE_eq, if_neg h15]
      rw [hs]
      refine ⟨Ev.const 1 (fun k => ?_), by have := meas_pos hp; simp; omega⟩
      rw [expr_Split.f, exSplit_right, hr]
      simp only [Option.bind_some, if_true, if_neg h15]
      rw [hee]
theorem split_no (e : Ex) (h : ¬ rightB e = true) : Ev (fun k => expr_Split.f (k) e.f0 e.f1.f0 e.f1.f1 e.f1.f2 e.f2 e.f3 e.f4 e.f5 e.f6) [] := by
  refine Ev.const 1 (fun k => ?_)
  rw [expr_Split.f, exSplit_right, Bool.eq_false_iff.mpr h]
  rfl
mutual
theorem Ex.ind11 {P : Ex → Prop} (h : ∀ e : Ex, (∀ x ∈ e.f6, P x) → P e) : (e : Ex) → P e
  | ⟨f0, f1, f2, f3, f4, f5, f6⟩ => h _ (Ex.indL11 h f6)
theorem Ex.indL11 {P : Ex → Prop} (h : ∀ e : Ex, (∀ x ∈ e.f6, P x) → P e) : (l : List Ex) → ∀ x ∈ l, P x
  | [] => fun x hx => by simp at hx
  | y :: ys => fun x hx => by
    have hy := Ex.ind11 h y
    rcases List.mem_cons.1 hx with e | hx
    · rw [e]; exact hy
    · exact Ex.indL11 h ys x hx
end
mutual
/-- The tables of an expression, as bits. -/
def mskE : Ex → Nat
  | ⟨f0, f1, f2, f3, f4, f5, f6⟩ => (if f0 = 2 then 2 ^ f2.toNat else 0) ||| mskL f6
def mskL : List Ex → Nat
  | [] => 0
  | x :: xs => mskE x ||| mskL xs
end
theorem mskE_eq (e : Ex) : mskE e = (if e.f0 = 2 then 2 ^ e.f2.toNat else 0) ||| mskL e.f6 := by cases e; rw [mskE]
theorem wraps62 (n : Int) (h0 : 0 ≤ n) (h1 : n < 2 ^ 62) : IntKind.i64.wrap n = n := by rw [IntKind.wrap_i64]; omega
theorem or62 (a b : Nat) (ha : a < 65536) (hb : b < 65536) : Go.bits .or .i64 (a : Int) (b : Int) = ((a ||| b : Nat) : Int) := (bits_nat .i64 62 (by decide) wraps62 a b (by omega) (by omega)).2
theorem or_lt16 {a b : Nat} (ha : a < 65536) (hb : b < 65536) : a ||| b < 65536 := Nat.or_lt_two_pow (n := 16) ha hb
theorem pow_lt16 {n : Nat} (h : n ≤ 15) : 2 ^ n < 65536 := Nat.pow_lt_pow_right (by decide) (show n < 16 by omega)
theorem mskL_lt (l : List Ex) (h : ∀ x ∈ l, mskE x < 65536) : mskL l < 65536 := by
  induction l with
  | nil => rw [mskL]; decide
  | cons x l ih => rw [mskL]; exact or_lt16 (h x (by simp)) (ih fun y hy => h y (by simp [hy]))
theorem own_bit {e : Ex} (h : Rt e) : (if e.f0 = 2 then 2 ^ e.f2.toNat else 0) < 65536 := by
  split
  · rename_i h2; obtain ⟨a, b, _⟩ := h.rel h2; exact pow_lt16 (by omega)
  · decide
theorem msk_lt (e : Ex) : Rt e → mskE e < 65536 := by
  induction e using Ex.ind11 with
  | h e ih =>
    intro h
    rw [mskE_eq]
    exact or_lt16 (own_bit h) (mskL_lt e.f6 (fun x hx => ih x hx (h.kid hx)))
theorem shl_two {n : Int} (h0 : 0 ≤ n) (h1 : n ≤ 15) : shl .i64 1 n = ((2 ^ n.toNat : Nat) : Int) := by
  obtain ⟨j, hj⟩ : ∃ j, shl .i64 1 n = j := ⟨_, rfl⟩
  have h2 : IntKind.i64.wrap (1 * 2 ^ n.toNat) = j := shl_small hj (by show n ≤ 64; omega)
  rw [hj, ← h2, Int.one_mul]
  have hc : ((2 : Int) ^ n.toNat) = ((2 ^ n.toNat : Nat) : Int) := by simp
  have hp := pow_lt16 (n := n.toNat) (by omega)
  rw [hc]
  generalize 2 ^ n.toNat = q at hp ⊢
  exact wraps62 _ (by omega) (by omega)
theorem tab_one {e : Ex} (h : Rt e) (m : Nat) (hm : m < 65536) : tabStep e (m : Int) = (false, ((m ||| (if e.f0 = 2 then 2 ^ e.f2.toNat else 0) : Nat) : Int)) := by
  unfold tabStep
  by_cases h2 : e.f0 = 2
  · obtain ⟨a, b, _⟩ := h.rel h2
    rw [if_pos h2, if_pos h2, shl_two a b, or62 _ _ hm (pow_lt16 (by omega))]
  · rw [if_neg h2, if_neg h2, Nat.or_zero]
theorem tab_list (l : List Ex) (h : ∀ x ∈ l, Rt x ∧ ∀ m < 65536, someF tabStep x ((m : Nat) : Int) = (false, ((m ||| mskE x : Nat) : Int))) : ∀ m < 65536, someL tabStep l ((m : Nat) : Int) = (false, ((m ||| mskL l : Nat) : Int)) := by
  induction l with
  | nil => intro m _; rw [someL, mskL, Nat.or_zero]
  | cons x l ih =>
    intro m hm
    obtain ⟨hx, hs⟩ := h x (by simp)
    have hs := hs m hm
    rw [someL, hs, if_neg (by simp), ih (fun y hy => h y (by simp [hy])) _ (or_lt16 hm (msk_lt x hx)), mskL, Nat.or_assoc]
theorem tab_some (e : Ex) : Rt e → ∀ m < 65536, someF tabStep e ((m : Nat) : Int) = (false, ((m ||| mskE e : Nat) : Int)) := by
  induction e using Ex.ind11 with
  | h e ih =>
    intro h m hm
    rw [someF_eq, tab_one h m hm, if_neg (by simp), mskE_eq]
    rw [tab_list e.f6 (fun x hx => ⟨h.kid hx, ih x hx (h.kid hx)⟩) _ (or_lt16 hm (own_bit h)), Nat.or_assoc]
theorem tabN_msk {e : Ex} (hr : rightB e = true) : tabN e = (mskE e : Int) := by
  unfold tabN
  have h := tab_some e (Rt.of hr) 0 (by decide)
  rw [if_pos hr, show (0 : Int) = ((0 : Nat) : Int) from rfl, h, Nat.zero_or]
end Go.Proofs.YtkboodfnegedaaaDoor.E
namespace Go.Proofs.YtkboodfnegedaaaDoor.E
open Go.RowKit Go.Proofs.YtkboodfnegedaaaDoorW.PrintWords Go.Proofs.YtkboodfnegedaaaDoorW.PrintLast Go.Proofs.YtkboodfnegedaaaDoorW.PrintMore
mutual
/-- Are all its numbers whole numbers of the machine's? -/
def prN : Ex → Bool
  | ⟨f0, f1, f2, f3, f4, _, f6⟩ => decide ((-9223372036854775808 ≤ f0 ∧ f0 ≤ 9223372036854775807) ∧ (-9223372036854775808 ≤ f1.f1 ∧ f1.f1 ≤ 9223372036854775807) ∧ (-9223372036854775808 ≤ f2 ∧ f2 ≤ 9223372036854775807) ∧ (-9223372036854775808 ≤ f3 ∧ f3 ≤ 9223372036854775807) ∧ (-9223372036854775808 ≤ f4 ∧ f4 ≤ 9223372036854775807)) && prL f6
def prL : List Ex → Bool
  | [] => true
  | x :: xs => prN x && prL xs
end
theorem prN_eq (e : Ex) : prN e = (decide ((-9223372036854775808 ≤ e.f0 ∧ e.f0 ≤ 9223372036854775807) ∧ (-9223372036854775808 ≤ e.f1.f1 ∧ e.f1.f1 ≤ 9223372036854775807) ∧ (-9223372036854775808 ≤ e.f2 ∧ e.f2 ≤ 9223372036854775807) ∧ (-9223372036854775808 ≤ e.f3 ∧ e.f3 ≤ 9223372036854775807) ∧ (-9223372036854775808 ≤ e.f4 ∧ e.f4 ≤ 9223372036854775807)) && prL e.f6) := by cases e; rw [prN]
theorem prL_mem {l : List Ex} (h : prL l = true) {x : Ex} (hx : x ∈ l) : prN x = true := by
  induction l with
  | nil => cases hx
  | cons y l ih =>
    simp only [prL, Bool.and_eq_true] at h
    cases hx with
    | head => exact h.1
    | tail _ hx => exact ih h.2 hx
def prB (e : Ex) : Bool := prN e && decide ((textF e).length ≤ 1099511627776)
def textS (e : Ex) : ByteArray := ⟨(textF e).toArray⟩
theorem dig_some (n : Int) (h0 : -9223372036854775808 ≤ n) (h1 : n ≤ 9223372036854775807) : ∃ d : ByteArray, d.data.toList = Lib.itoa n ∧ d.size ≤ 21 ∧ d.size = (Lib.itoa n).length ∧ ∀ w : World,
    Calls Tryd.prog 89 #[.int .i64 n] w fun e w' => e = .returned (.string d) ∧ Below w.heap.size w w' :=
  ⟨⟨(Lib.itoa n).toArray⟩, ba_mk _, by rw [ba_size]; exact itoa_le n h0 h1, ba_size _, fun w => digits_ok n h0 h1 w⟩
theorem tx_eq {a : ByteArray} {l : List UInt8} (h : a.data.toList = l) : a = ⟨l.toArray⟩ := ba_ext (by rw [h, ba_mk])
theorem ret_str {a b : ByteArray} (h : a = b) : Ending.returned (.string a) = .returned (.string b) := by rw [h]
theorem sz_list (a : ByteArray) : a.size = a.data.toList.length := by rw [Array.length_toList]; rfl
theorem textL_len (l : List Ex) : l.length ≤ (textL l).length := by
  induction l with
  | nil => simp [textL]
  | cons x l ih => simp only [textL, List.length_cons, List.length_append]; omega
def PrintOk (e : Ex) : Prop := ∀ (A : Option Addr) (c : Nat) (w : World), prN e = true → (textF e).length ≤ 1099511627776 → e.f6.length ≤ c → Kd.C k26 w A e.f6.length e.f6 →
  Calls Tryd.prog 55 #[.agg (exC e A c)] w fun r w' => r = .returned (.string (textS e)) ∧ Below w.heap.size w w'
set_option maxHeartbeats 4000000 in
set_option maxRecDepth 100000 in
theorem print_step (e : Ex) (ih : ∀ x ∈ e.f6, PrintOk x) : PrintOk e := by
  intro A c w hN hlen hc hC
  have IH := Lib.hid ih; have HC := Lib.hid hC; have HN := Lib.hid hN; have HLEN := Lib.hid hlen
  obtain ⟨⟨n01, n02⟩, ⟨n11, n12⟩, ⟨n21, n22⟩, ⟨n31, n32⟩, n41, n42⟩ : (-9223372036854775808 ≤ e.f0 ∧ e.f0 ≤ 9223372036854775807) ∧ (-9223372036854775808 ≤ e.f1.f1 ∧ e.f1.f1 ≤ 9223372036854775807) ∧ (-9223372036854775808 ≤ e.f2 ∧ e.f2 ≤ 9223372036854775807) ∧ (-9223372036854775808 ≤ e.f3 ∧ e.f3 ≤ 9223372036854775807) ∧ (-9223372036854775808 ≤ e.f4 ∧ e.f4 ≤ 9223372036854775807) := by
    rw [prN_eq, Bool.and_eq_true] at hN; exact of_decide_eq_true hN.1
  clear ih hC hN hlen
  obtain ⟨tx, htx⟩ : ∃ tx, textF e = tx := ⟨_, rfl⟩
  have HTS : Hid (textS e = ⟨tx.toArray⟩) := by show _ = _; rw [textS, htx]
  have HLX : Hid (tx.length ≤ 1099511627776) := by rw [← htx]; exact HLEN
  rw [textF_eq] at htx
  have HTX := Lib.hid htx; clear htx
  unfold exC
  go_enter Tryd.func55, Tryd.ntmps55
  go_upto_region 1 with (first | ((with_reducible refine gate_dst (N := 1) rfl ?_); refine box_event rfl (N := 1) rfl (cs := exC e A c) (t := 26) (by first | rfl | (go_simp; done) | (go_simp; rfl)) ?_; intro g hgg w1 hbg hBg;  clear hgg))
  obtain ⟨hz0, hz1, hz2, hz3, hz4, hz5, hz6, hz7, hz8⟩ := bkC9 hbg
  have BG := Lib.hid hbg; have HB := Lib.hid hBg
  clear hbg hBg
  by_cases h1 : e.f0 = 1
  · have HTX2 := Lib.hid (HTX.out.symm.trans (if_pos h1))
    replace h1 : (e.f0 == 1) = true := beq_iff_eq.mpr h1
    by_cases k0 : e.f1.f0 = 0
    · have HTX3 : Hid (tx = [78]) := HTX2.out.trans (if_pos k0)
      replace k0 : (e.f1.f0 == 0) = true := beq_iff_eq.mpr k0
      go_wp2_with fail
      go_ret
      exact ⟨ret_str (by rw [HTS.out, HTX3.out]), HB.out⟩
    · have HTX3 := Lib.hid (HTX2.out.trans (if_neg k0))
      replace k0 : (e.f1.f0 == 0) = false := beq_eq_false_iff_ne.mpr k0
      by_cases k1 : e.f1.f0 = 1
      · have HTX4 : Hid (tx = 73 :: Lib.itoa e.f1.f1) := HTX3.out.trans (if_pos k1)
        replace k1 : (e.f1.f0 == 1) = true := beq_iff_eq.mpr k1
        obtain ⟨d, hd, hs, hs2, hcall⟩ := dig_some e.f1.f1 n11 n12
        have HD := Lib.hid hd; have HCALL := Lib.hid hcall; clear hd hcall hs2
        have hz : ¬ 9223372036854775807 < 1 + d.size := by omega
        go_wp2_with (go_at_call 89; refine (HCALL.out _).mono ?_; rintro r w2 ⟨rfl, hB2⟩)
        go_ret
        exact ⟨ret_str (by rw [HTS.out, HTX4.out]; exact tx_eq (by rw [Joins.data_append, HD.out]; rfl)), HB.out.trans (hB2.mono HB.out.size)⟩
      · have K1 := Lib.hid k1
        by_cases k2 : e.f1.f0 = 2
        · have HTX4 : Hid (tx = 66 :: Lib.itoa e.f1.f1) := HTX3.out.trans ((if_neg k1).trans (if_pos k2))
          replace k1 : (e.f1.f0 == 1) = false := beq_eq_false_iff_ne.mpr k1
          replace k2 : (e.f1.f0 == 2) = true := beq_iff_eq.mpr k2
          obtain ⟨d, hd, hs, hs2, hcall⟩ := dig_some e.f1.f1 n11 n12
          have HD := Lib.hid hd; have HCALL := Lib.hid hcall; clear hd hcall hs2
          have hz : ¬ 9223372036854775807 < 1 + d.size := by omega
          go_wp2_with (go_at_call 89; refine (HCALL.out _).mono ?_; rintro r w2 ⟨rfl, hB2⟩)
          go_ret
          exact ⟨ret_str (by rw [HTS.out, HTX4.out]; exact tx_eq (by rw [Joins.data_append, HD.out]; rfl)), HB.out.trans (hB2.mono HB.out.size)⟩
        · have HTX4 : Hid (tx = 84 :: (Lib.itoa e.f1.f2.size ++ 58 :: e.f1.f2.data.toList)) := HTX3.out.trans ((if_neg k1).trans (if_neg k2))
          replace k1 : (e.f1.f0 == 1) = false := beq_eq_false_iff_ne.mpr k1
          replace k2 : (e.f1.f0 == 2) = false := beq_eq_false_iff_ne.mpr k2
          have hsz : e.f1.f2.size ≤ 1099511627776 := by
            have h := HLX.out; rw [HTX4.out] at h; rw [sz_list]; simp only [List.length_cons, List.length_append] at h; omega
          obtain ⟨d, hd, hs, hs2, hcall⟩ := dig_some e.f1.f2.size (by omega) (by omega)
          have HD := Lib.hid hd; have HCALL := Lib.hid hcall; clear hd hcall hs2
          have hz : ¬ 9223372036854775807 < 1 + d.size := by omega
          have hz2 : ¬ 9223372036854775807 < 1 + d.size + 1 := by omega
          have hz3 : ¬ 9223372036854775807 < 1 + d.size + 1 + e.f1.f2.size := by omega
          go_upto_region 10 with fail
          go_region_held3 (fun w' => w'.cell? ⟨g, 3, none⟩ = some (.string e.f1.f2)) (go_keep) (first | (go_at_call 89; refine (HCALL.out _).mono ?_; rintro r w2 ⟨rfl, hB2⟩; have hz3' : w2.cell? ⟨g, 3, none⟩ = some (.string e.f1.f2) := (bkC ((hB2.block g (blk_lt BG.out)).trans BG.out) 3).trans rfl))
          go_wp2_with fail
          go_ret
          exact ⟨ret_str (by rw [HTS.out, HTX4.out]; exact tx_eq (by rw [Joins.data_append, Joins.data_append, Joins.data_append, HD.out]; simp)), HB.out.trans ((⟨hB2.os, hB2.tape, hB2.output, hB2.size, hB2.block⟩ : Below w1.heap.size w1 w2).mono HB.out.size)⟩
  · have HTX2 := Lib.hid (HTX.out.symm.trans (if_neg h1))
    replace h1 : (e.f0 == 1) = false := beq_eq_false_iff_ne.mpr h1
    by_cases h2 : e.f0 = 2
    · have HTX3 : Hid (tx = 82 :: (Lib.itoa e.f2 ++ 46 :: Lib.itoa e.f3)) := HTX2.out.trans (if_pos h2)
      replace h2 : (e.f0 == 2) = true := beq_iff_eq.mpr h2
      obtain ⟨d, hd, hs, hs2, hcall⟩ := dig_some e.f2 n21 n22
      have HD := Lib.hid hd; have HCALL := Lib.hid hcall; clear hd hcall hs2
      obtain ⟨d2, hd, ht, hs2, hcall⟩ := dig_some e.f3 n31 n32
      have HD2 := Lib.hid hd; have HCALL2 := Lib.hid hcall; clear hd hcall hs2
      have hz : ¬ 9223372036854775807 < 1 + d.size := by omega
      have hz2' : ¬ 9223372036854775807 < 1 + d.size + 1 := by omega
      have hz3' : ¬ 9223372036854775807 < 1 + d.size + 1 + d2.size := by omega
      go_upto_region 12 with fail
      go_region_held3 (fun w' => w'.cell? ⟨g, 4, none⟩ = some (.int .i64 e.f2) ∧ w'.cell? ⟨g, 5, none⟩ = some (.int .i64 e.f3)) (go_keep) (first | (go_at_call 89; (with_reducible refine (HCALL.out _).mono ?_); rintro r w2 ⟨rfl, hB2⟩; have BG2 := Lib.hid ((hB2.block g (blk_lt BG.out)).trans BG.out); have hy4 : w2.cell? ⟨g, 4, none⟩ = some (.int .i64 e.f2) := (bkC BG2.out 4).trans rfl; have hy5 : w2.cell? ⟨g, 5, none⟩ = some (.int .i64 e.f3) := (bkC BG2.out 5).trans rfl) | (go_at_call 89; (with_reducible refine (HCALL2.out _).mono ?_); rintro r w3 ⟨rfl, hB3⟩; have BG3 := Lib.hid ((hB3.block g (blk_lt BG2.out)).trans BG2.out); have hx4 : w3.cell? ⟨g, 4, none⟩ = some (.int .i64 e.f2) := (bkC BG3.out 4).trans rfl; have hx5 : w3.cell? ⟨g, 5, none⟩ = some (.int .i64 e.f3) := (bkC BG3.out 5).trans rfl))
      go_wp2_with fail
      go_ret
      exact ⟨ret_str (by rw [HTS.out, HTX3.out]; exact tx_eq (by rw [Joins.data_append, Joins.data_append, Joins.data_append, HD.out, HD2.out]; simp)), HB.out.trans (((⟨hB2.os, hB2.tape, hB2.output, hB2.size, hB2.block⟩ : Below w1.heap.size w1 w2).trans (hB3.mono hB2.size)).mono HB.out.size)⟩
    · have HTX3 := Lib.hid (HTX2.out.trans (if_neg h2))
      replace h2 : (e.f0 == 2) = false := beq_eq_false_iff_ne.mpr h2
      by_cases h3 : e.f0 = 3
      · have HTX4 : Hid (tx = 80 :: Lib.itoa e.f4) := HTX3.out.trans (if_pos h3)
        replace h3 : (e.f0 == 3) = true := beq_iff_eq.mpr h3
        obtain ⟨d, hd, hs, hs2, hcall⟩ := dig_some e.f4 n41 n42
        have HD := Lib.hid hd; have HCALL := Lib.hid hcall; clear hd hcall hs2
        have hz : ¬ 9223372036854775807 < 1 + d.size := by omega
        go_wp2_with (go_at_call 89; refine (HCALL.out _).mono ?_; rintro r w2 ⟨rfl, hB2⟩)
        go_ret
        exact ⟨ret_str (by rw [HTS.out, HTX4.out]; exact tx_eq (by rw [Joins.data_append, HD.out]; rfl)), HB.out.trans (hB2.mono HB.out.size)⟩
      · have HTX4 : Hid (tx = 40 :: (Lib.itoa e.f0 ++ (textL e.f6 ++ [41]))) := HTX3.out.trans (if_neg h3)
        replace h3 : (e.f0 == 3) = false := beq_eq_false_iff_ne.mpr h3
        obtain ⟨d, hd, hs, hs2, hcall⟩ := dig_some e.f0 n01 n02
        have HD := Lib.hid hd; have HCALL := Lib.hid hcall; clear hd hcall
        have HS2 := Lib.hid hs2; clear hs2
        have hz : ¬ 9223372036854775807 < 1 + d.size := by omega
        go_upto_region 16 with (go_at_call 89; refine (HCALL.out _).mono ?_; rintro r w2 ⟨rfl, hB2⟩)
        have BG2 := Lib.hid ((hB2.block g (blk_lt BG.out)).trans BG.out)
        have HB2 := Lib.hid (HB.out.trans (hB2.mono HB.out.size))
        clear hz0 hz1 hz2 hz3 hz4 hz5 hz6 hz7 hz8 hB2
        obtain ⟨hz0, hz1, hz2, hz3, hz4, hz5, hz6, hz7, hz8⟩ := bkC9 BG2.out
        obtain ⟨n, hn⟩ : ∃ n, e.f6.length = n := ⟨_, rfl⟩
        have HNN := Lib.hid hn
        have HLT : Hid ((textL e.f6).length ≤ 1099511627776) := by
          have h := HLX.out; rw [HTX4.out] at h; show _ ≤ _; simp only [List.length_cons, List.length_append] at h; omega
        have hn2 : n ≤ 1099511627776 := by rw [← hn]; exact Nat.le_trans (textL_len _) HLT.out
        simp only [hn]
        go_wp2_with fail
        go_loopw [3, 4] (fun v3 v4 wr => ∃ (k : Nat) (o : ByteArray), k ≤ n ∧ v3 = .string o ∧ v4 = .int .i64 k ∧ Hid (o.data.toList = 40 :: (Lib.itoa e.f0 ++ textL (e.f6.take k)) ∧ Below w2.heap.size w2 wr)) (fun _ i _ => n - (intOf i).toNat)
        case atStart => exact ⟨0, _, Nat.zero_le _, rfl, rfl, Lib.hid ⟨by rw [Joins.data_append, HD.out]; simp [textL], Below.refl _ _⟩⟩
        case round =>
          obtain ⟨k, o, hk, rfl, rfl, HK⟩ := hrel
          clear hz0 hz1 hz2 hz3 hz4 hz5 hz6 hz7 hz8
          have BGr := Lib.hid ((HK.out.2.block g (blk_lt BG2.out)).trans BG2.out)
          obtain ⟨hz0, hz1, hz2, hz3, hz4, hz5, hz6, hz7, hz8⟩ := bkC9 BGr.out
          have ho : o.size ≤ 2199023255600 := by
            have h2 := HK.out.1
            have h3 := textL_le e.f6 k
            have h4 := HLT.out
            rw [sz_list, h2]
            have h5 := HS2.out
            simp only [List.length_cons, List.length_append]
            omega
          by_cases hlt : k < n
          · have hlt' : (k : Int) < n := by omega
            rw [hn] at HC
            obtain ⟨ad, A8, c8, x, rfl, HE, h0, h1, h2, h3, h4, h5, h6, h7, h8, hc8, hC8⟩ := at_ex (Kd.C_below HC.out HB2.out) hn k hlt
            replace HE := Lib.hid HE
            have HC8 := Lib.hid hC8; clear hC8
            replace h0 := pw_cell_below HK.out.2 h0; replace h1 := pw_cell_below HK.out.2 h1; replace h2 := pw_cell_below HK.out.2 h2; replace h3 := pw_cell_below HK.out.2 h3; replace h4 := pw_cell_below HK.out.2 h4; replace h5 := pw_cell_below HK.out.2 h5; replace h6 := pw_cell_below HK.out.2 h6; replace h7 := pw_cell_below HK.out.2 h7; replace h8 := pw_cell_below HK.out.2 h8
            have hi : k < e.f6.length := by omega
            have hxi : e.f6[k] = x := by have h := HE.out; rw [List.getElem?_eq_some_iff] at h; exact h.2
            have hx : x ∈ e.f6 := hxi ▸ List.getElem_mem hi
            have HTK : Hid (textL (e.f6.take (k + 1)) = textL (e.f6.take k) ++ 32 :: textF x) := by
              show _ = _
              rw [List.take_succ_eq_append_getElem hi, textL_snoc, hxi]
            have hlx : (textF x).length ≤ 1099511627776 := by
              have h1 := textL_le e.f6 (k + 1)
              rw [HTK.out] at h1
              have h2 := HLT.out
              simp only [List.length_append, List.length_cons] at h1
              omega
            have hnx : prN x = true := by
              have h := HN.out
              rw [prN_eq, Bool.and_eq_true] at h
              exact prL_mem h.2 hx
            have HCALL3 := Lib.hid (IH.out x hx A8 c8 wr hnx hlx hc8 (Kd.C_below HC8.out HK.out.2))
            unfold exC at HCALL3
            obtain ⟨s, hs'⟩ : ∃ s, textS x = s := ⟨_, rfl⟩
            have HSX : Hid (s.data.toList = textF x) := by rw [← hs']; exact Lib.hid (ba_mk _)
            have hss : s.size ≤ 1099511627776 := by rw [sz_list, HSX.out]; exact hlx
            rw [hs'] at HCALL3
            clear hx hxi hi HE hnx hlx hs'
            have hy : ¬ 9223372036854775807 < o.size + 1 := by omega
            have hy2 : ¬ 9223372036854775807 < o.size + 1 + s.size := by omega
            go_wp2_with (go_at_call 55; refine HCALL3.out.mono ?_; rintro r w6 ⟨rfl, hB6⟩)
            go_roundw
            case rel => exact ⟨k + 1, _, by omega, rfl, by go_num, Lib.hid ⟨by rw [Joins.data_append, Joins.data_append, HK.out.1, HSX.out, HTK.out]; simp, HK.out.2.trans (hB6.mono HK.out.2.size)⟩⟩
            case measure => simp [intOf]; omega
          · have hlt' : ¬ (k : Int) < n := by omega
            obtain rfl : n = k := by omega
            have hy : ¬ 9223372036854775807 < o.size + 1 := by omega
            go_wp2_with fail
            go_ret
            exact ⟨ret_str (by rw [HTS.out, HTX4.out]; exact tx_eq (by rw [Joins.data_append, HK.out.1, ← HNN.out, List.take_length]; simp)), HB2.out.trans (HK.out.2.mono HB2.out.size)⟩
theorem print_ok : ∀ (N : Nat) (e : Ex), SizeOf.sizeOf e < N → PrintOk e := by
  intro N
  induction N with
  | zero => intro e h; omega
  | succ N ih =>
    intro e h
    refine print_step e fun x hx => ih x ?_
    have h1 := List.sizeOf_lt_of_mem hx
    have h2 : SizeOf.sizeOf e.f6 < SizeOf.sizeOf e := by cases e; simp; omega
    omega
def q08_Print.f (a0_0 : Int) (a0_1 : Int) (a0_2 : Int) (a0_3 : ByteArray) (a0_4 : Int) (a0_5 : Int) (a0_6 : Int) (a0_7 : ByteArray) (l0_8 : List Ex) : Option ByteArray := if prB ⟨a0_0, ⟨a0_1, a0_2, a0_3⟩, a0_4, a0_5, a0_6, a0_7, l0_8⟩ = true then some (textS ⟨a0_0, ⟨a0_1, a0_2, a0_3⟩, a0_4, a0_5, a0_6, a0_7, l0_8⟩) else none
theorem q08_Print.calls (a0_0 : Int) (a0_1 : Int) (a0_2 : Int) (a0_3 : ByteArray) (a0_4 : Int) (a0_5 : Int) (a0_6 : Int) (a0_7 : ByteArray) (A0_8 : Option Addr) (c0_8 : Nat) (l0_8 : List Ex) (r : ByteArray) (w : World) (hr0_8 : Kd.C k26 w A0_8 l0_8.length l0_8) (hc0_8 : l0_8.length ≤ c0_8) (h : q08_Print.f a0_0 a0_1 a0_2 a0_3 a0_4 a0_5 a0_6 a0_7 l0_8 = some r) :
    Calls Tryd.prog 55 #[.agg #[.int .i64 a0_0, .int .i64 a0_1, .int .i64 a0_2, .string a0_3, .int .i64 a0_4, .int .i64 a0_5, .int .i64 a0_6, .string a0_7, .slice A0_8 l0_8.length c0_8]] w fun e w' => e = .returned (.string r) ∧ Below w.heap.size w w' := by
  unfold q08_Print.f at h
  by_cases hr : prB ⟨a0_0, ⟨a0_1, a0_2, a0_3⟩, a0_4, a0_5, a0_6, a0_7, l0_8⟩ = true
  · rw [if_pos hr] at h
    obtain rfl := Option.some.inj h
    unfold prB at hr
    rw [Bool.and_eq_true, decide_eq_true_eq] at hr
    exact print_ok _ ⟨a0_0, ⟨a0_1, a0_2, a0_3⟩, a0_4, a0_5, a0_6, a0_7, l0_8⟩ (Nat.lt_succ_self _) A0_8 c0_8 w hr.1 hr.2 hc0_8 hr0_8
  · rw [if_neg hr] at h
    cases h
end Go.Proofs.YtkboodfnegedaaaDoor.E
namespace Go.Proofs.YtkboodfnegedaaaDoor.E
set_option linter.unusedSimpArgs false
set_option linter.unusedVariables false
open Go.RowKit Go.Proofs.YtkboodfnegedaaaDoorW.PrintWords Go.Proofs.YtkboodfnegedaaaDoorW.PrintLast Go.Proofs.YtkboodfnegedaaaDoorW.PrintMore
def sameB (a b : Ex) : Bool := rightB a && (rightB b && ((textRes a).1.toList == (textRes b).1.toList))
theorem text_f (a : Ex) (h : rngF a = true) : expr_Text.f a.f0 a.f1.f0 a.f1.f1 a.f1.f2 a.f2 a.f3 a.f4 a.f5 a.f6 = some (textRes a) := by
  have he : (⟨a.f0, ⟨a.f1.f0, a.f1.f1, a.f1.f2⟩, a.f2, a.f3, a.f4, a.f5, a.f6⟩ : Ex) = a := by cases a; rfl
  unfold expr_Text.f
  rw [he, if_pos h]
theorem text_err (a : Ex) : (textRes a).2 = if rightB a = true then 0 else 1 := by
  unfold textRes; split <;> rfl
theorem same_f (a b : Ex) (ha : rngF a = true) (hb : rngF b = true) : expr_Same.f a.f0 a.f1.f0 a.f1.f1 a.f1.f2 a.f2 a.f3 a.f4 a.f5 a.f6 b.f0 b.f1.f0 b.f1.f1 b.f1.f2 b.f2 b.f3 b.f4 b.f5 b.f6 = some (sameB a b) := by
  unfold expr_Same.f
  rw [text_f a ha, text_f b hb]
  simp only [Option.bind_some]
  rw [text_err a, text_err b]
  unfold sameB
  by_cases h1 : rightB a = true
  · by_cases h2 : rightB b = true
    · simp [h1, h2]
    · simp [h1, h2]
  · simp [h1]
end Go.Proofs.YtkboodfnegedaaaDoor.E
namespace Go.Proofs.YtkboodfnegedaaaDoor.E
open Go.RowKit Go.Proofs.YtkboodfnegedaaaDoorW.PrintWords Go.Proofs.YtkboodfnegedaaaDoorW.PrintLast Go.Proofs.YtkboodfnegedaaaDoorW.PrintMore
attribute [local go_sem] max2_int min2_int max_two min_two max_three min_three max_four min_four   -- for this text's walks alone
set_option linter.unusedVariables false
set_option linter.unusedSimpArgs false
def q08_Text.f (k : Nat) (a0_0 : Int) (a0_1 : Int) (a0_2 : Int) (a0_3 : ByteArray) (a0_4 : Int) (a0_5 : Int) (a0_6 : Int) (a0_7 : ByteArray) (l0_8 : List (S26)) : Option (ByteArray × Bool) := (q08_Right.f k a0_0 a0_1 a0_2 a0_3 a0_4 a0_5 a0_6 a0_7 l0_8).bind fun t374 => (if t374 = true then ((q08_Print.f a0_0 a0_1 a0_2 a0_3 a0_4 a0_5 a0_6 a0_7 l0_8).bind fun t375 => (some (t375, true))) else (some ((⟨#[]⟩ : ByteArray), false)))
set_option maxHeartbeats 8000000 in
set_option maxRecDepth 100000 in
theorem q08_Text.calls (k : Nat) (a0_0 : Int) (a0_1 : Int) (a0_2 : Int) (a0_3 : ByteArray) (a0_4 : Int) (a0_5 : Int) (a0_6 : Int) (a0_7 : ByteArray) (A0_8 : Option Addr) (c0_8 : Nat) (l0_8 : List (S26)) (r1 : ByteArray) (r2 : Bool) (w : World) (hr0_8 : Kd.C k26 w A0_8 l0_8.length l0_8) (hc0_8 : l0_8.length ≤ c0_8) (h : q08_Text.f k a0_0 a0_1 a0_2 a0_3 a0_4 a0_5 a0_6 a0_7 l0_8 = some (r1, r2)) :
  Calls Tryd.prog 27 #[.agg #[.int .i64 a0_0, .int .i64 a0_1, .int .i64 a0_2, .string a0_3, .int .i64 a0_4, .int .i64 a0_5, .int .i64 a0_6, .string a0_7, .slice A0_8 l0_8.length c0_8]] w fun e w' => e = .returned (.tuple #[.string r1, .bool r2]) ∧ Below w.heap.size w w' := by
 have hu26 := Tryd.underlying26
 have HR0_8 := Asd.mk hr0_8
 have HC0_8 := Asd.mk hc0_8
 clear hr0_8 hc0_8
 have HB := Asd.mk (Below.refl w.heap.size w)
 have H : ((q08_Right.f k a0_0 a0_1 a0_2 a0_3 a0_4 a0_5 a0_6 a0_7 l0_8).bind fun t374 => (if t374 = true then ((q08_Print.f a0_0 a0_1 a0_2 a0_3 a0_4 a0_5 a0_6 a0_7 l0_8).bind fun t375 => (some (t375, true))) else (some ((⟨#[]⟩ : ByteArray), false)))) = some (r1, r2) := h
 clear h
 replace H := Option.bind_eq_some_iff.mp H
 obtain ⟨t374, A20, H⟩ := H
 replace H : (if t374 = true then ((q08_Print.f a0_0 a0_1 a0_2 a0_3 a0_4 a0_5 a0_6 a0_7 l0_8).bind fun t375 => (some (t375, true))) else (some ((⟨#[]⟩ : ByteArray), false))) = some (r1, r2) := H
 have A2 := Asd.mk A20
 clear A20
 by_cases c3 : t374 = true
 ·subst c3
  have H1 : ((q08_Print.f a0_0 a0_1 a0_2 a0_3 a0_4 a0_5 a0_6 a0_7 l0_8).bind fun t375 => (some (t375, true))) = some (r1, r2) := by rw [if_pos rfl] at H; exact H
  clear H
  have H := H1
  clear H1
  replace H := Option.bind_eq_some_iff.mp H
  obtain ⟨t375, A40, H⟩ := H
  replace H : (some (t375, true)) = some (r1, r2) := H
  have A4 := Asd.mk A40
  clear A40
  simp only [Option.some.injEq, Prod.mk.injEq] at H
  obtain ⟨rfl, rfl⟩ := H
  go_enter Tryd.func27, Tryd.ntmps27
  go_wp2_with (first | ((with_reducible refine gate_dst (N := 1) rfl ?_); refine box_event rfl (N := 1) rfl (cs := #[.int .i64 a0_0, .int .i64 a0_1, .int .i64 a0_2, .string a0_3, .int .i64 a0_4, .int .i64 a0_5, .int .i64 a0_6, .string a0_7, .slice A0_8 l0_8.length c0_8]) (t := 26) (by first | (go_simp; done) | (go_simp; rfl)) ?_; intro gb373 hg w5 hbox hb; have BK373 := Asd.mk (hbox); have GW373 := Asd.mk (bZ hg HB.out); have GE373 := GW373; replace HB := Asd.mk (bS hb HB.out); clear hb hbox hg; obtain ⟨hcz6_0, hcz6_1, hcz6_2, hcz6_3, hcz6_4, hcz6_5, hcz6_6, hcz6_7, hcz6_8⟩ := bkC9 BK373.out; obtain ⟨hfz6_0, hfz6_1, hfz6_2, hfz6_3, hfz6_4, hfz6_5, hfz6_6, hfz6_7, hfz6_8⟩ := bkF9 BK373.out) | ((with_reducible refine gate_callee (f := 30) rfl ?_); refine goesL_ (some 6) rfl rfl Tryd.func30 (by kernel_rfl) rfl #[.agg #[.int .i64 a0_0, .int .i64 a0_1, .int .i64 a0_2, .string a0_3, .int .i64 a0_4, .int .i64 a0_5, .int .i64 a0_6, .string a0_7, .slice A0_8 l0_8.length c0_8]] rfl (by (try simp only [List.map_toArray, List.map_cons, List.map_nil]); first | done | rfl | (simp only [List.length_drop, List.length_take]; rfl)) ?_; (with_reducible refine (q08_Right.calls k a0_0 a0_1 a0_2 a0_3 a0_4 a0_5 a0_6 a0_7 _ _ l0_8 true _ ?side1 ?side2 A2.out).mono ?_); (case side1 => repeat (first | exact (Kd.C_below HR0_8.out HB.out) | (with_reducible refine Kd.C_alloc ?_ _) | (with_reducible refine Kd.C_drewN ?_ _) | (with_reducible refine Kd.C_drew ?_))); (case side2 => exact HC0_8.out); rintro e w7 ⟨rfl, hb⟩; refine ⟨_, rfl, ?_⟩; replace BK373 := Asd.mk (bB hb BK373.out); replace HB := Asd.mk (bS hb HB.out); clear hb; obtain ⟨hcz8_0, hcz8_1, hcz8_2, hcz8_3, hcz8_4, hcz8_5, hcz8_6, hcz8_7, hcz8_8⟩ := bkC9 BK373.out; obtain ⟨hfz8_0, hfz8_1, hfz8_2, hfz8_3, hfz8_4, hfz8_5, hfz8_6, hfz8_7, hfz8_8⟩ := bkF9 BK373.out) | ((with_reducible refine gate_callee (f := 55) rfl ?_); refine goesL_ (some 10) rfl rfl Tryd.func55 (by kernel_rfl) rfl #[.agg #[.int .i64 a0_0, .int .i64 a0_1, .int .i64 a0_2, .string a0_3, .int .i64 a0_4, .int .i64 a0_5, .int .i64 a0_6, .string a0_7, .slice A0_8 l0_8.length c0_8]] rfl (by (try simp only [List.map_toArray, List.map_cons, List.map_nil]); first | done | rfl | (simp only [List.length_drop, List.length_take]; rfl)) ?_; (with_reducible refine (q08_Print.calls a0_0 a0_1 a0_2 a0_3 a0_4 a0_5 a0_6 a0_7 _ _ l0_8 t375 _ ?side1 ?side2 A4.out).mono ?_); (case side1 => repeat (first | exact (Kd.C_below HR0_8.out HB.out) | (with_reducible refine Kd.C_alloc ?_ _) | (with_reducible refine Kd.C_drewN ?_ _) | (with_reducible refine Kd.C_drew ?_))); (case side2 => exact HC0_8.out); rintro e w9 ⟨rfl, hb⟩; refine ⟨_, rfl, ?_⟩; replace BK373 := Asd.mk (bB hb BK373.out); replace HB := Asd.mk (bS hb HB.out); clear hb))
  go_ret2
  exact ⟨by first | rfl | (simp [errW_none, errW_some] <;> rfl) | (simp [*, errW_none, errW_some] <;> rfl), by repeat (first | (with_reducible first | exact HB.out | apply blA | apply pbN | apply blD | refine blS ?_ GE373.out) | exact HB.out)⟩
 ·replace c3 := Bool.eq_false_iff.mpr c3
  subst c3
  have H1 : (some ((⟨#[]⟩ : ByteArray), false)) = some (r1, r2) := by rw [if_neg (show ¬ (false = true) by decide)] at H; exact H
  clear H
  have H := H1
  clear H1
  simp only [Option.some.injEq, Prod.mk.injEq] at H
  obtain ⟨rfl, rfl⟩ := H
  go_enter Tryd.func27, Tryd.ntmps27
  go_wp2_with (first | ((with_reducible refine gate_dst (N := 1) rfl ?_); refine box_event rfl (N := 1) rfl (cs := #[.int .i64 a0_0, .int .i64 a0_1, .int .i64 a0_2, .string a0_3, .int .i64 a0_4, .int .i64 a0_5, .int .i64 a0_6, .string a0_7, .slice A0_8 l0_8.length c0_8]) (t := 26) (by first | (go_simp; done) | (go_simp; rfl)) ?_; intro gb373 hg w10 hbox hb; have BK373 := Asd.mk (hbox); have GW373 := Asd.mk (bZ hg HB.out); have GE373 := GW373; replace HB := Asd.mk (bS hb HB.out); clear hb hbox hg; obtain ⟨hcz11_0, hcz11_1, hcz11_2, hcz11_3, hcz11_4, hcz11_5, hcz11_6, hcz11_7, hcz11_8⟩ := bkC9 BK373.out; obtain ⟨hfz11_0, hfz11_1, hfz11_2, hfz11_3, hfz11_4, hfz11_5, hfz11_6, hfz11_7, hfz11_8⟩ := bkF9 BK373.out) | ((with_reducible refine gate_callee (f := 30) rfl ?_); refine goesL_ (some 6) rfl rfl Tryd.func30 (by kernel_rfl) rfl #[.agg #[.int .i64 a0_0, .int .i64 a0_1, .int .i64 a0_2, .string a0_3, .int .i64 a0_4, .int .i64 a0_5, .int .i64 a0_6, .string a0_7, .slice A0_8 l0_8.length c0_8]] rfl (by (try simp only [List.map_toArray, List.map_cons, List.map_nil]); first | done | rfl | (simp only [List.length_drop, List.length_take]; rfl)) ?_; (with_reducible refine (q08_Right.calls k a0_0 a0_1 a0_2 a0_3 a0_4 a0_5 a0_6 a0_7 _ _ l0_8 false _ ?side1 ?side2 A2.out).mono ?_); (case side1 => repeat (first | exact (Kd.C_below HR0_8.out HB.out) | (with_reducible refine Kd.C_alloc ?_ _) | (with_reducible refine Kd.C_drewN ?_ _) | (with_reducible refine Kd.C_drew ?_))); (case side2 => exact HC0_8.out); rintro e w12 ⟨rfl, hb⟩; refine ⟨_, rfl, ?_⟩; replace BK373 := Asd.mk (bB hb BK373.out); replace HB := Asd.mk (bS hb HB.out); clear hb))
  go_ret2
  exact ⟨by first | rfl | (simp [errW_none, errW_some] <;> rfl) | (simp [*, errW_none, errW_some] <;> rfl), by repeat (first | (with_reducible first | exact HB.out | apply blA | apply pbN | apply blD | refine blS ?_ GE373.out) | exact HB.out)⟩
def w08_exprs.l0 : Nat → List (S26) → List (S26) → Int → Option (Bool)
 | 0, _, _, _ => none
 | k + 1, x0, x1, x5 => if x5 < (x0.length : Int) then (if 0 ≤ x5 then ((q08_Print.f ((rd_T26 x0 x5).f0) ((rd_T26 x0 x5).f1.f0) ((rd_T26 x0 x5).f1.f1) ((rd_T26 x0 x5).f1.f2) ((rd_T26 x0 x5).f2) ((rd_T26 x0 x5).f3) ((rd_T26 x0 x5).f4) ((rd_T26 x0 x5).f5) ((rd_T26 x0 x5).f6)).bind fun t397 => (if x5 < (x1.length : Int) then ((q08_Print.f ((rd_T26 x1 x5).f0) ((rd_T26 x1 x5).f1.f0) ((rd_T26 x1 x5).f1.f1) ((rd_T26 x1 x5).f1.f2) ((rd_T26 x1 x5).f2) ((rd_T26 x1 x5).f3) ((rd_T26 x1 x5).f4) ((rd_T26 x1 x5).f5) ((rd_T26 x1 x5).f6)).bind fun t399 => (if t397.toList = t399.toList then (w08_exprs.l0 k x0 x1 (wrap64 (x5 + 1))) else (some false))) else (none))) else (none)) else (some true)
def w08_exprs.f (k : Nat) (l0 : List (S26)) (l1 : List (S26)) : Option (Bool) := if (l0.length : Int) = (l1.length : Int) then (w08_exprs.l0 k l0 l1 0) else (some false)
set_option maxHeartbeats 8000000 in
set_option maxRecDepth 100000 in
theorem w08_exprs.calls (k : Nat) (A0 : Option Addr) (c0 : Nat) (l0 : List (S26)) (A1 : Option Addr) (c1 : Nat) (l1 : List (S26)) (r : Bool) (w : World) (hr0 : Kd.C k26 w A0 l0.length l0) (hc0 : l0.length ≤ c0) (hr1 : Kd.C k26 w A1 l1.length l1) (hc1 : l1.length ≤ c1) (h : w08_exprs.f k l0 l1 = some r) :
  Calls Tryd.prog 29 #[.slice A0 l0.length c0, .slice A1 l1.length c1] w fun e w' => e = .returned (.bool r) ∧ Below w.heap.size w w' := by
 have hu26 := Tryd.underlying26
 have HR0 := Asd.mk hr0
 have HC0 := Asd.mk hc0
 clear hr0 hc0
 have HR1 := Asd.mk hr1
 have HC1 := Asd.mk hc1
 clear hr1 hc1
 have HB := Asd.mk (Below.refl w.heap.size w)
 have H : (if (l0.length : Int) = (l1.length : Int) then (w08_exprs.l0 k l0 l1 0) else (some false)) = some r := h
 clear h
 by_cases c3 : (l0.length : Int) = (l1.length : Int)
 ·rw [if_pos c3] at H
  have c3b0 : ((l0.length : Int) == (l1.length : Int)) = true := beq_iff_eq.mpr c3
  have c3b1 : ((l0.length : Int) != (l1.length : Int)) = false := bne_eq_false_iff_eq.mpr c3
  have c3b2 : (l0.length == l1.length) = true := by first | simpa using c3 | (simp at c3 ⊢; omega)
  clear c3
  have H' := Asd.mk H
  clear H
  go_enter Tryd.func29, Tryd.ntmps29
  go_wp2
  go_loopg [5] k (fun kq v5 w' => ∃ (x5_1 : Int), v5 = .int .i64 x5_1 ∧ Asd (w08_exprs.l0 kq l0 l1 x5_1 = some r) ∧ Asd (kq ≤ k) ∧ Asd (Below w.heap.size w w'))
  case atStart => exact ⟨(0), (by first | rfl | (simp; done) | (simp [*]; done)), H', ⟨Nat.le_refl _⟩, ⟨by repeat (first | (with_reducible first | exact HB.out | apply blA | apply pbN | apply blD) | exact HB.out)⟩⟩
  case round =>
   clear H'
   try clear c1
   try clear c2
   try clear p2
   try clear c3
   try clear c3b0
   try clear c3b1
   try clear c3b2
   obtain ⟨x5_1, rfl, HA, HK1, HB⟩ := hrel
   cases gk with
   | zero => exact absurd HA.out (by simp [w08_exprs.l0])
   | succ k1 =>
    have H := HA.out
    clear HA
    simp only [w08_exprs.l0] at H
    by_cases c4 : x5_1 < (l0.length : Int)
    ·rw [if_pos c4] at H
     have c4b0 : decide (x5_1 < (l0.length : Int)) = true := decide_eq_true c4
     clear c4
     by_cases c5 : 0 ≤ x5_1
     ·rw [if_pos c5] at H
      have c5b0 : decide (0 ≤ x5_1) = true := decide_eq_true c5
      clear c5
      replace H := Option.bind_eq_some_iff.mp H
      obtain ⟨t397, A60, H⟩ := H
      replace H : (if x5_1 < (l1.length : Int) then ((q08_Print.f ((rd_T26 l1 x5_1).f0) ((rd_T26 l1 x5_1).f1.f0) ((rd_T26 l1 x5_1).f1.f1) ((rd_T26 l1 x5_1).f1.f2) ((rd_T26 l1 x5_1).f2) ((rd_T26 l1 x5_1).f3) ((rd_T26 l1 x5_1).f4) ((rd_T26 l1 x5_1).f5) ((rd_T26 l1 x5_1).f6)).bind fun t399 => (if t397.toList = t399.toList then (w08_exprs.l0 k1 l0 l1 (wrap64 (x5_1 + 1))) else (some false))) else (none)) = some r := H
      have A6 := Asd.mk A60
      clear A60
      by_cases c7 : x5_1 < (l1.length : Int)
      ·rw [if_pos c7] at H
       have c7b0 : decide (x5_1 < (l1.length : Int)) = true := decide_eq_true c7
       clear c7
       replace H := Option.bind_eq_some_iff.mp H
       obtain ⟨t399, A80, H⟩ := H
       replace H : (if t397.toList = t399.toList then (w08_exprs.l0 k1 l0 l1 (wrap64 (x5_1 + 1))) else (some false)) = some r := H
       have A8 := Asd.mk A80
       clear A80
       by_cases c9 : t397.toList = t399.toList
       ·rw [if_pos c9] at H
        have c9b0 : (t397.toList == t399.toList) = true := beq_iff_eq.mpr c9
        have c9b1 : (t397.toList != t399.toList) = false := bne_eq_false_iff_eq.mpr c9
        clear c9
        have H' := Asd.mk H
        clear H
        have p396 : 0 ≤ (x5_1 : Int) := of_decide_eq_true (by first | (with_reducible assumption) | assumption)
        have q396 : x5_1 < (l0.length : Int) := of_decide_eq_true (by first | (with_reducible assumption) | assumption)
        obtain ⟨ad396, A396_8, c396_8, e396, hx396_0, hx396_1, hx396_2, hx396_3, hx396_4, hx396_5, hx396_6, hx396_7, hx396_8, hl396_8, hi396_8⟩ := at_T26 HR0.out x5_1 p396 q396
        cases e396
        replace hx396_0 := (HB.out.cell (World.block_lt_of_cell? w _ hx396_0)).trans hx396_0
        replace hx396_1 := (HB.out.cell (World.block_lt_of_cell? w _ hx396_1)).trans hx396_1
        replace hx396_2 := (HB.out.cell (World.block_lt_of_cell? w _ hx396_2)).trans hx396_2
        replace hx396_3 := (HB.out.cell (World.block_lt_of_cell? w _ hx396_3)).trans hx396_3
        replace hx396_4 := (HB.out.cell (World.block_lt_of_cell? w _ hx396_4)).trans hx396_4
        replace hx396_5 := (HB.out.cell (World.block_lt_of_cell? w _ hx396_5)).trans hx396_5
        replace hx396_6 := (HB.out.cell (World.block_lt_of_cell? w _ hx396_6)).trans hx396_6
        replace hx396_7 := (HB.out.cell (World.block_lt_of_cell? w _ hx396_7)).trans hx396_7
        replace hx396_8 := (HB.out.cell (World.block_lt_of_cell? w _ hx396_8)).trans hx396_8
        have HR396_8 := Asd.mk hi396_8
        have HC396_8 := Asd.mk hl396_8
        clear hi396_8 hl396_8
        replace p396 := eq_true p396
        replace q396 := eq_true q396
        go_wp2_with (first | ((with_reducible refine gate_callee (f := 55) rfl ?_); refine goesL_ (some 23) rfl rfl Tryd.func55 (by kernel_rfl) rfl #[.agg #[.int .i64 ((rd_T26 l0 x5_1).f0), .int .i64 ((rd_T26 l0 x5_1).f1.f0), .int .i64 ((rd_T26 l0 x5_1).f1.f1), .string ((rd_T26 l0 x5_1).f1.f2), .int .i64 ((rd_T26 l0 x5_1).f2), .int .i64 ((rd_T26 l0 x5_1).f3), .int .i64 ((rd_T26 l0 x5_1).f4), .string ((rd_T26 l0 x5_1).f5), .slice A396_8 ((rd_T26 l0 x5_1).f6).length c396_8]] rfl (by (try simp only [List.map_toArray, List.map_cons, List.map_nil]); first | done | rfl | (simp only [List.length_drop, List.length_take]; rfl)) ?_; (with_reducible refine (q08_Print.calls ((rd_T26 l0 x5_1).f0) ((rd_T26 l0 x5_1).f1.f0) ((rd_T26 l0 x5_1).f1.f1) ((rd_T26 l0 x5_1).f1.f2) ((rd_T26 l0 x5_1).f2) ((rd_T26 l0 x5_1).f3) ((rd_T26 l0 x5_1).f4) ((rd_T26 l0 x5_1).f5) _ _ ((rd_T26 l0 x5_1).f6) t397 _ ?side1 ?side2 A6.out).mono ?_); (case side1 => repeat (first | exact (Kd.C_below HR396_8.out HB.out) | (with_reducible refine Kd.C_alloc ?_ _) | (with_reducible refine Kd.C_drewN ?_ _) | (with_reducible refine Kd.C_drew ?_))); (case side2 => exact HC396_8.out); rintro e w10 ⟨rfl, hb⟩; refine ⟨_, rfl, ?_⟩; replace HB := Asd.mk (bS hb HB.out); clear hb; have p398 : 0 ≤ (x5_1 : Int) := of_decide_eq_true (by first | (with_reducible assumption) | assumption); have q398 : x5_1 < (l1.length : Int) := of_decide_eq_true (by first | (with_reducible assumption) | assumption); obtain ⟨ad398, A398_8, c398_8, e398, hx398_0, hx398_1, hx398_2, hx398_3, hx398_4, hx398_5, hx398_6, hx398_7, hx398_8, hl398_8, hi398_8⟩ := at_T26 HR1.out x5_1 p398 q398; cases e398; replace hx398_0 := (HB.out.cell (World.block_lt_of_cell? w _ hx398_0)).trans hx398_0; replace hx398_1 := (HB.out.cell (World.block_lt_of_cell? w _ hx398_1)).trans hx398_1; replace hx398_2 := (HB.out.cell (World.block_lt_of_cell? w _ hx398_2)).trans hx398_2; replace hx398_3 := (HB.out.cell (World.block_lt_of_cell? w _ hx398_3)).trans hx398_3; replace hx398_4 := (HB.out.cell (World.block_lt_of_cell? w _ hx398_4)).trans hx398_4; replace hx398_5 := (HB.out.cell (World.block_lt_of_cell? w _ hx398_5)).trans hx398_5; replace hx398_6 := (HB.out.cell (World.block_lt_of_cell? w _ hx398_6)).trans hx398_6; replace hx398_7 := (HB.out.cell (World.block_lt_of_cell? w _ hx398_7)).trans hx398_7; replace hx398_8 := (HB.out.cell (World.block_lt_of_cell? w _ hx398_8)).trans hx398_8; have HR398_8 := Asd.mk hi398_8; have HC398_8 := Asd.mk hl398_8; clear hi398_8 hl398_8; replace p398 := eq_true p398; replace q398 := eq_true q398) | ((with_reducible refine gate_callee (f := 55) rfl ?_); refine goesL_ (some 28) rfl rfl Tryd.func55 (by kernel_rfl) rfl #[.agg #[.int .i64 ((rd_T26 l1 x5_1).f0), .int .i64 ((rd_T26 l1 x5_1).f1.f0), .int .i64 ((rd_T26 l1 x5_1).f1.f1), .string ((rd_T26 l1 x5_1).f1.f2), .int .i64 ((rd_T26 l1 x5_1).f2), .int .i64 ((rd_T26 l1 x5_1).f3), .int .i64 ((rd_T26 l1 x5_1).f4), .string ((rd_T26 l1 x5_1).f5), .slice A398_8 ((rd_T26 l1 x5_1).f6).length c398_8]] rfl (by (try simp only [List.map_toArray, List.map_cons, List.map_nil]); first | done | rfl | (simp only [List.length_drop, List.length_take]; rfl)) ?_; (with_reducible refine (q08_Print.calls ((rd_T26 l1 x5_1).f0) ((rd_T26 l1 x5_1).f1.f0) ((rd_T26 l1 x5_1).f1.f1) ((rd_T26 l1 x5_1).f1.f2) ((rd_T26 l1 x5_1).f2) ((rd_T26 l1 x5_1).f3) ((rd_T26 l1 x5_1).f4) ((rd_T26 l1 x5_1).f5) _ _ ((rd_T26 l1 x5_1).f6) t399 _ ?side1 ?side2 A8.out).mono ?_); (case side1 => repeat (first | exact (Kd.C_below HR398_8.out HB.out) | (with_reducible refine Kd.C_alloc ?_ _) | (with_reducible refine Kd.C_drewN ?_ _) | (with_reducible refine Kd.C_drew ?_))); (case side2 => exact HC398_8.out); rintro e w11 ⟨rfl, hb⟩; refine ⟨_, rfl, ?_⟩; replace HB := Asd.mk (bS hb HB.out); clear hb))
        go_roundg k1
        case measure => have := HK1.out; omega
        case rel => exact ⟨(wrap64 (x5_1 + 1)), (by first | rfl | (simp; done) | (simp [*]; done)), H', ⟨by have := HK1.out; omega⟩, ⟨by repeat (first | (with_reducible first | exact HB.out | apply blA | apply pbN | apply blD) | exact HB.out)⟩⟩
       ·rw [if_neg c9] at H
        have c9b0 : (t397.toList == t399.toList) = false := beq_eq_false_iff_ne.mpr c9
        have c9b1 : (t397.toList != t399.toList) = true := bne_iff_ne.mpr c9
        obtain rfl := Option.some.inj H
        have p396 : 0 ≤ (x5_1 : Int) := of_decide_eq_true (by first | (with_reducible assumption) | assumption)
        have q396 : x5_1 < (l0.length : Int) := of_decide_eq_true (by first | (with_reducible assumption) | assumption)
        obtain ⟨ad396, A396_8, c396_8, e396, hx396_0, hx396_1, hx396_2, hx396_3, hx396_4, hx396_5, hx396_6, hx396_7, hx396_8, hl396_8, hi396_8⟩ := at_T26 HR0.out x5_1 p396 q396
        cases e396
        replace hx396_0 := (HB.out.cell (World.block_lt_of_cell? w _ hx396_0)).trans hx396_0
        replace hx396_1 := (HB.out.cell (World.block_lt_of_cell? w _ hx396_1)).trans hx396_1
        replace hx396_2 := (HB.out.cell (World.block_lt_of_cell? w _ hx396_2)).trans hx396_2
        replace hx396_3 := (HB.out.cell (World.block_lt_of_cell? w _ hx396_3)).trans hx396_3
        replace hx396_4 := (HB.out.cell (World.block_lt_of_cell? w _ hx396_4)).trans hx396_4
        replace hx396_5 := (HB.out.cell (World.block_lt_of_cell? w _ hx396_5)).trans hx396_5
        replace hx396_6 := (HB.out.cell (World.block_lt_of_cell? w _ hx396_6)).trans hx396_6
        replace hx396_7 := (HB.out.cell (World.block_lt_of_cell? w _ hx396_7)).trans hx396_7
        replace hx396_8 := (HB.out.cell (World.block_lt_of_cell? w _ hx396_8)).trans hx396_8
        have HR396_8 := Asd.mk hi396_8
        have HC396_8 := Asd.mk hl396_8
        clear hi396_8 hl396_8
        replace p396 := eq_true p396
        replace q396 := eq_true q396
        go_wp2_with (first | ((with_reducible refine gate_callee (f := 55) rfl ?_); refine goesL_ (some 23) rfl rfl Tryd.func55 (by kernel_rfl) rfl #[.agg #[.int .i64 ((rd_T26 l0 x5_1).f0), .int .i64 ((rd_T26 l0 x5_1).f1.f0), .int .i64 ((rd_T26 l0 x5_1).f1.f1), .string ((rd_T26 l0 x5_1).f1.f2), .int .i64 ((rd_T26 l0 x5_1).f2), .int .i64 ((rd_T26 l0 x5_1).f3), .int .i64 ((rd_T26 l0 x5_1).f4), .string ((rd_T26 l0 x5_1).f5), .slice A396_8 ((rd_T26 l0 x5_1).f6).length c396_8]] rfl (by (try simp only [List.map_toArray, List.map_cons, List.map_nil]); first | done | rfl | (simp only [List.length_drop, List.length_take]; rfl)) ?_; (with_reducible refine (q08_Print.calls ((rd_T26 l0 x5_1).f0) ((rd_T26 l0 x5_1).f1.f0) ((rd_T26 l0 x5_1).f1.f1) ((rd_T26 l0 x5_1).f1.f2) ((rd_T26 l0 x5_1).f2) ((rd_T26 l0 x5_1).f3) ((rd_T26 l0 x5_1).f4) ((rd_T26 l0 x5_1).f5) _ _ ((rd_T26 l0 x5_1).f6) t397 _ ?side1 ?side2 A6.out).mono ?_); (case side1 => repeat (first | exact (Kd.C_below HR396_8.out HB.out) | (with_reducible refine Kd.C_alloc ?_ _) | (with_reducible refine Kd.C_drewN ?_ _) | (with_reducible refine Kd.C_drew ?_))); (case side2 => exact HC396_8.out); rintro e w12 ⟨rfl, hb⟩; refine ⟨_, rfl, ?_⟩; replace HB := Asd.mk (bS hb HB.out); clear hb; have p398 : 0 ≤ (x5_1 : Int) := of_decide_eq_true (by first | (with_reducible assumption) | assumption); have q398 : x5_1 < (l1.length : Int) := of_decide_eq_true (by first | (with_reducible assumption) | assumption); obtain ⟨ad398, A398_8, c398_8, e398, hx398_0, hx398_1, hx398_2, hx398_3, hx398_4, hx398_5, hx398_6, hx398_7, hx398_8, hl398_8, hi398_8⟩ := at_T26 HR1.out x5_1 p398 q398; cases e398; replace hx398_0 := (HB.out.cell (World.block_lt_of_cell? w _ hx398_0)).trans hx398_0; replace hx398_1 := (HB.out.cell (World.block_lt_of_cell? w _ hx398_1)).trans hx398_1; replace hx398_2 := (HB.out.cell (World.block_lt_of_cell? w _ hx398_2)).trans hx398_2; replace hx398_3 := (HB.out.cell (World.block_lt_of_cell? w _ hx398_3)).trans hx398_3; replace hx398_4 := (HB.out.cell (World.block_lt_of_cell? w _ hx398_4)).trans hx398_4; replace hx398_5 := (HB.out.cell (World.block_lt_of_cell? w _ hx398_5)).trans hx398_5; replace hx398_6 := (HB.out.cell (World.block_lt_of_cell? w _ hx398_6)).trans hx398_6; replace hx398_7 := (HB.out.cell (World.block_lt_of_cell? w _ hx398_7)).trans hx398_7; replace hx398_8 := (HB.out.cell (World.block_lt_of_cell? w _ hx398_8)).trans hx398_8; have HR398_8 := Asd.mk hi398_8; have HC398_8 := Asd.mk hl398_8; clear hi398_8 hl398_8; replace p398 := eq_true p398; replace q398 := eq_true q398) | ((with_reducible refine gate_callee (f := 55) rfl ?_); refine goesL_ (some 28) rfl rfl Tryd.func55 (by kernel_rfl) rfl #[.agg #[.int .i64 ((rd_T26 l1 x5_1).f0), .int .i64 ((rd_T26 l1 x5_1).f1.f0), .int .i64 ((rd_T26 l1 x5_1).f1.f1), .string ((rd_T26 l1 x5_1).f1.f2), .int .i64 ((rd_T26 l1 x5_1).f2), .int .i64 ((rd_T26 l1 x5_1).f3), .int .i64 ((rd_T26 l1 x5_1).f4), .string ((rd_T26 l1 x5_1).f5), .slice A398_8 ((rd_T26 l1 x5_1).f6).length c398_8]] rfl (by (try simp only [List.map_toArray, List.map_cons, List.map_nil]); first | done | rfl | (simp only [List.length_drop, List.length_take]; rfl)) ?_; (with_reducible refine (q08_Print.calls ((rd_T26 l1 x5_1).f0) ((rd_T26 l1 x5_1).f1.f0) ((rd_T26 l1 x5_1).f1.f1) ((rd_T26 l1 x5_1).f1.f2) ((rd_T26 l1 x5_1).f2) ((rd_T26 l1 x5_1).f3) ((rd_T26 l1 x5_1).f4) ((rd_T26 l1 x5_1).f5) _ _ ((rd_T26 l1 x5_1).f6) t399 _ ?side1 ?side2 A8.out).mono ?_); (case side1 => repeat (first | exact (Kd.C_below HR398_8.out HB.out) | (with_reducible refine Kd.C_alloc ?_ _) | (with_reducible refine Kd.C_drewN ?_ _) | (with_reducible refine Kd.C_drew ?_))); (case side2 => exact HC398_8.out); rintro e w13 ⟨rfl, hb⟩; refine ⟨_, rfl, ?_⟩; replace HB := Asd.mk (bS hb HB.out); clear hb))
        go_ret
        exact ⟨by first | rfl | (simp [errW_none, errW_some] <;> rfl) | (simp [*, errW_none, errW_some] <;> rfl), by repeat (first | (with_reducible first | exact HB.out | apply blA | apply pbN | apply blD) | exact HB.out)⟩
      ·rw [if_neg c7] at H
       exact absurd H (by simp)
     ·rw [if_neg c5] at H
      exact absurd H (by simp)
    ·rw [if_neg c4] at H
     have c4b0 : decide (x5_1 < (l0.length : Int)) = false := decide_eq_false c4
     clear c4
     obtain rfl := Option.some.inj H
     go_wp2
     go_ret
     exact ⟨by first | rfl | (simp [errW_none, errW_some] <;> rfl) | (simp [*, errW_none, errW_some] <;> rfl), by repeat (first | (with_reducible first | exact HB.out | apply blA | apply pbN | apply blD) | exact HB.out)⟩
 ·rw [if_neg c3] at H
  have c3b0 : ((l0.length : Int) == (l1.length : Int)) = false := beq_eq_false_iff_ne.mpr c3
  have c3b1 : ((l0.length : Int) != (l1.length : Int)) = true := bne_iff_ne.mpr c3
  have c3b2 : (l0.length == l1.length) = false := by first | simpa using c3 | (simp at c3 ⊢; omega)
  obtain rfl := Option.some.inj H
  go_enter Tryd.func29, Tryd.ntmps29
  go_wp2
  go_ret
  exact ⟨by first | rfl | (simp [errW_none, errW_some] <;> rfl) | (simp [*, errW_none, errW_some] <;> rfl), by repeat (first | (with_reducible first | exact HB.out | apply blA | apply pbN | apply blD) | exact HB.out)⟩
end Go.Proofs.YtkboodfnegedaaaDoor.E
namespace Go.Proofs.YtkboodfnegedaaaDoor.E
set_option linter.unusedSimpArgs false
set_option linter.unusedVariables false
open Go.RowKit Go.Proofs.YtkboodfnegedaaaDoorW.PrintWords Go.Proofs.YtkboodfnegedaaaDoorW.PrintLast Go.Proofs.YtkboodfnegedaaaDoorW.PrintMore
def recB (e : Ex) : Bool := (safeStep e ()).1
theorem safe_step15 (e : Ex) (k : Nat) : q08_safe.f (k + 2) e.f0 e.f1.f0 e.f1.f1 e.f1.f2 e.f2 e.f3 e.f4 e.f5 e.f6 = if recB e = true then some false else q08_safe.l0 k 0 e.f0 e.f1.f0 e.f1.f1 e.f1.f2 e.f2 e.f3 e.f4 e.f5 e.f6 := by
  rw [q08_safe.f]
  unfold recB safeStep
  by_cases h : e.f0 ≥ 4
  · rw [if_pos h, q08_safe.j0]
    by_cases h2 : e.f0 ≤ 8
    · rw [if_pos (by simpa using h2), if_pos (by simp only [decide_eq_true_eq]; omega)]
    · rw [if_neg (by simpa using h2), if_neg (by simp only [decide_eq_true_eq]; omega)]
  · rw [if_neg h, q08_safe.j0, if_neg (by decide), if_neg (by simp only [decide_eq_true_eq]; omega)]
mutual
theorem safe_ev15 : (e : Ex) → (∃ p, meas e = some p) → Ev (fun k => q08_safe.f k e.f0 e.f1.f0 e.f1.f1 e.f1.f2 e.f2 e.f3 e.f4 e.f5 e.f6) (!anyE recB e)
  | ⟨f0, f1, f2, f3, f4, f5, f6⟩ => fun ⟨p, hp⟩ => by
    obtain ⟨ho, hq⟩ := meas_own hp
    refine Ev.steps 2 (fun k => safe_step15 ⟨f0, f1, f2, f3, f4, f5, f6⟩ k) ?_
    rw [anyE]
    by_cases h : recB ⟨f0, f1, f2, f3, f4, f5, f6⟩ = true
    · simp only [if_pos h]; rw [h]; exact Ev.now _
    · simp only [if_neg h]; rw [Bool.eq_false_iff.mpr h, Bool.false_or]
      exact safeL_ev15 f6 hq f0 f1 f2 f3 f4 f5 f6 0 rfl (own_len ho)
theorem safeL_ev15 : (l : List Ex) → (∃ p, measL l = some p) → ∀ (f0 : Int) (f1 : Va) (f2 f3 f4 : Int) (f5 : ByteArray) (f6 : List Ex) (j : Nat), f6.drop j = l → f6.length ≤ 2 →
    Ev (fun k => q08_safe.l0 k (j : Int) f0 f1.f0 f1.f1 f1.f2 f2 f3 f4 f5 f6) (!anyL recB l)
  | [] => fun hp f0 f1 f2 f3 f4 f5 f6 j hj hlen => by
    have hl : f6.length ≤ j := List.drop_eq_nil_iff.1 hj
    refine Ev.const 1 (fun k => ?_)
    rw [q08_safe.l0, if_neg (by omega), anyL]; rfl
  | x :: xs => fun ⟨p, hp⟩ f0 f1 f2 f3 f4 f5 f6 j hj hlen => by
    obtain ⟨hx, hl, hr⟩ := rd_drop hj
    obtain ⟨ha, hb⟩ := measL_cons hp
    refine Ev.steps 1 (f := fun k => (q08_safe.f k x.f0 x.f1.f0 x.f1.f1 x.f1.f2 x.f2 x.f3 x.f4 x.f5 x.f6).bind fun t => (if t = true then (q08_safe.l0 k ((j + 1 : Nat) : Int) f0 f1.f0 f1.f1 f1.f2 f2 f3 f4 f5 f6) else some false)) (fun k => ?_) ?_
    · rw [q08_safe.l0, if_pos (by omega), if_pos (by omega), hx, wrap64_of (x := (j : Int) + 1) (by omega) (by omega)]; rfl
    · refine Ev.bind (safe_ev15 x ha) ?_
      rw [anyL]
      cases hc : anyE recB x with
      | true => exact Ev.now _
      | false =>
        have := safeL_ev15 xs hb f0 f1 f2 f3 f4 f5 f6 (j + 1) hr hlen
        simpa using this
end
theorem refSafe_ev (e : Ex) : Ev (fun k => q08_Safe.f k e.f0 e.f1.f0 e.f1.f1 e.f1.f2 e.f2 e.f3 e.f4 e.f5 e.f6) (safeB e) := by
  unfold q08_Safe.f safeB
  refine Ev.bind (refRight_ev e) ?_
  by_cases hr : rightB e = true
  · simp only [if_pos hr]
    refine Ev.bind (safe_ev15 e (right_some_meas hr)) ?_
    rw [hr, Bool.true_and, someF_any]
    exact Ev.now _
  · simp only [if_neg hr]
    rw [Bool.eq_false_iff.mpr hr]
    exact Ev.now _
theorem tables_step15 (e : Ex) (h : Rt e) (k : Nat) : q08_tables.f (k + 2) e.f0 e.f1.f0 e.f1.f1 e.f1.f2 e.f2 e.f3 e.f4 e.f5 e.f6 = q08_tables.l0 k ((if e.f0 = 2 then 2 ^ e.f2.toNat else 0 : Nat) : Int) 0 e.f0 e.f1.f0 e.f1.f1 e.f1.f2 e.f2 e.f3 e.f4 e.f5 e.f6 := by
  rw [q08_tables.f]
  by_cases h2 : e.f0 = 2
  · obtain ⟨r1, r2, _, _⟩ := h.rel h2
    rw [if_pos h2, if_pos h2, if_pos r1, q08_tables.j0, shl_two r1 r2]
  · rw [if_neg h2, if_neg h2, q08_tables.j0]; rfl
mutual
theorem tables_ev15 : (e : Ex) → Rt e → Ev (fun k => q08_tables.f k e.f0 e.f1.f0 e.f1.f1 e.f1.f2 e.f2 e.f3 e.f4 e.f5 e.f6) ((mskE e : Nat) : Int)
  | ⟨f0, f1, f2, f3, f4, f5, f6⟩ => fun h => by
    refine Ev.steps 2 (fun k => tables_step15 ⟨f0, f1, f2, f3, f4, f5, f6⟩ h k) ?_
    rw [mskE]
    have hb := own_bit h
    exact tablesL_ev15 f6 (fun x hx => h.kid hx) _ hb f0 f1 f2 f3 f4 f5 f6 0 rfl h.len
theorem tablesL_ev15 : (l : List Ex) → (∀ x ∈ l, Rt x) → ∀ (m : Nat), m < 65536 → ∀ (f0 : Int) (f1 : Va) (f2 f3 f4 : Int) (f5 : ByteArray) (f6 : List Ex) (j : Nat), f6.drop j = l → f6.length ≤ 2 →
    Ev (fun k => q08_tables.l0 k (m : Int) (j : Int) f0 f1.f0 f1.f1 f1.f2 f2 f3 f4 f5 f6) ((m ||| mskL l : Nat) : Int)
  | [] => fun hp m hm f0 f1 f2 f3 f4 f5 f6 j hj hlen => by
    have hl : f6.length ≤ j := List.drop_eq_nil_iff.1 hj
    refine Ev.const 1 (fun k => ?_)
    rw [q08_tables.l0, if_neg (by omega), mskL, Nat.or_zero]
  | x :: xs => fun hp m hm f0 f1 f2 f3 f4 f5 f6 j hj hlen => by
    obtain ⟨hx, hl, hr⟩ := rd_drop hj
    have hrx := hp x (.head _)
    have hlt := msk_lt x hrx
    refine Ev.steps 1 (f := fun k => (q08_tables.f k x.f0 x.f1.f0 x.f1.f1 x.f1.f2 x.f2 x.f3 x.f4 x.f5 x.f6).bind fun t => q08_tables.l0 k (Go.bits .or .i64 (m : Int) t) ((j + 1 : Nat) : Int) f0 f1.f0 f1.f1 f1.f2 f2 f3 f4 f5 f6) (fun k => ?_) ?_
    · rw [q08_tables.l0, if_pos (by omega), if_pos (by omega), hx, wrap64_of (x := (j : Int) + 1) (by omega) (by omega)]; rfl
    · refine Ev.bind (tables_ev15 x hrx) ?_
      rw [mskL, or62 m (mskE x) hm hlt]
      have := tablesL_ev15 xs (fun y hy => hp y (.tail _ hy)) (m ||| mskE x) (or_lt16 hm hlt) f0 f1 f2 f3 f4 f5 f6 (j + 1) hr hlen
      rw [Nat.or_assoc] at this
      exact this
end
theorem refTables_ev (e : Ex) : Ev (fun k => q08_Tables.f k e.f0 e.f1.f0 e.f1.f1 e.f1.f2 e.f2 e.f3 e.f4 e.f5 e.f6) (tabN e) := by
  unfold q08_Tables.f
  refine Ev.bind (refRight_ev e) ?_
  by_cases hr : rightB e = true
  · simp only [if_pos hr]
    rw [tabN_msk hr]
    exact Ev.bind (tables_ev15 e (Rt.of hr)) (Ev.now _)
  · simp only [if_neg hr]
    unfold tabN
    rw [if_neg hr]
    exact Ev.now _
theorem refsplit_ev (e : Ex) : ∀ p, meas e = some p → p.1 ≤ 20 → p.2 ≤ 200 → Ev (fun k => q08_split.f k e.f0 e.f1.f0 e.f1.f1 e.f1.f2 e.f2 e.f3 e.f4 e.f5 e.f6) (splitE e) ∧ (splitE e).length ≤ p.2 ∧ ∀ x ∈ splitE e, rightB x = true ∧ (rngF e = true → rngF x = true) := by
  induction e using Ex.ind with
  | h e ih =>
    intro p hp h1 h2
    have hr : rightB e = true := small_right.1 ⟨p, hp, h1, h2⟩
    have hee : (⟨e.f0, ⟨e.f1.f0, e.f1.f1, e.f1.f2⟩, e.f2, e.f3, e.f4, e.f5, e.f6⟩ : Ex) = e := by cases e; rfl
    obtain ⟨ho, _⟩ := meas_own hp
    by_cases h15 : e.f0 = 15
    · obtain ⟨x, y, hxy⟩ := own_two ho (by omega) (by omega) (by omega)
      obtain ⟨a, b, ha, hb, rfl⟩ := two_meas hp hxy
      simp only [] at h1 h2
      obtain ⟨ex, lx, rx⟩ := ih x (by rw [hxy]; simp) a ha (by omega) (by omega)
      obtain ⟨ey, ly, ry⟩ := ih y (by rw [hxy]; simp) b hb (by omega) (by omega)
      have hs : splitE e = splitE x ++ splitE y := by
        rw [splitE_eq, if_pos h15, hxy, splitL, splitL, splitL, List.append_nil]
      rw [hs]
      refine ⟨Ev.steps 1 (f := fun k => (q08_split.f k x.f0 x.f1.f0 x.f1.f1 x.f1.f2 x.f2 x.f3 x.f4 x.f5 x.f6).bind fun t => (q08_split.f k y.f0 y.f1.f0 y.f1.f1 y.f1.f2 y.f2 y.f3 y.f4 y.f5 y.f6).bind fun u => if t.length + u.length < 1353245080339 then some (t ++ u) else none) (fun k => ?_) (Ev.bind ex (Ev.bind ey ?_)), by simp; omega, ?_⟩
      · rw [q08_split.f, if_pos h15]
        rw [hxy]
        rfl
      · simp only [if_pos (show (splitE x).length + (splitE y).length < 1353245080339 by omega)]
        exact Ev.now _
      · intro z hz
        have hrl : rngF e = true → rngF x = true ∧ rngF y = true := by
          intro h
          rw [rngF_eq, Bool.and_eq_true] at h
          exact ⟨rngL_mem h.2 (by rw [hxy]; simp), rngL_mem h.2 (by rw [hxy]; simp)⟩
        rcases List.mem_append.1 hz with hz | hz
        · exact ⟨(rx z hz).1, fun h => (rx z hz).2 (hrl h).1⟩
        · exact ⟨(ry z hz).1, fun h => (ry z hz).2 (hrl h).2⟩
    · have hs : splitE e = [e] := by rw [splitE_eq, if_neg h15]
      rw [hs]
      refine ⟨Ev.const 1 (fun k => ?_), by have := meas_pos hp; simp; omega, fun x hx => by obtain rfl := List.mem_singleton.1 hx; exact ⟨hr, fun h => h⟩⟩
      rw [q08_split.f, if_neg h15, hee]
def splitR (e : Ex) : List Ex := if rightB e = true then splitE e else []
theorem refSplit_ev (e : Ex) : Ev (fun k => q08_Split.f k e.f0 e.f1.f0 e.f1.f1 e.f1.f2 e.f2 e.f3 e.f4 e.f5 e.f6) (splitR e) := by
  unfold q08_Split.f splitR
  refine Ev.bind (refRight_ev e) ?_
  by_cases hr : rightB e = true
  · simp only [if_pos hr]
    obtain ⟨p, hp, h1, h2⟩ := small_right.2 hr
    exact Ev.bind (refsplit_ev e p hp h1 h2).1 (Ev.now _)
  · simp only [if_neg hr]
    exact Ev.now _
theorem exSplit_ev (e : Ex) : Ev (fun k => expr_Split.f k e.f0 e.f1.f0 e.f1.f1 e.f1.f2 e.f2 e.f3 e.f4 e.f5 e.f6) (splitR e) := by
  unfold splitR
  by_cases hr : rightB e = true
  · rw [if_pos hr]
    obtain ⟨p, hp, h1, h2⟩ := small_right.2 hr
    exact (split_ev e p hp h1 h2).1
  · rw [if_neg hr]
    exact split_no e hr
mutual
theorem prN_of : (e : Ex) → Rt e → rngF e = true → prN e = true
  | ⟨f0, f1, f2, f3, f4, f5, f6⟩, h, hg => by
    rw [prN, Bool.and_eq_true, decide_eq_true_eq]
    rw [rngF, Bool.and_eq_true, decide_eq_true_eq] at hg
    have ho := h.op
    obtain ⟨_, _, h1⟩ := (own_iff _).1 h.own
    simp only [] at ho h1
    refine ⟨⟨by omega, hg.1, ?_⟩, prL_of f6 (fun x hx => h.kid hx) hg.2⟩
    split at h1
    · omega
    · split at h1
      · omega
      · split at h1
        · omega
        · omega
theorem prL_of : (l : List Ex) → (∀ x ∈ l, Rt x) → rngL l = true → prL l = true
  | [], _, _ => by rw [prL]
  | x :: xs, h, hg => by
    rw [rngL, Bool.and_eq_true] at hg
    rw [prL, prN_of x (h x (.head _)) hg.1, prL_of xs (fun y hy => h y (.tail _ hy)) hg.2]; rfl
end
theorem prB_of {e : Ex} (hr : rightB e = true) (hg : rngF e = true) : prB e = true := by
  unfold prB
  rw [prN_of e (Rt.of hr) hg, Bool.true_and, decide_eq_true_eq]
  have := text_short hr hg
  omega
theorem print_f {e : Ex} (h : prB e = true) : q08_Print.f e.f0 e.f1.f0 e.f1.f1 e.f1.f2 e.f2 e.f3 e.f4 e.f5 e.f6 = some (textS e) := by
  have he : (⟨e.f0, ⟨e.f1.f0, e.f1.f1, e.f1.f2⟩, e.f2, e.f3, e.f4, e.f5, e.f6⟩ : Ex) = e := by cases e; rfl
  unfold q08_Print.f
  rw [he, if_pos h]
def textP (e : Ex) : ByteArray × Bool := if rightB e = true then (textS e, true) else (⟨#[]⟩, false)
theorem refText_ev (e : Ex) (hg : rngF e = true) : Ev (fun k => q08_Text.f k e.f0 e.f1.f0 e.f1.f1 e.f1.f2 e.f2 e.f3 e.f4 e.f5 e.f6) (textP e) := by
  unfold q08_Text.f textP
  refine Ev.bind (refRight_ev e) ?_
  by_cases hr : rightB e = true
  · simp only [if_pos hr, print_f (prB_of hr hg), Option.bind_some]
    exact Ev.now _
  · simp only [if_neg hr]
    exact Ev.now _
theorem exprs_l0 (L : List Ex) (hL : L.length ≤ 200) (h : ∀ x ∈ L, prB x = true) : ∀ (l : List Ex) (j : Nat), L.drop j = l → Ev (fun k => w08_exprs.l0 k L L (j : Int)) true
  | [], j, hj => by
    have hl : L.length ≤ j := List.drop_eq_nil_iff.1 hj
    refine Ev.const 1 (fun k => ?_)
    rw [w08_exprs.l0, if_neg (by omega)]
  | x :: xs, j, hj => by
    obtain ⟨hx, hl, hr⟩ := rd_drop hj
    have hm : x ∈ L := List.mem_of_mem_drop (i := j) (by rw [hj]; exact .head _)
    refine Ev.steps 1 (f := fun k => w08_exprs.l0 k L L ((j + 1 : Nat) : Int)) (fun k => ?_) (exprs_l0 L hL h xs (j + 1) hr)
    rw [w08_exprs.l0, if_pos (by omega), if_pos (by omega), hx, print_f (h x hm), wrap64_of (x := (j : Int) + 1) (by omega) (by omega)]
    simp only [Option.bind_some]
    rw [if_pos (by omega)]; simp only [if_true]; rfl
theorem exprs_ev (L : List Ex) (hL : L.length ≤ 200) (h : ∀ x ∈ L, prB x = true) : Ev (fun k => w08_exprs.f k L L) true := by
  unfold w08_exprs.f
  simp only [if_true]
  exact exprs_l0 L hL h L 0 rfl
theorem split_exprs (e : Ex) (hg : rngF e = true) : (splitR e).length ≤ 200 ∧ ∀ x ∈ splitR e, prB x = true := by
  unfold splitR
  by_cases hr : rightB e = true
  · rw [if_pos hr]
    obtain ⟨p, hp, h1, h2⟩ := small_right.2 hr
    obtain ⟨_, h3, h4⟩ := refsplit_ev e p hp h1 h2
    exact ⟨by omega, fun x hx => prB_of (h4 x hx).1 ((h4 x hx).2 hg)⟩
  · rw [if_neg hr]
    exact ⟨by simp, fun x hx => by cases hx⟩
def hdE (a b : Ex) : Bool := (a.f0 == b.f0 && (sameV' a.f1 b.f1 && (a.f2 == b.f2 && (a.f3 == b.f3 && (a.f4 == b.f4 && a.f6.length == b.f6.length)))))
theorem same_step15 (a b : Ex) (k : Nat) : q08_same.f (k + 2) a.f0 a.f1.f0 a.f1.f1 a.f1.f2 a.f2 a.f3 a.f4 a.f5 a.f6 b.f0 b.f1.f0 b.f1.f1 b.f1.f2 b.f2 b.f3 b.f4 b.f5 b.f6 = if hdE a b = true then q08_same.l0 k 0 a.f0 a.f1.f0 a.f1.f1 a.f1.f2 a.f2 a.f3 a.f4 a.f5 a.f6 b.f0 b.f1.f0 b.f1.f1 b.f1.f2 b.f2 b.f3 b.f4 b.f5 b.f6 else some false := by
  have hj : ∀ c : Bool, q08_same.j0 (k + 1) c a.f0 a.f1.f0 a.f1.f1 a.f1.f2 a.f2 a.f3 a.f4 a.f5 a.f6 b.f0 b.f1.f0 b.f1.f1 b.f1.f2 b.f2 b.f3 b.f4 b.f5 b.f6 = if c = true then some false else q08_same.l0 k 0 a.f0 a.f1.f0 a.f1.f1 a.f1.f2 a.f2 a.f3 a.f4 a.f5 a.f6 b.f0 b.f1.f0 b.f1.f1 b.f1.f2 b.f2 b.f3 b.f4 b.f5 b.f6 := fun c => by rw [q08_same.j0]
  rw [q08_same.f]
  simp only [hj, if_true]
  unfold hdE sameV'
  by_cases h0 : a.f0 = b.f0
  · rw [if_pos h0]
    by_cases hv : (a.f1.f0 == b.f1.f0 && (a.f1.f1 == b.f1.f1 && (a.f1.f2.toList == b.f1.f2.toList))) = true
    · rw [hv]
      have hv' : (!(a.f1.f0 == b.f1.f0) || (!(a.f1.f1 == b.f1.f1) || (!(a.f1.f2.toList == b.f1.f2.toList)))) = false := by
        simp only [Bool.and_eq_true] at hv
        simp [hv.1, hv.2.1, hv.2.2]
      rw [hv', if_neg (by decide)]
      by_cases h2 : a.f2 = b.f2
      · rw [if_pos h2]
        by_cases h3 : a.f3 = b.f3
        · rw [if_pos h3]
          by_cases h4 : a.f4 = b.f4
          · rw [if_pos h4]
            by_cases h5 : a.f6.length = b.f6.length
            · simp [h0, h2, h3, h4, h5]
            · have h5' : ¬ (a.f6.length : Int) = b.f6.length := by omega
              simp [h0, h2, h3, h4, h5, h5']
          · simp [h4]
        · simp [h3]
      · simp [h2]
    · have hv' : (!(a.f1.f0 == b.f1.f0) || (!(a.f1.f1 == b.f1.f1) || (!(a.f1.f2.toList == b.f1.f2.toList)))) = true := by
        revert hv
        cases (a.f1.f0 == b.f1.f0) <;> cases (a.f1.f1 == b.f1.f1) <;> cases (a.f1.f2.toList == b.f1.f2.toList) <;> simp
      rw [Bool.eq_false_iff.mpr hv, hv', if_pos rfl]
      simp
  · simp [h0]
mutual
theorem same_ev15 : (a : Ex) → a.f6.length ≤ 2 → Rt a → ∀ b : Ex, Ev (fun k => q08_same.f k a.f0 a.f1.f0 a.f1.f1 a.f1.f2 a.f2 a.f3 a.f4 a.f5 a.f6 b.f0 b.f1.f0 b.f1.f1 b.f1.f2 b.f2 b.f3 b.f4 b.f5 b.f6) (sameE a b)
  | ⟨f0, f1, f2, f3, f4, f5, f6⟩, hl, hR, b => by
    refine Ev.steps 2 (fun k => same_step15 ⟨f0, f1, f2, f3, f4, f5, f6⟩ b k) ?_
    have he : sameE ⟨f0, f1, f2, f3, f4, f5, f6⟩ b = (hdE ⟨f0, f1, f2, f3, f4, f5, f6⟩ b && sameL f6 b.f6) := by rw [sameE_eq]; rfl
    rw [he]
    by_cases h : hdE ⟨f0, f1, f2, f3, f4, f5, f6⟩ b = true
    · simp only [if_pos h]; rw [h, Bool.true_and]
      have hlen : f6.length = b.f6.length := by
        simp only [hdE, Bool.and_eq_true, beq_iff_eq] at h
        exact h.2.2.2.2.2
      exact sameL_ev15 f6 b.f6 (fun x hx => hR.kid hx) f0 f1 f2 f3 f4 f5 f6 b 0 rfl rfl hl hlen
    · simp only [if_neg h]; rw [Bool.eq_false_iff.mpr h, Bool.false_and]; exact Ev.now _
theorem sameL_ev15 : (l m : List Ex) → (∀ x ∈ l, Rt x) → ∀ (f0 : Int) (f1 : Va) (f2 f3 f4 : Int) (f5 : ByteArray) (f6 : List Ex) (b : Ex) (j : Nat), f6.drop j = l → b.f6.drop j = m → f6.length ≤ 2 → f6.length = b.f6.length →
    Ev (fun k => q08_same.l0 k (j : Int) f0 f1.f0 f1.f1 f1.f2 f2 f3 f4 f5 f6 b.f0 b.f1.f0 b.f1.f1 b.f1.f2 b.f2 b.f3 b.f4 b.f5 b.f6) (sameL l m)
  | [], m => fun hp f0 f1 f2 f3 f4 f5 f6 b j hj hjm hlen hle => by
    have hl : f6.length ≤ j := List.drop_eq_nil_iff.1 hj
    refine Ev.const 1 (fun k => ?_)
    rw [q08_same.l0, if_neg (by omega), sameL]
  | x :: xs, [] => fun hp f0 f1 f2 f3 f4 f5 f6 b j hj hjm hlen hle => by
    have h1 := congrArg List.length hj
    have h2 := congrArg List.length hjm
    simp at h1 h2
    omega
  | x :: xs, y :: ys => fun hp f0 f1 f2 f3 f4 f5 f6 b j hj hjm hlen hle => by
    obtain ⟨hx, hl, hr⟩ := rd_drop hj
    obtain ⟨hy, hl2, hr2⟩ := rd_drop hjm
    have hrx := hp x (.head _)
    refine Ev.steps 1 (f := fun k => (q08_same.f k x.f0 x.f1.f0 x.f1.f1 x.f1.f2 x.f2 x.f3 x.f4 x.f5 x.f6 y.f0 y.f1.f0 y.f1.f1 y.f1.f2 y.f2 y.f3 y.f4 y.f5 y.f6).bind fun t => (if t = true then (q08_same.l0 k ((j + 1 : Nat) : Int) f0 f1.f0 f1.f1 f1.f2 f2 f3 f4 f5 f6 b.f0 b.f1.f0 b.f1.f1 b.f1.f2 b.f2 b.f3 b.f4 b.f5 b.f6) else some false)) (fun k => ?_) ?_
    · rw [q08_same.l0, if_pos (by omega), if_pos (by omega), if_pos (by omega), hx, hy, wrap64_of (x := (j : Int) + 1) (by omega) (by omega)]; rfl
    · refine Ev.bind (same_ev15 x hrx.len hrx y) ?_
      rw [sameL]
      cases hc : sameE x y with
      | false => exact Ev.now _
      | true =>
        have := sameL_ev15 xs ys (fun z hz => hp z (.tail _ hz)) f0 f1 f2 f3 f4 f5 f6 b (j + 1) hr hr2 hlen hle
        simpa using this
end
theorem sameB_eq (a b : Ex) : sameB a b = (rightB a && (rightB b && sameE a b)) := by
  unfold sameB
  by_cases ha : rightB a = true
  · by_cases hb : rightB b = true
    · rw [text_same (right_some_meas ha) (right_some_meas hb)]
      unfold textRes
      rw [if_pos ha, if_pos hb, ha, hb, Bool.true_and, Bool.true_and, Bool.true_and, Bool.true_and]
      simp only [ByteArray.toList_eq]
    · rw [Bool.eq_false_iff.mpr hb]; simp
  · rw [Bool.eq_false_iff.mpr ha]; simp
theorem refSame_ev (a b : Ex) : Ev (fun k => q08_Same.f k a.f0 a.f1.f0 a.f1.f1 a.f1.f2 a.f2 a.f3 a.f4 a.f5 a.f6 b.f0 b.f1.f0 b.f1.f1 b.f1.f2 b.f2 b.f3 b.f4 b.f5 b.f6) (sameB a b) := by
  unfold q08_Same.f
  refine Ev.bind (refRight_ev a) (Ev.bind (refRight_ev b) ?_)
  rw [sameB_eq]
  by_cases ha : rightB a = true
  · by_cases hb : rightB b = true
    · simp only [if_pos ha, if_pos hb]
      rw [ha, hb, Bool.true_and, Bool.true_and]
      exact Ev.bind (same_ev15 a (Rt.of ha).len (Rt.of ha) b) (Ev.now _)
    · simp only [if_pos ha, if_neg hb]; rw [ha, Bool.eq_false_iff.mpr hb]; exact Ev.now _
  · simp only [if_neg ha]; rw [Bool.eq_false_iff.mpr ha]; exact Ev.now _
theorem sameE_refl (a : Ex) : sameE a a = true := by
  induction a using Ex.ind with
  | h e ih =>
    rw [sameE_eq]
    have hs : ∀ l : List Ex, (∀ x ∈ l, sameE x x = true) → sameL l l = true := by
      intro l
      induction l with
      | nil => intro _; rw [sameL]
      | cons x l ih => intro h; rw [sameL, h x (.head _), ih (fun y hy => h y (.tail _ hy))]; rfl
    rw [hs e.f6 ih]
    simp [sameV']
theorem sameB_self (a : Ex) : sameB a a = rightB a := by
  rw [sameB_eq, sameE_refl]; cases rightB a <;> rfl
end Go.Proofs.YtkboodfnegedaaaDoor.E
