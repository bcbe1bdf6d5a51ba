/- Contracts and plain lemmas of the functions that the law reaches, part 17. -/
import Derived.Deep.RegionHeld3
import Derived.Deep.DeepCutAuto
import Derived.Laws.BitsLemmas
import Derived.Test.YtkboodfnegedaaaDoorZT3
import Derived.Test.YtkboodfnegedaaaDoorZT6
import Derived.Test.YtkboodfnegedaaaDoorZT11
import Derived.Test.YtkboodfnegedaaaDoorZT16
namespace Go.Proofs.YtkboodfnegedaaaDoor.E
open Go.RowKit Go.Proofs.YtkboodfnegedaaaDoorW.PrintWords Go.Proofs.YtkboodfnegedaaaDoorW.PrintLast Go.Proofs.YtkboodfnegedaaaDoorW.PrintMore
def nullE : Ex := ⟨1, zeroV, 0, 0, 0, ⟨#[]⟩, []⟩
def exText : Ex := twoE 4 (refE 0 1) (numE 2)
def exDiv : Ex := twoE 7 (numE 1) (numE 0)
theorem ex_text : textRes exText = (⟨#[40, 52, 32, 82, 48, 46, 49, 32, 73, 50, 41]⟩, 0) := by kernel_rfl
theorem ex_eval1 : (evalRes (twoE 9 exDiv nullE) [] []).2 = 4 := by kernel_rfl
theorem ex_eval2 : (evalRes (twoE 15 nullE (twoE 9 exDiv (numE 1))) [] []).2 = 4 := by kernel_rfl
theorem ex_kind : kindRes (twoE 11 (refE 0 1) (numE 2)) [[0, 1]] [] = (2, 0) := by kernel_rfl
theorem ex_div : rightB exDiv = true := by kernel_rfl
theorem ex_tab : tabN (refE 2 0) = 4 := by kernel_rfl
end Go.Proofs.YtkboodfnegedaaaDoor.E
namespace Go.Proofs.YtkboodfnegedaaaDoor.E
open Go.RowKit Go.Proofs.YtkboodfnegedaaaDoorW.PrintWords Go.Proofs.YtkboodfnegedaaaDoorW.PrintLast Go.Proofs.YtkboodfnegedaaaDoorW.PrintMore
theorem num_back {w w' : World} (h : Below w.drew.heap.size w.drew w') : Below w.heap.size w w' := ⟨h.os, h.tape, h.output, h.size, h.block⟩
theorem num_back2 {w w' : World} {o : Obj} (h : Below (w.alloc o).drew.heap.size (w.alloc o).drew w') : Below w.heap.size w w' := (blA (Below.refl _ w) o).trans ((num_back h).mono (blA (Below.refl _ w) o).size)
theorem ints01_C (w : World) : Kd.C (Kd.int .i64) (w.alloc (.cells #[.int .i64 0, .int .i64 1] 3)) (some ⟨w.heap.size, 0, none⟩) 2 [0, 1] := by
  refine ⟨rfl, by omega, fun _ => ⟨_, rfl, ?_⟩⟩
  have h : (w.alloc (.cells #[.int .i64 0, .int .i64 1] 3)).heap[w.heap.size]? = some (.cells #[.int .i64 0, .int .i64 1] 3 (0, 0)) := heap_alloc_new w _
  intro j p hp
  match j, hp with
  | 0, hp =>
    obtain rfl := Option.some.inj hp
    refine ⟨_, rfl, rfl, ?_⟩
    intro i u hu
    obtain rfl : i = 0 := by have := (List.getElem?_eq_some_iff.1 hu).1; simpa using this
    have hu' := Option.some.inj hu; subst hu'; rw [add_plain]; exact (bkC h 0).trans rfl
  | 1, hp =>
    obtain rfl := Option.some.inj hp
    refine ⟨_, rfl, rfl, ?_⟩
    intro i u hu
    obtain rfl : i = 0 := by have := (List.getElem?_eq_some_iff.1 hu).1; simpa using this
    have hu' := Option.some.inj hu; subst hu'; rw [add_plain]; exact (bkC h 1).trans rfl
theorem rows01_C (w : World) : Kd.C (Kd.slice 3 (Kd.int .i64)) ((w.alloc (.cells #[.int .i64 0, .int .i64 1] 3)).alloc (.cells #[.slice (some ⟨w.heap.size, 0, none⟩) 2 2] 28)) (some ⟨w.heap.size + 1, 0, none⟩) 1 [[0, 1]] := by
  refine ⟨rfl, by omega, fun _ => ⟨_, rfl, ?_⟩⟩
  have h : ((w.alloc (.cells #[.int .i64 0, .int .i64 1] 3)).alloc (.cells #[.slice (some ⟨w.heap.size, 0, none⟩) 2 2] 28)).heap[w.heap.size + 1]? = some (.cells #[.slice (some ⟨w.heap.size, 0, none⟩) 2 2] 28 (0, 0)) := by
    have h := heap_alloc_new (w.alloc (.cells #[.int .i64 0, .int .i64 1] 3)) (.cells #[.slice (some ⟨w.heap.size, 0, none⟩) 2 2] 28)
    simpa using h
  intro j p hp
  match j, hp with
  | 0, hp =>
    obtain rfl := Option.some.inj hp
    refine ⟨[.slice (some ⟨w.heap.size, 0, none⟩) 2 2], rfl, ⟨_, 2, rfl, by decide, Kd.C_alloc (ints01_C w) _⟩, ?_⟩
    intro i u hu
    obtain rfl : i = 0 := by have := (List.getElem?_eq_some_iff.1 hu).1; simpa using this
    have hu' := Option.some.inj hu; subst hu'; rw [add_plain]; exact (bkC h 0).trans rfl
set_option maxHeartbeats 4000000 in
set_option maxRecDepth 100000 in
theorem examples_ok (w : World) (hT : TabW w) : Calls Tryd.prog 11 #[] w fun r w' => r = .returned (.bool true) ∧ Below w.heap.size w w' := by
  have HT := Lib.hid hT; clear hT
  have HREF : Hid (∀ (a b : Int) w, Calls Tryd.prog 34 #[.int .i64 a, .int .i64 b] w fun r w' => r = .returned (.agg #[.int .i64 2, .int .i64 0, .int .i64 0, .string ⟨#[]⟩, .int .i64 a, .int .i64 b, .int .i64 0, .string ⟨#[]⟩, .slice none 0 0]) ∧ Below w.heap.size w w') := Lib.hid ref_ok
  have HNUM : Hid (∀ (n : Int) w, Calls Tryd.prog 35 #[.int .i64 n] w fun r w' => r = .returned (.agg #[.int .i64 1, .int .i64 1, .int .i64 n, .string ⟨#[]⟩, .int .i64 0, .int .i64 0, .int .i64 0, .string ⟨#[]⟩, .slice none 0 0]) ∧ Below w.heap.size w w') := Lib.hid num_ok9
  have HT1 : Hid (∀ w, Calls Tryd.prog 23 #[.int .i64 4, .agg #[.int .i64 2, .int .i64 0, .int .i64 0, .string ⟨#[]⟩, .int .i64 0, .int .i64 1, .int .i64 0, .string ⟨#[]⟩, .slice none 0 0], .agg #[.int .i64 1, .int .i64 1, .int .i64 2, .string ⟨#[]⟩, .int .i64 0, .int .i64 0, .int .i64 0, .string ⟨#[]⟩, .slice none 0 0]] w fun r w' => ∃ A, r = .returned (.agg #[.int .i64 4, .int .i64 0, .int .i64 0, .string ⟨#[]⟩, .int .i64 0, .int .i64 0, .int .i64 0, .string ⟨#[]⟩, .slice A 2 2]) ∧ Kd.C k26 w' A 2 [refE 0 1, numE 2] ∧ Below w.heap.size w w') := Lib.hid (fun w => two_ok 4 (refE 0 1) (numE 2) none none 0 0 w (by decide) (by decide) (Kd.C_nil _ _) (Kd.C_nil _ _))
  go_enter Tryd.func11, Tryd.ntmps11
  go_upto_region 2 with (first
    | (go_at_call 34; refine (HREF.out _ _ _).mono ?_; rintro r w1 ⟨rfl, hB1⟩)
    | (go_at_call 35; refine (HNUM.out _ _).mono ?_; rintro r w2 ⟨rfl, hB2⟩)
    | (go_at_call 23; refine (HT1.out _).mono ?_; rintro r w3 ⟨A1, rfl, hC3, hB3⟩; have hW3 : Below w.heap.size w w3 := hB1.trans ((hB2.trans (hB3.mono hB2.size)).mono hB1.size); have HTX : Calls Tryd.prog 24 #[.agg #[.int .i64 4, .int .i64 0, .int .i64 0, .string ⟨#[]⟩, .int .i64 0, .int .i64 0, .int .i64 0, .string ⟨#[]⟩, .slice A1 2 2]] w3 (fun r w' => r = .returned (.tuple #[.string ⟨#[40, 52, 32, 82, 48, 46, 49, 32, 73, 50, 41]⟩, .int .i64 0]) ∧ Below w3.heap.size w3 w') := (by have h := Text_ok exText A1 2 w3 (Lib.tabBelow_of_tabIs HT.out w3 hW3) (by kernel_rfl) hC3 (by decide); rw [ex_text] at h; exact h))
    | (go_at_call 24; refine HTX.mono ?_; rintro r w4 ⟨rfl, hB4⟩))
  have HW := hW3.trans (hB4.mono hW3.size)
  clear hB1 hB2 hB3 hB4 hW3 hC3 HTX
  go_upto_region 3 with (first | ((with_reducible refine gate_dst (N := 3) rfl ?_); refine box_event rfl (N := 3) rfl (cs := zerosE) (t := 26) (by first | rfl | (go_simp; done) | (go_simp; rfl)) ?_; intro nb hgg w5 hbnb hBnb;  have hnw : w.heap.size ≤ nb := (by have := HW.size; omega); have hnr : w4.heap.size ≤ nb := (by omega); clear hgg) | ((with_reducible refine gate_store (p := 3) (v := .tmp 18) rfl ?_); refine wpList_store_row rfl 26 (.tmp 3) (.tmp 18) rfl nb (exC nullE none 0) rfl rfl 26 zerosE hbnb (info_ex _ _ _) rfl (one_ex _ _ _) ?_))
  have BKN := setRow_at w5 nb _ zerosE (exC nullE none 0) hbnb
  replace HW : Below w.heap.size w (w5.setRow nb (exC nullE none 0)) := below_setRow' (HW.trans (hBnb.mono HW.size)) hnw _
  clear hbnb hBnb hnr
  generalize w5.setRow nb (exC nullE none 0) = w6 at BKN HW ⊢
  have HT2 : Hid (∀ w, Calls Tryd.prog 23 #[.int .i64 7, .agg #[.int .i64 1, .int .i64 1, .int .i64 1, .string ⟨#[]⟩, .int .i64 0, .int .i64 0, .int .i64 0, .string ⟨#[]⟩, .slice none 0 0], .agg #[.int .i64 1, .int .i64 1, .int .i64 0, .string ⟨#[]⟩, .int .i64 0, .int .i64 0, .int .i64 0, .string ⟨#[]⟩, .slice none 0 0]] w fun r w' => ∃ A, r = .returned (.agg #[.int .i64 7, .int .i64 0, .int .i64 0, .string ⟨#[]⟩, .int .i64 0, .int .i64 0, .int .i64 0, .string ⟨#[]⟩, .slice A 2 2]) ∧ Kd.C k26 w' A 2 [numE 1, numE 0] ∧ Below w.heap.size w w') := Lib.hid (fun w => two_ok 7 (numE 1) (numE 0) none none 0 0 w (by decide) (by decide) (Kd.C_nil _ _) (Kd.C_nil _ _))
  go_upto_region 4 with (first
    | (go_at_call 35; refine (HNUM.out _ _).mono ?_; rintro r w7 ⟨rfl, hB7⟩; replace BKN := (hB7.block nb (blk_lt BKN)).trans BKN; replace HW := HW.trans (hB7.mono HW.size); clear hB7)
    | (go_at_call 23; refine (HT2.out _).mono ?_; rintro r w8 ⟨A2, rfl, hC8, hB8⟩; replace BKN := (hB8.block nb (blk_lt BKN)).trans BKN; replace HW := HW.trans (hB8.mono HW.size); clear hB8)
    | ((with_reducible refine gate_dst (N := 4) rfl ?_); refine box_event rfl (N := 4) rfl (cs := zerosE) (t := 26) (by first | rfl | (go_simp; done) | (go_simp; rfl)) ?_; intro dv hgg w9 hbdv hBdv;  have hdw : w.heap.size ≤ dv := (by have := HW.size; omega); have hdr : w8.heap.size ≤ dv := (by omega); have hnd : nb ≠ dv := (by have := blk_lt BKN; omega); replace BKN := (hBdv.block nb (blk_lt BKN)).trans BKN; replace HW := HW.trans (hBdv.mono HW.size); clear hgg)
    | ((with_reducible refine gate_store (p := 4) (v := .tmp 21) rfl ?_); refine wpList_store_row rfl 26 (.tmp 4) (.tmp 21) rfl dv (exC exDiv A2 2) rfl rfl 26 zerosE hbdv (info_ex _ _ _) rfl (one_ex _ _ _) ?_))
  have BKD := setRow_at w9 dv _ zerosE (exC exDiv A2 2) hbdv
  replace BKN := setRow_far w9 (show ¬ dv = nb from Ne.symm hnd) BKN (exC exDiv A2 2)
  have hCD : Kd.C k26 (w9.setRow dv (exC exDiv A2 2)) A2 2 [numE 1, numE 0] := Kd.C_below hC8 (below_setRow' hBdv hdr _)
  replace HW : Below w.heap.size w (w9.setRow dv (exC exDiv A2 2)) := below_setRow' HW hdw _
  clear hC8 hbdv hBdv hdr
  generalize w9.setRow dv (exC exDiv A2 2) = w10 at BKN BKD hCD HW ⊢
  have HCD := Lib.hid hCD; have HBN := Lib.hid BKN; have HBD := Lib.hid BKD; have HWW := Lib.hid HW
  clear hCD BKN BKD HW
  have hz0 : w10.cell? ⟨dv, 0, none⟩ = some (.int .i64 7) := (bkC HBD.out 0).trans rfl; have hy0 : w10.cell? ⟨nb, 0, none⟩ = some (.int .i64 1) := (bkC HBN.out 0).trans rfl; have hz1 : w10.cell? ⟨dv, 1, none⟩ = some (.int .i64 0) := (bkC HBD.out 1).trans rfl; have hy1 : w10.cell? ⟨nb, 1, none⟩ = some (.int .i64 0) := (bkC HBN.out 1).trans rfl; have hz2 : w10.cell? ⟨dv, 2, none⟩ = some (.int .i64 0) := (bkC HBD.out 2).trans rfl; have hy2 : w10.cell? ⟨nb, 2, none⟩ = some (.int .i64 0) := (bkC HBN.out 2).trans rfl; have hz3 : w10.cell? ⟨dv, 3, none⟩ = some (.string ⟨#[]⟩) := (bkC HBD.out 3).trans rfl; have hy3 : w10.cell? ⟨nb, 3, none⟩ = some (.string ⟨#[]⟩) := (bkC HBN.out 3).trans rfl; have hz4 : w10.cell? ⟨dv, 4, none⟩ = some (.int .i64 0) := (bkC HBD.out 4).trans rfl; have hy4 : w10.cell? ⟨nb, 4, none⟩ = some (.int .i64 0) := (bkC HBN.out 4).trans rfl; have hz5 : w10.cell? ⟨dv, 5, none⟩ = some (.int .i64 0) := (bkC HBD.out 5).trans rfl; have hy5 : w10.cell? ⟨nb, 5, none⟩ = some (.int .i64 0) := (bkC HBN.out 5).trans rfl; have hz6 : w10.cell? ⟨dv, 6, none⟩ = some (.int .i64 0) := (bkC HBD.out 6).trans rfl; have hy6 : w10.cell? ⟨nb, 6, none⟩ = some (.int .i64 0) := (bkC HBN.out 6).trans rfl; have hz7 : w10.cell? ⟨dv, 7, none⟩ = some (.string ⟨#[]⟩) := (bkC HBD.out 7).trans rfl; have hy7 : w10.cell? ⟨nb, 7, none⟩ = some (.string ⟨#[]⟩) := (bkC HBN.out 7).trans rfl; have hz8 : w10.cell? ⟨dv, 8, none⟩ = some (.slice A2 2 2) := (bkC HBD.out 8).trans rfl; have hy8 : w10.cell? ⟨nb, 8, none⟩ = some (.slice none 0 0) := (bkC HBN.out 8).trans rfl
  obtain ⟨v1, hv1⟩ : ∃ v1, (evalRes (twoE 9 exDiv nullE) [] []).1 = v1 := ⟨_, rfl⟩
  have HE1 : Hid (evalRes (twoE 9 exDiv nullE) [] [] = (v1, 4)) := Lib.hid (Prod.ext hv1 ex_eval1)
  clear hv1
  have HT3 : Hid (Calls Tryd.prog 23 #[.int .i64 9, .agg #[.int .i64 7, .int .i64 0, .int .i64 0, .string ⟨#[]⟩, .int .i64 0, .int .i64 0, .int .i64 0, .string ⟨#[]⟩, .slice A2 2 2], .agg #[.int .i64 1, .int .i64 0, .int .i64 0, .string ⟨#[]⟩, .int .i64 0, .int .i64 0, .int .i64 0, .string ⟨#[]⟩, .slice none 0 0]] w10 fun r w' => ∃ A, r = .returned (.agg #[.int .i64 9, .int .i64 0, .int .i64 0, .string ⟨#[]⟩, .int .i64 0, .int .i64 0, .int .i64 0, .string ⟨#[]⟩, .slice A 2 2]) ∧ Kd.C k26 w' A 2 [exDiv, nullE] ∧ Below w10.heap.size w10 w') := Lib.hid (two_ok 9 exDiv nullE A2 none 2 0 w10 (by decide) (by decide) HCD.out (Kd.C_nil _ _))
  go_upto_region 5 with (first
    | (go_at_call 23; refine HT3.out.mono ?_; rintro r w11 ⟨A3, rfl, hC11, hB11⟩; have HEV : Hid (Calls Tryd.prog 14 #[.agg #[.int .i64 9, .int .i64 0, .int .i64 0, .string ⟨#[]⟩, .int .i64 0, .int .i64 0, .int .i64 0, .string ⟨#[]⟩, .slice A3 2 2], .slice none 0 0, .slice none 0 0] w11 fun r w' => r = .returned (.tuple #[.agg #[.int .i64 v1.f0, .int .i64 v1.f1, .string v1.f2], .int .i64 4]) ∧ Below w11.heap.size w11 w') := (by have h := Eval_ok (twoE 9 exDiv nullE) A3 none none 2 0 0 [] [] w11 hC11 (by decide) (Kd.C_nil _ _) (by decide) (Kd.C_nil _ _) (by decide); rw [HE1.out] at h; exact Lib.hid h))
    | (go_at_call 14; refine HEV.out.mono ?_; rintro r w12 ⟨rfl, hB12⟩; have hB12' := hB11.trans (hB12.mono hB11.size))
    | ((with_reducible refine gate_dst (N := 5) rfl ?_); refine box_event rfl (N := 5) rfl (cs := vaC zeroV) (t := 23) (by first | rfl | (go_simp; done) | (go_simp; rfl)) ?_; intro va hgg w13 hbva hBva;  have hva : w10.heap.size ≤ va := (by have := hB12'.size; omega); have hc0 : w13.cell? ⟨va, 0, none⟩ = some (.int .i64 0) := ((bkC hbva 0).trans rfl); have hc1 : w13.cell? ⟨va, 1, none⟩ = some (.int .i64 0) := ((bkC hbva 1).trans rfl); have hc2 : w13.cell? ⟨va, 2, none⟩ = some (.string ⟨#[]⟩) := ((bkC hbva 2).trans rfl); have hf0 := bkF hbva 0; have hf1 := bkF hbva 1; have hf2 := bkF hbva 2; clear hgg))
  have hB14 := va_below (hB12'.trans (hBva.mono hB12'.size)) hva v1
  clear hc0 hc1 hc2 hf0 hf1 hf2 hbva hBva hB12' hB12 hB11 HEV hC11
  clear hz0 hz1 hz2 hz3 hz4 hz5 hz6 hz7 hz8 hy0 hy1 hy2 hy3 hy4 hy5 hy6 hy7 hy8
  generalize ((w13.setCell ⟨va, 0, none⟩ (.int .i64 v1.f0)).setCell ⟨va, 1, none⟩ (.int .i64 v1.f1)).setCell ⟨va, 2, none⟩ (.string v1.f2) = w14 at hB14 ⊢
  have HBN14 := Lib.hid ((hB14.block nb (blk_lt HBN.out)).trans HBN.out)
  have HBD14 := Lib.hid ((hB14.block dv (blk_lt HBD.out)).trans HBD.out)
  have HC14 := Lib.hid (Kd.C_below HCD.out hB14)
  have HW14 := Lib.hid (HWW.out.trans (hB14.mono HWW.out.size))
  clear hB14
  have hz0 : w14.cell? ⟨dv, 0, none⟩ = some (.int .i64 7) := (bkC HBD14.out 0).trans rfl; have hy0 : w14.cell? ⟨nb, 0, none⟩ = some (.int .i64 1) := (bkC HBN14.out 0).trans rfl; have hz1 : w14.cell? ⟨dv, 1, none⟩ = some (.int .i64 0) := (bkC HBD14.out 1).trans rfl; have hy1 : w14.cell? ⟨nb, 1, none⟩ = some (.int .i64 0) := (bkC HBN14.out 1).trans rfl; have hz2 : w14.cell? ⟨dv, 2, none⟩ = some (.int .i64 0) := (bkC HBD14.out 2).trans rfl; have hy2 : w14.cell? ⟨nb, 2, none⟩ = some (.int .i64 0) := (bkC HBN14.out 2).trans rfl; have hz3 : w14.cell? ⟨dv, 3, none⟩ = some (.string ⟨#[]⟩) := (bkC HBD14.out 3).trans rfl; have hy3 : w14.cell? ⟨nb, 3, none⟩ = some (.string ⟨#[]⟩) := (bkC HBN14.out 3).trans rfl; have hz4 : w14.cell? ⟨dv, 4, none⟩ = some (.int .i64 0) := (bkC HBD14.out 4).trans rfl; have hy4 : w14.cell? ⟨nb, 4, none⟩ = some (.int .i64 0) := (bkC HBN14.out 4).trans rfl; have hz5 : w14.cell? ⟨dv, 5, none⟩ = some (.int .i64 0) := (bkC HBD14.out 5).trans rfl; have hy5 : w14.cell? ⟨nb, 5, none⟩ = some (.int .i64 0) := (bkC HBN14.out 5).trans rfl; have hz6 : w14.cell? ⟨dv, 6, none⟩ = some (.int .i64 0) := (bkC HBD14.out 6).trans rfl; have hy6 : w14.cell? ⟨nb, 6, none⟩ = some (.int .i64 0) := (bkC HBN14.out 6).trans rfl; have hz7 : w14.cell? ⟨dv, 7, none⟩ = some (.string ⟨#[]⟩) := (bkC HBD14.out 7).trans rfl; have hy7 : w14.cell? ⟨nb, 7, none⟩ = some (.string ⟨#[]⟩) := (bkC HBN14.out 7).trans rfl; have hz8 : w14.cell? ⟨dv, 8, none⟩ = some (.slice A2 2 2) := (bkC HBD14.out 8).trans rfl; have hy8 : w14.cell? ⟨nb, 8, none⟩ = some (.slice none 0 0) := (bkC HBN14.out 8).trans rfl
  obtain ⟨v2, hv2⟩ : ∃ v2, (evalRes (twoE 15 nullE (twoE 9 exDiv (numE 1))) [] []).1 = v2 := ⟨_, rfl⟩
  have HE2 : Hid (evalRes (twoE 15 nullE (twoE 9 exDiv (numE 1))) [] [] = (v2, 4)) := Lib.hid (Prod.ext hv2 ex_eval2)
  clear hv2
  have HT5 : Hid (∀ w, Below w14.heap.size w14 w → Calls Tryd.prog 23 #[.int .i64 9, .agg #[.int .i64 7, .int .i64 0, .int .i64 0, .string ⟨#[]⟩, .int .i64 0, .int .i64 0, .int .i64 0, .string ⟨#[]⟩, .slice A2 2 2], .agg #[.int .i64 1, .int .i64 1, .int .i64 1, .string ⟨#[]⟩, .int .i64 0, .int .i64 0, .int .i64 0, .string ⟨#[]⟩, .slice none 0 0]] w fun r w' => ∃ A, r = .returned (.agg #[.int .i64 9, .int .i64 0, .int .i64 0, .string ⟨#[]⟩, .int .i64 0, .int .i64 0, .int .i64 0, .string ⟨#[]⟩, .slice A 2 2]) ∧ Kd.C k26 w' A 2 [exDiv, numE 1] ∧ Below w.heap.size w w') := Lib.hid (fun w hw => two_ok 9 exDiv (numE 1) A2 none 2 0 w (by decide) (by decide) (Kd.C_below HC14.out hw) (Kd.C_nil _ _))
  have HT6 : Hid (∀ A4 w, Kd.C k26 w A4 2 [exDiv, numE 1] → Calls Tryd.prog 23 #[.int .i64 15, .agg #[.int .i64 1, .int .i64 0, .int .i64 0, .string ⟨#[]⟩, .int .i64 0, .int .i64 0, .int .i64 0, .string ⟨#[]⟩, .slice none 0 0], .agg #[.int .i64 9, .int .i64 0, .int .i64 0, .string ⟨#[]⟩, .int .i64 0, .int .i64 0, .int .i64 0, .string ⟨#[]⟩, .slice A4 2 2]] w fun r w' => ∃ A, r = .returned (.agg #[.int .i64 15, .int .i64 0, .int .i64 0, .string ⟨#[]⟩, .int .i64 0, .int .i64 0, .int .i64 0, .string ⟨#[]⟩, .slice A 2 2]) ∧ Kd.C k26 w' A 2 [nullE, twoE 9 exDiv (numE 1)] ∧ Below w.heap.size w w') := Lib.hid (fun A4 w h => two_ok 15 nullE (twoE 9 exDiv (numE 1)) none A4 0 2 w (by decide) (by decide) (Kd.C_nil _ _) h)
  have HEV2 : Hid (∀ A5 w, Kd.C k26 w A5 2 [nullE, twoE 9 exDiv (numE 1)] → Calls Tryd.prog 14 #[.agg #[.int .i64 15, .int .i64 0, .int .i64 0, .string ⟨#[]⟩, .int .i64 0, .int .i64 0, .int .i64 0, .string ⟨#[]⟩, .slice A5 2 2], .slice none 0 0, .slice none 0 0] w fun r w' => r = .returned (.tuple #[.agg #[.int .i64 v2.f0, .int .i64 v2.f1, .string v2.f2], .int .i64 4]) ∧ Below w.heap.size w w') := Lib.hid (fun A5 w h => by have h := Eval_ok (twoE 15 nullE (twoE 9 exDiv (numE 1))) A5 none none 2 0 0 [] [] w h (by decide) (Kd.C_nil _ _) (by decide) (Kd.C_nil _ _) (by decide); rw [HE2.out] at h; exact h)
  go_upto_region 6 with fail
  go_cut [8] (fun s8 wx => s8 = .int .i64 4 ∧ Below w14.heap.size w14 wx)
  case first =>
    go_region_held3 (fun w' => w'.cell? ⟨dv, 0, none⟩ = some (.int .i64 7) ∧ w'.cell? ⟨dv, 1, none⟩ = some (.int .i64 0) ∧ w'.cell? ⟨dv, 2, none⟩ = some (.int .i64 0) ∧ w'.cell? ⟨dv, 3, none⟩ = some (.string ⟨#[]⟩) ∧ w'.cell? ⟨dv, 4, none⟩ = some (.int .i64 0) ∧ w'.cell? ⟨dv, 5, none⟩ = some (.int .i64 0) ∧ w'.cell? ⟨dv, 6, none⟩ = some (.int .i64 0) ∧ w'.cell? ⟨dv, 7, none⟩ = some (.string ⟨#[]⟩) ∧ w'.cell? ⟨dv, 8, none⟩ = some (.slice A2 2 2) ∧ w'.cell? ⟨nb, 0, none⟩ = some (.int .i64 1) ∧ w'.cell? ⟨nb, 1, none⟩ = some (.int .i64 0) ∧ w'.cell? ⟨nb, 2, none⟩ = some (.int .i64 0) ∧ w'.cell? ⟨nb, 3, none⟩ = some (.string ⟨#[]⟩) ∧ w'.cell? ⟨nb, 4, none⟩ = some (.int .i64 0) ∧ w'.cell? ⟨nb, 5, none⟩ = some (.int .i64 0) ∧ w'.cell? ⟨nb, 6, none⟩ = some (.int .i64 0) ∧ w'.cell? ⟨nb, 7, none⟩ = some (.string ⟨#[]⟩) ∧ w'.cell? ⟨nb, 8, none⟩ = some (.slice none 0 0)) (go_keep) (first
      | (go_at_call 35; (with_reducible refine (HNUM.out _ _).mono ?_); rintro r w15 ⟨rfl, hB15⟩; (first | (have hq1 : dv ≠ w14.heap.size := Nat.ne_of_lt (blk_lt HBD14.out); have hq2 : nb ≠ w14.heap.size := Nat.ne_of_lt (blk_lt HBN14.out); have hq3 := Ne.symm hq1; have hq4 := Ne.symm hq2; have hq5 := eq_false hq1; have hq6 := eq_false hq2; have hq7 := eq_false hq3; have hq8 := eq_false hq4; have HV15 : w15.heap[w14.heap.size]? = some (.cells #[.int .i64 0, .int .i64 0, .string ⟨#[]⟩] 23 (0, 0)) := (hB15.block _ (blk_lt (heap_alloc_new w14 _))).trans (heap_alloc_new w14 _); have hu0 := ((bkC HV15 0).trans rfl : w15.cell? ⟨_, 0, none⟩ = some (.int .i64 0)); have hu1 := ((bkC HV15 1).trans rfl : w15.cell? ⟨_, 1, none⟩ = some (.int .i64 0)); have hu2 := ((bkC HV15 2).trans rfl : w15.cell? ⟨_, 2, none⟩ = some (.string ⟨#[]⟩)); have hv0 := bkF HV15 0; have hv1 := bkF HV15 1; have hv2 := bkF HV15 2) | skip); replace hB15 : Below w14.heap.size w14 w15 := (by first | (with_reducible exact num_back hB15) | exact num_back2 hB15); have HBN15 := Lib.hid ((hB15.block nb (blk_lt HBN14.out)).trans HBN14.out); have HBD15 := Lib.hid ((hB15.block dv (blk_lt HBD14.out)).trans HBD14.out); have hz0 : w15.cell? ⟨dv, 0, none⟩ = some (.int .i64 7) := (bkC HBD15.out 0).trans rfl; have hy0 : w15.cell? ⟨nb, 0, none⟩ = some (.int .i64 1) := (bkC HBN15.out 0).trans rfl; have hz1 : w15.cell? ⟨dv, 1, none⟩ = some (.int .i64 0) := (bkC HBD15.out 1).trans rfl; have hy1 : w15.cell? ⟨nb, 1, none⟩ = some (.int .i64 0) := (bkC HBN15.out 1).trans rfl; have hz2 : w15.cell? ⟨dv, 2, none⟩ = some (.int .i64 0) := (bkC HBD15.out 2).trans rfl; have hy2 : w15.cell? ⟨nb, 2, none⟩ = some (.int .i64 0) := (bkC HBN15.out 2).trans rfl; have hz3 : w15.cell? ⟨dv, 3, none⟩ = some (.string ⟨#[]⟩) := (bkC HBD15.out 3).trans rfl; have hy3 : w15.cell? ⟨nb, 3, none⟩ = some (.string ⟨#[]⟩) := (bkC HBN15.out 3).trans rfl; have hz4 : w15.cell? ⟨dv, 4, none⟩ = some (.int .i64 0) := (bkC HBD15.out 4).trans rfl; have hy4 : w15.cell? ⟨nb, 4, none⟩ = some (.int .i64 0) := (bkC HBN15.out 4).trans rfl; have hz5 : w15.cell? ⟨dv, 5, none⟩ = some (.int .i64 0) := (bkC HBD15.out 5).trans rfl; have hy5 : w15.cell? ⟨nb, 5, none⟩ = some (.int .i64 0) := (bkC HBN15.out 5).trans rfl; have hz6 : w15.cell? ⟨dv, 6, none⟩ = some (.int .i64 0) := (bkC HBD15.out 6).trans rfl; have hy6 : w15.cell? ⟨nb, 6, none⟩ = some (.int .i64 0) := (bkC HBN15.out 6).trans rfl; have hz7 : w15.cell? ⟨dv, 7, none⟩ = some (.string ⟨#[]⟩) := (bkC HBD15.out 7).trans rfl; have hy7 : w15.cell? ⟨nb, 7, none⟩ = some (.string ⟨#[]⟩) := (bkC HBN15.out 7).trans rfl; have hz8 : w15.cell? ⟨dv, 8, none⟩ = some (.slice A2 2 2) := (bkC HBD15.out 8).trans rfl; have hy8 : w15.cell? ⟨nb, 8, none⟩ = some (.slice none 0 0) := (bkC HBN15.out 8).trans rfl)
      | (go_at_call 23; (with_reducible refine (HT5.out _ (by first | exact hB15 | exact hB15.alloc hB15.size _)).mono ?_); rintro r w16 ⟨A4, rfl, hC16, hB16⟩; have hB16' : Below w14.heap.size w14 w16 := (by first | exact hB15.trans (hB16.mono hB15.size) | exact (hB15.alloc hB15.size _).trans (hB16.mono (hB15.alloc hB15.size _).size)); have HBN16 := Lib.hid ((hB16'.block nb (blk_lt HBN14.out)).trans HBN14.out); have HBD16 := Lib.hid ((hB16'.block dv (blk_lt HBD14.out)).trans HBD14.out); have hz0 : w16.cell? ⟨dv, 0, none⟩ = some (.int .i64 7) := (bkC HBD16.out 0).trans rfl; have hy0 : w16.cell? ⟨nb, 0, none⟩ = some (.int .i64 1) := (bkC HBN16.out 0).trans rfl; have hz1 : w16.cell? ⟨dv, 1, none⟩ = some (.int .i64 0) := (bkC HBD16.out 1).trans rfl; have hy1 : w16.cell? ⟨nb, 1, none⟩ = some (.int .i64 0) := (bkC HBN16.out 1).trans rfl; have hz2 : w16.cell? ⟨dv, 2, none⟩ = some (.int .i64 0) := (bkC HBD16.out 2).trans rfl; have hy2 : w16.cell? ⟨nb, 2, none⟩ = some (.int .i64 0) := (bkC HBN16.out 2).trans rfl; have hz3 : w16.cell? ⟨dv, 3, none⟩ = some (.string ⟨#[]⟩) := (bkC HBD16.out 3).trans rfl; have hy3 : w16.cell? ⟨nb, 3, none⟩ = some (.string ⟨#[]⟩) := (bkC HBN16.out 3).trans rfl; have hz4 : w16.cell? ⟨dv, 4, none⟩ = some (.int .i64 0) := (bkC HBD16.out 4).trans rfl; have hy4 : w16.cell? ⟨nb, 4, none⟩ = some (.int .i64 0) := (bkC HBN16.out 4).trans rfl; have hz5 : w16.cell? ⟨dv, 5, none⟩ = some (.int .i64 0) := (bkC HBD16.out 5).trans rfl; have hy5 : w16.cell? ⟨nb, 5, none⟩ = some (.int .i64 0) := (bkC HBN16.out 5).trans rfl; have hz6 : w16.cell? ⟨dv, 6, none⟩ = some (.int .i64 0) := (bkC HBD16.out 6).trans rfl; have hy6 : w16.cell? ⟨nb, 6, none⟩ = some (.int .i64 0) := (bkC HBN16.out 6).trans rfl; have hz7 : w16.cell? ⟨dv, 7, none⟩ = some (.string ⟨#[]⟩) := (bkC HBD16.out 7).trans rfl; have hy7 : w16.cell? ⟨nb, 7, none⟩ = some (.string ⟨#[]⟩) := (bkC HBN16.out 7).trans rfl; have hz8 : w16.cell? ⟨dv, 8, none⟩ = some (.slice A2 2 2) := (bkC HBD16.out 8).trans rfl; have hy8 : w16.cell? ⟨nb, 8, none⟩ = some (.slice none 0 0) := (bkC HBN16.out 8).trans rfl; (first | (have HV16 := (hB16.block _ (blk_lt HV15)).trans HV15; have hu0 := ((bkC HV16 0).trans rfl : w16.cell? ⟨_, 0, none⟩ = some (.int .i64 0)); have hu1 := ((bkC HV16 1).trans rfl : w16.cell? ⟨_, 1, none⟩ = some (.int .i64 0)); have hu2 := ((bkC HV16 2).trans rfl : w16.cell? ⟨_, 2, none⟩ = some (.string ⟨#[]⟩)); have hv0 := bkF HV16 0; have hv1 := bkF HV16 1; have hv2 := bkF HV16 2) | (have hq1 : dv ≠ w15.heap.size := Nat.ne_of_lt (blk_lt HBD15.out); have hq2 : nb ≠ w15.heap.size := Nat.ne_of_lt (blk_lt HBN15.out); have hq3 := Ne.symm hq1; have hq4 := Ne.symm hq2; have hq5 := eq_false hq1; have hq6 := eq_false hq2; have hq7 := eq_false hq3; have hq8 := eq_false hq4; have HV16 : w16.heap[w15.heap.size]? = some (.cells #[.int .i64 0, .int .i64 0, .string ⟨#[]⟩] 23 (0, 0)) := (hB16.block _ (blk_lt (heap_alloc_new w15 _))).trans (heap_alloc_new w15 _); have hu0 := ((bkC HV16 0).trans rfl : w16.cell? ⟨_, 0, none⟩ = some (.int .i64 0)); have hu1 := ((bkC HV16 1).trans rfl : w16.cell? ⟨_, 1, none⟩ = some (.int .i64 0)); have hu2 := ((bkC HV16 2).trans rfl : w16.cell? ⟨_, 2, none⟩ = some (.string ⟨#[]⟩)); have hv0 := bkF HV16 0; have hv1 := bkF HV16 1; have hv2 := bkF HV16 2) | skip))
      | (go_at_call 23; (with_reducible refine (HT6.out _ _ (by first | exact hC16 | exact Kd.C_alloc hC16 _)).mono ?_); rintro r w17 ⟨A5, rfl, hC17, hB17⟩; have hB17' : Below w14.heap.size w14 w17 := (by first | exact hB16'.trans (hB17.mono hB16'.size) | exact (hB16'.alloc hB16'.size _).trans (hB17.mono (hB16'.alloc hB16'.size _).size)); have HBN17 := Lib.hid ((hB17'.block nb (blk_lt HBN14.out)).trans HBN14.out); have HBD17 := Lib.hid ((hB17'.block dv (blk_lt HBD14.out)).trans HBD14.out); have hz0 : w17.cell? ⟨dv, 0, none⟩ = some (.int .i64 7) := (bkC HBD17.out 0).trans rfl; have hy0 : w17.cell? ⟨nb, 0, none⟩ = some (.int .i64 1) := (bkC HBN17.out 0).trans rfl; have hz1 : w17.cell? ⟨dv, 1, none⟩ = some (.int .i64 0) := (bkC HBD17.out 1).trans rfl; have hy1 : w17.cell? ⟨nb, 1, none⟩ = some (.int .i64 0) := (bkC HBN17.out 1).trans rfl; have hz2 : w17.cell? ⟨dv, 2, none⟩ = some (.int .i64 0) := (bkC HBD17.out 2).trans rfl; have hy2 : w17.cell? ⟨nb, 2, none⟩ = some (.int .i64 0) := (bkC HBN17.out 2).trans rfl; have hz3 : w17.cell? ⟨dv, 3, none⟩ = some (.string ⟨#[]⟩) := (bkC HBD17.out 3).trans rfl; have hy3 : w17.cell? ⟨nb, 3, none⟩ = some (.string ⟨#[]⟩) := (bkC HBN17.out 3).trans rfl; have hz4 : w17.cell? ⟨dv, 4, none⟩ = some (.int .i64 0) := (bkC HBD17.out 4).trans rfl; have hy4 : w17.cell? ⟨nb, 4, none⟩ = some (.int .i64 0) := (bkC HBN17.out 4).trans rfl; have hz5 : w17.cell? ⟨dv, 5, none⟩ = some (.int .i64 0) := (bkC HBD17.out 5).trans rfl; have hy5 : w17.cell? ⟨nb, 5, none⟩ = some (.int .i64 0) := (bkC HBN17.out 5).trans rfl; have hz6 : w17.cell? ⟨dv, 6, none⟩ = some (.int .i64 0) := (bkC HBD17.out 6).trans rfl; have hy6 : w17.cell? ⟨nb, 6, none⟩ = some (.int .i64 0) := (bkC HBN17.out 6).trans rfl; have hz7 : w17.cell? ⟨dv, 7, none⟩ = some (.string ⟨#[]⟩) := (bkC HBD17.out 7).trans rfl; have hy7 : w17.cell? ⟨nb, 7, none⟩ = some (.string ⟨#[]⟩) := (bkC HBN17.out 7).trans rfl; have hz8 : w17.cell? ⟨dv, 8, none⟩ = some (.slice A2 2 2) := (bkC HBD17.out 8).trans rfl; have hy8 : w17.cell? ⟨nb, 8, none⟩ = some (.slice none 0 0) := (bkC HBN17.out 8).trans rfl; (first | (have HV17 := (hB17.block _ (blk_lt HV16)).trans HV16; have hu0 := ((bkC HV17 0).trans rfl : w17.cell? ⟨_, 0, none⟩ = some (.int .i64 0)); have hu1 := ((bkC HV17 1).trans rfl : w17.cell? ⟨_, 1, none⟩ = some (.int .i64 0)); have hu2 := ((bkC HV17 2).trans rfl : w17.cell? ⟨_, 2, none⟩ = some (.string ⟨#[]⟩)); have hv0 := bkF HV17 0; have hv1 := bkF HV17 1; have hv2 := bkF HV17 2) | (have hq1 : dv ≠ w16.heap.size := Nat.ne_of_lt (blk_lt HBD16.out); have hq2 : nb ≠ w16.heap.size := Nat.ne_of_lt (blk_lt HBN16.out); have hq3 := Ne.symm hq1; have hq4 := Ne.symm hq2; have hq5 := eq_false hq1; have hq6 := eq_false hq2; have hq7 := eq_false hq3; have hq8 := eq_false hq4; have HV17 : w17.heap[w16.heap.size]? = some (.cells #[.int .i64 0, .int .i64 0, .string ⟨#[]⟩] 23 (0, 0)) := (hB17.block _ (blk_lt (heap_alloc_new w16 _))).trans (heap_alloc_new w16 _); have hu0 := ((bkC HV17 0).trans rfl : w17.cell? ⟨_, 0, none⟩ = some (.int .i64 0)); have hu1 := ((bkC HV17 1).trans rfl : w17.cell? ⟨_, 1, none⟩ = some (.int .i64 0)); have hu2 := ((bkC HV17 2).trans rfl : w17.cell? ⟨_, 2, none⟩ = some (.string ⟨#[]⟩)); have hv0 := bkF HV17 0; have hv1 := bkF HV17 1; have hv2 := bkF HV17 2) | skip))
      | (go_at_call 14; (with_reducible refine (HEV2.out _ _ (by first | exact hC17 | exact Kd.C_alloc hC17 _)).mono ?_); rintro r w18 ⟨rfl, hB18⟩; have hB18' : Below w14.heap.size w14 w18 := (by first | exact hB17'.trans (hB18.mono hB17'.size) | exact (hB17'.alloc hB17'.size _).trans (hB18.mono (hB17'.alloc hB17'.size _).size)); have HBN18 := Lib.hid ((hB18'.block nb (blk_lt HBN14.out)).trans HBN14.out); have HBD18 := Lib.hid ((hB18'.block dv (blk_lt HBD14.out)).trans HBD14.out); have hz0 : w18.cell? ⟨dv, 0, none⟩ = some (.int .i64 7) := (bkC HBD18.out 0).trans rfl; have hy0 : w18.cell? ⟨nb, 0, none⟩ = some (.int .i64 1) := (bkC HBN18.out 0).trans rfl; have hz1 : w18.cell? ⟨dv, 1, none⟩ = some (.int .i64 0) := (bkC HBD18.out 1).trans rfl; have hy1 : w18.cell? ⟨nb, 1, none⟩ = some (.int .i64 0) := (bkC HBN18.out 1).trans rfl; have hz2 : w18.cell? ⟨dv, 2, none⟩ = some (.int .i64 0) := (bkC HBD18.out 2).trans rfl; have hy2 : w18.cell? ⟨nb, 2, none⟩ = some (.int .i64 0) := (bkC HBN18.out 2).trans rfl; have hz3 : w18.cell? ⟨dv, 3, none⟩ = some (.string ⟨#[]⟩) := (bkC HBD18.out 3).trans rfl; have hy3 : w18.cell? ⟨nb, 3, none⟩ = some (.string ⟨#[]⟩) := (bkC HBN18.out 3).trans rfl; have hz4 : w18.cell? ⟨dv, 4, none⟩ = some (.int .i64 0) := (bkC HBD18.out 4).trans rfl; have hy4 : w18.cell? ⟨nb, 4, none⟩ = some (.int .i64 0) := (bkC HBN18.out 4).trans rfl; have hz5 : w18.cell? ⟨dv, 5, none⟩ = some (.int .i64 0) := (bkC HBD18.out 5).trans rfl; have hy5 : w18.cell? ⟨nb, 5, none⟩ = some (.int .i64 0) := (bkC HBN18.out 5).trans rfl; have hz6 : w18.cell? ⟨dv, 6, none⟩ = some (.int .i64 0) := (bkC HBD18.out 6).trans rfl; have hy6 : w18.cell? ⟨nb, 6, none⟩ = some (.int .i64 0) := (bkC HBN18.out 6).trans rfl; have hz7 : w18.cell? ⟨dv, 7, none⟩ = some (.string ⟨#[]⟩) := (bkC HBD18.out 7).trans rfl; have hy7 : w18.cell? ⟨nb, 7, none⟩ = some (.string ⟨#[]⟩) := (bkC HBN18.out 7).trans rfl; have hz8 : w18.cell? ⟨dv, 8, none⟩ = some (.slice A2 2 2) := (bkC HBD18.out 8).trans rfl; have hy8 : w18.cell? ⟨nb, 8, none⟩ = some (.slice none 0 0) := (bkC HBN18.out 8).trans rfl; (first | (have HV18 := (hB18.block _ (blk_lt HV17)).trans HV17; have hu0 := ((bkC HV18 0).trans rfl : w18.cell? ⟨_, 0, none⟩ = some (.int .i64 0)); have hu1 := ((bkC HV18 1).trans rfl : w18.cell? ⟨_, 1, none⟩ = some (.int .i64 0)); have hu2 := ((bkC HV18 2).trans rfl : w18.cell? ⟨_, 2, none⟩ = some (.string ⟨#[]⟩)); have hv0 := bkF HV18 0; have hv1 := bkF HV18 1; have hv2 := bkF HV18 2) | (have hq1 : dv ≠ w17.heap.size := Nat.ne_of_lt (blk_lt HBD17.out); have hq2 : nb ≠ w17.heap.size := Nat.ne_of_lt (blk_lt HBN17.out); have hq3 := Ne.symm hq1; have hq4 := Ne.symm hq2; have hq5 := eq_false hq1; have hq6 := eq_false hq2; have hq7 := eq_false hq3; have hq8 := eq_false hq4; have HV18 : w18.heap[w17.heap.size]? = some (.cells #[.int .i64 0, .int .i64 0, .string ⟨#[]⟩] 23 (0, 0)) := (hB18.block _ (blk_lt (heap_alloc_new w17 _))).trans (heap_alloc_new w17 _); have hu0 := ((bkC HV18 0).trans rfl : w18.cell? ⟨_, 0, none⟩ = some (.int .i64 0)); have hu1 := ((bkC HV18 1).trans rfl : w18.cell? ⟨_, 1, none⟩ = some (.int .i64 0)); have hu2 := ((bkC HV18 2).trans rfl : w18.cell? ⟨_, 2, none⟩ = some (.string ⟨#[]⟩)); have hv0 := bkF HV18 0; have hv1 := bkF HV18 1; have hv2 := bkF HV18 2) | skip)))
    all_goals (go_wp2_with fail; go_meet; exact ⟨rfl, (by first | exact blA hB18' _ | exact va_below hB18' hB17'.size v2 | exact va_below hB18' hB16'.size v2 | exact va_below hB18' hB15.size v2 | exact va_below hB18' (Nat.le_refl _) v2)⟩)
  case rest =>
    obtain ⟨rfl, hBx⟩ := hcut
    have HW20 := Lib.hid (HW14.out.trans (hBx.mono HW14.out.size))
    have HBD20 := Lib.hid ((hBx.block dv (blk_lt HBD14.out)).trans HBD14.out)
    have HC20 := Lib.hid (Kd.C_below HC14.out hBx)
    clear hBx HC14 HBD14 HBN14 HW14 HEV2 HT6 HT5 HT3 HT2 HT1 HE1 HE2 hz0 hz1 hz2 hz3 hz4 hz5 hz6 hz7 hz8 hy0 hy1 hy2 hy3 hy4 hy5 hy6 hy7 hy8
    have HT8 : Hid (∀ w, Calls Tryd.prog 23 #[.int .i64 11, .agg #[.int .i64 2, .int .i64 0, .int .i64 0, .string ⟨#[]⟩, .int .i64 0, .int .i64 1, .int .i64 0, .string ⟨#[]⟩, .slice none 0 0], .agg #[.int .i64 1, .int .i64 1, .int .i64 2, .string ⟨#[]⟩, .int .i64 0, .int .i64 0, .int .i64 0, .string ⟨#[]⟩, .slice none 0 0]] w fun r w' => ∃ A, r = .returned (.agg #[.int .i64 11, .int .i64 0, .int .i64 0, .string ⟨#[]⟩, .int .i64 0, .int .i64 0, .int .i64 0, .string ⟨#[]⟩, .slice A 2 2]) ∧ Kd.C k26 w' A 2 [refE 0 1, numE 2] ∧ Below w.heap.size w w') := Lib.hid (fun w => two_ok 11 (refE 0 1) (numE 2) none none 0 0 w (by decide) (by decide) (Kd.C_nil _ _) (Kd.C_nil _ _))
    have HKD : Hid (∀ A6 W, Kd.C k26 W A6 2 [refE 0 1, numE 2] → Calls Tryd.prog 12 #[.agg #[.int .i64 11, .int .i64 0, .int .i64 0, .string ⟨#[]⟩, .int .i64 0, .int .i64 0, .int .i64 0, .string ⟨#[]⟩, .slice A6 2 2], .slice (some ⟨W.heap.size + 1, 0, none⟩) 1 1, .slice none 0 0] ((W.alloc (.cells #[.int .i64 0, .int .i64 1] 3)).alloc (.cells #[.slice (some ⟨W.heap.size, 0, none⟩) 2 2] 28)) fun r w' => r = .returned (.tuple #[.int .i64 2, .int .i64 0]) ∧ Below W.heap.size W w') := Lib.hid (fun A6 W h => by
      have hb2 := blA (blA (Below.refl _ W) (.cells #[.int .i64 0, .int .i64 1] 3)) (.cells #[.slice (some ⟨W.heap.size, 0, none⟩) 2 2] 28)
      have h := Kind_ok (twoE 11 (refE 0 1) (numE 2)) A6 (some ⟨W.heap.size + 1, 0, none⟩) none 2 1 0 [[0, 1]] [] _ (Kd.C_below h hb2) (by decide) (rows01_C W) (by decide) (Kd.C_nil _ _) (by decide)
      rw [ex_kind] at h
      exact h.mono fun _ _ ⟨he, hw⟩ => ⟨he, hb2.trans (hw.mono hb2.size)⟩)
    go_upto_region 7 with (first
      | (go_at_call 34; refine (HREF.out _ _ _).mono ?_; rintro r w21 ⟨rfl, hB21⟩)
      | (go_at_call 35; refine (HNUM.out _ _).mono ?_; rintro r w22 ⟨rfl, hB22⟩)
      | (go_at_call 23; refine (HT8.out _).mono ?_; rintro r w23 ⟨A6, rfl, hC23, hB23⟩)
      | (go_at_call 12; refine (HKD.out _ _ hC23).mono ?_; rintro r w24 ⟨rfl, hB24⟩))
    have hB24' : Below wc.heap.size wc w24 := hB21.trans ((hB22.trans ((hB23.trans (hB24.mono hB23.size)).mono hB22.size)).mono hB21.size)
    have HW24 := Lib.hid (HW20.out.trans (hB24'.mono HW20.out.size))
    have HBD24 := Lib.hid ((hB24'.block dv (blk_lt HBD20.out)).trans HBD20.out)
    have HC24 := Lib.hid (Kd.C_below HC20.out hB24')
    clear hB24' hB24 hB23 hB22 hB21 hC23 HC20 HBD20 HW20 HKD HT8 HNUM
    have hz0 : w24.cell? ⟨dv, 0, none⟩ = some (.int .i64 7) := (bkC HBD24.out 0).trans rfl; have hz1 : w24.cell? ⟨dv, 1, none⟩ = some (.int .i64 0) := (bkC HBD24.out 1).trans rfl; have hz2 : w24.cell? ⟨dv, 2, none⟩ = some (.int .i64 0) := (bkC HBD24.out 2).trans rfl; have hz3 : w24.cell? ⟨dv, 3, none⟩ = some (.string ⟨#[]⟩) := (bkC HBD24.out 3).trans rfl; have hz4 : w24.cell? ⟨dv, 4, none⟩ = some (.int .i64 0) := (bkC HBD24.out 4).trans rfl; have hz5 : w24.cell? ⟨dv, 5, none⟩ = some (.int .i64 0) := (bkC HBD24.out 5).trans rfl; have hz6 : w24.cell? ⟨dv, 6, none⟩ = some (.int .i64 0) := (bkC HBD24.out 6).trans rfl; have hz7 : w24.cell? ⟨dv, 7, none⟩ = some (.string ⟨#[]⟩) := (bkC HBD24.out 7).trans rfl; have hz8 : w24.cell? ⟨dv, 8, none⟩ = some (.slice A2 2 2) := (bkC HBD24.out 8).trans rfl
    have HRG : Hid (Calls Tryd.prog 17 #[.agg #[.int .i64 7, .int .i64 0, .int .i64 0, .string ⟨#[]⟩, .int .i64 0, .int .i64 0, .int .i64 0, .string ⟨#[]⟩, .slice A2 2 2]] w24 fun r w' => r = .returned (.bool true) ∧ Below w24.heap.size w24 w') := Lib.hid (by have h := right_ok exDiv A2 2 w24 HC24.out (by decide); rw [ex_div] at h; exact h)
    have HTB : Hid (∀ w, Calls Tryd.prog 16 #[.agg #[.int .i64 2, .int .i64 0, .int .i64 0, .string ⟨#[]⟩, .int .i64 2, .int .i64 0, .int .i64 0, .string ⟨#[]⟩, .slice none 0 0]] w fun r w' => r = .returned (.int .i64 4) ∧ Below w.heap.size w w') := Lib.hid (fun w => by have h := tables_ok (refE 2 0) none 0 w (Kd.C_nil _ _) (by decide); rw [ex_tab] at h; exact h)
    go_wp2_with (first
      | (go_at_call 17; refine HRG.out.mono ?_; rintro r w25 ⟨rfl, hB25⟩)
      | (go_at_call 34; refine (HREF.out _ _ _).mono ?_; rintro r w26 ⟨rfl, hB26⟩)
      | (go_at_call 16; refine (HTB.out _).mono ?_; rintro r w27 ⟨rfl, hB27⟩))
    have hW25 := HW24.out.trans (hB25.mono HW24.out.size)
    have hW26 := hW25.trans (hB26.mono hW25.size)
    have hW27 := hW26.trans (hB27.mono hW26.size)
    go_ret
    exact ⟨rfl, hW27⟩
end Go.Proofs.YtkboodfnegedaaaDoor.E
namespace Go.Proofs.YtkboodfnegedaaaDoor.E
open Go.RowKit Go.Proofs.YtkboodfnegedaaaDoorW.PrintWords Go.Proofs.YtkboodfnegedaaaDoorW.PrintLast Go.Proofs.YtkboodfnegedaaaDoorW.PrintMore
attribute [local go_sem high] eqA23
def tabsO (l : List Ex) : Int := l.foldl (fun t x => Go.bits .or .i64 t (tabN x)) 0
theorem tabsO_snoc (l : List Ex) (x : Ex) : tabsO (l ++ [x]) = Go.bits .or .i64 (tabsO l) (tabN x) := by simp [tabsO]
theorem infoRow : (Tryd.prog.info? 37).map (fun i => (i.zero, i.size, i.bytes)) = some (some (.slice none 0 0), 1, 24) := by kernel_rfl
set_option maxHeartbeats 1000000 in
set_option maxRecDepth 100000 in
theorem tlaw_ok (e : Ex) (A : Option Addr) (c : Nat) (rows : List (List Va)) (A1 : Option Addr) (c1 : Nat) (ps : List Va) (A2 : Option Addr) (c2 : Nat) (wh : Int) (other : List Va) (A4 : Option Addr) (c4 : Nat) (w : World) (hT : TabW w)
    (hC : Kd.C k26 w A e.f6.length e.f6) (hc : e.f6.length ≤ c) (hC1 : Kd.C (Kd.slice 23 k23) w A1 rows.length rows) (hc1 : rows.length ≤ c1) (hC2 : Kd.C k23 w A2 ps.length ps) (hc2 : ps.length ≤ c2)
    (hC4 : Kd.C k23 w A4 other.length other) (hc4 : other.length ≤ c4) (hw0 : -9223372036854775808 ≤ wh) (hw1 : wh ≤ 9223372036854775807)
    (q1 : rightB e = true → 0 < e.f6.length → tabN e = tabsO e.f6)
    (q2 : ∀ j : Nat, j < rows.length → rows.length ≤ 6 → (Go.bits .and .i64 (tabN e / 2 ^ j) 1 == 1) = false → evalRes e (rows.set j other) ps = evalRes e rows ps) :
    Calls Tryd.prog 5 #[.agg (exC e A c), .slice A1 rows.length c1, .slice A2 ps.length c2, .int .i64 wh, .slice A4 other.length c4] w fun r w' => r = .returned (.bool true) ∧ Below w.heap.size w w' := by
  have HT := Lib.hid hT; have HC := Lib.hid hC; have HC1 := Lib.hid hC1; have HC2 := Lib.hid hC2; have HC4 := Lib.hid hC4; have Q1 := Lib.hid q1; have Q2 := Lib.hid q2
  clear hT hC hC1 hC2 hC4 q1 q2
  unfold exC
  go_enter Tryd.func5, Tryd.ntmps5
  go_upto_region 2 with (first | ((with_reducible refine gate_dst (N := 5) rfl ?_); refine box_event rfl (N := 5) rfl (cs := exC e A c) (t := 26) (by first | rfl | (go_simp; done) | (go_simp; rfl)) ?_; intro g hgg w1 hbg hBg;  clear hgg) | (go_at_call 11; refine (examples_ok _ (tab_at HT.out hBg)).mono ?_; rintro r w2 ⟨rfl, hB2⟩))
  have HB2 := Lib.hid (hBg.trans (hB2.mono hBg.size)); have BG2 := Lib.hid ((hB2.block g (blk_lt hbg)).trans hbg)
  clear hBg hB2 hbg HT
  have hz0 : w2.cell? ⟨g, 0, none⟩ = some (.int .i64 e.f0) := (bkC BG2.out 0).trans rfl; have hz1 : w2.cell? ⟨g, 1, none⟩ = some (.int .i64 e.f1.f0) := (bkC BG2.out 1).trans rfl; have hz2 : w2.cell? ⟨g, 2, none⟩ = some (.int .i64 e.f1.f1) := (bkC BG2.out 2).trans rfl; have hz3 : w2.cell? ⟨g, 3, none⟩ = some (.string e.f1.f2) := (bkC BG2.out 3).trans rfl; have hz4 : w2.cell? ⟨g, 4, none⟩ = some (.int .i64 e.f2) := (bkC BG2.out 4).trans rfl; have hz5 : w2.cell? ⟨g, 5, none⟩ = some (.int .i64 e.f3) := (bkC BG2.out 5).trans rfl; have hz6 : w2.cell? ⟨g, 6, none⟩ = some (.int .i64 e.f4) := (bkC BG2.out 6).trans rfl; have hz7 : w2.cell? ⟨g, 7, none⟩ = some (.string e.f5) := (bkC BG2.out 7).trans rfl; have hz8 : w2.cell? ⟨g, 8, none⟩ = some (.slice A e.f6.length c) := (bkC BG2.out 8).trans rfl
  obtain ⟨n, hn⟩ : ∃ n, e.f6.length = n := ⟨_, rfl⟩
  have HN := Lib.hid hn
  simp only [hn]
  have hnm : n ≤ 9223372036854775807 := by have h := HC.out.2.1; rw [hn] at h; exact h
  go_wp2_with fail
  go_loopw [12, 13] (fun v12 v13 wr => ∃ k : Nat, k ≤ n ∧ v13 = .int .i64 k ∧ v12 = .int .i64 (tabsO (e.f6.take k)) ∧ Hid (Below w.heap.size w wr ∧ wr.heap[g]? = some (.cells (exC e A c) 26 (0, 0)))) (fun _ i _ => n - (intOf i).toNat)
  case atStart => exact ⟨0, Nat.zero_le _, rfl, rfl, ⟨HB2.out, BG2.out⟩⟩
  case round =>
    obtain ⟨k, hk, rfl, rfl, HK⟩ := hrel
    clear hz0 hz1 hz2 hz3 hz4 hz5 hz6 hz7 hz8
    have hz0 : wr.cell? ⟨g, 0, none⟩ = some (.int .i64 e.f0) := (bkC HK.out.2 0).trans rfl; have hz1 : wr.cell? ⟨g, 1, none⟩ = some (.int .i64 e.f1.f0) := (bkC HK.out.2 1).trans rfl; have hz2 : wr.cell? ⟨g, 2, none⟩ = some (.int .i64 e.f1.f1) := (bkC HK.out.2 2).trans rfl; have hz3 : wr.cell? ⟨g, 3, none⟩ = some (.string e.f1.f2) := (bkC HK.out.2 3).trans rfl; have hz4 : wr.cell? ⟨g, 4, none⟩ = some (.int .i64 e.f2) := (bkC HK.out.2 4).trans rfl; have hz5 : wr.cell? ⟨g, 5, none⟩ = some (.int .i64 e.f3) := (bkC HK.out.2 5).trans rfl; have hz6 : wr.cell? ⟨g, 6, none⟩ = some (.int .i64 e.f4) := (bkC HK.out.2 6).trans rfl; have hz7 : wr.cell? ⟨g, 7, none⟩ = some (.string e.f5) := (bkC HK.out.2 7).trans rfl; have hz8 : wr.cell? ⟨g, 8, none⟩ = some (.slice A e.f6.length c) := (bkC HK.out.2 8).trans rfl
    by_cases hlt : k < n
    · have hlt' : (k : Int) < n := by omega
      rw [hn] at HC
      obtain ⟨ad, A8, c8, x, rfl, HE, h0, h1, h2, h3, h4, h5, h6, h7, h8, hc8, hC8⟩ := at_ex HC.out hn k hlt
      replace HE := Lib.hid HE
      have HC8 := Lib.hid hC8; clear hC8
      replace h0 := pw_cell_below HK.out.1 h0; replace h1 := pw_cell_below HK.out.1 h1; replace h2 := pw_cell_below HK.out.1 h2; replace h3 := pw_cell_below HK.out.1 h3; replace h4 := pw_cell_below HK.out.1 h4; replace h5 := pw_cell_below HK.out.1 h5; replace h6 := pw_cell_below HK.out.1 h6; replace h7 := pw_cell_below HK.out.1 h7; replace h8 := pw_cell_below HK.out.1 h8
      have HTS : Hid (tabsO (e.f6.take (k + 1)) = Go.bits .or .i64 (tabsO (e.f6.take k)) (tabN x)) := by
        have h := HE.out; rw [List.getElem?_eq_some_iff] at h; obtain ⟨h, h'⟩ := h
        rw [List.take_succ_eq_append_getElem h, tabsO_snoc, h']; exact Lib.hid rfl
      have HTB := Lib.hid (tables_ok x A8 c8 wr (Kd.C_below HC8.out HK.out.1) hc8)
      unfold exC at HTB
      clear HE
      go_wp2_with (go_at_call 16; refine HTB.out.mono ?_; rintro r w5 ⟨rfl, hB5⟩)
      go_roundw
      case rel => exact ⟨k + 1, by omega, by go_num, by rw [HTS.out], ⟨HK.out.1.trans (hB5.mono HK.out.1.size), (hB5.block g (blk_lt HK.out.2)).trans HK.out.2⟩⟩
      case measure => simp [intOf]; omega
    · have hlt' : ¬ (k : Int) < n := by omega
      obtain rfl : n = k := by omega
      have hts : tabsO (e.f6.take n) = tabsO e.f6 := by rw [← HN.out, List.take_length]
      rw [hts]
      clear hts
      obtain ⟨t, ht⟩ : ∃ t, tabsO e.f6 = t := ⟨_, rfl⟩
      obtain ⟨s, hs⟩ : ∃ s, tabN e = s := ⟨_, rfl⟩
      rw [ht] at Q1 ⊢
      rw [hs] at Q1 Q2
      have HTB := Lib.hid (tables_ok e A c wr (Kd.C_below HC.out HK.out.1) hc)
      unfold exC at HTB
      rw [hs] at HTB
      clear hs ht
      go_upto_region 7 with (fail)
      clear hn
      have HKB := Lib.hid HK.out.1; have HKG := Lib.hid HK.out.2
      clear HK
      go_upto_region 8 with (go_at_call 16; refine HTB.out.mono ?_; rintro r w6 ⟨rfl, hB6⟩)
      clear hz0 hz1 hz2 hz3 hz4 hz5 hz6 hz7 hz8
      have HB6 := Lib.hid (HKB.out.trans (hB6.mono HKB.out.size)); have BG6 := Lib.hid ((hB6.block g (blk_lt HKG.out)).trans HKG.out)
      clear hB6 HTB HKB HKG
      have hz0 : w6.cell? ⟨g, 0, none⟩ = some (.int .i64 e.f0) := (bkC BG6.out 0).trans rfl; have hz1 : w6.cell? ⟨g, 1, none⟩ = some (.int .i64 e.f1.f0) := (bkC BG6.out 1).trans rfl; have hz2 : w6.cell? ⟨g, 2, none⟩ = some (.int .i64 e.f1.f1) := (bkC BG6.out 2).trans rfl; have hz3 : w6.cell? ⟨g, 3, none⟩ = some (.string e.f1.f2) := (bkC BG6.out 3).trans rfl; have hz4 : w6.cell? ⟨g, 4, none⟩ = some (.int .i64 e.f2) := (bkC BG6.out 4).trans rfl; have hz5 : w6.cell? ⟨g, 5, none⟩ = some (.int .i64 e.f3) := (bkC BG6.out 5).trans rfl; have hz6 : w6.cell? ⟨g, 6, none⟩ = some (.int .i64 e.f4) := (bkC BG6.out 6).trans rfl; have hz7 : w6.cell? ⟨g, 7, none⟩ = some (.string e.f5) := (bkC BG6.out 7).trans rfl; have hz8 : w6.cell? ⟨g, 8, none⟩ = some (.slice A e.f6.length c) := (bkC BG6.out 8).trans rfl
      have HRG := Lib.hid (right_ok e A c w6 (Kd.C_below HC.out HB6.out) hc)
      unfold exC at HRG
      try simp only [Act.put, List.setIfInBounds_toArray, List.set_cons_succ, List.set_cons_zero]
      go_cut [50] from 38 to 51 (fun s50 wx => s50 = .bool false ∧ Below w6.heap.size w6 wx)
      case first =>
        cases hr : rightB e with
        | false =>
          rw [hr] at HRG
          clear hr
          go_wp2_with (go_at_call 17; refine HRG.out.mono ?_; rintro r w7 ⟨rfl, hB7⟩)
          go_meet; exact ⟨rfl, hB7⟩
        | true =>
          rw [hr] at HRG
          by_cases hl : 0 < e.f6.length
          · have hst : (s != t) = false := bne_eq_false_iff_eq.mpr (Q1.out hr hl)
            have hl2 : (0 : Int) < (e.f6.length : Int) := by omega
            clear hr
            go_wp2_with (go_at_call 17; refine HRG.out.mono ?_; rintro r w7 ⟨rfl, hB7⟩; have BG7 := Lib.hid ((hB7.block g (blk_lt BG6.out)).trans BG6.out); have hz0 : w7.cell? ⟨g, 0, none⟩ = some (.int .i64 e.f0) := (bkC BG7.out 0).trans rfl; have hz1 : w7.cell? ⟨g, 1, none⟩ = some (.int .i64 e.f1.f0) := (bkC BG7.out 1).trans rfl; have hz2 : w7.cell? ⟨g, 2, none⟩ = some (.int .i64 e.f1.f1) := (bkC BG7.out 2).trans rfl; have hz3 : w7.cell? ⟨g, 3, none⟩ = some (.string e.f1.f2) := (bkC BG7.out 3).trans rfl; have hz4 : w7.cell? ⟨g, 4, none⟩ = some (.int .i64 e.f2) := (bkC BG7.out 4).trans rfl; have hz5 : w7.cell? ⟨g, 5, none⟩ = some (.int .i64 e.f3) := (bkC BG7.out 5).trans rfl; have hz6 : w7.cell? ⟨g, 6, none⟩ = some (.int .i64 e.f4) := (bkC BG7.out 6).trans rfl; have hz7 : w7.cell? ⟨g, 7, none⟩ = some (.string e.f5) := (bkC BG7.out 7).trans rfl; have hz8 : w7.cell? ⟨g, 8, none⟩ = some (.slice A e.f6.length c) := (bkC BG7.out 8).trans rfl)
            go_meet; exact ⟨rfl, hB7⟩
          · have hl2 : ¬ (0 : Int) < (e.f6.length : Int) := by omega
            clear hr
            go_wp2_with (go_at_call 17; refine HRG.out.mono ?_; rintro r w7 ⟨rfl, hB7⟩; have BG7 := Lib.hid ((hB7.block g (blk_lt BG6.out)).trans BG6.out); have hz0 : w7.cell? ⟨g, 0, none⟩ = some (.int .i64 e.f0) := (bkC BG7.out 0).trans rfl; have hz1 : w7.cell? ⟨g, 1, none⟩ = some (.int .i64 e.f1.f0) := (bkC BG7.out 1).trans rfl; have hz2 : w7.cell? ⟨g, 2, none⟩ = some (.int .i64 e.f1.f1) := (bkC BG7.out 2).trans rfl; have hz3 : w7.cell? ⟨g, 3, none⟩ = some (.string e.f1.f2) := (bkC BG7.out 3).trans rfl; have hz4 : w7.cell? ⟨g, 4, none⟩ = some (.int .i64 e.f2) := (bkC BG7.out 4).trans rfl; have hz5 : w7.cell? ⟨g, 5, none⟩ = some (.int .i64 e.f3) := (bkC BG7.out 5).trans rfl; have hz6 : w7.cell? ⟨g, 6, none⟩ = some (.int .i64 e.f4) := (bkC BG7.out 6).trans rfl; have hz7 : w7.cell? ⟨g, 7, none⟩ = some (.string e.f5) := (bkC BG7.out 7).trans rfl; have hz8 : w7.cell? ⟨g, 8, none⟩ = some (.slice A e.f6.length c) := (bkC BG7.out 8).trans rfl)
            go_meet; exact ⟨rfl, hB7⟩
      case rest =>
        obtain ⟨rfl, hBx⟩ := hcut
        have HB8 := Lib.hid (HB6.out.trans (hBx.mono HB6.out.size)); have BG8 := Lib.hid ((hBx.block g (blk_lt BG6.out)).trans BG6.out)
        clear hBx HB6 BG6 HRG Q1 hz0 hz1 hz2 hz3 hz4 hz5 hz6 hz7 hz8
        obtain ⟨w8, rfl⟩ : ∃ w8 : World, w8 = wc := ⟨_, rfl⟩
        obtain ⟨m, hm⟩ : ∃ m, rows.length = m := ⟨_, rfl⟩
        have HM := Lib.hid hm
        have hmm : m ≤ 9223372036854775807 := by have h := HC1.out.2.1; rw [hm] at h; exact h
        simp only [hm]
        clear hm
        rcases (by omega : wh < 0 ∨ 0 ≤ wh) with hneg | hpos
        · have hneg' : ¬ 0 ≤ wh := by omega
          go_upto_region 12 with (fail)
          obtain ⟨v, hv⟩ : ∃ v, -(wh + 1) = v := ⟨_, rfl⟩
          rw [hv]
          have hv0 : 0 ≤ v := by omega
          have hv1 : v ≤ 9223372036854775807 := by omega
          clear hv hneg hneg' hw0 hw1
          by_cases hz : m = 0
          · have e0 : ((m : Int) == 0) = true := by simp [hz]
            clear hz
            go_wp2_with fail
            go_ret
            exact ⟨rfl, HB8.out⟩
          · have e0 : ((m : Int) == 0) = false := by simp [hz]
            by_cases h6 : 6 < m
            · have e6 : (6 : Int) < (m : Int) := by omega
              clear hz h6
              go_wp2_with fail
              go_ret
              exact ⟨rfl, HB8.out⟩
            · have e6 : ¬ (6 : Int) < (m : Int) := by omega
              have e1 : (0 : Int) < (m : Int) := by omega
              go_upto_region 15 with (fail)
              obtain ⟨j, hj, hjm⟩ : ∃ j : Nat, v % (m : Int) = (j : Int) ∧ j < m := ⟨(v % (m : Int)).toNat, by have := Int.emod_nonneg v (show (m : Int) ≠ 0 by omega); omega, by have h1 := Int.emod_nonneg v (show (m : Int) ≠ 0 by omega); have h2 := Int.emod_lt_of_pos v e1; omega⟩
              rw [hj]
              have hj0 : (0 : Int) ≤ (j : Int) := by omega
              have hj1 : (j : Int) < (m : Int) := by omega
              have hj2 : (j : Int) < 64 := by omega
              clear hj hv0 hv1
              rcases Bool.eq_false_or_eq_true (Go.bits .and .i64 (s / 2 ^ j) 1 == 1) with hbit | hbit
              · go_wp2_with fail
                go_ret
                exact ⟨rfl, HB8.out⟩
              · have HEQ := Lib.hid (Q2.out j (by rw [HM.out]; exact hjm) (by rw [HM.out]; omega) hbit)
                have hm6 : m * 24 ≤ 140737488355328 := by omega
                have hj3 : j < m := hjm
                have HC18 : Kd.C (Kd.slice 23 k23) w8 A1 m rows := by have h := Kd.C_below HC1.out HB8.out; rw [HM.out] at h; exact h
                have HCR := Lib.hid HC18
                have HO4 : (Kd.slice 23 k23).K w8 other [.slice A4 other.length c4] := ⟨A4, c4, rfl, hc4, Kd.C_below HC4.out HB8.out⟩
                have HK4 := Lib.hid HO4
                clear HC18 HO4 Q2 hjm
                go_upto_region 18 with (at_builtin; refine Kd.R_append_rows (Kd.fixed (Kd.slice 23 k23) w8) (Rr := (Kd.slice 23 k23).K w8) (w0 := w8) w8.heap.size rfl (.const (.slice none 0 0)) (.tmp 75) 36 37 (.slice none 0 0) 24 rfl Tryd.underlying36 infoRow rfl (show 0 < 1 from Nat.one_pos) (by decide) (.slice none 0 0) [] rows A1 m c1 (fun _ => True) (fun _ => False) rfl rfl (Kd.R_nil _ _ _ _ _) HCR.out (fun _ _ h => h) (fun _ hk => hk.elim) (fun _ _ => trivial) (Below.refl _ _) (Nat.le_refl _) (by simp only [List.length_nil, Nat.zero_add]; omega) ?_; intro v1 w9 ho hb9 hg9 hat9; have HO9 := Lib.hid ho; clear ho hg9)
                obtain ⟨gb, cap, rfl, hgb⟩ : ∃ gb cap, v1 = .slice (some ⟨gb, 0, none⟩) m cap ∧ w8.heap.size ≤ gb := by
                  obtain ⟨_, inner, hown, _⟩ := HO9.out
                  rw [List.nil_append, HM.out] at hown
                  obtain ⟨gb, cap, rfl, hb, _⟩ := hown.form (by omega)
                  exact ⟨gb, cap, rfl, hb⟩
                clear hat9
                have HB9 := Lib.hid hb9; clear hb9
                have hcap : (m : Int) ≤ 9223372036854775807 := by omega
                obtain ⟨hlm, hmc, hC9⟩ := Kd.R_reads' HO9.out
                have hjl : j < ([] ++ rows : List (List Va)).length := by omega
                obtain ⟨cs, hcs1, hcs2⟩ : ∃ cs : List Value, cs.length = 1 ∧ ∀ i u, cs[i]? = some u → w9.cell? ⟨gb, (j : Int).toNat * 1 + i, none⟩ = some u := by
                  obtain ⟨ad, he, hc⟩ := hC9.2.2 (by omega)
                  cases he
                  obtain ⟨cs, h1, _, h2⟩ := hc j _ (List.getElem?_eq_getElem hjl)
                  refine ⟨cs, h1, fun i u hu => ?_⟩
                  have h := h2 i u hu
                  rw [add_plain] at h
                  simpa [Kd.fixed, Kd.slice] using h
                clear hC9 hgb
                have hoj : j = (j : Int).toNat * (Kd.fixed (Kd.slice 23 k23) w8).sz + 0 := by simp [Kd.fixed, Kd.slice]
                have hq1 : ∀ q ∈ [Value.slice A4 other.length c4], q.oneCell' = true := by intro q hq; obtain rfl := List.mem_singleton.1 hq; rfl
                have hMo : (Kd.fixed (Kd.slice 23 k23) w8).M w9 w8.heap.size (fun _ => False) other (cs.take 0 ++ [.slice A4 other.length c4] ++ cs.drop (0 + 1)) := (show (Kd.slice 23 k23).K w8 other (cs.take 0 ++ [.slice A4 other.length c4] ++ cs.drop 1) from by rw [List.take_zero, List.drop_eq_nil_of_le (by omega)]; exact HK4.out)
                have HOJ := Lib.hid hoj; have HQ1 := Lib.hid hq1; have HMO := Lib.hid hMo; have HCS := Lib.hid (And.intro hcs1 hcs2)
                clear hoj hq1 hMo hcs1 hcs2 hlm hjl
                go_upto_region 19 with ((with_reducible refine gate_ (.store 37 (.tmp 80) (.tmp 79)) rfl ?_); go_loud (refine Kd.R_store (α := List Va) (P := Tryd.prog) (Kd.fixed (Kd.slice 23 k23) w8) (w0 := w8) (W := w9) (g := gb) (n := m) (cap := cap) (o' := j) w8.heap.size rfl rfl 37 (.tmp 80) (.tmp 79) rfl 37 (j : Int) 0 ([] ++ rows) other (.slice A4 other.length c4) [.slice A4 other.length c4] cs (fun _ => True) (fun _ => False) rfl HOJ.out rfl rfl rfl HQ1.out HO9.out hj0 hj1 HCS.out.1 HCS.out.2 (Nat.le_refl 1) HMO.out (fun _ hk => hk.elim) HB9.out ?_; intro w10 hr10 hb10 hg10))
                have HC10 : Hid (Kd.C (Kd.slice 23 k23) w10 (some ⟨gb, 0, none⟩) (rows.set j other).length (rows.set j other)) := Lib.hid (by
                  obtain ⟨_, _, h⟩ := Kd.R_reads' hr10
                  have h2 : Kd.C (Kd.slice 23 k23) w10 (some ⟨gb, 0, none⟩) (([] ++ rows : List (List Va)).set (j : Int).toNat other).length (([] ++ rows : List (List Va)).set (j : Int).toNat other) := ReadsRow.imp_ h (Below.refl _ _) (fun _ _ hp => (Kd.slice 23 k23).K_below hb10 hp)
                  simpa using h2)
                have HSL : Hid ((rows.set j other).length = m) := Lib.hid (by rw [List.length_set, HM.out])
                have HMC := Lib.hid hmc
                have HB10 := Lib.hid (HB8.out.trans (hb10.mono HB8.out.size))
                have BG10 := Lib.hid ((hb10.block g (blk_lt BG8.out)).trans BG8.out)
                clear HO9 HB9 hr10 hb10 hg10 HCS HMO HQ1 HOJ hmc HK4 HCR HB8 BG8
                obtain ⟨v1, k1, hq⟩ : ∃ v1 k1, evalRes e rows ps = (v1, k1) := ⟨_, _, rfl⟩
                have HEV1 : Hid (Calls Tryd.prog 14 #[.agg (exC e A c), .slice A1 m c1, .slice A2 ps.length c2] w10 fun r w' => r = .returned (.tuple #[.agg #[.int .i64 v1.f0, .int .i64 v1.f1, .string v1.f2], .int .i64 k1]) ∧ Below w10.heap.size w10 w') := Lib.hid (by have h := Eval_ok e A A1 A2 c c1 c2 rows ps w10 (Kd.C_below HC.out HB10.out) hc (Kd.C_below HC1.out HB10.out) hc1 (Kd.C_below HC2.out HB10.out) hc2; rw [hq, HM.out] at h; exact h)
                have HEV2 : Hid (∀ w', Below w10.heap.size w10 w' → Calls Tryd.prog 14 #[.agg (exC e A c), .slice (some ⟨gb, 0, none⟩) m cap, .slice A2 ps.length c2] w' fun r w1' => r = .returned (.tuple #[.agg #[.int .i64 v1.f0, .int .i64 v1.f1, .string v1.f2], .int .i64 k1]) ∧ Below w'.heap.size w' w1') := Lib.hid (fun w' hw' => by have h := Eval_ok e A (some ⟨gb, 0, none⟩) A2 c cap c2 (rows.set j other) ps w' (Kd.C_below HC.out (HB10.out.trans (hw'.mono HB10.out.size))) hc (Kd.C_below HC10.out hw') (by rw [HSL.out]; exact HMC.out) (Kd.C_below HC2.out (HB10.out.trans (hw'.mono HB10.out.size))) hc2; rw [HEQ.out, hq, HSL.out] at h; exact h)
                clear hq HEQ HC10 HMC HSL
                unfold exC at HEV1 HEV2
                have hz0 : w10.cell? ⟨g, 0, none⟩ = some (.int .i64 e.f0) := (bkC BG10.out 0).trans rfl; have hz1 : w10.cell? ⟨g, 1, none⟩ = some (.int .i64 e.f1.f0) := (bkC BG10.out 1).trans rfl; have hz2 : w10.cell? ⟨g, 2, none⟩ = some (.int .i64 e.f1.f1) := (bkC BG10.out 2).trans rfl; have hz3 : w10.cell? ⟨g, 3, none⟩ = some (.string e.f1.f2) := (bkC BG10.out 3).trans rfl; have hz4 : w10.cell? ⟨g, 4, none⟩ = some (.int .i64 e.f2) := (bkC BG10.out 4).trans rfl; have hz5 : w10.cell? ⟨g, 5, none⟩ = some (.int .i64 e.f3) := (bkC BG10.out 5).trans rfl; have hz6 : w10.cell? ⟨g, 6, none⟩ = some (.int .i64 e.f4) := (bkC BG10.out 6).trans rfl; have hz7 : w10.cell? ⟨g, 7, none⟩ = some (.string e.f5) := (bkC BG10.out 7).trans rfl; have hz8 : w10.cell? ⟨g, 8, none⟩ = some (.slice A e.f6.length c) := (bkC BG10.out 8).trans rfl
                go_upto_region 20 with (first
                  | (go_at_call 14; refine HEV1.out.mono ?_; rintro r w11 ⟨rfl, hB11⟩)
                  | ((with_reducible refine gate_dst (N := 16) rfl ?_); refine box_event rfl (N := 16) rfl (cs := vaC zeroV) (t := 23) (by first | rfl | (go_simp; done) | (go_simp; rfl)) ?_; intro va hgg w12 hbva hBva;  have hva : w10.heap.size ≤ va := (by have := hB11.size; omega); have hc0 : w12.cell? ⟨va, 0, none⟩ = some (.int .i64 0) := ((bkC hbva 0).trans rfl); have hc1 : w12.cell? ⟨va, 1, none⟩ = some (.int .i64 0) := ((bkC hbva 1).trans rfl); have hc2 : w12.cell? ⟨va, 2, none⟩ = some (.string ⟨#[]⟩) := ((bkC hbva 2).trans rfl); have hf0 := bkF hbva 0; have hf1 := bkF hbva 1; have hf2 := bkF hbva 2; clear hgg))
                have hB13 := va_below (hB11.trans (hBva.mono hB11.size)) hva v1
                have hbv := va_put hbva v1
                clear hc0 hc1 hc2 hf0 hf1 hf2 hbva hBva hB11 HEV1 hz0 hz1 hz2 hz3 hz4 hz5 hz6 hz7 hz8
                generalize ((w12.setCell ⟨va, 0, none⟩ (.int .i64 v1.f0)).setCell ⟨va, 1, none⟩ (.int .i64 v1.f1)).setCell ⟨va, 2, none⟩ (.string v1.f2) = w13 at hB13 hbv ⊢
                have BG13 := Lib.hid ((hB13.block g (blk_lt BG10.out)).trans BG10.out); have HB13 := Lib.hid (HB10.out.trans (hB13.mono HB10.out.size)); have HEV3 := Lib.hid (HEV2.out w13 hB13); have BV13 := Lib.hid hbv
                clear hB13 hbv HEV2 BG10 HB10 hva
                have hz0 : w13.cell? ⟨g, 0, none⟩ = some (.int .i64 e.f0) := (bkC BG13.out 0).trans rfl; have hz1 : w13.cell? ⟨g, 1, none⟩ = some (.int .i64 e.f1.f0) := (bkC BG13.out 1).trans rfl; have hz2 : w13.cell? ⟨g, 2, none⟩ = some (.int .i64 e.f1.f1) := (bkC BG13.out 2).trans rfl; have hz3 : w13.cell? ⟨g, 3, none⟩ = some (.string e.f1.f2) := (bkC BG13.out 3).trans rfl; have hz4 : w13.cell? ⟨g, 4, none⟩ = some (.int .i64 e.f2) := (bkC BG13.out 4).trans rfl; have hz5 : w13.cell? ⟨g, 5, none⟩ = some (.int .i64 e.f3) := (bkC BG13.out 5).trans rfl; have hz6 : w13.cell? ⟨g, 6, none⟩ = some (.int .i64 e.f4) := (bkC BG13.out 6).trans rfl; have hz7 : w13.cell? ⟨g, 7, none⟩ = some (.string e.f5) := (bkC BG13.out 7).trans rfl; have hz8 : w13.cell? ⟨g, 8, none⟩ = some (.slice A e.f6.length c) := (bkC BG13.out 8).trans rfl
                go_upto_region 21 with (first
                  | (go_at_call 14; refine HEV3.out.mono ?_; rintro r w14 ⟨rfl, hB14⟩)
                  | ((with_reducible refine gate_dst (N := 18) rfl ?_); refine box_event rfl (N := 18) rfl (cs := vaC zeroV) (t := 23) (by first | rfl | (go_simp; done) | (go_simp; rfl)) ?_; intro vb hgg w15 hbvb hBvb;  have hvb : w13.heap.size ≤ vb := (by have := hB14.size; omega); have hc0 : w15.cell? ⟨vb, 0, none⟩ = some (.int .i64 0) := ((bkC hbvb 0).trans rfl); have hc1 : w15.cell? ⟨vb, 1, none⟩ = some (.int .i64 0) := ((bkC hbvb 1).trans rfl); have hc2 : w15.cell? ⟨vb, 2, none⟩ = some (.string ⟨#[]⟩) := ((bkC hbvb 2).trans rfl); have hf0 := bkF hbvb 0; have hf1 := bkF hbvb 1; have hf2 := bkF hbvb 2; clear hgg))
                have hB16 := va_below (hB14.trans (hBvb.mono hB14.size)) hvb v1
                have hbw := va_put hbvb v1
                clear hc0 hc1 hc2 hf0 hf1 hf2 hbvb hBvb hB14 HEV3 hz0 hz1 hz2 hz3 hz4 hz5 hz6 hz7 hz8
                generalize ((w15.setCell ⟨vb, 0, none⟩ (.int .i64 v1.f0)).setCell ⟨vb, 1, none⟩ (.int .i64 v1.f1)).setCell ⟨vb, 2, none⟩ (.string v1.f2) = w16 at hB16 hbw ⊢
                have BV16 := Lib.hid ((hB16.block va (blk_lt BV13.out)).trans BV13.out); have HB16 := Lib.hid (HB13.out.trans (hB16.mono HB13.out.size)); have BW16 := Lib.hid hbw
                clear hB16 hbw BV13 BG13 HB13 hvb
                have ha0 : w16.cell? ⟨va, 0, none⟩ = some (.int .i64 v1.f0) := (bkC BV16.out 0).trans rfl; have ha1 : w16.cell? ⟨va, 1, none⟩ = some (.int .i64 v1.f1) := (bkC BV16.out 1).trans rfl; have ha2 : w16.cell? ⟨va, 2, none⟩ = some (.string v1.f2) := (bkC BV16.out 2).trans rfl
                have hb0 : w16.cell? ⟨vb, 0, none⟩ = some (.int .i64 v1.f0) := (bkC BW16.out 0).trans rfl; have hb1 : w16.cell? ⟨vb, 1, none⟩ = some (.int .i64 v1.f1) := (bkC BW16.out 1).trans rfl; have hb2 : w16.cell? ⟨vb, 2, none⟩ = some (.string v1.f2) := (bkC BW16.out 2).trans rfl
                go_wp2_with (fail)
                go_ret
                exact ⟨rfl, HB16.out⟩
        · have hneg' : ¬ wh < 0 := by omega
          go_upto_region 12 with (fail)
          obtain ⟨v, hv⟩ : ∃ v, wh = v := ⟨_, rfl⟩
          rw [hv]
          have hv0 : 0 ≤ v := by omega
          have hv1 : v ≤ 9223372036854775807 := by omega
          clear hv hpos hneg' hw0 hw1
          by_cases hz : m = 0
          · have e0 : ((m : Int) == 0) = true := by simp [hz]
            clear hz
            go_wp2_with fail
            go_ret
            exact ⟨rfl, HB8.out⟩
          · have e0 : ((m : Int) == 0) = false := by simp [hz]
            by_cases h6 : 6 < m
            · have e6 : (6 : Int) < (m : Int) := by omega
              clear hz h6
              go_wp2_with fail
              go_ret
              exact ⟨rfl, HB8.out⟩
            · have e6 : ¬ (6 : Int) < (m : Int) := by omega
              have e1 : (0 : Int) < (m : Int) := by omega
              go_upto_region 15 with (fail)
              obtain ⟨j, hj, hjm⟩ : ∃ j : Nat, v % (m : Int) = (j : Int) ∧ j < m := ⟨(v % (m : Int)).toNat, by have := Int.emod_nonneg v (show (m : Int) ≠ 0 by omega); omega, by have h1 := Int.emod_nonneg v (show (m : Int) ≠ 0 by omega); have h2 := Int.emod_lt_of_pos v e1; omega⟩
              rw [hj]
              have hj0 : (0 : Int) ≤ (j : Int) := by omega
              have hj1 : (j : Int) < (m : Int) := by omega
              have hj2 : (j : Int) < 64 := by omega
              clear hj hv0 hv1
              rcases Bool.eq_false_or_eq_true (Go.bits .and .i64 (s / 2 ^ j) 1 == 1) with hbit | hbit
              · go_wp2_with fail
                go_ret
                exact ⟨rfl, HB8.out⟩
              · have HEQ := Lib.hid (Q2.out j (by rw [HM.out]; exact hjm) (by rw [HM.out]; omega) hbit)
                have hm6 : m * 24 ≤ 140737488355328 := by omega
                have hj3 : j < m := hjm
                have HC18 : Kd.C (Kd.slice 23 k23) w8 A1 m rows := by have h := Kd.C_below HC1.out HB8.out; rw [HM.out] at h; exact h
                have HCR := Lib.hid HC18
                have HO4 : (Kd.slice 23 k23).K w8 other [.slice A4 other.length c4] := ⟨A4, c4, rfl, hc4, Kd.C_below HC4.out HB8.out⟩
                have HK4 := Lib.hid HO4
                clear HC18 HO4 Q2 hjm
                go_upto_region 18 with (at_builtin; refine Kd.R_append_rows (Kd.fixed (Kd.slice 23 k23) w8) (Rr := (Kd.slice 23 k23).K w8) (w0 := w8) w8.heap.size rfl (.const (.slice none 0 0)) (.tmp 75) 36 37 (.slice none 0 0) 24 rfl Tryd.underlying36 infoRow rfl (show 0 < 1 from Nat.one_pos) (by decide) (.slice none 0 0) [] rows A1 m c1 (fun _ => True) (fun _ => False) rfl rfl (Kd.R_nil _ _ _ _ _) HCR.out (fun _ _ h => h) (fun _ hk => hk.elim) (fun _ _ => trivial) (Below.refl _ _) (Nat.le_refl _) (by simp only [List.length_nil, Nat.zero_add]; omega) ?_; intro v1 w9 ho hb9 hg9 hat9; have HO9 := Lib.hid ho; clear ho hg9)
                obtain ⟨gb, cap, rfl, hgb⟩ : ∃ gb cap, v1 = .slice (some ⟨gb, 0, none⟩) m cap ∧ w8.heap.size ≤ gb := by
                  obtain ⟨_, inner, hown, _⟩ := HO9.out
                  rw [List.nil_append, HM.out] at hown
                  obtain ⟨gb, cap, rfl, hb, _⟩ := hown.form (by omega)
                  exact ⟨gb, cap, rfl, hb⟩
                clear hat9
                have HB9 := Lib.hid hb9; clear hb9
                have hcap : (m : Int) ≤ 9223372036854775807 := by omega
                obtain ⟨hlm, hmc, hC9⟩ := Kd.R_reads' HO9.out
                have hjl : j < ([] ++ rows : List (List Va)).length := by omega
                obtain ⟨cs, hcs1, hcs2⟩ : ∃ cs : List Value, cs.length = 1 ∧ ∀ i u, cs[i]? = some u → w9.cell? ⟨gb, (j : Int).toNat * 1 + i, none⟩ = some u := by
                  obtain ⟨ad, he, hc⟩ := hC9.2.2 (by omega)
                  cases he
                  obtain ⟨cs, h1, _, h2⟩ := hc j _ (List.getElem?_eq_getElem hjl)
                  refine ⟨cs, h1, fun i u hu => ?_⟩
                  have h := h2 i u hu
                  rw [add_plain] at h
                  simpa [Kd.fixed, Kd.slice] using h
                clear hC9 hgb
                have hoj : j = (j : Int).toNat * (Kd.fixed (Kd.slice 23 k23) w8).sz + 0 := by simp [Kd.fixed, Kd.slice]
                have hq1 : ∀ q ∈ [Value.slice A4 other.length c4], q.oneCell' = true := by intro q hq; obtain rfl := List.mem_singleton.1 hq; rfl
                have hMo : (Kd.fixed (Kd.slice 23 k23) w8).M w9 w8.heap.size (fun _ => False) other (cs.take 0 ++ [.slice A4 other.length c4] ++ cs.drop (0 + 1)) := (show (Kd.slice 23 k23).K w8 other (cs.take 0 ++ [.slice A4 other.length c4] ++ cs.drop 1) from by rw [List.take_zero, List.drop_eq_nil_of_le (by omega)]; exact HK4.out)
                have HOJ := Lib.hid hoj; have HQ1 := Lib.hid hq1; have HMO := Lib.hid hMo; have HCS := Lib.hid (And.intro hcs1 hcs2)
                clear hoj hq1 hMo hcs1 hcs2 hlm hjl
                go_upto_region 19 with ((with_reducible refine gate_ (.store 37 (.tmp 80) (.tmp 79)) rfl ?_); go_loud (refine Kd.R_store (α := List Va) (P := Tryd.prog) (Kd.fixed (Kd.slice 23 k23) w8) (w0 := w8) (W := w9) (g := gb) (n := m) (cap := cap) (o' := j) w8.heap.size rfl rfl 37 (.tmp 80) (.tmp 79) rfl 37 (j : Int) 0 ([] ++ rows) other (.slice A4 other.length c4) [.slice A4 other.length c4] cs (fun _ => True) (fun _ => False) rfl HOJ.out rfl rfl rfl HQ1.out HO9.out hj0 hj1 HCS.out.1 HCS.out.2 (Nat.le_refl 1) HMO.out (fun _ hk => hk.elim) HB9.out ?_; intro w10 hr10 hb10 hg10))
                have HC10 : Hid (Kd.C (Kd.slice 23 k23) w10 (some ⟨gb, 0, none⟩) (rows.set j other).length (rows.set j other)) := Lib.hid (by
                  obtain ⟨_, _, h⟩ := Kd.R_reads' hr10
                  have h2 : Kd.C (Kd.slice 23 k23) w10 (some ⟨gb, 0, none⟩) (([] ++ rows : List (List Va)).set (j : Int).toNat other).length (([] ++ rows : List (List Va)).set (j : Int).toNat other) := ReadsRow.imp_ h (Below.refl _ _) (fun _ _ hp => (Kd.slice 23 k23).K_below hb10 hp)
                  simpa using h2)
                have HSL : Hid ((rows.set j other).length = m) := Lib.hid (by rw [List.length_set, HM.out])
                have HMC := Lib.hid hmc
                have HB10 := Lib.hid (HB8.out.trans (hb10.mono HB8.out.size))
                have BG10 := Lib.hid ((hb10.block g (blk_lt BG8.out)).trans BG8.out)
                clear HO9 HB9 hr10 hb10 hg10 HCS HMO HQ1 HOJ hmc HK4 HCR HB8 BG8
                obtain ⟨v1, k1, hq⟩ : ∃ v1 k1, evalRes e rows ps = (v1, k1) := ⟨_, _, rfl⟩
                have HEV1 : Hid (Calls Tryd.prog 14 #[.agg (exC e A c), .slice A1 m c1, .slice A2 ps.length c2] w10 fun r w' => r = .returned (.tuple #[.agg #[.int .i64 v1.f0, .int .i64 v1.f1, .string v1.f2], .int .i64 k1]) ∧ Below w10.heap.size w10 w') := Lib.hid (by have h := Eval_ok e A A1 A2 c c1 c2 rows ps w10 (Kd.C_below HC.out HB10.out) hc (Kd.C_below HC1.out HB10.out) hc1 (Kd.C_below HC2.out HB10.out) hc2; rw [hq, HM.out] at h; exact h)
                have HEV2 : Hid (∀ w', Below w10.heap.size w10 w' → Calls Tryd.prog 14 #[.agg (exC e A c), .slice (some ⟨gb, 0, none⟩) m cap, .slice A2 ps.length c2] w' fun r w1' => r = .returned (.tuple #[.agg #[.int .i64 v1.f0, .int .i64 v1.f1, .string v1.f2], .int .i64 k1]) ∧ Below w'.heap.size w' w1') := Lib.hid (fun w' hw' => by have h := Eval_ok e A (some ⟨gb, 0, none⟩) A2 c cap c2 (rows.set j other) ps w' (Kd.C_below HC.out (HB10.out.trans (hw'.mono HB10.out.size))) hc (Kd.C_below HC10.out hw') (by rw [HSL.out]; exact HMC.out) (Kd.C_below HC2.out (HB10.out.trans (hw'.mono HB10.out.size))) hc2; rw [HEQ.out, hq, HSL.out] at h; exact h)
                clear hq HEQ HC10 HMC HSL
                unfold exC at HEV1 HEV2
                have hz0 : w10.cell? ⟨g, 0, none⟩ = some (.int .i64 e.f0) := (bkC BG10.out 0).trans rfl; have hz1 : w10.cell? ⟨g, 1, none⟩ = some (.int .i64 e.f1.f0) := (bkC BG10.out 1).trans rfl; have hz2 : w10.cell? ⟨g, 2, none⟩ = some (.int .i64 e.f1.f1) := (bkC BG10.out 2).trans rfl; have hz3 : w10.cell? ⟨g, 3, none⟩ = some (.string e.f1.f2) := (bkC BG10.out 3).trans rfl; have hz4 : w10.cell? ⟨g, 4, none⟩ = some (.int .i64 e.f2) := (bkC BG10.out 4).trans rfl; have hz5 : w10.cell? ⟨g, 5, none⟩ = some (.int .i64 e.f3) := (bkC BG10.out 5).trans rfl; have hz6 : w10.cell? ⟨g, 6, none⟩ = some (.int .i64 e.f4) := (bkC BG10.out 6).trans rfl; have hz7 : w10.cell? ⟨g, 7, none⟩ = some (.string e.f5) := (bkC BG10.out 7).trans rfl; have hz8 : w10.cell? ⟨g, 8, none⟩ = some (.slice A e.f6.length c) := (bkC BG10.out 8).trans rfl
                go_upto_region 20 with (first
                  | (go_at_call 14; refine HEV1.out.mono ?_; rintro r w11 ⟨rfl, hB11⟩)
                  | ((with_reducible refine gate_dst (N := 16) rfl ?_); refine box_event rfl (N := 16) rfl (cs := vaC zeroV) (t := 23) (by first | rfl | (go_simp; done) | (go_simp; rfl)) ?_; intro va hgg w12 hbva hBva;  have hva : w10.heap.size ≤ va := (by have := hB11.size; omega); have hc0 : w12.cell? ⟨va, 0, none⟩ = some (.int .i64 0) := ((bkC hbva 0).trans rfl); have hc1 : w12.cell? ⟨va, 1, none⟩ = some (.int .i64 0) := ((bkC hbva 1).trans rfl); have hc2 : w12.cell? ⟨va, 2, none⟩ = some (.string ⟨#[]⟩) := ((bkC hbva 2).trans rfl); have hf0 := bkF hbva 0; have hf1 := bkF hbva 1; have hf2 := bkF hbva 2; clear hgg))
                have hB13 := va_below (hB11.trans (hBva.mono hB11.size)) hva v1
                have hbv := va_put hbva v1
                clear hc0 hc1 hc2 hf0 hf1 hf2 hbva hBva hB11 HEV1 hz0 hz1 hz2 hz3 hz4 hz5 hz6 hz7 hz8
                generalize ((w12.setCell ⟨va, 0, none⟩ (.int .i64 v1.f0)).setCell ⟨va, 1, none⟩ (.int .i64 v1.f1)).setCell ⟨va, 2, none⟩ (.string v1.f2) = w13 at hB13 hbv ⊢
                have BG13 := Lib.hid ((hB13.block g (blk_lt BG10.out)).trans BG10.out); have HB13 := Lib.hid (HB10.out.trans (hB13.mono HB10.out.size)); have HEV3 := Lib.hid (HEV2.out w13 hB13); have BV13 := Lib.hid hbv
                clear hB13 hbv HEV2 BG10 HB10 hva
                have hz0 : w13.cell? ⟨g, 0, none⟩ = some (.int .i64 e.f0) := (bkC BG13.out 0).trans rfl; have hz1 : w13.cell? ⟨g, 1, none⟩ = some (.int .i64 e.f1.f0) := (bkC BG13.out 1).trans rfl; have hz2 : w13.cell? ⟨g, 2, none⟩ = some (.int .i64 e.f1.f1) := (bkC BG13.out 2).trans rfl; have hz3 : w13.cell? ⟨g, 3, none⟩ = some (.string e.f1.f2) := (bkC BG13.out 3).trans rfl; have hz4 : w13.cell? ⟨g, 4, none⟩ = some (.int .i64 e.f2) := (bkC BG13.out 4).trans rfl; have hz5 : w13.cell? ⟨g, 5, none⟩ = some (.int .i64 e.f3) := (bkC BG13.out 5).trans rfl; have hz6 : w13.cell? ⟨g, 6, none⟩ = some (.int .i64 e.f4) := (bkC BG13.out 6).trans rfl; have hz7 : w13.cell? ⟨g, 7, none⟩ = some (.string e.f5) := (bkC BG13.out 7).trans rfl; have hz8 : w13.cell? ⟨g, 8, none⟩ = some (.slice A e.f6.length c) := (bkC BG13.out 8).trans rfl
                go_upto_region 21 with (first
                  | (go_at_call 14; refine HEV3.out.mono ?_; rintro r w14 ⟨rfl, hB14⟩)
                  | ((with_reducible refine gate_dst (N := 18) rfl ?_); refine box_event rfl (N := 18) rfl (cs := vaC zeroV) (t := 23) (by first | rfl | (go_simp; done) | (go_simp; rfl)) ?_; intro vb hgg w15 hbvb hBvb;  have hvb : w13.heap.size ≤ vb := (by have := hB14.size; omega); have hc0 : w15.cell? ⟨vb, 0, none⟩ = some (.int .i64 0) := ((bkC hbvb 0).trans rfl); have hc1 : w15.cell? ⟨vb, 1, none⟩ = some (.int .i64 0) := ((bkC hbvb 1).trans rfl); have hc2 : w15.cell? ⟨vb, 2, none⟩ = some (.string ⟨#[]⟩) := ((bkC hbvb 2).trans rfl); have hf0 := bkF hbvb 0; have hf1 := bkF hbvb 1; have hf2 := bkF hbvb 2; clear hgg))
                have hB16 := va_below (hB14.trans (hBvb.mono hB14.size)) hvb v1
                have hbw := va_put hbvb v1
                clear hc0 hc1 hc2 hf0 hf1 hf2 hbvb hBvb hB14 HEV3 hz0 hz1 hz2 hz3 hz4 hz5 hz6 hz7 hz8
                generalize ((w15.setCell ⟨vb, 0, none⟩ (.int .i64 v1.f0)).setCell ⟨vb, 1, none⟩ (.int .i64 v1.f1)).setCell ⟨vb, 2, none⟩ (.string v1.f2) = w16 at hB16 hbw ⊢
                have BV16 := Lib.hid ((hB16.block va (blk_lt BV13.out)).trans BV13.out); have HB16 := Lib.hid (HB13.out.trans (hB16.mono HB13.out.size)); have BW16 := Lib.hid hbw
                clear hB16 hbw BV13 BG13 HB13 hvb
                have ha0 : w16.cell? ⟨va, 0, none⟩ = some (.int .i64 v1.f0) := (bkC BV16.out 0).trans rfl; have ha1 : w16.cell? ⟨va, 1, none⟩ = some (.int .i64 v1.f1) := (bkC BV16.out 1).trans rfl; have ha2 : w16.cell? ⟨va, 2, none⟩ = some (.string v1.f2) := (bkC BV16.out 2).trans rfl
                have hb0 : w16.cell? ⟨vb, 0, none⟩ = some (.int .i64 v1.f0) := (bkC BW16.out 0).trans rfl; have hb1 : w16.cell? ⟨vb, 1, none⟩ = some (.int .i64 v1.f1) := (bkC BW16.out 1).trans rfl; have hb2 : w16.cell? ⟨vb, 2, none⟩ = some (.string v1.f2) := (bkC BW16.out 2).trans rfl
                go_wp2_with (fail)
                go_ret
                exact ⟨rfl, HB16.out⟩
end Go.Proofs.YtkboodfnegedaaaDoor.E
namespace Go.Proofs.YtkboodfnegedaaaDoor.E
set_option linter.unusedSimpArgs false
set_option linter.unusedVariables false
open Go.RowKit Go.Proofs.YtkboodfnegedaaaDoorW.PrintWords Go.Proofs.YtkboodfnegedaaaDoorW.PrintLast Go.Proofs.YtkboodfnegedaaaDoorW.PrintMore
mutual
theorem Ex.ind11 {P : Ex → Prop} (h : ∀ e : Ex, (∀ x ∈ e.f6, P x) → P e) : (e : Ex) → P e
  | ⟨f0, f1, f2, f3, f4, f5, f6⟩ => h _ (Ex.indL11 h f6)
theorem Ex.indL11 {P : Ex → Prop} (h : ∀ e : Ex, (∀ x ∈ e.f6, P x) → P e) : (l : List Ex) → ∀ x ∈ l, P x
  | [] => fun x hx => by simp at hx
  | y :: ys => fun x hx => by
    have hy := Ex.ind11 h y
    rcases List.mem_cons.1 hx with e | hx
    · rw [e]; exact hy
    · exact Ex.indL11 h ys x hx
end
mutual
/-- The tables of an expression, as bits. -/
def mskE : Ex → Nat
  | ⟨f0, f1, f2, f3, f4, f5, f6⟩ => (if f0 = 2 then 2 ^ f2.toNat else 0) ||| mskL f6
def mskL : List Ex → Nat
  | [] => 0
  | x :: xs => mskE x ||| mskL xs
end
theorem mskE_eq (e : Ex) : mskE e = (if e.f0 = 2 then 2 ^ e.f2.toNat else 0) ||| mskL e.f6 := by cases e; rw [mskE]
theorem wraps62 (n : Int) (h0 : 0 ≤ n) (h1 : n < 2 ^ 62) : IntKind.i64.wrap n = n := by rw [IntKind.wrap_i64]; omega
theorem or62 (a b : Nat) (ha : a < 65536) (hb : b < 65536) : Go.bits .or .i64 (a : Int) (b : Int) = ((a ||| b : Nat) : Int) := (bits_nat .i64 62 (by decide) wraps62 a b (by omega) (by omega)).2
theorem or_lt16 {a b : Nat} (ha : a < 65536) (hb : b < 65536) : a ||| b < 65536 := Nat.or_lt_two_pow (n := 16) ha hb
theorem pow_lt16 {n : Nat} (h : n ≤ 15) : 2 ^ n < 65536 := Nat.pow_lt_pow_right (by decide) (show n < 16 by omega)
theorem mskL_lt (l : List Ex) (h : ∀ x ∈ l, mskE x < 65536) : mskL l < 65536 := by
  induction l with
  | nil => rw [mskL]; decide
  | cons x l ih => rw [mskL]; exact or_lt16 (h x (by simp)) (ih fun y hy => h y (by simp [hy]))
theorem own_bit {e : Ex} (h : Rt e) : (if e.f0 = 2 then 2 ^ e.f2.toNat else 0) < 65536 := by
  split
  · rename_i h2; obtain ⟨a, b, _⟩ := h.rel h2; exact pow_lt16 (by omega)
  · decide
theorem msk_lt (e : Ex) : Rt e → mskE e < 65536 := by
  induction e using Ex.ind11 with
  | h e ih =>
    intro h
    rw [mskE_eq]
    exact or_lt16 (own_bit h) (mskL_lt e.f6 (fun x hx => ih x hx (h.kid hx)))
theorem shl_two {n : Int} (h0 : 0 ≤ n) (h1 : n ≤ 15) : shl .i64 1 n = ((2 ^ n.toNat : Nat) : Int) := by
  obtain ⟨j, hj⟩ : ∃ j, shl .i64 1 n = j := ⟨_, rfl⟩
  have h2 : IntKind.i64.wrap (1 * 2 ^ n.toNat) = j := shl_small hj (by show n ≤ 64; omega)
  rw [hj, ← h2, Int.one_mul]
  have hc : ((2 : Int) ^ n.toNat) = ((2 ^ n.toNat : Nat) : Int) := by simp
  have hp := pow_lt16 (n := n.toNat) (by omega)
  rw [hc]
  generalize 2 ^ n.toNat = q at hp ⊢
  exact wraps62 _ (by omega) (by omega)
theorem tab_one {e : Ex} (h : Rt e) (m : Nat) (hm : m < 65536) : tabStep e (m : Int) = (false, ((m ||| (if e.f0 = 2 then 2 ^ e.f2.toNat else 0) : Nat) : Int)) := by
  unfold tabStep
  by_cases h2 : e.f0 = 2
  · obtain ⟨a, b, _⟩ := h.rel h2
    rw [if_pos h2, if_pos h2, shl_two a b, or62 _ _ hm (pow_lt16 (by omega))]
  · rw [if_neg h2, if_neg h2, Nat.or_zero]
theorem tab_list (l : List Ex) (h : ∀ x ∈ l, Rt x ∧ ∀ m < 65536, someF tabStep x ((m : Nat) : Int) = (false, ((m ||| mskE x : Nat) : Int))) : ∀ m < 65536, someL tabStep l ((m : Nat) : Int) = (false, ((m ||| mskL l : Nat) : Int)) := by
  induction l with
  | nil => intro m _; rw [someL, mskL, Nat.or_zero]
  | cons x l ih =>
    intro m hm
    obtain ⟨hx, hs⟩ := h x (by simp)
    have hs := hs m hm
    rw [someL, hs, if_neg (by simp), ih (fun y hy => h y (by simp [hy])) _ (or_lt16 hm (msk_lt x hx)), mskL, Nat.or_assoc]
theorem tab_some (e : Ex) : Rt e → ∀ m < 65536, someF tabStep e ((m : Nat) : Int) = (false, ((m ||| mskE e : Nat) : Int)) := by
  induction e using Ex.ind11 with
  | h e ih =>
    intro h m hm
    rw [someF_eq, tab_one h m hm, if_neg (by simp), mskE_eq]
    rw [tab_list e.f6 (fun x hx => ⟨h.kid hx, ih x hx (h.kid hx)⟩) _ (or_lt16 hm (own_bit h)), Nat.or_assoc]
theorem tabN_msk {e : Ex} (hr : rightB e = true) : tabN e = (mskE e : Int) := by
  unfold tabN
  have h := tab_some e (Rt.of hr) 0 (by decide)
  rw [if_pos hr, show (0 : Int) = ((0 : Nat) : Int) from rfl, h, Nat.zero_or]
theorem measL_mem {x : Ex} (l : List Ex) : ∀ q, measL l = some q → x ∈ l → ∃ a, meas x = some a ∧ a.1 ≤ q.1 ∧ a.2 ≤ q.2 := by
  induction l with
  | nil => intro q _ hx; simp at hx
  | cons y l ih =>
    intro q hq hx
    rw [measL] at hq
    obtain ⟨a, ha, hq⟩ := Option.bind_eq_some_iff.1 hq
    obtain ⟨b, hb, rfl⟩ := Option.map_eq_some_iff.1 hq
    rcases List.mem_cons.1 hx with rfl | hx
    · exact ⟨a, ha, by simp only []; omega, by simp only []; omega⟩
    · obtain ⟨c, hc, h1, h2⟩ := ih b hb hx
      exact ⟨c, hc, by simp only []; omega, by simp only []; omega⟩
theorem right_kid {e x : Ex} (hr : rightB e = true) (hx : x ∈ e.f6) : rightB x = true := by
  obtain ⟨p, hp⟩ := right_some_meas hr
  have hb : p.1 ≤ 20 ∧ p.2 ≤ 200 := by rw [right_meas, hp] at hr; simpa using hr
  rw [meas_eq] at hp
  split at hp
  · obtain ⟨q, hq, rfl⟩ := Option.map_eq_some_iff.1 hp
    obtain ⟨a, ha, h1, h2⟩ := measL_mem _ _ hq hx
    simp only [] at hb
    rw [right_meas, ha]
    have : a.1 ≤ 20 ∧ a.2 ≤ 200 := by omega
    simp [this]
  · cases hp
theorem tabs_list (l : List Ex) (h : ∀ x ∈ l, rightB x = true) : ∀ m : Nat, m < 65536 → l.foldl (fun t x => Go.bits .or .i64 t (tabN x)) (m : Int) = ((m ||| mskL l : Nat) : Int) := by
  induction l with
  | nil => intro m _; rw [mskL, Nat.or_zero]; rfl
  | cons x l ih =>
    intro m hm
    have hx := h x (by simp)
    rw [List.foldl_cons, tabN_msk hx, or62 _ _ hm (msk_lt x (Rt.of hx)), ih (fun y hy => h y (by simp [hy])) _ (or_lt16 hm (msk_lt x (Rt.of hx))), mskL, Nat.or_assoc]
theorem tables_q1 (e : Ex) (hr : rightB e = true) (hl : 0 < e.f6.length) : tabN e = tabsO e.f6 := by
  have ho : ownP e := (own_iff e).1 (Rt.of hr).own
  have h2 : e.f0 ≠ 2 := by
    intro h2
    have h := ho.2.1
    rw [h2] at h
    have : wantsI 2 = 0 := by decide
    omega
  have ht := tabs_list e.f6 (fun x hx => right_kid hr hx) 0 (by decide)
  rw [tabN_msk hr, mskE_eq, if_neg h2, Nat.zero_or]
  unfold tabsO
  rw [Nat.zero_or] at ht
  exact ht.symm
theorem bit_of {M j : Nat} (hM : M < 65536) (h : (Go.bits .and .i64 ((M : Int) / 2 ^ j) 1 == 1) = false) : M.testBit j = false := by
  have hc : ((M : Int) / 2 ^ j) = ((M / 2 ^ j : Nat) : Int) := by simp
  have hl : M / 2 ^ j < 2 ^ 62 := Nat.lt_of_le_of_lt (Nat.div_le_self _ _) (by omega)
  have hb := (bits_nat .i64 62 (by decide) wraps62 (M / 2 ^ j) 1 hl (by decide)).1
  have hb : Go.bits .and .i64 ((M / 2 ^ j : Nat) : Int) 1 = ((M / 2 ^ j &&& 1 : Nat) : Int) := hb
  rw [hc, hb, Nat.and_one_is_mod] at h
  rw [Nat.testBit_eq_decide_div_mod_eq]
  simp only [beq_eq_false_iff_ne, ne_eq] at h
  simp only [decide_eq_false_iff_not]
  omega
theorem at_set (e : Ex) (rows : List (List Va)) (ps other : List Va) (j : Nat) (h : e.f0 = 2 → e.f2.toNat ≠ j) : atG zeroV e (rows.set j other) ps = atG zeroV e rows ps := by
  unfold atG
  by_cases h2 : e.f0 = 2
  · have hn := h h2
    have hg : (rows.set j other).getD e.f2.toNat [] = rows.getD e.f2.toNat [] := by
      simp [List.getD, List.getElem?_set_ne (Ne.symm hn)]
    rw [if_pos h2, if_pos h2, List.length_set, hg]
  · rw [if_neg h2, if_neg h2]
theorem evalL_congr (l : List Ex) (r r' : List (List Va)) (ps : List Va) (h : ∀ x ∈ l, evalF x r ps = evalF x r' ps) : evalL l r ps = evalL l r' ps := by
  induction l with
  | nil => rw [evalL, evalL]
  | cons x l ih => rw [evalL, evalL, h x (by simp), ih fun y hy => h y (by simp [hy])]
theorem someL_congr (f g : Ex → Unit → Bool × Unit) (l : List Ex) (h : ∀ x ∈ l, someF f x () = someF g x ()) : someL f l () = someL g l () := by
  induction l with
  | nil => rw [someL, someL]
  | cons x l ih => rw [someL, someL, h x (by simp), ih fun y hy => h y (by simp [hy])]
theorem mskL_bit {j : Nat} (l : List Ex) (h : (mskL l).testBit j = false) : ∀ x ∈ l, (mskE x).testBit j = false := by
  induction l with
  | nil => intro x hx; simp at hx
  | cons y l ih =>
    intro x hx
    rw [mskL, Nat.testBit_or, Bool.or_eq_false_iff] at h
    rcases List.mem_cons.1 hx with rfl | hx
    · exact h.1
    · exact ih h.2 x hx
theorem set_same (rows : List (List Va)) (ps other : List Va) (j : Nat) (e : Ex) : (mskE e).testBit j = false → someF (lackV (rows.set j other) ps) e () = someF (lackV rows ps) e () ∧ evalF e (rows.set j other) ps = evalF e rows ps := by
  induction e using Ex.ind11 with
  | h e ih =>
    intro hb
    rw [mskE_eq, Nat.testBit_or, Bool.or_eq_false_iff] at hb
    have hk : ∀ x ∈ e.f6, _ := fun x hx => ih x hx (mskL_bit e.f6 hb.2 x hx)
    have hat := at_set e rows ps other j (fun h2 he => by
      have h := hb.1
      rw [if_pos h2, Nat.testBit_two_pow] at h
      simp [he] at h)
    have hla : lackV (rows.set j other) ps e () = lackV rows ps e () := by unfold lackV; rw [hat]
    refine ⟨?_, ?_⟩
    · rw [someF_eq, someF_eq, hla]
      have hs := someL_congr (lackV (rows.set j other) ps) (lackV rows ps) e.f6 (fun x hx => (hk x hx).1)
      rw [hs]
    · rw [evalF_eq, evalF_eq, hat, evalL_congr e.f6 _ _ ps (fun x hx => (hk x hx).2)]
theorem tables_q2 (e : Ex) (rows : List (List Va)) (ps other : List Va) : ∀ j : Nat, j < rows.length → rows.length ≤ 6 → (Go.bits .and .i64 (tabN e / 2 ^ j) 1 == 1) = false → evalRes e (rows.set j other) ps = evalRes e rows ps := by
  intro j _ _ h
  unfold evalRes
  cases hr : rightB e with
  | false => rfl
  | true =>
    rw [tabN_msk hr] at h
    obtain ⟨h1, h2⟩ := set_same rows ps other j e (bit_of (msk_lt e (Rt.of hr)) h)
    rw [h1, h2]
end Go.Proofs.YtkboodfnegedaaaDoor.E
