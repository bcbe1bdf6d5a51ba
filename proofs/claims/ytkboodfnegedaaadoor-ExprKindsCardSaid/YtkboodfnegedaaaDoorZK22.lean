/- Contracts and plain lemmas of the functions that the law reaches, part 22. -/
import Derived.Deep.RegionHeld3
import Derived.Deep.DeepCutAuto
import Derived.Test.YtkboodfnegedaaaDoorZK3
import Derived.Test.YtkboodfnegedaaaDoorZK9
import Derived.Test.YtkboodfnegedaaaDoorZK10
import Derived.Test.YtkboodfnegedaaaDoorZK15
import Derived.Test.YtkboodfnegedaaaDoorZK21
namespace Go.Proofs.YtkboodfnegedaaaDoor.E
open Go.RowKit Go.Proofs.YtkboodfnegedaaaDoorW.PrintWords Go.Proofs.YtkboodfnegedaaaDoorW.PrintLast Go.Proofs.YtkboodfnegedaaaDoorW.PrintMore
def nullE : Ex := ⟨1, zeroV, 0, 0, 0, ⟨#[]⟩, []⟩
def exText : Ex := twoE 4 (refE 0 1) (numE 2)
def exDiv : Ex := twoE 7 (numE 1) (numE 0)
theorem ex_text : textRes exText = (⟨#[40, 52, 32, 82, 48, 46, 49, 32, 73, 50, 41]⟩, 0) := by kernel_rfl
theorem ex_eval1 : (evalRes (twoE 9 exDiv nullE) [] []).2 = 4 := by kernel_rfl
theorem ex_eval2 : (evalRes (twoE 15 nullE (twoE 9 exDiv (numE 1))) [] []).2 = 4 := by kernel_rfl
theorem ex_kind : kindRes (twoE 11 (refE 0 1) (numE 2)) [[0, 1]] [] = (2, 0) := by kernel_rfl
theorem ex_div : rightB exDiv = true := by kernel_rfl
theorem ex_tab : tabN (refE 2 0) = 4 := by kernel_rfl
end Go.Proofs.YtkboodfnegedaaaDoor.E
namespace Go.Proofs.YtkboodfnegedaaaDoor.E
open Go.RowKit Go.Proofs.YtkboodfnegedaaaDoorW.PrintWords Go.Proofs.YtkboodfnegedaaaDoorW.PrintLast Go.Proofs.YtkboodfnegedaaaDoorW.PrintMore
theorem num_back {w w' : World} (h : Below w.drew.heap.size w.drew w') : Below w.heap.size w w' := ⟨h.os, h.tape, h.output, h.size, h.block⟩
theorem num_back2 {w w' : World} {o : Obj} (h : Below (w.alloc o).drew.heap.size (w.alloc o).drew w') : Below w.heap.size w w' := (blA (Below.refl _ w) o).trans ((num_back h).mono (blA (Below.refl _ w) o).size)
theorem ints01_C (w : World) : Kd.C (Kd.int .i64) (w.alloc (.cells #[.int .i64 0, .int .i64 1] 3)) (some ⟨w.heap.size, 0, none⟩) 2 [0, 1] := by
  refine ⟨rfl, by omega, fun _ => ⟨_, rfl, ?_⟩⟩
  have h : (w.alloc (.cells #[.int .i64 0, .int .i64 1] 3)).heap[w.heap.size]? = some (.cells #[.int .i64 0, .int .i64 1] 3 (0, 0)) := heap_alloc_new w _
  intro j p hp
  match j, hp with
  | 0, hp =>
    obtain rfl := Option.some.inj hp
    refine ⟨_, rfl, rfl, ?_⟩
    intro i u hu
    obtain rfl : i = 0 := by have := (List.getElem?_eq_some_iff.1 hu).1; simpa using this
    have hu' := Option.some.inj hu; subst hu'; rw [add_plain]; exact (bkC h 0).trans rfl
  | 1, hp =>
    obtain rfl := Option.some.inj hp
    refine ⟨_, rfl, rfl, ?_⟩
    intro i u hu
    obtain rfl : i = 0 := by have := (List.getElem?_eq_some_iff.1 hu).1; simpa using this
    have hu' := Option.some.inj hu; subst hu'; rw [add_plain]; exact (bkC h 1).trans rfl
theorem rows01_C (w : World) : Kd.C (Kd.slice 3 (Kd.int .i64)) ((w.alloc (.cells #[.int .i64 0, .int .i64 1] 3)).alloc (.cells #[.slice (some ⟨w.heap.size, 0, none⟩) 2 2] 28)) (some ⟨w.heap.size + 1, 0, none⟩) 1 [[0, 1]] := by
  refine ⟨rfl, by omega, fun _ => ⟨_, rfl, ?_⟩⟩
  have h : ((w.alloc (.cells #[.int .i64 0, .int .i64 1] 3)).alloc (.cells #[.slice (some ⟨w.heap.size, 0, none⟩) 2 2] 28)).heap[w.heap.size + 1]? = some (.cells #[.slice (some ⟨w.heap.size, 0, none⟩) 2 2] 28 (0, 0)) := by
    have h := heap_alloc_new (w.alloc (.cells #[.int .i64 0, .int .i64 1] 3)) (.cells #[.slice (some ⟨w.heap.size, 0, none⟩) 2 2] 28)
    simpa using h
  intro j p hp
  match j, hp with
  | 0, hp =>
    obtain rfl := Option.some.inj hp
    refine ⟨[.slice (some ⟨w.heap.size, 0, none⟩) 2 2], rfl, ⟨_, 2, rfl, by decide, Kd.C_alloc (ints01_C w) _⟩, ?_⟩
    intro i u hu
    obtain rfl : i = 0 := by have := (List.getElem?_eq_some_iff.1 hu).1; simpa using this
    have hu' := Option.some.inj hu; subst hu'; rw [add_plain]; exact (bkC h 0).trans rfl
set_option maxHeartbeats 4000000 in
set_option maxRecDepth 100000 in
theorem examples_ok (w : World) (hT : TabW w) : Calls Tryd.prog 11 #[] w fun r w' => r = .returned (.bool true) ∧ Below w.heap.size w w' := by
  have HT := Lib.hid hT; clear hT
  have HREF : Hid (∀ (a b : Int) w, Calls Tryd.prog 34 #[.int .i64 a, .int .i64 b] w fun r w' => r = .returned (.agg #[.int .i64 2, .int .i64 0, .int .i64 0, .string ⟨#[]⟩, .int .i64 a, .int .i64 b, .int .i64 0, .string ⟨#[]⟩, .slice none 0 0]) ∧ Below w.heap.size w w') := Lib.hid ref_ok
  have HNUM : Hid (∀ (n : Int) w, Calls Tryd.prog 35 #[.int .i64 n] w fun r w' => r = .returned (.agg #[.int .i64 1, .int .i64 1, .int .i64 n, .string ⟨#[]⟩, .int .i64 0, .int .i64 0, .int .i64 0, .string ⟨#[]⟩, .slice none 0 0]) ∧ Below w.heap.size w w') := Lib.hid num_ok9
  have HT1 : Hid (∀ w, Calls Tryd.prog 23 #[.int .i64 4, .agg #[.int .i64 2, .int .i64 0, .int .i64 0, .string ⟨#[]⟩, .int .i64 0, .int .i64 1, .int .i64 0, .string ⟨#[]⟩, .slice none 0 0], .agg #[.int .i64 1, .int .i64 1, .int .i64 2, .string ⟨#[]⟩, .int .i64 0, .int .i64 0, .int .i64 0, .string ⟨#[]⟩, .slice none 0 0]] w fun r w' => ∃ A, r = .returned (.agg #[.int .i64 4, .int .i64 0, .int .i64 0, .string ⟨#[]⟩, .int .i64 0, .int .i64 0, .int .i64 0, .string ⟨#[]⟩, .slice A 2 2]) ∧ Kd.C k26 w' A 2 [refE 0 1, numE 2] ∧ Below w.heap.size w w') := Lib.hid (fun w => two_ok 4 (refE 0 1) (numE 2) none none 0 0 w (by decide) (by decide) (Kd.C_nil _ _) (Kd.C_nil _ _))
  go_enter Tryd.func11, Tryd.ntmps11
  go_upto_region 2 with (first
    | (go_at_call 34; refine (HREF.out _ _ _).mono ?_; rintro r w1 ⟨rfl, hB1⟩)
    | (go_at_call 35; refine (HNUM.out _ _).mono ?_; rintro r w2 ⟨rfl, hB2⟩)
    | (go_at_call 23; refine (HT1.out _).mono ?_; rintro r w3 ⟨A1, rfl, hC3, hB3⟩; have hW3 : Below w.heap.size w w3 := hB1.trans ((hB2.trans (hB3.mono hB2.size)).mono hB1.size); have HTX : Calls Tryd.prog 24 #[.agg #[.int .i64 4, .int .i64 0, .int .i64 0, .string ⟨#[]⟩, .int .i64 0, .int .i64 0, .int .i64 0, .string ⟨#[]⟩, .slice A1 2 2]] w3 (fun r w' => r = .returned (.tuple #[.string ⟨#[40, 52, 32, 82, 48, 46, 49, 32, 73, 50, 41]⟩, .int .i64 0]) ∧ Below w3.heap.size w3 w') := (by have h := Text_ok exText A1 2 w3 (Lib.tabBelow_of_tabIs HT.out w3 hW3) (by kernel_rfl) hC3 (by decide); rw [ex_text] at h; exact h))
    | (go_at_call 24; refine HTX.mono ?_; rintro r w4 ⟨rfl, hB4⟩))
  have HW := hW3.trans (hB4.mono hW3.size)
  clear hB1 hB2 hB3 hB4 hW3 hC3 HTX
  go_upto_region 3 with (first | ((with_reducible refine gate_dst (N := 3) rfl ?_); refine box_event rfl (N := 3) rfl (cs := zerosE) (t := 26) (by first | rfl | (go_simp; done) | (go_simp; rfl)) ?_; intro nb hgg w5 hbnb hBnb;  have hnw : w.heap.size ≤ nb := (by have := HW.size; omega); have hnr : w4.heap.size ≤ nb := (by omega); clear hgg) | ((with_reducible refine gate_store (p := 3) (v := .tmp 18) rfl ?_); refine wpList_store_row rfl 26 (.tmp 3) (.tmp 18) rfl nb (exC nullE none 0) rfl rfl 26 zerosE hbnb (info_ex _ _ _) rfl (one_ex _ _ _) ?_))
  have BKN := setRow_at w5 nb _ zerosE (exC nullE none 0) hbnb
  replace HW : Below w.heap.size w (w5.setRow nb (exC nullE none 0)) := below_setRow' (HW.trans (hBnb.mono HW.size)) hnw _
  clear hbnb hBnb hnr
  generalize w5.setRow nb (exC nullE none 0) = w6 at BKN HW ⊢
  have HT2 : Hid (∀ w, Calls Tryd.prog 23 #[.int .i64 7, .agg #[.int .i64 1, .int .i64 1, .int .i64 1, .string ⟨#[]⟩, .int .i64 0, .int .i64 0, .int .i64 0, .string ⟨#[]⟩, .slice none 0 0], .agg #[.int .i64 1, .int .i64 1, .int .i64 0, .string ⟨#[]⟩, .int .i64 0, .int .i64 0, .int .i64 0, .string ⟨#[]⟩, .slice none 0 0]] w fun r w' => ∃ A, r = .returned (.agg #[.int .i64 7, .int .i64 0, .int .i64 0, .string ⟨#[]⟩, .int .i64 0, .int .i64 0, .int .i64 0, .string ⟨#[]⟩, .slice A 2 2]) ∧ Kd.C k26 w' A 2 [numE 1, numE 0] ∧ Below w.heap.size w w') := Lib.hid (fun w => two_ok 7 (numE 1) (numE 0) none none 0 0 w (by decide) (by decide) (Kd.C_nil _ _) (Kd.C_nil _ _))
  go_upto_region 4 with (first
    | (go_at_call 35; refine (HNUM.out _ _).mono ?_; rintro r w7 ⟨rfl, hB7⟩; replace BKN := (hB7.block nb (blk_lt BKN)).trans BKN; replace HW := HW.trans (hB7.mono HW.size); clear hB7)
    | (go_at_call 23; refine (HT2.out _).mono ?_; rintro r w8 ⟨A2, rfl, hC8, hB8⟩; replace BKN := (hB8.block nb (blk_lt BKN)).trans BKN; replace HW := HW.trans (hB8.mono HW.size); clear hB8)
    | ((with_reducible refine gate_dst (N := 4) rfl ?_); refine box_event rfl (N := 4) rfl (cs := zerosE) (t := 26) (by first | rfl | (go_simp; done) | (go_simp; rfl)) ?_; intro dv hgg w9 hbdv hBdv;  have hdw : w.heap.size ≤ dv := (by have := HW.size; omega); have hdr : w8.heap.size ≤ dv := (by omega); have hnd : nb ≠ dv := (by have := blk_lt BKN; omega); replace BKN := (hBdv.block nb (blk_lt BKN)).trans BKN; replace HW := HW.trans (hBdv.mono HW.size); clear hgg)
    | ((with_reducible refine gate_store (p := 4) (v := .tmp 21) rfl ?_); refine wpList_store_row rfl 26 (.tmp 4) (.tmp 21) rfl dv (exC exDiv A2 2) rfl rfl 26 zerosE hbdv (info_ex _ _ _) rfl (one_ex _ _ _) ?_))
  have BKD := setRow_at w9 dv _ zerosE (exC exDiv A2 2) hbdv
  replace BKN := setRow_far w9 (show ¬ dv = nb from Ne.symm hnd) BKN (exC exDiv A2 2)
  have hCD : Kd.C k26 (w9.setRow dv (exC exDiv A2 2)) A2 2 [numE 1, numE 0] := Kd.C_below hC8 (below_setRow' hBdv hdr _)
  replace HW : Below w.heap.size w (w9.setRow dv (exC exDiv A2 2)) := below_setRow' HW hdw _
  clear hC8 hbdv hBdv hdr
  generalize w9.setRow dv (exC exDiv A2 2) = w10 at BKN BKD hCD HW ⊢
  have HCD := Lib.hid hCD; have HBN := Lib.hid BKN; have HBD := Lib.hid BKD; have HWW := Lib.hid HW
  clear hCD BKN BKD HW
  have hz0 : w10.cell? ⟨dv, 0, none⟩ = some (.int .i64 7) := (bkC HBD.out 0).trans rfl; have hy0 : w10.cell? ⟨nb, 0, none⟩ = some (.int .i64 1) := (bkC HBN.out 0).trans rfl; have hz1 : w10.cell? ⟨dv, 1, none⟩ = some (.int .i64 0) := (bkC HBD.out 1).trans rfl; have hy1 : w10.cell? ⟨nb, 1, none⟩ = some (.int .i64 0) := (bkC HBN.out 1).trans rfl; have hz2 : w10.cell? ⟨dv, 2, none⟩ = some (.int .i64 0) := (bkC HBD.out 2).trans rfl; have hy2 : w10.cell? ⟨nb, 2, none⟩ = some (.int .i64 0) := (bkC HBN.out 2).trans rfl; have hz3 : w10.cell? ⟨dv, 3, none⟩ = some (.string ⟨#[]⟩) := (bkC HBD.out 3).trans rfl; have hy3 : w10.cell? ⟨nb, 3, none⟩ = some (.string ⟨#[]⟩) := (bkC HBN.out 3).trans rfl; have hz4 : w10.cell? ⟨dv, 4, none⟩ = some (.int .i64 0) := (bkC HBD.out 4).trans rfl; have hy4 : w10.cell? ⟨nb, 4, none⟩ = some (.int .i64 0) := (bkC HBN.out 4).trans rfl; have hz5 : w10.cell? ⟨dv, 5, none⟩ = some (.int .i64 0) := (bkC HBD.out 5).trans rfl; have hy5 : w10.cell? ⟨nb, 5, none⟩ = some (.int .i64 0) := (bkC HBN.out 5).trans rfl; have hz6 : w10.cell? ⟨dv, 6, none⟩ = some (.int .i64 0) := (bkC HBD.out 6).trans rfl; have hy6 : w10.cell? ⟨nb, 6, none⟩ = some (.int .i64 0) := (bkC HBN.out 6).trans rfl; have hz7 : w10.cell? ⟨dv, 7, none⟩ = some (.string ⟨#[]⟩) := (bkC HBD.out 7).trans rfl; have hy7 : w10.cell? ⟨nb, 7, none⟩ = some (.string ⟨#[]⟩) := (bkC HBN.out 7).trans rfl; have hz8 : w10.cell? ⟨dv, 8, none⟩ = some (.slice A2 2 2) := (bkC HBD.out 8).trans rfl; have hy8 : w10.cell? ⟨nb, 8, none⟩ = some (.slice none 0 0) := (bkC HBN.out 8).trans rfl
  obtain ⟨v1, hv1⟩ : ∃ v1, (evalRes (twoE 9 exDiv nullE) [] []).1 = v1 := ⟨_, rfl⟩
  have HE1 : Hid (evalRes (twoE 9 exDiv nullE) [] [] = (v1, 4)) := Lib.hid (Prod.ext hv1 ex_eval1)
  clear hv1
  have HT3 : Hid (Calls Tryd.prog 23 #[.int .i64 9, .agg #[.int .i64 7, .int .i64 0, .int .i64 0, .string ⟨#[]⟩, .int .i64 0, .int .i64 0, .int .i64 0, .string ⟨#[]⟩, .slice A2 2 2], .agg #[.int .i64 1, .int .i64 0, .int .i64 0, .string ⟨#[]⟩, .int .i64 0, .int .i64 0, .int .i64 0, .string ⟨#[]⟩, .slice none 0 0]] w10 fun r w' => ∃ A, r = .returned (.agg #[.int .i64 9, .int .i64 0, .int .i64 0, .string ⟨#[]⟩, .int .i64 0, .int .i64 0, .int .i64 0, .string ⟨#[]⟩, .slice A 2 2]) ∧ Kd.C k26 w' A 2 [exDiv, nullE] ∧ Below w10.heap.size w10 w') := Lib.hid (two_ok 9 exDiv nullE A2 none 2 0 w10 (by decide) (by decide) HCD.out (Kd.C_nil _ _))
  go_upto_region 5 with (first
    | (go_at_call 23; refine HT3.out.mono ?_; rintro r w11 ⟨A3, rfl, hC11, hB11⟩; have HEV : Hid (Calls Tryd.prog 14 #[.agg #[.int .i64 9, .int .i64 0, .int .i64 0, .string ⟨#[]⟩, .int .i64 0, .int .i64 0, .int .i64 0, .string ⟨#[]⟩, .slice A3 2 2], .slice none 0 0, .slice none 0 0] w11 fun r w' => r = .returned (.tuple #[.agg #[.int .i64 v1.f0, .int .i64 v1.f1, .string v1.f2], .int .i64 4]) ∧ Below w11.heap.size w11 w') := (by have h := Eval_ok (twoE 9 exDiv nullE) A3 none none 2 0 0 [] [] w11 hC11 (by decide) (Kd.C_nil _ _) (by decide) (Kd.C_nil _ _) (by decide); rw [HE1.out] at h; exact Lib.hid h))
    | (go_at_call 14; refine HEV.out.mono ?_; rintro r w12 ⟨rfl, hB12⟩; have hB12' := hB11.trans (hB12.mono hB11.size))
    | ((with_reducible refine gate_dst (N := 5) rfl ?_); refine box_event rfl (N := 5) rfl (cs := vaC zeroV) (t := 23) (by first | rfl | (go_simp; done) | (go_simp; rfl)) ?_; intro va hgg w13 hbva hBva;  have hva : w10.heap.size ≤ va := (by have := hB12'.size; omega); have hc0 : w13.cell? ⟨va, 0, none⟩ = some (.int .i64 0) := ((bkC hbva 0).trans rfl); have hc1 : w13.cell? ⟨va, 1, none⟩ = some (.int .i64 0) := ((bkC hbva 1).trans rfl); have hc2 : w13.cell? ⟨va, 2, none⟩ = some (.string ⟨#[]⟩) := ((bkC hbva 2).trans rfl); have hf0 := bkF hbva 0; have hf1 := bkF hbva 1; have hf2 := bkF hbva 2; clear hgg))
  have hB14 := va_below (hB12'.trans (hBva.mono hB12'.size)) hva v1
  clear hc0 hc1 hc2 hf0 hf1 hf2 hbva hBva hB12' hB12 hB11 HEV hC11
  clear hz0 hz1 hz2 hz3 hz4 hz5 hz6 hz7 hz8 hy0 hy1 hy2 hy3 hy4 hy5 hy6 hy7 hy8
  generalize ((w13.setCell ⟨va, 0, none⟩ (.int .i64 v1.f0)).setCell ⟨va, 1, none⟩ (.int .i64 v1.f1)).setCell ⟨va, 2, none⟩ (.string v1.f2) = w14 at hB14 ⊢
  have HBN14 := Lib.hid ((hB14.block nb (blk_lt HBN.out)).trans HBN.out)
  have HBD14 := Lib.hid ((hB14.block dv (blk_lt HBD.out)).trans HBD.out)
  have HC14 := Lib.hid (Kd.C_below HCD.out hB14)
  have HW14 := Lib.hid (HWW.out.trans (hB14.mono HWW.out.size))
  clear hB14
  have hz0 : w14.cell? ⟨dv, 0, none⟩ = some (.int .i64 7) := (bkC HBD14.out 0).trans rfl; have hy0 : w14.cell? ⟨nb, 0, none⟩ = some (.int .i64 1) := (bkC HBN14.out 0).trans rfl; have hz1 : w14.cell? ⟨dv, 1, none⟩ = some (.int .i64 0) := (bkC HBD14.out 1).trans rfl; have hy1 : w14.cell? ⟨nb, 1, none⟩ = some (.int .i64 0) := (bkC HBN14.out 1).trans rfl; have hz2 : w14.cell? ⟨dv, 2, none⟩ = some (.int .i64 0) := (bkC HBD14.out 2).trans rfl; have hy2 : w14.cell? ⟨nb, 2, none⟩ = some (.int .i64 0) := (bkC HBN14.out 2).trans rfl; have hz3 : w14.cell? ⟨dv, 3, none⟩ = some (.string ⟨#[]⟩) := (bkC HBD14.out 3).trans rfl; have hy3 : w14.cell? ⟨nb, 3, none⟩ = some (.string ⟨#[]⟩) := (bkC HBN14.out 3).trans rfl; have hz4 : w14.cell? ⟨dv, 4, none⟩ = some (.int .i64 0) := (bkC HBD14.out 4).trans rfl; have hy4 : w14.cell? ⟨nb, 4, none⟩ = some (.int .i64 0) := (bkC HBN14.out 4).trans rfl; have hz5 : w14.cell? ⟨dv, 5, none⟩ = some (.int .i64 0) := (bkC HBD14.out 5).trans rfl; have hy5 : w14.cell? ⟨nb, 5, none⟩ = some (.int .i64 0) := (bkC HBN14.out 5).trans rfl; have hz6 : w14.cell? ⟨dv, 6, none⟩ = some (.int .i64 0) := (bkC HBD14.out 6).trans rfl; have hy6 : w14.cell? ⟨nb, 6, none⟩ = some (.int .i64 0) := (bkC HBN14.out 6).trans rfl; have hz7 : w14.cell? ⟨dv, 7, none⟩ = some (.string ⟨#[]⟩) := (bkC HBD14.out 7).trans rfl; have hy7 : w14.cell? ⟨nb, 7, none⟩ = some (.string ⟨#[]⟩) := (bkC HBN14.out 7).trans rfl; have hz8 : w14.cell? ⟨dv, 8, none⟩ = some (.slice A2 2 2) := (bkC HBD14.out 8).trans rfl; have hy8 : w14.cell? ⟨nb, 8, none⟩ = some (.slice none 0 0) := (bkC HBN14.out 8).trans rfl
  obtain ⟨v2, hv2⟩ : ∃ v2, (evalRes (twoE 15 nullE (twoE 9 exDiv (numE 1))) [] []).1 = v2 := ⟨_, rfl⟩
  have HE2 : Hid (evalRes (twoE 15 nullE (twoE 9 exDiv (numE 1))) [] [] = (v2, 4)) := Lib.hid (Prod.ext hv2 ex_eval2)
  clear hv2
  have HT5 : Hid (∀ w, Below w14.heap.size w14 w → Calls Tryd.prog 23 #[.int .i64 9, .agg #[.int .i64 7, .int .i64 0, .int .i64 0, .string ⟨#[]⟩, .int .i64 0, .int .i64 0, .int .i64 0, .string ⟨#[]⟩, .slice A2 2 2], .agg #[.int .i64 1, .int .i64 1, .int .i64 1, .string ⟨#[]⟩, .int .i64 0, .int .i64 0, .int .i64 0, .string ⟨#[]⟩, .slice none 0 0]] w fun r w' => ∃ A, r = .returned (.agg #[.int .i64 9, .int .i64 0, .int .i64 0, .string ⟨#[]⟩, .int .i64 0, .int .i64 0, .int .i64 0, .string ⟨#[]⟩, .slice A 2 2]) ∧ Kd.C k26 w' A 2 [exDiv, numE 1] ∧ Below w.heap.size w w') := Lib.hid (fun w hw => two_ok 9 exDiv (numE 1) A2 none 2 0 w (by decide) (by decide) (Kd.C_below HC14.out hw) (Kd.C_nil _ _))
  have HT6 : Hid (∀ A4 w, Kd.C k26 w A4 2 [exDiv, numE 1] → Calls Tryd.prog 23 #[.int .i64 15, .agg #[.int .i64 1, .int .i64 0, .int .i64 0, .string ⟨#[]⟩, .int .i64 0, .int .i64 0, .int .i64 0, .string ⟨#[]⟩, .slice none 0 0], .agg #[.int .i64 9, .int .i64 0, .int .i64 0, .string ⟨#[]⟩, .int .i64 0, .int .i64 0, .int .i64 0, .string ⟨#[]⟩, .slice A4 2 2]] w fun r w' => ∃ A, r = .returned (.agg #[.int .i64 15, .int .i64 0, .int .i64 0, .string ⟨#[]⟩, .int .i64 0, .int .i64 0, .int .i64 0, .string ⟨#[]⟩, .slice A 2 2]) ∧ Kd.C k26 w' A 2 [nullE, twoE 9 exDiv (numE 1)] ∧ Below w.heap.size w w') := Lib.hid (fun A4 w h => two_ok 15 nullE (twoE 9 exDiv (numE 1)) none A4 0 2 w (by decide) (by decide) (Kd.C_nil _ _) h)
  have HEV2 : Hid (∀ A5 w, Kd.C k26 w A5 2 [nullE, twoE 9 exDiv (numE 1)] → Calls Tryd.prog 14 #[.agg #[.int .i64 15, .int .i64 0, .int .i64 0, .string ⟨#[]⟩, .int .i64 0, .int .i64 0, .int .i64 0, .string ⟨#[]⟩, .slice A5 2 2], .slice none 0 0, .slice none 0 0] w fun r w' => r = .returned (.tuple #[.agg #[.int .i64 v2.f0, .int .i64 v2.f1, .string v2.f2], .int .i64 4]) ∧ Below w.heap.size w w') := Lib.hid (fun A5 w h => by have h := Eval_ok (twoE 15 nullE (twoE 9 exDiv (numE 1))) A5 none none 2 0 0 [] [] w h (by decide) (Kd.C_nil _ _) (by decide) (Kd.C_nil _ _) (by decide); rw [HE2.out] at h; exact h)
  go_upto_region 6 with fail
  go_cut [8] (fun s8 wx => s8 = .int .i64 4 ∧ Below w14.heap.size w14 wx)
  case first =>
    go_region_held3 (fun w' => w'.cell? ⟨dv, 0, none⟩ = some (.int .i64 7) ∧ w'.cell? ⟨dv, 1, none⟩ = some (.int .i64 0) ∧ w'.cell? ⟨dv, 2, none⟩ = some (.int .i64 0) ∧ w'.cell? ⟨dv, 3, none⟩ = some (.string ⟨#[]⟩) ∧ w'.cell? ⟨dv, 4, none⟩ = some (.int .i64 0) ∧ w'.cell? ⟨dv, 5, none⟩ = some (.int .i64 0) ∧ w'.cell? ⟨dv, 6, none⟩ = some (.int .i64 0) ∧ w'.cell? ⟨dv, 7, none⟩ = some (.string ⟨#[]⟩) ∧ w'.cell? ⟨dv, 8, none⟩ = some (.slice A2 2 2) ∧ w'.cell? ⟨nb, 0, none⟩ = some (.int .i64 1) ∧ w'.cell? ⟨nb, 1, none⟩ = some (.int .i64 0) ∧ w'.cell? ⟨nb, 2, none⟩ = some (.int .i64 0) ∧ w'.cell? ⟨nb, 3, none⟩ = some (.string ⟨#[]⟩) ∧ w'.cell? ⟨nb, 4, none⟩ = some (.int .i64 0) ∧ w'.cell? ⟨nb, 5, none⟩ = some (.int .i64 0) ∧ w'.cell? ⟨nb, 6, none⟩ = some (.int .i64 0) ∧ w'.cell? ⟨nb, 7, none⟩ = some (.string ⟨#[]⟩) ∧ w'.cell? ⟨nb, 8, none⟩ = some (.slice none 0 0)) (go_keep) (first
      | (go_at_call 35; (with_reducible refine (HNUM.out _ _).mono ?_); rintro r w15 ⟨rfl, hB15⟩; (first | (have hq1 : dv ≠ w14.heap.size := Nat.ne_of_lt (blk_lt HBD14.out); have hq2 : nb ≠ w14.heap.size := Nat.ne_of_lt (blk_lt HBN14.out); have hq3 := Ne.symm hq1; have hq4 := Ne.symm hq2; have hq5 := eq_false hq1; have hq6 := eq_false hq2; have hq7 := eq_false hq3; have hq8 := eq_false hq4; have HV15 : w15.heap[w14.heap.size]? = some (.cells #[.int .i64 0, .int .i64 0, .string ⟨#[]⟩] 23 (0, 0)) := (hB15.block _ (blk_lt (heap_alloc_new w14 _))).trans (heap_alloc_new w14 _); have hu0 := ((bkC HV15 0).trans rfl : w15.cell? ⟨_, 0, none⟩ = some (.int .i64 0)); have hu1 := ((bkC HV15 1).trans rfl : w15.cell? ⟨_, 1, none⟩ = some (.int .i64 0)); have hu2 := ((bkC HV15 2).trans rfl : w15.cell? ⟨_, 2, none⟩ = some (.string ⟨#[]⟩)); have hv0 := bkF HV15 0; have hv1 := bkF HV15 1; have hv2 := bkF HV15 2) | skip); replace hB15 : Below w14.heap.size w14 w15 := (by first | (with_reducible exact num_back hB15) | exact num_back2 hB15); have HBN15 := Lib.hid ((hB15.block nb (blk_lt HBN14.out)).trans HBN14.out); have HBD15 := Lib.hid ((hB15.block dv (blk_lt HBD14.out)).trans HBD14.out); have hz0 : w15.cell? ⟨dv, 0, none⟩ = some (.int .i64 7) := (bkC HBD15.out 0).trans rfl; have hy0 : w15.cell? ⟨nb, 0, none⟩ = some (.int .i64 1) := (bkC HBN15.out 0).trans rfl; have hz1 : w15.cell? ⟨dv, 1, none⟩ = some (.int .i64 0) := (bkC HBD15.out 1).trans rfl; have hy1 : w15.cell? ⟨nb, 1, none⟩ = some (.int .i64 0) := (bkC HBN15.out 1).trans rfl; have hz2 : w15.cell? ⟨dv, 2, none⟩ = some (.int .i64 0) := (bkC HBD15.out 2).trans rfl; have hy2 : w15.cell? ⟨nb, 2, none⟩ = some (.int .i64 0) := (bkC HBN15.out 2).trans rfl; have hz3 : w15.cell? ⟨dv, 3, none⟩ = some (.string ⟨#[]⟩) := (bkC HBD15.out 3).trans rfl; have hy3 : w15.cell? ⟨nb, 3, none⟩ = some (.string ⟨#[]⟩) := (bkC HBN15.out 3).trans rfl; have hz4 : w15.cell? ⟨dv, 4, none⟩ = some (.int .i64 0) := (bkC HBD15.out 4).trans rfl; have hy4 : w15.cell? ⟨nb, 4, none⟩ = some (.int .i64 0) := (bkC HBN15.out 4).trans rfl; have hz5 : w15.cell? ⟨dv, 5, none⟩ = some (.int .i64 0) := (bkC HBD15.out 5).trans rfl; have hy5 : w15.cell? ⟨nb, 5, none⟩ = some (.int .i64 0) := (bkC HBN15.out 5).trans rfl; have hz6 : w15.cell? ⟨dv, 6, none⟩ = some (.int .i64 0) := (bkC HBD15.out 6).trans rfl; have hy6 : w15.cell? ⟨nb, 6, none⟩ = some (.int .i64 0) := (bkC HBN15.out 6).trans rfl; have hz7 : w15.cell? ⟨dv, 7, none⟩ = some (.string ⟨#[]⟩) := (bkC HBD15.out 7).trans rfl; have hy7 : w15.cell? ⟨nb, 7, none⟩ = some (.string ⟨#[]⟩) := (bkC HBN15.out 7).trans rfl; have hz8 : w15.cell? ⟨dv, 8, none⟩ = some (.slice A2 2 2) := (bkC HBD15.out 8).trans rfl; have hy8 : w15.cell? ⟨nb, 8, none⟩ = some (.slice none 0 0) := (bkC HBN15.out 8).trans rfl)
      | (go_at_call 23; (with_reducible refine (HT5.out _ (by first | exact hB15 | exact hB15.alloc hB15.size _)).mono ?_); rintro r w16 ⟨A4, rfl, hC16, hB16⟩; have hB16' : Below w14.heap.size w14 w16 := (by first | exact hB15.trans (hB16.mono hB15.size) | exact (hB15.alloc hB15.size _).trans (hB16.mono (hB15.alloc hB15.size _).size)); have HBN16 := Lib.hid ((hB16'.block nb (blk_lt HBN14.out)).trans HBN14.out); have HBD16 := Lib.hid ((hB16'.block dv (blk_lt HBD14.out)).trans HBD14.out); have hz0 : w16.cell? ⟨dv, 0, none⟩ = some (.int .i64 7) := (bkC HBD16.out 0).trans rfl; have hy0 : w16.cell? ⟨nb, 0, none⟩ = some (.int .i64 1) := (bkC HBN16.out 0).trans rfl; have hz1 : w16.cell? ⟨dv, 1, none⟩ = some (.int .i64 0) := (bkC HBD16.out 1).trans rfl; have hy1 : w16.cell? ⟨nb, 1, none⟩ = some (.int .i64 0) := (bkC HBN16.out 1).trans rfl; have hz2 : w16.cell? ⟨dv, 2, none⟩ = some (.int .i64 0) := (bkC HBD16.out 2).trans rfl; have hy2 : w16.cell? ⟨nb, 2, none⟩ = some (.int .i64 0) := (bkC HBN16.out 2).trans rfl; have hz3 : w16.cell? ⟨dv, 3, none⟩ = some (.string ⟨#[]⟩) := (bkC HBD16.out 3).trans rfl; have hy3 : w16.cell? ⟨nb, 3, none⟩ = some (.string ⟨#[]⟩) := (bkC HBN16.out 3).trans rfl; have hz4 : w16.cell? ⟨dv, 4, none⟩ = some (.int .i64 0) := (bkC HBD16.out 4).trans rfl; have hy4 : w16.cell? ⟨nb, 4, none⟩ = some (.int .i64 0) := (bkC HBN16.out 4).trans rfl; have hz5 : w16.cell? ⟨dv, 5, none⟩ = some (.int .i64 0) := (bkC HBD16.out 5).trans rfl; have hy5 : w16.cell? ⟨nb, 5, none⟩ = some (.int .i64 0) := (bkC HBN16.out 5).trans rfl; have hz6 : w16.cell? ⟨dv, 6, none⟩ = some (.int .i64 0) := (bkC HBD16.out 6).trans rfl; have hy6 : w16.cell? ⟨nb, 6, none⟩ = some (.int .i64 0) := (bkC HBN16.out 6).trans rfl; have hz7 : w16.cell? ⟨dv, 7, none⟩ = some (.string ⟨#[]⟩) := (bkC HBD16.out 7).trans rfl; have hy7 : w16.cell? ⟨nb, 7, none⟩ = some (.string ⟨#[]⟩) := (bkC HBN16.out 7).trans rfl; have hz8 : w16.cell? ⟨dv, 8, none⟩ = some (.slice A2 2 2) := (bkC HBD16.out 8).trans rfl; have hy8 : w16.cell? ⟨nb, 8, none⟩ = some (.slice none 0 0) := (bkC HBN16.out 8).trans rfl; (first | (have HV16 := (hB16.block _ (blk_lt HV15)).trans HV15; have hu0 := ((bkC HV16 0).trans rfl : w16.cell? ⟨_, 0, none⟩ = some (.int .i64 0)); have hu1 := ((bkC HV16 1).trans rfl : w16.cell? ⟨_, 1, none⟩ = some (.int .i64 0)); have hu2 := ((bkC HV16 2).trans rfl : w16.cell? ⟨_, 2, none⟩ = some (.string ⟨#[]⟩)); have hv0 := bkF HV16 0; have hv1 := bkF HV16 1; have hv2 := bkF HV16 2) | (have hq1 : dv ≠ w15.heap.size := Nat.ne_of_lt (blk_lt HBD15.out); have hq2 : nb ≠ w15.heap.size := Nat.ne_of_lt (blk_lt HBN15.out); have hq3 := Ne.symm hq1; have hq4 := Ne.symm hq2; have hq5 := eq_false hq1; have hq6 := eq_false hq2; have hq7 := eq_false hq3; have hq8 := eq_false hq4; have HV16 : w16.heap[w15.heap.size]? = some (.cells #[.int .i64 0, .int .i64 0, .string ⟨#[]⟩] 23 (0, 0)) := (hB16.block _ (blk_lt (heap_alloc_new w15 _))).trans (heap_alloc_new w15 _); have hu0 := ((bkC HV16 0).trans rfl : w16.cell? ⟨_, 0, none⟩ = some (.int .i64 0)); have hu1 := ((bkC HV16 1).trans rfl : w16.cell? ⟨_, 1, none⟩ = some (.int .i64 0)); have hu2 := ((bkC HV16 2).trans rfl : w16.cell? ⟨_, 2, none⟩ = some (.string ⟨#[]⟩)); have hv0 := bkF HV16 0; have hv1 := bkF HV16 1; have hv2 := bkF HV16 2) | skip))
      | (go_at_call 23; (with_reducible refine (HT6.out _ _ (by first | exact hC16 | exact Kd.C_alloc hC16 _)).mono ?_); rintro r w17 ⟨A5, rfl, hC17, hB17⟩; have hB17' : Below w14.heap.size w14 w17 := (by first | exact hB16'.trans (hB17.mono hB16'.size) | exact (hB16'.alloc hB16'.size _).trans (hB17.mono (hB16'.alloc hB16'.size _).size)); have HBN17 := Lib.hid ((hB17'.block nb (blk_lt HBN14.out)).trans HBN14.out); have HBD17 := Lib.hid ((hB17'.block dv (blk_lt HBD14.out)).trans HBD14.out); have hz0 : w17.cell? ⟨dv, 0, none⟩ = some (.int .i64 7) := (bkC HBD17.out 0).trans rfl; have hy0 : w17.cell? ⟨nb, 0, none⟩ = some (.int .i64 1) := (bkC HBN17.out 0).trans rfl; have hz1 : w17.cell? ⟨dv, 1, none⟩ = some (.int .i64 0) := (bkC HBD17.out 1).trans rfl; have hy1 : w17.cell? ⟨nb, 1, none⟩ = some (.int .i64 0) := (bkC HBN17.out 1).trans rfl; have hz2 : w17.cell? ⟨dv, 2, none⟩ = some (.int .i64 0) := (bkC HBD17.out 2).trans rfl; have hy2 : w17.cell? ⟨nb, 2, none⟩ = some (.int .i64 0) := (bkC HBN17.out 2).trans rfl; have hz3 : w17.cell? ⟨dv, 3, none⟩ = some (.string ⟨#[]⟩) := (bkC HBD17.out 3).trans rfl; have hy3 : w17.cell? ⟨nb, 3, none⟩ = some (.string ⟨#[]⟩) := (bkC HBN17.out 3).trans rfl; have hz4 : w17.cell? ⟨dv, 4, none⟩ = some (.int .i64 0) := (bkC HBD17.out 4).trans rfl; have hy4 : w17.cell? ⟨nb, 4, none⟩ = some (.int .i64 0) := (bkC HBN17.out 4).trans rfl; have hz5 : w17.cell? ⟨dv, 5, none⟩ = some (.int .i64 0) := (bkC HBD17.out 5).trans rfl; have hy5 : w17.cell? ⟨nb, 5, none⟩ = some (.int .i64 0) := (bkC HBN17.out 5).trans rfl; have hz6 : w17.cell? ⟨dv, 6, none⟩ = some (.int .i64 0) := (bkC HBD17.out 6).trans rfl; have hy6 : w17.cell? ⟨nb, 6, none⟩ = some (.int .i64 0) := (bkC HBN17.out 6).trans rfl; have hz7 : w17.cell? ⟨dv, 7, none⟩ = some (.string ⟨#[]⟩) := (bkC HBD17.out 7).trans rfl; have hy7 : w17.cell? ⟨nb, 7, none⟩ = some (.string ⟨#[]⟩) := (bkC HBN17.out 7).trans rfl; have hz8 : w17.cell? ⟨dv, 8, none⟩ = some (.slice A2 2 2) := (bkC HBD17.out 8).trans rfl; have hy8 : w17.cell? ⟨nb, 8, none⟩ = some (.slice none 0 0) := (bkC HBN17.out 8).trans rfl; (first | (have HV17 := (hB17.block _ (blk_lt HV16)).trans HV16; have hu0 := ((bkC HV17 0).trans rfl : w17.cell? ⟨_, 0, none⟩ = some (.int .i64 0)); have hu1 := ((bkC HV17 1).trans rfl : w17.cell? ⟨_, 1, none⟩ = some (.int .i64 0)); have hu2 := ((bkC HV17 2).trans rfl : w17.cell? ⟨_, 2, none⟩ = some (.string ⟨#[]⟩)); have hv0 := bkF HV17 0; have hv1 := bkF HV17 1; have hv2 := bkF HV17 2) | (have hq1 : dv ≠ w16.heap.size := Nat.ne_of_lt (blk_lt HBD16.out); have hq2 : nb ≠ w16.heap.size := Nat.ne_of_lt (blk_lt HBN16.out); have hq3 := Ne.symm hq1; have hq4 := Ne.symm hq2; have hq5 := eq_false hq1; have hq6 := eq_false hq2; have hq7 := eq_false hq3; have hq8 := eq_false hq4; have HV17 : w17.heap[w16.heap.size]? = some (.cells #[.int .i64 0, .int .i64 0, .string ⟨#[]⟩] 23 (0, 0)) := (hB17.block _ (blk_lt (heap_alloc_new w16 _))).trans (heap_alloc_new w16 _); have hu0 := ((bkC HV17 0).trans rfl : w17.cell? ⟨_, 0, none⟩ = some (.int .i64 0)); have hu1 := ((bkC HV17 1).trans rfl : w17.cell? ⟨_, 1, none⟩ = some (.int .i64 0)); have hu2 := ((bkC HV17 2).trans rfl : w17.cell? ⟨_, 2, none⟩ = some (.string ⟨#[]⟩)); have hv0 := bkF HV17 0; have hv1 := bkF HV17 1; have hv2 := bkF HV17 2) | skip))
      | (go_at_call 14; (with_reducible refine (HEV2.out _ _ (by first | exact hC17 | exact Kd.C_alloc hC17 _)).mono ?_); rintro r w18 ⟨rfl, hB18⟩; have hB18' : Below w14.heap.size w14 w18 := (by first | exact hB17'.trans (hB18.mono hB17'.size) | exact (hB17'.alloc hB17'.size _).trans (hB18.mono (hB17'.alloc hB17'.size _).size)); have HBN18 := Lib.hid ((hB18'.block nb (blk_lt HBN14.out)).trans HBN14.out); have HBD18 := Lib.hid ((hB18'.block dv (blk_lt HBD14.out)).trans HBD14.out); have hz0 : w18.cell? ⟨dv, 0, none⟩ = some (.int .i64 7) := (bkC HBD18.out 0).trans rfl; have hy0 : w18.cell? ⟨nb, 0, none⟩ = some (.int .i64 1) := (bkC HBN18.out 0).trans rfl; have hz1 : w18.cell? ⟨dv, 1, none⟩ = some (.int .i64 0) := (bkC HBD18.out 1).trans rfl; have hy1 : w18.cell? ⟨nb, 1, none⟩ = some (.int .i64 0) := (bkC HBN18.out 1).trans rfl; have hz2 : w18.cell? ⟨dv, 2, none⟩ = some (.int .i64 0) := (bkC HBD18.out 2).trans rfl; have hy2 : w18.cell? ⟨nb, 2, none⟩ = some (.int .i64 0) := (bkC HBN18.out 2).trans rfl; have hz3 : w18.cell? ⟨dv, 3, none⟩ = some (.string ⟨#[]⟩) := (bkC HBD18.out 3).trans rfl; have hy3 : w18.cell? ⟨nb, 3, none⟩ = some (.string ⟨#[]⟩) := (bkC HBN18.out 3).trans rfl; have hz4 : w18.cell? ⟨dv, 4, none⟩ = some (.int .i64 0) := (bkC HBD18.out 4).trans rfl; have hy4 : w18.cell? ⟨nb, 4, none⟩ = some (.int .i64 0) := (bkC HBN18.out 4).trans rfl; have hz5 : w18.cell? ⟨dv, 5, none⟩ = some (.int .i64 0) := (bkC HBD18.out 5).trans rfl; have hy5 : w18.cell? ⟨nb, 5, none⟩ = some (.int .i64 0) := (bkC HBN18.out 5).trans rfl; have hz6 : w18.cell? ⟨dv, 6, none⟩ = some (.int .i64 0) := (bkC HBD18.out 6).trans rfl; have hy6 : w18.cell? ⟨nb, 6, none⟩ = some (.int .i64 0) := (bkC HBN18.out 6).trans rfl; have hz7 : w18.cell? ⟨dv, 7, none⟩ = some (.string ⟨#[]⟩) := (bkC HBD18.out 7).trans rfl; have hy7 : w18.cell? ⟨nb, 7, none⟩ = some (.string ⟨#[]⟩) := (bkC HBN18.out 7).trans rfl; have hz8 : w18.cell? ⟨dv, 8, none⟩ = some (.slice A2 2 2) := (bkC HBD18.out 8).trans rfl; have hy8 : w18.cell? ⟨nb, 8, none⟩ = some (.slice none 0 0) := (bkC HBN18.out 8).trans rfl; (first | (have HV18 := (hB18.block _ (blk_lt HV17)).trans HV17; have hu0 := ((bkC HV18 0).trans rfl : w18.cell? ⟨_, 0, none⟩ = some (.int .i64 0)); have hu1 := ((bkC HV18 1).trans rfl : w18.cell? ⟨_, 1, none⟩ = some (.int .i64 0)); have hu2 := ((bkC HV18 2).trans rfl : w18.cell? ⟨_, 2, none⟩ = some (.string ⟨#[]⟩)); have hv0 := bkF HV18 0; have hv1 := bkF HV18 1; have hv2 := bkF HV18 2) | (have hq1 : dv ≠ w17.heap.size := Nat.ne_of_lt (blk_lt HBD17.out); have hq2 : nb ≠ w17.heap.size := Nat.ne_of_lt (blk_lt HBN17.out); have hq3 := Ne.symm hq1; have hq4 := Ne.symm hq2; have hq5 := eq_false hq1; have hq6 := eq_false hq2; have hq7 := eq_false hq3; have hq8 := eq_false hq4; have HV18 : w18.heap[w17.heap.size]? = some (.cells #[.int .i64 0, .int .i64 0, .string ⟨#[]⟩] 23 (0, 0)) := (hB18.block _ (blk_lt (heap_alloc_new w17 _))).trans (heap_alloc_new w17 _); have hu0 := ((bkC HV18 0).trans rfl : w18.cell? ⟨_, 0, none⟩ = some (.int .i64 0)); have hu1 := ((bkC HV18 1).trans rfl : w18.cell? ⟨_, 1, none⟩ = some (.int .i64 0)); have hu2 := ((bkC HV18 2).trans rfl : w18.cell? ⟨_, 2, none⟩ = some (.string ⟨#[]⟩)); have hv0 := bkF HV18 0; have hv1 := bkF HV18 1; have hv2 := bkF HV18 2) | skip)))
    all_goals (go_wp2_with fail; go_meet; exact ⟨rfl, (by first | exact blA hB18' _ | exact va_below hB18' hB17'.size v2 | exact va_below hB18' hB16'.size v2 | exact va_below hB18' hB15.size v2 | exact va_below hB18' (Nat.le_refl _) v2)⟩)
  case rest =>
    obtain ⟨rfl, hBx⟩ := hcut
    have HW20 := Lib.hid (HW14.out.trans (hBx.mono HW14.out.size))
    have HBD20 := Lib.hid ((hBx.block dv (blk_lt HBD14.out)).trans HBD14.out)
    have HC20 := Lib.hid (Kd.C_below HC14.out hBx)
    clear hBx HC14 HBD14 HBN14 HW14 HEV2 HT6 HT5 HT3 HT2 HT1 HE1 HE2 hz0 hz1 hz2 hz3 hz4 hz5 hz6 hz7 hz8 hy0 hy1 hy2 hy3 hy4 hy5 hy6 hy7 hy8
    have HT8 : Hid (∀ w, Calls Tryd.prog 23 #[.int .i64 11, .agg #[.int .i64 2, .int .i64 0, .int .i64 0, .string ⟨#[]⟩, .int .i64 0, .int .i64 1, .int .i64 0, .string ⟨#[]⟩, .slice none 0 0], .agg #[.int .i64 1, .int .i64 1, .int .i64 2, .string ⟨#[]⟩, .int .i64 0, .int .i64 0, .int .i64 0, .string ⟨#[]⟩, .slice none 0 0]] w fun r w' => ∃ A, r = .returned (.agg #[.int .i64 11, .int .i64 0, .int .i64 0, .string ⟨#[]⟩, .int .i64 0, .int .i64 0, .int .i64 0, .string ⟨#[]⟩, .slice A 2 2]) ∧ Kd.C k26 w' A 2 [refE 0 1, numE 2] ∧ Below w.heap.size w w') := Lib.hid (fun w => two_ok 11 (refE 0 1) (numE 2) none none 0 0 w (by decide) (by decide) (Kd.C_nil _ _) (Kd.C_nil _ _))
    have HKD : Hid (∀ A6 W, Kd.C k26 W A6 2 [refE 0 1, numE 2] → Calls Tryd.prog 12 #[.agg #[.int .i64 11, .int .i64 0, .int .i64 0, .string ⟨#[]⟩, .int .i64 0, .int .i64 0, .int .i64 0, .string ⟨#[]⟩, .slice A6 2 2], .slice (some ⟨W.heap.size + 1, 0, none⟩) 1 1, .slice none 0 0] ((W.alloc (.cells #[.int .i64 0, .int .i64 1] 3)).alloc (.cells #[.slice (some ⟨W.heap.size, 0, none⟩) 2 2] 28)) fun r w' => r = .returned (.tuple #[.int .i64 2, .int .i64 0]) ∧ Below W.heap.size W w') := Lib.hid (fun A6 W h => by
      have hb2 := blA (blA (Below.refl _ W) (.cells #[.int .i64 0, .int .i64 1] 3)) (.cells #[.slice (some ⟨W.heap.size, 0, none⟩) 2 2] 28)
      have h := Kind_ok (twoE 11 (refE 0 1) (numE 2)) A6 (some ⟨W.heap.size + 1, 0, none⟩) none 2 1 0 [[0, 1]] [] _ (Kd.C_below h hb2) (by decide) (rows01_C W) (by decide) (Kd.C_nil _ _) (by decide)
      rw [ex_kind] at h
      exact h.mono fun _ _ ⟨he, hw⟩ => ⟨he, hb2.trans (hw.mono hb2.size)⟩)
    go_upto_region 7 with (first
      | (go_at_call 34; refine (HREF.out _ _ _).mono ?_; rintro r w21 ⟨rfl, hB21⟩)
      | (go_at_call 35; refine (HNUM.out _ _).mono ?_; rintro r w22 ⟨rfl, hB22⟩)
      | (go_at_call 23; refine (HT8.out _).mono ?_; rintro r w23 ⟨A6, rfl, hC23, hB23⟩)
      | (go_at_call 12; refine (HKD.out _ _ hC23).mono ?_; rintro r w24 ⟨rfl, hB24⟩))
    have hB24' : Below wc.heap.size wc w24 := hB21.trans ((hB22.trans ((hB23.trans (hB24.mono hB23.size)).mono hB22.size)).mono hB21.size)
    have HW24 := Lib.hid (HW20.out.trans (hB24'.mono HW20.out.size))
    have HBD24 := Lib.hid ((hB24'.block dv (blk_lt HBD20.out)).trans HBD20.out)
    have HC24 := Lib.hid (Kd.C_below HC20.out hB24')
    clear hB24' hB24 hB23 hB22 hB21 hC23 HC20 HBD20 HW20 HKD HT8 HNUM
    have hz0 : w24.cell? ⟨dv, 0, none⟩ = some (.int .i64 7) := (bkC HBD24.out 0).trans rfl; have hz1 : w24.cell? ⟨dv, 1, none⟩ = some (.int .i64 0) := (bkC HBD24.out 1).trans rfl; have hz2 : w24.cell? ⟨dv, 2, none⟩ = some (.int .i64 0) := (bkC HBD24.out 2).trans rfl; have hz3 : w24.cell? ⟨dv, 3, none⟩ = some (.string ⟨#[]⟩) := (bkC HBD24.out 3).trans rfl; have hz4 : w24.cell? ⟨dv, 4, none⟩ = some (.int .i64 0) := (bkC HBD24.out 4).trans rfl; have hz5 : w24.cell? ⟨dv, 5, none⟩ = some (.int .i64 0) := (bkC HBD24.out 5).trans rfl; have hz6 : w24.cell? ⟨dv, 6, none⟩ = some (.int .i64 0) := (bkC HBD24.out 6).trans rfl; have hz7 : w24.cell? ⟨dv, 7, none⟩ = some (.string ⟨#[]⟩) := (bkC HBD24.out 7).trans rfl; have hz8 : w24.cell? ⟨dv, 8, none⟩ = some (.slice A2 2 2) := (bkC HBD24.out 8).trans rfl
    have HRG : Hid (Calls Tryd.prog 17 #[.agg #[.int .i64 7, .int .i64 0, .int .i64 0, .string ⟨#[]⟩, .int .i64 0, .int .i64 0, .int .i64 0, .string ⟨#[]⟩, .slice A2 2 2]] w24 fun r w' => r = .returned (.bool true) ∧ Below w24.heap.size w24 w') := Lib.hid (by have h := right_ok exDiv A2 2 w24 HC24.out (by decide); rw [ex_div] at h; exact h)
    have HTB : Hid (∀ w, Calls Tryd.prog 16 #[.agg #[.int .i64 2, .int .i64 0, .int .i64 0, .string ⟨#[]⟩, .int .i64 2, .int .i64 0, .int .i64 0, .string ⟨#[]⟩, .slice none 0 0]] w fun r w' => r = .returned (.int .i64 4) ∧ Below w.heap.size w w') := Lib.hid (fun w => by have h := tables_ok (refE 2 0) none 0 w (Kd.C_nil _ _) (by decide); rw [ex_tab] at h; exact h)
    go_wp2_with (first
      | (go_at_call 17; refine HRG.out.mono ?_; rintro r w25 ⟨rfl, hB25⟩)
      | (go_at_call 34; refine (HREF.out _ _ _).mono ?_; rintro r w26 ⟨rfl, hB26⟩)
      | (go_at_call 16; refine (HTB.out _).mono ?_; rintro r w27 ⟨rfl, hB27⟩))
    have hW25 := HW24.out.trans (hB25.mono HW24.out.size)
    have hW26 := hW25.trans (hB26.mono hW25.size)
    have hW27 := hW26.trans (hB27.mono hW26.size)
    go_ret
    exact ⟨rfl, hW27⟩
def w08_examples.f : Option Bool := some true
theorem w08_examples.calls (r : Bool) (w : World) (h : w08_examples.f = some r) (hT : TabW w) : Calls Tryd.prog 11 #[] w fun e w' => e = .returned (.bool r) ∧ Below w.heap.size w w' := by
  obtain rfl := Option.some.inj h
  exact examples_ok w hT
end Go.Proofs.YtkboodfnegedaaaDoor.E
namespace Go.Proofs.YtkboodfnegedaaaDoor.E
open Go.RowKit Go.Proofs.YtkboodfnegedaaaDoorW.PrintWords Go.Proofs.YtkboodfnegedaaaDoorW.PrintLast Go.Proofs.YtkboodfnegedaaaDoorW.PrintMore
attribute [local go_sem] max2_int min2_int max_two min_two max_three min_three max_four min_four   -- for this text's walks alone
set_option linter.unusedVariables false
set_option linter.unusedSimpArgs false
def w08_ExprKinds.f (k : Nat) (a0_0 : Int) (a0_1 : Int) (a0_2 : Int) (a0_3 : ByteArray) (a0_4 : Int) (a0_5 : Int) (a0_6 : Int) (a0_7 : ByteArray) (l0_8 : List (S26)) (l1 : List (List Int)) (l2 : List Int) : Option (Bool) := (w08_examples.f).bind fun t473 => ((expr_Kind.f a0_0 a0_1 a0_2 a0_3 a0_4 a0_5 a0_6 a0_7 l0_8 l1 l2).bind fun bt474 => ((q08_Kind.f k a0_0 a0_1 a0_2 a0_3 a0_4 a0_5 a0_6 a0_7 l0_8 l1 l2).bind fun bt476 => (if t473 = true then (if bt474.1 = bt476.1 then (some (bt474.2 == bt476.2)) else (some false)) else (some false))))
set_option maxHeartbeats 8000000 in
set_option maxRecDepth 100000 in
theorem w08_ExprKinds.calls (k : Nat) (a0_0 : Int) (a0_1 : Int) (a0_2 : Int) (a0_3 : ByteArray) (a0_4 : Int) (a0_5 : Int) (a0_6 : Int) (a0_7 : ByteArray) (A0_8 : Option Addr) (c0_8 : Nat) (l0_8 : List (S26)) (A1 : Option Addr) (c1 : Nat) (l1 : List (List Int)) (A2 : Option Addr) (c2 : Nat) (l2 : List Int) (r : Bool) (w : World) (hr0_8 : Kd.C k26 w A0_8 l0_8.length l0_8) (hc0_8 : l0_8.length ≤ c0_8) (hr1 : Kd.C (Kd.slice 3 (Kd.int .i64)) w A1 l1.length l1) (hc1 : l1.length ≤ c1) (hr2 : Kd.C (Kd.int .i64) w A2 l2.length l2) (hc2 : l2.length ≤ c2) (h : w08_ExprKinds.f k a0_0 a0_1 a0_2 a0_3 a0_4 a0_5 a0_6 a0_7 l0_8 l1 l2 = some r) (hT : TabW w) :
  Calls Tryd.prog 3 #[.agg #[.int .i64 a0_0, .int .i64 a0_1, .int .i64 a0_2, .string a0_3, .int .i64 a0_4, .int .i64 a0_5, .int .i64 a0_6, .string a0_7, .slice A0_8 l0_8.length c0_8], .slice A1 l1.length c1, .slice A2 l2.length c2] w fun e w' => e = .returned (.bool r) ∧ Below w.heap.size w w' := by
 have HT := Asd.mk hT
 clear hT
 have hu26 := Tryd.underlying26
 have HR0_8 := Asd.mk hr0_8
 have HC0_8 := Asd.mk hc0_8
 clear hr0_8 hc0_8
 have HR1 := Asd.mk hr1
 have HC1 := Asd.mk hc1
 clear hr1 hc1
 have HR2 := Asd.mk hr2
 have HC2 := Asd.mk hc2
 clear hr2 hc2
 have HB := Asd.mk (Below.refl w.heap.size w)
 have H : ((w08_examples.f).bind fun t473 => ((expr_Kind.f a0_0 a0_1 a0_2 a0_3 a0_4 a0_5 a0_6 a0_7 l0_8 l1 l2).bind fun bt474 => ((q08_Kind.f k a0_0 a0_1 a0_2 a0_3 a0_4 a0_5 a0_6 a0_7 l0_8 l1 l2).bind fun bt476 => (if t473 = true then (if bt474.1 = bt476.1 then (some (bt474.2 == bt476.2)) else (some false)) else (some false))))) = some r := h
 clear h
 replace H := Option.bind_eq_some_iff.mp H
 obtain ⟨t473, A40, H⟩ := H
 replace H : ((expr_Kind.f a0_0 a0_1 a0_2 a0_3 a0_4 a0_5 a0_6 a0_7 l0_8 l1 l2).bind fun bt474 => ((q08_Kind.f k a0_0 a0_1 a0_2 a0_3 a0_4 a0_5 a0_6 a0_7 l0_8 l1 l2).bind fun bt476 => (if t473 = true then (if bt474.1 = bt476.1 then (some (bt474.2 == bt476.2)) else (some false)) else (some false)))) = some r := H
 have A4 := Asd.mk A40
 clear A40
 replace H := Option.bind_eq_some_iff.mp H
 obtain ⟨⟨t474, t475⟩, A50, H⟩ := H
 replace H : ((q08_Kind.f k a0_0 a0_1 a0_2 a0_3 a0_4 a0_5 a0_6 a0_7 l0_8 l1 l2).bind fun bt476 => (if t473 = true then (if t474 = bt476.1 then (some (t475 == bt476.2)) else (some false)) else (some false))) = some r := H
 have A5 := Asd.mk A50
 clear A50
 replace H := Option.bind_eq_some_iff.mp H
 obtain ⟨⟨t476, t477⟩, A60, H⟩ := H
 replace H : (if t473 = true then (if t474 = t476 then (some (t475 == t477)) else (some false)) else (some false)) = some r := H
 have A6 := Asd.mk A60
 clear A60
 by_cases c7 : t473 = true
 ·subst c7
  have H1 : (if t474 = t476 then (some (t475 == t477)) else (some false)) = some r := by rw [if_pos rfl] at H; exact H
  clear H
  have H := H1
  clear H1
  by_cases c8 : t474 = t476
  ·rw [if_pos c8] at H
   have c8b0 : (t474 == t476) = true := beq_iff_eq.mpr c8
   have c8b1 : (t474 != t476) = false := bne_eq_false_iff_eq.mpr c8
   clear c8
   obtain rfl := Option.some.inj H
   go_enter Tryd.func3, Tryd.ntmps3
   go_wp2_with (first | ((with_reducible refine gate_dst (N := 3) rfl ?_); refine box_event ?hg (N := 3) ?hd (cs := #[.int .i64 a0_0, .int .i64 a0_1, .int .i64 a0_2, .string a0_3, .int .i64 a0_4, .int .i64 a0_5, .int .i64 a0_6, .string a0_7, .slice A0_8 l0_8.length c0_8]) (t := 26) ?hr ?_; (case hd => rfl); (case hg => rfl); (case hr => first | (go_simp; done) | (go_simp; rfl)); intro gb472 hg w9 hbox hb; have n0_ := Asd.mk (below_step (by repeat (first | (with_reducible first | exact HB.out | apply blA | apply pbN | apply blD) | exact HB.out)) hb); have n1_ := Asd.mk (hbox); have n2_ := Asd.mk ((by rw [hg]; exact (below_size (by repeat (first | (with_reducible first | exact HB.out | apply blA | apply pbN | apply blD) | exact HB.out))) : w.heap.size ≤ gb472)); have n3_ := Asd.mk ((by rw [hg]; exact (below_size (by repeat (first | (with_reducible first | exact HB.out | apply blA | apply pbN | apply blD) | exact HB.out))) : w.heap.size ≤ gb472)); clear HB; have HB := n0_; have BK472 := n1_; have GW472 := n2_; have GE472 := n3_; clear n0_ n1_ n2_ n3_; clear hb hbox hg) | ((with_reducible refine gate_callee (f := 11) rfl ?_); refine goesL_ (some 12) rfl rfl Tryd.func11 (by kernel_rfl) rfl #[] rfl (by (try simp only [List.map_toArray, List.map_cons, List.map_nil]); first | done | rfl | (simp only [List.length_drop, List.length_take]; rfl)) ?_; (with_reducible refine (w08_examples.calls  true _ A4.out (tab_at HT.out (by repeat (first | (with_reducible first | exact HB.out | apply blA | apply pbN | apply blD | refine blS ?_ GE472.out) | exact HB.out)))).mono ?_); rintro e w10 ⟨rfl, hb⟩; refine ⟨_, rfl, ?_⟩; have n0_ := Asd.mk (blk_below (g := gb472) (o := .cells #[.int .i64 a0_0, .int .i64 a0_1, .int .i64 a0_2, .string a0_3, .int .i64 a0_4, .int .i64 a0_5, .int .i64 a0_6, .string a0_7, .slice A0_8 l0_8.length c0_8] 26 (0, 0)) (by (with_reducible repeat (first | refine bkN ?_ _ | refine bkD ?_ | refine bkA ?_ _)); exact BK472.out) hb); have n1_ := Asd.mk (below_step (by repeat (first | (with_reducible first | exact HB.out | apply blA | apply pbN | apply blD | refine blS ?_ GE472.out) | exact HB.out)) hb); clear BK472; clear HB; have BK472 := n0_; have HB := n1_; clear n0_ n1_; (try clear hb); (try clear hb2); (try clear hk); (try clear hi); have hcz11_0 : w10.cell? ⟨gb472, 0, none⟩ = some (.int .i64 a0_0) := (bkC BK472.out 0).trans rfl; have hcz11_1 : w10.cell? ⟨gb472, 1, none⟩ = some (.int .i64 a0_1) := (bkC BK472.out 1).trans rfl; have hcz11_2 : w10.cell? ⟨gb472, 2, none⟩ = some (.int .i64 a0_2) := (bkC BK472.out 2).trans rfl; have hcz11_3 : w10.cell? ⟨gb472, 3, none⟩ = some (.string a0_3) := (bkC BK472.out 3).trans rfl; have hcz11_4 : w10.cell? ⟨gb472, 4, none⟩ = some (.int .i64 a0_4) := (bkC BK472.out 4).trans rfl; have hcz11_5 : w10.cell? ⟨gb472, 5, none⟩ = some (.int .i64 a0_5) := (bkC BK472.out 5).trans rfl; have hcz11_6 : w10.cell? ⟨gb472, 6, none⟩ = some (.int .i64 a0_6) := (bkC BK472.out 6).trans rfl; have hcz11_7 : w10.cell? ⟨gb472, 7, none⟩ = some (.string a0_7) := (bkC BK472.out 7).trans rfl; have hcz11_8 : w10.cell? ⟨gb472, 8, none⟩ = some (.slice A0_8 l0_8.length c0_8) := (bkC BK472.out 8).trans rfl; have hfz11_0 := bkF BK472.out 0; have hfz11_1 := bkF BK472.out 1; have hfz11_2 := bkF BK472.out 2; have hfz11_3 := bkF BK472.out 3; have hfz11_4 := bkF BK472.out 4; have hfz11_5 := bkF BK472.out 5; have hfz11_6 := bkF BK472.out 6; have hfz11_7 := bkF BK472.out 7; have hfz11_8 := bkF BK472.out 8) | ((with_reducible refine gate_callee (f := 12) rfl ?_); refine goesL_ (some 17) rfl rfl Tryd.func12 (by kernel_rfl) rfl #[.agg #[.int .i64 a0_0, .int .i64 a0_1, .int .i64 a0_2, .string a0_3, .int .i64 a0_4, .int .i64 a0_5, .int .i64 a0_6, .string a0_7, .slice A0_8 l0_8.length c0_8], .slice A1 l1.length c1, .slice A2 l2.length c2] rfl (by (try simp only [List.map_toArray, List.map_cons, List.map_nil]); first | done | rfl | (simp only [List.length_drop, List.length_take]; rfl)) ?_; (with_reducible refine (expr_Kind.calls a0_0 a0_1 a0_2 a0_3 a0_4 a0_5 a0_6 a0_7 _ _ l0_8 _ _ l1 _ _ l2 t474 t475 _ ?side1 ?side2 ?side3 ?side4 ?side5 ?side6 A5.out).mono ?_); (case side1 => repeat (first | exact (Kd.C_below HR0_8.out HB.out) | (with_reducible refine Kd.C_alloc ?_ _) | (with_reducible refine Kd.C_drewN ?_ _) | (with_reducible refine Kd.C_drew ?_))); (case side2 => exact HC0_8.out); (case side3 => repeat (first | exact (Kd.C_below HR1.out HB.out) | (with_reducible refine Kd.C_alloc ?_ _) | (with_reducible refine Kd.C_drewN ?_ _) | (with_reducible refine Kd.C_drew ?_))); (case side4 => exact HC1.out); (case side5 => repeat (first | exact (Kd.C_below HR2.out HB.out) | (with_reducible refine Kd.C_alloc ?_ _) | (with_reducible refine Kd.C_drewN ?_ _) | (with_reducible refine Kd.C_drew ?_))); (case side6 => exact HC2.out); rintro e w12 ⟨rfl, hb⟩; refine ⟨_, rfl, ?_⟩; have n0_ := Asd.mk (blk_below (g := gb472) (o := .cells #[.int .i64 a0_0, .int .i64 a0_1, .int .i64 a0_2, .string a0_3, .int .i64 a0_4, .int .i64 a0_5, .int .i64 a0_6, .string a0_7, .slice A0_8 l0_8.length c0_8] 26 (0, 0)) (by (with_reducible repeat (first | refine bkN ?_ _ | refine bkD ?_ | refine bkA ?_ _)); exact BK472.out) hb); have n1_ := Asd.mk (below_step (by repeat (first | (with_reducible first | exact HB.out | apply blA | apply pbN | apply blD | refine blS ?_ GE472.out) | exact HB.out)) hb); clear BK472; clear HB; have BK472 := n0_; have HB := n1_; clear n0_ n1_; (try clear hb); (try clear hb2); (try clear hk); (try clear hi); have hcz13_0 : w12.cell? ⟨gb472, 0, none⟩ = some (.int .i64 a0_0) := (bkC BK472.out 0).trans rfl; have hcz13_1 : w12.cell? ⟨gb472, 1, none⟩ = some (.int .i64 a0_1) := (bkC BK472.out 1).trans rfl; have hcz13_2 : w12.cell? ⟨gb472, 2, none⟩ = some (.int .i64 a0_2) := (bkC BK472.out 2).trans rfl; have hcz13_3 : w12.cell? ⟨gb472, 3, none⟩ = some (.string a0_3) := (bkC BK472.out 3).trans rfl; have hcz13_4 : w12.cell? ⟨gb472, 4, none⟩ = some (.int .i64 a0_4) := (bkC BK472.out 4).trans rfl; have hcz13_5 : w12.cell? ⟨gb472, 5, none⟩ = some (.int .i64 a0_5) := (bkC BK472.out 5).trans rfl; have hcz13_6 : w12.cell? ⟨gb472, 6, none⟩ = some (.int .i64 a0_6) := (bkC BK472.out 6).trans rfl; have hcz13_7 : w12.cell? ⟨gb472, 7, none⟩ = some (.string a0_7) := (bkC BK472.out 7).trans rfl; have hcz13_8 : w12.cell? ⟨gb472, 8, none⟩ = some (.slice A0_8 l0_8.length c0_8) := (bkC BK472.out 8).trans rfl; have hfz13_0 := bkF BK472.out 0; have hfz13_1 := bkF BK472.out 1; have hfz13_2 := bkF BK472.out 2; have hfz13_3 := bkF BK472.out 3; have hfz13_4 := bkF BK472.out 4; have hfz13_5 := bkF BK472.out 5; have hfz13_6 := bkF BK472.out 6; have hfz13_7 := bkF BK472.out 7; have hfz13_8 := bkF BK472.out 8) | ((with_reducible refine gate_callee (f := 13) rfl ?_); refine goesL_ (some 24) rfl rfl Tryd.func13 (by kernel_rfl) rfl #[.agg #[.int .i64 a0_0, .int .i64 a0_1, .int .i64 a0_2, .string a0_3, .int .i64 a0_4, .int .i64 a0_5, .int .i64 a0_6, .string a0_7, .slice A0_8 l0_8.length c0_8], .slice A1 l1.length c1, .slice A2 l2.length c2] rfl (by (try simp only [List.map_toArray, List.map_cons, List.map_nil]); first | done | rfl | (simp only [List.length_drop, List.length_take]; rfl)) ?_; (with_reducible refine (q08_Kind.calls k a0_0 a0_1 a0_2 a0_3 a0_4 a0_5 a0_6 a0_7 _ _ l0_8 _ _ l1 _ _ l2 t476 t477 _ ?side1 ?side2 ?side3 ?side4 ?side5 ?side6 A6.out).mono ?_); (case side1 => repeat (first | exact (Kd.C_below HR0_8.out HB.out) | (with_reducible refine Kd.C_alloc ?_ _) | (with_reducible refine Kd.C_drewN ?_ _) | (with_reducible refine Kd.C_drew ?_))); (case side2 => exact HC0_8.out); (case side3 => repeat (first | exact (Kd.C_below HR1.out HB.out) | (with_reducible refine Kd.C_alloc ?_ _) | (with_reducible refine Kd.C_drewN ?_ _) | (with_reducible refine Kd.C_drew ?_))); (case side4 => exact HC1.out); (case side5 => repeat (first | exact (Kd.C_below HR2.out HB.out) | (with_reducible refine Kd.C_alloc ?_ _) | (with_reducible refine Kd.C_drewN ?_ _) | (with_reducible refine Kd.C_drew ?_))); (case side6 => exact HC2.out); rintro e w14 ⟨rfl, hb⟩; refine ⟨_, rfl, ?_⟩; have n0_ := Asd.mk (blk_below (g := gb472) (o := .cells #[.int .i64 a0_0, .int .i64 a0_1, .int .i64 a0_2, .string a0_3, .int .i64 a0_4, .int .i64 a0_5, .int .i64 a0_6, .string a0_7, .slice A0_8 l0_8.length c0_8] 26 (0, 0)) (by (with_reducible repeat (first | refine bkN ?_ _ | refine bkD ?_ | refine bkA ?_ _)); exact BK472.out) hb); have n1_ := Asd.mk (below_step (by repeat (first | (with_reducible first | exact HB.out | apply blA | apply pbN | apply blD | refine blS ?_ GE472.out) | exact HB.out)) hb); clear BK472; clear HB; have BK472 := n0_; have HB := n1_; clear n0_ n1_; (try clear hb); (try clear hb2); (try clear hk); (try clear hi)))
   go_ret
   exact ⟨by first | rfl | (simp [errW_none, errW_some] <;> rfl) | (simp [*, errW_none, errW_some] <;> rfl), by repeat (first | (with_reducible first | exact HB.out | apply blA | apply pbN | apply blD | refine blS ?_ GE472.out) | exact HB.out)⟩
  ·rw [if_neg c8] at H
   have c8b0 : (t474 == t476) = false := beq_eq_false_iff_ne.mpr c8
   have c8b1 : (t474 != t476) = true := bne_iff_ne.mpr c8
   obtain rfl := Option.some.inj H
   go_enter Tryd.func3, Tryd.ntmps3
   go_wp2_with (first | ((with_reducible refine gate_dst (N := 3) rfl ?_); refine box_event ?hg (N := 3) ?hd (cs := #[.int .i64 a0_0, .int .i64 a0_1, .int .i64 a0_2, .string a0_3, .int .i64 a0_4, .int .i64 a0_5, .int .i64 a0_6, .string a0_7, .slice A0_8 l0_8.length c0_8]) (t := 26) ?hr ?_; (case hd => rfl); (case hg => rfl); (case hr => first | (go_simp; done) | (go_simp; rfl)); intro gb472 hg w15 hbox hb; have n0_ := Asd.mk (below_step (by repeat (first | (with_reducible first | exact HB.out | apply blA | apply pbN | apply blD) | exact HB.out)) hb); have n1_ := Asd.mk (hbox); have n2_ := Asd.mk ((by rw [hg]; exact (below_size (by repeat (first | (with_reducible first | exact HB.out | apply blA | apply pbN | apply blD) | exact HB.out))) : w.heap.size ≤ gb472)); have n3_ := Asd.mk ((by rw [hg]; exact (below_size (by repeat (first | (with_reducible first | exact HB.out | apply blA | apply pbN | apply blD) | exact HB.out))) : w.heap.size ≤ gb472)); clear HB; have HB := n0_; have BK472 := n1_; have GW472 := n2_; have GE472 := n3_; clear n0_ n1_ n2_ n3_; clear hb hbox hg) | ((with_reducible refine gate_callee (f := 11) rfl ?_); refine goesL_ (some 12) rfl rfl Tryd.func11 (by kernel_rfl) rfl #[] rfl (by (try simp only [List.map_toArray, List.map_cons, List.map_nil]); first | done | rfl | (simp only [List.length_drop, List.length_take]; rfl)) ?_; (with_reducible refine (w08_examples.calls  true _ A4.out (tab_at HT.out (by repeat (first | (with_reducible first | exact HB.out | apply blA | apply pbN | apply blD | refine blS ?_ GE472.out) | exact HB.out)))).mono ?_); rintro e w16 ⟨rfl, hb⟩; refine ⟨_, rfl, ?_⟩; have n0_ := Asd.mk (blk_below (g := gb472) (o := .cells #[.int .i64 a0_0, .int .i64 a0_1, .int .i64 a0_2, .string a0_3, .int .i64 a0_4, .int .i64 a0_5, .int .i64 a0_6, .string a0_7, .slice A0_8 l0_8.length c0_8] 26 (0, 0)) (by (with_reducible repeat (first | refine bkN ?_ _ | refine bkD ?_ | refine bkA ?_ _)); exact BK472.out) hb); have n1_ := Asd.mk (below_step (by repeat (first | (with_reducible first | exact HB.out | apply blA | apply pbN | apply blD | refine blS ?_ GE472.out) | exact HB.out)) hb); clear BK472; clear HB; have BK472 := n0_; have HB := n1_; clear n0_ n1_; (try clear hb); (try clear hb2); (try clear hk); (try clear hi); have hcz17_0 : w16.cell? ⟨gb472, 0, none⟩ = some (.int .i64 a0_0) := (bkC BK472.out 0).trans rfl; have hcz17_1 : w16.cell? ⟨gb472, 1, none⟩ = some (.int .i64 a0_1) := (bkC BK472.out 1).trans rfl; have hcz17_2 : w16.cell? ⟨gb472, 2, none⟩ = some (.int .i64 a0_2) := (bkC BK472.out 2).trans rfl; have hcz17_3 : w16.cell? ⟨gb472, 3, none⟩ = some (.string a0_3) := (bkC BK472.out 3).trans rfl; have hcz17_4 : w16.cell? ⟨gb472, 4, none⟩ = some (.int .i64 a0_4) := (bkC BK472.out 4).trans rfl; have hcz17_5 : w16.cell? ⟨gb472, 5, none⟩ = some (.int .i64 a0_5) := (bkC BK472.out 5).trans rfl; have hcz17_6 : w16.cell? ⟨gb472, 6, none⟩ = some (.int .i64 a0_6) := (bkC BK472.out 6).trans rfl; have hcz17_7 : w16.cell? ⟨gb472, 7, none⟩ = some (.string a0_7) := (bkC BK472.out 7).trans rfl; have hcz17_8 : w16.cell? ⟨gb472, 8, none⟩ = some (.slice A0_8 l0_8.length c0_8) := (bkC BK472.out 8).trans rfl; have hfz17_0 := bkF BK472.out 0; have hfz17_1 := bkF BK472.out 1; have hfz17_2 := bkF BK472.out 2; have hfz17_3 := bkF BK472.out 3; have hfz17_4 := bkF BK472.out 4; have hfz17_5 := bkF BK472.out 5; have hfz17_6 := bkF BK472.out 6; have hfz17_7 := bkF BK472.out 7; have hfz17_8 := bkF BK472.out 8) | ((with_reducible refine gate_callee (f := 12) rfl ?_); refine goesL_ (some 17) rfl rfl Tryd.func12 (by kernel_rfl) rfl #[.agg #[.int .i64 a0_0, .int .i64 a0_1, .int .i64 a0_2, .string a0_3, .int .i64 a0_4, .int .i64 a0_5, .int .i64 a0_6, .string a0_7, .slice A0_8 l0_8.length c0_8], .slice A1 l1.length c1, .slice A2 l2.length c2] rfl (by (try simp only [List.map_toArray, List.map_cons, List.map_nil]); first | done | rfl | (simp only [List.length_drop, List.length_take]; rfl)) ?_; (with_reducible refine (expr_Kind.calls a0_0 a0_1 a0_2 a0_3 a0_4 a0_5 a0_6 a0_7 _ _ l0_8 _ _ l1 _ _ l2 t474 t475 _ ?side1 ?side2 ?side3 ?side4 ?side5 ?side6 A5.out).mono ?_); (case side1 => repeat (first | exact (Kd.C_below HR0_8.out HB.out) | (with_reducible refine Kd.C_alloc ?_ _) | (with_reducible refine Kd.C_drewN ?_ _) | (with_reducible refine Kd.C_drew ?_))); (case side2 => exact HC0_8.out); (case side3 => repeat (first | exact (Kd.C_below HR1.out HB.out) | (with_reducible refine Kd.C_alloc ?_ _) | (with_reducible refine Kd.C_drewN ?_ _) | (with_reducible refine Kd.C_drew ?_))); (case side4 => exact HC1.out); (case side5 => repeat (first | exact (Kd.C_below HR2.out HB.out) | (with_reducible refine Kd.C_alloc ?_ _) | (with_reducible refine Kd.C_drewN ?_ _) | (with_reducible refine Kd.C_drew ?_))); (case side6 => exact HC2.out); rintro e w18 ⟨rfl, hb⟩; refine ⟨_, rfl, ?_⟩; have n0_ := Asd.mk (blk_below (g := gb472) (o := .cells #[.int .i64 a0_0, .int .i64 a0_1, .int .i64 a0_2, .string a0_3, .int .i64 a0_4, .int .i64 a0_5, .int .i64 a0_6, .string a0_7, .slice A0_8 l0_8.length c0_8] 26 (0, 0)) (by (with_reducible repeat (first | refine bkN ?_ _ | refine bkD ?_ | refine bkA ?_ _)); exact BK472.out) hb); have n1_ := Asd.mk (below_step (by repeat (first | (with_reducible first | exact HB.out | apply blA | apply pbN | apply blD | refine blS ?_ GE472.out) | exact HB.out)) hb); clear BK472; clear HB; have BK472 := n0_; have HB := n1_; clear n0_ n1_; (try clear hb); (try clear hb2); (try clear hk); (try clear hi); have hcz19_0 : w18.cell? ⟨gb472, 0, none⟩ = some (.int .i64 a0_0) := (bkC BK472.out 0).trans rfl; have hcz19_1 : w18.cell? ⟨gb472, 1, none⟩ = some (.int .i64 a0_1) := (bkC BK472.out 1).trans rfl; have hcz19_2 : w18.cell? ⟨gb472, 2, none⟩ = some (.int .i64 a0_2) := (bkC BK472.out 2).trans rfl; have hcz19_3 : w18.cell? ⟨gb472, 3, none⟩ = some (.string a0_3) := (bkC BK472.out 3).trans rfl; have hcz19_4 : w18.cell? ⟨gb472, 4, none⟩ = some (.int .i64 a0_4) := (bkC BK472.out 4).trans rfl; have hcz19_5 : w18.cell? ⟨gb472, 5, none⟩ = some (.int .i64 a0_5) := (bkC BK472.out 5).trans rfl; have hcz19_6 : w18.cell? ⟨gb472, 6, none⟩ = some (.int .i64 a0_6) := (bkC BK472.out 6).trans rfl; have hcz19_7 : w18.cell? ⟨gb472, 7, none⟩ = some (.string a0_7) := (bkC BK472.out 7).trans rfl; have hcz19_8 : w18.cell? ⟨gb472, 8, none⟩ = some (.slice A0_8 l0_8.length c0_8) := (bkC BK472.out 8).trans rfl; have hfz19_0 := bkF BK472.out 0; have hfz19_1 := bkF BK472.out 1; have hfz19_2 := bkF BK472.out 2; have hfz19_3 := bkF BK472.out 3; have hfz19_4 := bkF BK472.out 4; have hfz19_5 := bkF BK472.out 5; have hfz19_6 := bkF BK472.out 6; have hfz19_7 := bkF BK472.out 7; have hfz19_8 := bkF BK472.out 8) | ((with_reducible refine gate_callee (f := 13) rfl ?_); refine goesL_ (some 24) rfl rfl Tryd.func13 (by kernel_rfl) rfl #[.agg #[.int .i64 a0_0, .int .i64 a0_1, .int .i64 a0_2, .string a0_3, .int .i64 a0_4, .int .i64 a0_5, .int .i64 a0_6, .string a0_7, .slice A0_8 l0_8.length c0_8], .slice A1 l1.length c1, .slice A2 l2.length c2] rfl (by (try simp only [List.map_toArray, List.map_cons, List.map_nil]); first | done | rfl | (simp only [List.length_drop, List.length_take]; rfl)) ?_; (with_reducible refine (q08_Kind.calls k a0_0 a0_1 a0_2 a0_3 a0_4 a0_5 a0_6 a0_7 _ _ l0_8 _ _ l1 _ _ l2 t476 t477 _ ?side1 ?side2 ?side3 ?side4 ?side5 ?side6 A6.out).mono ?_); (case side1 => repeat (first | exact (Kd.C_below HR0_8.out HB.out) | (with_reducible refine Kd.C_alloc ?_ _) | (with_reducible refine Kd.C_drewN ?_ _) | (with_reducible refine Kd.C_drew ?_))); (case side2 => exact HC0_8.out); (case side3 => repeat (first | exact (Kd.C_below HR1.out HB.out) | (with_reducible refine Kd.C_alloc ?_ _) | (with_reducible refine Kd.C_drewN ?_ _) | (with_reducible refine Kd.C_drew ?_))); (case side4 => exact HC1.out); (case side5 => repeat (first | exact (Kd.C_below HR2.out HB.out) | (with_reducible refine Kd.C_alloc ?_ _) | (with_reducible refine Kd.C_drewN ?_ _) | (with_reducible refine Kd.C_drew ?_))); (case side6 => exact HC2.out); rintro e w20 ⟨rfl, hb⟩; refine ⟨_, rfl, ?_⟩; have n0_ := Asd.mk (blk_below (g := gb472) (o := .cells #[.int .i64 a0_0, .int .i64 a0_1, .int .i64 a0_2, .string a0_3, .int .i64 a0_4, .int .i64 a0_5, .int .i64 a0_6, .string a0_7, .slice A0_8 l0_8.length c0_8] 26 (0, 0)) (by (with_reducible repeat (first | refine bkN ?_ _ | refine bkD ?_ | refine bkA ?_ _)); exact BK472.out) hb); have n1_ := Asd.mk (below_step (by repeat (first | (with_reducible first | exact HB.out | apply blA | apply pbN | apply blD | refine blS ?_ GE472.out) | exact HB.out)) hb); clear BK472; clear HB; have BK472 := n0_; have HB := n1_; clear n0_ n1_; (try clear hb); (try clear hb2); (try clear hk); (try clear hi)))
   go_ret
   exact ⟨by first | rfl | (simp [errW_none, errW_some] <;> rfl) | (simp [*, errW_none, errW_some] <;> rfl), by repeat (first | (with_reducible first | exact HB.out | apply blA | apply pbN | apply blD | refine blS ?_ GE472.out) | exact HB.out)⟩
 ·replace c7 := Bool.eq_false_iff.mpr c7
  subst c7
  have H1 : (some false) = some r := by rw [if_neg (show ¬ (false = true) by decide)] at H; exact H
  clear H
  have H := H1
  clear H1
  obtain rfl := Option.some.inj H
  go_enter Tryd.func3, Tryd.ntmps3
  go_wp2_with (first | ((with_reducible refine gate_dst (N := 3) rfl ?_); refine box_event ?hg (N := 3) ?hd (cs := #[.int .i64 a0_0, .int .i64 a0_1, .int .i64 a0_2, .string a0_3, .int .i64 a0_4, .int .i64 a0_5, .int .i64 a0_6, .string a0_7, .slice A0_8 l0_8.length c0_8]) (t := 26) ?hr ?_; (case hd => rfl); (case hg => rfl); (case hr => first | (go_simp; done) | (go_simp; rfl)); intro gb472 hg w21 hbox hb; have n0_ := Asd.mk (below_step (by repeat (first | (with_reducible first | exact HB.out | apply blA | apply pbN | apply blD) | exact HB.out)) hb); have n1_ := Asd.mk (hbox); have n2_ := Asd.mk ((by rw [hg]; exact (below_size (by repeat (first | (with_reducible first | exact HB.out | apply blA | apply pbN | apply blD) | exact HB.out))) : w.heap.size ≤ gb472)); have n3_ := Asd.mk ((by rw [hg]; exact (below_size (by repeat (first | (with_reducible first | exact HB.out | apply blA | apply pbN | apply blD) | exact HB.out))) : w.heap.size ≤ gb472)); clear HB; have HB := n0_; have BK472 := n1_; have GW472 := n2_; have GE472 := n3_; clear n0_ n1_ n2_ n3_; clear hb hbox hg) | ((with_reducible refine gate_callee (f := 11) rfl ?_); refine goesL_ (some 12) rfl rfl Tryd.func11 (by kernel_rfl) rfl #[] rfl (by (try simp only [List.map_toArray, List.map_cons, List.map_nil]); first | done | rfl | (simp only [List.length_drop, List.length_take]; rfl)) ?_; (with_reducible refine (w08_examples.calls  false _ A4.out (tab_at HT.out (by repeat (first | (with_reducible first | exact HB.out | apply blA | apply pbN | apply blD | refine blS ?_ GE472.out) | exact HB.out)))).mono ?_); rintro e w22 ⟨rfl, hb⟩; refine ⟨_, rfl, ?_⟩; have n0_ := Asd.mk (blk_below (g := gb472) (o := .cells #[.int .i64 a0_0, .int .i64 a0_1, .int .i64 a0_2, .string a0_3, .int .i64 a0_4, .int .i64 a0_5, .int .i64 a0_6, .string a0_7, .slice A0_8 l0_8.length c0_8] 26 (0, 0)) (by (with_reducible repeat (first | refine bkN ?_ _ | refine bkD ?_ | refine bkA ?_ _)); exact BK472.out) hb); have n1_ := Asd.mk (below_step (by repeat (first | (with_reducible first | exact HB.out | apply blA | apply pbN | apply blD | refine blS ?_ GE472.out) | exact HB.out)) hb); clear BK472; clear HB; have BK472 := n0_; have HB := n1_; clear n0_ n1_; (try clear hb); (try clear hb2); (try clear hk); (try clear hi); have hcz23_0 : w22.cell? ⟨gb472, 0, none⟩ = some (.int .i64 a0_0) := (bkC BK472.out 0).trans rfl; have hcz23_1 : w22.cell? ⟨gb472, 1, none⟩ = some (.int .i64 a0_1) := (bkC BK472.out 1).trans rfl; have hcz23_2 : w22.cell? ⟨gb472, 2, none⟩ = some (.int .i64 a0_2) := (bkC BK472.out 2).trans rfl; have hcz23_3 : w22.cell? ⟨gb472, 3, none⟩ = some (.string a0_3) := (bkC BK472.out 3).trans rfl; have hcz23_4 : w22.cell? ⟨gb472, 4, none⟩ = some (.int .i64 a0_4) := (bkC BK472.out 4).trans rfl; have hcz23_5 : w22.cell? ⟨gb472, 5, none⟩ = some (.int .i64 a0_5) := (bkC BK472.out 5).trans rfl; have hcz23_6 : w22.cell? ⟨gb472, 6, none⟩ = some (.int .i64 a0_6) := (bkC BK472.out 6).trans rfl; have hcz23_7 : w22.cell? ⟨gb472, 7, none⟩ = some (.string a0_7) := (bkC BK472.out 7).trans rfl; have hcz23_8 : w22.cell? ⟨gb472, 8, none⟩ = some (.slice A0_8 l0_8.length c0_8) := (bkC BK472.out 8).trans rfl; have hfz23_0 := bkF BK472.out 0; have hfz23_1 := bkF BK472.out 1; have hfz23_2 := bkF BK472.out 2; have hfz23_3 := bkF BK472.out 3; have hfz23_4 := bkF BK472.out 4; have hfz23_5 := bkF BK472.out 5; have hfz23_6 := bkF BK472.out 6; have hfz23_7 := bkF BK472.out 7; have hfz23_8 := bkF BK472.out 8) | ((with_reducible refine gate_callee (f := 12) rfl ?_); refine goesL_ (some 17) rfl rfl Tryd.func12 (by kernel_rfl) rfl #[.agg #[.int .i64 a0_0, .int .i64 a0_1, .int .i64 a0_2, .string a0_3, .int .i64 a0_4, .int .i64 a0_5, .int .i64 a0_6, .string a0_7, .slice A0_8 l0_8.length c0_8], .slice A1 l1.length c1, .slice A2 l2.length c2] rfl (by (try simp only [List.map_toArray, List.map_cons, List.map_nil]); first | done | rfl | (simp only [List.length_drop, List.length_take]; rfl)) ?_; (with_reducible refine (expr_Kind.calls a0_0 a0_1 a0_2 a0_3 a0_4 a0_5 a0_6 a0_7 _ _ l0_8 _ _ l1 _ _ l2 t474 t475 _ ?side1 ?side2 ?side3 ?side4 ?side5 ?side6 A5.out).mono ?_); (case side1 => repeat (first | exact (Kd.C_below HR0_8.out HB.out) | (with_reducible refine Kd.C_alloc ?_ _) | (with_reducible refine Kd.C_drewN ?_ _) | (with_reducible refine Kd.C_drew ?_))); (case side2 => exact HC0_8.out); (case side3 => repeat (first | exact (Kd.C_below HR1.out HB.out) | (with_reducible refine Kd.C_alloc ?_ _) | (with_reducible refine Kd.C_drewN ?_ _) | (with_reducible refine Kd.C_drew ?_))); (case side4 => exact HC1.out); (case side5 => repeat (first | exact (Kd.C_below HR2.out HB.out) | (with_reducible refine Kd.C_alloc ?_ _) | (with_reducible refine Kd.C_drewN ?_ _) | (with_reducible refine Kd.C_drew ?_))); (case side6 => exact HC2.out); rintro e w24 ⟨rfl, hb⟩; refine ⟨_, rfl, ?_⟩; have n0_ := Asd.mk (blk_below (g := gb472) (o := .cells #[.int .i64 a0_0, .int .i64 a0_1, .int .i64 a0_2, .string a0_3, .int .i64 a0_4, .int .i64 a0_5, .int .i64 a0_6, .string a0_7, .slice A0_8 l0_8.length c0_8] 26 (0, 0)) (by (with_reducible repeat (first | refine bkN ?_ _ | refine bkD ?_ | refine bkA ?_ _)); exact BK472.out) hb); have n1_ := Asd.mk (below_step (by repeat (first | (with_reducible first | exact HB.out | apply blA | apply pbN | apply blD | refine blS ?_ GE472.out) | exact HB.out)) hb); clear BK472; clear HB; have BK472 := n0_; have HB := n1_; clear n0_ n1_; (try clear hb); (try clear hb2); (try clear hk); (try clear hi); have hcz25_0 : w24.cell? ⟨gb472, 0, none⟩ = some (.int .i64 a0_0) := (bkC BK472.out 0).trans rfl; have hcz25_1 : w24.cell? ⟨gb472, 1, none⟩ = some (.int .i64 a0_1) := (bkC BK472.out 1).trans rfl; have hcz25_2 : w24.cell? ⟨gb472, 2, none⟩ = some (.int .i64 a0_2) := (bkC BK472.out 2).trans rfl; have hcz25_3 : w24.cell? ⟨gb472, 3, none⟩ = some (.string a0_3) := (bkC BK472.out 3).trans rfl; have hcz25_4 : w24.cell? ⟨gb472, 4, none⟩ = some (.int .i64 a0_4) := (bkC BK472.out 4).trans rfl; have hcz25_5 : w24.cell? ⟨gb472, 5, none⟩ = some (.int .i64 a0_5) := (bkC BK472.out 5).trans rfl; have hcz25_6 : w24.cell? ⟨gb472, 6, none⟩ = some (.int .i64 a0_6) := (bkC BK472.out 6).trans rfl; have hcz25_7 : w24.cell? ⟨gb472, 7, none⟩ = some (.string a0_7) := (bkC BK472.out 7).trans rfl; have hcz25_8 : w24.cell? ⟨gb472, 8, none⟩ = some (.slice A0_8 l0_8.length c0_8) := (bkC BK472.out 8).trans rfl; have hfz25_0 := bkF BK472.out 0; have hfz25_1 := bkF BK472.out 1; have hfz25_2 := bkF BK472.out 2; have hfz25_3 := bkF BK472.out 3; have hfz25_4 := bkF BK472.out 4; have hfz25_5 := bkF BK472.out 5; have hfz25_6 := bkF BK472.out 6; have hfz25_7 := bkF BK472.out 7; have hfz25_8 := bkF BK472.out 8) | ((with_reducible refine gate_callee (f := 13) rfl ?_); refine goesL_ (some 24) rfl rfl Tryd.func13 (by kernel_rfl) rfl #[.agg #[.int .i64 a0_0, .int .i64 a0_1, .int .i64 a0_2, .string a0_3, .int .i64 a0_4, .int .i64 a0_5, .int .i64 a0_6, .string a0_7, .slice A0_8 l0_8.length c0_8], .slice A1 l1.length c1, .slice A2 l2.length c2] rfl (by (try simp only [List.map_toArray, List.map_cons, List.map_nil]); first | done | rfl | (simp only [List.length_drop, List.length_take]; rfl)) ?_; (with_reducible refine (q08_Kind.calls k a0_0 a0_1 a0_2 a0_3 a0_4 a0_5 a0_6 a0_7 _ _ l0_8 _ _ l1 _ _ l2 t476 t477 _ ?side1 ?side2 ?side3 ?side4 ?side5 ?side6 A6.out).mono ?_); (case side1 => repeat (first | exact (Kd.C_below HR0_8.out HB.out) | (with_reducible refine Kd.C_alloc ?_ _) | (with_reducible refine Kd.C_drewN ?_ _) | (with_reducible refine Kd.C_drew ?_))); (case side2 => exact HC0_8.out); (case side3 => repeat (first | exact (Kd.C_below HR1.out HB.out) | (with_reducible refine Kd.C_alloc ?_ _) | (with_reducible refine Kd.C_drewN ?_ _) | (with_reducible refine Kd.C_drew ?_))); (case side4 => exact HC1.out); (case side5 => repeat (first | exact (Kd.C_below HR2.out HB.out) | (with_reducible refine Kd.C_alloc ?_ _) | (with_reducible refine Kd.C_drewN ?_ _) | (with_reducible refine Kd.C_drew ?_))); (case side6 => exact HC2.out); rintro e w26 ⟨rfl, hb⟩; refine ⟨_, rfl, ?_⟩; have n0_ := Asd.mk (blk_below (g := gb472) (o := .cells #[.int .i64 a0_0, .int .i64 a0_1, .int .i64 a0_2, .string a0_3, .int .i64 a0_4, .int .i64 a0_5, .int .i64 a0_6, .string a0_7, .slice A0_8 l0_8.length c0_8] 26 (0, 0)) (by (with_reducible repeat (first | refine bkN ?_ _ | refine bkD ?_ | refine bkA ?_ _)); exact BK472.out) hb); have n1_ := Asd.mk (below_step (by repeat (first | (with_reducible first | exact HB.out | apply blA | apply pbN | apply blD | refine blS ?_ GE472.out) | exact HB.out)) hb); clear BK472; clear HB; have BK472 := n0_; have HB := n1_; clear n0_ n1_; (try clear hb); (try clear hb2); (try clear hk); (try clear hi)))
  go_ret
  exact ⟨by first | rfl | (simp [errW_none, errW_some] <;> rfl) | (simp [*, errW_none, errW_some] <;> rfl), by repeat (first | (with_reducible first | exact HB.out | apply blA | apply pbN | apply blD | refine blS ?_ GE472.out) | exact HB.out)⟩
end Go.Proofs.YtkboodfnegedaaaDoor.E
namespace Go.Proofs.YtkboodfnegedaaaDoor.E
set_option linter.unusedSimpArgs false
set_option linter.unusedVariables false
open Go.RowKit Go.Proofs.YtkboodfnegedaaaDoorW.PrintWords Go.Proofs.YtkboodfnegedaaaDoorW.PrintLast Go.Proofs.YtkboodfnegedaaaDoorW.PrintMore
def kindsA (cols : List (List Int)) (ps : List Int) : List Ex → Option (List Int)
  | [] => some []
  | x :: xs => if (kindF x cols ps).2 = true then (kindsA cols ps xs).map ((kindF x cols ps).1 :: ·) else none
theorem kindL_A (cols : List (List Int)) (ps : List Int) : ∀ l, kindL l cols ps = (kindsA cols ps l).map (List.filter (fun z => decide (z ≠ 0)))
  | [] => by rw [kindL, kindsA]; rfl
  | x :: xs => by
    rw [kindL, kindsA, kindL_A cols ps xs]
    by_cases h : (kindF x cols ps).2 = true
    · rw [if_pos h, if_pos h]
      cases kindsA cols ps xs with
      | none => rfl
      | some ks =>
        simp only [Option.map_some]
        by_cases h0 : (kindF x cols ps).1 = 0
        · rw [if_pos h0, List.filter_cons_of_neg (by simpa using h0)]
        · rw [if_neg h0, List.filter_cons_of_pos (by simpa using h0)]
    · rw [if_neg h, if_neg h]; rfl
theorem kindsA_len (cols : List (List Int)) (ps : List Int) : ∀ (l : List Ex) ks, kindsA cols ps l = some ks → ks.length = l.length
  | [], ks, h => by rw [kindsA] at h; obtain rfl := Option.some.inj h; rfl
  | x :: xs, ks, h => by
    rw [kindsA] at h
    split at h
    · obtain ⟨ks', hk, rfl⟩ := Option.map_eq_some_iff.1 h
      simp [kindsA_len cols ps xs ks' hk]
    · cases h
def finA (op : Int) (ks : List Int) : Int × Bool :=
  if op ≤ 8 then (if ks.all (fun z => z == 1 || z == 0) then (1, true) else (0, false))
  else if op ≤ 14 then (2, ks.getD 0 0 == ks.getD 1 0 || (ks.getD 0 0 == 0 || ks.getD 1 0 == 0))
  else if op = 18 then (2, true) else (if ks.all (fun z => z == 2 || z == 0) then (2, true) else (0, false))
theorem rd_cons {L : List Int} {x : Int} {xs : List Int} {j : Nat} (h : L.drop j = x :: xs) : rd L (j : Int) = x ∧ j < L.length ∧ L.drop (j + 1) = xs := by
  have hl : j < L.length := by
    have := congrArg List.length h
    simp at this; omega
  have h2 := List.drop_eq_getElem_cons hl
  rw [h] at h2
  injection h2 with h3 h4
  refine ⟨?_, hl, h4.symm⟩
  unfold rd
  simp [List.getD_eq_getElem?_getD, hl, h3]
theorem l1_ev (L : List Int) (hL : L.length < 100) : ∀ (l : List Int) (j : Nat), L.drop j = l → Ev (fun k => q08_kind.l1 k L (j : Int)) (if l.all (fun z => z == 1 || z == 0) then (1, true) else (0, false))
  | [], j, hj => by
    have hl : L.length ≤ j := List.drop_eq_nil_iff.1 hj
    refine Ev.const 1 (fun k => ?_)
    rw [q08_kind.l1, if_neg (by omega)]; rfl
  | x :: xs, j, hj => by
    obtain ⟨hx, hl, hr⟩ := rd_cons hj
    have ih := l1_ev L hL xs (j + 1) hr
    refine Ev.steps 1 (f := fun k => if x = 1 then q08_kind.l1 k L ((j + 1 : Nat) : Int) else (if x = 0 then q08_kind.l1 k L ((j + 1 : Nat) : Int) else some (0, false))) (fun k => ?_) ?_
    · rw [q08_kind.l1, if_pos (by omega), if_pos (by omega), hx, wrap64_of (x := (j : Int) + 1) (by omega) (by omega)]; rfl
    · by_cases h1 : x = 1
      · simp only [if_pos h1]; simpa [h1] using ih
      · by_cases h0 : x = 0
        · simp only [if_neg h1, if_pos h0]; simpa [h0] using ih
        · simp only [if_neg h1, if_neg h0]; rw [if_neg (show ¬ ((x :: xs).all (fun z => z == 1 || z == 0) = true) by simp [h1, h0])]; exact Ev.now _
theorem l2_ev (L : List Int) (hL : L.length < 100) : ∀ (l : List Int) (j : Nat), L.drop j = l → Ev (fun k => q08_kind.l2 k L (j : Int)) (if l.all (fun z => z == 2 || z == 0) then (2, true) else (0, false))
  | [], j, hj => by
    have hl : L.length ≤ j := List.drop_eq_nil_iff.1 hj
    refine Ev.const 1 (fun k => ?_)
    rw [q08_kind.l2, if_neg (by omega)]; rfl
  | x :: xs, j, hj => by
    obtain ⟨hx, hl, hr⟩ := rd_cons hj
    have ih := l2_ev L hL xs (j + 1) hr
    refine Ev.steps 1 (f := fun k => if x = 2 then q08_kind.l2 k L ((j + 1 : Nat) : Int) else (if x = 0 then q08_kind.l2 k L ((j + 1 : Nat) : Int) else some (0, false))) (fun k => ?_) ?_
    · rw [q08_kind.l2, if_pos (by omega), if_pos (by omega), hx, wrap64_of (x := (j : Int) + 1) (by omega) (by omega)]; rfl
    · by_cases h1 : x = 2
      · simp only [if_pos h1]; simpa [h1] using ih
      · by_cases h0 : x = 0
        · simp only [if_neg h1, if_pos h0]; simpa [h0] using ih
        · simp only [if_neg h1, if_neg h0]; rw [if_neg (show ¬ ((x :: xs).all (fun z => z == 2 || z == 0) = true) by simp [h1, h0])]; exact Ev.now _
def SameK (r q : Int × Bool) : Prop := r.2 = q.2 ∧ (q.2 = true → r.1 = q.1)
theorem filter_all (c : Int) : ∀ ks : List Int, (ks.filter (fun z => decide (z ≠ 0))).all (· == c) = ks.all (fun z => z == c || z == 0)
  | [] => rfl
  | x :: xs => by
    by_cases hx : x = 0
    · rw [List.filter_cons_of_neg (by simpa using hx), List.all_cons, filter_all c xs]; simp [hx]
    · rw [List.filter_cons_of_pos (by simpa using hx), List.all_cons, List.all_cons, filter_all c xs, show (x == 0) = false by simpa using hx, Bool.or_false]
theorem finA_fin (op : Int) (ks : List Int) (h : 9 ≤ op → op ≤ 14 → ks.length = 2) : SameK (finA op ks) (kindFin op (some (ks.filter (fun z => decide (z ≠ 0))))) := by
  unfold finA kindFin SameK
  by_cases h8 : op ≤ 8
  · simp only [if_pos h8, filter_all]
    split <;> simp_all
  · simp only [if_neg h8]
    by_cases h14 : op ≤ 14
    · simp only [if_pos h14]
      match ks, h (by omega) h14 with
      | [x, y], _ =>
        by_cases hx : x = 0 <;> by_cases hy : y = 0 <;> simp [hx, hy]
    · simp only [if_neg h14]
      by_cases h18 : op = 18
      · simp [h18]
      · simp only [if_neg h18, filter_all]
        split <;> simp_all
theorem fin_ev (op : Int) (ks : List Int) (hks : ks.length < 100) (h : 9 ≤ op → op ≤ 14 → ks.length = 2) : Ev (fun k => if op ≤ 8 then (q08_kind.l1 k ks 0) else (if op ≤ 14 then (if 0 < (ks.length : Int) then (if 1 < (ks.length : Int) then (if (rd ks 0) = (rd ks 1) then (some (2, true)) else (if (rd ks 0) = 0 then (some (2, true)) else (some (2, ((rd ks 1) == 0))))) else (none)) else (none)) else (if op = 18 then (some (2, true)) else (q08_kind.l2 k ks 0)))) (finA op ks) := by
  unfold finA
  by_cases h8 : op ≤ 8
  · simp only [if_pos h8]; exact l1_ev ks hks ks 0 rfl
  · simp only [if_neg h8]
    by_cases h14 : op ≤ 14
    · simp only [if_pos h14]
      match ks, h (by omega) h14 with
      | [x, y], _ =>
        have hx : rd [x, y] 0 = x := rfl
        have hy : rd [x, y] 1 = y := rfl
        rw [hx, hy]
        simp only [List.length_cons, List.length_nil, List.getD_cons_zero, List.getD_cons_succ]
        by_cases e1 : x = y
        · simp only [if_pos e1]; rw [show (x == y || (x == 0 || y == 0)) = true by simp [e1]]; exact Ev.now _
        · by_cases e2 : x = 0
          · simp only [if_neg e1, if_pos e2]; rw [show (x == y || (x == 0 || y == 0)) = true by simp [e2]]; exact Ev.now _
          · simp only [if_neg e1, if_neg e2]
            have hb : (x == y || (x == 0 || y == 0)) = (y == 0) := by
              rw [show (x == y) = false from beq_eq_false_iff_ne.mpr e1, show (x == 0) = false from beq_eq_false_iff_ne.mpr e2]; rfl
            rw [hb]; exact Ev.now _
    · simp only [if_neg h14]
      by_cases h18 : op = 18
      · simp only [if_pos h18]; exact Ev.now _
      · simp only [if_neg h18]; exact l2_ev ks hks ks 0 rfl
mutual
theorem kind_ev (cols : List (List Int)) (ps : List Int) : (e : Ex) → (∃ p, meas e = some p) → anyE (lackP cols ps) e = false → ∃ r, Ev (fun k => q08_kind.f (k) e.f0 e.f1.f0 e.f1.f1 e.f1.f2 e.f2 e.f3 e.f4 e.f5 e.f6 cols ps) r ∧ SameK r (kindF e cols ps)
  | ⟨f0, f1, f2, f3, f4, f5, f6⟩ => fun ⟨p, hp⟩ hk => by
    obtain ⟨ho, hq⟩ := meas_own hp
    rw [anyE, Bool.or_eq_false_iff] at hk
    have hat : (atG 0 ⟨f0, f1, f2, f3, f4, f5, f6⟩ cols ps).2 = true := by
      have := hk.1
      unfold lackP lackK at this
      simp only [Bool.or_eq_false_iff, Bool.not_eq_false'] at this
      exact this.1
    rw [kindF]
    by_cases c1 : f0 = 1
    · rw [if_pos c1]
      refine ⟨(f1.f0, true), Ev.const 1 (fun k => ?_), rfl, fun _ => rfl⟩
      rw [q08_kind.f, if_pos c1]
    rw [if_neg c1]
    by_cases c2 : f0 = 2
    · rw [if_pos (.inl c2)]
      obtain ⟨r1, r2, r3, r4⟩ := own_ref ho c2
      simp only [] at r1 r2 r3 r4
      unfold atG at hat ⊢
      rw [if_pos c2] at hat ⊢
      simp only [] at hat ⊢
      by_cases c3 : f2 < (cols.length : Int) ∧ f3 < ((cols.getD f2.toNat []).length : Int)
      · rw [if_pos c3] at hat ⊢
        refine ⟨_, Ev.const 1 (fun k => ?_), rfl, fun _ => rfl⟩
        rw [q08_kind.f, if_neg c1, if_pos c2, if_pos r1, if_pos c3.1, if_pos r3, if_pos (show f3 < ((rd_L4 cols f2).length : Int) from c3.2)]
        rfl
      · rw [if_neg c3] at hat; cases hat
    by_cases c3 : f0 = 3
    · rw [if_pos (.inr c3)]
      obtain ⟨r1, r2⟩ := own_par ho c3
      simp only [] at r1 r2
      unfold atG at hat ⊢
      rw [if_neg c2, if_pos c3] at hat ⊢
      simp only [] at hat ⊢
      by_cases c4 : f4 ≤ (ps.length : Int)
      · rw [if_pos c4] at hat ⊢
        refine ⟨_, Ev.const 1 (fun k => ?_), rfl, fun _ => rfl⟩
        rw [q08_kind.f, if_neg c1, if_neg c2, if_pos c3, wrap64_of (by omega) (by omega), if_pos (by omega), if_pos (by omega)]
        rfl
      · rw [if_neg c4] at hat; cases hat
    rw [if_neg (by omega)]
    have hop := own_op ho
    simp only [] at hop
    have hlen := own_len ho
    simp only [] at hlen
    have hw2 : 9 ≤ f0 → f0 ≤ 14 → f6.length = 2 := fun h9 h14 => by
      obtain ⟨x, y, hxy⟩ := own_two ho (by simp only []; omega) (by simp only []; omega) (by simp only []; omega)
      simp only [] at hxy
      rw [hxy]; rfl
    obtain ⟨r, hr, hs⟩ := kindL_ev cols ps f6 hq hk.2 f0 f1 f2 f3 f4 f5 f6 0 [] rfl hlen rfl (by omega) hw2
    refine ⟨r, Ev.steps 1 (fun k => ?_) hr, ?_⟩
    · rw [q08_kind.f, if_neg c1, if_neg c2, if_neg c3]; rfl
    · rw [kindL_A]
      cases hA : kindsA cols ps f6 with
      | none => rw [hA] at hs; rw [hs]; exact ⟨rfl, fun h => by cases h⟩
      | some ks =>
        rw [hA] at hs
        simp only [Option.map_some, List.nil_append] at hs ⊢
        rw [hs]
        exact finA_fin f0 ks (fun h9 h14 => by rw [kindsA_len cols ps f6 ks hA]; exact hw2 h9 h14)
theorem kindL_ev (cols : List (List Int)) (ps : List Int) : (l : List Ex) → (∃ p, measL l = some p) → anyL (lackP cols ps) l = false → ∀ (f0 : Int) (f1 : Va) (f2 f3 f4 : Int) (f5 : ByteArray) (f6 : List Ex) (j : Nat) (acc : List Int), f6.drop j = l → f6.length ≤ 2 → acc.length = j → j ≤ f6.length → (9 ≤ f0 → f0 ≤ 14 → f6.length = 2) →
    ∃ r, Ev (fun k => q08_kind.l0 k cols ps acc (j : Int) f0 f1.f0 f1.f1 f1.f2 f2 f3 f4 f5 f6) r ∧ (match kindsA cols ps l with | none => r = (0, false) | some ks => r = finA f0 (acc ++ ks))
  | [] => fun hp hk f0 f1 f2 f3 f4 f5 f6 j acc hj hlen ha hjl hw => by
    have hl : f6.length ≤ j := List.drop_eq_nil_iff.1 hj
    rw [kindsA]
    simp only [List.append_nil]
    refine ⟨finA f0 acc, Ev.steps 1 (fun k => ?_) (fin_ev f0 acc (by omega) (fun h9 h14 => by have := hw h9 h14; omega)), rfl⟩
    rw [q08_kind.l0, if_neg (by omega)]
  | x :: xs => fun ⟨p, hp⟩ hk f0 f1 f2 f3 f4 f5 f6 j acc hj hlen ha hjl hw => by
    obtain ⟨hx, hl, hr⟩ := rd_drop hj
    obtain ⟨ha', hb⟩ := measL_cons hp
    rw [anyL, Bool.or_eq_false_iff] at hk
    obtain ⟨q, hq, hs⟩ := kind_ev cols ps x ha' hk.1
    have hstep : ∀ k, q08_kind.l0 (k + 1) cols ps acc (j : Int) f0 f1.f0 f1.f1 f1.f2 f2 f3 f4 f5 f6 = (q08_kind.f (k) x.f0 x.f1.f0 x.f1.f1 x.f1.f2 x.f2 x.f3 x.f4 x.f5 x.f6 cols ps).bind fun bt => (if bt.2 = true then (q08_kind.l0 k cols ps (acc ++ [bt.1]) ((j + 1 : Nat) : Int) f0 f1.f0 f1.f1 f1.f2 f2 f3 f4 f5 f6) else some (0, false)) := fun k => by
      rw [q08_kind.l0, if_pos (by omega), if_pos (by omega), hx, wrap64_of (x := (j : Int) + 1) (by omega) (by omega)]
      simp only [if_pos (show acc.length < 17592186044416 by omega)]
      rfl
    rw [kindsA]
    by_cases hc : (kindF x cols ps).2 = true
    · obtain ⟨r, hr1, hr2⟩ := kindL_ev cols ps xs hb hk.2 f0 f1 f2 f3 f4 f5 f6 (j + 1) (acc ++ [(kindF x cols ps).1]) hr hlen (by simp [ha]) hl hw
      refine ⟨r, Ev.steps 1 hstep (Ev.bind hq ?_), ?_⟩
      · have h1 : q.2 = true := by rw [hs.1]; exact hc
        have h2 := hs.2 hc
        simp only [h1, if_true, h2]
        exact hr1
      · rw [if_pos hc]
        cases hA : kindsA cols ps xs with
        | none => rw [hA] at hr2; exact hr2
        | some ks => rw [hA] at hr2; simp only [Option.map_some]; simpa [List.append_assoc] using hr2
    · rw [if_neg hc]
      refine ⟨(0, false), Ev.steps 1 hstep (Ev.bind hq ?_), rfl⟩
      have h1 : q.2 = false := by rw [hs.1]; exact Bool.eq_false_iff.mpr hc
      simp only [h1]
      exact Ev.now _
end
theorem refKind_ev (cols : List (List Int)) (ps : List Int) (e : Ex) : Ev (fun k => q08_Kind.f k e.f0 e.f1.f0 e.f1.f1 e.f1.f2 e.f2 e.f3 e.f4 e.f5 e.f6 cols ps) (kindRes e cols ps) := by
  unfold q08_Kind.f
  refine Ev.bind (refRight_ev e) ?_
  unfold kindRes
  by_cases hr : rightB e = true
  · simp only [if_pos hr]
    obtain ⟨p, hp⟩ := right_some_meas hr
    refine Ev.bind (known_ev cols ps e ⟨p, hp⟩) ?_
    rw [someF_any]
    by_cases hl : anyE (lackP cols ps) e = true
    · rw [if_pos (show anyE (fun e => (lackK cols ps e ()).1) e = true from hl), hl]
      refine Ev.const 1 (fun k => ?_)
      rw [q08_Kind.j0]; rfl
    · have hl' := Bool.eq_false_iff.mpr hl
      rw [if_neg (show ¬ anyE (fun e => (lackK cols ps e ()).1) e = true from hl), hl']
      obtain ⟨r, hr1, hr2⟩ := kind_ev cols ps e ⟨p, hp⟩ hl'
      refine Ev.steps 1 (f := fun k => (q08_kind.f (k) e.f0 e.f1.f0 e.f1.f1 e.f1.f2 e.f2 e.f3 e.f4 e.f5 e.f6 cols ps).bind fun bt470 => (if bt470.2 = true then (some (bt470.1, 0)) else (some (0, 9)))) (fun k => ?_) (Ev.bind hr1 ?_)
      · rw [q08_Kind.j0]; rfl
      · by_cases hk : (kindF e cols ps).2 = true
        · have h1 : r.2 = true := by rw [hr2.1]; exact hk
          simp only [h1, if_true, hr2.2 hk, if_pos hk]; exact Ev.now _
        · have h1 : ¬ r.2 = true := by rw [hr2.1]; exact hk
          simp only [if_neg h1, if_neg hk]; exact Ev.now _
  · simp only [if_neg hr]
    refine Ev.const 1 (fun k => ?_)
    rw [q08_Kind.j0]; rfl
theorem ExprKinds_true (e : Ex) (cols : List (List Int)) (ps : List Int) : ∃ k, w08_ExprKinds.f k e.f0 e.f1.f0 e.f1.f1 e.f1.f2 e.f2 e.f3 e.f4 e.f5 e.f6 cols ps = some true := by
  obtain ⟨k, hk⟩ := (refKind_ev cols ps e).rounds
  refine ⟨k, ?_⟩
  unfold w08_ExprKinds.f w08_examples.f expr_Kind.f
  simp only [Option.bind_some, hk, if_true]
  have he : kindRes ⟨e.f0, ⟨e.f1.f0, e.f1.f1, e.f1.f2⟩, e.f2, e.f3, e.f4, e.f5, e.f6⟩ cols ps = kindRes e cols ps := by cases e; rfl
  rw [he, if_pos rfl, beq_self_eq_true]
end Go.Proofs.YtkboodfnegedaaaDoor.E
