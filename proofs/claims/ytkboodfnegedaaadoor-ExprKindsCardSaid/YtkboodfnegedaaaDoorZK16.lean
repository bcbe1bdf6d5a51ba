/- Contracts and plain lemmas of the functions that the law reaches, part 16. -/
import Derived.Test.YtkboodfnegedaaaDoorZK4
import Derived.Test.YtkboodfnegedaaaDoorZK10
namespace Go.Proofs.YtkboodfnegedaaaDoor.E
open Go.RowKit Go.Proofs.YtkboodfnegedaaaDoorW.PrintWords Go.Proofs.YtkboodfnegedaaaDoorW.PrintLast Go.Proofs.YtkboodfnegedaaaDoorW.PrintMore
def AtP (q : Va × Bool) (w : World) (r : Ending) (w' : World) : Prop := r = .returned (.tuple #[.agg (vaC q.1), .bool q.2]) ∧ Below w.heap.size w w'
set_option maxHeartbeats 1000000 in
set_option maxRecDepth 100000 in
theorem atV_ok (e : Ex) (A A1 A2 : Option Addr) (c c1 c2 : Nat) (cols : List (List Va)) (ps : List Va) (w : World) (hRt : Rt e) (hC1 : Kd.C (Kd.slice 23 k23) w A1 cols.length cols) (hC2 : Kd.C k23 w A2 ps.length ps) :
    Calls Tryd.prog 43 #[.agg (exC e A c), .slice A1 cols.length c1, .slice A2 ps.length c2] w (AtP (atG zeroV e cols ps) w) := by
  obtain ⟨q, hq⟩ : ∃ q, atG zeroV e cols ps = q := ⟨_, rfl⟩
  rw [hq]
  have HQ := Lib.hid hq.symm
  have HC1 := Lib.hid hC1; have HC2 := Lib.hid hC2; have HRT := Lib.hid hRt
  clear hq hC1 hC2 hRt
  unfold exC
  go_enter Tryd.func43, Tryd.ntmps43
  go_upto_region 1 with (first | ((with_reducible refine gate_dst (N := 3) rfl ?_); refine box_event rfl (N := 3) rfl (cs := exC e A c) (t := 26) (by first | rfl | (go_simp; done) | (go_simp; rfl)) ?_; intro g hgg w1 hbg hBg;  clear hgg) | ((with_reducible refine gate_dst (N := 6) rfl ?_); refine box_event rfl (N := 6) rfl (cs := vaC zeroV) (t := 23) (by first | rfl | (go_simp; done) | (go_simp; rfl)) ?_; intro rb hgg w2 hbrb hBrb;  have hrb : w.heap.size ≤ rb := (by have := hBg.size; omega); have hgr : g ≠ rb := (by have := blk_lt hbg; omega); clear hgg))
  have hg2 := (hBrb.block g (blk_lt hbg)).trans hbg
  have HB := Lib.hid (hBg.trans (hBrb.mono hBg.size))
  clear hbg hBg hBrb
  have hz0 : w2.cell? ⟨g, 0, none⟩ = some (.int .i64 e.f0) := (bkC hg2 0).trans rfl; have hz1 : w2.cell? ⟨g, 1, none⟩ = some (.int .i64 e.f1.f0) := (bkC hg2 1).trans rfl; have hz2 : w2.cell? ⟨g, 2, none⟩ = some (.int .i64 e.f1.f1) := (bkC hg2 2).trans rfl; have hz3 : w2.cell? ⟨g, 3, none⟩ = some (.string e.f1.f2) := (bkC hg2 3).trans rfl; have hz4 : w2.cell? ⟨g, 4, none⟩ = some (.int .i64 e.f2) := (bkC hg2 4).trans rfl; have hz5 : w2.cell? ⟨g, 5, none⟩ = some (.int .i64 e.f3) := (bkC hg2 5).trans rfl; have hz6 : w2.cell? ⟨g, 6, none⟩ = some (.int .i64 e.f4) := (bkC hg2 6).trans rfl; have hz7 : w2.cell? ⟨g, 7, none⟩ = some (.string e.f5) := (bkC hg2 7).trans rfl; have hz8 : w2.cell? ⟨g, 8, none⟩ = some (.slice A e.f6.length c) := (bkC hg2 8).trans rfl
  have hr0 : w2.cell? ⟨rb, 0, none⟩ = some (.int .i64 0) := (bkC hbrb 0).trans rfl
  have hr1 : w2.cell? ⟨rb, 1, none⟩ = some (.int .i64 0) := (bkC hbrb 1).trans rfl
  have hr2 : w2.cell? ⟨rb, 2, none⟩ = some (.string ⟨#[]⟩) := (bkC hbrb 2).trans rfl
  have hf0 := bkF hbrb 0
  have hf1 := bkF hbrb 1
  have hf2 := bkF hbrb 2
  by_cases h2 : e.f0 = 2
  · obtain ⟨p1, -, p2, -⟩ := HRT.out.rel h2
    have h2b : (e.f0 == 2) = true := beq_iff_eq.mpr h2
    have h2c : (e.f0 != 2) = false := bne_eq_false_iff_eq.mpr h2
    have h3b : (e.f0 == 3) = false := beq_eq_false_iff_ne.mpr (by omega)
    have h3c : (e.f0 != 3) = true := bne_iff_ne.mpr (by omega)
    have HH2 := Lib.hid h2
    clear h2
    by_cases h3 : e.f2 < (cols.length : Int)
    · obtain ⟨ad, A0, c0, rfl, hx, hl0, hC0⟩ := at_L6 (Kd.C_below HC1.out HB.out) e.f2 p1 h3
      obtain ⟨L, hL⟩ : ∃ L, cols.getD e.f2.toNat [] = L := ⟨_, rfl⟩
      replace hx : w2.cell? (ad.add e.f2.toNat) = some (.slice A0 L.length c0) := by rw [← hL]; exact hx
      replace hC0 : Kd.C k23 w2 A0 L.length L := by rw [← hL]; exact hC0
      have HC0 := Lib.hid hC0
      clear hC0
      by_cases h4 : e.f3 < (L.length : Int)
      · obtain ⟨ad0, rfl, hv0, hv1, hv2⟩ := at_T23 HC0.out e.f3 p2 h4
        obtain ⟨v, hv⟩ : ∃ v, rd_T23 L e.f3 = v := ⟨_, rfl⟩
        rw [hv] at hv0 hv1 hv2
        have HQ2 : Hid (q = (v, true)) := by
          have h := HQ.out
          unfold atG at h
          rw [if_pos HH2.out, hL, if_pos ⟨h3, h4⟩] at h
          rw [← hv]; exact Lib.hid h
        go_region
        go_upto_region 2 with (fail)
        go_region
        go_wp2_with fail
        refine bodyPost_ret (results_ct rfl _ _ rb 23 (vaC v) (0, 0) _ rfl ?blk Tryd.underlying23 rfl info_va) rfl ?_; (case blk => exact va_put hbrb v); exact ⟨by rw [HQ2.out]; rfl, by (repeat refine below_drewN' ?_); exact va_below HB.out hrb v⟩
      · have HQ2 : Hid (q = (zeroV, false)) := by
          have h := HQ.out
          unfold atG at h
          rw [if_pos HH2.out, hL, if_neg (fun h => h4 h.2)] at h
          exact Lib.hid h
        go_region
        go_wp2_with fail
        go_region
        go_wp2_with fail
        refine bodyPost_ret (results_ct rfl _ _ rb 23 (vaC zeroV) (0, 0) _ rfl ?blk Tryd.underlying23 rfl info_va) rfl ?_; (case blk => exact va_put hbrb zeroV); exact ⟨by rw [HQ2.out]; rfl, by (repeat refine below_drewN' ?_); exact va_below HB.out hrb zeroV⟩
    · have HQ2 : Hid (q = (zeroV, false)) := by
        have h := HQ.out
        unfold atG at h
        rw [if_pos HH2.out, if_neg (fun h => h3 h.1)] at h
        exact Lib.hid h
      go_region
      go_wp2_with fail
      go_region
      go_wp2_with fail
      refine bodyPost_ret (results_ct rfl _ _ rb 23 (vaC zeroV) (0, 0) _ rfl ?blk Tryd.underlying23 rfl info_va) rfl ?_; (case blk => exact va_put hbrb zeroV); exact ⟨by rw [HQ2.out]; rfl, by (repeat refine below_drewN' ?_); exact va_below HB.out hrb zeroV⟩
  · have h2b : (e.f0 == 2) = false := beq_eq_false_iff_ne.mpr h2
    have h2c : (e.f0 != 2) = true := bne_iff_ne.mpr h2
    by_cases h3 : e.f0 = 3
    · obtain ⟨p1, p2⟩ := HRT.out.par h3
      have h3b : (e.f0 == 3) = true := beq_iff_eq.mpr h3
      have h3c : (e.f0 != 3) = false := bne_eq_false_iff_eq.mpr h3
      have HH2 := Lib.hid h2; have HH3 := Lib.hid h3
      clear h2 h3
      by_cases h4 : e.f4 ≤ (ps.length : Int)
      · have hw : wrap64 (e.f4 - 1) = e.f4 - 1 := wrap64_pred p1 p2
        obtain ⟨m, hm⟩ : ∃ m, e.f4 - 1 = m := ⟨_, rfl⟩
        rw [hm] at hw
        have q1 : 0 ≤ m := by omega
        have q2 : m < (ps.length : Int) := by omega
        obtain ⟨ad0, rfl, hv0, hv1, hv2⟩ := at_T23 (Kd.C_below HC2.out HB.out) m q1 q2
        obtain ⟨v, hv⟩ : ∃ v, rd_T23 ps m = v := ⟨_, rfl⟩
        rw [hv] at hv0 hv1 hv2
        have HQ2 : Hid (q = (v, true)) := by
          have h := HQ.out
          unfold atG at h
          rw [if_neg HH2.out, if_pos HH3.out, if_pos h4, hm] at h
          rw [← hv]; exact Lib.hid h
        have hw2 : IntKind.i64.wrap m = m := (i64_w _).trans hw
        go_region
        go_wp2_with fail
        refine bodyPost_ret (results_ct rfl _ _ rb 23 (vaC v) (0, 0) _ rfl ?blk Tryd.underlying23 rfl info_va) rfl ?_; (case blk => exact va_put hbrb v); exact ⟨by rw [HQ2.out]; rfl, by (repeat refine below_drewN' ?_); exact va_below HB.out hrb v⟩
      · have HQ2 : Hid (q = (zeroV, false)) := by
          have h := HQ.out
          unfold atG at h
          rw [if_neg HH2.out, if_pos HH3.out, if_neg h4] at h
          exact Lib.hid h
        go_region
        go_wp2_with fail
        go_region
        go_wp2_with fail
        refine bodyPost_ret (results_ct rfl _ _ rb 23 (vaC zeroV) (0, 0) _ rfl ?blk Tryd.underlying23 rfl info_va) rfl ?_; (case blk => exact va_put hbrb zeroV); exact ⟨by rw [HQ2.out]; rfl, by (repeat refine below_drewN' ?_); exact va_below HB.out hrb zeroV⟩
    · have h3b : (e.f0 == 3) = false := beq_eq_false_iff_ne.mpr h3
      have h3c : (e.f0 != 3) = true := bne_iff_ne.mpr h3
      have HQ2 : Hid (q = (zeroV, true)) := by
        have h := HQ.out
        unfold atG at h
        rw [if_neg h2, if_neg h3] at h
        exact Lib.hid h
      clear h2 h3
      go_region
      go_wp2_with fail
      go_region
      go_wp2_with fail
      refine bodyPost_ret (results_ct rfl _ _ rb 23 (vaC zeroV) (0, 0) _ rfl ?blk Tryd.underlying23 rfl info_va) rfl ?_; (case blk => exact va_put hbrb zeroV); exact ⟨by rw [HQ2.out]; rfl, by (repeat refine below_drewN' ?_); exact va_below HB.out hrb zeroV⟩
end Go.Proofs.YtkboodfnegedaaaDoor.E
