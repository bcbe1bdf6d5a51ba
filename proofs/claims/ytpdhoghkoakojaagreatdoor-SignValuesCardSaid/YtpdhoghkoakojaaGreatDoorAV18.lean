/- Contracts and plain lemmas of the functions that the law reaches, part 18. -/
import Derived.Laws.EntriesVeiled
import Derived.Test.YtpdhoghkoakojaaGreatDoorAV4
import Derived.Test.YtpdhoghkoakojaaGreatDoorAV10
import Derived.Test.YtpdhoghkoakojaaGreatDoorAV11
import Derived.Test.YtpdhoghkoakojaaGreatDoorAV15
import Derived.Test.YtpdhoghkoakojaaGreatDoorAV16
import Derived.Test.YtpdhoghkoakojaaGreatDoorAV17
namespace Go.Proofs.YtpdhoghkoakojaaGreatDoor.E
open Go.RowKit Go.Proofs.YtpdhoghkoakojaaGreatDoorW.PrintWords Go.Proofs.YtpdhoghkoakojaaGreatDoorW.PrintLast Go.Proofs.YtpdhoghkoakojaaGreatDoorW.PrintMore
def cmpI (a b : Int) : Int := if a < b then -1 else if a > b then 1 else 0
def cmpS (a b : ByteArray) : Int := if Op.bytesLess a.toList b.toList = true then -1 else if (a.toList == b.toList) = true then 0 else 1
def cmpV (a b : Va) : Int := if cmpI a.f0 b.f0 ≠ 0 then cmpI a.f0 b.f0 else if cmpI a.f1 b.f1 ≠ 0 then cmpI a.f1 b.f1 else cmpS a.f2 b.f2
theorem cmpI_f (a b : Int) : cmp_Compare_int.f a b = some (cmpI a b) := by
  unfold cmp_Compare_int.f cmp_isNaN_int.f cmpI
  simp
  split
  · rfl
  · split <;> rfl
theorem first_f (a b c : Int) : value_first_int.f 9 [a, b, c] = some (if a ≠ 0 then a else if b ≠ 0 then b else c) := by
  have e0 : rd [a, b, c] 0 = a := rfl
  have e1 : rd [a, b, c] 1 = b := rfl
  have e2 : rd [a, b, c] 2 = c := rfl
  have w1 : wrap64 (0 + 1) = 1 := wrap64_succ (j := 0) (by omega)
  have w2 : wrap64 (1 + 1) = 2 := wrap64_succ (j := 1) (by omega)
  have w3 : wrap64 (2 + 1) = 3 := wrap64_succ (j := 2) (by omega)
  unfold value_first_int.f
  simp only [value_first_int.l0, List.length_cons, List.length_nil, e0, e1, e2, w1, w2, w3]
  by_cases ha : a = 0 <;> by_cases hb : b = 0 <;> by_cases hc : c = 0 <;> simp [ha, hb, hc]
theorem cmpV_f (a b : Va) : value_Compare.f 9 a.f0 a.f1 a.f2 b.f0 b.f1 b.f2 = some (cmpV a b) := by
  unfold value_Compare.f
  simp only [cmpI_f, cmp_Compare_string.f, Option.bind_some, first_f]
  rfl
def holdV (op c : Int) : Bool := if op = 9 then c == 0 else if op = 10 then c != 0 else if op = 11 then decide (c < 0) else if op = 12 then decide (c ≤ 0) else if op = 13 then decide (c > 0) else decide (c ≥ 0)
def testV (op : Int) (a b : Va) : Va × Int :=
  if op < 9 ∨ op > 14 then (zeroV, 1) else if (nullV ((if a.f0 < b.f0 then b.f0 else a.f0)) [a, b]).2 = true then (zeroV, (nullV ((if a.f0 < b.f0 then b.f0 else a.f0)) [a, b]).1) else (⟨2, if holdV op (cmpV a b) = true then 1 else 0, ⟨#[]⟩⟩, 0)
theorem idx6 (b0 b1 b2 b3 b4 b5 : Bool) (n : Int) (b : Bool) (hn : n = 0 ∨ n = 1 ∨ n = 2 ∨ n = 3 ∨ n = 4 ∨ n = 5) (h : #[b0, b1, b2, b3, b4, b5][n.toNat]? = some b) (W : World) : (Instr.index 97 (.agg #[.bool b0, .bool b1, .bool b2, .bool b3, .bool b4, .bool b5]) (.int .i64 n)).run Tryz.prog W = .ok (.bool b) W := by
  have h106 := Tryz.underlying97
  rcases hn with rfl | rfl | rfl | rfl | rfl | rfl
  all_goals
    simp [Instr.index, run_underlying h106, asIntOf, go_sem] at h ⊢
    exact h
set_option maxHeartbeats 1000000 in
set_option maxRecDepth 100000 in
theorem test_ok (op : Int) (a b : Va) (w : World) :
    Calls Tryz.prog 44 #[.int .i64 op, .agg (vaC a), .agg (vaC b)] w fun e w' => e = .returned (.tuple #[.agg (vaC (testV op a b).1), .int .i64 (testV op a b).2]) ∧ Below w.heap.size w w' := by
  obtain ⟨q, hq⟩ : ∃ q, testV op a b = q := ⟨_, rfl⟩
  rw [hq]
  have HQ := Lib.hid hq.symm; clear hq
  unfold vaC
  go_enter Tryz.func44, Tryz.ntmps44
  go_upto_region 1 with (first | ((with_reducible refine gate_dst (N := 4) rfl ?_); refine box_event rfl (N := 4) rfl (cs := vaC a) (t := 23) (by first | rfl | (go_simp; done) | (go_simp; rfl)) ?_; intro ga hgg w1 hbga hBga;  have hga : w.heap.size ≤ ga := (by omega); clear hgg) | ((with_reducible refine gate_dst (N := 5) rfl ?_); refine box_event rfl (N := 5) rfl (cs := vaC b) (t := 23) (by first | rfl | (go_simp; done) | (go_simp; rfl)) ?_; intro gb hgg w2 hbgb hBgb;  have hab : ga ≠ gb := (by have := blk_lt hbga; omega); clear hgg) | ((with_reducible refine gate_dst (N := 6) rfl ?_); refine box_event rfl (N := 6) rfl (cs := vaC zeroV) (t := 23) (by first | rfl | (go_simp; done) | (go_simp; rfl)) ?_; intro rb hgg w3 hbrb hBrb;  have hrb : w.heap.size ≤ rb := (by have := hBga.size; have := hBgb.size; omega); have har : ga ≠ rb := (by have := blk_lt hbga; have := hBgb.size; omega); have hbr : gb ≠ rb := (by have := blk_lt hbgb; omega); clear hgg))
  have ha3 := (hBrb.block ga (by have := hBgb.size; have := blk_lt hbga; omega)).trans ((hBgb.block ga (blk_lt hbga)).trans hbga)
  have hb3 := (hBrb.block gb (blk_lt hbgb)).trans hbgb
  have HB3 := Lib.hid (hBga.trans ((hBgb.trans (hBrb.mono hBgb.size)).mono hBga.size))
  clear hBga hBgb hBrb hbga hbgb
  have hz0 : w3.cell? ⟨ga, 0, none⟩ = some (.int .i64 a.f0) := (bkC ha3 0).trans rfl
  have hz1 : w3.cell? ⟨ga, 1, none⟩ = some (.int .i64 a.f1) := (bkC ha3 1).trans rfl
  have hz2 : w3.cell? ⟨ga, 2, none⟩ = some (.string a.f2) := (bkC ha3 2).trans rfl
  have hy0 : w3.cell? ⟨gb, 0, none⟩ = some (.int .i64 b.f0) := (bkC hb3 0).trans rfl
  have hy1 : w3.cell? ⟨gb, 1, none⟩ = some (.int .i64 b.f1) := (bkC hb3 1).trans rfl
  have hy2 : w3.cell? ⟨gb, 2, none⟩ = some (.string b.f2) := (bkC hb3 2).trans rfl
  have hr0 : w3.cell? ⟨rb, 0, none⟩ = some (.int .i64 0) := (bkC hbrb 0).trans rfl
  have hr1 : w3.cell? ⟨rb, 1, none⟩ = some (.int .i64 0) := (bkC hbrb 1).trans rfl
  have hr2 : w3.cell? ⟨rb, 2, none⟩ = some (.string ⟨#[]⟩) := (bkC hbrb 2).trans rfl
  have hf0 := bkF hbrb 0
  have hf1 := bkF hbrb 1
  have hf2 := bkF hbrb 2
  by_cases h1 : op < 9
  · have HQ2 : Hid (q = (zeroV, 1)) := by have h := HQ.out; unfold testV at h; rw [if_pos (.inl h1)] at h; exact Lib.hid h
    go_wp2_with fail
    refine bodyPost_ret (results_ct rfl _ _ rb 23 (vaC zeroV) (0, 0) _ rfl ?blk Tryz.underlying23 rfl info_va) rfl ?_; (case blk => exact va_put hbrb zeroV); exact ⟨by rw [HQ2.out]; rfl, by (repeat refine below_drewN' ?_); exact va_below HB3.out hrb zeroV⟩
  · by_cases h2 : 14 < op
    · have HQ2 : Hid (q = (zeroV, 1)) := by have h := HQ.out; unfold testV at h; rw [if_pos (.inr h2)] at h; exact Lib.hid h
      go_wp2_with fail
      refine bodyPost_ret (results_ct rfl _ _ rb 23 (vaC zeroV) (0, 0) _ rfl ?blk Tryz.underlying23 rfl info_va) rfl ?_; (case blk => exact va_put hbrb zeroV); exact ⟨by rw [HQ2.out]; rfl, by (repeat refine below_drewN' ?_); exact va_below HB3.out hrb zeroV⟩
    · obtain ⟨L, hL⟩ : ∃ L, [a, b] = L := ⟨_, rfl⟩
      have hLl : L.length = 2 := by rw [← hL]; rfl
      obtain ⟨mx, hmx⟩ : ∃ mx, (if a.f0 < b.f0 then b.f0 else a.f0) = mx := ⟨_, rfl⟩
      obtain ⟨n, hn⟩ : ∃ n, nullV mx L = n := ⟨_, rfl⟩
      have hnf := null_f 9 mx L (by omega) (by omega)
      rw [hn] at hnf
      have HNF : Hid (value_null.f 9 mx L = some (n.1, n.2)) := Lib.hid hnf
      have HL := Lib.hid hL
      have HN := Lib.hid hn
      have HQ1 : Hid (q = if n.2 = true then (zeroV, n.1) else (⟨2, if holdV op (cmpV a b) = true then 1 else 0, ⟨#[]⟩⟩, 0)) := by
        have h := HQ.out; unfold testV at h; rw [if_neg (by omega), hmx, hL, hn] at h; exact Lib.hid h
      clear hL hn hnf hLl HQ
      go_upto_region 4 with (fail)
      try simp only [hmx]
      clear hmx
      obtain ⟨n1, n2⟩ := n
      go_upto_region 5 with (first
        | ((with_reducible refine gate_dst (N := 28) rfl ?_); refine Kd.R_lit k23 _ 23 rfl (N := 28) rfl (xs := [a, b]) (inner := [.int .i64 a.f0, .int .i64 a.f1, .string a.f2, .int .i64 b.f0, .int .i64 b.f1, .string b.f2]) (ok := fun _ => True) (okp := fun _ => True) ?hr ?hp (fun _ hk => hk) trivial (Below.refl _ _) (Nat.le_refl _) (by simp) ?_; (case hr => first | (go_simp; done) | (go_simp; rfl)); (case hp => exact (Reps.c3 (show Kd.M k23 _ _ _ a [.int .i64 a.f0, .int .i64 a.f1, .string a.f2] from (k23_mkM _ _ _ a)) (Reps.c3 (show Kd.M k23 _ _ _ b [.int .i64 b.f0, .int .i64 b.f1, .string b.f2] from (k23_mkM _ _ _ b)) (Reps.none _ _)))); intro v4 w4 ho hB4 hg_ hn_; rw [HL.out] at ho; obtain ⟨A4, c4, rfl, hc4, hC4⟩ := Kd.R_reads ho; clear hg_ hn_ ho)
        | (go_at_call 59; with_reducible refine (value_null.calls 9 mx A4 c4 L n1 n2 w4 hC4 hc4 HNF.out).mono ?_; rintro r w5 ⟨rfl, hB5⟩))
      have hB : Below w3.heap.size w3 w5 := hB4.trans (hB5.mono hB4.size)
      have ha5 := (hB.block ga (blk_lt ha3)).trans ha3
      have hb5 := (hB.block gb (blk_lt hb3)).trans hb3
      have hr5 := (hB.block rb (blk_lt hbrb)).trans hbrb
      have HB5 := Lib.hid (HB3.out.trans (hB.mono HB3.out.size))
      clear hB4 hB5 hB hz0 hz1 hz2 hy0 hy1 hy2 ha3 hb3 hbrb hC4 hc4 HB3 hr0 hr1 hr2 hf0 hf1 hf2
      have hz0 : w5.cell? ⟨ga, 0, none⟩ = some (.int .i64 a.f0) := (bkC ha5 0).trans rfl
      have hz1 : w5.cell? ⟨ga, 1, none⟩ = some (.int .i64 a.f1) := (bkC ha5 1).trans rfl
      have hz2 : w5.cell? ⟨ga, 2, none⟩ = some (.string a.f2) := (bkC ha5 2).trans rfl
      have hy0 : w5.cell? ⟨gb, 0, none⟩ = some (.int .i64 b.f0) := (bkC hb5 0).trans rfl
      have hy1 : w5.cell? ⟨gb, 1, none⟩ = some (.int .i64 b.f1) := (bkC hb5 1).trans rfl
      have hy2 : w5.cell? ⟨gb, 2, none⟩ = some (.string b.f2) := (bkC hb5 2).trans rfl
      have hr0 : w5.cell? ⟨rb, 0, none⟩ = some (.int .i64 0) := (bkC hr5 0).trans rfl
      have hr1 : w5.cell? ⟨rb, 1, none⟩ = some (.int .i64 0) := (bkC hr5 1).trans rfl
      have hr2 : w5.cell? ⟨rb, 2, none⟩ = some (.string ⟨#[]⟩) := (bkC hr5 2).trans rfl
      have hf0 := bkF hr5 0
      have hf1 := bkF hr5 1
      have hf2 := bkF hr5 2
      cases n2 with
      | true =>
        have HQ2 : Hid (q = (zeroV, n1)) := HQ1.out
        go_wp2_with fail
        refine bodyPost_ret (results_ct rfl _ _ rb 23 (vaC zeroV) (0, 0) _ rfl ?blk Tryz.underlying23 rfl info_va) rfl ?_; (case blk => exact va_put hr5 zeroV); exact ⟨by rw [HQ2.out]; rfl, by (repeat refine below_drewN' ?_); exact va_below HB5.out hrb zeroV⟩
      | false =>
        have HQ2 : Hid (q = (⟨2, if holdV op (cmpV a b) = true then 1 else 0, ⟨#[]⟩⟩, 0)) := HQ1.out
        obtain ⟨c, hc⟩ : ∃ c, cmpV a b = c := ⟨_, rfl⟩
        have hcf := cmpV_f a b
        rw [hc] at hcf HQ2
        have HCMP := Lib.hid (fun w => value_Compare.calls 9 a.f0 a.f1 a.f2 b.f0 b.f1 b.f2 c w hcf)
        clear hc hcf HQ1
        go_upto_region 8 with (go_at_call 65; with_reducible refine (HCMP.out _).mono ?_; rintro r w6 ⟨rfl, hB6⟩)
        have hr6 := (hB6.block rb (blk_lt hr5)).trans hr5
        have HB6 := Lib.hid (HB5.out.trans (hB6.mono HB5.out.size))
        clear hB6 HB5 hr5 ha5 hb5 hz0 hz1 hz2 hy0 hy1 hy2 hr0 hr1 hr2 hf0 hf1 hf2
        have hop : op = 9 ∨ op = 10 ∨ op = 11 ∨ op = 12 ∨ op = 13 ∨ op = 14 := by omega
        clear h1 h2
        rcases hop with rfl | rfl | rfl | rfl | rfl | rfl
        · have hh : holdV 9 c = (c == 0) := rfl; rw [hh] at HQ2; clear hh; have hix : ∀ W : World, (Instr.index 97 (.agg #[.bool (c == 0), .bool (c != 0), .bool (decide (c < 0)), .bool (decide (c ≤ 0)), .bool (decide (0 < c)), .bool (decide (0 ≤ c))]) (.int .i64 (9 - 9))).run Tryz.prog W = .ok (.bool (c == 0)) W := (fun W => idx6 _ _ _ _ _ _ (9 - 9) _ (by omega) rfl W); simp only [Int.reduceSub] at hix; obtain ⟨t, ht⟩ : ∃ t, (if (c == 0) = true then (1 : Int) else 0) = t := ⟨_, rfl⟩; have HTR : Hid (∀ w, Calls Tryz.prog 64 #[.bool (c == 0)] w fun e w' => e = .returned (.agg #[.int .i64 2, .int .i64 t, .string ⟨#[]⟩]) ∧ Below w.heap.size w w') := (by rw [← ht]; exact Lib.hid (fun w => truth_ok (c == 0) w)); rw [ht] at HQ2; clear ht; go_wp2_with (go_at_call 64; refine (HTR.out _).mono ?_; rintro r w7 ⟨rfl, hB7⟩; have hr7 := (hB7.block rb (blk_lt hr6)).trans hr6; have HB7 := Lib.hid (HB6.out.trans (hB7.mono HB6.out.size)); clear hB7; obtain ⟨hr0, hr1, hr2⟩ := bkC3 hr7; have hf0 := bkF hr7 0; have hf1 := bkF hr7 1; have hf2 := bkF hr7 2); refine bodyPost_ret (results_ct rfl _ _ rb 23 (vaC ⟨2, t, ⟨#[]⟩⟩) (0, 0) _ rfl ?blk Tryz.underlying23 rfl info_va) rfl ?_; (case blk => exact va_put hr7 ⟨2, t, ⟨#[]⟩⟩); exact ⟨by rw [HQ2.out]; rfl, by (repeat refine below_drewN' ?_); exact va_below HB7.out hrb ⟨2, t, ⟨#[]⟩⟩⟩
        · have hh : holdV 10 c = (c != 0) := rfl; rw [hh] at HQ2; clear hh; have hix : ∀ W : World, (Instr.index 97 (.agg #[.bool (c == 0), .bool (c != 0), .bool (decide (c < 0)), .bool (decide (c ≤ 0)), .bool (decide (0 < c)), .bool (decide (0 ≤ c))]) (.int .i64 (10 - 9))).run Tryz.prog W = .ok (.bool (c != 0)) W := (fun W => idx6 _ _ _ _ _ _ (10 - 9) _ (by omega) rfl W); simp only [Int.reduceSub] at hix; obtain ⟨t, ht⟩ : ∃ t, (if (c != 0) = true then (1 : Int) else 0) = t := ⟨_, rfl⟩; have HTR : Hid (∀ w, Calls Tryz.prog 64 #[.bool (c != 0)] w fun e w' => e = .returned (.agg #[.int .i64 2, .int .i64 t, .string ⟨#[]⟩]) ∧ Below w.heap.size w w') := (by rw [← ht]; exact Lib.hid (fun w => truth_ok (c != 0) w)); rw [ht] at HQ2; clear ht; go_wp2_with (go_at_call 64; refine (HTR.out _).mono ?_; rintro r w7 ⟨rfl, hB7⟩; have hr7 := (hB7.block rb (blk_lt hr6)).trans hr6; have HB7 := Lib.hid (HB6.out.trans (hB7.mono HB6.out.size)); clear hB7; obtain ⟨hr0, hr1, hr2⟩ := bkC3 hr7; have hf0 := bkF hr7 0; have hf1 := bkF hr7 1; have hf2 := bkF hr7 2); refine bodyPost_ret (results_ct rfl _ _ rb 23 (vaC ⟨2, t, ⟨#[]⟩⟩) (0, 0) _ rfl ?blk Tryz.underlying23 rfl info_va) rfl ?_; (case blk => exact va_put hr7 ⟨2, t, ⟨#[]⟩⟩); exact ⟨by rw [HQ2.out]; rfl, by (repeat refine below_drewN' ?_); exact va_below HB7.out hrb ⟨2, t, ⟨#[]⟩⟩⟩
        · have hh : holdV 11 c = (decide (c < 0)) := rfl; rw [hh] at HQ2; clear hh; have hix : ∀ W : World, (Instr.index 97 (.agg #[.bool (c == 0), .bool (c != 0), .bool (decide (c < 0)), .bool (decide (c ≤ 0)), .bool (decide (0 < c)), .bool (decide (0 ≤ c))]) (.int .i64 (11 - 9))).run Tryz.prog W = .ok (.bool (decide (c < 0))) W := (fun W => idx6 _ _ _ _ _ _ (11 - 9) _ (by omega) rfl W); simp only [Int.reduceSub] at hix; obtain ⟨t, ht⟩ : ∃ t, (if (decide (c < 0)) = true then (1 : Int) else 0) = t := ⟨_, rfl⟩; have HTR : Hid (∀ w, Calls Tryz.prog 64 #[.bool (decide (c < 0))] w fun e w' => e = .returned (.agg #[.int .i64 2, .int .i64 t, .string ⟨#[]⟩]) ∧ Below w.heap.size w w') := (by rw [← ht]; exact Lib.hid (fun w => truth_ok (decide (c < 0)) w)); rw [ht] at HQ2; clear ht; go_wp2_with (go_at_call 64; refine (HTR.out _).mono ?_; rintro r w7 ⟨rfl, hB7⟩; have hr7 := (hB7.block rb (blk_lt hr6)).trans hr6; have HB7 := Lib.hid (HB6.out.trans (hB7.mono HB6.out.size)); clear hB7; obtain ⟨hr0, hr1, hr2⟩ := bkC3 hr7; have hf0 := bkF hr7 0; have hf1 := bkF hr7 1; have hf2 := bkF hr7 2); refine bodyPost_ret (results_ct rfl _ _ rb 23 (vaC ⟨2, t, ⟨#[]⟩⟩) (0, 0) _ rfl ?blk Tryz.underlying23 rfl info_va) rfl ?_; (case blk => exact va_put hr7 ⟨2, t, ⟨#[]⟩⟩); exact ⟨by rw [HQ2.out]; rfl, by (repeat refine below_drewN' ?_); exact va_below HB7.out hrb ⟨2, t, ⟨#[]⟩⟩⟩
        · have hh : holdV 12 c = (decide (c ≤ 0)) := rfl; rw [hh] at HQ2; clear hh; have hix : ∀ W : World, (Instr.index 97 (.agg #[.bool (c == 0), .bool (c != 0), .bool (decide (c < 0)), .bool (decide (c ≤ 0)), .bool (decide (0 < c)), .bool (decide (0 ≤ c))]) (.int .i64 (12 - 9))).run Tryz.prog W = .ok (.bool (decide (c ≤ 0))) W := (fun W => idx6 _ _ _ _ _ _ (12 - 9) _ (by omega) rfl W); simp only [Int.reduceSub] at hix; obtain ⟨t, ht⟩ : ∃ t, (if (decide (c ≤ 0)) = true then (1 : Int) else 0) = t := ⟨_, rfl⟩; have HTR : Hid (∀ w, Calls Tryz.prog 64 #[.bool (decide (c ≤ 0))] w fun e w' => e = .returned (.agg #[.int .i64 2, .int .i64 t, .string ⟨#[]⟩]) ∧ Below w.heap.size w w') := (by rw [← ht]; exact Lib.hid (fun w => truth_ok (decide (c ≤ 0)) w)); rw [ht] at HQ2; clear ht; go_wp2_with (go_at_call 64; refine (HTR.out _).mono ?_; rintro r w7 ⟨rfl, hB7⟩; have hr7 := (hB7.block rb (blk_lt hr6)).trans hr6; have HB7 := Lib.hid (HB6.out.trans (hB7.mono HB6.out.size)); clear hB7; obtain ⟨hr0, hr1, hr2⟩ := bkC3 hr7; have hf0 := bkF hr7 0; have hf1 := bkF hr7 1; have hf2 := bkF hr7 2); refine bodyPost_ret (results_ct rfl _ _ rb 23 (vaC ⟨2, t, ⟨#[]⟩⟩) (0, 0) _ rfl ?blk Tryz.underlying23 rfl info_va) rfl ?_; (case blk => exact va_put hr7 ⟨2, t, ⟨#[]⟩⟩); exact ⟨by rw [HQ2.out]; rfl, by (repeat refine below_drewN' ?_); exact va_below HB7.out hrb ⟨2, t, ⟨#[]⟩⟩⟩
        · have hh : holdV 13 c = (decide (0 < c)) := rfl; rw [hh] at HQ2; clear hh; have hix : ∀ W : World, (Instr.index 97 (.agg #[.bool (c == 0), .bool (c != 0), .bool (decide (c < 0)), .bool (decide (c ≤ 0)), .bool (decide (0 < c)), .bool (decide (0 ≤ c))]) (.int .i64 (13 - 9))).run Tryz.prog W = .ok (.bool (decide (0 < c))) W := (fun W => idx6 _ _ _ _ _ _ (13 - 9) _ (by omega) rfl W); simp only [Int.reduceSub] at hix; obtain ⟨t, ht⟩ : ∃ t, (if (decide (0 < c)) = true then (1 : Int) else 0) = t := ⟨_, rfl⟩; have HTR : Hid (∀ w, Calls Tryz.prog 64 #[.bool (decide (0 < c))] w fun e w' => e = .returned (.agg #[.int .i64 2, .int .i64 t, .string ⟨#[]⟩]) ∧ Below w.heap.size w w') := (by rw [← ht]; exact Lib.hid (fun w => truth_ok (decide (0 < c)) w)); rw [ht] at HQ2; clear ht; go_wp2_with (go_at_call 64; refine (HTR.out _).mono ?_; rintro r w7 ⟨rfl, hB7⟩; have hr7 := (hB7.block rb (blk_lt hr6)).trans hr6; have HB7 := Lib.hid (HB6.out.trans (hB7.mono HB6.out.size)); clear hB7; obtain ⟨hr0, hr1, hr2⟩ := bkC3 hr7; have hf0 := bkF hr7 0; have hf1 := bkF hr7 1; have hf2 := bkF hr7 2); refine bodyPost_ret (results_ct rfl _ _ rb 23 (vaC ⟨2, t, ⟨#[]⟩⟩) (0, 0) _ rfl ?blk Tryz.underlying23 rfl info_va) rfl ?_; (case blk => exact va_put hr7 ⟨2, t, ⟨#[]⟩⟩); exact ⟨by rw [HQ2.out]; rfl, by (repeat refine below_drewN' ?_); exact va_below HB7.out hrb ⟨2, t, ⟨#[]⟩⟩⟩
        · have hh : holdV 14 c = (decide (0 ≤ c)) := rfl; rw [hh] at HQ2; clear hh; have hix : ∀ W : World, (Instr.index 97 (.agg #[.bool (c == 0), .bool (c != 0), .bool (decide (c < 0)), .bool (decide (c ≤ 0)), .bool (decide (0 < c)), .bool (decide (0 ≤ c))]) (.int .i64 (14 - 9))).run Tryz.prog W = .ok (.bool (decide (0 ≤ c))) W := (fun W => idx6 _ _ _ _ _ _ (14 - 9) _ (by omega) rfl W); simp only [Int.reduceSub] at hix; obtain ⟨t, ht⟩ : ∃ t, (if (decide (0 ≤ c)) = true then (1 : Int) else 0) = t := ⟨_, rfl⟩; have HTR : Hid (∀ w, Calls Tryz.prog 64 #[.bool (decide (0 ≤ c))] w fun e w' => e = .returned (.agg #[.int .i64 2, .int .i64 t, .string ⟨#[]⟩]) ∧ Below w.heap.size w w') := (by rw [← ht]; exact Lib.hid (fun w => truth_ok (decide (0 ≤ c)) w)); rw [ht] at HQ2; clear ht; go_wp2_with (go_at_call 64; refine (HTR.out _).mono ?_; rintro r w7 ⟨rfl, hB7⟩; have hr7 := (hB7.block rb (blk_lt hr6)).trans hr6; have HB7 := Lib.hid (HB6.out.trans (hB7.mono HB6.out.size)); clear hB7; obtain ⟨hr0, hr1, hr2⟩ := bkC3 hr7; have hf0 := bkF hr7 0; have hf1 := bkF hr7 1; have hf2 := bkF hr7 2); refine bodyPost_ret (results_ct rfl _ _ rb 23 (vaC ⟨2, t, ⟨#[]⟩⟩) (0, 0) _ rfl ?blk Tryz.underlying23 rfl info_va) rfl ?_; (case blk => exact va_put hr7 ⟨2, t, ⟨#[]⟩⟩); exact ⟨by rw [HQ2.out]; rfl, by (repeat refine below_drewN' ?_); exact va_below HB7.out hrb ⟨2, t, ⟨#[]⟩⟩⟩
def tup4 (q : Va × Int) : Int × Int × ByteArray × Int := (q.1.f0, q.1.f1, q.1.f2, q.2)
def orNull (kind : Int) (l : List Va) (o : Va × Int) : Va × Int := if (nullV kind l).2 = true then (zeroV, (nullV kind l).1) else o
def numV (n : Int) : Va := ⟨1, n, ⟨#[]⟩⟩
def truthV (b : Bool) : Va := ⟨2, if b = true then 1 else 0, ⟨#[]⟩⟩
theorem null2 (kind : Int) (a b : Va) : value_null.f 9 kind [⟨a.f0, a.f1, a.f2⟩, ⟨b.f0, b.f1, b.f2⟩] = some (nullV kind [a, b]) := null_f 9 kind [a, b] (by simp) (by simp)
theorem null1 (kind : Int) (a : Va) : value_null.f 9 kind [⟨a.f0, a.f1, a.f2⟩] = some (nullV kind [a]) := null_f 9 kind [a] (by simp) (by simp)
def addV (a b : Va) : Va × Int := orNull 1 [a, b] (if (Go.bits .and .i64 (Go.bits .xor .i64 a.f1 (wrap64 (a.f1 + b.f1))) (Go.bits .xor .i64 b.f1 (wrap64 (a.f1 + b.f1)))) < 0 then (zeroV, 3) else (numV (wrap64 (a.f1 + b.f1)), 0))
theorem add_f (a b : Va) : value_Add.f 9 a.f0 a.f1 a.f2 b.f0 b.f1 b.f2 = some (tup4 (addV a b)) := by
  unfold value_Add.f
  rw [null2, Option.bind_some]
  unfold addV orNull
  split
  · rfl
  · split <;> rfl
def subV (a b : Va) : Va × Int := orNull 1 [a, b] (if (Go.bits .and .i64 (Go.bits .xor .i64 a.f1 b.f1) (Go.bits .xor .i64 a.f1 (wrap64 (a.f1 - b.f1)))) < 0 then (zeroV, 3) else (numV (wrap64 (a.f1 - b.f1)), 0))
theorem sub_f (a b : Va) : value_Sub.f 9 a.f0 a.f1 a.f2 b.f0 b.f1 b.f2 = some (tup4 (subV a b)) := by
  unfold value_Sub.f
  rw [null2, Option.bind_some]
  unfold subV orNull
  split
  · rfl
  · split <;> rfl
def divV (a b : Va) : Va × Int := orNull 1 [a, b] (if b.f1 = 0 then (zeroV, 4) else if a.f1 = -9223372036854775808 ∧ b.f1 = -1 then (zeroV, 3) else (numV (wrap64 (Int.tdiv a.f1 b.f1)), 0))
theorem div_f (a b : Va) : value_Div.f 9 a.f0 a.f1 a.f2 b.f0 b.f1 b.f2 = some (tup4 (divV a b)) := by
  unfold value_Div.f
  rw [null2, Option.bind_some]
  unfold divV orNull
  split
  · rfl
  · split
    · rfl
    · by_cases h1 : a.f1 = -9223372036854775808
      · by_cases h2 : b.f1 = -1
        · rw [if_pos h1, if_pos h2, if_pos ⟨h1, h2⟩]; rfl
        · rw [if_pos h1, if_neg h2, if_neg (fun h => h2 h.2)]; rfl
      · rw [if_neg h1, if_neg (fun h => h1 h.1)]; rfl
def negV (a : Va) : Va × Int := orNull 1 [a] (subV (numV 0) a)
theorem neg_f (a : Va) : value_Neg.f 9 a.f0 a.f1 a.f2 = some (tup4 (negV a)) := by
  unfold value_Neg.f
  rw [null1, Option.bind_some]
  unfold negV orNull
  split
  · rfl
  · have h := sub_f (numV 0) a
    simp only [value_number.f, Option.bind_some]
    unfold numV at h
    simp only at h
    rw [h]; rfl
def sameV (a b : Va) : Bool := a.f0 == b.f0 && (a.f1 == b.f1 && (a.f2.toList == b.f2.toList))
def decV (by_ : Bool) (a b : Va) : Va × Int := if (nullV 2 [a, b]).1 = 0 then (if (sameV a (truthV by_) || sameV b (truthV by_)) = true then (truthV by_, 0) else if (nullV 2 [a, b]).2 = true then (zeroV, 0) else (truthV (!by_), 0)) else (zeroV, (nullV 2 [a, b]).1)
theorem dec_f (o : Bool) (a b : Va) : value_decided.f 9 o a.f0 a.f1 a.f2 b.f0 b.f1 b.f2 = some (tup4 (decV o a b)) := by
  unfold value_decided.f
  rw [null2, Option.bind_some]
  unfold decV
  split
  · simp only [value_truth.f, Option.bind_some, value_decided.j0]
    by_cases h1 : sameV a (truthV o) = true
    · have h1' := h1
      unfold sameV truthV at h1'
      simp only at h1'
      rw [if_pos h1', h1]
      rfl
    · have h1' := h1
      unfold sameV truthV at h1'
      simp only at h1'
      rw [if_neg h1']
      replace h1 := Bool.eq_false_iff.mpr h1
      rw [h1, Bool.false_or]
      by_cases h2 : sameV b (truthV o) = true
      · have h2' := h2
        unfold sameV truthV at h2'
        simp only at h2'
        rw [if_pos h2', if_pos h2]
        rfl
      · have h2' := h2
        unfold sameV truthV at h2'
        simp only at h2'
        rw [if_neg h2', if_neg h2]
        split <;> rfl
  · rfl
def andV (a b : Va) : Va × Int := decV false a b
def orV (a b : Va) : Va × Int := decV true a b
theorem and_f (a b : Va) : value_And.f 9 a.f0 a.f1 a.f2 b.f0 b.f1 b.f2 = some (tup4 (andV a b)) := by
  unfold value_And.f; rw [dec_f]; rfl
theorem or_f (a b : Va) : value_Or.f 9 a.f0 a.f1 a.f2 b.f0 b.f1 b.f2 = some (tup4 (orV a b)) := by
  unfold value_Or.f; rw [dec_f]; rfl
def notV (a : Va) : Va × Int := orNull 2 [a] (truthV (a.f1 == 0), 0)
theorem not_f (a : Va) : value_Not.f 9 a.f0 a.f1 a.f2 = some (tup4 (notV a)) := by
  unfold value_Not.f
  rw [null1, Option.bind_some]
  unfold notV orNull
  split <;> rfl
def VP (q : Va × Int) (w : World) (r : Ending) (w' : World) : Prop := r = .returned (.tuple #[.agg (vaC q.1), .int .i64 q.2]) ∧ Below w.heap.size w w'
theorem add_ok (a b : Va) (w : World) : Calls Tryz.prog 36 #[.agg (vaC a), .agg (vaC b)] w (VP (addV a b) w) := value_Add.calls 9 a.f0 a.f1 a.f2 b.f0 b.f1 b.f2 _ _ _ _ w (add_f a b)
theorem sub_ok (a b : Va) (w : World) : Calls Tryz.prog 37 #[.agg (vaC a), .agg (vaC b)] w (VP (subV a b) w) := value_Sub.calls 9 a.f0 a.f1 a.f2 b.f0 b.f1 b.f2 _ _ _ _ w (sub_f a b)
theorem div_ok (a b : Va) (w : World) : Calls Tryz.prog 39 #[.agg (vaC a), .agg (vaC b)] w (VP (divV a b) w) := value_Div.calls 9 a.f0 a.f1 a.f2 b.f0 b.f1 b.f2 _ _ _ _ w (div_f a b)
theorem neg_ok (a : Va) (w : World) : Calls Tryz.prog 40 #[.agg (vaC a)] w (VP (negV a) w) := value_Neg.calls 9 a.f0 a.f1 a.f2 _ _ _ _ w (neg_f a)
theorem and_ok (a b : Va) (w : World) : Calls Tryz.prog 41 #[.agg (vaC a), .agg (vaC b)] w (VP (andV a b) w) := value_And.calls 9 a.f0 a.f1 a.f2 b.f0 b.f1 b.f2 _ _ _ _ w (and_f a b)
theorem or_ok (a b : Va) (w : World) : Calls Tryz.prog 42 #[.agg (vaC a), .agg (vaC b)] w (VP (orV a b) w) := value_Or.calls 9 a.f0 a.f1 a.f2 b.f0 b.f1 b.f2 _ _ _ _ w (or_f a b)
theorem not_ok (a : Va) (w : World) : Calls Tryz.prog 43 #[.agg (vaC a)] w (VP (notV a) w) := value_Not.calls 9 a.f0 a.f1 a.f2 _ _ _ _ w (not_f a)
theorem mul_ok' (a b : Va) (w : World) : Calls Tryz.prog 38 #[.agg (vaC a), .agg (vaC b)] w (VP (mulV a b) w) := mul_ok a b w
theorem test_ok' (op : Int) (a b : Va) (w : World) : Calls Tryz.prog 44 #[.int .i64 op, .agg (vaC a), .agg (vaC b)] w (VP (testV op a b) w) := test_ok op a b w
def opV (op : Int) (a b : Va) : Va × Int :=
  if op = 4 then addV a b else if op = 5 then subV a b else if op = 6 then mulV a b else if op = 7 then divV a b else if op = 8 then negV a
  else if op = 15 then andV a b else if op = 16 then orV a b else if op = 17 then notV a else if op = 18 then (truthV (a.f0 == 0), 0) else testV op a b
def opL (op : Int) : Except Int (List Va) → Va × Int
  | .error x => (zeroV, x)
  | .ok l => opV op (l.getD 0 zeroV) (l.getD 1 zeroV)
mutual
def evalF : Ex → List (List Va) → List Va → Va × Int
  | ⟨f0, f1, f2, f3, f4, f5, f6⟩, rows, ps => if f0 = 1 then (f1, 0) else if f0 = 2 ∨ f0 = 3 then ((atG zeroV ⟨f0, f1, f2, f3, f4, f5, f6⟩ rows ps).1, 0) else opL f0 (evalL f6 rows ps)
def evalL : List Ex → List (List Va) → List Va → Except Int (List Va)
  | [], _, _ => .ok []
  | x :: xs, rows, ps => if (evalF x rows ps).2 = 0 then (match evalL xs rows ps with | .error y => .error y | .ok l => .ok ((evalF x rows ps).1 :: l)) else .error (evalF x rows ps).2
end
theorem evalF_eq (e : Ex) (rows : List (List Va)) (ps : List Va) : evalF e rows ps = if e.f0 = 1 then (e.f1, 0) else if e.f0 = 2 ∨ e.f0 = 3 then ((atG zeroV e rows ps).1, 0) else opL e.f0 (evalL e.f6 rows ps) := by
  cases e; rw [evalF]
theorem evalL_snoc (l : List Ex) (x : Ex) (rows : List (List Va)) (ps : List Va) (vs : List Va) (h : evalL l rows ps = .ok vs) : evalL (l ++ [x]) rows ps = if (evalF x rows ps).2 = 0 then .ok (vs ++ [(evalF x rows ps).1]) else .error (evalF x rows ps).2 := by
  induction l generalizing vs with
  | nil =>
    simp only [evalL] at h
    cases h
    simp only [List.nil_append, evalL]
  | cons y l ih =>
    simp only [evalL] at h
    split at h
    · rename_i h1
      split at h
      · cases h
      · rename_i l' h2
        cases h
        simp only [List.cons_append, evalL]
        rw [if_pos h1, ih l' h2]
        split
        · rename_i y' h3
          split at h3
          · cases h3
          · rename_i h4
            rw [if_neg h4]
            exact h3.symm ▸ rfl
        · rename_i l2 h3
          split at h3
          · rename_i h4
            rw [if_pos h4]
            cases h3
            rfl
          · cases h3
    · cases h
theorem evalL_err (l : List Ex) (k : Nat) (rows : List (List Va)) (ps : List Va) (x : Int) (h : evalL (l.take k) rows ps = .error x) : evalL l rows ps = .error x := by
  induction l generalizing k with
  | nil => simpa using h
  | cons y l ih =>
    cases k with
    | zero => simp [evalL] at h
    | succ k =>
      simp only [List.take_succ_cons, evalL] at h ⊢
      split at h
      · rename_i h1
        rw [if_pos h1]
        split at h
        · rename_i y' h2
          cases h
          rw [ih k h2]
        · cases h
      · rename_i h1
        rw [if_neg h1]; exact h
def EvalOk (e : Ex) : Prop := ∀ (A A1 A2 : Option Addr) (c c1 c2 : Nat) (rows : List (List Va)) (ps : List Va) (w : World), Rt e → Kd.C k26 w A e.f6.length e.f6 → e.f6.length ≤ c → Kd.C (Kd.slice 23 k23) w A1 rows.length rows → rows.length ≤ c1 → Kd.C k23 w A2 ps.length ps → ps.length ≤ c2 →
  Calls Tryz.prog 16 #[.agg (exC e A c), .slice A1 rows.length c1, .slice A2 ps.length c2] w (VP (evalF e rows ps) w)
def two6 (a b : Va) : Array Value := #[.int .i64 a.f0, .int .i64 a.f1, .string a.f2, .int .i64 b.f0, .int .i64 b.f1, .string b.f2]
structure VInv (w0 : World) (g rb lb : Nat) (e : Ex) (A : Option Addr) (c : Nat) (rows : List (List Va)) (ps : List Va) (k : Nat) (vs : List Va) (w : World) : Prop where
  below : Below w0.heap.size w0 w
  hrb : w0.heap.size ≤ rb
  hlb : w0.heap.size ≤ lb
  ne1 : g ≠ rb
  ne2 : g ≠ lb
  ne3 : rb ≠ lb
  bg : w.heap[g]? = some (.cells (exC e A c) 26 (0, 0))
  br : w.heap[rb]? = some (.cells (vaC zeroV) 23 (0, 0))
  bl : w.heap[lb]? = some (.cells (two6 (vs.getD 0 zeroV) (vs.getD 1 zeroV)) 73 (0, 0))
  got : evalL (e.f6.take k) rows ps = .ok vs
  le : vs.length = k
theorem VInv.later {w0 w w' : World} {g rb lb : Nat} {e : Ex} {A : Option Addr} {c : Nat} {rows : List (List Va)} {ps : List Va} {k : Nat} {vs : List Va} (h : VInv w0 g rb lb e A c rows ps k vs w) (hb : Below w.heap.size w w') : VInv w0 g rb lb e A c rows ps k vs w' :=
  ⟨h.below.trans (hb.mono h.below.size), h.hrb, h.hlb, h.ne1, h.ne2, h.ne3, (hb.block g (blk_lt h.bg)).trans h.bg, (hb.block rb (blk_lt h.br)).trans h.br, (hb.block lb (blk_lt h.bl)).trans h.bl, h.got, h.le⟩
theorem VInv.far {w0 w : World} {g rb lb : Nat} {e : Ex} {A : Option Addr} {c : Nat} {rows : List (List Va)} {ps : List Va} {k : Nat} {vs : List Va} (h : VInv w0 g rb lb e A c rows ps k vs w) {vb : Nat} (h1 : g ≠ vb) (h2 : rb ≠ vb) (h3 : lb ≠ vb) (h4 : w0.heap.size ≤ vb) (v : Va) : VInv w0 g rb lb e A c rows ps k vs (((w.setCell ⟨vb, 0, none⟩ (.int .i64 v.f0)).setCell ⟨vb, 1, none⟩ (.int .i64 v.f1)).setCell ⟨vb, 2, none⟩ (.string v.f2)) :=
  ⟨va_below h.below h4 v, h.hrb, h.hlb, h.ne1, h.ne2, h.ne3, va_far h.bg h1 v, va_far h.br h2 v, va_far h.bl h3 v, h.got, h.le⟩
theorem VInv.put0 {w0 w : World} {g rb lb : Nat} {e : Ex} {A : Option Addr} {c : Nat} {rows : List (List Va)} {ps : List Va} {vs : List Va} (h : VInv w0 g rb lb e A c rows ps 0 vs w) (v : Va) (hg : evalL (e.f6.take 1) rows ps = .ok (vs ++ [v])) :
    VInv w0 g rb lb e A c rows ps 1 (vs ++ [v]) (((w.setCell ⟨lb, 0, none⟩ (.int .i64 v.f0)).setCell ⟨lb, 1, none⟩ (.int .i64 v.f1)).setCell ⟨lb, 2, none⟩ (.string v.f2)) := by
  have h0 : vs = [] := List.eq_nil_of_length_eq_zero h.le
  subst h0
  exact ⟨va_below h.below h.hlb v, h.hrb, h.hlb, h.ne1, h.ne2, h.ne3, va_far h.bg h.ne2 v, va_far h.br h.ne3 v, blk_set (blk_set (blk_set h.bl 0 _) 1 _) 2 _, hg, rfl⟩
theorem VInv.put1 {w0 w : World} {g rb lb : Nat} {e : Ex} {A : Option Addr} {c : Nat} {rows : List (List Va)} {ps : List Va} {vs : List Va} (h : VInv w0 g rb lb e A c rows ps 1 vs w) (v : Va) (hg : evalL (e.f6.take 2) rows ps = .ok (vs ++ [v])) :
    VInv w0 g rb lb e A c rows ps 2 (vs ++ [v]) (((w.setCell ⟨lb, 3, none⟩ (.int .i64 v.f0)).setCell ⟨lb, 4, none⟩ (.int .i64 v.f1)).setCell ⟨lb, 5, none⟩ (.string v.f2)) := by
  obtain ⟨u, rfl⟩ : ∃ u, vs = [u] := List.length_eq_one_iff.1 h.le
  exact ⟨((h.below.setCell (p := ⟨lb, 3, none⟩) h.hlb _).setCell (p := ⟨lb, 4, none⟩) h.hlb _).setCell (p := ⟨lb, 5, none⟩) h.hlb _, h.hrb, h.hlb, h.ne1, h.ne2, h.ne3,
    (Below.heap_setCell _ ⟨lb, 5, none⟩ _ g h.ne2).trans ((Below.heap_setCell _ ⟨lb, 4, none⟩ _ g h.ne2).trans ((Below.heap_setCell _ ⟨lb, 3, none⟩ _ g h.ne2).trans h.bg)),
    (Below.heap_setCell _ ⟨lb, 5, none⟩ _ rb h.ne3).trans ((Below.heap_setCell _ ⟨lb, 4, none⟩ _ rb h.ne3).trans ((Below.heap_setCell _ ⟨lb, 3, none⟩ _ rb h.ne3).trans h.br)),
    blk_set (blk_set (blk_set h.bl 3 _) 4 _) 5 _, hg, rfl⟩
set_option maxHeartbeats 4000000 in
set_option maxRecDepth 100000 in
theorem eval_step (e : Ex) (ih : ∀ x ∈ e.f6, EvalOk x) : EvalOk e := by
  intro A A1 A2 c c1 c2 rows ps w hRt hC hc hC1 hc1 hC2 hc2
  have IH := Lib.hid ih; have HC := Lib.hid hC; have HC1 := Lib.hid hC1; have HC2 := Lib.hid hC2; have HRT := Lib.hid hRt
  clear ih hC hC1 hC2 hRt
  obtain ⟨q, hq⟩ : ∃ q, evalF e rows ps = q := ⟨_, rfl⟩
  rw [hq]
  rw [evalF_eq] at hq
  have HQ := Lib.hid hq.symm; clear hq
  unfold exC
  go_enter Tryz.func16, Tryz.ntmps16
  go_upto_region 1 with (first | ((with_reducible refine gate_dst (N := 3) rfl ?_); refine box_event rfl (N := 3) rfl (cs := exC e A c) (t := 26) (by first | rfl | (go_simp; done) | (go_simp; rfl)) ?_; intro g hgg w1 hbg hBg;  clear hgg) | ((with_reducible refine gate_dst (N := 6) rfl ?_); refine box_event rfl (N := 6) rfl (cs := vaC zeroV) (t := 23) (by first | rfl | (go_simp; done) | (go_simp; rfl)) ?_; intro rb hgg w2 hbrb hBrb;  have hrb : w.heap.size ≤ rb := (by have := hBg.size; omega); have hgr : g ≠ rb := (by have := blk_lt hbg; omega); clear hgg))
  have hg2 := (hBrb.block g (blk_lt hbg)).trans hbg
  have HB := Lib.hid (hBg.trans (hBrb.mono hBg.size))
  clear hbg hBg hBrb
  obtain ⟨hz0, hz1, hz2, hz3, hz4, hz5, hz6, hz7, hz8⟩ := bkC9 hg2
  by_cases h1 : e.f0 = 1
  · have HQ2 : Hid (q = (e.f1, 0)) := by have := HQ.out; rw [if_pos h1] at this; exact this
    obtain ⟨hr0, hr1, hr2⟩ := bkC3 hbrb; have hf0 := bkF hbrb 0; have hf1 := bkF hbrb 1; have hf2 := bkF hbrb 2
    replace h1 : (e.f0 == 1) = true := beq_iff_eq.mpr h1
    go_wp2_with fail
    refine bodyPost_ret (results_ct rfl _ _ rb 23 (vaC e.f1) (0, 0) _ rfl ?blk Tryz.underlying23 rfl info_va) rfl ?_; (case blk => exact va_put hbrb e.f1); exact ⟨by rw [HQ2.out]; rfl, by (repeat refine below_drewN' ?_); exact va_below HB.out hrb e.f1⟩
  · by_cases h23 : e.f0 = 2 ∨ e.f0 = 3
    · have HQ2 : Hid (q = ((atG zeroV e rows ps).1, 0)) := by have := HQ.out; rw [if_neg h1, if_pos h23] at this; exact this
      have HAT := Lib.hid (atV_ok e A A1 A2 c c1 c2 rows ps w2 HRT.out (Kd.C_below HC1.out HB.out) (Kd.C_below HC2.out HB.out))
      obtain ⟨p, hp⟩ : ∃ p, atG zeroV e rows ps = p := ⟨_, rfl⟩
      rw [hp] at HAT HQ2
      clear hp
      obtain ⟨v, p2⟩ := p
      unfold exC at HAT
      replace h1 : (e.f0 == 1) = false := beq_eq_false_iff_ne.mpr h1
      have h24 : (e.f0 == 2) = true ∨ ((e.f0 == 2) = false ∧ (e.f0 == 3) = true) := by
        by_cases h2 : e.f0 = 2
        · exact .inl (beq_iff_eq.mpr h2)
        · exact .inr ⟨beq_eq_false_iff_ne.mpr h2, beq_iff_eq.mpr (h23.resolve_left h2)⟩
      clear h23
      replace HAT : Hid (Calls Tryz.prog 14 #[.agg #[.int .i64 e.f0, .int .i64 e.f1.f0, .int .i64 e.f1.f1, .string e.f1.f2, .int .i64 e.f2, .int .i64 e.f3, .int .i64 e.f4, .string e.f5, .slice A e.f6.length c], .slice A1 rows.length c1, .slice A2 ps.length c2] w2 fun r w' => r = .returned (.tuple #[.agg #[.int .i64 v.f0, .int .i64 v.f1, .string v.f2], .bool p2]) ∧ Below w2.heap.size w2 w') := HAT
      rcases h24 with h2 | ⟨h2, h3⟩
      all_goals
        go_upto_region 7 with (first | (go_at_call 14; refine HAT.out.mono ?_; rintro r w3 ⟨rfl, hB3⟩; have hr3 := (hB3.block rb (blk_lt hbrb)).trans hbrb; have HB3 := Lib.hid (HB.out.trans (hB3.mono HB.out.size))) | ((with_reducible refine gate_dst (N := 8) rfl ?_); refine box_event rfl (N := 8) rfl (cs := vaC zeroV) (t := 23) (by first | rfl | (go_simp; done) | (go_simp; rfl)) ?_; intro vb hgg w4 hbvb hBvb;  have hvb : w.heap.size ≤ vb := (by have := HB3.out.size; omega); have hrv : rb ≠ vb := (by have := blk_lt hr3; omega); obtain ⟨hc0, hc1, hc2⟩ := bkC3 hbvb; have hf0 := bkF hbvb 0; have hf1 := bkF hbvb 1; have hf2 := bkF hbvb 2; clear hgg))
        have hv5 := va_put hbvb v
        have HB5 := Lib.hid (va_below (HB3.out.trans (hBvb.mono HB3.out.size)) hvb v)
        have hr5 := va_far ((hBvb.block rb (blk_lt hr3)).trans hr3) hrv v
        clear hc0 hc1 hc2 hf0 hf1 hf2 hbvb hBvb HB3 hr3 hB3 hz0 hz1 hz2 hz3 hz4 hz5 hz6 hz7 hz8
        generalize ((w4.setCell ⟨vb, 0, none⟩ (.int .i64 v.f0)).setCell ⟨vb, 1, none⟩ (.int .i64 v.f1)).setCell ⟨vb, 2, none⟩ (.string v.f2) = w5 at hv5 HB5 hr5 ⊢
        obtain ⟨hr0, hr1, hr2⟩ := bkC3 hr5; have hf0 := bkF hr5 0; have hf1 := bkF hr5 1; have hf2 := bkF hr5 2
        have hc0 : w5.cell? ⟨vb, 0, none⟩ = some (.int .i64 v.f0) := ((bkC hv5 0).trans rfl)
        have hc1 : w5.cell? ⟨vb, 1, none⟩ = some (.int .i64 v.f1) := ((bkC hv5 1).trans rfl)
        have hc2 : w5.cell? ⟨vb, 2, none⟩ = some (.string v.f2) := ((bkC hv5 2).trans rfl)
        go_wp2_with fail
        refine bodyPost_ret (results_ct rfl _ _ rb 23 (vaC v) (0, 0) _ rfl ?blk Tryz.underlying23 rfl info_va) rfl ?_; (case blk => exact va_put hr5 v); exact ⟨by rw [HQ2.out]; rfl, by (repeat refine below_drewN' ?_); exact va_below HB5.out hrb v⟩
    · have HQ2 : Hid (q = opL e.f0 (evalL e.f6 rows ps)) := by have := HQ.out; rw [if_neg h1, if_neg h23] at this; exact this
      have h2 : (e.f0 == 2) = false := beq_eq_false_iff_ne.mpr fun h => h23 (.inl h)
      have h3 : (e.f0 == 3) = false := beq_eq_false_iff_ne.mpr fun h => h23 (.inr h)
      replace h1 : (e.f0 == 1) = false := beq_eq_false_iff_ne.mpr h1
      clear h23
      go_upto_region 9 with (first | ((with_reducible refine gate_dst (N := 10) rfl ?_); refine box_event rfl (N := 10) rfl (cs := two6 zeroV zeroV) (t := 73) (by first | rfl | (go_simp; done) | (go_simp; rfl)) ?_; intro lb hgg w3 hblb hBlb;  have hlb : w.heap.size ≤ lb := (by have := HB.out.size; omega); have hgl : g ≠ lb := (by have := blk_lt hg2; omega); have hrl : rb ≠ lb := (by have := blk_lt hbrb; omega); clear hgg))
      have hK0 : VInv w g rb lb e A c rows ps 0 [] w3 := ⟨HB.out.trans (hBlb.mono HB.out.size), hrb, hlb, hgr, hgl, hrl, (hBlb.block g (blk_lt hg2)).trans hg2, (hBlb.block rb (blk_lt hbrb)).trans hbrb, hblb, by simp [evalL], rfl⟩
      clear hz0 hz1 hz2 hz3 hz4 hz5 hz6 hz7 hz8 hbrb hblb hBlb hg2 HB
      have HK0 := Lib.hid hK0; clear hK0
      obtain ⟨hz0, hz1, hz2, hz3, hz4, hz5, hz6, hz7, hz8⟩ := bkC9 HK0.out.bg
      have HLN : Hid (e.f6.length ≤ 2) := HRT.out.len
      obtain ⟨n, hn⟩ : ∃ n, e.f6.length = n := ⟨_, rfl⟩
      have HN := Lib.hid hn
      have hn2 : n ≤ 2 := by have h : e.f6.length ≤ 2 := HLN.out; omega
      go_wp2_with fail
      go_loopw [36] (fun v36 wr => ∃ (k : Nat) (vs : List Va), k ≤ n ∧ v36 = .int .i64 k ∧ Hid (VInv w g rb lb e A c rows ps k vs wr)) (fun i _ => n - (intOf i).toNat)
      case atStart => exact ⟨0, _, Nat.zero_le _, rfl, HK0⟩
      case round =>
        obtain ⟨k, vs, hk, rfl, HK⟩ := hrel
        clear hz0 hz1 hz2 hz3 hz4 hz5 hz6 hz7 hz8
        by_cases hlt : k < n
        · have hlt' : (k : Int) < n := by omega
          rw [hn] at HC
          obtain ⟨ad, A8, c8, x, rfl, HE, h0, h1, h2, h3, h4, h5, h6, h7, h8, hc8, hC8⟩ := at_ex HC.out hn k hlt
          replace HE := Lib.hid HE
          have HC8 := Lib.hid hC8; clear hC8
          replace h0 := pw_cell_below HK.out.below h0; replace h1 := pw_cell_below HK.out.below h1; replace h2 := pw_cell_below HK.out.below h2; replace h3 := pw_cell_below HK.out.below h3; replace h4 := pw_cell_below HK.out.below h4; replace h5 := pw_cell_below HK.out.below h5; replace h6 := pw_cell_below HK.out.below h6; replace h7 := pw_cell_below HK.out.below h7; replace h8 := pw_cell_below HK.out.below h8
          have hx : x ∈ e.f6 := by have h := HE.out; rw [List.getElem?_eq_some_iff] at h; obtain ⟨h, h'⟩ := h; exact h' ▸ List.getElem_mem h
          have HT : Hid (evalL (e.f6.take (k + 1)) rows ps = if (evalF x rows ps).2 = 0 then .ok (vs ++ [(evalF x rows ps).1]) else .error (evalF x rows ps).2) := by
            have h := HE.out; rw [List.getElem?_eq_some_iff] at h; obtain ⟨h, h'⟩ := h
            rw [List.take_succ_eq_append_getElem h, evalL_snoc _ _ _ _ _ HK.out.got, h']; exact Lib.hid rfl
          have HRX := Lib.hid (HRT.out.kid hx)
          have IHX := Lib.hid (IH.out x hx)
          clear hx HE
          go_upto_region 12 with (first | ((with_reducible refine gate_dst (N := 12) rfl ?_); refine box_event rfl (N := 12) rfl (cs := zerosE) (t := 26) (by first | rfl | (go_simp; done) | (go_simp; rfl)) ?_; intro xb hgg w4 hbxb hBxb;  have hxr : wr.heap.size ≤ xb := (by omega); clear hgg) | ((with_reducible refine gate_store (p := 12) (v := .tmp 40) rfl ?_); refine wpList_store_row rfl 26 (.tmp 12) (.tmp 40) rfl xb (exC x A8 c8) rfl rfl 26 zerosE hbxb (info_ex _ _ _) rfl (one_ex _ _ _) ?_))
          clear h0 h1 h2 h3 h4 h5 h6 h7 h8
          have hx4 := setRow_at w4 xb _ zerosE (exC x A8 c8) hbxb
          have hB4 : Below wr.heap.size wr (w4.setRow xb (exC x A8 c8)) := below_setRow' hBxb hxr _
          generalize w4.setRow xb (exC x A8 c8) = w5 at hx4 hB4 ⊢
          have HK4 := Lib.hid (HK.out.later hB4)
          obtain ⟨hz0, hz1, hz2, hz3, hz4, hz5, hz6, hz7, hz8⟩ := bkC9 hx4
          have HCALL := Lib.hid (IHX.out A8 A1 A2 c8 c1 c2 rows ps w5 HRX.out (Kd.C_below HC8.out HK4.out.below) hc8 (Kd.C_below HC1.out HK4.out.below) hc1 (Kd.C_below HC2.out HK4.out.below) hc2)
          obtain ⟨p, hp⟩ : ∃ p, evalF x rows ps = p := ⟨_, rfl⟩
          rw [hp] at HCALL HT
          clear hp
          obtain ⟨v, err⟩ := p
          replace HCALL : Hid (Calls Tryz.prog 16 #[.agg #[.int .i64 x.f0, .int .i64 x.f1.f0, .int .i64 x.f1.f1, .string x.f1.f2, .int .i64 x.f2, .int .i64 x.f3, .int .i64 x.f4, .string x.f5, .slice A8 x.f6.length c8], .slice A1 rows.length c1, .slice A2 ps.length c2] w5 fun r w' => r = .returned (.tuple #[.agg #[.int .i64 v.f0, .int .i64 v.f1, .string v.f2], .int .i64 err]) ∧ Below w5.heap.size w5 w') := HCALL
          clear hbxb hBxb HK hx4 hB4
          go_upto_region 13 with (first | (go_at_call 16; refine HCALL.out.mono ?_; rintro r w6 ⟨rfl, hB6⟩; have HK6 := Lib.hid (HK4.out.later hB6)) | ((with_reducible refine gate_dst (N := 13) rfl ?_); refine box_event rfl (N := 13) rfl (cs := vaC zeroV) (t := 23) (by first | rfl | (go_simp; done) | (go_simp; rfl)) ?_; intro vb hgg w7 hbvb hBvb;  have hvg : g ≠ vb := (by have := blk_lt HK6.out.bg; omega); have hvr : rb ≠ vb := (by have := blk_lt HK6.out.br; omega); have hvl : lb ≠ vb := (by have := blk_lt HK6.out.bl; omega); have hvw : w.heap.size ≤ vb := (by have := HK6.out.below.size; omega); obtain ⟨hd0, hd1, hd2⟩ := bkC3 hbvb; have he0 := bkF hbvb 0; have he1 := bkF hbvb 1; have he2 := bkF hbvb 2; clear hgg))
          have hv8 := va_put hbvb v
          have HK8 := Lib.hid ((HK6.out.later hBvb).far hvg hvr hvl hvw v)
          clear hd0 hd1 hd2 he0 he1 he2 hbvb hBvb HK6 HK4 HCALL hB6 hz0 hz1 hz2 hz3 hz4 hz5 hz6 hz7 hz8
          generalize ((w7.setCell ⟨vb, 0, none⟩ (.int .i64 v.f0)).setCell ⟨vb, 1, none⟩ (.int .i64 v.f1)).setCell ⟨vb, 2, none⟩ (.string v.f2) = w8 at hv8 HK8 ⊢
          by_cases herr : err = 0
          · have HT2 : Hid (evalL (e.f6.take (k + 1)) rows ps = .ok (vs ++ [v])) := by have h := HT.out; rw [if_pos herr] at h; exact Lib.hid h
            replace herr : (err != 0) = false := bne_eq_false_iff_eq.mpr herr
            have hd0 : w8.cell? ⟨vb, 0, none⟩ = some (.int .i64 v.f0) := ((bkC hv8 0).trans rfl)
            have hd1 : w8.cell? ⟨vb, 1, none⟩ = some (.int .i64 v.f1) := ((bkC hv8 1).trans rfl)
            have hd2 : w8.cell? ⟨vb, 2, none⟩ = some (.string v.f2) := ((bkC hv8 2).trans rfl)
            obtain rfl | rfl : k = 0 ∨ k = 1 := by omega
            · have hl0 : w8.cell? ⟨lb, 0, none⟩ = some _ := ((bkC HK8.out.bl 0).trans rfl)
              have hl1 : w8.cell? ⟨lb, 1, none⟩ = some _ := ((bkC HK8.out.bl 1).trans rfl)
              have hl2 : w8.cell? ⟨lb, 2, none⟩ = some _ := ((bkC HK8.out.bl 2).trans rfl)
              have hf0 := bkF HK8.out.bl 0
              have hf1 := bkF HK8.out.bl 1
              have hf2 := bkF HK8.out.bl 2
              go_wp2_with fail
              exact ⟨⟨1, vs ++ [v], by omega, rfl, Lib.hid (HK8.out.put0 v HT2.out)⟩, by simp [intOf]; omega⟩
            · have hl0 : w8.cell? ⟨lb, 3, none⟩ = some _ := ((bkC HK8.out.bl 3).trans rfl)
              have hl1 : w8.cell? ⟨lb, 4, none⟩ = some _ := ((bkC HK8.out.bl 4).trans rfl)
              have hl2 : w8.cell? ⟨lb, 5, none⟩ = some _ := ((bkC HK8.out.bl 5).trans rfl)
              have hf0 := bkF HK8.out.bl 3
              have hf1 := bkF HK8.out.bl 4
              have hf2 := bkF HK8.out.bl 5
              go_wp2_with fail
              exact ⟨⟨2, vs ++ [v], by omega, rfl, Lib.hid (HK8.out.put1 v HT2.out)⟩, by simp [intOf]; omega⟩
          · have HT2 : Hid (q = (zeroV, err)) := by
              have h := HT.out
              rw [if_neg herr] at h
              have h' := evalL_err _ _ _ _ _ h
              have h2 := HQ2.out
              rw [h'] at h2; exact Lib.hid h2
            have HQ2 := HT2
            replace herr : (err != 0) = true := bne_iff_ne.mpr herr
            obtain ⟨hr0, hr1, hr2⟩ := bkC3 HK8.out.br; have hf0 := bkF HK8.out.br 0; have hf1 := bkF HK8.out.br 1; have hf2 := bkF HK8.out.br 2
            go_wp2_with fail
            refine bodyPost_ret (results_ct rfl _ _ rb 23 (vaC zeroV) (0, 0) _ rfl ?blk Tryz.underlying23 rfl info_va) rfl ?_; (case blk => exact va_put HK8.out.br zeroV); exact ⟨by rw [HQ2.out]; rfl, by (repeat refine below_drewN' ?_); exact va_below HK8.out.below hrb zeroV⟩
        · have hlt' : ¬ (k : Int) < n := by omega
          obtain rfl : n = k := by omega
          have HQ3 : Hid (q = opV e.f0 (vs.getD 0 zeroV) (vs.getD 1 zeroV)) := by
            have h := HQ2.out
            have h' := HK.out.got
            rw [← HN.out, List.take_length] at h'
            rw [h'] at h; exact Lib.hid h
          have hl0 := ((bkC HK.out.bl 0).trans rfl : wr.cell? ⟨lb, 0, none⟩ = some (.int .i64 (vs.getD 0 zeroV).f0))
          have hl1 := ((bkC HK.out.bl 1).trans rfl : wr.cell? ⟨lb, 1, none⟩ = some (.int .i64 (vs.getD 0 zeroV).f1))
          have hl2 := ((bkC HK.out.bl 2).trans rfl : wr.cell? ⟨lb, 2, none⟩ = some (.string (vs.getD 0 zeroV).f2))
          have hl3 := ((bkC HK.out.bl 3).trans rfl : wr.cell? ⟨lb, 3, none⟩ = some (.int .i64 (vs.getD 1 zeroV).f0))
          have hl4 := ((bkC HK.out.bl 4).trans rfl : wr.cell? ⟨lb, 4, none⟩ = some (.int .i64 (vs.getD 1 zeroV).f1))
          have hl5 := ((bkC HK.out.bl 5).trans rfl : wr.cell? ⟨lb, 5, none⟩ = some (.string (vs.getD 1 zeroV).f2))
          obtain ⟨a, ha⟩ : ∃ a, vs.getD 0 zeroV = a := ⟨_, rfl⟩
          obtain ⟨b, hb⟩ : ∃ b, vs.getD 1 zeroV = b := ⟨_, rfl⟩
          rw [ha] at HQ3 hl0 hl1 hl2
          rw [hb] at HQ3 hl3 hl4 hl5
          have ha := Lib.hid ha
          clear hb HQ HQ2
          obtain ⟨hz0, hz1, hz2, hz3, hz4, hz5, hz6, hz7, hz8⟩ := bkC9 HK.out.bg
          by_cases hm : e.f0 = 4
          · have t4 : (e.f0 == 4) = true := (by simp [hm]); have t5 : (e.f0 == 5) = false := (by simp [hm]); have t6 : (e.f0 == 6) = false := (by simp [hm]); have t7 : (e.f0 == 7) = false := (by simp [hm]); have t8 : (e.f0 == 8) = false := (by simp [hm]); have t15 : (e.f0 == 15) = false := (by simp [hm]); have t16 : (e.f0 == 16) = false := (by simp [hm]); have t17 : (e.f0 == 17) = false := (by simp [hm]); have t18 : (e.f0 == 18) = false := (by simp [hm])
            have HQ4 : Hid (q = addV a b) := by have h := HQ3.out; rw [hm] at h; exact Lib.hid h
            obtain ⟨p, hp⟩ : ∃ p, addV a b = p := ⟨_, rfl⟩
            have HOP := Lib.hid (add_ok a b wr)
            rw [hp] at HOP HQ4
            clear hp hm
            obtain ⟨v, p2⟩ := p
            replace HOP : Hid (Calls Tryz.prog 36 #[.agg #[.int .i64 a.f0, .int .i64 a.f1, .string a.f2], .agg #[.int .i64 b.f0, .int .i64 b.f1, .string b.f2]] wr fun r w' => r = .returned (.tuple #[.agg #[.int .i64 v.f0, .int .i64 v.f1, .string v.f2], .int .i64 p2]) ∧ Below wr.heap.size wr w') := HOP
            have HQ2 := HQ4
            go_wp2_with (go_at_call 36; refine HOP.out.mono ?_; rintro r w9 ⟨rfl, hB9⟩; have HK9 := Lib.hid (HK.out.later hB9); obtain ⟨hr0, hr1, hr2⟩ := bkC3 HK9.out.br; have hf0 := bkF HK9.out.br 0; have hf1 := bkF HK9.out.br 1; have hf2 := bkF HK9.out.br 2)
            refine bodyPost_ret (results_ct rfl _ _ rb 23 (vaC v) (0, 0) _ rfl ?blk Tryz.underlying23 rfl info_va) rfl ?_; (case blk => exact va_put HK9.out.br v); exact ⟨by rw [HQ2.out]; rfl, by (repeat refine below_drewN' ?_); exact va_below HK9.out.below hrb v⟩
          ·
            by_cases hm : e.f0 = 5
            · have t4 : (e.f0 == 4) = false := (by simp [hm]); have t5 : (e.f0 == 5) = true := (by simp [hm]); have t6 : (e.f0 == 6) = false := (by simp [hm]); have t7 : (e.f0 == 7) = false := (by simp [hm]); have t8 : (e.f0 == 8) = false := (by simp [hm]); have t15 : (e.f0 == 15) = false := (by simp [hm]); have t16 : (e.f0 == 16) = false := (by simp [hm]); have t17 : (e.f0 == 17) = false := (by simp [hm]); have t18 : (e.f0 == 18) = false := (by simp [hm])
              have HQ4 : Hid (q = subV a b) := by have h := HQ3.out; rw [hm] at h; exact Lib.hid h
              obtain ⟨p, hp⟩ : ∃ p, subV a b = p := ⟨_, rfl⟩
              have HOP := Lib.hid (sub_ok a b wr)
              rw [hp] at HOP HQ4
              clear hp hm
              obtain ⟨v, p2⟩ := p
              replace HOP : Hid (Calls Tryz.prog 37 #[.agg #[.int .i64 a.f0, .int .i64 a.f1, .string a.f2], .agg #[.int .i64 b.f0, .int .i64 b.f1, .string b.f2]] wr fun r w' => r = .returned (.tuple #[.agg #[.int .i64 v.f0, .int .i64 v.f1, .string v.f2], .int .i64 p2]) ∧ Below wr.heap.size wr w') := HOP
              have HQ2 := HQ4
              go_wp2_with (go_at_call 37; refine HOP.out.mono ?_; rintro r w9 ⟨rfl, hB9⟩; have HK9 := Lib.hid (HK.out.later hB9); obtain ⟨hr0, hr1, hr2⟩ := bkC3 HK9.out.br; have hf0 := bkF HK9.out.br 0; have hf1 := bkF HK9.out.br 1; have hf2 := bkF HK9.out.br 2)
              refine bodyPost_ret (results_ct rfl _ _ rb 23 (vaC v) (0, 0) _ rfl ?blk Tryz.underlying23 rfl info_va) rfl ?_; (case blk => exact va_put HK9.out.br v); exact ⟨by rw [HQ2.out]; rfl, by (repeat refine below_drewN' ?_); exact va_below HK9.out.below hrb v⟩
            ·
              by_cases hm : e.f0 = 6
              · have t4 : (e.f0 == 4) = false := (by simp [hm]); have t5 : (e.f0 == 5) = false := (by simp [hm]); have t6 : (e.f0 == 6) = true := (by simp [hm]); have t7 : (e.f0 == 7) = false := (by simp [hm]); have t8 : (e.f0 == 8) = false := (by simp [hm]); have t15 : (e.f0 == 15) = false := (by simp [hm]); have t16 : (e.f0 == 16) = false := (by simp [hm]); have t17 : (e.f0 == 17) = false := (by simp [hm]); have t18 : (e.f0 == 18) = false := (by simp [hm])
                have HQ4 : Hid (q = mulV a b) := by have h := HQ3.out; rw [hm] at h; exact Lib.hid h
                obtain ⟨p, hp⟩ : ∃ p, mulV a b = p := ⟨_, rfl⟩
                have HOP := Lib.hid (mul_ok' a b wr)
                rw [hp] at HOP HQ4
                clear hp hm
                obtain ⟨v, p2⟩ := p
                replace HOP : Hid (Calls Tryz.prog 38 #[.agg #[.int .i64 a.f0, .int .i64 a.f1, .string a.f2], .agg #[.int .i64 b.f0, .int .i64 b.f1, .string b.f2]] wr fun r w' => r = .returned (.tuple #[.agg #[.int .i64 v.f0, .int .i64 v.f1, .string v.f2], .int .i64 p2]) ∧ Below wr.heap.size wr w') := HOP
                have HQ2 := HQ4
                go_wp2_with (go_at_call 38; refine HOP.out.mono ?_; rintro r w9 ⟨rfl, hB9⟩; have HK9 := Lib.hid (HK.out.later hB9); obtain ⟨hr0, hr1, hr2⟩ := bkC3 HK9.out.br; have hf0 := bkF HK9.out.br 0; have hf1 := bkF HK9.out.br 1; have hf2 := bkF HK9.out.br 2)
                refine bodyPost_ret (results_ct rfl _ _ rb 23 (vaC v) (0, 0) _ rfl ?blk Tryz.underlying23 rfl info_va) rfl ?_; (case blk => exact va_put HK9.out.br v); exact ⟨by rw [HQ2.out]; rfl, by (repeat refine below_drewN' ?_); exact va_below HK9.out.below hrb v⟩
              ·
                by_cases hm : e.f0 = 7
                · have t4 : (e.f0 == 4) = false := (by simp [hm]); have t5 : (e.f0 == 5) = false := (by simp [hm]); have t6 : (e.f0 == 6) = false := (by simp [hm]); have t7 : (e.f0 == 7) = true := (by simp [hm]); have t8 : (e.f0 == 8) = false := (by simp [hm]); have t15 : (e.f0 == 15) = false := (by simp [hm]); have t16 : (e.f0 == 16) = false := (by simp [hm]); have t17 : (e.f0 == 17) = false := (by simp [hm]); have t18 : (e.f0 == 18) = false := (by simp [hm])
                  have HQ4 : Hid (q = divV a b) := by have h := HQ3.out; rw [hm] at h; exact Lib.hid h
                  obtain ⟨p, hp⟩ : ∃ p, divV a b = p := ⟨_, rfl⟩
                  have HOP := Lib.hid (div_ok a b wr)
                  rw [hp] at HOP HQ4
                  clear hp hm
                  obtain ⟨v, p2⟩ := p
                  replace HOP : Hid (Calls Tryz.prog 39 #[.agg #[.int .i64 a.f0, .int .i64 a.f1, .string a.f2], .agg #[.int .i64 b.f0, .int .i64 b.f1, .string b.f2]] wr fun r w' => r = .returned (.tuple #[.agg #[.int .i64 v.f0, .int .i64 v.f1, .string v.f2], .int .i64 p2]) ∧ Below wr.heap.size wr w') := HOP
                  have HQ2 := HQ4
                  go_wp2_with (go_at_call 39; refine HOP.out.mono ?_; rintro r w9 ⟨rfl, hB9⟩; have HK9 := Lib.hid (HK.out.later hB9); obtain ⟨hr0, hr1, hr2⟩ := bkC3 HK9.out.br; have hf0 := bkF HK9.out.br 0; have hf1 := bkF HK9.out.br 1; have hf2 := bkF HK9.out.br 2)
                  refine bodyPost_ret (results_ct rfl _ _ rb 23 (vaC v) (0, 0) _ rfl ?blk Tryz.underlying23 rfl info_va) rfl ?_; (case blk => exact va_put HK9.out.br v); exact ⟨by rw [HQ2.out]; rfl, by (repeat refine below_drewN' ?_); exact va_below HK9.out.below hrb v⟩
                ·
                  by_cases hm : e.f0 = 8
                  · have t4 : (e.f0 == 4) = false := (by simp [hm]); have t5 : (e.f0 == 5) = false := (by simp [hm]); have t6 : (e.f0 == 6) = false := (by simp [hm]); have t7 : (e.f0 == 7) = false := (by simp [hm]); have t8 : (e.f0 == 8) = true := (by simp [hm]); have t15 : (e.f0 == 15) = false := (by simp [hm]); have t16 : (e.f0 == 16) = false := (by simp [hm]); have t17 : (e.f0 == 17) = false := (by simp [hm]); have t18 : (e.f0 == 18) = false := (by simp [hm])
                    have HQ4 : Hid (q = negV a) := by have h := HQ3.out; rw [hm] at h; exact Lib.hid h
                    obtain ⟨p, hp⟩ : ∃ p, negV a = p := ⟨_, rfl⟩
                    have HOP := Lib.hid (neg_ok a wr)
                    rw [hp] at HOP HQ4
                    clear hp hm
                    obtain ⟨v, p2⟩ := p
                    replace HOP : Hid (Calls Tryz.prog 40 #[.agg #[.int .i64 a.f0, .int .i64 a.f1, .string a.f2]] wr fun r w' => r = .returned (.tuple #[.agg #[.int .i64 v.f0, .int .i64 v.f1, .string v.f2], .int .i64 p2]) ∧ Below wr.heap.size wr w') := HOP
                    have HQ2 := HQ4
                    go_wp2_with (go_at_call 40; refine HOP.out.mono ?_; rintro r w9 ⟨rfl, hB9⟩; have HK9 := Lib.hid (HK.out.later hB9); obtain ⟨hr0, hr1, hr2⟩ := bkC3 HK9.out.br; have hf0 := bkF HK9.out.br 0; have hf1 := bkF HK9.out.br 1; have hf2 := bkF HK9.out.br 2)
                    refine bodyPost_ret (results_ct rfl _ _ rb 23 (vaC v) (0, 0) _ rfl ?blk Tryz.underlying23 rfl info_va) rfl ?_; (case blk => exact va_put HK9.out.br v); exact ⟨by rw [HQ2.out]; rfl, by (repeat refine below_drewN' ?_); exact va_below HK9.out.below hrb v⟩
                  ·
                    by_cases hm : e.f0 = 15
                    · have t4 : (e.f0 == 4) = false := (by simp [hm]); have t5 : (e.f0 == 5) = false := (by simp [hm]); have t6 : (e.f0 == 6) = false := (by simp [hm]); have t7 : (e.f0 == 7) = false := (by simp [hm]); have t8 : (e.f0 == 8) = false := (by simp [hm]); have t15 : (e.f0 == 15) = true := (by simp [hm]); have t16 : (e.f0 == 16) = false := (by simp [hm]); have t17 : (e.f0 == 17) = false := (by simp [hm]); have t18 : (e.f0 == 18) = false := (by simp [hm])
                      have HQ4 : Hid (q = andV a b) := by have h := HQ3.out; rw [hm] at h; exact Lib.hid h
                      obtain ⟨p, hp⟩ : ∃ p, andV a b = p := ⟨_, rfl⟩
                      have HOP := Lib.hid (and_ok a b wr)
                      rw [hp] at HOP HQ4
                      clear hp hm
                      obtain ⟨v, p2⟩ := p
                      replace HOP : Hid (Calls Tryz.prog 41 #[.agg #[.int .i64 a.f0, .int .i64 a.f1, .string a.f2], .agg #[.int .i64 b.f0, .int .i64 b.f1, .string b.f2]] wr fun r w' => r = .returned (.tuple #[.agg #[.int .i64 v.f0, .int .i64 v.f1, .string v.f2], .int .i64 p2]) ∧ Below wr.heap.size wr w') := HOP
                      have HQ2 := HQ4
                      go_wp2_with (go_at_call 41; refine HOP.out.mono ?_; rintro r w9 ⟨rfl, hB9⟩; have HK9 := Lib.hid (HK.out.later hB9); obtain ⟨hr0, hr1, hr2⟩ := bkC3 HK9.out.br; have hf0 := bkF HK9.out.br 0; have hf1 := bkF HK9.out.br 1; have hf2 := bkF HK9.out.br 2)
                      refine bodyPost_ret (results_ct rfl _ _ rb 23 (vaC v) (0, 0) _ rfl ?blk Tryz.underlying23 rfl info_va) rfl ?_; (case blk => exact va_put HK9.out.br v); exact ⟨by rw [HQ2.out]; rfl, by (repeat refine below_drewN' ?_); exact va_below HK9.out.below hrb v⟩
                    ·
                      by_cases hm : e.f0 = 16
                      · have t4 : (e.f0 == 4) = false := (by simp [hm]); have t5 : (e.f0 == 5) = false := (by simp [hm]); have t6 : (e.f0 == 6) = false := (by simp [hm]); have t7 : (e.f0 == 7) = false := (by simp [hm]); have t8 : (e.f0 == 8) = false := (by simp [hm]); have t15 : (e.f0 == 15) = false := (by simp [hm]); have t16 : (e.f0 == 16) = true := (by simp [hm]); have t17 : (e.f0 == 17) = false := (by simp [hm]); have t18 : (e.f0 == 18) = false := (by simp [hm])
                        have HQ4 : Hid (q = orV a b) := by have h := HQ3.out; rw [hm] at h; exact Lib.hid h
                        obtain ⟨p, hp⟩ : ∃ p, orV a b = p := ⟨_, rfl⟩
                        have HOP := Lib.hid (or_ok a b wr)
                        rw [hp] at HOP HQ4
                        clear hp hm
                        obtain ⟨v, p2⟩ := p
                        replace HOP : Hid (Calls Tryz.prog 42 #[.agg #[.int .i64 a.f0, .int .i64 a.f1, .string a.f2], .agg #[.int .i64 b.f0, .int .i64 b.f1, .string b.f2]] wr fun r w' => r = .returned (.tuple #[.agg #[.int .i64 v.f0, .int .i64 v.f1, .string v.f2], .int .i64 p2]) ∧ Below wr.heap.size wr w') := HOP
                        have HQ2 := HQ4
                        go_wp2_with (go_at_call 42; refine HOP.out.mono ?_; rintro r w9 ⟨rfl, hB9⟩; have HK9 := Lib.hid (HK.out.later hB9); obtain ⟨hr0, hr1, hr2⟩ := bkC3 HK9.out.br; have hf0 := bkF HK9.out.br 0; have hf1 := bkF HK9.out.br 1; have hf2 := bkF HK9.out.br 2)
                        refine bodyPost_ret (results_ct rfl _ _ rb 23 (vaC v) (0, 0) _ rfl ?blk Tryz.underlying23 rfl info_va) rfl ?_; (case blk => exact va_put HK9.out.br v); exact ⟨by rw [HQ2.out]; rfl, by (repeat refine below_drewN' ?_); exact va_below HK9.out.below hrb v⟩
                      ·
                        by_cases hm : e.f0 = 17
                        · have t4 : (e.f0 == 4) = false := (by simp [hm]); have t5 : (e.f0 == 5) = false := (by simp [hm]); have t6 : (e.f0 == 6) = false := (by simp [hm]); have t7 : (e.f0 == 7) = false := (by simp [hm]); have t8 : (e.f0 == 8) = false := (by simp [hm]); have t15 : (e.f0 == 15) = false := (by simp [hm]); have t16 : (e.f0 == 16) = false := (by simp [hm]); have t17 : (e.f0 == 17) = true := (by simp [hm]); have t18 : (e.f0 == 18) = false := (by simp [hm])
                          have HQ4 : Hid (q = notV a) := by have h := HQ3.out; rw [hm] at h; exact Lib.hid h
                          obtain ⟨p, hp⟩ : ∃ p, notV a = p := ⟨_, rfl⟩
                          have HOP := Lib.hid (not_ok a wr)
                          rw [hp] at HOP HQ4
                          clear hp hm
                          obtain ⟨v, p2⟩ := p
                          replace HOP : Hid (Calls Tryz.prog 43 #[.agg #[.int .i64 a.f0, .int .i64 a.f1, .string a.f2]] wr fun r w' => r = .returned (.tuple #[.agg #[.int .i64 v.f0, .int .i64 v.f1, .string v.f2], .int .i64 p2]) ∧ Below wr.heap.size wr w') := HOP
                          have HQ2 := HQ4
                          go_wp2_with (go_at_call 43; refine HOP.out.mono ?_; rintro r w9 ⟨rfl, hB9⟩; have HK9 := Lib.hid (HK.out.later hB9); obtain ⟨hr0, hr1, hr2⟩ := bkC3 HK9.out.br; have hf0 := bkF HK9.out.br 0; have hf1 := bkF HK9.out.br 1; have hf2 := bkF HK9.out.br 2)
                          refine bodyPost_ret (results_ct rfl _ _ rb 23 (vaC v) (0, 0) _ rfl ?blk Tryz.underlying23 rfl info_va) rfl ?_; (case blk => exact va_put HK9.out.br v); exact ⟨by rw [HQ2.out]; rfl, by (repeat refine below_drewN' ?_); exact va_below HK9.out.below hrb v⟩
                        ·
                          by_cases hm : e.f0 = 18
                          · have t4 : (e.f0 == 4) = false := (by simp [hm]); have t5 : (e.f0 == 5) = false := (by simp [hm]); have t6 : (e.f0 == 6) = false := (by simp [hm]); have t7 : (e.f0 == 7) = false := (by simp [hm]); have t8 : (e.f0 == 8) = false := (by simp [hm]); have t15 : (e.f0 == 15) = false := (by simp [hm]); have t16 : (e.f0 == 16) = false := (by simp [hm]); have t17 : (e.f0 == 17) = false := (by simp [hm]); have t18 : (e.f0 == 18) = true := (by simp [hm])
                            have HQ4 : Hid (q = (truthV (a.f0 == 0), 0)) := by have h := HQ3.out; rw [hm] at h; exact Lib.hid h
                            clear hm
                            go_upto_region 36 with (first | ((with_reducible refine gate_dst (N := 15) rfl ?_); refine box_event rfl (N := 15) rfl (cs := vaC zeroV) (t := 23) (by first | rfl | (go_simp; done) | (go_simp; rfl)) ?_; intro tb hgg w9 hbtb hBtb;  have htb : w.heap.size ≤ tb := (by have := HK.out.below.size; omega); have hgt : g ≠ tb := (by have := blk_lt HK.out.bg; omega); have hrt : rb ≠ tb := (by have := blk_lt HK.out.br; omega); have hlt2 : lb ≠ tb := (by have := blk_lt HK.out.bl; omega); obtain ⟨hc0, hc1, hc2⟩ := bkC3 hbtb; have hf0 := bkF hbtb 0; have hf1 := bkF hbtb 1; have hf2 := bkF hbtb 2; clear hgg))
                            have hv9 := va_put hbtb ⟨2, 0, ⟨#[]⟩⟩
                            have HK9 := Lib.hid ((HK.out.later hBtb).far hgt hrt hlt2 htb ⟨2, 0, ⟨#[]⟩⟩)
                            clear hc0 hc1 hc2 hf0 hf1 hf2 hbtb hBtb hl0 hl1 hl2 hl3 hl4 hl5 hz0 hz1 hz2 hz3 hz4 hz5 hz6 hz7 hz8
                            dsimp only at hv9 HK9
                            generalize ((w9.setCell ⟨tb, 0, none⟩ (.int .i64 2)).setCell ⟨tb, 1, none⟩ (.int .i64 0)).setCell ⟨tb, 2, none⟩ (.string ⟨#[]⟩) = w10 at hv9 HK9 ⊢
                            have hl0 := ((bkC HK9.out.bl 0).trans rfl : w10.cell? ⟨lb, 0, none⟩ = some (.int .i64 (vs.getD 0 zeroV).f0))
                            rw [ha.out] at hl0
                            have hc0 : w10.cell? ⟨tb, 0, none⟩ = some (.int .i64 2) := ((bkC hv9 0).trans rfl)
                            have hc1 : w10.cell? ⟨tb, 1, none⟩ = some (.int .i64 0) := ((bkC hv9 1).trans rfl)
                            have hc2 : w10.cell? ⟨tb, 2, none⟩ = some (.string ⟨#[]⟩) := ((bkC hv9 2).trans rfl)
                            have hg1 := bkF hv9 1
                            have htr : tb ≠ rb := Ne.symm hrt
                            obtain ⟨hr0, hr1, hr2⟩ := bkC3 HK9.out.br; have hf0 := bkF HK9.out.br 0; have hf1 := bkF HK9.out.br 1; have hf2 := bkF HK9.out.br 2
                            by_cases hz : a.f0 = 0
                            · have HQ2 : Hid (q = (⟨2, 1, ⟨#[]⟩⟩, 0)) := by have h := HQ4.out; rw [hz] at h; exact Lib.hid h
                              replace hz : (a.f0 == 0) = true := beq_iff_eq.mpr hz
                              go_wp2_with fail
                              have hr11 : (w10.setCell ⟨tb, 1, none⟩ (.int .i64 1)).heap[rb]? = some (.cells (vaC zeroV) 23 (0, 0)) := (Below.heap_setCell _ ⟨tb, 1, none⟩ _ rb hrt).trans HK9.out.br
                              have hB11 : Below w.heap.size w (w10.setCell ⟨tb, 1, none⟩ (.int .i64 1)) := HK9.out.below.setCell (p := ⟨tb, 1, none⟩) htb _
                              refine bodyPost_ret (results_ct rfl _ _ rb 23 (vaC ⟨2, 1, ⟨#[]⟩⟩) (0, 0) _ rfl ?blk Tryz.underlying23 rfl info_va) rfl ?_; (case blk => exact va_put hr11 ⟨2, 1, ⟨#[]⟩⟩); exact ⟨by rw [HQ2.out]; rfl, by (repeat refine below_drewN' ?_); exact va_below hB11 hrb ⟨2, 1, ⟨#[]⟩⟩⟩
                            · have HQ2 : Hid (q = (⟨2, 0, ⟨#[]⟩⟩, 0)) := by
                                have h := HQ4.out
                                have h2 : (a.f0 == 0) = false := beq_eq_false_iff_ne.mpr hz
                                rw [h2] at h; exact Lib.hid h
                              replace hz : (a.f0 == 0) = false := beq_eq_false_iff_ne.mpr hz
                              go_wp2_with fail
                              refine bodyPost_ret (results_ct rfl _ _ rb 23 (vaC ⟨2, 0, ⟨#[]⟩⟩) (0, 0) _ rfl ?blk Tryz.underlying23 rfl info_va) rfl ?_; (case blk => exact va_put HK9.out.br ⟨2, 0, ⟨#[]⟩⟩); exact ⟨by rw [HQ2.out]; rfl, by (repeat refine below_drewN' ?_); exact va_below HK9.out.below hrb ⟨2, 0, ⟨#[]⟩⟩⟩
                          · have t4 : (e.f0 == 4) = false := beq_eq_false_iff_ne.mpr (by omega); have t5 : (e.f0 == 5) = false := beq_eq_false_iff_ne.mpr (by omega); have t6 : (e.f0 == 6) = false := beq_eq_false_iff_ne.mpr (by omega); have t7 : (e.f0 == 7) = false := beq_eq_false_iff_ne.mpr (by omega); have t8 : (e.f0 == 8) = false := beq_eq_false_iff_ne.mpr (by omega); have t15 : (e.f0 == 15) = false := beq_eq_false_iff_ne.mpr (by omega); have t16 : (e.f0 == 16) = false := beq_eq_false_iff_ne.mpr (by omega); have t17 : (e.f0 == 17) = false := beq_eq_false_iff_ne.mpr (by omega); have t18 : (e.f0 == 18) = false := beq_eq_false_iff_ne.mpr (by omega)
                            have HQ4 : Hid (q = testV e.f0 a b) := by
                              have h := HQ3.out
                              unfold opV at h
                              simp only [*] at h
                              exact Lib.hid h
                            obtain ⟨p, hp⟩ : ∃ p, testV e.f0 a b = p := ⟨_, rfl⟩
                            have HOP := Lib.hid (test_ok' e.f0 a b wr)
                            rw [hp] at HOP HQ4
                            clear hp
                            obtain ⟨v, p2⟩ := p
                            replace HOP : Hid (Calls Tryz.prog 44 #[.int .i64 e.f0, .agg #[.int .i64 a.f0, .int .i64 a.f1, .string a.f2], .agg #[.int .i64 b.f0, .int .i64 b.f1, .string b.f2]] wr fun r w' => r = .returned (.tuple #[.agg #[.int .i64 v.f0, .int .i64 v.f1, .string v.f2], .int .i64 p2]) ∧ Below wr.heap.size wr w') := HOP
                            have HQ2 := HQ4
                            go_wp2_with (go_at_call 44; refine HOP.out.mono ?_; rintro r w9 ⟨rfl, hB9⟩; have HK9 := Lib.hid (HK.out.later hB9); obtain ⟨hr0, hr1, hr2⟩ := bkC3 HK9.out.br; have hf0 := bkF HK9.out.br 0; have hf1 := bkF HK9.out.br 1; have hf2 := bkF HK9.out.br 2)
                            refine bodyPost_ret (results_ct rfl _ _ rb 23 (vaC v) (0, 0) _ rfl ?blk Tryz.underlying23 rfl info_va) rfl ?_; (case blk => exact va_put HK9.out.br v); exact ⟨by rw [HQ2.out]; rfl, by (repeat refine below_drewN' ?_); exact va_below HK9.out.below hrb v⟩
theorem eval_ok : ∀ (N : Nat) (e : Ex), SizeOf.sizeOf e < N → EvalOk e := by
  intro N
  induction N with
  | zero => intro e h; omega
  | succ N ih =>
    intro e h
    refine eval_step e fun x hx => ih x ?_
    have h1 := List.sizeOf_lt_of_mem hx
    have h2 : SizeOf.sizeOf e.f6 < SizeOf.sizeOf e := by cases e; simp; omega
    omega
def lackV (rows : List (List Va)) (ps : List Va) (e : Ex) (_ : Unit) : Bool × Unit := (!(atG zeroV e rows ps).2, ())
def evalRes (e : Ex) (rows : List (List Va)) (ps : List Va) : Va × Int :=
  if rightB e = true then (if (someF (lackV rows ps) e ()).1 = true then (zeroV, 1) else evalF e rows ps) else (zeroV, 1)
theorem hcf42 : ∀ (args : Array Value) (W : World), (callFunc 13 args).run Tryz.prog W = .ok (.enter 13 args) W := fun args W => by go_simp
set_option maxRecDepth 100000 in
theorem lackV_ok (w0 : World) (b1 b2 : Nat) (A1 A2 : Option Addr) (c1 c2 : Nat) (rows : List (List Va)) (ps : List Va) (e : Ex) (A : Option Addr) (c : Nat) (w : World) (hRt : Rt e) (hC1 : Kd.C (Kd.slice 23 k23) w0 A1 rows.length rows) (hC2 : Kd.C k23 w0 A2 ps.length ps)
    (hE : CEnv w0 b1 b2 A1 A2 rows.length ps.length c1 c2 27 28 w) :
    Calls Tryz.prog 13 #[.agg (exC e A c), .pointer (some ⟨b1, 0, none⟩), .pointer (some ⟨b2, 0, none⟩)] w fun r w' => r = .returned (.bool (lackV rows ps e ()).1) ∧ Below w.heap.size w w' := by
  unfold exC lackV
  have HC1 := Lib.hid hC1; have HC2 := Lib.hid hC2; have HE := Lib.hid hE; have HRT := Lib.hid hRt
  obtain ⟨q, hq⟩ : ∃ q, atG zeroV e rows ps = q := ⟨_, rfl⟩
  rw [hq]
  have HQ := Lib.hid hq
  clear hq hRt hC1 hC2 hE
  go_enter Tryz.func13, Tryz.ntmps13
  go_upto_region 1 with (first | ((with_reducible refine gate_dst (N := 3) rfl ?_); refine box_event rfl (N := 3) rfl (cs := exC e A c) (t := 26) (by first | rfl | (go_simp; done) | (go_simp; rfl)) ?_; intro g hgg w1 hbg hBg;  clear hgg))
  obtain ⟨hz0, hz1, hz2, hz3, hz4, hz5, hz6, hz7, hz8⟩ := bkC9 hbg
  have HE1 := Lib.hid (HE.out.later hBg)
  have HB := Lib.hid hBg
  have hd1 : w1.cell? ⟨b1, 0, none⟩ = some (.slice A1 rows.length c1) := (bkC HE1.out.h1 0).trans rfl
  have hd2 : w1.cell? ⟨b2, 0, none⟩ = some (.slice A2 ps.length c2) := (bkC HE1.out.h2 0).trans rfl
  have HAT := Lib.hid (atV_ok e A A1 A2 c c1 c2 rows ps w1 HRT.out (Kd.C_below HC1.out HE1.out.below) (Kd.C_below HC2.out HE1.out.below))
  rw [HQ.out] at HAT
  obtain ⟨v, q2⟩ := q
  unfold exC at HAT
  replace HAT : Hid (Calls Tryz.prog 14 #[.agg #[.int .i64 e.f0, .int .i64 e.f1.f0, .int .i64 e.f1.f1, .string e.f1.f2, .int .i64 e.f2, .int .i64 e.f3, .int .i64 e.f4, .string e.f5, .slice A e.f6.length c], .slice A1 rows.length c1, .slice A2 ps.length c2] w1 fun r w' => r = .returned (.tuple #[.agg #[.int .i64 v.f0, .int .i64 v.f1, .string v.f2], .bool q2]) ∧ Below w1.heap.size w1 w') := HAT
  clear hbg hBg
  go_upto_region 2 with (first | (go_at_call 14; refine HAT.out.mono ?_; rintro r w3 ⟨rfl, hB3⟩; have HB3 := Lib.hid (HB.out.trans (hB3.mono HB.out.size))) | ((with_reducible refine gate_dst (N := 5) rfl ?_); refine box_event rfl (N := 5) rfl (cs := vaC zeroV) (t := 23) (by first | rfl | (go_simp; done) | (go_simp; rfl)) ?_; intro vb hgg w4 hbvb hBvb;  have hvb : w.heap.size ≤ vb := (by have := HB3.out.size; omega); obtain ⟨hc0, hc1, hc2⟩ := bkC3 hbvb; have hf0 := bkF hbvb 0; have hf1 := bkF hbvb 1; have hf2 := bkF hbvb 2; clear hgg))
  have HB5 := Lib.hid (va_below (HB3.out.trans (hBvb.mono HB3.out.size)) hvb v)
  clear hc0 hc1 hc2 hf0 hf1 hf2 hbvb hBvb HB3 hB3 hz0 hz1 hz2 hz3 hz4 hz5 hz6 hz7 hz8 hd1 hd2
  generalize ((w4.setCell ⟨vb, 0, none⟩ (.int .i64 v.f0)).setCell ⟨vb, 1, none⟩ (.int .i64 v.f1)).setCell ⟨vb, 2, none⟩ (.string v.f2) = w5 at HB5 ⊢
  go_wp2_with fail
  go_ret
  exact ⟨rfl, HB5.out⟩
theorem lackV_env (w0 : World) (b1 b2 : Nat) (A1 A2 : Option Addr) (c1 c2 : Nat) (rows : List (List Va)) (ps : List Va) (hC1 : Kd.C (Kd.slice 23 k23) w0 A1 rows.length rows) (hC2 : Kd.C k23 w0 A2 ps.length ps) :
    SomeEnv w0 none 13 #[.pointer (some ⟨b1, 0, none⟩), .pointer (some ⟨b2, 0, none⟩)] (lackV rows ps) (fun _ W => CEnv w0 b1 b2 A1 A2 rows.length ps.length c1 c2 27 28 W) where
  run := hcf42
  base _ _ h := h.below
  old _ _ _ _ h := by cases h
  later _ _ _ h k := h.later k
  one e A c s W hRt hR hc hC := (lackV_ok w0 b1 b2 A1 A2 c1 c2 rows ps e A c W hRt hC1 hC2 hR).mono (by
    rintro r W' ⟨rfl, h⟩
    exact ⟨rfl, hR.later h, Fr.of h⟩)
set_option maxHeartbeats 1000000 in
set_option maxRecDepth 100000 in
theorem Eval_ok (e : Ex) (A A1 A2 : Option Addr) (c c1 c2 : Nat) (rows : List (List Va)) (ps : List Va) (w : World) (hC : Kd.C k26 w A e.f6.length e.f6) (hc : e.f6.length ≤ c) (hC1 : Kd.C (Kd.slice 23 k23) w A1 rows.length rows) (hc1 : rows.length ≤ c1) (hC2 : Kd.C k23 w A2 ps.length ps) (hc2 : ps.length ≤ c2) :
    Calls Tryz.prog 6 #[.agg (exC e A c), .slice A1 rows.length c1, .slice A2 ps.length c2] w (VP (evalRes e rows ps) w) := by
  have HC := Lib.hid hC; have HC1 := Lib.hid hC1; have HC2 := Lib.hid hC2
  clear hC hC1 hC2
  obtain ⟨q, hq⟩ : ∃ q, evalRes e rows ps = q := ⟨_, rfl⟩
  rw [hq]
  have HBV := Lib.hid hq.symm; clear hq
  unfold exC
  go_enter Tryz.func6, Tryz.ntmps6
  go_upto_region 1 with (first | ((with_reducible refine gate_dst (N := 3) rfl ?_); refine box_event rfl (N := 3) rfl (cs := exC e A c) (t := 26) (by first | rfl | (go_simp; done) | (go_simp; rfl)) ?_; intro g hgg w1 hbg hBg;  clear hgg) | ((with_reducible refine gate_dst (N := 4) rfl ?_); refine box_event rfl (N := 4) rfl (cs := #[.slice A1 rows.length c1]) (t := 27) (by first | rfl | (go_simp; done) | (go_simp; rfl)) ?_; intro g1 hgg w2 hbg1 hBg1;  clear hgg) | ((with_reducible refine gate_dst (N := 5) rfl ?_); refine box_event rfl (N := 5) rfl (cs := #[.slice A2 ps.length c2]) (t := 28) (by first | rfl | (go_simp; done) | (go_simp; rfl)) ?_; intro g2 hgg w3 hbg2 hBg2;  clear hgg) | ((with_reducible refine gate_dst (N := 6) rfl ?_); refine box_event rfl (N := 6) rfl (cs := vaC zeroV) (t := 23) (by first | rfl | (go_simp; done) | (go_simp; rfl)) ?_; intro rb hgg w4 hbrb hBrb;  have hrb : w.heap.size ≤ rb := (by have := hBg.size; have := hBg1.size; have := hBg2.size; omega); clear hgg))
  have hg4 := (hBrb.block g (by have := hBg1.size; have := hBg2.size; have := blk_lt hbg; omega)).trans ((hBg2.block g (by have := hBg1.size; have := blk_lt hbg; omega)).trans ((hBg1.block g (blk_lt hbg)).trans hbg))
  have hg14 := (hBrb.block g1 (by have := hBg2.size; have := blk_lt hbg1; omega)).trans ((hBg2.block g1 (blk_lt hbg1)).trans hbg1)
  have hg24 := (hBrb.block g2 (blk_lt hbg2)).trans hbg2
  have hB4 : Below w.heap.size w w4 := hBg.trans ((hBg1.trans ((hBg2.trans (hBrb.mono hBg2.size)).mono hBg1.size)).mono hBg.size)
  have HE4 : Hid (CEnv w g1 g2 A1 A2 rows.length ps.length c1 c2 27 28 w4) := ⟨hB4, hg14, hg24⟩
  clear hbg hBg hbg1 hBg1 hbg2 hBg2 hBrb
  obtain ⟨hz0, hz1, hz2, hz3, hz4, hz5, hz6, hz7, hz8⟩ := bkC9 hg4
  have HCR := Lib.hid (right_ok e A c w4 (Kd.C_below HC.out hB4) hc)
  unfold exC at HCR
  go_wp2_with fail
  refine HCR.out.mono ?_
  obtain ⟨rbb, hrbb⟩ : ∃ rbb, rightB e = rbb := ⟨_, rfl⟩
  rw [hrbb]
  have HRB := Lib.hid hrbb; clear hrbb
  rintro r w5 ⟨rfl, hB5⟩
  have HE5 := Lib.hid (HE4.out.later hB5)
  clear hz0 hz1 hz2 hz3 hz4 hz5 hz6 hz7 hz8
  have hg5 := (hB5.block g (blk_lt hg4)).trans hg4
  have hr5 := (hB5.block rb (blk_lt hbrb)).trans hbrb
  clear hB4 hB5 hg4 hbrb hg14 hg24
  cases rbb with
  | false =>
    have HQ2 : Hid (q = (zeroV, 1)) := by have := HBV.out; show _ = _; rw [this]; unfold evalRes; rw [HRB.out]; rfl
    obtain ⟨hr0, hr1, hr2⟩ := bkC3 hr5; have hf0 := bkF hr5 0; have hf1 := bkF hr5 1; have hf2 := bkF hr5 2
    go_wp2_with fail
    refine bodyPost_ret (results_ct rfl _ _ rb 23 (vaC zeroV) (0, 0) _ rfl ?blk Tryz.underlying23 rfl info_va) rfl ?_; (case blk => exact va_put hr5 zeroV); exact ⟨by rw [HQ2.out]; rfl, by (repeat refine below_drewN' ?_); exact va_below HE5.out.below hrb zeroV⟩
  | true =>
    have HRT := Lib.hid (Rt.of HRB.out)
    obtain ⟨hz0, hz1, hz2, hz3, hz4, hz5, hz6, hz7, hz8⟩ := bkC9 hg5
    have HSM := Lib.hid (some_ok (lackV_env w g1 g2 A1 A2 c1 c2 rows ps HC1.out HC2.out) _ e (Nat.lt_succ_self _) A c () w5 HRT.out HE5.out hc HC.out)
    unfold exC at HSM
    obtain ⟨s, hs⟩ : ∃ s, (someF (lackV rows ps) e ()) = s := ⟨_, rfl⟩
    rw [hs] at HSM
    have HQ1 : Hid (q = if s.1 = true then (zeroV, 1) else evalF e rows ps) := by have := HBV.out; show _ = _; rw [this]; unfold evalRes; rw [HRB.out, hs]; rfl
    clear hs
    obtain ⟨s1, s2⟩ := s
    go_wp2_with fail
    refine HSM.out.mono ?_
    rintro r w6 ⟨rfl, hE6, hF6⟩
    have HE6 := Lib.hid hE6
    have hg6 := (hF6.block g (blk_lt hg5) (by simp)).trans hg5
    have hr6 := (hF6.block rb (blk_lt hr5) (by simp)).trans hr5
    clear hE6 hF6 hz0 hz1 hz2 hz3 hz4 hz5 hz6 hz7 hz8 hg5 hr5 HSM
    cases s1 with
    | true =>
      have HQ2 : Hid (q = (zeroV, 1)) := HQ1.out
      obtain ⟨hr0, hr1, hr2⟩ := bkC3 hr6; have hf0 := bkF hr6 0; have hf1 := bkF hr6 1; have hf2 := bkF hr6 2
      go_wp2_with fail
      refine bodyPost_ret (results_ct rfl _ _ rb 23 (vaC zeroV) (0, 0) _ rfl ?blk Tryz.underlying23 rfl info_va) rfl ?_; (case blk => exact va_put hr6 zeroV); exact ⟨by rw [HQ2.out]; rfl, by (repeat refine below_drewN' ?_); exact va_below HE6.out.below hrb zeroV⟩
    | false =>
      have HQ3 : Hid (q = evalF e rows ps) := HQ1.out
      obtain ⟨hz0, hz1, hz2, hz3, hz4, hz5, hz6, hz7, hz8⟩ := bkC9 hg6
      have hd1 : w6.cell? ⟨g1, 0, none⟩ = some (.slice A1 rows.length c1) := (bkC HE6.out.h1 0).trans rfl
      have hd2 : w6.cell? ⟨g2, 0, none⟩ = some (.slice A2 ps.length c2) := (bkC HE6.out.h2 0).trans rfl
      have HK := Lib.hid (eval_ok _ e (Nat.lt_succ_self _) A A1 A2 c c1 c2 rows ps w6 HRT.out (Kd.C_below HC.out HE6.out.below) hc (Kd.C_below HC1.out HE6.out.below) hc1 (Kd.C_below HC2.out HE6.out.below) hc2)
      obtain ⟨p, hp⟩ : ∃ p, evalF e rows ps = p := ⟨_, rfl⟩
      rw [hp] at HK HQ3
      clear hp
      obtain ⟨v, p2⟩ := p
      unfold exC at HK
      replace HK : Hid (Calls Tryz.prog 16 #[.agg #[.int .i64 e.f0, .int .i64 e.f1.f0, .int .i64 e.f1.f1, .string e.f1.f2, .int .i64 e.f2, .int .i64 e.f3, .int .i64 e.f4, .string e.f5, .slice A e.f6.length c], .slice A1 rows.length c1, .slice A2 ps.length c2] w6 fun r w' => r = .returned (.tuple #[.agg #[.int .i64 v.f0, .int .i64 v.f1, .string v.f2], .int .i64 p2]) ∧ Below w6.heap.size w6 w') := HK
      have HQ2 := HQ3
      go_wp2_with (go_at_call 16; refine HK.out.mono ?_; rintro r w7 ⟨rfl, hB7⟩; have hr7 := (hB7.block rb (blk_lt hr6)).trans hr6; have HB7 := Lib.hid (HE6.out.below.trans (hB7.mono HE6.out.below.size)); obtain ⟨hr0, hr1, hr2⟩ := bkC3 hr7; have hf0 := bkF hr7 0; have hf1 := bkF hr7 1; have hf2 := bkF hr7 2)
      refine bodyPost_ret (results_ct rfl _ _ rb 23 (vaC v) (0, 0) _ rfl ?blk Tryz.underlying23 rfl info_va) rfl ?_; (case blk => exact va_put hr7 v); exact ⟨by rw [HQ2.out]; rfl, by (repeat refine below_drewN' ?_); exact va_below HB7.out hrb v⟩
end Go.Proofs.YtpdhoghkoakojaaGreatDoor.E
