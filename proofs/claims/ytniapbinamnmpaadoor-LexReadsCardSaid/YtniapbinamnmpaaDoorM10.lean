/- Contracts and plain lemmas of the functions that the law reaches, part 10. -/
import Derived.Test.YtniapbinamnmpaaDoorM8
import Derived.Test.YtniapbinamnmpaaDoorM9
namespace Go.Proofs.YtniapbinamnmpaaDoor.L
set_option linter.unusedVariables false
set_option linter.unusedSimpArgs false
open Go.RowKit Go.Proofs.YtniapbinamnmpaaDoorW.PrintWords Go.Proofs.YtniapbinamnmpaaDoorW.PrintLast Go.Proofs.YtniapbinamnmpaaDoorW.PrintMore
set_option maxHeartbeats 8000000 in
set_option maxRecDepth 100000 in
theorem oneR_digit (s : ByteArray) (l : List UInt8) (hl : s.data.toList = l) (i : Nat) (c : UInt8) (r : List UInt8) (hdr : l.drop i = c :: r) (w : World) (hs : s.size ≤ 100000) (h1 : letB c = false) (h2 : digB c = true) :
    Calls Tryd.prog 12 #[.string s, .int .i64 i] w (OneP w l i) := by
  obtain ⟨n, hn⟩ : ∃ n, s.size = n := ⟨_, rfl⟩
  have hln : l.length = n := by rw [← hl, ← sz_list, hn]
  have hin : i < n := by rw [← hln]; exact drop_lt hdr
  have hn5 : n ≤ 100000 := by omega
  have hi : i < s.size := by omega
  have hc : s[i] = c := by
    rw [byte_at s l hl i hi]
    have h1 : l[i]? = some c := by
      have h2 := List.drop_eq_getElem_cons (show i < l.length by omega)
      rw [hdr] at h2
      injection h2 with h3 h4
      rw [List.getElem?_eq_getElem (by omega), ← h3]
    rw [List.getD_eq_getElem?_getD, h1]; rfl
  have HO : Hid (oneL l i = oneC c r i n) := Lib.hid (by rw [oneL_C hdr, hln])
  have HDR := Lib.hid hdr; have HLN := Lib.hid hln; have HL := Lib.hid hl
  have hw1 : IntKind.i64.wrap ((i : Int) + 1) = (i : Int) + 1 := IntWalk.i64_in _ (by omega)
  have hi0 : (0 : Int) ≤ (i : Int) := by omega
  have hin' : (i : Int) < (n : Int) := by omega
  clear hdr hln hl
  have HO2 : Hid (oneL l i = match numL 0 ((c :: r).take (spanL digB (c :: r))) with | none => .inl (5, (i : Int)) | some v => .inr (3, v, [], i + spanL digB (c :: r))) := Lib.hid (by rw [HO.out]; unfold oneC; rw [if_neg (by rw [h1]; decide), if_pos h2]; rfl)
  have HLT : Hid (∀ W, Calls Tryd.prog 23 #[.int .u8 c.toNat] W fun e w' => e = .returned (.bool false) ∧ Drawn0 W w') := Lib.hid (fun W => by have h := letterR_ok c W; rw [h1] at h; exact h)
  have HDG : Hid (∀ W, Calls Tryd.prog 24 #[.int .u8 c.toNat] W fun e w' => e = .returned (.bool true) ∧ Drawn0 W w') := Lib.hid (fun W => by have h := digitR_ok c W; rw [h2] at h; exact h)
  obtain ⟨q, hq⟩ : ∃ q, spanL digB (c :: r) = q := ⟨_, rfl⟩
  have hqn : i + q ≤ n := by
    have h3 := span_le digB (c :: r)
    rw [← HDR.out, List.length_drop, HLN.out] at h3
    rw [HDR.out] at h3; omega
  have HDS : Hid (∀ W, Calls Tryd.prog 27 #[.string s, .int .i64 i] W fun e w' => (∃ m : Int, e = .returned (.tuple #[.int .i64 (match numL 0 ((c :: r).take q) with | none => m | some v => v), .int .i64 ((i + q : Nat) : Int), .bool (numL 0 ((c :: r).take q)).isNone])) ∧ Drawn0 W w') := Lib.hid (fun W => by
    have h := digitsR_ok s l HL.out (by rw [HLN.out]; exact hn5) i (by rw [HLN.out]; omega) W
    rw [HDR.out, hq] at h
    exact h)
  rw [hq] at HO2
  clear hq h1 h2 HO
  go_enter Tryd.func12, Tryd.ntmps12
  go_upto_region 1 with (first | ((with_reducible refine gate_dst (N := 4) rfl ?_); refine box_event rfl (N := 4) rfl (cs := #[.int .i64 0, .int .i64 0, .int .i64 0, .string ⟨#[]⟩]) (t := 31) (by first | rfl | (go_simp; done) | (go_simp; rfl)) ?_; intro rb hgg w1 hbrb hBrb; have hrw : w.heap.size ≤ rb := (by omega); clear hgg))
  go_upto_region 2 with (first | ((with_reducible refine gate_dst (N := 8) rfl ?_); refine box_event rfl (N := 8) rfl (cs := #[.int .i64 0, .int .i64 0, .int .i64 0, .string ⟨#[]⟩]) (t := 31) (by first | rfl | (go_simp; done) | (go_simp; rfl)) ?_; intro tb hgg w2 hbtb hBtb; have htw : w1.heap.size ≤ tb := (by omega); clear hgg; have q0 : w2.cell? ⟨tb, 0, none⟩ = some (.int .i64 0) := ((bkC hbtb 0).trans rfl); have f0 := bkF hbtb 0; have q1 : w2.cell? ⟨tb, 1, none⟩ = some (.int .i64 0) := ((bkC hbtb 1).trans rfl); have f1 := bkF hbtb 1; have q2 : w2.cell? ⟨tb, 2, none⟩ = some (.int .i64 0) := ((bkC hbtb 2).trans rfl); have f2 := bkF hbtb 2; have q3 : w2.cell? ⟨tb, 3, none⟩ = some (.string ⟨#[]⟩) := ((bkC hbtb 3).trans rfl); have f3 := bkF hbtb 3))
  have hne : rb ≠ tb := by have := blk_lt hbrb; omega
  have E3 : Hid (OEnvT 31 w rb tb 0 0 i ⟨#[]⟩ 0 0 0 ⟨#[]⟩ ((((w2.setCell ⟨tb, 0, none⟩ (.int .i64 0)).setCell ⟨tb, 1, none⟩ (.int .i64 0)).setCell ⟨tb, 2, none⟩ (.int .i64 i)).setCell ⟨tb, 3, none⟩ (.string ⟨#[]⟩))) :=
    ⟨tk_belowT (hBrb.trans (hBtb.mono hBrb.size)) (Nat.le_trans hBrb.size htw) 0 0 i ⟨#[]⟩, tk_putT (k0 := 0) (n0 := 0) (a0 := 0) (s0 := ⟨#[]⟩) hbtb 0 0 i ⟨#[]⟩, tk_farT ((hBtb.block rb (blk_lt hbrb)).trans hbrb) hne 0 0 i ⟨#[]⟩, hne, hrw, Nat.le_trans hBrb.size htw⟩
  clear q0 q1 q2 q3 f0 f1 f2 f3 hbrb hBrb hbtb hBtb hne hrw htw
  generalize (((w2.setCell ⟨tb, 0, none⟩ (.int .i64 0)).setCell ⟨tb, 1, none⟩ (.int .i64 0)).setCell ⟨tb, 2, none⟩ (.int .i64 i)).setCell ⟨tb, 3, none⟩ (.string ⟨#[]⟩) = w3 at E3 ⊢
  have ht0 : w3.cell? ⟨tb, 0, none⟩ = some (.int .i64 0) := (bkC E3.out.tb_ 0).trans rfl; have htf0 := bkF E3.out.tb_ 0; have ht1 : w3.cell? ⟨tb, 1, none⟩ = some (.int .i64 0) := (bkC E3.out.tb_ 1).trans rfl; have htf1 := bkF E3.out.tb_ 1; have ht2 : w3.cell? ⟨tb, 2, none⟩ = some (.int .i64 i) := (bkC E3.out.tb_ 2).trans rfl; have htf2 := bkF E3.out.tb_ 2; have ht3 : w3.cell? ⟨tb, 3, none⟩ = some (.string ⟨#[]⟩) := (bkC E3.out.tb_ 3).trans rfl; have htf3 := bkF E3.out.tb_ 3; have hr0 : w3.cell? ⟨rb, 0, none⟩ = some (.int .i64 0) := (bkC E3.out.rb_ 0).trans rfl; have hrf0 := bkF E3.out.rb_ 0; have hr1 : w3.cell? ⟨rb, 1, none⟩ = some (.int .i64 0) := (bkC E3.out.rb_ 1).trans rfl; have hrf1 := bkF E3.out.rb_ 1; have hr2 : w3.cell? ⟨rb, 2, none⟩ = some (.int .i64 0) := (bkC E3.out.rb_ 2).trans rfl; have hrf2 := bkF E3.out.rb_ 2; have hr3 : w3.cell? ⟨rb, 3, none⟩ = some (.string ⟨#[]⟩) := (bkC E3.out.rb_ 3).trans rfl; have hrf3 := bkF E3.out.rb_ 3
  go_upto_region 21 with fail
  have HLT3 := Lib.hid (HLT.out w3)
  go_upto_region 34 with (go_at_call 23; refine HLT3.out.mono ?_; rintro e_ w4 ⟨rfl, hb_⟩)
  have E4 := Lib.hid (E3.out.later hb_.below)
  clear ht0 htf0 ht1 htf1 ht2 htf2 ht3 htf3 hr0 hrf0 hr1 hrf1 hr2 hrf2 hr3 hrf3 hb_
  have ht0 : w4.cell? ⟨tb, 0, none⟩ = some (.int .i64 0) := (bkC E4.out.tb_ 0).trans rfl; have htf0 := bkF E4.out.tb_ 0; have ht1 : w4.cell? ⟨tb, 1, none⟩ = some (.int .i64 0) := (bkC E4.out.tb_ 1).trans rfl; have htf1 := bkF E4.out.tb_ 1; have ht2 : w4.cell? ⟨tb, 2, none⟩ = some (.int .i64 i) := (bkC E4.out.tb_ 2).trans rfl; have htf2 := bkF E4.out.tb_ 2; have ht3 : w4.cell? ⟨tb, 3, none⟩ = some (.string ⟨#[]⟩) := (bkC E4.out.tb_ 3).trans rfl; have htf3 := bkF E4.out.tb_ 3; have hr0 : w4.cell? ⟨rb, 0, none⟩ = some (.int .i64 0) := (bkC E4.out.rb_ 0).trans rfl; have hrf0 := bkF E4.out.rb_ 0; have hr1 : w4.cell? ⟨rb, 1, none⟩ = some (.int .i64 0) := (bkC E4.out.rb_ 1).trans rfl; have hrf1 := bkF E4.out.rb_ 1; have hr2 : w4.cell? ⟨rb, 2, none⟩ = some (.int .i64 0) := (bkC E4.out.rb_ 2).trans rfl; have hrf2 := bkF E4.out.rb_ 2; have hr3 : w4.cell? ⟨rb, 3, none⟩ = some (.string ⟨#[]⟩) := (bkC E4.out.rb_ 3).trans rfl; have hrf3 := bkF E4.out.rb_ 3
  have HDG4 := Lib.hid (HDG.out w4)
  go_upto_region 35 with (go_at_call 24; refine HDG4.out.mono ?_; rintro e_ w5 ⟨rfl, hb_⟩)
  have E5 := Lib.hid (E4.out.later hb_.below)
  clear ht0 htf0 ht1 htf1 ht2 htf2 ht3 htf3 hr0 hrf0 hr1 hrf1 hr2 hrf2 hr3 hrf3 hb_
  have ht0 : w5.cell? ⟨tb, 0, none⟩ = some (.int .i64 0) := (bkC E5.out.tb_ 0).trans rfl; have htf0 := bkF E5.out.tb_ 0; have ht1 : w5.cell? ⟨tb, 1, none⟩ = some (.int .i64 0) := (bkC E5.out.tb_ 1).trans rfl; have htf1 := bkF E5.out.tb_ 1; have ht2 : w5.cell? ⟨tb, 2, none⟩ = some (.int .i64 i) := (bkC E5.out.tb_ 2).trans rfl; have htf2 := bkF E5.out.tb_ 2; have ht3 : w5.cell? ⟨tb, 3, none⟩ = some (.string ⟨#[]⟩) := (bkC E5.out.tb_ 3).trans rfl; have htf3 := bkF E5.out.tb_ 3; have hr0 : w5.cell? ⟨rb, 0, none⟩ = some (.int .i64 0) := (bkC E5.out.rb_ 0).trans rfl; have hrf0 := bkF E5.out.rb_ 0; have hr1 : w5.cell? ⟨rb, 1, none⟩ = some (.int .i64 0) := (bkC E5.out.rb_ 1).trans rfl; have hrf1 := bkF E5.out.rb_ 1; have hr2 : w5.cell? ⟨rb, 2, none⟩ = some (.int .i64 0) := (bkC E5.out.rb_ 2).trans rfl; have hrf2 := bkF E5.out.rb_ 2; have hr3 : w5.cell? ⟨rb, 3, none⟩ = some (.string ⟨#[]⟩) := (bkC E5.out.rb_ 3).trans rfl; have hrf3 := bkF E5.out.rb_ 3
  have HDS5 := Lib.hid (HDS.out w5)
  cases hnl : numL 0 ((c :: r).take q) with
  | none =>
    rw [hnl] at HDS5
    have HO3 : Hid (oneL l i = .inl (5, (i : Int))) := by have h := HO2.out; rw [hnl] at h; exact Lib.hid h
    clear hnl
    simp only [Option.isNone_none, Option.isNone_some] at HDS5
    go_upto_region 36 with (go_at_call 27; refine HDS5.out.mono ?_; rintro e_ w6 ⟨⟨m_, rfl⟩, hb_⟩)
    have E6 := Lib.hid (E5.out.later hb_.below)
    clear ht0 htf0 ht1 htf1 ht2 htf2 ht3 htf3 hr0 hrf0 hr1 hrf1 hr2 hrf2 hr3 hrf3 hb_
    have ht0 : w6.cell? ⟨tb, 0, none⟩ = some (.int .i64 0) := (bkC E6.out.tb_ 0).trans rfl; have htf0 := bkF E6.out.tb_ 0; have ht1 : w6.cell? ⟨tb, 1, none⟩ = some (.int .i64 0) := (bkC E6.out.tb_ 1).trans rfl; have htf1 := bkF E6.out.tb_ 1; have ht2 : w6.cell? ⟨tb, 2, none⟩ = some (.int .i64 i) := (bkC E6.out.tb_ 2).trans rfl; have htf2 := bkF E6.out.tb_ 2; have ht3 : w6.cell? ⟨tb, 3, none⟩ = some (.string ⟨#[]⟩) := (bkC E6.out.tb_ 3).trans rfl; have htf3 := bkF E6.out.tb_ 3; have hr0 : w6.cell? ⟨rb, 0, none⟩ = some (.int .i64 0) := (bkC E6.out.rb_ 0).trans rfl; have hrf0 := bkF E6.out.rb_ 0; have hr1 : w6.cell? ⟨rb, 1, none⟩ = some (.int .i64 0) := (bkC E6.out.rb_ 1).trans rfl; have hrf1 := bkF E6.out.rb_ 1; have hr2 : w6.cell? ⟨rb, 2, none⟩ = some (.int .i64 0) := (bkC E6.out.rb_ 2).trans rfl; have hrf2 := bkF E6.out.rb_ 2; have hr3 : w6.cell? ⟨rb, 3, none⟩ = some (.string ⟨#[]⟩) := (bkC E6.out.rb_ 3).trans rfl; have hrf3 := bkF E6.out.rb_ 3
    go_wp2_with fail
    exact bodyPost_ret (results_cttt (p := 4) (u := 5) (v := 6) (x := 7) rfl _ _ rb 31 (tkC (0) (0) (i) (⟨#[]⟩)) (0, 0) _ rfl (tk_putT E6.out.rb_ (0) (0) (i) (⟨#[]⟩)) Tryd.underlying31 rfl (by kernel_rfl)) rfl (one_inl HO3.out (tk_belowT E6.out.bl E6.out.rw_ (0) (0) (i) (⟨#[]⟩)))
  | some v =>
    rw [hnl] at HDS5
    have HO3 : Hid (oneL l i = .inr (3, v, [], i + q)) := by have h := HO2.out; rw [hnl] at h; exact Lib.hid h
    clear hnl
    simp only [Option.isNone_none, Option.isNone_some] at HDS5
    go_upto_region 36 with (go_at_call 27; refine HDS5.out.mono ?_; rintro e_ w6 ⟨⟨m_, rfl⟩, hb_⟩)
    have E6 := Lib.hid (E5.out.later hb_.below)
    clear ht0 htf0 ht1 htf1 ht2 htf2 ht3 htf3 hr0 hrf0 hr1 hrf1 hr2 hrf2 hr3 hrf3 hb_
    have ht0 : w6.cell? ⟨tb, 0, none⟩ = some (.int .i64 0) := (bkC E6.out.tb_ 0).trans rfl; have htf0 := bkF E6.out.tb_ 0; have ht1 : w6.cell? ⟨tb, 1, none⟩ = some (.int .i64 0) := (bkC E6.out.tb_ 1).trans rfl; have htf1 := bkF E6.out.tb_ 1; have ht2 : w6.cell? ⟨tb, 2, none⟩ = some (.int .i64 i) := (bkC E6.out.tb_ 2).trans rfl; have htf2 := bkF E6.out.tb_ 2; have ht3 : w6.cell? ⟨tb, 3, none⟩ = some (.string ⟨#[]⟩) := (bkC E6.out.tb_ 3).trans rfl; have htf3 := bkF E6.out.tb_ 3; have hr0 : w6.cell? ⟨rb, 0, none⟩ = some (.int .i64 0) := (bkC E6.out.rb_ 0).trans rfl; have hrf0 := bkF E6.out.rb_ 0; have hr1 : w6.cell? ⟨rb, 1, none⟩ = some (.int .i64 0) := (bkC E6.out.rb_ 1).trans rfl; have hrf1 := bkF E6.out.rb_ 1; have hr2 : w6.cell? ⟨rb, 2, none⟩ = some (.int .i64 0) := (bkC E6.out.rb_ 2).trans rfl; have hrf2 := bkF E6.out.rb_ 2; have hr3 : w6.cell? ⟨rb, 3, none⟩ = some (.string ⟨#[]⟩) := (bkC E6.out.rb_ 3).trans rfl; have hrf3 := bkF E6.out.rb_ 3
    go_upto_region 40 with fail
    have E8 : Hid (OEnvT 31 w rb tb 3 v i ⟨#[]⟩ 0 0 0 ⟨#[]⟩ ((w6.setCell ⟨tb, 0, none⟩ (.int .i64 3)).setCell ⟨tb, 1, none⟩ (.int .i64 v))) := (E6.out.set 0 (.int .i64 3) (k1 := 3) (n1 := 0) (a1 := i) (x1 := ⟨#[]⟩) rfl).set 1 (.int .i64 v) rfl
    generalize (w6.setCell ⟨tb, 0, none⟩ (.int .i64 3)).setCell ⟨tb, 1, none⟩ (.int .i64 v) = w8 at E8 ⊢
    clear ht0 htf0 ht1 htf1 ht2 htf2 ht3 htf3 hr0 hrf0 hr1 hrf1 hr2 hrf2 hr3 hrf3
    have ht0 : w8.cell? ⟨tb, 0, none⟩ = some (.int .i64 3) := (bkC E8.out.tb_ 0).trans rfl; have htf0 := bkF E8.out.tb_ 0; have ht1 : w8.cell? ⟨tb, 1, none⟩ = some (.int .i64 v) := (bkC E8.out.tb_ 1).trans rfl; have htf1 := bkF E8.out.tb_ 1; have ht2 : w8.cell? ⟨tb, 2, none⟩ = some (.int .i64 i) := (bkC E8.out.tb_ 2).trans rfl; have htf2 := bkF E8.out.tb_ 2; have ht3 : w8.cell? ⟨tb, 3, none⟩ = some (.string ⟨#[]⟩) := (bkC E8.out.tb_ 3).trans rfl; have htf3 := bkF E8.out.tb_ 3; have hr0 : w8.cell? ⟨rb, 0, none⟩ = some (.int .i64 0) := (bkC E8.out.rb_ 0).trans rfl; have hrf0 := bkF E8.out.rb_ 0; have hr1 : w8.cell? ⟨rb, 1, none⟩ = some (.int .i64 0) := (bkC E8.out.rb_ 1).trans rfl; have hrf1 := bkF E8.out.rb_ 1; have hr2 : w8.cell? ⟨rb, 2, none⟩ = some (.int .i64 0) := (bkC E8.out.rb_ 2).trans rfl; have hrf2 := bkF E8.out.rb_ 2; have hr3 : w8.cell? ⟨rb, 3, none⟩ = some (.string ⟨#[]⟩) := (bkC E8.out.rb_ 3).trans rfl; have hrf3 := bkF E8.out.rb_ 3
    go_wp2_with fail
    exact bodyPost_ret (results_cttt (p := 4) (u := 5) (v := 6) (x := 7) rfl _ _ rb 31 (tkC (3) (v) (i) (⟨#[]⟩)) (0, 0) _ rfl (tk_putT E8.out.rb_ (3) (v) (i) (⟨#[]⟩)) Tryd.underlying31 rfl (by kernel_rfl)) rfl (one_inr (e := ((i + q : Nat) : Int)) HO3.out rfl rfl (tk_belowT E8.out.bl E8.out.rw_ (3) (v) (i) (⟨#[]⟩)))
set_option maxHeartbeats 8000000 in
set_option maxRecDepth 100000 in
theorem oneR_par (s : ByteArray) (l : List UInt8) (hl : s.data.toList = l) (i : Nat) (c : UInt8) (r : List UInt8) (hdr : l.drop i = c :: r) (w : World) (hs : s.size ≤ 100000) (h1 : letB c = false) (h2 : digB c = false) (h3 : c = 36) :
    Calls Tryd.prog 12 #[.string s, .int .i64 i] w (OneP w l i) := by
  obtain ⟨n, hn⟩ : ∃ n, s.size = n := ⟨_, rfl⟩
  have hln : l.length = n := by rw [← hl, ← sz_list, hn]
  have hin : i < n := by rw [← hln]; exact drop_lt hdr
  have hn5 : n ≤ 100000 := by omega
  have hi : i < s.size := by omega
  have hc : s[i] = c := by
    rw [byte_at s l hl i hi]
    have h1 : l[i]? = some c := by
      have h2 := List.drop_eq_getElem_cons (show i < l.length by omega)
      rw [hdr] at h2
      injection h2 with h3 h4
      rw [List.getElem?_eq_getElem (by omega), ← h3]
    rw [List.getD_eq_getElem?_getD, h1]; rfl
  have HO : Hid (oneL l i = oneC c r i n) := Lib.hid (by rw [oneL_C hdr, hln])
  have HDR := Lib.hid hdr; have HLN := Lib.hid hln; have HL := Lib.hid hl
  have hw1 : IntKind.i64.wrap ((i : Int) + 1) = (i : Int) + 1 := IntWalk.i64_in _ (by omega)
  have hi0 : (0 : Int) ≤ (i : Int) := by omega
  have hin' : (i : Int) < (n : Int) := by omega
  clear hdr hln hl
  have HO2 : Hid (oneL l i = (if spanL digB r = 0 then .inl (6, (i : Int)) else match numL 0 (r.take (spanL digB r)) with | none => .inl (5, (i : Int)) | some v => if v < 1 ∨ v > 4 then .inl (5, (i : Int)) else .inr (5, v, [], i + 1 + spanL digB r))) := Lib.hid (by rw [HO.out]; unfold oneC; rw [if_neg (by rw [h1]; decide), if_neg (by rw [h2]; decide), if_neg (by rw [h3]; decide), if_pos h3]; try rfl)
  have HLT : Hid (∀ W, Calls Tryd.prog 23 #[.int .u8 c.toNat] W fun e w' => e = .returned (.bool false) ∧ Drawn0 W w') := Lib.hid (fun W => by have h := letterR_ok c W; rw [h1] at h; exact h)
  have HDG : Hid (∀ W, Calls Tryd.prog 24 #[.int .u8 c.toNat] W fun e w' => e = .returned (.bool false) ∧ Drawn0 W w') := Lib.hid (fun W => by have h := digitR_ok c W; rw [h2] at h; exact h)
  have b39 : ((c.toNat : Int) == 39) = false := by rw [h3]; rfl
  have b36 : ((c.toNat : Int) == 36) = true := by rw [h3]; rfl
  obtain ⟨q, hq⟩ : ∃ q, spanL digB r = q := ⟨_, rfl⟩
  have hdn := drop_next HDR.out
  have hqn : i + 1 + q ≤ n := by
    have h3 := span_le digB r
    rw [← hdn, List.length_drop, HLN.out] at h3
    rw [hdn] at h3; omega
  obtain ⟨tp, hto⟩ : ∃ tp : Int, ((i + 1 + q : Nat) : Int) = tp := ⟨_, rfl⟩
  have HDS : Hid (∀ W, Calls Tryd.prog 27 #[.string s, .int .i64 ((i : Int) + 1)] W fun e w' => (∃ m : Int, e = .returned (.tuple #[.int .i64 (match numL 0 (r.take q) with | none => m | some v => v), .int .i64 tp, .bool (numL 0 (r.take q)).isNone])) ∧ Drawn0 W w') := Lib.hid (fun W => by
    have h := digitsR_ok s l HL.out (by rw [HLN.out]; exact hn5) (i + 1) (by rw [HLN.out]; omega) W
    rw [hdn, hq, hto] at h
    exact h)
  have HTO := Lib.hid hto
  rw [hq] at HO2
  clear hq h1 h2 h3 HO hdn hto
  go_enter Tryd.func12, Tryd.ntmps12
  go_upto_region 1 with (first | ((with_reducible refine gate_dst (N := 4) rfl ?_); refine box_event rfl (N := 4) rfl (cs := #[.int .i64 0, .int .i64 0, .int .i64 0, .string ⟨#[]⟩]) (t := 31) (by first | rfl | (go_simp; done) | (go_simp; rfl)) ?_; intro rb hgg w1 hbrb hBrb; have hrw : w.heap.size ≤ rb := (by omega); clear hgg))
  go_upto_region 2 with (first | ((with_reducible refine gate_dst (N := 8) rfl ?_); refine box_event rfl (N := 8) rfl (cs := #[.int .i64 0, .int .i64 0, .int .i64 0, .string ⟨#[]⟩]) (t := 31) (by first | rfl | (go_simp; done) | (go_simp; rfl)) ?_; intro tb hgg w2 hbtb hBtb; have htw : w1.heap.size ≤ tb := (by omega); clear hgg; have q0 : w2.cell? ⟨tb, 0, none⟩ = some (.int .i64 0) := ((bkC hbtb 0).trans rfl); have f0 := bkF hbtb 0; have q1 : w2.cell? ⟨tb, 1, none⟩ = some (.int .i64 0) := ((bkC hbtb 1).trans rfl); have f1 := bkF hbtb 1; have q2 : w2.cell? ⟨tb, 2, none⟩ = some (.int .i64 0) := ((bkC hbtb 2).trans rfl); have f2 := bkF hbtb 2; have q3 : w2.cell? ⟨tb, 3, none⟩ = some (.string ⟨#[]⟩) := ((bkC hbtb 3).trans rfl); have f3 := bkF hbtb 3))
  have hne : rb ≠ tb := by have := blk_lt hbrb; omega
  have E3 : Hid (OEnvT 31 w rb tb 0 0 i ⟨#[]⟩ 0 0 0 ⟨#[]⟩ ((((w2.setCell ⟨tb, 0, none⟩ (.int .i64 0)).setCell ⟨tb, 1, none⟩ (.int .i64 0)).setCell ⟨tb, 2, none⟩ (.int .i64 i)).setCell ⟨tb, 3, none⟩ (.string ⟨#[]⟩))) :=
    ⟨tk_belowT (hBrb.trans (hBtb.mono hBrb.size)) (Nat.le_trans hBrb.size htw) 0 0 i ⟨#[]⟩, tk_putT (k0 := 0) (n0 := 0) (a0 := 0) (s0 := ⟨#[]⟩) hbtb 0 0 i ⟨#[]⟩, tk_farT ((hBtb.block rb (blk_lt hbrb)).trans hbrb) hne 0 0 i ⟨#[]⟩, hne, hrw, Nat.le_trans hBrb.size htw⟩
  clear q0 q1 q2 q3 f0 f1 f2 f3 hbrb hBrb hbtb hBtb hne hrw htw
  generalize (((w2.setCell ⟨tb, 0, none⟩ (.int .i64 0)).setCell ⟨tb, 1, none⟩ (.int .i64 0)).setCell ⟨tb, 2, none⟩ (.int .i64 i)).setCell ⟨tb, 3, none⟩ (.string ⟨#[]⟩) = w3 at E3 ⊢
  have ht0 : w3.cell? ⟨tb, 0, none⟩ = some (.int .i64 0) := (bkC E3.out.tb_ 0).trans rfl; have htf0 := bkF E3.out.tb_ 0; have ht1 : w3.cell? ⟨tb, 1, none⟩ = some (.int .i64 0) := (bkC E3.out.tb_ 1).trans rfl; have htf1 := bkF E3.out.tb_ 1; have ht2 : w3.cell? ⟨tb, 2, none⟩ = some (.int .i64 i) := (bkC E3.out.tb_ 2).trans rfl; have htf2 := bkF E3.out.tb_ 2; have ht3 : w3.cell? ⟨tb, 3, none⟩ = some (.string ⟨#[]⟩) := (bkC E3.out.tb_ 3).trans rfl; have htf3 := bkF E3.out.tb_ 3; have hr0 : w3.cell? ⟨rb, 0, none⟩ = some (.int .i64 0) := (bkC E3.out.rb_ 0).trans rfl; have hrf0 := bkF E3.out.rb_ 0; have hr1 : w3.cell? ⟨rb, 1, none⟩ = some (.int .i64 0) := (bkC E3.out.rb_ 1).trans rfl; have hrf1 := bkF E3.out.rb_ 1; have hr2 : w3.cell? ⟨rb, 2, none⟩ = some (.int .i64 0) := (bkC E3.out.rb_ 2).trans rfl; have hrf2 := bkF E3.out.rb_ 2; have hr3 : w3.cell? ⟨rb, 3, none⟩ = some (.string ⟨#[]⟩) := (bkC E3.out.rb_ 3).trans rfl; have hrf3 := bkF E3.out.rb_ 3
  go_upto_region 21 with fail
  have HLT3 := Lib.hid (HLT.out w3)
  go_upto_region 34 with (go_at_call 23; refine HLT3.out.mono ?_; rintro e_ w4 ⟨rfl, hb_⟩)
  have E4 := Lib.hid (E3.out.later hb_.below)
  clear ht0 htf0 ht1 htf1 ht2 htf2 ht3 htf3 hr0 hrf0 hr1 hrf1 hr2 hrf2 hr3 hrf3 hb_
  have ht0 : w4.cell? ⟨tb, 0, none⟩ = some (.int .i64 0) := (bkC E4.out.tb_ 0).trans rfl; have htf0 := bkF E4.out.tb_ 0; have ht1 : w4.cell? ⟨tb, 1, none⟩ = some (.int .i64 0) := (bkC E4.out.tb_ 1).trans rfl; have htf1 := bkF E4.out.tb_ 1; have ht2 : w4.cell? ⟨tb, 2, none⟩ = some (.int .i64 i) := (bkC E4.out.tb_ 2).trans rfl; have htf2 := bkF E4.out.tb_ 2; have ht3 : w4.cell? ⟨tb, 3, none⟩ = some (.string ⟨#[]⟩) := (bkC E4.out.tb_ 3).trans rfl; have htf3 := bkF E4.out.tb_ 3; have hr0 : w4.cell? ⟨rb, 0, none⟩ = some (.int .i64 0) := (bkC E4.out.rb_ 0).trans rfl; have hrf0 := bkF E4.out.rb_ 0; have hr1 : w4.cell? ⟨rb, 1, none⟩ = some (.int .i64 0) := (bkC E4.out.rb_ 1).trans rfl; have hrf1 := bkF E4.out.rb_ 1; have hr2 : w4.cell? ⟨rb, 2, none⟩ = some (.int .i64 0) := (bkC E4.out.rb_ 2).trans rfl; have hrf2 := bkF E4.out.rb_ 2; have hr3 : w4.cell? ⟨rb, 3, none⟩ = some (.string ⟨#[]⟩) := (bkC E4.out.rb_ 3).trans rfl; have hrf3 := bkF E4.out.rb_ 3
  have HDG4 := Lib.hid (HDG.out w4)
  go_upto_region 41 with (go_at_call 24; refine HDG4.out.mono ?_; rintro e_ w5 ⟨rfl, hb_⟩)
  have E5 := Lib.hid (E4.out.later hb_.below)
  clear ht0 htf0 ht1 htf1 ht2 htf2 ht3 htf3 hr0 hrf0 hr1 hrf1 hr2 hrf2 hr3 hrf3 hb_
  have ht0 : w5.cell? ⟨tb, 0, none⟩ = some (.int .i64 0) := (bkC E5.out.tb_ 0).trans rfl; have htf0 := bkF E5.out.tb_ 0; have ht1 : w5.cell? ⟨tb, 1, none⟩ = some (.int .i64 0) := (bkC E5.out.tb_ 1).trans rfl; have htf1 := bkF E5.out.tb_ 1; have ht2 : w5.cell? ⟨tb, 2, none⟩ = some (.int .i64 i) := (bkC E5.out.tb_ 2).trans rfl; have htf2 := bkF E5.out.tb_ 2; have ht3 : w5.cell? ⟨tb, 3, none⟩ = some (.string ⟨#[]⟩) := (bkC E5.out.tb_ 3).trans rfl; have htf3 := bkF E5.out.tb_ 3; have hr0 : w5.cell? ⟨rb, 0, none⟩ = some (.int .i64 0) := (bkC E5.out.rb_ 0).trans rfl; have hrf0 := bkF E5.out.rb_ 0; have hr1 : w5.cell? ⟨rb, 1, none⟩ = some (.int .i64 0) := (bkC E5.out.rb_ 1).trans rfl; have hrf1 := bkF E5.out.rb_ 1; have hr2 : w5.cell? ⟨rb, 2, none⟩ = some (.int .i64 0) := (bkC E5.out.rb_ 2).trans rfl; have hrf2 := bkF E5.out.rb_ 2; have hr3 : w5.cell? ⟨rb, 3, none⟩ = some (.string ⟨#[]⟩) := (bkC E5.out.rb_ 3).trans rfl; have hrf3 := bkF E5.out.rb_ 3
  go_upto_region 56 with fail
  have HDS5 := Lib.hid (HDS.out w5)
  by_cases hq0 : q = 0
  · have bq : (tp == (i : Int) + 1) = true := beq_iff_eq.mpr (by have := HTO.out; omega)
    have HO3 := Lib.hid (HO2.out.trans (if_pos hq0))
    rw [show numL 0 (r.take q) = some 0 by rw [hq0, List.take_zero]; rfl] at HDS5
    simp only [Option.isNone_none, Option.isNone_some] at HDS5
    clear hq0
    go_upto_region 57 with (go_at_call 27; refine HDS5.out.mono ?_; rintro e_ w6 ⟨⟨m_, rfl⟩, hb_⟩)
    have E6 := Lib.hid (E5.out.later hb_.below)
    clear ht0 htf0 ht1 htf1 ht2 htf2 ht3 htf3 hr0 hrf0 hr1 hrf1 hr2 hrf2 hr3 hrf3 hb_
    have ht0 : w6.cell? ⟨tb, 0, none⟩ = some (.int .i64 0) := (bkC E6.out.tb_ 0).trans rfl; have htf0 := bkF E6.out.tb_ 0; have ht1 : w6.cell? ⟨tb, 1, none⟩ = some (.int .i64 0) := (bkC E6.out.tb_ 1).trans rfl; have htf1 := bkF E6.out.tb_ 1; have ht2 : w6.cell? ⟨tb, 2, none⟩ = some (.int .i64 i) := (bkC E6.out.tb_ 2).trans rfl; have htf2 := bkF E6.out.tb_ 2; have ht3 : w6.cell? ⟨tb, 3, none⟩ = some (.string ⟨#[]⟩) := (bkC E6.out.tb_ 3).trans rfl; have htf3 := bkF E6.out.tb_ 3; have hr0 : w6.cell? ⟨rb, 0, none⟩ = some (.int .i64 0) := (bkC E6.out.rb_ 0).trans rfl; have hrf0 := bkF E6.out.rb_ 0; have hr1 : w6.cell? ⟨rb, 1, none⟩ = some (.int .i64 0) := (bkC E6.out.rb_ 1).trans rfl; have hrf1 := bkF E6.out.rb_ 1; have hr2 : w6.cell? ⟨rb, 2, none⟩ = some (.int .i64 0) := (bkC E6.out.rb_ 2).trans rfl; have hrf2 := bkF E6.out.rb_ 2; have hr3 : w6.cell? ⟨rb, 3, none⟩ = some (.string ⟨#[]⟩) := (bkC E6.out.rb_ 3).trans rfl; have hrf3 := bkF E6.out.rb_ 3
    go_wp2_with fail
    exact bodyPost_ret (results_cttt (p := 4) (u := 5) (v := 6) (x := 7) rfl _ _ rb 31 (tkC (0) (0) (i) (⟨#[]⟩)) (0, 0) _ rfl (tk_putT E6.out.rb_ (0) (0) (i) (⟨#[]⟩)) Tryd.underlying31 rfl (by kernel_rfl)) rfl (one_inl HO3.out (tk_belowT E6.out.bl E6.out.rw_ (0) (0) (i) (⟨#[]⟩)))
  · have bq : (tp == (i : Int) + 1) = false := beq_eq_false_iff_ne.mpr (by have := HTO.out; omega)
    have HO3 := Lib.hid (HO2.out.trans (if_neg hq0))
    clear hq0
    cases hnl : numL 0 (r.take q) with
    | none =>
      rw [hnl] at HDS5
      have HO4 : Hid (oneL l i = .inl (5, (i : Int))) := by have h := HO3.out; rw [hnl] at h; exact Lib.hid h
      clear hnl
      simp only [Option.isNone_none, Option.isNone_some] at HDS5
      go_upto_region 57 with (go_at_call 27; refine HDS5.out.mono ?_; rintro e_ w6 ⟨⟨m_, rfl⟩, hb_⟩)
      have E6 := Lib.hid (E5.out.later hb_.below)
      clear ht0 htf0 ht1 htf1 ht2 htf2 ht3 htf3 hr0 hrf0 hr1 hrf1 hr2 hrf2 hr3 hrf3 hb_
      have ht0 : w6.cell? ⟨tb, 0, none⟩ = some (.int .i64 0) := (bkC E6.out.tb_ 0).trans rfl; have htf0 := bkF E6.out.tb_ 0; have ht1 : w6.cell? ⟨tb, 1, none⟩ = some (.int .i64 0) := (bkC E6.out.tb_ 1).trans rfl; have htf1 := bkF E6.out.tb_ 1; have ht2 : w6.cell? ⟨tb, 2, none⟩ = some (.int .i64 i) := (bkC E6.out.tb_ 2).trans rfl; have htf2 := bkF E6.out.tb_ 2; have ht3 : w6.cell? ⟨tb, 3, none⟩ = some (.string ⟨#[]⟩) := (bkC E6.out.tb_ 3).trans rfl; have htf3 := bkF E6.out.tb_ 3; have hr0 : w6.cell? ⟨rb, 0, none⟩ = some (.int .i64 0) := (bkC E6.out.rb_ 0).trans rfl; have hrf0 := bkF E6.out.rb_ 0; have hr1 : w6.cell? ⟨rb, 1, none⟩ = some (.int .i64 0) := (bkC E6.out.rb_ 1).trans rfl; have hrf1 := bkF E6.out.rb_ 1; have hr2 : w6.cell? ⟨rb, 2, none⟩ = some (.int .i64 0) := (bkC E6.out.rb_ 2).trans rfl; have hrf2 := bkF E6.out.rb_ 2; have hr3 : w6.cell? ⟨rb, 3, none⟩ = some (.string ⟨#[]⟩) := (bkC E6.out.rb_ 3).trans rfl; have hrf3 := bkF E6.out.rb_ 3
      go_wp2_with fail
      exact bodyPost_ret (results_cttt (p := 4) (u := 5) (v := 6) (x := 7) rfl _ _ rb 31 (tkC (0) (0) (i) (⟨#[]⟩)) (0, 0) _ rfl (tk_putT E6.out.rb_ (0) (0) (i) (⟨#[]⟩)) Tryd.underlying31 rfl (by kernel_rfl)) rfl (one_inl HO4.out (tk_belowT E6.out.bl E6.out.rw_ (0) (0) (i) (⟨#[]⟩)))
    | some v =>
      rw [hnl] at HDS5
      simp only [Option.isNone_none, Option.isNone_some] at HDS5
      by_cases hv : v < 1 ∨ v > 4
      · have HO4 : Hid (oneL l i = .inl (5, (i : Int))) := by have h := HO3.out; rw [hnl] at h; simp only [if_pos hv] at h; exact Lib.hid h
        clear hnl
        by_cases hlo : v < 1
        · clear hv
          go_upto_region 57 with (go_at_call 27; refine HDS5.out.mono ?_; rintro e_ w6 ⟨⟨m_, rfl⟩, hb_⟩)
          have E6 := Lib.hid (E5.out.later hb_.below)
          clear ht0 htf0 ht1 htf1 ht2 htf2 ht3 htf3 hr0 hrf0 hr1 hrf1 hr2 hrf2 hr3 hrf3 hb_
          have ht0 : w6.cell? ⟨tb, 0, none⟩ = some (.int .i64 0) := (bkC E6.out.tb_ 0).trans rfl; have htf0 := bkF E6.out.tb_ 0; have ht1 : w6.cell? ⟨tb, 1, none⟩ = some (.int .i64 0) := (bkC E6.out.tb_ 1).trans rfl; have htf1 := bkF E6.out.tb_ 1; have ht2 : w6.cell? ⟨tb, 2, none⟩ = some (.int .i64 i) := (bkC E6.out.tb_ 2).trans rfl; have htf2 := bkF E6.out.tb_ 2; have ht3 : w6.cell? ⟨tb, 3, none⟩ = some (.string ⟨#[]⟩) := (bkC E6.out.tb_ 3).trans rfl; have htf3 := bkF E6.out.tb_ 3; have hr0 : w6.cell? ⟨rb, 0, none⟩ = some (.int .i64 0) := (bkC E6.out.rb_ 0).trans rfl; have hrf0 := bkF E6.out.rb_ 0; have hr1 : w6.cell? ⟨rb, 1, none⟩ = some (.int .i64 0) := (bkC E6.out.rb_ 1).trans rfl; have hrf1 := bkF E6.out.rb_ 1; have hr2 : w6.cell? ⟨rb, 2, none⟩ = some (.int .i64 0) := (bkC E6.out.rb_ 2).trans rfl; have hrf2 := bkF E6.out.rb_ 2; have hr3 : w6.cell? ⟨rb, 3, none⟩ = some (.string ⟨#[]⟩) := (bkC E6.out.rb_ 3).trans rfl; have hrf3 := bkF E6.out.rb_ 3
          go_wp2_with fail
          exact bodyPost_ret (results_cttt (p := 4) (u := 5) (v := 6) (x := 7) rfl _ _ rb 31 (tkC (0) (0) (i) (⟨#[]⟩)) (0, 0) _ rfl (tk_putT E6.out.rb_ (0) (0) (i) (⟨#[]⟩)) Tryd.underlying31 rfl (by kernel_rfl)) rfl (one_inl HO4.out (tk_belowT E6.out.bl E6.out.rw_ (0) (0) (i) (⟨#[]⟩)))
        · have hhi : 4 < v := by omega
          clear hv
          go_upto_region 57 with (go_at_call 27; refine HDS5.out.mono ?_; rintro e_ w6 ⟨⟨m_, rfl⟩, hb_⟩)
          have E6 := Lib.hid (E5.out.later hb_.below)
          clear ht0 htf0 ht1 htf1 ht2 htf2 ht3 htf3 hr0 hrf0 hr1 hrf1 hr2 hrf2 hr3 hrf3 hb_
          have ht0 : w6.cell? ⟨tb, 0, none⟩ = some (.int .i64 0) := (bkC E6.out.tb_ 0).trans rfl; have htf0 := bkF E6.out.tb_ 0; have ht1 : w6.cell? ⟨tb, 1, none⟩ = some (.int .i64 0) := (bkC E6.out.tb_ 1).trans rfl; have htf1 := bkF E6.out.tb_ 1; have ht2 : w6.cell? ⟨tb, 2, none⟩ = some (.int .i64 i) := (bkC E6.out.tb_ 2).trans rfl; have htf2 := bkF E6.out.tb_ 2; have ht3 : w6.cell? ⟨tb, 3, none⟩ = some (.string ⟨#[]⟩) := (bkC E6.out.tb_ 3).trans rfl; have htf3 := bkF E6.out.tb_ 3; have hr0 : w6.cell? ⟨rb, 0, none⟩ = some (.int .i64 0) := (bkC E6.out.rb_ 0).trans rfl; have hrf0 := bkF E6.out.rb_ 0; have hr1 : w6.cell? ⟨rb, 1, none⟩ = some (.int .i64 0) := (bkC E6.out.rb_ 1).trans rfl; have hrf1 := bkF E6.out.rb_ 1; have hr2 : w6.cell? ⟨rb, 2, none⟩ = some (.int .i64 0) := (bkC E6.out.rb_ 2).trans rfl; have hrf2 := bkF E6.out.rb_ 2; have hr3 : w6.cell? ⟨rb, 3, none⟩ = some (.string ⟨#[]⟩) := (bkC E6.out.rb_ 3).trans rfl; have hrf3 := bkF E6.out.rb_ 3
          go_wp2_with fail
          exact bodyPost_ret (results_cttt (p := 4) (u := 5) (v := 6) (x := 7) rfl _ _ rb 31 (tkC (0) (0) (i) (⟨#[]⟩)) (0, 0) _ rfl (tk_putT E6.out.rb_ (0) (0) (i) (⟨#[]⟩)) Tryd.underlying31 rfl (by kernel_rfl)) rfl (one_inl HO4.out (tk_belowT E6.out.bl E6.out.rw_ (0) (0) (i) (⟨#[]⟩)))
      · have HO4 : Hid (oneL l i = .inr (5, v, [], i + 1 + q)) := by have h := HO3.out; rw [hnl] at h; simp only [if_neg hv] at h; exact Lib.hid h
        have hlo : ¬ v < 1 := by omega
        have hhi : ¬ 4 < v := by omega
        clear hnl hv
        go_upto_region 57 with (go_at_call 27; refine HDS5.out.mono ?_; rintro e_ w6 ⟨⟨m_, rfl⟩, hb_⟩)
        have E6 := Lib.hid (E5.out.later hb_.below)
        clear ht0 htf0 ht1 htf1 ht2 htf2 ht3 htf3 hr0 hrf0 hr1 hrf1 hr2 hrf2 hr3 hrf3 hb_
        have ht0 : w6.cell? ⟨tb, 0, none⟩ = some (.int .i64 0) := (bkC E6.out.tb_ 0).trans rfl; have htf0 := bkF E6.out.tb_ 0; have ht1 : w6.cell? ⟨tb, 1, none⟩ = some (.int .i64 0) := (bkC E6.out.tb_ 1).trans rfl; have htf1 := bkF E6.out.tb_ 1; have ht2 : w6.cell? ⟨tb, 2, none⟩ = some (.int .i64 i) := (bkC E6.out.tb_ 2).trans rfl; have htf2 := bkF E6.out.tb_ 2; have ht3 : w6.cell? ⟨tb, 3, none⟩ = some (.string ⟨#[]⟩) := (bkC E6.out.tb_ 3).trans rfl; have htf3 := bkF E6.out.tb_ 3; have hr0 : w6.cell? ⟨rb, 0, none⟩ = some (.int .i64 0) := (bkC E6.out.rb_ 0).trans rfl; have hrf0 := bkF E6.out.rb_ 0; have hr1 : w6.cell? ⟨rb, 1, none⟩ = some (.int .i64 0) := (bkC E6.out.rb_ 1).trans rfl; have hrf1 := bkF E6.out.rb_ 1; have hr2 : w6.cell? ⟨rb, 2, none⟩ = some (.int .i64 0) := (bkC E6.out.rb_ 2).trans rfl; have hrf2 := bkF E6.out.rb_ 2; have hr3 : w6.cell? ⟨rb, 3, none⟩ = some (.string ⟨#[]⟩) := (bkC E6.out.rb_ 3).trans rfl; have hrf3 := bkF E6.out.rb_ 3
        go_upto_region 63 with fail
        have E8 : Hid (OEnvT 31 w rb tb 5 v i ⟨#[]⟩ 0 0 0 ⟨#[]⟩ ((w6.setCell ⟨tb, 0, none⟩ (.int .i64 5)).setCell ⟨tb, 1, none⟩ (.int .i64 v))) := (E6.out.set 0 (.int .i64 5) (k1 := 5) (n1 := 0) (a1 := i) (x1 := ⟨#[]⟩) rfl).set 1 (.int .i64 v) rfl
        generalize (w6.setCell ⟨tb, 0, none⟩ (.int .i64 5)).setCell ⟨tb, 1, none⟩ (.int .i64 v) = w8 at E8 ⊢
        clear ht0 htf0 ht1 htf1 ht2 htf2 ht3 htf3 hr0 hrf0 hr1 hrf1 hr2 hrf2 hr3 hrf3
        have ht0 : w8.cell? ⟨tb, 0, none⟩ = some (.int .i64 5) := (bkC E8.out.tb_ 0).trans rfl; have htf0 := bkF E8.out.tb_ 0; have ht1 : w8.cell? ⟨tb, 1, none⟩ = some (.int .i64 v) := (bkC E8.out.tb_ 1).trans rfl; have htf1 := bkF E8.out.tb_ 1; have ht2 : w8.cell? ⟨tb, 2, none⟩ = some (.int .i64 i) := (bkC E8.out.tb_ 2).trans rfl; have htf2 := bkF E8.out.tb_ 2; have ht3 : w8.cell? ⟨tb, 3, none⟩ = some (.string ⟨#[]⟩) := (bkC E8.out.tb_ 3).trans rfl; have htf3 := bkF E8.out.tb_ 3; have hr0 : w8.cell? ⟨rb, 0, none⟩ = some (.int .i64 0) := (bkC E8.out.rb_ 0).trans rfl; have hrf0 := bkF E8.out.rb_ 0; have hr1 : w8.cell? ⟨rb, 1, none⟩ = some (.int .i64 0) := (bkC E8.out.rb_ 1).trans rfl; have hrf1 := bkF E8.out.rb_ 1; have hr2 : w8.cell? ⟨rb, 2, none⟩ = some (.int .i64 0) := (bkC E8.out.rb_ 2).trans rfl; have hrf2 := bkF E8.out.rb_ 2; have hr3 : w8.cell? ⟨rb, 3, none⟩ = some (.string ⟨#[]⟩) := (bkC E8.out.rb_ 3).trans rfl; have hrf3 := bkF E8.out.rb_ 3
        go_wp2_with fail
        exact bodyPost_ret (results_cttt (p := 4) (u := 5) (v := 6) (x := 7) rfl _ _ rb 31 (tkC (5) (v) (i) (⟨#[]⟩)) (0, 0) _ rfl (tk_putT E8.out.rb_ (5) (v) (i) (⟨#[]⟩)) Tryd.underlying31 rfl (by kernel_rfl)) rfl (one_inr (e := tp) HO4.out rfl HTO.out.symm (tk_belowT E8.out.bl E8.out.rw_ (5) (v) (i) (⟨#[]⟩)))
set_option maxHeartbeats 8000000 in
set_option maxRecDepth 100000 in
theorem oneR_letter (s : ByteArray) (l : List UInt8) (hl : s.data.toList = l) (i : Nat) (c : UInt8) (r : List UInt8) (hdr : l.drop i = c :: r) (w : World) (hs : s.size ≤ 100000) (h1 : letB c = true) :
    Calls Tryd.prog 12 #[.string s, .int .i64 i] w (OneP w l i) := by
  obtain ⟨n, hn⟩ : ∃ n, s.size = n := ⟨_, rfl⟩
  have hln : l.length = n := by rw [← hl, ← sz_list, hn]
  have hin : i < n := by rw [← hln]; exact drop_lt hdr
  have hn5 : n ≤ 100000 := by omega
  have hi : i < s.size := by omega
  have hc : s[i] = c := by
    rw [byte_at s l hl i hi]
    have h1 : l[i]? = some c := by
      have h2 := List.drop_eq_getElem_cons (show i < l.length by omega)
      rw [hdr] at h2
      injection h2 with h3 h4
      rw [List.getElem?_eq_getElem (by omega), ← h3]
    rw [List.getD_eq_getElem?_getD, h1]; rfl
  have HO : Hid (oneL l i = oneC c r i n) := Lib.hid (by rw [oneL_C hdr, hln])
  have HDR := Lib.hid hdr; have HLN := Lib.hid hln; have HL := Lib.hid hl
  have hw1 : IntKind.i64.wrap ((i : Int) + 1) = (i : Int) + 1 := IntWalk.i64_in _ (by omega)
  have hi0 : (0 : Int) ≤ (i : Int) := by omega
  have hin' : (i : Int) < (n : Int) := by omega
  clear hdr hln hl
  have HO2 : Hid (oneL l i = (if spanL wrdB (c :: r) > 20 then .inl (5, (i : Int)) else .inr (if isWord (lowL ((c :: r).take (spanL wrdB (c :: r)))) = true then 1 else 2, 0, lowL ((c :: r).take (spanL wrdB (c :: r))), i + spanL wrdB (c :: r)))) := Lib.hid (by rw [HO.out]; unfold oneC; rw [if_pos h1])
  have HLT : Hid (∀ (c : UInt8) W, Calls Tryd.prog 23 #[.int .u8 c.toNat] W fun e w' => e = .returned (.bool (letB c)) ∧ Drawn0 W w') := Lib.hid (fun c W => letterR_ok c W)
  have HDG : Hid (∀ (c : UInt8) W, Calls Tryd.prog 24 #[.int .u8 c.toNat] W fun e w' => e = .returned (.bool (digB c)) ∧ Drawn0 W w') := Lib.hid (fun c W => digitR_ok c W)
  have HLT0 : Hid (∀ W, Calls Tryd.prog 23 #[.int .u8 c.toNat] W fun e w' => e = .returned (.bool true) ∧ Drawn0 W w') := Lib.hid (fun W => by have h := letterR_ok c W; rw [h1] at h; exact h)
  have HW0 : Hid (wrdB c = true) := Lib.hid (by unfold wrdB; rw [h1]; rfl)
  have hlcr : (c :: r).length = n - i := by rw [← HDR.out, List.length_drop, HLN.out]
  have HLC := Lib.hid hlcr
  clear h1 HO hlcr
  go_enter Tryd.func12, Tryd.ntmps12
  go_upto_region 1 with (first | ((with_reducible refine gate_dst (N := 4) rfl ?_); refine box_event rfl (N := 4) rfl (cs := #[.int .i64 0, .int .i64 0, .int .i64 0, .string ⟨#[]⟩]) (t := 31) (by first | rfl | (go_simp; done) | (go_simp; rfl)) ?_; intro rb hgg w1 hbrb hBrb; have hrw : w.heap.size ≤ rb := (by omega); clear hgg))
  go_upto_region 2 with (first | ((with_reducible refine gate_dst (N := 8) rfl ?_); refine box_event rfl (N := 8) rfl (cs := #[.int .i64 0, .int .i64 0, .int .i64 0, .string ⟨#[]⟩]) (t := 31) (by first | rfl | (go_simp; done) | (go_simp; rfl)) ?_; intro tb hgg w2 hbtb hBtb; have htw : w1.heap.size ≤ tb := (by omega); clear hgg; have q0 : w2.cell? ⟨tb, 0, none⟩ = some (.int .i64 0) := ((bkC hbtb 0).trans rfl); have f0 := bkF hbtb 0; have q1 : w2.cell? ⟨tb, 1, none⟩ = some (.int .i64 0) := ((bkC hbtb 1).trans rfl); have f1 := bkF hbtb 1; have q2 : w2.cell? ⟨tb, 2, none⟩ = some (.int .i64 0) := ((bkC hbtb 2).trans rfl); have f2 := bkF hbtb 2; have q3 : w2.cell? ⟨tb, 3, none⟩ = some (.string ⟨#[]⟩) := ((bkC hbtb 3).trans rfl); have f3 := bkF hbtb 3))
  have hne : rb ≠ tb := by have := blk_lt hbrb; omega
  have E3 : Hid (OEnvT 31 w rb tb 0 0 i ⟨#[]⟩ 0 0 0 ⟨#[]⟩ ((((w2.setCell ⟨tb, 0, none⟩ (.int .i64 0)).setCell ⟨tb, 1, none⟩ (.int .i64 0)).setCell ⟨tb, 2, none⟩ (.int .i64 i)).setCell ⟨tb, 3, none⟩ (.string ⟨#[]⟩))) :=
    ⟨tk_belowT (hBrb.trans (hBtb.mono hBrb.size)) (Nat.le_trans hBrb.size htw) 0 0 i ⟨#[]⟩, tk_putT (k0 := 0) (n0 := 0) (a0 := 0) (s0 := ⟨#[]⟩) hbtb 0 0 i ⟨#[]⟩, tk_farT ((hBtb.block rb (blk_lt hbrb)).trans hbrb) hne 0 0 i ⟨#[]⟩, hne, hrw, Nat.le_trans hBrb.size htw⟩
  clear q0 q1 q2 q3 f0 f1 f2 f3 hbrb hBrb hbtb hBtb hne hrw htw
  generalize (((w2.setCell ⟨tb, 0, none⟩ (.int .i64 0)).setCell ⟨tb, 1, none⟩ (.int .i64 0)).setCell ⟨tb, 2, none⟩ (.int .i64 i)).setCell ⟨tb, 3, none⟩ (.string ⟨#[]⟩) = w3 at E3 ⊢
  have ht0 : w3.cell? ⟨tb, 0, none⟩ = some (.int .i64 0) := (bkC E3.out.tb_ 0).trans rfl; have htf0 := bkF E3.out.tb_ 0; have ht1 : w3.cell? ⟨tb, 1, none⟩ = some (.int .i64 0) := (bkC E3.out.tb_ 1).trans rfl; have htf1 := bkF E3.out.tb_ 1; have ht2 : w3.cell? ⟨tb, 2, none⟩ = some (.int .i64 i) := (bkC E3.out.tb_ 2).trans rfl; have htf2 := bkF E3.out.tb_ 2; have ht3 : w3.cell? ⟨tb, 3, none⟩ = some (.string ⟨#[]⟩) := (bkC E3.out.tb_ 3).trans rfl; have htf3 := bkF E3.out.tb_ 3; have hr0 : w3.cell? ⟨rb, 0, none⟩ = some (.int .i64 0) := (bkC E3.out.rb_ 0).trans rfl; have hrf0 := bkF E3.out.rb_ 0; have hr1 : w3.cell? ⟨rb, 1, none⟩ = some (.int .i64 0) := (bkC E3.out.rb_ 1).trans rfl; have hrf1 := bkF E3.out.rb_ 1; have hr2 : w3.cell? ⟨rb, 2, none⟩ = some (.int .i64 0) := (bkC E3.out.rb_ 2).trans rfl; have hrf2 := bkF E3.out.rb_ 2; have hr3 : w3.cell? ⟨rb, 3, none⟩ = some (.string ⟨#[]⟩) := (bkC E3.out.rb_ 3).trans rfl; have hrf3 := bkF E3.out.rb_ 3
  go_upto_region 21 with fail
  have HLT3 := Lib.hid (HLT0.out w3)
  go_upto_region 22 with (go_at_call 23; refine HLT3.out.mono ?_; rintro e_ w4 ⟨rfl, hb_⟩)
  have E4 := Lib.hid (E3.out.later hb_.below)
  clear ht0 htf0 ht1 htf1 ht2 htf2 ht3 htf3 hr0 hrf0 hr1 hrf1 hr2 hrf2 hr3 hrf3 hb_
  have ht0 : w4.cell? ⟨tb, 0, none⟩ = some (.int .i64 0) := (bkC E4.out.tb_ 0).trans rfl; have htf0 := bkF E4.out.tb_ 0; have ht1 : w4.cell? ⟨tb, 1, none⟩ = some (.int .i64 0) := (bkC E4.out.tb_ 1).trans rfl; have htf1 := bkF E4.out.tb_ 1; have ht2 : w4.cell? ⟨tb, 2, none⟩ = some (.int .i64 i) := (bkC E4.out.tb_ 2).trans rfl; have htf2 := bkF E4.out.tb_ 2; have ht3 : w4.cell? ⟨tb, 3, none⟩ = some (.string ⟨#[]⟩) := (bkC E4.out.tb_ 3).trans rfl; have htf3 := bkF E4.out.tb_ 3; have hr0 : w4.cell? ⟨rb, 0, none⟩ = some (.int .i64 0) := (bkC E4.out.rb_ 0).trans rfl; have hrf0 := bkF E4.out.rb_ 0; have hr1 : w4.cell? ⟨rb, 1, none⟩ = some (.int .i64 0) := (bkC E4.out.rb_ 1).trans rfl; have hrf1 := bkF E4.out.rb_ 1; have hr2 : w4.cell? ⟨rb, 2, none⟩ = some (.int .i64 0) := (bkC E4.out.rb_ 2).trans rfl; have hrf2 := bkF E4.out.rb_ 2; have hr3 : w4.cell? ⟨rb, 3, none⟩ = some (.string ⟨#[]⟩) := (bkC E4.out.rb_ 3).trans rfl; have hrf3 := bkF E4.out.rb_ 3
  clear ht0 htf0 ht1 htf1 ht2 htf2 ht3 htf3 hr0 hrf0 hr1 hrf1 hr2 hrf2 hr3 hrf3
  go_loopw [10] (fun v10 wr => ∃ j : Nat, 1 ≤ j ∧ i + j ≤ n ∧ v10 = .int .i64 ((i : Int) + j) ∧ Hid (OEnvT 31 w rb tb 0 0 i ⟨#[]⟩ 0 0 0 ⟨#[]⟩ wr) ∧ Hid (((c :: r).take j).all wrdB = true)) (fun v _ => n - (intOf v).toNat)
  case atStart => exact ⟨1, Nat.le_refl _, by omega, by go_num, E4, Lib.hid (by simp [HW0.out])⟩
  case round =>
    clear E4
    obtain ⟨j, hj1, hj2, rfl, E5, HA⟩ := hrel
    by_cases hlt : i + j < n
    · have hlt' : (i : Int) + j < n := by omega
      have hij0 : (0 : Int) ≤ (i : Int) + j := by omega
      have hijn : ((i : Int) + j).toNat = i + j := by omega
      have hk : i + j < s.size := by omega
      have hjd : j < (c :: r).length := by have := HLC.out; omega
      obtain ⟨d, hd⟩ : ∃ d, (c :: r)[j] = d := ⟨_, rfl⟩
      have hsd : s[i + j] = d := by
        rw [byte_at s l HL.out (i + j) hk, ← hd]
        have h2 : (l.drop i)[j]? = some ((c :: r)[j]) := by rw [HDR.out]; exact List.getElem?_eq_getElem hjd
        rw [List.getElem?_drop] at h2
        rw [List.getD_eq_getElem?_getD, h2]; rfl
      have hwj : IntKind.i64.wrap ((i : Int) + j + 1) = (i : Int) + j + 1 := IntWalk.i64_in _ (by omega)
      have HA2 : wrdB d = true → Hid (((c :: r).take (j + 1)).all wrdB = true) := fun h => Lib.hid (by rw [List.take_succ_eq_append_getElem hjd, List.all_append, HA.out, hd]; simp [h])
      have HD : Hid ((c :: r)[j]? = some d) := Lib.hid (by rw [List.getElem?_eq_getElem hjd, hd])
      clear hd hjd
      have HLd := Lib.hid (HLT.out d); have HDd := Lib.hid (HDG.out d)
      obtain ⟨bl, hbl⟩ : ∃ b, letB d = b := ⟨_, rfl⟩
      rw [hbl] at HLd
      cases bl with
      | true =>
        have HA3 := HA2 (by unfold wrdB; rw [hbl]; rfl)
        clear HA2 hbl
        go_wp2_with (first | (go_at_call 23; refine (HLd.out _).mono ?_; rintro e_ w5 ⟨rfl, hb_⟩; have HB5 := Lib.hid hb_.below; clear hb_))
        go_roundw
        case rel => exact ⟨j + 1, by omega, by omega, by go_num, Lib.hid (E5.out.later HB5.out), HA3⟩
        case measure => simp [intOf]; omega
      | false =>
        obtain ⟨bd, hbd⟩ : ∃ b, digB d = b := ⟨_, rfl⟩
        rw [hbd] at HDd
        cases bd with
        | true =>
          have HA3 := HA2 (by unfold wrdB; rw [hbl, hbd]; rfl)
          clear HA2 hbl hbd
          go_wp2_with (first | (go_at_call 23; refine (HLd.out _).mono ?_; rintro e_ w5 ⟨rfl, hb_⟩; have HB5 := Lib.hid hb_.below; clear hb_) | (go_at_call 24; refine (HDd.out _).mono ?_; rintro e_ w6 ⟨rfl, hb_⟩; have HB6 := Lib.hid hb_.below; clear hb_))
          go_roundw
          case rel => exact ⟨j + 1, by omega, by omega, by go_num, Lib.hid ((E5.out.later HB5.out).later HB6.out), HA3⟩
          case measure => simp [intOf]; omega
        | false =>
          by_cases h95 : d = 95
          · have HA3 := HA2 (by unfold wrdB; rw [h95]; rfl)
            have b95 : ((d.toNat : Int) == 95) = true := by rw [h95]; rfl
            clear HA2 hbl hbd h95
            go_wp2_with (first | (go_at_call 23; refine (HLd.out _).mono ?_; rintro e_ w5 ⟨rfl, hb_⟩; have HB5 := Lib.hid hb_.below; clear hb_) | (go_at_call 24; refine (HDd.out _).mono ?_; rintro e_ w6 ⟨rfl, hb_⟩; have HB6 := Lib.hid hb_.below; clear hb_))
            go_roundw
            case rel => exact ⟨j + 1, by omega, by omega, by go_num, Lib.hid ((E5.out.later HB5.out).later HB6.out), HA3⟩
            case measure => simp [intOf]; omega
          · have hwf : wrdB d = false := by unfold wrdB; rw [hbl, hbd]; simpa using h95
            have HSP : Hid (spanL wrdB (c :: r) = j) := Lib.hid (span_stop wrdB (c :: r) j (by have := HLC.out; omega) HA.out (.inr ⟨d, HD.out, hwf⟩))
            have b95 : ((d.toNat : Int) == 95) = false := beq_eq_false_iff_ne.mpr (u8_ne (n := 95) h95 (by decide))
            clear HA2 hbl hbd h95 hwf
            go_upto_region 24 with (first | (go_at_call 23; refine (HLd.out _).mono ?_; rintro e_ w5 ⟨rfl, hb_⟩; have HB5 := Lib.hid hb_.below; clear hb_) | (go_at_call 24; refine (HDd.out _).mono ?_; rintro e_ w6 ⟨rfl, hb_⟩; have HB6 := Lib.hid hb_.below; clear hb_))
            have E7 := Lib.hid ((E5.out.later HB5.out).later HB6.out)
            have HO3 : Hid (oneL l i = (if j > 20 then .inl (5, (i : Int)) else .inr (if isWord (lowL ((c :: r).take j)) = true then 1 else 2, 0, lowL ((c :: r).take j), i + j))) := Lib.hid (by have h := HO2.out; rw [HSP.out] at h; exact h)
            obtain ⟨tx, htx⟩ : ∃ tx, lowL ((c :: r).take j) = tx := ⟨_, rfl⟩
            rw [htx] at HO3
            have hit : (i : Int).toNat = i := by omega
            have hiq : (i : Int) + j ≤ n := by omega
            have hiq1 : (i : Int) ≤ (i : Int) + j := by omega
            have hiq2 : ((i : Int) + j).toNat = i + j := by omega
            have HSM : Hid (∀ W, Calls Tryd.prog 25 #[.string (s.extract i (i + j))] W fun e w' => e = .returned (.string ⟨tx.toArray⟩) ∧ Below W.heap.size W w') := Lib.hid (fun W => by
              have he : (s.extract i (i + j)).data.toList = (c :: r).take j := by rw [ext_list, HL.out, HDR.out]; congr 1; omega
              have h := small_ok (s.extract i (i + j)) _ he W (by rw [ByteArray.size_extract]; omega)
              rw [htx] at h; exact h)
            have HTX : Hid (tx.length = j) := Lib.hid (by rw [← htx, lowL_len, List.length_take, HLC.out]; omega)
            have HWD : Hid (∀ W, Calls Tryd.prog 26 #[] W fun e w' => ∃ v0_ : Value, e = .returned v0_ ∧ Kd.R Kd.string 9 w' W.heap.size (fun _ => True) v0_ wordsB ∧ Below W.heap.size W w') := Lib.hid (fun W => q05_Words.calls _ W wordsB_f)
            clear htx
            have ht0 : w6.cell? ⟨tb, 0, none⟩ = some (.int .i64 0) := (bkC E7.out.tb_ 0).trans rfl; have htf0 := bkF E7.out.tb_ 0; have ht1 : w6.cell? ⟨tb, 1, none⟩ = some (.int .i64 0) := (bkC E7.out.tb_ 1).trans rfl; have htf1 := bkF E7.out.tb_ 1; have ht2 : w6.cell? ⟨tb, 2, none⟩ = some (.int .i64 i) := (bkC E7.out.tb_ 2).trans rfl; have htf2 := bkF E7.out.tb_ 2; have ht3 : w6.cell? ⟨tb, 3, none⟩ = some (.string ⟨#[]⟩) := (bkC E7.out.tb_ 3).trans rfl; have htf3 := bkF E7.out.tb_ 3; have hr0 : w6.cell? ⟨rb, 0, none⟩ = some (.int .i64 0) := (bkC E7.out.rb_ 0).trans rfl; have hrf0 := bkF E7.out.rb_ 0; have hr1 : w6.cell? ⟨rb, 1, none⟩ = some (.int .i64 0) := (bkC E7.out.rb_ 1).trans rfl; have hrf1 := bkF E7.out.rb_ 1; have hr2 : w6.cell? ⟨rb, 2, none⟩ = some (.int .i64 0) := (bkC E7.out.rb_ 2).trans rfl; have hrf2 := bkF E7.out.rb_ 2; have hr3 : w6.cell? ⟨rb, 3, none⟩ = some (.string ⟨#[]⟩) := (bkC E7.out.rb_ 3).trans rfl; have hrf3 := bkF E7.out.rb_ 3
            go_upto_region 25 with fail
            have E8 : Hid (OEnvT 31 w rb tb 2 0 i ⟨#[]⟩ 0 0 0 ⟨#[]⟩ (w6.setCell ⟨tb, 0, none⟩ (.int .i64 2))) := Lib.hid (OEnvT.set E7.out 0 (.int .i64 2) (k1 := 2) (n1 := 0) (a1 := i) (x1 := ⟨#[]⟩) rfl)
            clear ht0 htf0 ht1 htf1 ht2 htf2 ht3 htf3 hr0 hrf0 hr1 hrf1 hr2 hrf2 hr3 hrf3
            generalize w6.setCell ⟨tb, 0, none⟩ (.int .i64 2) = w7 at E8 ⊢
            go_upto_region 26 with (go_at_call 25; refine (HSM.out _).mono ?_; rintro e_ w8 ⟨rfl, hb_⟩; have E9 := Lib.hid (E8.out.later hb_); clear hb_; have ht0 : w8.cell? ⟨tb, 0, none⟩ = some (.int .i64 2) := (bkC E9.out.tb_ 0).trans rfl; have htf0 := bkF E9.out.tb_ 0; have ht1 : w8.cell? ⟨tb, 1, none⟩ = some (.int .i64 0) := (bkC E9.out.tb_ 1).trans rfl; have htf1 := bkF E9.out.tb_ 1; have ht2 : w8.cell? ⟨tb, 2, none⟩ = some (.int .i64 i) := (bkC E9.out.tb_ 2).trans rfl; have htf2 := bkF E9.out.tb_ 2; have ht3 : w8.cell? ⟨tb, 3, none⟩ = some (.string ⟨#[]⟩) := (bkC E9.out.tb_ 3).trans rfl; have htf3 := bkF E9.out.tb_ 3; have hr0 : w8.cell? ⟨rb, 0, none⟩ = some (.int .i64 0) := (bkC E9.out.rb_ 0).trans rfl; have hrf0 := bkF E9.out.rb_ 0; have hr1 : w8.cell? ⟨rb, 1, none⟩ = some (.int .i64 0) := (bkC E9.out.rb_ 1).trans rfl; have hrf1 := bkF E9.out.rb_ 1; have hr2 : w8.cell? ⟨rb, 2, none⟩ = some (.int .i64 0) := (bkC E9.out.rb_ 2).trans rfl; have hrf2 := bkF E9.out.rb_ 2; have hr3 : w8.cell? ⟨rb, 3, none⟩ = some (.string ⟨#[]⟩) := (bkC E9.out.rb_ 3).trans rfl; have hrf3 := bkF E9.out.rb_ 3)
            have E10 : Hid (OEnvT 31 w rb tb 2 0 i ⟨tx.toArray⟩ 0 0 0 ⟨#[]⟩ (w8.setCell ⟨tb, 3, none⟩ (.string ⟨tx.toArray⟩))) := Lib.hid (OEnvT.set E9.out 3 (.string ⟨tx.toArray⟩) (k1 := 2) (n1 := 0) (a1 := i) (x1 := ⟨tx.toArray⟩) rfl)
            clear ht0 htf0 ht1 htf1 ht2 htf2 ht3 htf3 hr0 hrf0 hr1 hrf1 hr2 hrf2 hr3 hrf3
            generalize w8.setCell ⟨tb, 3, none⟩ (.string ⟨tx.toArray⟩) = w9 at E10 ⊢
            go_upto_region 27 with (go_at_call 26; refine (HWD.out _).mono ?_; rintro e_ w10 ⟨v0_, rfl, hR_, hb_⟩; have HR_ := Lib.hid hR_; have E11 := Lib.hid (E10.out.later hb_); have HSZ := Lib.hid hb_.size; clear hb_ hR_; obtain ⟨g, cap, rfl, hg1, hg2, _⟩ := Kd.R_form HR_.out (by decide +kernel : 0 < wordsB.length); rw [wordsB_len] at HR_ ⊢)
            have HR : Hid (Kd.R Kd.string 9 w10 (tb + 1) (fun k => k ≠ tb) (.slice (some ⟨g, 0, none⟩) 25 cap) wordsB) := Lib.hid (word_row HR_.out (blk_lt E10.out.tb_))
            clear HR_ hg1 hg2 HSZ
            go_upto_region 28 with fail
            go_loopw [12] (fun v12 wr => ∃ (q : Nat) (kk : Int), q ≤ 25 ∧ v12 = .int .i64 (q : Int) ∧ Hid (OEnvT 31 w rb tb kk 0 i ⟨tx.toArray⟩ 0 0 0 ⟨#[]⟩ wr) ∧ Hid (Kd.R Kd.string 9 wr (tb + 1) (fun k => k ≠ tb) (.slice (some ⟨g, 0, none⟩) 25 cap) wordsB) ∧ Hid (kk = if tx ∈ wordsL.take q then 1 else 2)) (fun v _ => 25 - (intOf v).toNat)
            case atStart => exact ⟨0, 2, by omega, rfl, E11, HR, Lib.hid (by rw [List.take_zero]; simp)⟩
            case round =>
              clear E11 HR
              obtain ⟨q, kk, hq25, rfl, E12, HR, HK⟩ := hrel
              have ht0 : wr.cell? ⟨tb, 0, none⟩ = some (.int .i64 kk) := (bkC E12.out.tb_ 0).trans rfl; have htf0 := bkF E12.out.tb_ 0; have ht1 : wr.cell? ⟨tb, 1, none⟩ = some (.int .i64 0) := (bkC E12.out.tb_ 1).trans rfl; have htf1 := bkF E12.out.tb_ 1; have ht2 : wr.cell? ⟨tb, 2, none⟩ = some (.int .i64 i) := (bkC E12.out.tb_ 2).trans rfl; have htf2 := bkF E12.out.tb_ 2; have ht3 : wr.cell? ⟨tb, 3, none⟩ = some (.string ⟨tx.toArray⟩) := (bkC E12.out.tb_ 3).trans rfl; have htf3 := bkF E12.out.tb_ 3; have hr0 : wr.cell? ⟨rb, 0, none⟩ = some (.int .i64 0) := (bkC E12.out.rb_ 0).trans rfl; have hrf0 := bkF E12.out.rb_ 0; have hr1 : wr.cell? ⟨rb, 1, none⟩ = some (.int .i64 0) := (bkC E12.out.rb_ 1).trans rfl; have hrf1 := bkF E12.out.rb_ 1; have hr2 : wr.cell? ⟨rb, 2, none⟩ = some (.int .i64 0) := (bkC E12.out.rb_ 2).trans rfl; have hrf2 := bkF E12.out.rb_ 2; have hr3 : wr.cell? ⟨rb, 3, none⟩ = some (.string ⟨#[]⟩) := (bkC E12.out.rb_ 3).trans rfl; have hrf3 := bkF E12.out.rb_ 3
              by_cases hq : q < 25
              · have hq' : (q : Int) < 25 := by omega
                have hq0 : (0 : Int) ≤ (q : Int) := by omega
                have hqt : (q : Int).toNat = q := by omega
                have hqw : IntKind.i64.wrap ((q : Int) + 1) = (q : Int) + 1 := IntWalk.i64_in _ (by omega)
                obtain ⟨hc_, hcf_⟩ := word_cell HR.out q hq
                obtain ⟨wl, hwl⟩ : ∃ wl, wordsL.getD q [] = wl := ⟨_, rfl⟩
                rw [hwl] at hc_
                have HWL := Lib.hid hwl
                clear hwl
                by_cases hwt : wl = tx
                · have HK2 : Hid ((1 : Int) = if tx ∈ wordsL.take (q + 1) then 1 else 2) := Lib.hid (word_yes q hq (HWL.out.trans hwt))
                  subst hwt
                  clear HK HWL
                  go_upto_region 30 with fail
                  go_wp2_with (first | (go_region))
                  refine ⟨⟨q + 1, 1, by omega, by go_num, Lib.hid ((oenv_drewT E12.out).set 0 (.int .i64 1) (k1 := 1) (n1 := 0) (a1 := i) (x1 := ⟨wl.toArray⟩) rfl), Lib.hid (Kd.R_far (Kd.R_drew HR.out) (fun k hk => hk) _), HK2⟩, by simp [intOf]; omega⟩
                · have HK2 : Hid (kk = if tx ∈ wordsL.take (q + 1) then 1 else 2) := Lib.hid (HK.out.trans (word_no q hq (by rw [HWL.out]; exact hwt)))
                  have hbe : (wl == tx) = false := beq_eq_false_iff_ne.mpr hwt
                  clear HK HWL hwt
                  go_upto_region 30 with fail
                  go_wp2_with (first | (go_region))
                  exact ⟨⟨q + 1, kk, by omega, by go_num, Lib.hid (oenv_drewT E12.out), Lib.hid (Kd.R_drew HR.out), HK2⟩, by simp [intOf]; omega⟩
              · have hq' : ¬ (q : Int) < 25 := by omega
                have HK2 : Hid (kk = if isWord tx = true then 1 else 2) := Lib.hid (by rw [HK.out, word_end q (by omega)])
                clear HK
                by_cases h20 : j > 20
                · have h20' : (20 : Int) < (j : Int) := by omega
                  have HO4 := Lib.hid (HO3.out.trans (if_pos h20))
                  have htl := HTX.out
                  go_wp2_with fail
                  exact bodyPost_ret (results_cttt (p := 4) (u := 5) (v := 6) (x := 7) rfl _ _ rb 31 (tkC (kk) (0) (i) (⟨tx.toArray⟩)) (0, 0) _ rfl (tk_putT E12.out.rb_ (kk) (0) (i) (⟨tx.toArray⟩)) Tryd.underlying31 rfl (by kernel_rfl)) rfl (one_inl HO4.out (tk_belowT E12.out.bl E12.out.rw_ (kk) (0) (i) (⟨tx.toArray⟩)))
                · have h20' : ¬ (20 : Int) < (j : Int) := by omega
                  have HO4 : Hid (oneL l i = .inr (kk, 0, tx, i + j)) := Lib.hid (by have h := HO3.out; rw [if_neg h20, ← HK2.out] at h; exact h)
                  have htl := HTX.out
                  go_wp2_with fail
                  exact bodyPost_ret (results_cttt (p := 4) (u := 5) (v := 6) (x := 7) rfl _ _ rb 31 (tkC (kk) (0) (i) (⟨tx.toArray⟩)) (0, 0) _ rfl (tk_putT E12.out.rb_ (kk) (0) (i) (⟨tx.toArray⟩)) Tryd.underlying31 rfl (by kernel_rfl)) rfl (one_inr (e := (i : Int) + j) HO4.out rfl (by omega) (tk_belowT E12.out.bl E12.out.rw_ (kk) (0) (i) (⟨tx.toArray⟩)))
    · have hlt' : ¬ (i : Int) + j < n := by omega
      have HSP : Hid (spanL wrdB (c :: r) = j) := Lib.hid (span_stop wrdB (c :: r) j (by have := HLC.out; omega) HA.out (.inl (by have := HLC.out; omega)))
      go_upto_region 24 with fail
      have HO3 : Hid (oneL l i = (if j > 20 then .inl (5, (i : Int)) else .inr (if isWord (lowL ((c :: r).take j)) = true then 1 else 2, 0, lowL ((c :: r).take j), i + j))) := Lib.hid (by have h := HO2.out; rw [HSP.out] at h; exact h)
      obtain ⟨tx, htx⟩ : ∃ tx, lowL ((c :: r).take j) = tx := ⟨_, rfl⟩
      rw [htx] at HO3
      have hit : (i : Int).toNat = i := by omega
      have hiq : (i : Int) + j ≤ n := by omega
      have hiq1 : (i : Int) ≤ (i : Int) + j := by omega
      have hiq2 : ((i : Int) + j).toNat = i + j := by omega
      have HSM : Hid (∀ W, Calls Tryd.prog 25 #[.string (s.extract i (i + j))] W fun e w' => e = .returned (.string ⟨tx.toArray⟩) ∧ Below W.heap.size W w') := Lib.hid (fun W => by
        have he : (s.extract i (i + j)).data.toList = (c :: r).take j := by rw [ext_list, HL.out, HDR.out]; congr 1; omega
        have h := small_ok (s.extract i (i + j)) _ he W (by rw [ByteArray.size_extract]; omega)
        rw [htx] at h; exact h)
      have HTX : Hid (tx.length = j) := Lib.hid (by rw [← htx, lowL_len, List.length_take, HLC.out]; omega)
      have HWD : Hid (∀ W, Calls Tryd.prog 26 #[] W fun e w' => ∃ v0_ : Value, e = .returned v0_ ∧ Kd.R Kd.string 9 w' W.heap.size (fun _ => True) v0_ wordsB ∧ Below W.heap.size W w') := Lib.hid (fun W => q05_Words.calls _ W wordsB_f)
      clear htx
      have ht0 : wr.cell? ⟨tb, 0, none⟩ = some (.int .i64 0) := (bkC E5.out.tb_ 0).trans rfl; have htf0 := bkF E5.out.tb_ 0; have ht1 : wr.cell? ⟨tb, 1, none⟩ = some (.int .i64 0) := (bkC E5.out.tb_ 1).trans rfl; have htf1 := bkF E5.out.tb_ 1; have ht2 : wr.cell? ⟨tb, 2, none⟩ = some (.int .i64 i) := (bkC E5.out.tb_ 2).trans rfl; have htf2 := bkF E5.out.tb_ 2; have ht3 : wr.cell? ⟨tb, 3, none⟩ = some (.string ⟨#[]⟩) := (bkC E5.out.tb_ 3).trans rfl; have htf3 := bkF E5.out.tb_ 3; have hr0 : wr.cell? ⟨rb, 0, none⟩ = some (.int .i64 0) := (bkC E5.out.rb_ 0).trans rfl; have hrf0 := bkF E5.out.rb_ 0; have hr1 : wr.cell? ⟨rb, 1, none⟩ = some (.int .i64 0) := (bkC E5.out.rb_ 1).trans rfl; have hrf1 := bkF E5.out.rb_ 1; have hr2 : wr.cell? ⟨rb, 2, none⟩ = some (.int .i64 0) := (bkC E5.out.rb_ 2).trans rfl; have hrf2 := bkF E5.out.rb_ 2; have hr3 : wr.cell? ⟨rb, 3, none⟩ = some (.string ⟨#[]⟩) := (bkC E5.out.rb_ 3).trans rfl; have hrf3 := bkF E5.out.rb_ 3
      go_upto_region 25 with fail
      have E8 : Hid (OEnvT 31 w rb tb 2 0 i ⟨#[]⟩ 0 0 0 ⟨#[]⟩ (wr.setCell ⟨tb, 0, none⟩ (.int .i64 2))) := Lib.hid (OEnvT.set E5.out 0 (.int .i64 2) (k1 := 2) (n1 := 0) (a1 := i) (x1 := ⟨#[]⟩) rfl)
      clear ht0 htf0 ht1 htf1 ht2 htf2 ht3 htf3 hr0 hrf0 hr1 hrf1 hr2 hrf2 hr3 hrf3
      generalize wr.setCell ⟨tb, 0, none⟩ (.int .i64 2) = w7 at E8 ⊢
      go_upto_region 26 with (go_at_call 25; refine (HSM.out _).mono ?_; rintro e_ w8 ⟨rfl, hb_⟩; have E9 := Lib.hid (E8.out.later hb_); clear hb_; have ht0 : w8.cell? ⟨tb, 0, none⟩ = some (.int .i64 2) := (bkC E9.out.tb_ 0).trans rfl; have htf0 := bkF E9.out.tb_ 0; have ht1 : w8.cell? ⟨tb, 1, none⟩ = some (.int .i64 0) := (bkC E9.out.tb_ 1).trans rfl; have htf1 := bkF E9.out.tb_ 1; have ht2 : w8.cell? ⟨tb, 2, none⟩ = some (.int .i64 i) := (bkC E9.out.tb_ 2).trans rfl; have htf2 := bkF E9.out.tb_ 2; have ht3 : w8.cell? ⟨tb, 3, none⟩ = some (.string ⟨#[]⟩) := (bkC E9.out.tb_ 3).trans rfl; have htf3 := bkF E9.out.tb_ 3; have hr0 : w8.cell? ⟨rb, 0, none⟩ = some (.int .i64 0) := (bkC E9.out.rb_ 0).trans rfl; have hrf0 := bkF E9.out.rb_ 0; have hr1 : w8.cell? ⟨rb, 1, none⟩ = some (.int .i64 0) := (bkC E9.out.rb_ 1).trans rfl; have hrf1 := bkF E9.out.rb_ 1; have hr2 : w8.cell? ⟨rb, 2, none⟩ = some (.int .i64 0) := (bkC E9.out.rb_ 2).trans rfl; have hrf2 := bkF E9.out.rb_ 2; have hr3 : w8.cell? ⟨rb, 3, none⟩ = some (.string ⟨#[]⟩) := (bkC E9.out.rb_ 3).trans rfl; have hrf3 := bkF E9.out.rb_ 3)
      have E10 : Hid (OEnvT 31 w rb tb 2 0 i ⟨tx.toArray⟩ 0 0 0 ⟨#[]⟩ (w8.setCell ⟨tb, 3, none⟩ (.string ⟨tx.toArray⟩))) := Lib.hid (OEnvT.set E9.out 3 (.string ⟨tx.toArray⟩) (k1 := 2) (n1 := 0) (a1 := i) (x1 := ⟨tx.toArray⟩) rfl)
      clear ht0 htf0 ht1 htf1 ht2 htf2 ht3 htf3 hr0 hrf0 hr1 hrf1 hr2 hrf2 hr3 hrf3
      generalize w8.setCell ⟨tb, 3, none⟩ (.string ⟨tx.toArray⟩) = w9 at E10 ⊢
      go_upto_region 27 with (go_at_call 26; refine (HWD.out _).mono ?_; rintro e_ w10 ⟨v0_, rfl, hR_, hb_⟩; have HR_ := Lib.hid hR_; have E11 := Lib.hid (E10.out.later hb_); have HSZ := Lib.hid hb_.size; clear hb_ hR_; obtain ⟨g, cap, rfl, hg1, hg2, _⟩ := Kd.R_form HR_.out (by decide +kernel : 0 < wordsB.length); rw [wordsB_len] at HR_ ⊢)
      have HR : Hid (Kd.R Kd.string 9 w10 (tb + 1) (fun k => k ≠ tb) (.slice (some ⟨g, 0, none⟩) 25 cap) wordsB) := Lib.hid (word_row HR_.out (blk_lt E10.out.tb_))
      clear HR_ hg1 hg2 HSZ
      go_upto_region 28 with fail
      go_loopw [12] (fun v12 wr => ∃ (q : Nat) (kk : Int), q ≤ 25 ∧ v12 = .int .i64 (q : Int) ∧ Hid (OEnvT 31 w rb tb kk 0 i ⟨tx.toArray⟩ 0 0 0 ⟨#[]⟩ wr) ∧ Hid (Kd.R Kd.string 9 wr (tb + 1) (fun k => k ≠ tb) (.slice (some ⟨g, 0, none⟩) 25 cap) wordsB) ∧ Hid (kk = if tx ∈ wordsL.take q then 1 else 2)) (fun v _ => 25 - (intOf v).toNat)
      case atStart => exact ⟨0, 2, by omega, rfl, E11, HR, Lib.hid (by rw [List.take_zero]; simp)⟩
      case round =>
        clear E11 HR
        obtain ⟨q, kk, hq25, rfl, E12, HR, HK⟩ := hrel
        have ht0 : wr.cell? ⟨tb, 0, none⟩ = some (.int .i64 kk) := (bkC E12.out.tb_ 0).trans rfl; have htf0 := bkF E12.out.tb_ 0; have ht1 : wr.cell? ⟨tb, 1, none⟩ = some (.int .i64 0) := (bkC E12.out.tb_ 1).trans rfl; have htf1 := bkF E12.out.tb_ 1; have ht2 : wr.cell? ⟨tb, 2, none⟩ = some (.int .i64 i) := (bkC E12.out.tb_ 2).trans rfl; have htf2 := bkF E12.out.tb_ 2; have ht3 : wr.cell? ⟨tb, 3, none⟩ = some (.string ⟨tx.toArray⟩) := (bkC E12.out.tb_ 3).trans rfl; have htf3 := bkF E12.out.tb_ 3; have hr0 : wr.cell? ⟨rb, 0, none⟩ = some (.int .i64 0) := (bkC E12.out.rb_ 0).trans rfl; have hrf0 := bkF E12.out.rb_ 0; have hr1 : wr.cell? ⟨rb, 1, none⟩ = some (.int .i64 0) := (bkC E12.out.rb_ 1).trans rfl; have hrf1 := bkF E12.out.rb_ 1; have hr2 : wr.cell? ⟨rb, 2, none⟩ = some (.int .i64 0) := (bkC E12.out.rb_ 2).trans rfl; have hrf2 := bkF E12.out.rb_ 2; have hr3 : wr.cell? ⟨rb, 3, none⟩ = some (.string ⟨#[]⟩) := (bkC E12.out.rb_ 3).trans rfl; have hrf3 := bkF E12.out.rb_ 3
        by_cases hq : q < 25
        · have hq' : (q : Int) < 25 := by omega
          have hq0 : (0 : Int) ≤ (q : Int) := by omega
          have hqt : (q : Int).toNat = q := by omega
          have hqw : IntKind.i64.wrap ((q : Int) + 1) = (q : Int) + 1 := IntWalk.i64_in _ (by omega)
          obtain ⟨hc_, hcf_⟩ := word_cell HR.out q hq
          obtain ⟨wl, hwl⟩ : ∃ wl, wordsL.getD q [] = wl := ⟨_, rfl⟩
          rw [hwl] at hc_
          have HWL := Lib.hid hwl
          clear hwl
          by_cases hwt : wl = tx
          · have HK2 : Hid ((1 : Int) = if tx ∈ wordsL.take (q + 1) then 1 else 2) := Lib.hid (word_yes q hq (HWL.out.trans hwt))
            subst hwt
            clear HK HWL
            go_upto_region 30 with fail
            go_wp2_with (first | (go_region))
            refine ⟨⟨q + 1, 1, by omega, by go_num, Lib.hid ((oenv_drewT E12.out).set 0 (.int .i64 1) (k1 := 1) (n1 := 0) (a1 := i) (x1 := ⟨wl.toArray⟩) rfl), Lib.hid (Kd.R_far (Kd.R_drew HR.out) (fun k hk => hk) _), HK2⟩, by simp [intOf]; omega⟩
          · have HK2 : Hid (kk = if tx ∈ wordsL.take (q + 1) then 1 else 2) := Lib.hid (HK.out.trans (word_no q hq (by rw [HWL.out]; exact hwt)))
            have hbe : (wl == tx) = false := beq_eq_false_iff_ne.mpr hwt
            clear HK HWL hwt
            go_upto_region 30 with fail
            go_wp2_with (first | (go_region))
            exact ⟨⟨q + 1, kk, by omega, by go_num, Lib.hid (oenv_drewT E12.out), Lib.hid (Kd.R_drew HR.out), HK2⟩, by simp [intOf]; omega⟩
        · have hq' : ¬ (q : Int) < 25 := by omega
          have HK2 : Hid (kk = if isWord tx = true then 1 else 2) := Lib.hid (by rw [HK.out, word_end q (by omega)])
          clear HK
          by_cases h20 : j > 20
          · have h20' : (20 : Int) < (j : Int) := by omega
            have HO4 := Lib.hid (HO3.out.trans (if_pos h20))
            have htl := HTX.out
            go_wp2_with fail
            exact bodyPost_ret (results_cttt (p := 4) (u := 5) (v := 6) (x := 7) rfl _ _ rb 31 (tkC (kk) (0) (i) (⟨tx.toArray⟩)) (0, 0) _ rfl (tk_putT E12.out.rb_ (kk) (0) (i) (⟨tx.toArray⟩)) Tryd.underlying31 rfl (by kernel_rfl)) rfl (one_inl HO4.out (tk_belowT E12.out.bl E12.out.rw_ (kk) (0) (i) (⟨tx.toArray⟩)))
          · have h20' : ¬ (20 : Int) < (j : Int) := by omega
            have HO4 : Hid (oneL l i = .inr (kk, 0, tx, i + j)) := Lib.hid (by have h := HO3.out; rw [if_neg h20, ← HK2.out] at h; exact h)
            have htl := HTX.out
            go_wp2_with fail
            exact bodyPost_ret (results_cttt (p := 4) (u := 5) (v := 6) (x := 7) rfl _ _ rb 31 (tkC (kk) (0) (i) (⟨tx.toArray⟩)) (0, 0) _ rfl (tk_putT E12.out.rb_ (kk) (0) (i) (⟨tx.toArray⟩)) Tryd.underlying31 rfl (by kernel_rfl)) rfl (one_inr (e := (i : Int) + j) HO4.out rfl (by omega) (tk_belowT E12.out.bl E12.out.rw_ (kk) (0) (i) (⟨tx.toArray⟩)))
set_option maxHeartbeats 8000000 in
set_option maxRecDepth 100000 in
theorem oneR_text (s : ByteArray) (l : List UInt8) (hl : s.data.toList = l) (i : Nat) (c : UInt8) (r : List UInt8) (hdr : l.drop i = c :: r) (w : World) (hs : s.size ≤ 100000) (h1 : letB c = false) (h2 : digB c = false) (h3 : c = 39) :
    Calls Tryd.prog 12 #[.string s, .int .i64 i] w (OneP w l i) := by
  obtain ⟨n, hn⟩ : ∃ n, s.size = n := ⟨_, rfl⟩
  have hln : l.length = n := by rw [← hl, ← sz_list, hn]
  have hin : i < n := by rw [← hln]; exact drop_lt hdr
  have hn5 : n ≤ 100000 := by omega
  have hi : i < s.size := by omega
  have hc : s[i] = c := by
    rw [byte_at s l hl i hi]
    have h1 : l[i]? = some c := by
      have h2 := List.drop_eq_getElem_cons (show i < l.length by omega)
      rw [hdr] at h2
      injection h2 with h3 h4
      rw [List.getElem?_eq_getElem (by omega), ← h3]
    rw [List.getD_eq_getElem?_getD, h1]; rfl
  have HO : Hid (oneL l i = oneC c r i n) := Lib.hid (by rw [oneL_C hdr, hln])
  have HDR := Lib.hid hdr; have HLN := Lib.hid hln; have HL := Lib.hid hl
  have hw1 : IntKind.i64.wrap ((i : Int) + 1) = (i : Int) + 1 := IntWalk.i64_in _ (by omega)
  have hi0 : (0 : Int) ≤ (i : Int) := by omega
  have hin' : (i : Int) < (n : Int) := by omega
  clear hdr hln hl
  have HO2 : Hid (oneL l i = match quotL r with | none => .inl (6, (n : Int)) | some p => if p.1.length > 40 then .inl (5, (i : Int)) else .inr (4, 0, p.1, i + 1 + p.2)) := Lib.hid (by rw [HO.out]; unfold oneC; rw [if_neg (by rw [h1]; decide), if_neg (by rw [h2]; decide), if_pos h3]; try rfl)
  have HLT : Hid (∀ W, Calls Tryd.prog 23 #[.int .u8 c.toNat] W fun e w' => e = .returned (.bool false) ∧ Drawn0 W w') := Lib.hid (fun W => by have h := letterR_ok c W; rw [h1] at h; exact h)
  have HDG : Hid (∀ W, Calls Tryd.prog 24 #[.int .u8 c.toNat] W fun e w' => e = .returned (.bool false) ∧ Drawn0 W w') := Lib.hid (fun W => by have h := digitR_ok c W; rw [h2] at h; exact h)
  have b39 : ((c.toNat : Int) == 39) = true := by rw [h3]; rfl
  have HDN := Lib.hid (drop_next HDR.out)
  clear h1 h2 h3 HO
  go_enter Tryd.func12, Tryd.ntmps12
  go_upto_region 1 with (first | ((with_reducible refine gate_dst (N := 4) rfl ?_); refine box_event rfl (N := 4) rfl (cs := #[.int .i64 0, .int .i64 0, .int .i64 0, .string ⟨#[]⟩]) (t := 31) (by first | rfl | (go_simp; done) | (go_simp; rfl)) ?_; intro rb hgg w1 hbrb hBrb; have hrw : w.heap.size ≤ rb := (by omega); clear hgg))
  go_upto_region 2 with (first | ((with_reducible refine gate_dst (N := 8) rfl ?_); refine box_event rfl (N := 8) rfl (cs := #[.int .i64 0, .int .i64 0, .int .i64 0, .string ⟨#[]⟩]) (t := 31) (by first | rfl | (go_simp; done) | (go_simp; rfl)) ?_; intro tb hgg w2 hbtb hBtb; have htw : w1.heap.size ≤ tb := (by omega); clear hgg; have q0 : w2.cell? ⟨tb, 0, none⟩ = some (.int .i64 0) := ((bkC hbtb 0).trans rfl); have f0 := bkF hbtb 0; have q1 : w2.cell? ⟨tb, 1, none⟩ = some (.int .i64 0) := ((bkC hbtb 1).trans rfl); have f1 := bkF hbtb 1; have q2 : w2.cell? ⟨tb, 2, none⟩ = some (.int .i64 0) := ((bkC hbtb 2).trans rfl); have f2 := bkF hbtb 2; have q3 : w2.cell? ⟨tb, 3, none⟩ = some (.string ⟨#[]⟩) := ((bkC hbtb 3).trans rfl); have f3 := bkF hbtb 3))
  have hne : rb ≠ tb := by have := blk_lt hbrb; omega
  have E3 : Hid (OEnvT 31 w rb tb 0 0 i ⟨#[]⟩ 0 0 0 ⟨#[]⟩ ((((w2.setCell ⟨tb, 0, none⟩ (.int .i64 0)).setCell ⟨tb, 1, none⟩ (.int .i64 0)).setCell ⟨tb, 2, none⟩ (.int .i64 i)).setCell ⟨tb, 3, none⟩ (.string ⟨#[]⟩))) :=
    ⟨tk_belowT (hBrb.trans (hBtb.mono hBrb.size)) (Nat.le_trans hBrb.size htw) 0 0 i ⟨#[]⟩, tk_putT (k0 := 0) (n0 := 0) (a0 := 0) (s0 := ⟨#[]⟩) hbtb 0 0 i ⟨#[]⟩, tk_farT ((hBtb.block rb (blk_lt hbrb)).trans hbrb) hne 0 0 i ⟨#[]⟩, hne, hrw, Nat.le_trans hBrb.size htw⟩
  clear q0 q1 q2 q3 f0 f1 f2 f3 hbrb hBrb hbtb hBtb hne hrw htw
  generalize (((w2.setCell ⟨tb, 0, none⟩ (.int .i64 0)).setCell ⟨tb, 1, none⟩ (.int .i64 0)).setCell ⟨tb, 2, none⟩ (.int .i64 i)).setCell ⟨tb, 3, none⟩ (.string ⟨#[]⟩) = w3 at E3 ⊢
  have ht0 : w3.cell? ⟨tb, 0, none⟩ = some (.int .i64 0) := (bkC E3.out.tb_ 0).trans rfl; have htf0 := bkF E3.out.tb_ 0; have ht1 : w3.cell? ⟨tb, 1, none⟩ = some (.int .i64 0) := (bkC E3.out.tb_ 1).trans rfl; have htf1 := bkF E3.out.tb_ 1; have ht2 : w3.cell? ⟨tb, 2, none⟩ = some (.int .i64 i) := (bkC E3.out.tb_ 2).trans rfl; have htf2 := bkF E3.out.tb_ 2; have ht3 : w3.cell? ⟨tb, 3, none⟩ = some (.string ⟨#[]⟩) := (bkC E3.out.tb_ 3).trans rfl; have htf3 := bkF E3.out.tb_ 3; have hr0 : w3.cell? ⟨rb, 0, none⟩ = some (.int .i64 0) := (bkC E3.out.rb_ 0).trans rfl; have hrf0 := bkF E3.out.rb_ 0; have hr1 : w3.cell? ⟨rb, 1, none⟩ = some (.int .i64 0) := (bkC E3.out.rb_ 1).trans rfl; have hrf1 := bkF E3.out.rb_ 1; have hr2 : w3.cell? ⟨rb, 2, none⟩ = some (.int .i64 0) := (bkC E3.out.rb_ 2).trans rfl; have hrf2 := bkF E3.out.rb_ 2; have hr3 : w3.cell? ⟨rb, 3, none⟩ = some (.string ⟨#[]⟩) := (bkC E3.out.rb_ 3).trans rfl; have hrf3 := bkF E3.out.rb_ 3
  go_upto_region 21 with fail
  have HLT3 := Lib.hid (HLT.out w3)
  go_upto_region 34 with (go_at_call 23; refine HLT3.out.mono ?_; rintro e_ w4 ⟨rfl, hb_⟩)
  have E4 := Lib.hid (E3.out.later hb_.below)
  clear ht0 htf0 ht1 htf1 ht2 htf2 ht3 htf3 hr0 hrf0 hr1 hrf1 hr2 hrf2 hr3 hrf3 hb_
  have ht0 : w4.cell? ⟨tb, 0, none⟩ = some (.int .i64 0) := (bkC E4.out.tb_ 0).trans rfl; have htf0 := bkF E4.out.tb_ 0; have ht1 : w4.cell? ⟨tb, 1, none⟩ = some (.int .i64 0) := (bkC E4.out.tb_ 1).trans rfl; have htf1 := bkF E4.out.tb_ 1; have ht2 : w4.cell? ⟨tb, 2, none⟩ = some (.int .i64 i) := (bkC E4.out.tb_ 2).trans rfl; have htf2 := bkF E4.out.tb_ 2; have ht3 : w4.cell? ⟨tb, 3, none⟩ = some (.string ⟨#[]⟩) := (bkC E4.out.tb_ 3).trans rfl; have htf3 := bkF E4.out.tb_ 3; have hr0 : w4.cell? ⟨rb, 0, none⟩ = some (.int .i64 0) := (bkC E4.out.rb_ 0).trans rfl; have hrf0 := bkF E4.out.rb_ 0; have hr1 : w4.cell? ⟨rb, 1, none⟩ = some (.int .i64 0) := (bkC E4.out.rb_ 1).trans rfl; have hrf1 := bkF E4.out.rb_ 1; have hr2 : w4.cell? ⟨rb, 2, none⟩ = some (.int .i64 0) := (bkC E4.out.rb_ 2).trans rfl; have hrf2 := bkF E4.out.rb_ 2; have hr3 : w4.cell? ⟨rb, 3, none⟩ = some (.string ⟨#[]⟩) := (bkC E4.out.rb_ 3).trans rfl; have hrf3 := bkF E4.out.rb_ 3
  have HDG4 := Lib.hid (HDG.out w4)
  go_upto_region 41 with (go_at_call 24; refine HDG4.out.mono ?_; rintro e_ w5 ⟨rfl, hb_⟩)
  have E5 := Lib.hid (E4.out.later hb_.below)
  clear ht0 htf0 ht1 htf1 ht2 htf2 ht3 htf3 hr0 hrf0 hr1 hrf1 hr2 hrf2 hr3 hrf3 hb_
  have ht0 : w5.cell? ⟨tb, 0, none⟩ = some (.int .i64 0) := (bkC E5.out.tb_ 0).trans rfl; have htf0 := bkF E5.out.tb_ 0; have ht1 : w5.cell? ⟨tb, 1, none⟩ = some (.int .i64 0) := (bkC E5.out.tb_ 1).trans rfl; have htf1 := bkF E5.out.tb_ 1; have ht2 : w5.cell? ⟨tb, 2, none⟩ = some (.int .i64 i) := (bkC E5.out.tb_ 2).trans rfl; have htf2 := bkF E5.out.tb_ 2; have ht3 : w5.cell? ⟨tb, 3, none⟩ = some (.string ⟨#[]⟩) := (bkC E5.out.tb_ 3).trans rfl; have htf3 := bkF E5.out.tb_ 3; have hr0 : w5.cell? ⟨rb, 0, none⟩ = some (.int .i64 0) := (bkC E5.out.rb_ 0).trans rfl; have hrf0 := bkF E5.out.rb_ 0; have hr1 : w5.cell? ⟨rb, 1, none⟩ = some (.int .i64 0) := (bkC E5.out.rb_ 1).trans rfl; have hrf1 := bkF E5.out.rb_ 1; have hr2 : w5.cell? ⟨rb, 2, none⟩ = some (.int .i64 0) := (bkC E5.out.rb_ 2).trans rfl; have hrf2 := bkF E5.out.rb_ 2; have hr3 : w5.cell? ⟨rb, 3, none⟩ = some (.string ⟨#[]⟩) := (bkC E5.out.rb_ 3).trans rfl; have hrf3 := bkF E5.out.rb_ 3
  go_upto_region 43 with fail
  have E6 : Hid (OEnvT 31 w rb tb 4 0 i ⟨#[]⟩ 0 0 0 ⟨#[]⟩ (w5.setCell ⟨tb, 0, none⟩ (.int .i64 4))) := Lib.hid (OEnvT.set E5.out 0 (.int .i64 4) (k1 := 4) (n1 := 0) (a1 := i) (x1 := ⟨#[]⟩) rfl)
  generalize w5.setCell ⟨tb, 0, none⟩ (.int .i64 4) = w6 at E6 ⊢
  clear ht0 htf0 ht1 htf1 ht2 htf2 ht3 htf3 hr0 hrf0 hr1 hrf1 hr2 hrf2 hr3 hrf3
  go_upto_region 44 with fail
  go_loopw [10, 16] (fun v10 v16 wr => ∃ (e : Nat) (acc : List UInt8), i + 1 ≤ e ∧ e ≤ n ∧ acc.length ≤ e ∧ v10 = .int .i64 (e : Int) ∧ Hid (Kd.R (Kd.int .u8) 5 wr w6.heap.size (fun _ => True) v16 (intsOf acc)) ∧ Hid (Below w6.heap.size w6 wr) ∧ Hid (quotL r = (quotL (l.drop e)).map (fun p => (acc ++ p.1, p.2 + (e - (i + 1)))))) (fun v10 _ _ => n - (intOf v10).toNat)
  case atStart => exact ⟨i + 1, [], by omega, by omega, by simp, by go_num, Lib.hid (Kd.R_nil _ _ _ _ _), Lib.hid (Below.refl _ _), Lib.hid (by rw [HDN.out]; simp)⟩
  case round =>
    obtain ⟨e, acc, he1, hen, hacc, rfl, HR, HB, HQ⟩ := hrel
    have E7 := Lib.hid (E6.out.later HB.out)
    by_cases hlt : e < n
    · have hlt' : ¬ (n : Int) ≤ (e : Int) := by omega
      have he0 : (0 : Int) ≤ (e : Int) := by omega
      have hei : (e : Int) < (n : Int) := by omega
      have het : (e : Int).toNat = e := by omega
      have hk : e < s.size := by omega
      have hwe : IntKind.i64.wrap ((e : Int) + 1) = (e : Int) + 1 := IntWalk.i64_in _ (by omega)
      have hle : e < l.length := by rw [HLN.out]; exact hlt
      obtain ⟨d, hd⟩ : ∃ d, l[e] = d := ⟨_, rfl⟩
      have hdl : l.drop e = d :: l.drop (e + 1) := by rw [List.drop_eq_getElem_cons hle, hd]
      have hsd : s[e] = d := by rw [byte_at s l HL.out e hk, List.getD_eq_getElem?_getD, List.getElem?_eq_getElem hle, hd]; rfl
      have HDL := Lib.hid hdl
      clear hdl hd hle
      have hsnoc := Lib.hid (intsOf_snoc acc d)
      have hil := Lib.hid (intsOf_len acc)
      by_cases h39 : d = 39
      · have d39 : ((d.toNat : Int) == 39) = true := by rw [h39]; rfl
        by_cases hl1 : e + 1 < n
        · have hl1' : ((e : Int) + 1 == (n : Int)) = false := beq_eq_false_iff_ne.mpr (by omega)
          have he10 : (0 : Int) ≤ (e : Int) + 1 := by omega
          have he11 : (e : Int) + 1 < (n : Int) := by omega
          have he1t : ((e : Int) + 1).toNat = e + 1 := by omega
          have hk1 : e + 1 < s.size := by omega
          have hle : e + 1 < l.length := by rw [HLN.out]; exact hl1
          obtain ⟨d', hd⟩ : ∃ d, l[e + 1] = d := ⟨_, rfl⟩
          have hdl : l.drop (e + 1) = d' :: l.drop (e + 2) := by rw [List.drop_eq_getElem_cons hle, hd]
          have hsd' : s[e + 1] = d' := by rw [byte_at s l HL.out (e + 1) hk1, List.getD_eq_getElem?_getD, List.getElem?_eq_getElem hle, hd]; rfl
          have HDL' := Lib.hid hdl
          have hwe1 : IntKind.i64.wrap ((e : Int) + 1 + 1) = (e : Int) + 1 + 1 := IntWalk.i64_in _ (by omega)
          clear hdl hd hle
          by_cases h39' : d' = 39
          · have d39' : ((d'.toNat : Int) == 39) = true := by rw [h39']; rfl
            have d39n : ((d'.toNat : Int) != 39) = false := by rw [h39']; rfl
            have hsnoc' := Lib.hid (intsOf_snoc acc d')
            have HQ2 : Hid (quotL r = (quotL (l.drop (e + 2))).map (fun p => ((acc ++ [d']) ++ p.1, p.2 + (e + 2 - (i + 1))))) := Lib.hid (by rw [HQ.out, HDL.out, HDL'.out, quotL, if_pos h39, if_pos h39', h39']; cases quotL (l.drop (e + 2)) with | none => rfl | some p => (simp; omega))
            clear h39 h39'
            go_wp2_with ((with_reducible refine gate_builtin (b := .append) (xs := #[.tmp 195, .tmp 199]) rfl ?_); at_builtin; refine Kd.R_append (Kd.int .u8) (w0 := w6) w6.heap.size rfl (.tmp 195) (.tmp 199) 36 5 (.int .u8 0) 1 rfl Tryd.underlying36 info5 rfl (by decide) (by omega) _ (intsOf acc) (d'.toNat : Int) [.int .u8 (d'.toNat : Int)] (fun _ => True) (fun _ => False) rfl rfl ?aP (fun _ hk => hk.elim) ?aF ?aO ?aB ?aS ?aL ?_; (case aP => exact rfl); (case aB => exact HB.out); (case aF => exact (fun _ _ => trivial)); (case aO => exact HR.out); (case aS => exact HB.out.size); (case aL => have := hil.out; omega); intro v1 w9 ho hb hg hat; have HR2 := Lib.hid ho; have HB3 := Lib.hid hb; clear ho hb hg hat)
            go_roundw
            case rel => exact ⟨e + 2, acc ++ [d'], by omega, by omega, by simp; omega, by go_num, by rw [← hsnoc'.out]; exact HR2, HB3, HQ2⟩
            case measure => simp [intOf]; omega
          · have d39' : ((d'.toNat : Int) == 39) = false := beq_eq_false_iff_ne.mpr (u8_ne (n := 39) h39' (by decide))
            have d39n : ((d'.toNat : Int) != 39) = true := bne_iff_ne.mpr (u8_ne (n := 39) h39' (by decide))
            have HQ2 : Hid (quotL r = some (acc, 1 + (e - (i + 1)))) := Lib.hid (by rw [HQ.out, HDL.out, HDL'.out, quotL, if_pos h39, if_neg h39']; simp)
            clear h39 h39'
            obtain ⟨A16, c16, rfl, hle16, hC⟩ := Kd.R_reads HR.out
            have HO3 : Hid (oneL l i = if acc.length > 40 then .inl (5, (i : Int)) else .inr (4, 0, acc, i + 1 + (1 + (e - (i + 1))))) := Lib.hid (by have h := HO2.out; rw [HQ2.out] at h; exact h)
            have hcv := Kd.C_string (P := Tryd.prog) (src := 36) (dst := 9) (c := c16) Tryd.underlying36 Tryd.underlying5 Tryd.underlying9 hC
            rw [strOf_ints] at hcv
            have HIL := Lib.hid hil.out
            have ht0 : wr.cell? ⟨tb, 0, none⟩ = some (.int .i64 4) := (bkC E7.out.tb_ 0).trans rfl; have htf0 := bkF E7.out.tb_ 0; have ht1 : wr.cell? ⟨tb, 1, none⟩ = some (.int .i64 0) := (bkC E7.out.tb_ 1).trans rfl; have htf1 := bkF E7.out.tb_ 1; have ht2 : wr.cell? ⟨tb, 2, none⟩ = some (.int .i64 i) := (bkC E7.out.tb_ 2).trans rfl; have htf2 := bkF E7.out.tb_ 2; have ht3 : wr.cell? ⟨tb, 3, none⟩ = some (.string ⟨#[]⟩) := (bkC E7.out.tb_ 3).trans rfl; have htf3 := bkF E7.out.tb_ 3; have hr0 : wr.cell? ⟨rb, 0, none⟩ = some (.int .i64 0) := (bkC E7.out.rb_ 0).trans rfl; have hrf0 := bkF E7.out.rb_ 0; have hr1 : wr.cell? ⟨rb, 1, none⟩ = some (.int .i64 0) := (bkC E7.out.rb_ 1).trans rfl; have hrf1 := bkF E7.out.rb_ 1; have hr2 : wr.cell? ⟨rb, 2, none⟩ = some (.int .i64 0) := (bkC E7.out.rb_ 2).trans rfl; have hrf2 := bkF E7.out.rb_ 2; have hr3 : wr.cell? ⟨rb, 3, none⟩ = some (.string ⟨#[]⟩) := (bkC E7.out.rb_ 3).trans rfl; have hrf3 := bkF E7.out.rb_ 3
            go_upto_region 53 with fail
            have E8 : Hid (OEnvT 31 w rb tb 4 0 i ⟨acc.toArray⟩ 0 0 0 ⟨#[]⟩ (wr.setCell ⟨tb, 3, none⟩ (.string ⟨acc.toArray⟩))) := Lib.hid (OEnvT.set E7.out 3 (.string ⟨acc.toArray⟩) (k1 := 4) (n1 := 0) (a1 := i) (x1 := ⟨acc.toArray⟩) rfl)
            generalize wr.setCell ⟨tb, 3, none⟩ (.string ⟨acc.toArray⟩) = w8 at E8 ⊢
            clear ht0 htf0 ht1 htf1 ht2 htf2 ht3 htf3 hr0 hrf0 hr1 hrf1 hr2 hrf2 hr3 hrf3 hcv hC
            have ht0 : w8.cell? ⟨tb, 0, none⟩ = some (.int .i64 4) := (bkC E8.out.tb_ 0).trans rfl; have htf0 := bkF E8.out.tb_ 0; have ht1 : w8.cell? ⟨tb, 1, none⟩ = some (.int .i64 0) := (bkC E8.out.tb_ 1).trans rfl; have htf1 := bkF E8.out.tb_ 1; have ht2 : w8.cell? ⟨tb, 2, none⟩ = some (.int .i64 i) := (bkC E8.out.tb_ 2).trans rfl; have htf2 := bkF E8.out.tb_ 2; have ht3 : w8.cell? ⟨tb, 3, none⟩ = some (.string ⟨acc.toArray⟩) := (bkC E8.out.tb_ 3).trans rfl; have htf3 := bkF E8.out.tb_ 3; have hr0 : w8.cell? ⟨rb, 0, none⟩ = some (.int .i64 0) := (bkC E8.out.rb_ 0).trans rfl; have hrf0 := bkF E8.out.rb_ 0; have hr1 : w8.cell? ⟨rb, 1, none⟩ = some (.int .i64 0) := (bkC E8.out.rb_ 1).trans rfl; have hrf1 := bkF E8.out.rb_ 1; have hr2 : w8.cell? ⟨rb, 2, none⟩ = some (.int .i64 0) := (bkC E8.out.rb_ 2).trans rfl; have hrf2 := bkF E8.out.rb_ 2; have hr3 : w8.cell? ⟨rb, 3, none⟩ = some (.string ⟨#[]⟩) := (bkC E8.out.rb_ 3).trans rfl; have hrf3 := bkF E8.out.rb_ 3
            by_cases h40 : acc.length > 40
            · have h40' : (40 : Int) < (acc.length : Int) := by omega
              have h41' : (40 : Int) < ((intsOf acc).length : Int) := by rw [HIL.out]; omega
              have HO4 := Lib.hid (HO3.out.trans (if_pos h40))
              go_wp2_with fail
              exact bodyPost_ret (results_cttt (p := 4) (u := 5) (v := 6) (x := 7) rfl _ _ rb 31 (tkC (4) (0) (i) (⟨acc.toArray⟩)) (0, 0) _ rfl (tk_putT E8.out.rb_ (4) (0) (i) (⟨acc.toArray⟩)) Tryd.underlying31 rfl (by kernel_rfl)) rfl (one_inl HO4.out (tk_belowT E8.out.bl E8.out.rw_ (4) (0) (i) (⟨acc.toArray⟩)))
            · have h40' : ¬ (40 : Int) < (acc.length : Int) := by omega
              have h41' : ¬ (40 : Int) < ((intsOf acc).length : Int) := by rw [HIL.out]; omega
              have HO4 := Lib.hid (HO3.out.trans (if_neg h40))
              go_wp2_with fail
              exact bodyPost_ret (results_cttt (p := 4) (u := 5) (v := 6) (x := 7) rfl _ _ rb 31 (tkC (4) (0) (i) (⟨acc.toArray⟩)) (0, 0) _ rfl (tk_putT E8.out.rb_ (4) (0) (i) (⟨acc.toArray⟩)) Tryd.underlying31 rfl (by kernel_rfl)) rfl (one_inr (e := (e : Int) + 1) HO4.out rfl (by omega) (tk_belowT E8.out.bl E8.out.rw_ (4) (0) (i) (⟨acc.toArray⟩)))
        · have hl1' : ((e : Int) + 1 == (n : Int)) = true := beq_iff_eq.mpr (by omega)
          have HQ2 : Hid (quotL r = some (acc, 1 + (e - (i + 1)))) := Lib.hid (by rw [HQ.out, HDL.out, List.drop_eq_nil_of_le (by rw [HLN.out]; omega), quotL, if_pos h39]; simp)
          clear h39
          obtain ⟨A16, c16, rfl, hle16, hC⟩ := Kd.R_reads HR.out
          have HO3 : Hid (oneL l i = if acc.length > 40 then .inl (5, (i : Int)) else .inr (4, 0, acc, i + 1 + (1 + (e - (i + 1))))) := Lib.hid (by have h := HO2.out; rw [HQ2.out] at h; exact h)
          have hcv := Kd.C_string (P := Tryd.prog) (src := 36) (dst := 9) (c := c16) Tryd.underlying36 Tryd.underlying5 Tryd.underlying9 hC
          rw [strOf_ints] at hcv
          have HIL := Lib.hid hil.out
          have ht0 : wr.cell? ⟨tb, 0, none⟩ = some (.int .i64 4) := (bkC E7.out.tb_ 0).trans rfl; have htf0 := bkF E7.out.tb_ 0; have ht1 : wr.cell? ⟨tb, 1, none⟩ = some (.int .i64 0) := (bkC E7.out.tb_ 1).trans rfl; have htf1 := bkF E7.out.tb_ 1; have ht2 : wr.cell? ⟨tb, 2, none⟩ = some (.int .i64 i) := (bkC E7.out.tb_ 2).trans rfl; have htf2 := bkF E7.out.tb_ 2; have ht3 : wr.cell? ⟨tb, 3, none⟩ = some (.string ⟨#[]⟩) := (bkC E7.out.tb_ 3).trans rfl; have htf3 := bkF E7.out.tb_ 3; have hr0 : wr.cell? ⟨rb, 0, none⟩ = some (.int .i64 0) := (bkC E7.out.rb_ 0).trans rfl; have hrf0 := bkF E7.out.rb_ 0; have hr1 : wr.cell? ⟨rb, 1, none⟩ = some (.int .i64 0) := (bkC E7.out.rb_ 1).trans rfl; have hrf1 := bkF E7.out.rb_ 1; have hr2 : wr.cell? ⟨rb, 2, none⟩ = some (.int .i64 0) := (bkC E7.out.rb_ 2).trans rfl; have hrf2 := bkF E7.out.rb_ 2; have hr3 : wr.cell? ⟨rb, 3, none⟩ = some (.string ⟨#[]⟩) := (bkC E7.out.rb_ 3).trans rfl; have hrf3 := bkF E7.out.rb_ 3
          go_upto_region 53 with fail
          have E8 : Hid (OEnvT 31 w rb tb 4 0 i ⟨acc.toArray⟩ 0 0 0 ⟨#[]⟩ (wr.setCell ⟨tb, 3, none⟩ (.string ⟨acc.toArray⟩))) := Lib.hid (OEnvT.set E7.out 3 (.string ⟨acc.toArray⟩) (k1 := 4) (n1 := 0) (a1 := i) (x1 := ⟨acc.toArray⟩) rfl)
          generalize wr.setCell ⟨tb, 3, none⟩ (.string ⟨acc.toArray⟩) = w8 at E8 ⊢
          clear ht0 htf0 ht1 htf1 ht2 htf2 ht3 htf3 hr0 hrf0 hr1 hrf1 hr2 hrf2 hr3 hrf3 hcv hC
          have ht0 : w8.cell? ⟨tb, 0, none⟩ = some (.int .i64 4) := (bkC E8.out.tb_ 0).trans rfl; have htf0 := bkF E8.out.tb_ 0; have ht1 : w8.cell? ⟨tb, 1, none⟩ = some (.int .i64 0) := (bkC E8.out.tb_ 1).trans rfl; have htf1 := bkF E8.out.tb_ 1; have ht2 : w8.cell? ⟨tb, 2, none⟩ = some (.int .i64 i) := (bkC E8.out.tb_ 2).trans rfl; have htf2 := bkF E8.out.tb_ 2; have ht3 : w8.cell? ⟨tb, 3, none⟩ = some (.string ⟨acc.toArray⟩) := (bkC E8.out.tb_ 3).trans rfl; have htf3 := bkF E8.out.tb_ 3; have hr0 : w8.cell? ⟨rb, 0, none⟩ = some (.int .i64 0) := (bkC E8.out.rb_ 0).trans rfl; have hrf0 := bkF E8.out.rb_ 0; have hr1 : w8.cell? ⟨rb, 1, none⟩ = some (.int .i64 0) := (bkC E8.out.rb_ 1).trans rfl; have hrf1 := bkF E8.out.rb_ 1; have hr2 : w8.cell? ⟨rb, 2, none⟩ = some (.int .i64 0) := (bkC E8.out.rb_ 2).trans rfl; have hrf2 := bkF E8.out.rb_ 2; have hr3 : w8.cell? ⟨rb, 3, none⟩ = some (.string ⟨#[]⟩) := (bkC E8.out.rb_ 3).trans rfl; have hrf3 := bkF E8.out.rb_ 3
          by_cases h40 : acc.length > 40
          · have h40' : (40 : Int) < (acc.length : Int) := by omega
            have h41' : (40 : Int) < ((intsOf acc).length : Int) := by rw [HIL.out]; omega
            have HO4 := Lib.hid (HO3.out.trans (if_pos h40))
            go_wp2_with fail
            exact bodyPost_ret (results_cttt (p := 4) (u := 5) (v := 6) (x := 7) rfl _ _ rb 31 (tkC (4) (0) (i) (⟨acc.toArray⟩)) (0, 0) _ rfl (tk_putT E8.out.rb_ (4) (0) (i) (⟨acc.toArray⟩)) Tryd.underlying31 rfl (by kernel_rfl)) rfl (one_inl HO4.out (tk_belowT E8.out.bl E8.out.rw_ (4) (0) (i) (⟨acc.toArray⟩)))
          · have h40' : ¬ (40 : Int) < (acc.length : Int) := by omega
            have h41' : ¬ (40 : Int) < ((intsOf acc).length : Int) := by rw [HIL.out]; omega
            have HO4 := Lib.hid (HO3.out.trans (if_neg h40))
            go_wp2_with fail
            exact bodyPost_ret (results_cttt (p := 4) (u := 5) (v := 6) (x := 7) rfl _ _ rb 31 (tkC (4) (0) (i) (⟨acc.toArray⟩)) (0, 0) _ rfl (tk_putT E8.out.rb_ (4) (0) (i) (⟨acc.toArray⟩)) Tryd.underlying31 rfl (by kernel_rfl)) rfl (one_inr (e := (e : Int) + 1) HO4.out rfl (by omega) (tk_belowT E8.out.bl E8.out.rw_ (4) (0) (i) (⟨acc.toArray⟩)))
      · have d39 : ((d.toNat : Int) == 39) = false := beq_eq_false_iff_ne.mpr (u8_ne (n := 39) h39 (by decide))
        have HQ2 : Hid (quotL r = (quotL (l.drop (e + 1))).map (fun p => ((acc ++ [d]) ++ p.1, p.2 + (e + 1 - (i + 1))))) := Lib.hid (by rw [HQ.out, HDL.out, quot_step h39]; cases quotL (l.drop (e + 1)) with | none => rfl | some p => (simp; omega))
        clear h39
        go_wp2_with ((with_reducible refine gate_builtin (b := .append) (xs := #[.tmp 195, .tmp 199]) rfl ?_); at_builtin; refine Kd.R_append (Kd.int .u8) (w0 := w6) w6.heap.size rfl (.tmp 195) (.tmp 199) 36 5 (.int .u8 0) 1 rfl Tryd.underlying36 info5 rfl (by decide) (by omega) _ (intsOf acc) (d.toNat : Int) [.int .u8 (d.toNat : Int)] (fun _ => True) (fun _ => False) rfl rfl ?aP (fun _ hk => hk.elim) ?aF ?aO ?aB ?aS ?aL ?_; (case aP => exact rfl); (case aB => exact HB.out); (case aF => exact (fun _ _ => trivial)); (case aO => exact HR.out); (case aS => exact HB.out.size); (case aL => have := hil.out; omega); intro v1 w9 ho hb hg hat; have HR2 := Lib.hid ho; have HB3 := Lib.hid hb; clear ho hb hg hat)
        go_roundw
        case rel => exact ⟨e + 1, acc ++ [d], by omega, by omega, by simp; omega, by go_num, by rw [← hsnoc.out]; exact HR2, HB3, HQ2⟩
        case measure => simp [intOf]; omega
    · have hlt' : (n : Int) ≤ (e : Int) := by omega
      have HQ2 : Hid (oneL l i = .inl (6, (n : Int))) := Lib.hid (by have h := HO2.out; rw [HQ.out, List.drop_eq_nil_of_le (by rw [HLN.out]; omega)] at h; exact h)
      have ht0 : wr.cell? ⟨tb, 0, none⟩ = some (.int .i64 4) := (bkC E7.out.tb_ 0).trans rfl; have htf0 := bkF E7.out.tb_ 0; have ht1 : wr.cell? ⟨tb, 1, none⟩ = some (.int .i64 0) := (bkC E7.out.tb_ 1).trans rfl; have htf1 := bkF E7.out.tb_ 1; have ht2 : wr.cell? ⟨tb, 2, none⟩ = some (.int .i64 i) := (bkC E7.out.tb_ 2).trans rfl; have htf2 := bkF E7.out.tb_ 2; have ht3 : wr.cell? ⟨tb, 3, none⟩ = some (.string ⟨#[]⟩) := (bkC E7.out.tb_ 3).trans rfl; have htf3 := bkF E7.out.tb_ 3; have hr0 : wr.cell? ⟨rb, 0, none⟩ = some (.int .i64 0) := (bkC E7.out.rb_ 0).trans rfl; have hrf0 := bkF E7.out.rb_ 0; have hr1 : wr.cell? ⟨rb, 1, none⟩ = some (.int .i64 0) := (bkC E7.out.rb_ 1).trans rfl; have hrf1 := bkF E7.out.rb_ 1; have hr2 : wr.cell? ⟨rb, 2, none⟩ = some (.int .i64 0) := (bkC E7.out.rb_ 2).trans rfl; have hrf2 := bkF E7.out.rb_ 2; have hr3 : wr.cell? ⟨rb, 3, none⟩ = some (.string ⟨#[]⟩) := (bkC E7.out.rb_ 3).trans rfl; have hrf3 := bkF E7.out.rb_ 3
      go_wp2_with fail
      exact bodyPost_ret (results_cttt (p := 4) (u := 5) (v := 6) (x := 7) rfl _ _ rb 31 (tkC (4) (0) (i) (⟨#[]⟩)) (0, 0) _ rfl (tk_putT E7.out.rb_ (4) (0) (i) (⟨#[]⟩)) Tryd.underlying31 rfl (by kernel_rfl)) rfl (one_inl HQ2.out (tk_belowT E7.out.bl E7.out.rw_ (4) (0) (i) (⟨#[]⟩)))
set_option maxHeartbeats 8000000 in
set_option maxRecDepth 100000 in
theorem oneR_sign (s : ByteArray) (l : List UInt8) (hl : s.data.toList = l) (i : Nat) (c : UInt8) (r : List UInt8) (hdr : l.drop i = c :: r) (w : World) (hs : s.size ≤ 100000) (h1 : letB c = false) (h2 : digB c = false) (h3 : ¬ c = 39) (h4 : ¬ c = 36) :
    Calls Tryd.prog 12 #[.string s, .int .i64 i] w (OneP w l i) := by
  obtain ⟨n, hn⟩ : ∃ n, s.size = n := ⟨_, rfl⟩
  have hln : l.length = n := by rw [← hl, ← sz_list, hn]
  have hin : i < n := by rw [← hln]; exact drop_lt hdr
  have hn5 : n ≤ 100000 := by omega
  have hi : i < s.size := by omega
  have hc : s[i] = c := by
    rw [byte_at s l hl i hi]
    have h1 : l[i]? = some c := by
      have h2 := List.drop_eq_getElem_cons (show i < l.length by omega)
      rw [hdr] at h2
      injection h2 with h3 h4
      rw [List.getElem?_eq_getElem (by omega), ← h3]
    rw [List.getD_eq_getElem?_getD, h1]; rfl
  have HO : Hid (oneL l i = oneC c r i n) := Lib.hid (by rw [oneL_C hdr, hln])
  have HDR := Lib.hid hdr; have HLN := Lib.hid hln; have HL := Lib.hid hl
  have hw1 : IntKind.i64.wrap ((i : Int) + 1) = (i : Int) + 1 := IntWalk.i64_in _ (by omega)
  have hi0 : (0 : Int) ≤ (i : Int) := by omega
  have hin' : (i : Int) < (n : Int) := by omega
  clear hdr hln hl
  obtain ⟨d2, hd2⟩ : ∃ d2, (c :: r).take 2 = d2 := ⟨_, rfl⟩
  have HO2 : Hid (oneL l i = if d2 ∈ twosL then .inr (6, 0, d2, i + 2) else if c ∈ singlesL then .inr (6, 0, [c], i + 1) else .inl (6, (i : Int))) := Lib.hid (by rw [HO.out]; unfold oneC; rw [if_neg (by rw [h1]; decide), if_neg (by rw [h2]; decide), if_neg h3, if_neg h4, ← hd2]; exact sign_cases c r i)
  have HLT : Hid (∀ W, Calls Tryd.prog 23 #[.int .u8 c.toNat] W fun e w' => e = .returned (.bool false) ∧ Drawn0 W w') := Lib.hid (fun W => by have h := letterR_ok c W; rw [h1] at h; exact h)
  have HDG : Hid (∀ W, Calls Tryd.prog 24 #[.int .u8 c.toNat] W fun e w' => e = .returned (.bool false) ∧ Drawn0 W w') := Lib.hid (fun W => by have h := digitR_ok c W; rw [h2] at h; exact h)
  have b39 : ((c.toNat : Int) == 39) = false := beq_eq_false_iff_ne.mpr (u8_ne (n := 39) h3 (by decide))
  have b36 : ((c.toNat : Int) == 36) = false := beq_eq_false_iff_ne.mpr (u8_ne (n := 36) h4 (by decide))
  have HD2 := Lib.hid hd2
  have HLC : Hid (n - i = r.length + 1) := Lib.hid (by have := HLN.out; rw [← this, ← List.length_drop, HDR.out]; rfl)
  clear h1 h2 h3 h4 HO hd2
  go_enter Tryd.func12, Tryd.ntmps12
  go_upto_region 1 with (first | ((with_reducible refine gate_dst (N := 4) rfl ?_); refine box_event rfl (N := 4) rfl (cs := #[.int .i64 0, .int .i64 0, .int .i64 0, .string ⟨#[]⟩]) (t := 31) (by first | rfl | (go_simp; done) | (go_simp; rfl)) ?_; intro rb hgg w1 hbrb hBrb; have hrw : w.heap.size ≤ rb := (by omega); clear hgg))
  go_upto_region 2 with (first | ((with_reducible refine gate_dst (N := 8) rfl ?_); refine box_event rfl (N := 8) rfl (cs := #[.int .i64 0, .int .i64 0, .int .i64 0, .string ⟨#[]⟩]) (t := 31) (by first | rfl | (go_simp; done) | (go_simp; rfl)) ?_; intro tb hgg w2 hbtb hBtb; have htw : w1.heap.size ≤ tb := (by omega); clear hgg; have q0 : w2.cell? ⟨tb, 0, none⟩ = some (.int .i64 0) := ((bkC hbtb 0).trans rfl); have f0 := bkF hbtb 0; have q1 : w2.cell? ⟨tb, 1, none⟩ = some (.int .i64 0) := ((bkC hbtb 1).trans rfl); have f1 := bkF hbtb 1; have q2 : w2.cell? ⟨tb, 2, none⟩ = some (.int .i64 0) := ((bkC hbtb 2).trans rfl); have f2 := bkF hbtb 2; have q3 : w2.cell? ⟨tb, 3, none⟩ = some (.string ⟨#[]⟩) := ((bkC hbtb 3).trans rfl); have f3 := bkF hbtb 3))
  have hne : rb ≠ tb := by have := blk_lt hbrb; omega
  have E3 : Hid (OEnvT 31 w rb tb 0 0 i ⟨#[]⟩ 0 0 0 ⟨#[]⟩ ((((w2.setCell ⟨tb, 0, none⟩ (.int .i64 0)).setCell ⟨tb, 1, none⟩ (.int .i64 0)).setCell ⟨tb, 2, none⟩ (.int .i64 i)).setCell ⟨tb, 3, none⟩ (.string ⟨#[]⟩))) :=
    ⟨tk_belowT (hBrb.trans (hBtb.mono hBrb.size)) (Nat.le_trans hBrb.size htw) 0 0 i ⟨#[]⟩, tk_putT (k0 := 0) (n0 := 0) (a0 := 0) (s0 := ⟨#[]⟩) hbtb 0 0 i ⟨#[]⟩, tk_farT ((hBtb.block rb (blk_lt hbrb)).trans hbrb) hne 0 0 i ⟨#[]⟩, hne, hrw, Nat.le_trans hBrb.size htw⟩
  clear q0 q1 q2 q3 f0 f1 f2 f3 hbrb hBrb hbtb hBtb hne hrw htw
  generalize (((w2.setCell ⟨tb, 0, none⟩ (.int .i64 0)).setCell ⟨tb, 1, none⟩ (.int .i64 0)).setCell ⟨tb, 2, none⟩ (.int .i64 i)).setCell ⟨tb, 3, none⟩ (.string ⟨#[]⟩) = w3 at E3 ⊢
  have ht0 : w3.cell? ⟨tb, 0, none⟩ = some (.int .i64 0) := (bkC E3.out.tb_ 0).trans rfl; have htf0 := bkF E3.out.tb_ 0; have ht1 : w3.cell? ⟨tb, 1, none⟩ = some (.int .i64 0) := (bkC E3.out.tb_ 1).trans rfl; have htf1 := bkF E3.out.tb_ 1; have ht2 : w3.cell? ⟨tb, 2, none⟩ = some (.int .i64 i) := (bkC E3.out.tb_ 2).trans rfl; have htf2 := bkF E3.out.tb_ 2; have ht3 : w3.cell? ⟨tb, 3, none⟩ = some (.string ⟨#[]⟩) := (bkC E3.out.tb_ 3).trans rfl; have htf3 := bkF E3.out.tb_ 3; have hr0 : w3.cell? ⟨rb, 0, none⟩ = some (.int .i64 0) := (bkC E3.out.rb_ 0).trans rfl; have hrf0 := bkF E3.out.rb_ 0; have hr1 : w3.cell? ⟨rb, 1, none⟩ = some (.int .i64 0) := (bkC E3.out.rb_ 1).trans rfl; have hrf1 := bkF E3.out.rb_ 1; have hr2 : w3.cell? ⟨rb, 2, none⟩ = some (.int .i64 0) := (bkC E3.out.rb_ 2).trans rfl; have hrf2 := bkF E3.out.rb_ 2; have hr3 : w3.cell? ⟨rb, 3, none⟩ = some (.string ⟨#[]⟩) := (bkC E3.out.rb_ 3).trans rfl; have hrf3 := bkF E3.out.rb_ 3
  go_upto_region 21 with fail
  have HLT3 := Lib.hid (HLT.out w3)
  go_upto_region 34 with (go_at_call 23; refine HLT3.out.mono ?_; rintro e_ w4 ⟨rfl, hb_⟩)
  have E4 := Lib.hid (E3.out.later hb_.below)
  clear ht0 htf0 ht1 htf1 ht2 htf2 ht3 htf3 hr0 hrf0 hr1 hrf1 hr2 hrf2 hr3 hrf3 hb_
  have ht0 : w4.cell? ⟨tb, 0, none⟩ = some (.int .i64 0) := (bkC E4.out.tb_ 0).trans rfl; have htf0 := bkF E4.out.tb_ 0; have ht1 : w4.cell? ⟨tb, 1, none⟩ = some (.int .i64 0) := (bkC E4.out.tb_ 1).trans rfl; have htf1 := bkF E4.out.tb_ 1; have ht2 : w4.cell? ⟨tb, 2, none⟩ = some (.int .i64 i) := (bkC E4.out.tb_ 2).trans rfl; have htf2 := bkF E4.out.tb_ 2; have ht3 : w4.cell? ⟨tb, 3, none⟩ = some (.string ⟨#[]⟩) := (bkC E4.out.tb_ 3).trans rfl; have htf3 := bkF E4.out.tb_ 3; have hr0 : w4.cell? ⟨rb, 0, none⟩ = some (.int .i64 0) := (bkC E4.out.rb_ 0).trans rfl; have hrf0 := bkF E4.out.rb_ 0; have hr1 : w4.cell? ⟨rb, 1, none⟩ = some (.int .i64 0) := (bkC E4.out.rb_ 1).trans rfl; have hrf1 := bkF E4.out.rb_ 1; have hr2 : w4.cell? ⟨rb, 2, none⟩ = some (.int .i64 0) := (bkC E4.out.rb_ 2).trans rfl; have hrf2 := bkF E4.out.rb_ 2; have hr3 : w4.cell? ⟨rb, 3, none⟩ = some (.string ⟨#[]⟩) := (bkC E4.out.rb_ 3).trans rfl; have hrf3 := bkF E4.out.rb_ 3
  have HDG4 := Lib.hid (HDG.out w4)
  go_upto_region 41 with (go_at_call 24; refine HDG4.out.mono ?_; rintro e_ w5 ⟨rfl, hb_⟩)
  have E5 := Lib.hid (E4.out.later hb_.below)
  clear ht0 htf0 ht1 htf1 ht2 htf2 ht3 htf3 hr0 hrf0 hr1 hrf1 hr2 hrf2 hr3 hrf3 hb_
  have ht0 : w5.cell? ⟨tb, 0, none⟩ = some (.int .i64 0) := (bkC E5.out.tb_ 0).trans rfl; have htf0 := bkF E5.out.tb_ 0; have ht1 : w5.cell? ⟨tb, 1, none⟩ = some (.int .i64 0) := (bkC E5.out.tb_ 1).trans rfl; have htf1 := bkF E5.out.tb_ 1; have ht2 : w5.cell? ⟨tb, 2, none⟩ = some (.int .i64 i) := (bkC E5.out.tb_ 2).trans rfl; have htf2 := bkF E5.out.tb_ 2; have ht3 : w5.cell? ⟨tb, 3, none⟩ = some (.string ⟨#[]⟩) := (bkC E5.out.tb_ 3).trans rfl; have htf3 := bkF E5.out.tb_ 3; have hr0 : w5.cell? ⟨rb, 0, none⟩ = some (.int .i64 0) := (bkC E5.out.rb_ 0).trans rfl; have hrf0 := bkF E5.out.rb_ 0; have hr1 : w5.cell? ⟨rb, 1, none⟩ = some (.int .i64 0) := (bkC E5.out.rb_ 1).trans rfl; have hrf1 := bkF E5.out.rb_ 1; have hr2 : w5.cell? ⟨rb, 2, none⟩ = some (.int .i64 0) := (bkC E5.out.rb_ 2).trans rfl; have hrf2 := bkF E5.out.rb_ 2; have hr3 : w5.cell? ⟨rb, 3, none⟩ = some (.string ⟨#[]⟩) := (bkC E5.out.rb_ 3).trans rfl; have hrf3 := bkF E5.out.rb_ 3
  go_upto_region 5 with fail
  have E6 : Hid (OEnvT 31 w rb tb 6 0 i ⟨#[]⟩ 0 0 0 ⟨#[]⟩ (w5.setCell ⟨tb, 0, none⟩ (.int .i64 6))) := Lib.hid (OEnvT.set E5.out 0 (.int .i64 6) (k1 := 6) (n1 := 0) (a1 := i) (x1 := ⟨#[]⟩) rfl)
  generalize w5.setCell ⟨tb, 0, none⟩ (.int .i64 6) = w6 at E6 ⊢
  clear ht0 htf0 ht1 htf1 ht2 htf2 ht3 htf3 hr0 hrf0 hr1 hrf1 hr2 hrf2 hr3 hrf3
  go_upto_region 6 with (first | ((with_reducible refine gate_dst (N := 32) rfl ?_); refine Kd.R_lit Kd.string _ 9 ?hg (N := 32) ?hd (xs := ([(⟨#[60, 61]⟩ : ByteArray), (⟨#[62, 61]⟩ : ByteArray), (⟨#[60, 62]⟩ : ByteArray)] : List ByteArray)) (inner := [.string (⟨#[60, 61]⟩ : ByteArray), .string (⟨#[62, 61]⟩ : ByteArray), .string (⟨#[60, 62]⟩ : ByteArray)]) (ok := fun _ => True) (okp := fun _ => True) ?hr ?hp (fun _ hk => hk) trivial (Below.refl _ _) (Nat.le_refl _) (by simp) ?_; (case hd => rfl); (case hg => rfl); (case hr => first | (go_simp; done) | (go_simp; rfl)); (case hp => exact (Reps.one (show Kd.M Kd.string _ _ _ (⟨#[60, 61]⟩ : ByteArray) [.string (⟨#[60, 61]⟩ : ByteArray)] from rfl) (Reps.one (show Kd.M Kd.string _ _ _ (⟨#[62, 61]⟩ : ByteArray) [.string (⟨#[62, 61]⟩ : ByteArray)] from rfl) (Reps.one (show Kd.M Kd.string _ _ _ (⟨#[60, 62]⟩ : ByteArray) [.string (⟨#[60, 62]⟩ : ByteArray)] from rfl) (Reps.none _ _))))); intro v109 w7 ho2 hb hg_ hnew_; clear hg_ hnew_; have HR7 := Lib.hid ho2; have HB7 := Lib.hid hb; clear ho2 hb))
  have E7 := Lib.hid (E6.out.later HB7.out)
  obtain ⟨g, cap, rfl, hg1, hg2, _⟩ := Kd.R_form HR7.out (by decide)
  have HR : Hid (Kd.R Kd.string 9 w7 (tb + 1) (fun k => k ≠ tb) (.slice (some ⟨g, 0, none⟩) 3 cap) (txB twosL)) := Lib.hid (txt_row (ll := twosL) HR7.out (blk_lt E6.out.tb_))
  clear HR7 HB7 hg1 hg2
  simp only [List.length_cons, List.length_nil]
  go_upto_region 7 with fail
  go_loopw [21] (fun v21 wr => ∃ (q : Nat) (x : List UInt8), q ≤ 3 ∧ v21 = .int .i64 (q : Int) ∧ Hid (OEnvT 31 w rb tb 6 0 i ⟨x.toArray⟩ 0 0 0 ⟨#[]⟩ wr) ∧ Hid (Kd.R Kd.string 9 wr (tb + 1) (fun k => k ≠ tb) (.slice (some ⟨g, 0, none⟩) 3 cap) (txB twosL)) ∧ Hid (x = if d2 ∈ twosL.take q then d2 else [])) (fun v _ => 3 - (intOf v).toNat)
  case atStart => exact ⟨0, [], by omega, rfl, E7, HR, Lib.hid (by rw [List.take_zero]; simp)⟩
  case round =>
    clear E7 HR
    obtain ⟨q, x, hq3, rfl, E8, HR, HX⟩ := hrel
    have ht0 : wr.cell? ⟨tb, 0, none⟩ = some (.int .i64 6) := (bkC E8.out.tb_ 0).trans rfl; have htf0 := bkF E8.out.tb_ 0; have ht1 : wr.cell? ⟨tb, 1, none⟩ = some (.int .i64 0) := (bkC E8.out.tb_ 1).trans rfl; have htf1 := bkF E8.out.tb_ 1; have ht2 : wr.cell? ⟨tb, 2, none⟩ = some (.int .i64 i) := (bkC E8.out.tb_ 2).trans rfl; have htf2 := bkF E8.out.tb_ 2; have ht3 : wr.cell? ⟨tb, 3, none⟩ = some (.string ⟨x.toArray⟩) := (bkC E8.out.tb_ 3).trans rfl; have htf3 := bkF E8.out.tb_ 3; have hr0 : wr.cell? ⟨rb, 0, none⟩ = some (.int .i64 0) := (bkC E8.out.rb_ 0).trans rfl; have hrf0 := bkF E8.out.rb_ 0; have hr1 : wr.cell? ⟨rb, 1, none⟩ = some (.int .i64 0) := (bkC E8.out.rb_ 1).trans rfl; have hrf1 := bkF E8.out.rb_ 1; have hr2 : wr.cell? ⟨rb, 2, none⟩ = some (.int .i64 0) := (bkC E8.out.rb_ 2).trans rfl; have hrf2 := bkF E8.out.rb_ 2; have hr3 : wr.cell? ⟨rb, 3, none⟩ = some (.string ⟨#[]⟩) := (bkC E8.out.rb_ 3).trans rfl; have hrf3 := bkF E8.out.rb_ 3
    by_cases hq : q < 3
    · have hq' : (q : Int) < 3 := by omega
      have hq0 : (0 : Int) ≤ (q : Int) := by omega
      have hqt : (q : Int).toNat = q := by omega
      have hqw : IntKind.i64.wrap ((q : Int) + 1) = (q : Int) + 1 := IntWalk.i64_in _ (by omega)
      obtain ⟨hc_, hcf_⟩ := txt_cell (ll := twosL) HR.out q hq
      obtain ⟨wl, hwl⟩ : ∃ wl, twosL.getD q [] = wl := ⟨_, rfl⟩
      rw [hwl] at hc_
      have HWL := Lib.hid hwl
      clear hwl
      by_cases h1n : i + 1 < n
      · have h1n' : (i : Int) + 1 < (n : Int) := by omega
        have hit : (i : Int).toNat = i := by omega
        have hw2 : IntKind.i64.wrap ((i : Int) + 1 + 1) = (i : Int) + 1 + 1 := IntWalk.i64_in _ (by omega)
        have hiq1 : (i : Int) ≤ (i : Int) + 1 + 1 := by omega
        have hiq : (i : Int) + 1 + 1 ≤ (n : Int) := by omega
        have hiq2 : ((i : Int) + 1 + 1).toNat = i + 2 := by omega
        have hex : s.extract i (i + 2) = ⟨d2.toArray⟩ := ba_eta _ _ (by rw [ext_list, HL.out, HDR.out, ← HD2.out]; congr 1; omega)
        by_cases hwt : wl = d2
        · have HX2 : Hid (d2 = if d2 ∈ twosL.take (q + 1) then d2 else []) := Lib.hid (by rw [if_pos ((mem_next twosL q hq d2).2 (.inr (HWL.out.trans hwt).symm))])
          subst hwt
          clear HWL
          go_upto_region 9 with fail
          go_wp2_with (first | (go_region))
          refine ⟨⟨q + 1, wl, by omega, by go_num, Lib.hid ((oenv_drewT E8.out).set 3 (.string ⟨wl.toArray⟩) (k1 := 6) (n1 := 0) (a1 := i) (x1 := ⟨wl.toArray⟩) rfl), Lib.hid (Kd.R_far (Kd.R_drew HR.out) (fun k hk => hk) _), HX2⟩, by simp [intOf]; omega⟩
        · have HX2 : Hid (x = if d2 ∈ twosL.take (q + 1) then d2 else []) := Lib.hid (HX.out.trans (two_no twosL q hq (by rw [HWL.out]; exact hwt)))
          have hbe : (d2 == wl) = false := beq_eq_false_iff_ne.mpr (fun h => hwt h.symm)
          clear HWL hwt
          go_upto_region 9 with fail
          go_wp2_with (first | (go_region))
          exact ⟨⟨q + 1, x, by omega, by go_num, Lib.hid (oenv_drewT E8.out), Lib.hid (Kd.R_drew HR.out), HX2⟩, by simp [intOf]; omega⟩
      · have h1n' : ¬ (i : Int) + 1 < (n : Int) := by omega
        have HX2 : Hid (x = if d2 ∈ twosL.take (q + 1) then d2 else []) := Lib.hid (HX.out.trans (two_no twosL q hq (by
          intro h
          have h5 := two_len q hq
          rw [h, ← HD2.out, List.length_take] at h5
          have := HLC.out
          simp only [List.length_cons] at h5
          omega)))
        clear HWL
        go_upto_region 9 with fail
        go_wp2_with (first | (go_region))
        exact ⟨⟨q + 1, x, by omega, by go_num, Lib.hid (oenv_drewT E8.out), Lib.hid (Kd.R_drew HR.out), HX2⟩, by simp [intOf]; omega⟩
    · have hq' : ¬ (q : Int) < 3 := by omega
      have HX2 : Hid (x = if d2 ∈ twosL then d2 else []) := Lib.hid (by rw [HX.out, List.take_of_length_le (show twosL.length ≤ q by show 3 ≤ q; omega)])
      clear HX
      by_cases h2 : d2 ∈ twosL
      · have hx : x = d2 := HX2.out.trans (if_pos h2)
        subst hx
        have HO4 := Lib.hid (HO2.out.trans (if_pos h2))
        have hw2 : IntKind.i64.wrap ((i : Int) + 1 + 1) = (i : Int) + 1 + 1 := IntWalk.i64_in _ (by omega)
        have hne0 : ¬ x = [] := fun h => by rw [h] at h2; exact absurd h2 (by decide)
        have hne1 : (x == []) = false := beq_eq_false_iff_ne.mpr hne0
        have hne2 : x.isEmpty = false := by cases x with | nil => exact absurd rfl hne0 | cons _ _ => rfl
        clear h2
        go_wp2_with fail
        exact bodyPost_ret (results_cttt (p := 4) (u := 5) (v := 6) (x := 7) rfl _ _ rb 31 (tkC (6) (0) (i) (⟨x.toArray⟩)) (0, 0) _ rfl (tk_putT E8.out.rb_ (6) (0) (i) (⟨x.toArray⟩)) Tryd.underlying31 rfl (by kernel_rfl)) rfl (one_inr (e := (i : Int) + 1 + 1) HO4.out rfl (by omega) (tk_belowT E8.out.bl E8.out.rw_ (6) (0) (i) (⟨x.toArray⟩)))
      · have hx : x = [] := HX2.out.trans (if_neg h2)
        subst hx
        have HO4 := Lib.hid (HO2.out.trans (if_neg h2))
        clear h2
        go_upto_region 14 with fail
        generalize hsg : (⟨#[60, 62, 61, 43, 45, 42, 47, 40, 41, 44, 46]⟩ : ByteArray) = sg
        have HSG := Lib.hid hsg
        have hsz : sg.size = 11 := by rw [← hsg]; rfl
        clear hsg
        go_upto_region 15 with fail
        clear ht0 htf0 ht1 htf1 ht2 htf2 ht3 htf3 hr0 hrf0 hr1 hrf1 hr2 hrf2 hr3 hrf3
        go_loopw [23] (fun v23 wr => ∃ (q : Nat) (x : List UInt8), q ≤ 11 ∧ v23 = .int .i64 (q : Int) ∧ Hid (OEnvT 31 w rb tb 6 0 i ⟨x.toArray⟩ 0 0 0 ⟨#[]⟩ wr) ∧ Hid (x = if c ∈ singlesL.take q then [c] else [])) (fun v _ => 11 - (intOf v).toNat)
        case atStart => exact ⟨0, [], by omega, rfl, E8, Lib.hid (by rw [List.take_zero]; simp)⟩
        case round =>
          clear E8 HR
          obtain ⟨q, x, hq11, rfl, E9, HX⟩ := hrel
          have ht0 : wr.cell? ⟨tb, 0, none⟩ = some (.int .i64 6) := (bkC E9.out.tb_ 0).trans rfl; have htf0 := bkF E9.out.tb_ 0; have ht1 : wr.cell? ⟨tb, 1, none⟩ = some (.int .i64 0) := (bkC E9.out.tb_ 1).trans rfl; have htf1 := bkF E9.out.tb_ 1; have ht2 : wr.cell? ⟨tb, 2, none⟩ = some (.int .i64 i) := (bkC E9.out.tb_ 2).trans rfl; have htf2 := bkF E9.out.tb_ 2; have ht3 : wr.cell? ⟨tb, 3, none⟩ = some (.string ⟨x.toArray⟩) := (bkC E9.out.tb_ 3).trans rfl; have htf3 := bkF E9.out.tb_ 3; have hr0 : wr.cell? ⟨rb, 0, none⟩ = some (.int .i64 0) := (bkC E9.out.rb_ 0).trans rfl; have hrf0 := bkF E9.out.rb_ 0; have hr1 : wr.cell? ⟨rb, 1, none⟩ = some (.int .i64 0) := (bkC E9.out.rb_ 1).trans rfl; have hrf1 := bkF E9.out.rb_ 1; have hr2 : wr.cell? ⟨rb, 2, none⟩ = some (.int .i64 0) := (bkC E9.out.rb_ 2).trans rfl; have hrf2 := bkF E9.out.rb_ 2; have hr3 : wr.cell? ⟨rb, 3, none⟩ = some (.string ⟨#[]⟩) := (bkC E9.out.rb_ 3).trans rfl; have hrf3 := bkF E9.out.rb_ 3
          by_cases hq : q < 11
          · have hq' : (q : Int) < 11 := by omega
            have hq0 : (0 : Int) ≤ (q : Int) := by omega
            have hqt : (q : Int).toNat = q := by omega
            have hqw : IntKind.i64.wrap ((q : Int) + 1) = (q : Int) + 1 := IntWalk.i64_in _ (by omega)
            have hkq : q < sg.size := by omega
            obtain ⟨cq, hcq⟩ : ∃ cq, singlesL.getD q 0 = cq := ⟨_, rfl⟩
            have hsq : sg[q] = cq := by rw [byte_at sg singlesL (by rw [← HSG.out]; rfl) q hkq]; exact hcq
            have hqq1 : (q : Int) ≤ (q : Int) + 1 := by omega
            have hqq2 : (q : Int) + 1 ≤ 11 := by omega
            have hqq3 : ((q : Int) + 1).toNat = q + 1 := by omega
            have hse : sg.extract q (q + 1) = ⟨[cq].toArray⟩ := ba_eta _ _ (by
              rw [ext_list, ← HSG.out, ← hcq]
              exact (by decide : ∀ q : Fin 11, ((singlesL.drop q.val).take (q.val + 1 - q.val)) = [singlesL.getD q.val 0]) ⟨q, hq⟩)
            have HCQ := Lib.hid hcq
            clear hcq
            by_cases hwt : cq = c
            · have HX2 : Hid ([c] = if c ∈ singlesL.take (q + 1) then [c] else []) := Lib.hid (by rw [if_pos ((mem_next0 q hq c).2 (.inr (HCQ.out.trans hwt).symm))])
              have hbe : ((cq.toNat : Int) == (c.toNat : Int)) = true := by rw [hwt]; exact beq_self_eq_true _
              rw [hwt] at hse
              have HSE := Lib.hid hse
              clear HCQ hwt
              go_wp2_with fail
              go_roundw
              case rel => exact ⟨q + 1, [c], by omega, by go_num, Lib.hid (E9.out.set 3 (.string ⟨[c].toArray⟩) (k1 := 6) (n1 := 0) (a1 := i) (x1 := ⟨[c].toArray⟩) rfl), HX2⟩
              case measure => simp [intOf]; omega
            · have HX2 : Hid (x = if c ∈ singlesL.take (q + 1) then [c] else []) := Lib.hid (HX.out.trans (one_no q hq (by rw [HCQ.out]; exact hwt)))
              have hbe : ((cq.toNat : Int) == (c.toNat : Int)) = false := beq_eq_false_iff_ne.mpr (fun h => hwt (UInt8.toNat_inj.1 (by omega)))
              clear HCQ hwt
              go_wp2_with fail
              go_roundw
              case rel => exact ⟨q + 1, x, by omega, by go_num, E9, HX2⟩
              case measure => simp [intOf]; omega
          · have hq' : ¬ (q : Int) < 11 := by omega
            have HX2 : Hid (x = if c ∈ singlesL then [c] else []) := Lib.hid (by rw [HX.out, List.take_of_length_le (show singlesL.length ≤ q by show 11 ≤ q; omega)])
            clear HX
            by_cases h2 : c ∈ singlesL
            · have hx : x = [c] := HX2.out.trans (if_pos h2)
              subst hx
              have HO5 := Lib.hid (HO4.out.trans (if_pos h2))
              clear h2
              go_wp2_with fail
              exact bodyPost_ret (results_cttt (p := 4) (u := 5) (v := 6) (x := 7) rfl _ _ rb 31 (tkC (6) (0) (i) (⟨[c].toArray⟩)) (0, 0) _ rfl (tk_putT E9.out.rb_ (6) (0) (i) (⟨[c].toArray⟩)) Tryd.underlying31 rfl (by kernel_rfl)) rfl (one_inr (e := (i : Int) + 1) HO5.out rfl (by omega) (tk_belowT E9.out.bl E9.out.rw_ (6) (0) (i) (⟨[c].toArray⟩)))
            · have hx : x = [] := HX2.out.trans (if_neg h2)
              subst hx
              have HO5 := Lib.hid (HO4.out.trans (if_neg h2))
              clear h2
              go_wp2_with fail
              exact bodyPost_ret (results_cttt (p := 4) (u := 5) (v := 6) (x := 7) rfl _ _ rb 31 (tkC (6) (0) (i) (⟨#[]⟩)) (0, 0) _ rfl (tk_putT E9.out.rb_ (6) (0) (i) (⟨#[]⟩)) Tryd.underlying31 rfl (by kernel_rfl)) rfl (one_inl HO5.out (tk_belowT E9.out.bl E9.out.rw_ (6) (0) (i) (⟨#[]⟩)))
end Go.Proofs.YtniapbinamnmpaaDoor.L
