/- Contracts and plain lemmas of the functions that the law reaches, part 11. -/
import Derived.Laws.EntriesVeiled
import Derived.Laws.BitsLemmas
import Derived.Test.YtoffpegppdmkdaaGreatDoorCP3
import Derived.Test.YtoffpegppdmkdaaGreatDoorCP10
namespace Go.Proofs.YtoffpegppdmkdaaGreatDoor.E
open Go.RowKit Go.Proofs.YtoffpegppdmkdaaGreatDoorW.PrintWords Go.Proofs.YtoffpegppdmkdaaGreatDoorW.PrintLast Go.Proofs.YtoffpegppdmkdaaGreatDoorW.PrintMore
structure Only (c : Nat) (w w' : World) : Prop where
  os : w'.os = w.os
  tape : w'.tape = w.tape
  output : w'.output = w.output
  size : w.heap.size ≤ w'.heap.size
  block : ∀ k, k < w.heap.size → k ≠ c → w'.heap[k]? = w.heap[k]?
theorem Only.refl (c : Nat) (w : World) : Only c w w := ⟨rfl, rfl, rfl, Nat.le_refl _, fun _ _ _ => rfl⟩
theorem Only.trans {c : Nat} {u v w : World} (h : Only c u v) (k : Only c v w) : Only c u w :=
  ⟨k.os.trans h.os, k.tape.trans h.tape, k.output.trans h.output, Nat.le_trans h.size k.size, fun i hi hc => (k.block i (by have := h.size; omega) hc).trans (h.block i hi hc)⟩
theorem Only.of {c : Nat} {u v : World} (h : Below u.heap.size u v) : Only c u v := ⟨h.os, h.tape, h.output, h.size, fun k hk _ => h.block k hk⟩
theorem Only.set (w : World) (c i : Nat) (u : Value) : Only c w (w.setCell ⟨c, i, none⟩ u) :=
  ⟨rfl, rfl, rfl, by simp [World.setCell], fun k _ hc => Below.heap_setCell _ _ _ _ hc⟩
theorem Only.below {c B : Nat} {u w w' : World} (h : Only c w w') (hb : Below B u w) (hc : B ≤ c) (hB : B ≤ w.heap.size) : Below B u w' :=
  hb.trans ⟨h.os, h.tape, h.output, h.size, fun k hk => h.block k (by omega) (by omega)⟩
theorem Only.drew {c : Nat} {u v : World} (h : Only c u v) : Only c u v.drew := ⟨h.os, h.tape, h.output, h.size, h.block⟩
structure REnv (w0 w : World) (mb wb many : Nat) : Prop where
  below : Below w0.heap.size w0 w
  hm : w0.heap.size ≤ mb
  hw : w0.heap.size ≤ wb
  ne : mb ≠ wb
  bm : w.heap[mb]? = some (.cells #[.int .i64 many] 3 (0, 0))
  bw : w.heap[wb]? = some (.cells #[.func (.func 83) #[] #[.pointer (some ⟨mb, 0, none⟩), .pointer (some ⟨wb, 0, none⟩)]] 122 (0, 0))
theorem REnv.only {w0 w w' : World} {mb wb many m : Nat} (h : REnv w0 w mb wb many) (ho : Only mb w w') (hm : w'.heap[mb]? = some (.cells #[.int .i64 m] 3 (0, 0))) : REnv w0 w' mb wb m :=
  ⟨ho.below h.below h.hm h.below.size, h.hm, h.hw, h.ne, hm, (ho.block wb (blk_lt h.bw) (Ne.symm h.ne)).trans h.bw⟩
theorem REnv.later {w0 w w' : World} {mb wb many : Nat} (h : REnv w0 w mb wb many) (hb : Below w.heap.size w w') : REnv w0 w' mb wb many :=
  h.only (Only.of hb) ((hb.block mb (blk_lt h.bm)).trans h.bm)
def WalkP (w : World) (mb : Nat) (o : Option Nat) (r : Ending) (w' : World) : Prop :=
  (∃ m, o = some m ∧ m ≤ 200 ∧ r = .returned (.bool true) ∧ w'.heap[mb]? = some (.cells #[.int .i64 m] 3 (0, 0)) ∧ Only mb w w') ∨ (o = none ∧ r = .returned (.bool false) ∧ Only mb w w')
def WalkOk (w0 : World) (mb wb : Nat) (e : Ex) : Prop := ∀ (deep many : Nat) (A : Option Addr) (c : Nat) (w : World), REnv w0 w mb wb many → many ≤ 200 → deep ≤ 21 → e.f6.length ≤ c → Kd.C k26 w0 A e.f6.length e.f6 →
  Calls Tryz.prog 83 #[.agg (exC e A c), .int .i64 deep, .pointer (some ⟨mb, 0, none⟩), .pointer (some ⟨wb, 0, none⟩)] w (WalkP w mb (cnt e deep many))
theorem hcf51 : ∀ (args : Array Value) (W : World), (callFunc 85 args).run Tryz.prog W = .ok (.enter 85 args) W := fun args W => by go_simp
def Walk1P (w : World) (mb : Nat) (o : Option Nat) (r : Ending) (w' : World) : Prop :=
  (∃ m, o = some m ∧ m ≤ 200 ∧ r = .returned (.bool false) ∧ w'.heap[mb]? = some (.cells #[.int .i64 m] 3 (0, 0)) ∧ Only mb w w') ∨ (o = none ∧ r = .returned (.bool true) ∧ Only mb w w')
set_option maxRecDepth 100000 in
theorem walk1_ok (w0 : World) (mb wb db : Nat) (e : Ex) (hw : WalkOk w0 mb wb e) (deep many : Nat) (A : Option Addr) (c : Nat) (w : World) (hE : REnv w0 w mb wb many) (hm : many ≤ 200) (hd : deep ≤ 20) (hc : e.f6.length ≤ c) (hC : Kd.C k26 w0 A e.f6.length e.f6)
    (hdb : w.heap[db]? = some (.cells #[.int .i64 deep] 3 (0, 0))) :
    Calls Tryz.prog 85 #[.agg (exC e A c), .pointer (some ⟨wb, 0, none⟩), .pointer (some ⟨db, 0, none⟩)] w (Walk1P w mb (cnt e (deep + 1) many)) := by
  have HW := Lib.hid hw; have HC := Lib.hid hC; have HE := Lib.hid hE
  clear hw hC hE
  unfold exC
  go_enter Tryz.func85, Tryz.ntmps85
  go_upto_region 1 with (first | ((with_reducible refine gate_dst (N := 3) rfl ?_); refine box_event rfl (N := 3) rfl (cs := exC e A c) (t := 26) (by first | rfl | (go_simp; done) | (go_simp; rfl)) ?_; intro g hgg w1 hbg hBg;  clear hgg))
  have HE1 := Lib.hid (HE.out.later hBg)
  have HO := Lib.hid (Only.of (c := mb) hBg)
  have hf : w1.cell? ⟨wb, 0, none⟩ = some _ := (bkC HE1.out.bw 0).trans rfl
  have hdp : w1.cell? ⟨db, 0, none⟩ = some _ := (bkC ((hBg.block db (blk_lt hdb)).trans hdb) 0).trans rfl
  obtain ⟨hz0, hz1, hz2, hz3, hz4, hz5, hz6, hz7, hz8⟩ := bkC9 hbg
  clear hbg hBg hdb HE
  have HCALL := Lib.hid (HW.out (deep + 1) many A c w1 HE1.out hm (by omega) hc HC.out)
  unfold exC at HCALL
  go_wp2_with fail
  refine HCALL.out.mono ?_
  rintro r W' (⟨m, h1, hle, rfl, h3, h4⟩ | ⟨h1, rfl, h4⟩)
  · have H1 := Lib.hid h1; clear h1
    go_wp2_with fail
    go_ret
    exact .inl ⟨m, H1.out, hle, rfl, h3, HO.out.trans h4⟩
  · have H1 := Lib.hid h1; clear h1
    go_wp2_with fail
    go_ret
    exact .inr ⟨H1.out, rfl, HO.out.trans h4⟩
set_option maxRecDepth 100000 in
theorem walk_step (w0 : World) (mb wb : Nat) (e : Ex) (ih : ∀ x ∈ e.f6, WalkOk w0 mb wb x) : WalkOk w0 mb wb e := by
  intro deep many A c w hE hm hd hc hC
  have HE := Lib.hid hE; have HC := Lib.hid hC; have IH := Lib.hid ih
  clear hE hC ih
  obtain ⟨o, ho⟩ : ∃ o, cnt e deep many = o := ⟨_, rfl⟩
  rw [ho]
  rw [cnt_eq] at ho
  have HOE := Lib.hid ho.symm
  clear ho
  unfold exC
  go_enter Tryz.func83, Tryz.ntmps83
  go_upto_region 1 with (first | ((with_reducible refine gate_dst (N := 4) rfl ?_); refine box_event rfl (N := 4) rfl (cs := exC e A c) (t := 26) (by first | rfl | (go_simp; done) | (go_simp; rfl)) ?_; intro g hgg w1 hbg hBg;  have hgm : g ≠ mb := (by have := blk_lt HE.out.bm; omega); clear hgg) | ((with_reducible refine gate_dst (N := 5) rfl ?_); refine box_event rfl (N := 5) rfl (cs := #[.int .i64 deep]) (t := 3) (by first | rfl | (go_simp; done) | (go_simp; rfl)) ?_; intro gd hgg w2 hbgd hBgd;  have hgdm : gd ≠ mb := (by have := blk_lt HE.out.bm; have := hBg.size; omega); clear hgg))
  have hB2 : Below w.heap.size w w2 := hBg.trans (hBgd.mono hBg.size)
  have HE2 := HE.out.later hB2
  have hmc : w2.cell? ⟨mb, 0, none⟩ = some (.int .i64 many) := (bkC HE2.bm 0).trans rfl
  have hmf : w2.frozen? ⟨mb, 0, none⟩ = false := bkF HE2.bm 0
  go_upto_region 2 with (fail)
  have hb3 : (w2.setCell ⟨mb, 0, none⟩ (.int .i64 ((many : Int) + 1))).heap[mb]? = some (.cells #[.int .i64 ((many + 1 : Nat) : Int)] 3 (0, 0)) := blk_set HE2.bm 0 _
  have ho3 : Only mb w (w2.setCell ⟨mb, 0, none⟩ (.int .i64 ((many : Int) + 1))) := (Only.of hB2).trans (Only.set _ _ _ _)
  have hg3 : (w2.setCell ⟨mb, 0, none⟩ (.int .i64 ((many : Int) + 1))).heap[g]? = some (.cells (exC e A c) 26 (0, 0)) := blk_far ((hBgd.block g (blk_lt hbg)).trans hbg) hgm _
  have hgd3 : (w2.setCell ⟨mb, 0, none⟩ (.int .i64 ((many : Int) + 1))).heap[gd]? = some (.cells #[.int .i64 deep] 3 (0, 0)) := blk_far hbgd hgdm _
  have HE3 := Lib.hid (HE.out.only ho3 hb3)
  have HO3 := Lib.hid ho3
  clear hmc hmf HE2 hB2 ho3 hb3 hbg hBg hbgd hBgd HE
  generalize w2.setCell ⟨mb, 0, none⟩ (.int .i64 ((many : Int) + 1)) = w3 at HE3 HO3 hg3 hgd3 ⊢
  have hmc : w3.cell? ⟨mb, 0, none⟩ = some (.int .i64 ((many : Int) + 1)) := (bkC HE3.out.bm 0).trans rfl
  have hdc : w3.cell? ⟨gd, 0, none⟩ = some (.int .i64 deep) := (bkC hgd3 0).trans rfl
  obtain ⟨hz0, hz1, hz2, hz3, hz4, hz5, hz6, hz7, hz8⟩ := bkC9 hg3
  by_cases h1 : many + 1 > 200
  · have HR : Hid (o = none) := HOE.out.trans (if_pos h1)
    have h1' : (200 : Int) < (many : Int) + 1 := by omega
    go_wp2_with fail
    go_ret
    exact .inr ⟨HR.out, rfl, HO3.out⟩
  · have h1' : ¬ (200 : Int) < (many : Int) + 1 := by omega
    by_cases h2 : deep > 20
    · have HR : Hid (o = none) := HOE.out.trans ((if_neg h1).trans (if_pos h2))
      have h2' : (20 : Int) < (deep : Int) := by omega
      go_wp2_with fail
      go_ret
      exact .inr ⟨HR.out, rfl, HO3.out⟩
    · have h2' : ¬ (20 : Int) < (deep : Int) := by omega
      have HOWN := Lib.hid (expr_own.calls 1 e.f0 e.f1.f0 e.f1.f1 e.f1.f2 e.f2 e.f3 e.f4 e.f5 A c e.f6 (ownB e) w3 (Kd.C_below HC.out HE3.out.below) hc (own_some e))
      by_cases h3 : ownB e = true
      · have HR : Hid (o = cntL e.f6 (deep + 1) (many + 1)) := HOE.out.trans ((if_neg h1).trans ((if_neg h2).trans (if_pos h3)))
        have HLN : Hid (e.f6.length ≤ 9223372036854775807) := by have h1 := (own_true h3).2; have h2 := wants_le e.f0; show _ ≤ _; omega
        rw [h3] at HOWN
        clear h3
        go_upto_region 4 with (go_at_call 84; refine HOWN.out.mono ?_; rintro r w4 ⟨rfl, hb4⟩)
        have HE4 := Lib.hid (HE3.out.later hb4)
        have HO4 := Lib.hid (HO3.out.trans (Only.of hb4))
        have hgd4 := (hb4.block gd (blk_lt hgd3)).trans hgd3
        have hz : w4.cell? ⟨g, 6 + 2, none⟩ = some (.slice A e.f6.length c) := (bkC ((hb4.block g (blk_lt hg3)).trans hg3) 8).trans rfl
        clear hz0 hz1 hz2 hz3 hz4 hz5 hz6 hz7 hz8 hmc hdc hg3 hgd3 HE3 HO3 hb4 HOWN
        have HCON := Lib.hid (contains_ok 85 #[.pointer (some ⟨wb, 0, none⟩), .pointer (some ⟨gd, 0, none⟩)] e.f6 A c w0 w4 HC.out HLN.out hcf51
          (fun i W => ∃ m, cntL (e.f6.take i) (deep + 1) (many + 1) = some m ∧ m ≤ 200 ∧ REnv w0 W mb wb m ∧ Only mb w4 W) (fun W => cntL e.f6 (deep + 1) (many + 1) = none ∧ Only mb w4 W)
          (fun i W h => by obtain ⟨m, _, _, h, _⟩ := h; exact h.below)
          (fun i x A8 c8 W hx h hc8 hC8 => by
            obtain ⟨m, h1, h2, h3, h4⟩ := h
            have hi : i < e.f6.length := (List.getElem?_eq_some_iff.1 hx).1
            have hxi : e.f6[i] = x := (List.getElem?_eq_some_iff.1 hx).2
            have hsn : cntL (e.f6.take (i + 1)) (deep + 1) (many + 1) = cnt x (deep + 1) m := by
              rw [List.take_succ_eq_append_getElem hi, cntL_snoc, h1, hxi]; rfl
            refine (walk1_ok w0 mb wb gd x (IH.out x (hxi ▸ List.getElem_mem hi)) deep m A8 c8 W h3 h2 (by omega) hc8 hC8 ((h4.block gd (blk_lt hgd4) hgdm).trans hgd4)).mono ?_
            rintro r W' (⟨m', g1, gle, rfl, g3, g4⟩ | ⟨g1, rfl, g4⟩)
            · exact .inl ⟨rfl, m', by rw [hsn, g1], gle, h3.only g4 g3, h4.trans g4⟩
            · exact .inr ⟨rfl, cntL_none_of_take _ (i + 1) _ _ (by rw [hsn, g1]), h4.trans g4⟩)
          ⟨many + 1, by simp [cntL], by omega, HE4.out, Only.refl _ _⟩)
        go_wp2_with fail
        all_goals
          refine HCON.out.mono ?_
          rintro r W' (⟨rfl, m, h1, hle, h3, h4⟩ | ⟨rfl, h1, h4⟩)
          · rw [List.take_length] at h1
            have H1 := Lib.hid h1; clear h1
            go_wp2_with fail
            go_ret
            exact .inl ⟨m, HR.out.trans H1.out, hle, rfl, h3.bm, HO4.out.trans h4⟩
          · have H1 := Lib.hid h1; clear h1
            go_wp2_with fail
            go_ret
            exact .inr ⟨HR.out.trans H1.out, rfl, HO4.out.trans h4⟩
      · have HR : Hid (o = none) := HOE.out.trans ((if_neg h1).trans ((if_neg h2).trans (if_neg h3)))
        have h3 : ownB e = false := by simpa using h3
        rw [h3] at HOWN
        clear h3
        go_wp2_with (go_at_call 84; refine HOWN.out.mono ?_; rintro r w4 ⟨rfl, hb4⟩)
        go_ret
        exact .inr ⟨HR.out, rfl, HO3.out.trans (Only.of hb4)⟩
theorem walk_ok (w0 : World) (mb wb : Nat) : ∀ (N : Nat) (e : Ex), SizeOf.sizeOf e < N → WalkOk w0 mb wb e := by
  intro N
  induction N with
  | zero => intro e h; omega
  | succ N ih =>
    intro e h
    refine walk_step w0 mb wb e fun x hx => ih x ?_
    have h1 := List.sizeOf_lt_of_mem hx
    have h2 : SizeOf.sizeOf e.f6 < SizeOf.sizeOf e := by cases e; simp; omega
    omega
set_option maxRecDepth 100000 in
theorem right_ok (e : Ex) (A : Option Addr) (c : Nat) (w : World) (hC : Kd.C k26 w A e.f6.length e.f6) (hc : e.f6.length ≤ c) :
    Calls Tryz.prog 50 #[.agg (exC e A c)] w fun r w' => r = .returned (.bool (rightB e)) ∧ Below w.heap.size w w' := by
  have HC := Lib.hid hC
  clear hC
  unfold exC
  obtain ⟨b, hb⟩ : ∃ b, rightB e = b := ⟨_, rfl⟩
  rw [hb]
  have HBV := Lib.hid hb; clear hb
  go_enter Tryz.func50, Tryz.ntmps50
  go_upto_region 2 with (first | ((with_reducible refine gate_dst (N := 1) rfl ?_); refine box_event rfl (N := 1) rfl (cs := exC e A c) (t := 26) (by first | rfl | (go_simp; done) | (go_simp; rfl)) ?_; intro g hgg w1 hbg hBg;  clear hgg) | ((with_reducible refine gate_dst (N := 3) rfl ?_); refine box_event rfl (N := 3) rfl (cs := #[.int .i64 0]) (t := 3) (by first | rfl | (go_simp; done) | (go_simp; rfl)) ?_; intro mb hgg w2 hbmb hBmb;  have hmb : w.heap.size ≤ mb := (by have := hBg.size; omega); have hgm : g ≠ mb := (by have := blk_lt hbg; omega); have hmc : w2.cell? ⟨mb, 0, none⟩ = some (.int .i64 0) := ((bkC hbmb 0).trans rfl); have hmf := bkF hbmb 0; clear hgg))
  have hB2 : Below w.heap.size w w2 := hBg.trans (hBmb.mono hBg.size)
  have hb3 : (w2.setCell ⟨mb, 0, none⟩ (.int .i64 0)).heap[mb]? = some (.cells #[.int .i64 ((0 : Nat) : Int)] 3 (0, 0)) := blk_set hbmb 0 _
  have hg3 : (w2.setCell ⟨mb, 0, none⟩ (.int .i64 0)).heap[g]? = some (.cells (exC e A c) 26 (0, 0)) := blk_far ((hBmb.block g (blk_lt hbg)).trans hbg) hgm _
  have hB3 : Below w.heap.size w (w2.setCell ⟨mb, 0, none⟩ (.int .i64 0)) := hB2.setCell hmb _
  clear hmc hmf hbg hBg hbmb hBmb hB2 hgm
  generalize w2.setCell ⟨mb, 0, none⟩ (.int .i64 0) = w3 at hb3 hg3 hB3 ⊢
  go_upto_region 3 with (first | ((with_reducible refine gate_dst (N := 4) rfl ?_); refine box_event rfl (N := 4) rfl (cs := #[.nilFunc]) (t := 122) (by first | rfl | (go_simp; done) | (go_simp; rfl)) ?_; intro wb hgg w4 hbwb hBwb;  have hwb : w.heap.size ≤ wb := (by have := hB3.size; omega); have hmw : mb ≠ wb := (by have := blk_lt hb3; omega); have hgw : g ≠ wb := (by have := blk_lt hg3; omega); have hwc : w4.cell? ⟨wb, 0, none⟩ = some .nilFunc := ((bkC hbwb 0).trans rfl); have hwf := bkF hbwb 0; clear hgg))
  go_upto_region 4 with (fail)
  obtain ⟨w5, hw5⟩ : ∃ w5, w5 = w4.setCell ⟨wb, 0, none⟩ (.func (.func 83) #[] #[.pointer (some ⟨mb, 0, none⟩), .pointer (some ⟨wb, 0, none⟩)]) := ⟨_, rfl⟩
  have hE : REnv w w5 mb wb 0 := by
    rw [hw5]
    exact ⟨((hB3.trans (hBwb.mono hB3.size))).setCell hwb _, hmb, hwb, hmw, blk_far ((hBwb.block mb (blk_lt hb3)).trans hb3) hmw _, blk_set hbwb 0 _⟩
  have hg5 : w5.heap[g]? = some (.cells (exC e A c) 26 (0, 0)) := by rw [hw5]; exact blk_far ((hBwb.block g (blk_lt hg3)).trans hg3) hgw _
  rw [← hw5]
  have HW := Lib.hid (walk_ok w mb wb _ e (Nat.lt_succ_self _) 1 0 A c w5 hE (by omega) (by omega) hc HC.out)
  unfold exC at HW
  have hfc : w5.cell? ⟨wb, 0, none⟩ = some _ := (bkC hE.bw 0).trans rfl
  obtain ⟨hz0, hz1, hz2, hz3, hz4, hz5, hz6, hz7, hz8⟩ := bkC9 hg5
  have HE := Lib.hid hE
  clear hw5 hb3 hg3 hB3 hbwb hBwb hwc hwf hE hg5
  go_wp2_with fail
  refine HW.out.mono ?_
  rintro r W' (⟨m, h1, hle, rfl, h3, h4⟩ | ⟨h1, rfl, h4⟩)
  · have H1 := Lib.hid h1; clear h1
    go_wp2_with fail
    go_ret
    exact ⟨by rw [← HBV.out]; unfold rightB; rw [H1.out]; rfl, h4.below HE.out.below HE.out.hm HE.out.below.size⟩
  · have H1 := Lib.hid h1; clear h1
    go_wp2_with fail
    go_ret
    exact ⟨by rw [← HBV.out]; unfold rightB; rw [H1.out]; rfl, h4.below HE.out.below HE.out.hm HE.out.below.size⟩
def Rt (e : Ex) : Prop := ∃ d m r, cnt e d m = some r
theorem Rt.own {e : Ex} (h : Rt e) : ownB e = true := by
  obtain ⟨d, m, r, h⟩ := h
  rw [cnt_eq] at h
  split at h
  · cases h
  · split at h
    · cases h
    · split at h
      · assumption
      · cases h
theorem cntL_mem {l : List Ex} {x : Ex} (hx : x ∈ l) : ∀ {d m r : Nat}, cntL l d m = some r → ∃ m' r', cnt x d m' = some r' := by
  induction l with
  | nil => cases hx
  | cons y l ih =>
    intro d m r h
    rw [cntL] at h
    obtain ⟨q, h1, h2⟩ := Option.bind_eq_some_iff.1 h
    cases hx with
    | head => exact ⟨m, q, h1⟩
    | tail _ hx => exact ih hx h2
theorem Rt.kid {e x : Ex} (h : Rt e) (hx : x ∈ e.f6) : Rt x := by
  have ho := h.own
  obtain ⟨d, m, r, h⟩ := h
  rw [cnt_eq, ho] at h
  split at h
  · cases h
  · split at h
    · cases h
    · obtain ⟨m', r', h'⟩ := cntL_mem hx (by simpa using h)
      exact ⟨_, m', r', h'⟩
theorem Rt.len {e : Ex} (h : Rt e) : e.f6.length ≤ 2 := by have h1 := (own_true h.own).2; have h2 := wants_le e.f0; omega
theorem Rt.of {e : Ex} (h : rightB e = true) : Rt e := by
  unfold rightB at h
  obtain ⟨r, hr⟩ := Option.isSome_iff_exists.1 h
  exact ⟨1, 0, r, hr⟩
section
variable {σ : Type}
mutual
/-- Something of each part in turn, till it holds. -/
def someF (step : Ex → σ → Bool × σ) : Ex → σ → Bool × σ
  | ⟨f0, f1, f2, f3, f4, f5, f6⟩, s => if (step ⟨f0, f1, f2, f3, f4, f5, f6⟩ s).1 = true then (true, (step ⟨f0, f1, f2, f3, f4, f5, f6⟩ s).2) else someL step f6 (step ⟨f0, f1, f2, f3, f4, f5, f6⟩ s).2
def someL (step : Ex → σ → Bool × σ) : List Ex → σ → Bool × σ
  | [], s => (false, s)
  | x :: xs, s => if (someF step x s).1 = true then (true, (someF step x s).2) else someL step xs (someF step x s).2
end
theorem someF_eq (step : Ex → σ → Bool × σ) (e : Ex) (s : σ) : someF step e s = if (step e s).1 = true then (true, (step e s).2) else someL step e.f6 (step e s).2 := by
  cases e; rw [someF]
theorem someL_take (step : Ex → σ → Bool × σ) (l : List Ex) (k : Nat) (hk : k < l.length) : ∀ (s : σ), (someL step (l.take k) s).1 = false →
    someL step (l.take (k + 1)) s = someF step l[k] (someL step (l.take k) s).2 := by
  induction l generalizing k with
  | nil => simp at hk
  | cons y l ih =>
    intro s h
    cases k with
    | zero =>
      simp only [List.take_zero, List.take_succ_cons, someL, List.getElem_cons_zero]
      split
      · rename_i h1; rw [← h1]
      · rename_i h1; rw [← (by simpa using h1 : (someF step y s).1 = false)]
    | succ k =>
      simp only [List.take_succ_cons, someL, List.getElem_cons_succ] at h ⊢
      split at h
      · simp at h
      · rename_i h1
        rw [if_neg h1, if_neg h1]
        exact ih k (by simpa using hk) _ h
theorem someL_stop (step : Ex → σ → Bool × σ) (l : List Ex) (k : Nat) : ∀ (s : σ), (someL step (l.take k) s).1 = true → someL step l s = someL step (l.take k) s := by
  induction l generalizing k with
  | nil => intro s h; simp at h ⊢
  | cons y l ih =>
    intro s h
    cases k with
    | zero => simp [someL] at h
    | succ k =>
      simp only [List.take_succ_cons, someL] at h ⊢
      split
      · rfl
      · rename_i h1
        rw [if_neg h1] at h
        exact ih k _ h
structure Fr (sb : Option Nat) (w w' : World) : Prop where
  size : w.heap.size ≤ w'.heap.size
  block : ∀ k, k < w.heap.size → sb ≠ some k → w'.heap[k]? = w.heap[k]?
theorem Fr.refl (sb : Option Nat) (w : World) : Fr sb w w := ⟨Nat.le_refl _, fun _ _ _ => rfl⟩
theorem Fr.trans {sb : Option Nat} {u v w : World} (h : Fr sb u v) (k : Fr sb v w) : Fr sb u w :=
  ⟨Nat.le_trans h.size k.size, fun i hi hc => (k.block i (by have := h.size; omega) hc).trans (h.block i hi hc)⟩
theorem Fr.of {sb : Option Nat} {u v : World} (h : Below u.heap.size u v) : Fr sb u v := ⟨h.size, fun k hk _ => h.block k hk⟩
theorem Fr.set (w : World) (c i : Nat) (u : Value) : Fr (some c) w (w.setCell ⟨c, i, none⟩ u) :=
  ⟨by simp [World.setCell], fun k _ hc => Below.heap_setCell _ _ _ _ (fun h => hc (by rw [h]))⟩
structure SomeEnv (w0 : World) (sb : Option Nat) (fid : Nat) (caps : Array Value) (step : Ex → σ → Bool × σ) (R : σ → World → Prop) : Prop where
  run : ∀ (args : Array Value) (W : World), (callFunc fid args).run Tryz.prog W = .ok (.enter fid args) W
  base : ∀ s W, R s W → Below w0.heap.size w0 W
  old : ∀ s W k, R s W → sb = some k → k < W.heap.size
  later : ∀ s W W', R s W → Below W.heap.size W W' → R s W'
  one : ∀ (e : Ex) (A : Option Addr) (c : Nat) (s : σ) (W : World), Rt e → R s W → e.f6.length ≤ c → Kd.C k26 w0 A e.f6.length e.f6 →
    Calls Tryz.prog fid (#[.agg (exC e A c)] ++ caps) W fun r W' => r = .returned (.bool (step e s).1) ∧ R (step e s).2 W' ∧ Fr sb W W'
def SomeP (R : σ → World → Prop) (sb : Option Nat) (W : World) (q : Bool × σ) (r : Ending) (W' : World) : Prop := r = .returned (.bool q.1) ∧ R q.2 W' ∧ Fr sb W W'
def SomeOk (w0 : World) (sb : Option Nat) (fid : Nat) (caps : Array Value) (step : Ex → σ → Bool × σ) (R : σ → World → Prop) (e : Ex) : Prop :=
  ∀ (A : Option Addr) (c : Nat) (s : σ) (W : World), Rt e → R s W → e.f6.length ≤ c → Kd.C k26 w0 A e.f6.length e.f6 →
    Calls Tryz.prog 99 #[.agg (exC e A c), .func (.func fid) #[] caps] W (SomeP R sb W (someF step e s))
theorem hcf61 : ∀ (args : Array Value) (W : World), (callFunc 125 args).run Tryz.prog W = .ok (.enter 125 args) W := fun args W => by go_simp
set_option maxRecDepth 100000 in
theorem some1_ok {w0 : World} {sb : Option Nat} {fid : Nat} {caps : Array Value} {step : Ex → σ → Bool × σ} {R : σ → World → Prop} (hE : SomeEnv w0 sb fid caps step R) (e : Ex) (h : SomeOk w0 sb fid caps step R e) (fb : Nat) (A : Option Addr) (c : Nat) (s : σ) (w : World)
    (hRt : Rt e) (hR : R s w) (hc : e.f6.length ≤ c) (hC : Kd.C k26 w0 A e.f6.length e.f6) (hfb : w.heap[fb]? = some (.cells #[.func (.func fid) #[] caps] 67 (0, 0))) :
    Calls Tryz.prog 125 #[.agg (exC e A c), .pointer (some ⟨fb, 0, none⟩)] w (SomeP R sb w (someF step e s)) := by
  have HS := Lib.hid h; have HC := Lib.hid hC; have HR := Lib.hid hR; have HE := Lib.hid hE; have HRT := Lib.hid hRt
  clear h hC hR hE hRt
  obtain ⟨q, hq⟩ : ∃ q, someF step e s = q := ⟨_, rfl⟩
  rw [hq]
  have HQ := Lib.hid hq; clear hq
  unfold exC
  go_enter Tryz.func125, Tryz.ntmps125
  go_upto_region 1 with (first | ((with_reducible refine gate_dst (N := 2) rfl ?_); refine box_event rfl (N := 2) rfl (cs := exC e A c) (t := 26) (by first | rfl | (go_simp; done) | (go_simp; rfl)) ?_; intro g hgg w1 hbg hBg;  clear hgg))
  have hR1 := HE.out.later s w w1 HR.out hBg
  have hfc : w1.cell? ⟨fb, 0, none⟩ = some (.func (.func fid) #[] caps) := (bkC ((hBg.block fb (blk_lt hfb)).trans hfb) 0).trans rfl
  obtain ⟨hz0, hz1, hz2, hz3, hz4, hz5, hz6, hz7, hz8⟩ := bkC9 hbg
  have HF := Lib.hid (Fr.of (sb := sb) hBg)
  have HCALL := Lib.hid (HS.out A c s w1 HRT.out hR1 hc HC.out)
  rw [HQ.out] at HCALL
  unfold exC at HCALL
  clear hbg hBg hfb hR1
  go_wp2_with fail
  refine HCALL.out.mono ?_
  rintro r W' ⟨rfl, h1, h2⟩
  have H1 := Lib.hid h1; clear h1
  go_wp2_with fail
  go_ret
  exact ⟨rfl, H1.out, HF.out.trans h2⟩
set_option maxRecDepth 100000 in
theorem some_step {w0 : World} {sb : Option Nat} {fid : Nat} {caps : Array Value} {step : Ex → σ → Bool × σ} {R : σ → World → Prop} (hE : SomeEnv w0 sb fid caps step R) (e : Ex) (ih : ∀ x ∈ e.f6, SomeOk w0 sb fid caps step R x) : SomeOk w0 sb fid caps step R e := by
  intro A c s w hRt hR hc hC
  have IH := Lib.hid ih; have HC := Lib.hid hC; have HR := Lib.hid hR; have HE := Lib.hid hE; have HRT := Lib.hid hRt
  have hrun := hE.run
  clear ih hC hR hE hRt
  obtain ⟨q, hq⟩ : ∃ q, someF step e s = q := ⟨_, rfl⟩
  rw [hq]
  rw [someF_eq] at hq
  have HQ := Lib.hid hq.symm; clear hq
  unfold exC
  go_enter Tryz.func99, Tryz.ntmps99
  go_upto_region 1 with (first | ((with_reducible refine gate_dst (N := 2) rfl ?_); refine box_event rfl (N := 2) rfl (cs := exC e A c) (t := 26) (by first | rfl | (go_simp; done) | (go_simp; rfl)) ?_; intro g hgg w1 hbg hBg;  have hgs : sb ≠ some g := (fun h => by have := HE.out.old s w g HR.out h; omega); clear hgg) | ((with_reducible refine gate_dst (N := 3) rfl ?_); refine box_event rfl (N := 3) rfl (cs := #[.func (.func fid) #[] caps]) (t := 67) (by first | rfl | (go_simp; done) | (go_simp; rfl)) ?_; intro fb hgg w2 hbfb hBfb;  have hfs : sb ≠ some fb := (fun h => by have := HE.out.old s w fb HR.out h; have := hBg.size; omega); clear hgg))
  have hR1 := HE.out.later s w1 w2 (HE.out.later s w w1 HR.out hBg) hBfb
  have hF2 : Fr sb w w2 := (Fr.of hBg).trans (Fr.of hBfb)
  have hg2 := (hBfb.block g (blk_lt hbg)).trans hbg
  have hfc : w2.cell? ⟨fb, 0, none⟩ = some (.func (.func fid) #[] caps) := (bkC hbfb 0).trans rfl
  obtain ⟨hz0, hz1, hz2, hz3, hz4, hz5, hz6, hz7, hz8⟩ := bkC9 hg2
  have HCALL := Lib.hid (HE.out.one e A c s w2 HRT.out hR1 hc HC.out)
  unfold exC at HCALL
  clear hbg hBg hBfb hR1
  go_wp2_with fail
  refine HCALL.out.mono ?_
  obtain ⟨p, hp⟩ : ∃ p, step e s = p := ⟨_, rfl⟩
  rw [hp] at HQ ⊢
  have HP := Lib.hid hp; clear hp
  obtain ⟨p1, p2⟩ := p
  rintro r w3 ⟨rfl, h1, h3⟩
  have HF3 := Lib.hid (hF2.trans h3)
  have H1 := Lib.hid h1; clear h1
  have hz : w3.cell? ⟨g, 6 + 2, none⟩ = some (.slice A e.f6.length c) := (bkC ((h3.block g (blk_lt hg2) hgs).trans hg2) 8).trans rfl
  have hfb3 := (h3.block fb (blk_lt hbfb) hfs).trans hbfb
  clear hz0 hz1 hz2 hz3 hz4 hz5 hz6 hz7 hz8 hfc hg2 hbfb h3 hF2 HCALL
  cases p1 with
  | true =>
    have HQ2 : Hid (q = (true, p2)) := HQ.out
    go_wp2_with fail
    go_ret
    exact ⟨by rw [HQ2.out]; rfl, by rw [HQ2.out]; exact H1.out, HF3.out⟩
  | false =>
    have HQ2 : Hid (q = someL step e.f6 p2) := HQ.out
    have HLN : Hid (e.f6.length ≤ 9223372036854775807) := by have h1 := HRT.out.len; show _ ≤ _; omega
    have HCON := Lib.hid (contains_ok 125 #[.pointer (some ⟨fb, 0, none⟩)] e.f6 A c w0 w3 HC.out HLN.out hcf61
      (fun i W => (someL step (e.f6.take i) p2).1 = false ∧ R (someL step (e.f6.take i) p2).2 W ∧ Fr sb w3 W) (fun W => q.1 = true ∧ R q.2 W ∧ Fr sb w3 W)
      (fun i W h => HE.out.base _ _ h.2.1)
      (fun i x A8 c8 W hx h hc8 hC8 => by
        obtain ⟨g1, g2, g3⟩ := h
        have hi : i < e.f6.length := (List.getElem?_eq_some_iff.1 hx).1
        have hxi : e.f6[i] = x := (List.getElem?_eq_some_iff.1 hx).2
        have hm : x ∈ e.f6 := hxi ▸ List.getElem_mem hi
        have hs1 := someL_take step e.f6 i hi p2 g1
        rw [hxi] at hs1
        refine (some1_ok HE.out x (IH.out x hm) fb A8 c8 _ W (HRT.out.kid hm) g2 hc8 hC8 ((g3.block fb (blk_lt hfb3) hfs).trans hfb3)).mono ?_
        rintro r W' ⟨rfl, k1, k2⟩
        rw [← hs1] at k1 ⊢
        cases hb : (someL step (e.f6.take (i + 1)) p2).1 with
        | false => exact .inl ⟨rfl, rfl, k1, g3.trans k2⟩
        | true =>
          have h5 := someL_stop step e.f6 (i + 1) p2 hb
          rw [← HQ2.out] at h5
          rw [← h5] at hb k1
          exact .inr ⟨rfl, hb, k1, g3.trans k2⟩)
      ⟨by simp [someL], by simpa [someL] using H1.out, Fr.refl _ _⟩)
    rw [List.take_length, ← HQ2.out] at HCON
    go_wp2_with fail
    all_goals
      refine HCON.out.mono ?_
      rintro r W' (⟨rfl, h1, h3, h4⟩ | ⟨rfl, h1, h3, h4⟩)
      · have H1 := Lib.hid h1; clear h1
        have H3 := Lib.hid h3; clear h3
        go_wp2_with fail
        go_ret
        exact ⟨congrArg (fun b => Ending.returned (.bool b)) H1.out.symm, H3.out, HF3.out.trans h4⟩
      · have H1 := Lib.hid h1; clear h1
        have H3 := Lib.hid h3; clear h3
        go_wp2_with fail
        go_ret
        exact ⟨congrArg (fun b => Ending.returned (.bool b)) H1.out.symm, H3.out, HF3.out.trans h4⟩
theorem some_ok {w0 : World} {sb : Option Nat} {fid : Nat} {caps : Array Value} {step : Ex → σ → Bool × σ} {R : σ → World → Prop} (hE : SomeEnv w0 sb fid caps step R) : ∀ (N : Nat) (e : Ex), SizeOf.sizeOf e < N → SomeOk w0 sb fid caps step R e := by
  intro N
  induction N with
  | zero => intro e h; omega
  | succ N ih =>
    intro e h
    refine some_step hE e fun x hx => ih x ?_
    have h1 := List.sizeOf_lt_of_mem hx
    have h2 : SizeOf.sizeOf e.f6 < SizeOf.sizeOf e := by cases e; simp; omega
    omega
end
end Go.Proofs.YtoffpegppdmkdaaGreatDoor.E
namespace Go.Proofs.YtoffpegppdmkdaaGreatDoor.E
set_option linter.unusedSimpArgs false
set_option linter.unusedVariables false
open Go.RowKit Go.Proofs.YtoffpegppdmkdaaGreatDoorW.PrintWords Go.Proofs.YtoffpegppdmkdaaGreatDoorW.PrintLast Go.Proofs.YtoffpegppdmkdaaGreatDoorW.PrintMore
theorem Rt.rel {e : Ex} (h : Rt e) (h2 : e.f0 = 2) : 0 ≤ e.f2 ∧ e.f2 ≤ 15 ∧ 0 ≤ e.f3 ∧ e.f3 < 6 := by
  have h := h.own
  unfold ownB expr_own.f expr_wants.f at h
  simp only [Option.bind_some] at h
  split at h
  · by_cases hl : (e.f6.length : Int) = wantsI e.f0
    · rw [bne_eq_false_iff_eq.mpr hl] at h
      simp only [expr_own.j0, h2] at h
      simp at h
      repeat' (first | (split at h) | (simp at h; done))
      all_goals first | (simp at h; done) | exact ⟨by assumption, by assumption, by assumption, by assumption⟩
    · rw [bne_iff_ne.mpr hl] at h
      simp [expr_own.j0] at h
  · simp [expr_own.j0] at h
theorem Rt.par {e : Ex} (h : Rt e) (h2 : e.f0 = 3) : 1 ≤ e.f4 ∧ e.f4 ≤ 4 := by
  have h := h.own
  unfold ownB expr_own.f expr_wants.f at h
  simp only [Option.bind_some] at h
  split at h
  · by_cases hl : (e.f6.length : Int) = wantsI e.f0
    · rw [bne_eq_false_iff_eq.mpr hl] at h
      simp only [expr_own.j0, h2] at h
      simp at h
      repeat' (first | (split at h) | (simp at h; done))
      all_goals first | (simp at h; done) | exact ⟨by assumption, by assumption⟩
    · rw [bne_iff_ne.mpr hl] at h
      simp [expr_own.j0] at h
  · simp [expr_own.j0] at h
def zerosE : Array Value := #[.int .i64 0, .int .i64 0, .int .i64 0, .string ⟨#[]⟩, .int .i64 0, .int .i64 0, .int .i64 0, .string ⟨#[]⟩, .slice none 0 0]
theorem info_ex (e : Ex) (A : Option Addr) (c : Nat) : (Tryz.prog.info? 26).map (·.size) = some (exC e A c).size := by
  have h : (Tryz.prog.info? 26).map (·.size) = some 9 := by kernel_rfl
  rw [h]; rfl
theorem one_ex (e : Ex) (A : Option Addr) (c : Nat) : (exC e A c).all (·.oneCell') = true := by simp [exC, Value.oneCell']
theorem meas_own {e : Ex} {p : Nat × Nat} (h : meas e = some p) : ownB e = true ∧ ∃ q, measL e.f6 = some q := by
  rw [meas_eq] at h
  split at h
  · obtain ⟨q, hq, _⟩ := Option.map_eq_some_iff.1 h
    exact ⟨by assumption, q, hq⟩
  · cases h
theorem measL_cons {x : Ex} {xs : List Ex} {p : Nat × Nat} (h : measL (x :: xs) = some p) : (∃ a, meas x = some a) ∧ ∃ b, measL xs = some b := by
  rw [measL] at h
  obtain ⟨a, ha, h⟩ := Option.bind_eq_some_iff.1 h
  obtain ⟨b, hb, _⟩ := Option.map_eq_some_iff.1 h
  exact ⟨⟨a, ha⟩, b, hb⟩
theorem right_some_meas {e : Ex} (h : rightB e = true) : ∃ p, meas e = some p := by
  rw [right_meas] at h
  cases hm : meas e with
  | none => rw [hm] at h; simp at h
  | some p => exact ⟨p, rfl⟩
mutual
theorem Ex.ind {P : Ex → Prop} (h : ∀ e : Ex, (∀ x ∈ e.f6, P x) → P e) : (e : Ex) → P e
  | ⟨f0, f1, f2, f3, f4, f5, f6⟩ => h _ (Ex.indL h f6)
theorem Ex.indL {P : Ex → Prop} (h : ∀ e : Ex, (∀ x ∈ e.f6, P x) → P e) : (l : List Ex) → ∀ x ∈ l, P x
  | [] => fun x hx => by simp at hx
  | y :: ys => fun x hx => by
    have hy := Ex.ind h y
    rcases List.mem_cons.1 hx with e | hx
    · rw [e]; exact hy
    · exact Ex.indL h ys x hx
end
def small (e : Ex) : Prop := ∃ p, meas e = some p ∧ p.1 ≤ 20 ∧ p.2 ≤ 200
theorem small_right {e : Ex} : small e ↔ rightB e = true := by
  rw [right_meas]
  unfold small
  cases meas e with
  | none => simp
  | some p => simp
end Go.Proofs.YtoffpegppdmkdaaGreatDoor.E
namespace Go.Proofs.YtoffpegppdmkdaaGreatDoor.E
open Go.RowKit Go.Proofs.YtoffpegppdmkdaaGreatDoorW.PrintWords Go.Proofs.YtoffpegppdmkdaaGreatDoorW.PrintLast Go.Proofs.YtoffpegppdmkdaaGreatDoorW.PrintMore
def tabStep (e : Ex) (s : Int) : Bool × Int := (false, if e.f0 = 2 then Go.bits .or .i64 s (shl .i64 1 e.f2) else s)
def tabN (e : Ex) : Int := if rightB e = true then (someF tabStep e 0).2 else 0
theorem hcf47 : ∀ (args : Array Value) (W : World), (callFunc 100 args).run Tryz.prog W = .ok (.enter 100 args) W := fun args W => by go_simp
structure TEnv (w0 : World) (tb : Nat) (s : Int) (w : World) : Prop where
  below : Below w0.heap.size w0 w
  ge : w0.heap.size ≤ tb
  blk : w.heap[tb]? = some (.cells #[.int .i64 s] 3 (0, 0))
set_option maxRecDepth 100000 in
theorem tables1_ok (w0 : World) (tb : Nat) (e : Ex) (A : Option Addr) (c : Nat) (s : Int) (w : World) (hRt : Rt e) (hT : TEnv w0 tb s w) :
    Calls Tryz.prog 100 #[.agg (exC e A c), .pointer (some ⟨tb, 0, none⟩)] w (SomeP (TEnv w0 tb) (some tb) w (tabStep e s)) := by
  unfold exC
  obtain ⟨q, hq⟩ : ∃ q, tabStep e s = q := ⟨_, rfl⟩
  rw [hq]
  have HQ := Lib.hid hq.symm; clear hq
  have HRT := Lib.hid hRt; have HT := Lib.hid hT
  clear hRt hT
  go_enter Tryz.func100, Tryz.ntmps100
  go_upto_region 1 with (first | ((with_reducible refine gate_dst (N := 2) rfl ?_); refine box_event rfl (N := 2) rfl (cs := exC e A c) (t := 26) (by first | rfl | (go_simp; done) | (go_simp; rfl)) ?_; intro g hgg w1 hbg hBg;  have hgt : g ≠ tb := (by have := blk_lt HT.out.blk; omega); clear hgg))
  obtain ⟨hz0, hz1, hz2, hz3, hz4, hz5, hz6, hz7, hz8⟩ := bkC9 hbg
  have HB := Lib.hid hBg
  have ht1 := (HB.out.block tb (blk_lt HT.out.blk)).trans HT.out.blk
  have HT1 : Hid (TEnv w0 tb s w1) := ⟨HT.out.below.trans (HB.out.mono HT.out.below.size), HT.out.ge, ht1⟩
  clear hbg hBg
  by_cases h1 : e.f0 = 2
  · have HQ2 : Hid (q = (false, Go.bits .or .i64 s (shl .i64 1 e.f2))) := by have := HQ.out; show _ = _; rw [this]; unfold tabStep; rw [if_pos h1]
    obtain ⟨h2, h3, -, -⟩ := HRT.out.rel h1
    have h2b : decide (0 ≤ e.f2) = true := decide_eq_true h2
    obtain ⟨j, hj⟩ : ∃ j, shl .i64 1 e.f2 = j := ⟨_, rfl⟩
    rw [hj] at HQ2
    have hj1 : (IntKind.i64.wrap (1 * 2 ^ min e.f2.toNat 64)) = j := hj
    have hj2 : (IntKind.i64.wrap (1 * 2 ^ e.f2.toNat)) = j := shl_small hj (by show e.f2 ≤ 64; omega)
    have hj3 : (IntKind.i64.wrap (2 ^ min e.f2.toNat 64)) = j := by have h_ := hj1; rw [Int.one_mul] at h_; exact h_
    have hj4 : (IntKind.i64.wrap (2 ^ e.f2.toNat)) = j := by have h_ := hj2; rw [Int.one_mul] at h_; exact h_
    have hj5 : (wrap64 (1 * 2 ^ min e.f2.toNat 64)) = j := (i64_w _).symm.trans hj1
    have hj6 : (wrap64 (1 * 2 ^ e.f2.toNat)) = j := (i64_w _).symm.trans hj2
    have hj7 : e.f2 ≤ 64 := by omega
    have hmc : w1.cell? ⟨tb, 0, none⟩ = some (.int .i64 s) := (bkC ht1 0).trans rfl
    have hmf : w1.frozen? ⟨tb, 0, none⟩ = false := bkF ht1 0
    go_upto_region 2 with (fail)
    go_region
    go_wp2_with fail
    go_ret
    have hset : (w1.setCell ⟨tb, 0, none⟩ (.int .i64 (bits .or .i64 s j))).heap[tb]? = some (.cells #[.int .i64 (bits .or .i64 s j)] 3 (0, 0)) := blk_set ht1 0 _
    have hT2 : TEnv w0 tb (bits .or .i64 s j) (w1.setCell ⟨tb, 0, none⟩ (.int .i64 (bits .or .i64 s j))).drew :=
      have hS : Below w0.heap.size w0 (w1.setCell ⟨tb, 0, none⟩ (.int .i64 (bits .or .i64 s j))) := HT1.out.below.setCell (p := ⟨tb, 0, none⟩) HT.out.ge _
      ⟨⟨hS.os, hS.tape, hS.output, hS.size, hS.block⟩, HT.out.ge, hset⟩
    have hF2 := (Fr.of HB.out).trans (Fr.set w1 tb 0 (.int .i64 (bits .or .i64 s j)))
    exact ⟨congrArg (fun b => Ending.returned (.bool b)) (congrArg Prod.fst HQ2.out).symm, by rw [HQ2.out]; exact hT2, ⟨hF2.size, hF2.block⟩⟩
  · have HQ2 : Hid (q = (false, s)) := by have := HQ.out; show _ = _; rw [this]; unfold tabStep; rw [if_neg h1]
    go_wp2_with fail
    go_ret
    exact ⟨congrArg (fun b => Ending.returned (.bool b)) (congrArg Prod.fst HQ2.out).symm, by rw [HQ2.out]; exact HT1.out, Fr.of HB.out⟩
theorem tables_env (w0 : World) (tb : Nat) : SomeEnv w0 (some tb) 100 #[.pointer (some ⟨tb, 0, none⟩)] tabStep (TEnv w0 tb) where
  run := hcf47
  base _ _ h := h.below
  old _ _ k h e := by cases e; exact blk_lt h.blk
  later _ _ _ h k := ⟨h.below.trans (k.mono h.below.size), h.ge, (k.block tb (blk_lt h.blk)).trans h.blk⟩
  one e A c s W hRt hR _ _ := tables1_ok w0 tb e A c s W hRt hR
set_option maxRecDepth 100000 in
theorem tables_ok (e : Ex) (A : Option Addr) (c : Nat) (w : World) (hC : Kd.C k26 w A e.f6.length e.f6) (hc : e.f6.length ≤ c) :
    Calls Tryz.prog 74 #[.agg (exC e A c)] w fun r w' => r = .returned (.int .i64 (tabN e)) ∧ Below w.heap.size w w' := by
  have HC := Lib.hid hC
  clear hC
  obtain ⟨b, hb⟩ : ∃ b, tabN e = b := ⟨_, rfl⟩
  rw [hb]
  have HBV := Lib.hid hb.symm; clear hb
  unfold exC
  go_enter Tryz.func74, Tryz.ntmps74
  go_upto_region 2 with (first | ((with_reducible refine gate_dst (N := 1) rfl ?_); refine box_event rfl (N := 1) rfl (cs := exC e A c) (t := 26) (by first | rfl | (go_simp; done) | (go_simp; rfl)) ?_; intro g hgg w1 hbg hBg;  clear hgg) | ((with_reducible refine gate_dst (N := 3) rfl ?_); refine box_event rfl (N := 3) rfl (cs := #[.int .i64 0]) (t := 3) (by first | rfl | (go_simp; done) | (go_simp; rfl)) ?_; intro tb hgg w2 hbtb hBtb;  have htb : w.heap.size ≤ tb := (by have := hBg.size; omega); have hgt : g ≠ tb := (by have := blk_lt hbg; omega); have hmc : w2.cell? ⟨tb, 0, none⟩ = some (.int .i64 0) := ((bkC hbtb 0).trans rfl); have hmf := bkF hbtb 0; clear hgg))
  have hb3 : (w2.setCell ⟨tb, 0, none⟩ (.int .i64 0)).heap[tb]? = some (.cells #[.int .i64 0] 3 (0, 0)) := blk_set hbtb 0 _
  have hg3 : (w2.setCell ⟨tb, 0, none⟩ (.int .i64 0)).heap[g]? = some (.cells (exC e A c) 26 (0, 0)) := blk_far ((hBtb.block g (blk_lt hbg)).trans hbg) hgt _
  have hB3 : Below w.heap.size w (w2.setCell ⟨tb, 0, none⟩ (.int .i64 0)) := (hBg.trans (hBtb.mono hBg.size)).setCell htb _
  clear hmc hmf hbg hBg hbtb hBtb
  generalize w2.setCell ⟨tb, 0, none⟩ (.int .i64 0) = w3 at hb3 hg3 hB3 ⊢
  obtain ⟨hz0, hz1, hz2, hz3, hz4, hz5, hz6, hz7, hz8⟩ := bkC9 hg3
  have HCR := Lib.hid (right_ok e A c w3 (Kd.C_below HC.out hB3) hc)
  unfold exC at HCR
  go_wp2_with fail
  refine HCR.out.mono ?_
  obtain ⟨rb, hrb⟩ : ∃ rb, rightB e = rb := ⟨_, rfl⟩
  rw [hrb]
  have HRB := Lib.hid hrb; clear hrb
  rintro r w4 ⟨rfl, hB4⟩
  have hT4 : TEnv w tb 0 w4 := ⟨hB3.trans (hB4.mono hB3.size), htb, (hB4.block tb (blk_lt hb3)).trans hb3⟩
  clear hz0 hz1 hz2 hz3 hz4 hz5 hz6 hz7 hz8
  have hg4 := (hB4.block g (blk_lt hg3)).trans hg3
  cases rb with
  | false =>
    have HQ2 : Hid (b = 0) := by have := HBV.out; show _ = _; rw [this]; unfold tabN; rw [HRB.out]; rfl
    have hz : w4.cell? ⟨tb, 0, none⟩ = some _ := (bkC hT4.blk 0).trans rfl
    go_wp2_with fail
    go_ret
    exact ⟨congrArg (fun b => Ending.returned (.int .i64 b)) HQ2.out.symm, hT4.below⟩
  | true =>
    obtain ⟨hz0, hz1, hz2, hz3, hz4, hz5, hz6, hz7, hz8⟩ := bkC9 hg4
    have HSM := Lib.hid (some_ok (tables_env w tb) _ e (Nat.lt_succ_self _) A c 0 w4 (Rt.of HRB.out) hT4 hc HC.out)
    unfold exC at HSM
    obtain ⟨q, hq⟩ : ∃ q, (someF tabStep e 0) = q := ⟨_, rfl⟩
    rw [hq] at HSM
    have HQ2 : Hid (b = q.2) := by have := HBV.out; show _ = _; rw [this]; unfold tabN; rw [HRB.out, hq]; rfl
    clear hq
    obtain ⟨q1, q2⟩ := q
    go_wp2_with fail
    refine HSM.out.mono ?_
    rintro r w5 ⟨rfl, hT5, _⟩
    have hz : w5.cell? ⟨tb, 0, none⟩ = some _ := (bkC hT5.blk 0).trans rfl
    go_wp2_with fail
    go_ret
    exact ⟨congrArg (fun b => Ending.returned (.int .i64 b)) HQ2.out.symm, hT5.below⟩
def expr_Tables.f (a0_0 : Int) (a0_1 : Int) (a0_2 : Int) (a0_3 : ByteArray) (a0_4 : Int) (a0_5 : Int) (a0_6 : Int) (a0_7 : ByteArray) (l0_8 : List Ex) : Option (Int) := some (tabN ⟨a0_0, ⟨a0_1, a0_2, a0_3⟩, a0_4, a0_5, a0_6, a0_7, l0_8⟩)
theorem expr_Tables.calls (a0_0 : Int) (a0_1 : Int) (a0_2 : Int) (a0_3 : ByteArray) (a0_4 : Int) (a0_5 : Int) (a0_6 : Int) (a0_7 : ByteArray) (A0_8 : Option Addr) (c0_8 : Nat) (l0_8 : List Ex) (r : Int) (w : World) (hr0_8 : Kd.C k26 w A0_8 l0_8.length l0_8) (hc0_8 : l0_8.length ≤ c0_8) (h : expr_Tables.f a0_0 a0_1 a0_2 a0_3 a0_4 a0_5 a0_6 a0_7 l0_8 = some r) :
    Calls Tryz.prog 74 #[.agg #[.int .i64 a0_0, .int .i64 a0_1, .int .i64 a0_2, .string a0_3, .int .i64 a0_4, .int .i64 a0_5, .int .i64 a0_6, .string a0_7, .slice A0_8 l0_8.length c0_8]] w fun e w' => e = .returned (.int .i64 r) ∧ Below w.heap.size w w' := by
  obtain rfl := Option.some.inj h
  exact tables_ok ⟨a0_0, ⟨a0_1, a0_2, a0_3⟩, a0_4, a0_5, a0_6, a0_7, l0_8⟩ A0_8 c0_8 w hr0_8 hc0_8
end Go.Proofs.YtoffpegppdmkdaaGreatDoor.E
namespace Go.Proofs.YtoffpegppdmkdaaGreatDoor.E
set_option linter.unusedSimpArgs false
set_option linter.unusedVariables false
open Go.RowKit Go.Proofs.YtoffpegppdmkdaaGreatDoorW.PrintWords Go.Proofs.YtoffpegppdmkdaaGreatDoorW.PrintLast Go.Proofs.YtoffpegppdmkdaaGreatDoorW.PrintMore
mutual
theorem Ex.ind11 {P : Ex → Prop} (h : ∀ e : Ex, (∀ x ∈ e.f6, P x) → P e) : (e : Ex) → P e
  | ⟨f0, f1, f2, f3, f4, f5, f6⟩ => h _ (Ex.indL11 h f6)
theorem Ex.indL11 {P : Ex → Prop} (h : ∀ e : Ex, (∀ x ∈ e.f6, P x) → P e) : (l : List Ex) → ∀ x ∈ l, P x
  | [] => fun x hx => by simp at hx
  | y :: ys => fun x hx => by
    have hy := Ex.ind11 h y
    rcases List.mem_cons.1 hx with e | hx
    · rw [e]; exact hy
    · exact Ex.indL11 h ys x hx
end
mutual
/-- The tables of an expression, as bits. -/
def mskE : Ex → Nat
  | ⟨f0, f1, f2, f3, f4, f5, f6⟩ => (if f0 = 2 then 2 ^ f2.toNat else 0) ||| mskL f6
def mskL : List Ex → Nat
  | [] => 0
  | x :: xs => mskE x ||| mskL xs
end
theorem mskE_eq (e : Ex) : mskE e = (if e.f0 = 2 then 2 ^ e.f2.toNat else 0) ||| mskL e.f6 := by cases e; rw [mskE]
theorem wraps62 (n : Int) (h0 : 0 ≤ n) (h1 : n < 2 ^ 62) : IntKind.i64.wrap n = n := by rw [IntKind.wrap_i64]; omega
theorem or62 (a b : Nat) (ha : a < 65536) (hb : b < 65536) : Go.bits .or .i64 (a : Int) (b : Int) = ((a ||| b : Nat) : Int) := (bits_nat .i64 62 (by decide) wraps62 a b (by omega) (by omega)).2
theorem or_lt16 {a b : Nat} (ha : a < 65536) (hb : b < 65536) : a ||| b < 65536 := Nat.or_lt_two_pow (n := 16) ha hb
theorem pow_lt16 {n : Nat} (h : n ≤ 15) : 2 ^ n < 65536 := Nat.pow_lt_pow_right (by decide) (show n < 16 by omega)
theorem mskL_lt (l : List Ex) (h : ∀ x ∈ l, mskE x < 65536) : mskL l < 65536 := by
  induction l with
  | nil => rw [mskL]; decide
  | cons x l ih => rw [mskL]; exact or_lt16 (h x (by simp)) (ih fun y hy => h y (by simp [hy]))
theorem own_bit {e : Ex} (h : Rt e) : (if e.f0 = 2 then 2 ^ e.f2.toNat else 0) < 65536 := by
  split
  · rename_i h2; obtain ⟨a, b, _⟩ := h.rel h2; exact pow_lt16 (by omega)
  · decide
theorem msk_lt (e : Ex) : Rt e → mskE e < 65536 := by
  induction e using Ex.ind11 with
  | h e ih =>
    intro h
    rw [mskE_eq]
    exact or_lt16 (own_bit h) (mskL_lt e.f6 (fun x hx => ih x hx (h.kid hx)))
theorem shl_two {n : Int} (h0 : 0 ≤ n) (h1 : n ≤ 15) : shl .i64 1 n = ((2 ^ n.toNat : Nat) : Int) := by
  obtain ⟨j, hj⟩ : ∃ j, shl .i64 1 n = j := ⟨_, rfl⟩
  have h2 : IntKind.i64.wrap (1 * 2 ^ n.toNat) = j := shl_small hj (by show n ≤ 64; omega)
  rw [hj, ← h2, Int.one_mul]
  have hc : ((2 : Int) ^ n.toNat) = ((2 ^ n.toNat : Nat) : Int) := by simp
  have hp := pow_lt16 (n := n.toNat) (by omega)
  rw [hc]
  generalize 2 ^ n.toNat = q at hp ⊢
  exact wraps62 _ (by omega) (by omega)
theorem tab_one {e : Ex} (h : Rt e) (m : Nat) (hm : m < 65536) : tabStep e (m : Int) = (false, ((m ||| (if e.f0 = 2 then 2 ^ e.f2.toNat else 0) : Nat) : Int)) := by
  unfold tabStep
  by_cases h2 : e.f0 = 2
  · obtain ⟨a, b, _⟩ := h.rel h2
    rw [if_pos h2, if_pos h2, shl_two a b, or62 _ _ hm (pow_lt16 (by omega))]
  · rw [if_neg h2, if_neg h2, Nat.or_zero]
theorem tab_list (l : List Ex) (h : ∀ x ∈ l, Rt x ∧ ∀ m < 65536, someF tabStep x ((m : Nat) : Int) = (false, ((m ||| mskE x : Nat) : Int))) : ∀ m < 65536, someL tabStep l ((m : Nat) : Int) = (false, ((m ||| mskL l : Nat) : Int)) := by
  induction l with
  | nil => intro m _; rw [someL, mskL, Nat.or_zero]
  | cons x l ih =>
    intro m hm
    obtain ⟨hx, hs⟩ := h x (by simp)
    have hs := hs m hm
    rw [someL, hs, if_neg (by simp), ih (fun y hy => h y (by simp [hy])) _ (or_lt16 hm (msk_lt x hx)), mskL, Nat.or_assoc]
theorem tab_some (e : Ex) : Rt e → ∀ m < 65536, someF tabStep e ((m : Nat) : Int) = (false, ((m ||| mskE e : Nat) : Int)) := by
  induction e using Ex.ind11 with
  | h e ih =>
    intro h m hm
    rw [someF_eq, tab_one h m hm, if_neg (by simp), mskE_eq]
    rw [tab_list e.f6 (fun x hx => ⟨h.kid hx, ih x hx (h.kid hx)⟩) _ (or_lt16 hm (own_bit h)), Nat.or_assoc]
theorem tabN_msk {e : Ex} (hr : rightB e = true) : tabN e = (mskE e : Int) := by
  unfold tabN
  have h := tab_some e (Rt.of hr) 0 (by decide)
  rw [if_pos hr, show (0 : Int) = ((0 : Nat) : Int) from rfl, h, Nat.zero_or]
theorem measL_mem {x : Ex} (l : List Ex) : ∀ q, measL l = some q → x ∈ l → ∃ a, meas x = some a ∧ a.1 ≤ q.1 ∧ a.2 ≤ q.2 := by
  induction l with
  | nil => intro q _ hx; simp at hx
  | cons y l ih =>
    intro q hq hx
    rw [measL] at hq
    obtain ⟨a, ha, hq⟩ := Option.bind_eq_some_iff.1 hq
    obtain ⟨b, hb, rfl⟩ := Option.map_eq_some_iff.1 hq
    rcases List.mem_cons.1 hx with rfl | hx
    · exact ⟨a, ha, by simp only []; omega, by simp only []; omega⟩
    · obtain ⟨c, hc, h1, h2⟩ := ih b hb hx
      exact ⟨c, hc, by simp only []; omega, by simp only []; omega⟩
theorem right_kid {e x : Ex} (hr : rightB e = true) (hx : x ∈ e.f6) : rightB x = true := by
  obtain ⟨p, hp⟩ := right_some_meas hr
  have hb : p.1 ≤ 20 ∧ p.2 ≤ 200 := by rw [right_meas, hp] at hr; simpa using hr
  rw [meas_eq] at hp
  split at hp
  · obtain ⟨q, hq, rfl⟩ := Option.map_eq_some_iff.1 hp
    obtain ⟨a, ha, h1, h2⟩ := measL_mem _ _ hq hx
    simp only [] at hb
    rw [right_meas, ha]
    have : a.1 ≤ 20 ∧ a.2 ≤ 200 := by omega
    simp [this]
  · cases hp
end Go.Proofs.YtoffpegppdmkdaaGreatDoor.E
namespace Go.Proofs.YtoffpegppdmkdaaGreatDoor.E
open Go.RowKit Go.Proofs.YtoffpegppdmkdaaGreatDoorW.PrintWords Go.Proofs.YtoffpegppdmkdaaGreatDoorW.PrintLast Go.Proofs.YtoffpegppdmkdaaGreatDoorW.PrintMore
attribute [local go_sem] max2_int min2_int max_two min_two max_three min_three max_four min_four   -- for this text's walks alone
set_option linter.unusedVariables false
set_option linter.unusedSimpArgs false
def sign_Within.l0 : Nat → Int → List Int → List (S26) → Int → Int → Option (List Int)
 | 0, _, _, _, _, _ => none
 | k + 1, x1, x5, x9, x10, x11 => if x11 < x10 then (if 0 ≤ x11 then (if x11 < (x9.length : Int) then ((expr_Tables.f ((rd_T26 x9 x11).f0) ((rd_T26 x9 x11).f1.f0) ((rd_T26 x9 x11).f1.f1) ((rd_T26 x9 x11).f1.f2) ((rd_T26 x9 x11).f2) ((rd_T26 x9 x11).f3) ((rd_T26 x9 x11).f4) ((rd_T26 x9 x11).f5) ((rd_T26 x9 x11).f6)).bind fun t135 => (if x1 ≥ 0 then (if t135 = 0 then (sign_Within.l0 k x1 x5 x9 x10 (wrap64 (x11 + 1))) else (if (Go.bits .andNot .i64 t135 x1) = 0 then (if x5.length < 17592186044416 then (sign_Within.l0 k x1 (x5 ++ [x11]) x9 x10 (wrap64 (x11 + 1))) else (none)) else (sign_Within.l0 k x1 x5 x9 x10 (wrap64 (x11 + 1))))) else (sign_Within.l0 k x1 x5 x9 x10 (wrap64 (x11 + 1))))) else (none)) else (none)) else (some x5)
def sign_Within.f (k : Nat) (l0 : List (S26)) (a1 : Int) : Option (List Int) := sign_Within.l0 k a1 ([] : List Int) l0 (l0.length : Int) 0
set_option maxHeartbeats 8000000 in
set_option maxRecDepth 100000 in
theorem sign_Within.calls (k : Nat) (A0 : Option Addr) (c0 : Nat) (l0 : List (S26)) (a1 : Int) (r : List Int) (w : World) (hr0 : Kd.C k26 w A0 l0.length l0) (hc0 : l0.length ≤ c0) (h : sign_Within.f k l0 a1 = some r) :
  Calls Tryz.prog 36 #[.slice A0 l0.length c0, .int .i64 a1] w fun e w' => ∃ v0_ : Value, e = .returned (v0_) ∧ Kd.R (Kd.int .i64) 3 w' w.heap.size (fun _ => True) v0_ r ∧ Below w.heap.size w w' := by
 have hu26 := Tryz.underlying26
 have HR0 := Asd.mk hr0
 have HC0 := Asd.mk hc0
 clear hr0 hc0
 have HB := Asd.mk (Below.refl w.heap.size w)
 have H : (sign_Within.l0 k a1 ([] : List Int) l0 (l0.length : Int) 0) = some r := h
 clear h
 have H' := Asd.mk H
 clear H
 go_enter Tryz.func36, Tryz.ntmps36
 go_wp2
 go_loopg [5, 11] k (fun kq v5 v11 w' => ∃ (x5_1 : List Int) (x11_1 : Int), v11 = .int .i64 x11_1 ∧ Asd (sign_Within.l0 kq a1 x5_1 l0 (l0.length : Int) x11_1 = some r) ∧ Asd (kq ≤ k) ∧ Asd (Kd.R (Kd.int .i64) 3 w' w.heap.size (fun _ => True) v5 x5_1) ∧ Asd (Below w.heap.size w w'))
 case atStart => exact ⟨(([] : List Int)), (0), (by first | rfl | (simp; done) | (simp [*]; done)), H', ⟨Nat.le_refl _⟩, ⟨by first | exact Kd.R_nil _ _ _ _ _ | exact Kd.N_nil _ _ _ _ _ | exact Kd.V_nil _ _ _ _ _ | exact Kd.Q_nil _ _ _ _ _ | exact Kd.S_nil _ _ _ _ _⟩, ⟨by repeat (first | (with_reducible first | exact HB.out | apply blA | apply pbN | apply blD) | exact HB.out)⟩⟩
 case round =>
  clear H'
  try clear p2
  obtain ⟨x5_1, x11_1, rfl, HA, HK1, HO_5, HB⟩ := hrel
  cases gk with
  | zero => exact absurd HA.out (by simp [sign_Within.l0])
  | succ k1 =>
   have H := HA.out
   clear HA
   simp only [sign_Within.l0] at H
   by_cases c3 : x11_1 < (l0.length : Int)
   ·rw [if_pos c3] at H
    have c3b0 : decide (x11_1 < (l0.length : Int)) = true := decide_eq_true c3
    clear c3
    by_cases c4 : 0 ≤ x11_1
    ·rw [if_pos c4] at H
     have c4b0 : decide (0 ≤ x11_1) = true := decide_eq_true c4
     clear c4
     by_cases c5 : x11_1 < (l0.length : Int)
     ·rw [if_pos c5] at H
      have c5b0 : decide (x11_1 < (l0.length : Int)) = true := decide_eq_true c5
      clear c5
      replace H := Option.bind_eq_some_iff.mp H
      obtain ⟨t135, A60, H⟩ := H
      replace H : (if a1 ≥ 0 then (if t135 = 0 then (sign_Within.l0 k1 a1 x5_1 l0 (l0.length : Int) (wrap64 (x11_1 + 1))) else (if (Go.bits .andNot .i64 t135 a1) = 0 then (if x5_1.length < 17592186044416 then (sign_Within.l0 k1 a1 (x5_1 ++ [x11_1]) l0 (l0.length : Int) (wrap64 (x11_1 + 1))) else (none)) else (sign_Within.l0 k1 a1 x5_1 l0 (l0.length : Int) (wrap64 (x11_1 + 1))))) else (sign_Within.l0 k1 a1 x5_1 l0 (l0.length : Int) (wrap64 (x11_1 + 1)))) = some r := H
      have A6 := Asd.mk A60
      clear A60
      by_cases c7 : a1 ≥ 0
      ·rw [if_pos c7] at H
       have c7b0 : decide (0 ≤ a1) = true := decide_eq_true c7
       clear c7
       by_cases c8 : t135 = 0
       ·rw [if_pos c8] at H
        have c8b0 : (t135 == 0) = true := beq_iff_eq.mpr c8
        have c8b1 : (t135 != 0) = false := bne_eq_false_iff_eq.mpr c8
        clear c8
        have H' := Asd.mk H
        clear H
        have p133 : 0 ≤ (x11_1 : Int) := of_decide_eq_true (by first | (with_reducible assumption) | assumption)
        have q133 : x11_1 < (l0.length : Int) := of_decide_eq_true (by first | (with_reducible assumption) | assumption)
        obtain ⟨ad133, A133_8, c133_8, e133, hx133_0, hx133_1, hx133_2, hx133_3, hx133_4, hx133_5, hx133_6, hx133_7, hx133_8, hl133_8, hi133_8⟩ := at_T26 HR0.out x11_1 p133 q133
        cases e133
        replace hx133_0 := (HB.out.cell (World.block_lt_of_cell? w _ hx133_0)).trans hx133_0
        replace hx133_1 := (HB.out.cell (World.block_lt_of_cell? w _ hx133_1)).trans hx133_1
        replace hx133_2 := (HB.out.cell (World.block_lt_of_cell? w _ hx133_2)).trans hx133_2
        replace hx133_3 := (HB.out.cell (World.block_lt_of_cell? w _ hx133_3)).trans hx133_3
        replace hx133_4 := (HB.out.cell (World.block_lt_of_cell? w _ hx133_4)).trans hx133_4
        replace hx133_5 := (HB.out.cell (World.block_lt_of_cell? w _ hx133_5)).trans hx133_5
        replace hx133_6 := (HB.out.cell (World.block_lt_of_cell? w _ hx133_6)).trans hx133_6
        replace hx133_7 := (HB.out.cell (World.block_lt_of_cell? w _ hx133_7)).trans hx133_7
        replace hx133_8 := (HB.out.cell (World.block_lt_of_cell? w _ hx133_8)).trans hx133_8
        have HR133_8 := Asd.mk hi133_8
        have HC133_8 := Asd.mk hl133_8
        clear hi133_8 hl133_8
        replace p133 := eq_true p133
        replace q133 := eq_true q133
        go_wp2_with (first | ((with_reducible refine gate_dst (N := 7) rfl ?_); refine box_event rfl (N := 7) rfl (cs := #[.int .i64 0, .int .i64 0, .int .i64 0, .string (⟨#[]⟩ : ByteArray), .int .i64 0, .int .i64 0, .int .i64 0, .string (⟨#[]⟩ : ByteArray), .slice none 0 0]) (t := 26) (by first | (go_simp; done) | (go_simp; rfl)) ?_; intro gb134 hg w9 hbox hb; have n0_ := Asd.mk (Kd.R_below (by (with_reducible repeat (first | apply Kd.R_alloc | apply Kd.R_drewN | apply Kd.R_drew)); exact HO_5.out) hb); have n1_ := Asd.mk (below_step (by repeat (first | (with_reducible first | exact HB.out | apply blA | apply pbN | apply blD) | exact HB.out)) hb); have n2_ := Asd.mk (hbox); have n3_ := Asd.mk ((by rw [hg]; exact (below_size (by repeat (first | (with_reducible first | exact HB.out | apply blA | apply pbN | apply blD) | exact HB.out))) : w.heap.size ≤ gb134)); have n4_ := Asd.mk ((by rw [hg]; exact (below_size (by repeat (first | (with_reducible first | exact HB.out | apply blA | apply pbN | apply blD) | exact HB.out))) : w.heap.size ≤ gb134)); clear HO_5; clear HB; have HO_5 := n0_; have HB := n1_; have BK134 := n2_; have GW134 := n3_; have GE134 := n4_; clear n0_ n1_ n2_ n3_ n4_; clear hb hbox hg; obtain ⟨hcz10_0, hcz10_1, hcz10_2, hcz10_3, hcz10_4, hcz10_5, hcz10_6, hcz10_7, hcz10_8⟩ := bkC9 BK134.out; obtain ⟨hfz10_0, hfz10_1, hfz10_2, hfz10_3, hfz10_4, hfz10_5, hfz10_6, hfz10_7, hfz10_8⟩ := bkF9 BK134.out) | ((with_reducible refine gate_callee (f := 74) rfl ?_); refine goesL_ (some 17) rfl rfl Tryz.func74 (by kernel_rfl) rfl #[.agg #[.int .i64 ((rd_T26 l0 x11_1).f0), .int .i64 ((rd_T26 l0 x11_1).f1.f0), .int .i64 ((rd_T26 l0 x11_1).f1.f1), .string ((rd_T26 l0 x11_1).f1.f2), .int .i64 ((rd_T26 l0 x11_1).f2), .int .i64 ((rd_T26 l0 x11_1).f3), .int .i64 ((rd_T26 l0 x11_1).f4), .string ((rd_T26 l0 x11_1).f5), .slice A133_8 ((rd_T26 l0 x11_1).f6).length c133_8]] rfl (by (try simp only [List.map_toArray, List.map_cons, List.map_nil]); first | done | rfl | (simp only [List.length_drop, List.length_take]; rfl)) ?_; (with_reducible refine (expr_Tables.calls ((rd_T26 l0 x11_1).f0) ((rd_T26 l0 x11_1).f1.f0) ((rd_T26 l0 x11_1).f1.f1) ((rd_T26 l0 x11_1).f1.f2) ((rd_T26 l0 x11_1).f2) ((rd_T26 l0 x11_1).f3) ((rd_T26 l0 x11_1).f4) ((rd_T26 l0 x11_1).f5) _ _ ((rd_T26 l0 x11_1).f6) t135 _ ?side1 ?side2 A6.out).mono ?_); (case side1 => exact Kd.C_below HR133_8.out (by repeat (first | (with_reducible first | exact HB.out | apply blA | apply pbN | apply blD | refine blS ?_ GE134.out) | exact HB.out))); (case side2 => exact HC133_8.out); rintro e w11 ⟨rfl, hb⟩; refine ⟨_, rfl, ?_⟩; have n0_ := Asd.mk (Kd.R_below (by (with_reducible repeat (first | apply Kd.R_alloc | apply Kd.R_drewN | apply Kd.R_drew)); exact (Kd.R_mono (Kd.R_far (p := ⟨gb134, 8, none⟩) (Kd.R_far (p := ⟨gb134, 7, none⟩) (Kd.R_far (p := ⟨gb134, 6, none⟩) (Kd.R_far (p := ⟨gb134, 5, none⟩) (Kd.R_far (p := ⟨gb134, 4, none⟩) (Kd.R_far (p := ⟨gb134, 3, none⟩) (Kd.R_far (p := ⟨gb134, 2, none⟩) (Kd.R_far (p := ⟨gb134, 1, none⟩) (Kd.R_far (p := ⟨gb134, 0, none⟩) (Kd.R_types HO_5.out BK134.out (by decide)) (fun _ hk => hk.2) (.int .i64 ((rd_T26 l0 x11_1).f0))) (fun _ hk => hk.2) (.int .i64 ((rd_T26 l0 x11_1).f1.f0))) (fun _ hk => hk.2) (.int .i64 ((rd_T26 l0 x11_1).f1.f1))) (fun _ hk => hk.2) (.string ((rd_T26 l0 x11_1).f1.f2))) (fun _ hk => hk.2) (.int .i64 ((rd_T26 l0 x11_1).f2))) (fun _ hk => hk.2) (.int .i64 ((rd_T26 l0 x11_1).f3))) (fun _ hk => hk.2) (.int .i64 ((rd_T26 l0 x11_1).f4))) (fun _ hk => hk.2) (.string ((rd_T26 l0 x11_1).f5))) (fun _ hk => hk.2) (.slice A133_8 ((rd_T26 l0 x11_1).f6).length c133_8)) (fun _ h_ => h_.1))) hb); have n1_ := Asd.mk (blk_below (g := gb134) (o := .cells #[.int .i64 ((rd_T26 l0 x11_1).f0), .int .i64 ((rd_T26 l0 x11_1).f1.f0), .int .i64 ((rd_T26 l0 x11_1).f1.f1), .string ((rd_T26 l0 x11_1).f1.f2), .int .i64 ((rd_T26 l0 x11_1).f2), .int .i64 ((rd_T26 l0 x11_1).f3), .int .i64 ((rd_T26 l0 x11_1).f4), .string ((rd_T26 l0 x11_1).f5), .slice A133_8 ((rd_T26 l0 x11_1).f6).length c133_8] 26 (0, 0)) (by (with_reducible repeat (first | refine bkN ?_ _ | refine bkD ?_ | refine bkA ?_ _)); refine blk_put (cs := #[.int .i64 ((rd_T26 l0 x11_1).f0), .int .i64 ((rd_T26 l0 x11_1).f1.f0), .int .i64 ((rd_T26 l0 x11_1).f1.f1), .string ((rd_T26 l0 x11_1).f1.f2), .int .i64 ((rd_T26 l0 x11_1).f2), .int .i64 ((rd_T26 l0 x11_1).f3), .int .i64 ((rd_T26 l0 x11_1).f4), .string ((rd_T26 l0 x11_1).f5), .slice none 0 0]) ?_ 8 _ rfl; (with_reducible repeat (first | refine bkN ?_ _ | refine bkD ?_ | refine bkA ?_ _)); refine blk_put (cs := #[.int .i64 ((rd_T26 l0 x11_1).f0), .int .i64 ((rd_T26 l0 x11_1).f1.f0), .int .i64 ((rd_T26 l0 x11_1).f1.f1), .string ((rd_T26 l0 x11_1).f1.f2), .int .i64 ((rd_T26 l0 x11_1).f2), .int .i64 ((rd_T26 l0 x11_1).f3), .int .i64 ((rd_T26 l0 x11_1).f4), .string (⟨#[]⟩ : ByteArray), .slice none 0 0]) ?_ 7 _ rfl; (with_reducible repeat (first | refine bkN ?_ _ | refine bkD ?_ | refine bkA ?_ _)); refine blk_put (cs := #[.int .i64 ((rd_T26 l0 x11_1).f0), .int .i64 ((rd_T26 l0 x11_1).f1.f0), .int .i64 ((rd_T26 l0 x11_1).f1.f1), .string ((rd_T26 l0 x11_1).f1.f2), .int .i64 ((rd_T26 l0 x11_1).f2), .int .i64 ((rd_T26 l0 x11_1).f3), .int .i64 0, .string (⟨#[]⟩ : ByteArray), .slice none 0 0]) ?_ 6 _ rfl; (with_reducible repeat (first | refine bkN ?_ _ | refine bkD ?_ | refine bkA ?_ _)); refine blk_put (cs := #[.int .i64 ((rd_T26 l0 x11_1).f0), .int .i64 ((rd_T26 l0 x11_1).f1.f0), .int .i64 ((rd_T26 l0 x11_1).f1.f1), .string ((rd_T26 l0 x11_1).f1.f2), .int .i64 ((rd_T26 l0 x11_1).f2), .int .i64 0, .int .i64 0, .string (⟨#[]⟩ : ByteArray), .slice none 0 0]) ?_ 5 _ rfl; (with_reducible repeat (first | refine bkN ?_ _ | refine bkD ?_ | refine bkA ?_ _)); refine blk_put (cs := #[.int .i64 ((rd_T26 l0 x11_1).f0), .int .i64 ((rd_T26 l0 x11_1).f1.f0), .int .i64 ((rd_T26 l0 x11_1).f1.f1), .string ((rd_T26 l0 x11_1).f1.f2), .int .i64 0, .int .i64 0, .int .i64 0, .string (⟨#[]⟩ : ByteArray), .slice none 0 0]) ?_ 4 _ rfl; (with_reducible repeat (first | refine bkN ?_ _ | refine bkD ?_ | refine bkA ?_ _)); refine blk_put (cs := #[.int .i64 ((rd_T26 l0 x11_1).f0), .int .i64 ((rd_T26 l0 x11_1).f1.f0), .int .i64 ((rd_T26 l0 x11_1).f1.f1), .string (⟨#[]⟩ : ByteArray), .int .i64 0, .int .i64 0, .int .i64 0, .string (⟨#[]⟩ : ByteArray), .slice none 0 0]) ?_ 3 _ rfl; (with_reducible repeat (first | refine bkN ?_ _ | refine bkD ?_ | refine bkA ?_ _)); refine blk_put (cs := #[.int .i64 ((rd_T26 l0 x11_1).f0), .int .i64 ((rd_T26 l0 x11_1).f1.f0), .int .i64 0, .string (⟨#[]⟩ : ByteArray), .int .i64 0, .int .i64 0, .int .i64 0, .string (⟨#[]⟩ : ByteArray), .slice none 0 0]) ?_ 2 _ rfl; (with_reducible repeat (first | refine bkN ?_ _ | refine bkD ?_ | refine bkA ?_ _)); refine blk_put (cs := #[.int .i64 ((rd_T26 l0 x11_1).f0), .int .i64 0, .int .i64 0, .string (⟨#[]⟩ : ByteArray), .int .i64 0, .int .i64 0, .int .i64 0, .string (⟨#[]⟩ : ByteArray), .slice none 0 0]) ?_ 1 _ rfl; (with_reducible repeat (first | refine bkN ?_ _ | refine bkD ?_ | refine bkA ?_ _)); refine blk_put (cs := #[.int .i64 0, .int .i64 0, .int .i64 0, .string (⟨#[]⟩ : ByteArray), .int .i64 0, .int .i64 0, .int .i64 0, .string (⟨#[]⟩ : ByteArray), .slice none 0 0]) ?_ 0 _ rfl; (with_reducible repeat (first | refine bkN ?_ _ | refine bkD ?_ | refine bkA ?_ _)); exact BK134.out) hb); have n2_ := Asd.mk (below_step (by repeat (first | (with_reducible first | exact HB.out | apply blA | apply pbN | apply blD | refine blS ?_ GE134.out) | exact HB.out)) hb); clear HO_5; clear BK134; clear HB; have HO_5 := n0_; have BK134 := n1_; have HB := n2_; clear n0_ n1_ n2_; (try clear hb); (try clear hb2); (try clear hk); (try clear hi)))
        go_roundg k1
        case measure => have := HK1.out; omega
        case rel => exact ⟨(x5_1), (wrap64 (x11_1 + 1)), (by first | rfl | (simp; done) | (simp [*]; done)), H', ⟨by have := HK1.out; omega⟩, ⟨by (with_reducible repeat (first | apply Kd.R_alloc | apply Kd.R_drewN | apply Kd.R_drew)); exact HO_5.out⟩, ⟨by repeat (first | (with_reducible first | exact HB.out | apply blA | apply pbN | apply blD | refine blS ?_ GE134.out) | exact HB.out)⟩⟩
       ·rw [if_neg c8] at H
        have c8b0 : (t135 == 0) = false := beq_eq_false_iff_ne.mpr c8
        have c8b1 : (t135 != 0) = true := bne_iff_ne.mpr c8
        by_cases c12 : (Go.bits .andNot .i64 t135 a1) = 0
        ·rw [if_pos c12] at H
         have c12b0 : ((Go.bits .andNot .i64 t135 a1) == 0) = true := beq_iff_eq.mpr c12
         have c12b1 : ((Go.bits .andNot .i64 t135 a1) != 0) = false := bne_eq_false_iff_eq.mpr c12
         clear c12
         by_cases c13 : x5_1.length < 17592186044416
         ·rw [if_pos c13] at H
          have LMc13 := Asd.mk c13
          clear c13
          obtain ⟨y136, hy136⟩ : ∃ y_ : List Int, y_ = (x5_1 ++ [x11_1]) := ⟨_, rfl⟩
          replace H : (sign_Within.l0 k1 a1 y136 l0 (l0.length : Int) (wrap64 (x11_1 + 1))) = some r := by first | (rw [hy136]; with_reducible exact H) | (have H2_ := (Option.bind_some _ _).symm.trans H; rw [hy136]; with_reducible exact H2_) | (have H2_ := (Option.bind_some _ _).symm.trans H; with_reducible exact H2_) | with_reducible exact H | (rw [hy136]; exact H) | exact H
          have Ny136 := Asd.mk hy136
          clear hy136
          have H' := Asd.mk H
          clear H
          have p133 : 0 ≤ (x11_1 : Int) := of_decide_eq_true (by first | (with_reducible assumption) | assumption)
          have q133 : x11_1 < (l0.length : Int) := of_decide_eq_true (by first | (with_reducible assumption) | assumption)
          obtain ⟨ad133, A133_8, c133_8, e133, hx133_0, hx133_1, hx133_2, hx133_3, hx133_4, hx133_5, hx133_6, hx133_7, hx133_8, hl133_8, hi133_8⟩ := at_T26 HR0.out x11_1 p133 q133
          cases e133
          replace hx133_0 := (HB.out.cell (World.block_lt_of_cell? w _ hx133_0)).trans hx133_0
          replace hx133_1 := (HB.out.cell (World.block_lt_of_cell? w _ hx133_1)).trans hx133_1
          replace hx133_2 := (HB.out.cell (World.block_lt_of_cell? w _ hx133_2)).trans hx133_2
          replace hx133_3 := (HB.out.cell (World.block_lt_of_cell? w _ hx133_3)).trans hx133_3
          replace hx133_4 := (HB.out.cell (World.block_lt_of_cell? w _ hx133_4)).trans hx133_4
          replace hx133_5 := (HB.out.cell (World.block_lt_of_cell? w _ hx133_5)).trans hx133_5
          replace hx133_6 := (HB.out.cell (World.block_lt_of_cell? w _ hx133_6)).trans hx133_6
          replace hx133_7 := (HB.out.cell (World.block_lt_of_cell? w _ hx133_7)).trans hx133_7
          replace hx133_8 := (HB.out.cell (World.block_lt_of_cell? w _ hx133_8)).trans hx133_8
          have HR133_8 := Asd.mk hi133_8
          have HC133_8 := Asd.mk hl133_8
          clear hi133_8 hl133_8
          replace p133 := eq_true p133
          replace q133 := eq_true q133
          go_wp2_with (first | ((with_reducible refine gate_dst (N := 7) rfl ?_); refine box_event rfl (N := 7) rfl (cs := #[.int .i64 0, .int .i64 0, .int .i64 0, .string (⟨#[]⟩ : ByteArray), .int .i64 0, .int .i64 0, .int .i64 0, .string (⟨#[]⟩ : ByteArray), .slice none 0 0]) (t := 26) (by first | (go_simp; done) | (go_simp; rfl)) ?_; intro gb134 hg w14 hbox hb; have n0_ := Asd.mk (Kd.R_below (by (with_reducible repeat (first | apply Kd.R_alloc | apply Kd.R_drewN | apply Kd.R_drew)); exact HO_5.out) hb); have n1_ := Asd.mk (below_step (by repeat (first | (with_reducible first | exact HB.out | apply blA | apply pbN | apply blD) | exact HB.out)) hb); have n2_ := Asd.mk (hbox); have n3_ := Asd.mk ((by rw [hg]; exact (below_size (by repeat (first | (with_reducible first | exact HB.out | apply blA | apply pbN | apply blD) | exact HB.out))) : w.heap.size ≤ gb134)); have n4_ := Asd.mk ((by rw [hg]; exact (below_size (by repeat (first | (with_reducible first | exact HB.out | apply blA | apply pbN | apply blD) | exact HB.out))) : w.heap.size ≤ gb134)); clear HO_5; clear HB; have HO_5 := n0_; have HB := n1_; have BK134 := n2_; have GW134 := n3_; have GE134 := n4_; clear n0_ n1_ n2_ n3_ n4_; clear hb hbox hg; obtain ⟨hcz15_0, hcz15_1, hcz15_2, hcz15_3, hcz15_4, hcz15_5, hcz15_6, hcz15_7, hcz15_8⟩ := bkC9 BK134.out; obtain ⟨hfz15_0, hfz15_1, hfz15_2, hfz15_3, hfz15_4, hfz15_5, hfz15_6, hfz15_7, hfz15_8⟩ := bkF9 BK134.out) | ((with_reducible refine gate_callee (f := 74) rfl ?_); refine goesL_ (some 17) rfl rfl Tryz.func74 (by kernel_rfl) rfl #[.agg #[.int .i64 ((rd_T26 l0 x11_1).f0), .int .i64 ((rd_T26 l0 x11_1).f1.f0), .int .i64 ((rd_T26 l0 x11_1).f1.f1), .string ((rd_T26 l0 x11_1).f1.f2), .int .i64 ((rd_T26 l0 x11_1).f2), .int .i64 ((rd_T26 l0 x11_1).f3), .int .i64 ((rd_T26 l0 x11_1).f4), .string ((rd_T26 l0 x11_1).f5), .slice A133_8 ((rd_T26 l0 x11_1).f6).length c133_8]] rfl (by (try simp only [List.map_toArray, List.map_cons, List.map_nil]); first | done | rfl | (simp only [List.length_drop, List.length_take]; rfl)) ?_; (with_reducible refine (expr_Tables.calls ((rd_T26 l0 x11_1).f0) ((rd_T26 l0 x11_1).f1.f0) ((rd_T26 l0 x11_1).f1.f1) ((rd_T26 l0 x11_1).f1.f2) ((rd_T26 l0 x11_1).f2) ((rd_T26 l0 x11_1).f3) ((rd_T26 l0 x11_1).f4) ((rd_T26 l0 x11_1).f5) _ _ ((rd_T26 l0 x11_1).f6) t135 _ ?side1 ?side2 A6.out).mono ?_); (case side1 => exact Kd.C_below HR133_8.out (by repeat (first | (with_reducible first | exact HB.out | apply blA | apply pbN | apply blD | refine blS ?_ GE134.out) | exact HB.out))); (case side2 => exact HC133_8.out); rintro e w16 ⟨rfl, hb⟩; refine ⟨_, rfl, ?_⟩; have n0_ := Asd.mk (Kd.R_below (by (with_reducible repeat (first | apply Kd.R_alloc | apply Kd.R_drewN | apply Kd.R_drew)); exact (Kd.R_mono (Kd.R_far (p := ⟨gb134, 8, none⟩) (Kd.R_far (p := ⟨gb134, 7, none⟩) (Kd.R_far (p := ⟨gb134, 6, none⟩) (Kd.R_far (p := ⟨gb134, 5, none⟩) (Kd.R_far (p := ⟨gb134, 4, none⟩) (Kd.R_far (p := ⟨gb134, 3, none⟩) (Kd.R_far (p := ⟨gb134, 2, none⟩) (Kd.R_far (p := ⟨gb134, 1, none⟩) (Kd.R_far (p := ⟨gb134, 0, none⟩) (Kd.R_types HO_5.out BK134.out (by decide)) (fun _ hk => hk.2) (.int .i64 ((rd_T26 l0 x11_1).f0))) (fun _ hk => hk.2) (.int .i64 ((rd_T26 l0 x11_1).f1.f0))) (fun _ hk => hk.2) (.int .i64 ((rd_T26 l0 x11_1).f1.f1))) (fun _ hk => hk.2) (.string ((rd_T26 l0 x11_1).f1.f2))) (fun _ hk => hk.2) (.int .i64 ((rd_T26 l0 x11_1).f2))) (fun _ hk => hk.2) (.int .i64 ((rd_T26 l0 x11_1).f3))) (fun _ hk => hk.2) (.int .i64 ((rd_T26 l0 x11_1).f4))) (fun _ hk => hk.2) (.string ((rd_T26 l0 x11_1).f5))) (fun _ hk => hk.2) (.slice A133_8 ((rd_T26 l0 x11_1).f6).length c133_8)) (fun _ h_ => h_.1))) hb); have n1_ := Asd.mk (blk_below (g := gb134) (o := .cells #[.int .i64 ((rd_T26 l0 x11_1).f0), .int .i64 ((rd_T26 l0 x11_1).f1.f0), .int .i64 ((rd_T26 l0 x11_1).f1.f1), .string ((rd_T26 l0 x11_1).f1.f2), .int .i64 ((rd_T26 l0 x11_1).f2), .int .i64 ((rd_T26 l0 x11_1).f3), .int .i64 ((rd_T26 l0 x11_1).f4), .string ((rd_T26 l0 x11_1).f5), .slice A133_8 ((rd_T26 l0 x11_1).f6).length c133_8] 26 (0, 0)) (by (with_reducible repeat (first | refine bkN ?_ _ | refine bkD ?_ | refine bkA ?_ _)); refine blk_put (cs := #[.int .i64 ((rd_T26 l0 x11_1).f0), .int .i64 ((rd_T26 l0 x11_1).f1.f0), .int .i64 ((rd_T26 l0 x11_1).f1.f1), .string ((rd_T26 l0 x11_1).f1.f2), .int .i64 ((rd_T26 l0 x11_1).f2), .int .i64 ((rd_T26 l0 x11_1).f3), .int .i64 ((rd_T26 l0 x11_1).f4), .string ((rd_T26 l0 x11_1).f5), .slice none 0 0]) ?_ 8 _ rfl; (with_reducible repeat (first | refine bkN ?_ _ | refine bkD ?_ | refine bkA ?_ _)); refine blk_put (cs := #[.int .i64 ((rd_T26 l0 x11_1).f0), .int .i64 ((rd_T26 l0 x11_1).f1.f0), .int .i64 ((rd_T26 l0 x11_1).f1.f1), .string ((rd_T26 l0 x11_1).f1.f2), .int .i64 ((rd_T26 l0 x11_1).f2), .int .i64 ((rd_T26 l0 x11_1).f3), .int .i64 ((rd_T26 l0 x11_1).f4), .string (⟨#[]⟩ : ByteArray), .slice none 0 0]) ?_ 7 _ rfl; (with_reducible repeat (first | refine bkN ?_ _ | refine bkD ?_ | refine bkA ?_ _)); refine blk_put (cs := #[.int .i64 ((rd_T26 l0 x11_1).f0), .int .i64 ((rd_T26 l0 x11_1).f1.f0), .int .i64 ((rd_T26 l0 x11_1).f1.f1), .string ((rd_T26 l0 x11_1).f1.f2), .int .i64 ((rd_T26 l0 x11_1).f2), .int .i64 ((rd_T26 l0 x11_1).f3), .int .i64 0, .string (⟨#[]⟩ : ByteArray), .slice none 0 0]) ?_ 6 _ rfl; (with_reducible repeat (first | refine bkN ?_ _ | refine bkD ?_ | refine bkA ?_ _)); refine blk_put (cs := #[.int .i64 ((rd_T26 l0 x11_1).f0), .int .i64 ((rd_T26 l0 x11_1).f1.f0), .int .i64 ((rd_T26 l0 x11_1).f1.f1), .string ((rd_T26 l0 x11_1).f1.f2), .int .i64 ((rd_T26 l0 x11_1).f2), .int .i64 0, .int .i64 0, .string (⟨#[]⟩ : ByteArray), .slice none 0 0]) ?_ 5 _ rfl; (with_reducible repeat (first | refine bkN ?_ _ | refine bkD ?_ | refine bkA ?_ _)); refine blk_put (cs := #[.int .i64 ((rd_T26 l0 x11_1).f0), .int .i64 ((rd_T26 l0 x11_1).f1.f0), .int .i64 ((rd_T26 l0 x11_1).f1.f1), .string ((rd_T26 l0 x11_1).f1.f2), .int .i64 0, .int .i64 0, .int .i64 0, .string (⟨#[]⟩ : ByteArray), .slice none 0 0]) ?_ 4 _ rfl; (with_reducible repeat (first | refine bkN ?_ _ | refine bkD ?_ | refine bkA ?_ _)); refine blk_put (cs := #[.int .i64 ((rd_T26 l0 x11_1).f0), .int .i64 ((rd_T26 l0 x11_1).f1.f0), .int .i64 ((rd_T26 l0 x11_1).f1.f1), .string (⟨#[]⟩ : ByteArray), .int .i64 0, .int .i64 0, .int .i64 0, .string (⟨#[]⟩ : ByteArray), .slice none 0 0]) ?_ 3 _ rfl; (with_reducible repeat (first | refine bkN ?_ _ | refine bkD ?_ | refine bkA ?_ _)); refine blk_put (cs := #[.int .i64 ((rd_T26 l0 x11_1).f0), .int .i64 ((rd_T26 l0 x11_1).f1.f0), .int .i64 0, .string (⟨#[]⟩ : ByteArray), .int .i64 0, .int .i64 0, .int .i64 0, .string (⟨#[]⟩ : ByteArray), .slice none 0 0]) ?_ 2 _ rfl; (with_reducible repeat (first | refine bkN ?_ _ | refine bkD ?_ | refine bkA ?_ _)); refine blk_put (cs := #[.int .i64 ((rd_T26 l0 x11_1).f0), .int .i64 0, .int .i64 0, .string (⟨#[]⟩ : ByteArray), .int .i64 0, .int .i64 0, .int .i64 0, .string (⟨#[]⟩ : ByteArray), .slice none 0 0]) ?_ 1 _ rfl; (with_reducible repeat (first | refine bkN ?_ _ | refine bkD ?_ | refine bkA ?_ _)); refine blk_put (cs := #[.int .i64 0, .int .i64 0, .int .i64 0, .string (⟨#[]⟩ : ByteArray), .int .i64 0, .int .i64 0, .int .i64 0, .string (⟨#[]⟩ : ByteArray), .slice none 0 0]) ?_ 0 _ rfl; (with_reducible repeat (first | refine bkN ?_ _ | refine bkD ?_ | refine bkA ?_ _)); exact BK134.out) hb); have n2_ := Asd.mk (below_step (by repeat (first | (with_reducible first | exact HB.out | apply blA | apply pbN | apply blD | refine blS ?_ GE134.out) | exact HB.out)) hb); clear HO_5; clear BK134; clear HB; have HO_5 := n0_; have BK134 := n1_; have HB := n2_; clear n0_ n1_ n2_; (try clear hb); (try clear hb2); (try clear hk); (try clear hi)) | ((with_reducible refine gate_builtin (b := .append) (xs := #[.tmp 30, .tmp 32]) rfl ?_); at_builtin; refine Kd.R_append (Kd.int .i64) (w0 := w) w.heap.size rfl (.tmp 30) (.tmp 32) 27 3 (.int .i64 0) 8 rfl Tryz.underlying27 info3 rfl (by decide) (by omega) u5 x5_1 x11_1 [.int .i64 x11_1] (fun _ => True) (fun _ => False) rfl rfl ?aP (fun _ hk => hk.elim) ?aF ?aO ?aB ?aS ?aL ?_; (case aP => exact rfl); (case aB => exact (by repeat (first | (with_reducible first | exact HB.out | apply blA | apply pbN | apply blD | refine blS ?_ GE134.out) | exact HB.out))); (case aF => exact (fun _ _ => trivial)); (case aO => exact (by (with_reducible repeat (first | apply Kd.R_alloc | apply Kd.R_drewN | apply Kd.R_drew)); exact HO_5.out)); (case aS => exact (below_size (by repeat (first | (with_reducible first | exact HB.out | apply blA | apply pbN | apply blD | refine blS ?_ GE134.out) | exact HB.out)))); (case aL => have := LMc13.out; omega); intro v137 w17 ho hb hg hat; rw [← Ny136.out] at ho; have n0_ := Asd.mk (blk_grown (g := gb134) (o := .cells #[.int .i64 ((rd_T26 l0 x11_1).f0), .int .i64 ((rd_T26 l0 x11_1).f1.f0), .int .i64 ((rd_T26 l0 x11_1).f1.f1), .string ((rd_T26 l0 x11_1).f1.f2), .int .i64 ((rd_T26 l0 x11_1).f2), .int .i64 ((rd_T26 l0 x11_1).f3), .int .i64 ((rd_T26 l0 x11_1).f4), .string ((rd_T26 l0 x11_1).f5), .slice A133_8 ((rd_T26 l0 x11_1).f6).length c133_8] 26 (0, 0)) (by (with_reducible repeat (first | refine bkN ?_ _ | refine bkD ?_ | refine bkA ?_ _)); exact BK134.out) hg (Kd.R_ne HO_5.out BK134.out (by decide))); have n1_ := Asd.mk (hb); have n2_ := Asd.mk (ho); clear BK134; clear HB; clear HO_5; have BK134 := n0_; have HB := n1_; have HO138 := n2_; clear n0_ n1_ n2_; clear ho hb hg hat))
          go_roundg k1
          case measure => have := HK1.out; omega
          case rel => exact ⟨(y136), (wrap64 (x11_1 + 1)), (by first | rfl | (simp; done) | (simp [*]; done)), H', ⟨by have := HK1.out; omega⟩, ⟨by (with_reducible repeat (first | apply Kd.R_alloc | apply Kd.R_drewN | apply Kd.R_drew)); exact HO138.out⟩, ⟨by repeat (first | (with_reducible first | exact HB.out | apply blA | apply pbN | apply blD | refine blS ?_ GE134.out) | exact HB.out)⟩⟩
         ·rw [if_neg c13] at H
          exact absurd H (by simp)
        ·rw [if_neg c12] at H
         have c12b0 : ((Go.bits .andNot .i64 t135 a1) == 0) = false := beq_eq_false_iff_ne.mpr c12
         have c12b1 : ((Go.bits .andNot .i64 t135 a1) != 0) = true := bne_iff_ne.mpr c12
         have H' := Asd.mk H
         clear H
         have p133 : 0 ≤ (x11_1 : Int) := of_decide_eq_true (by first | (with_reducible assumption) | assumption)
         have q133 : x11_1 < (l0.length : Int) := of_decide_eq_true (by first | (with_reducible assumption) | assumption)
         obtain ⟨ad133, A133_8, c133_8, e133, hx133_0, hx133_1, hx133_2, hx133_3, hx133_4, hx133_5, hx133_6, hx133_7, hx133_8, hl133_8, hi133_8⟩ := at_T26 HR0.out x11_1 p133 q133
         cases e133
         replace hx133_0 := (HB.out.cell (World.block_lt_of_cell? w _ hx133_0)).trans hx133_0
         replace hx133_1 := (HB.out.cell (World.block_lt_of_cell? w _ hx133_1)).trans hx133_1
         replace hx133_2 := (HB.out.cell (World.block_lt_of_cell? w _ hx133_2)).trans hx133_2
         replace hx133_3 := (HB.out.cell (World.block_lt_of_cell? w _ hx133_3)).trans hx133_3
         replace hx133_4 := (HB.out.cell (World.block_lt_of_cell? w _ hx133_4)).trans hx133_4
         replace hx133_5 := (HB.out.cell (World.block_lt_of_cell? w _ hx133_5)).trans hx133_5
         replace hx133_6 := (HB.out.cell (World.block_lt_of_cell? w _ hx133_6)).trans hx133_6
         replace hx133_7 := (HB.out.cell (World.block_lt_of_cell? w _ hx133_7)).trans hx133_7
         replace hx133_8 := (HB.out.cell (World.block_lt_of_cell? w _ hx133_8)).trans hx133_8
         have HR133_8 := Asd.mk hi133_8
         have HC133_8 := Asd.mk hl133_8
         clear hi133_8 hl133_8
         replace p133 := eq_true p133
         replace q133 := eq_true q133
         go_wp2_with (first | ((with_reducible refine gate_dst (N := 7) rfl ?_); refine box_event rfl (N := 7) rfl (cs := #[.int .i64 0, .int .i64 0, .int .i64 0, .string (⟨#[]⟩ : ByteArray), .int .i64 0, .int .i64 0, .int .i64 0, .string (⟨#[]⟩ : ByteArray), .slice none 0 0]) (t := 26) (by first | (go_simp; done) | (go_simp; rfl)) ?_; intro gb134 hg w18 hbox hb; have n0_ := Asd.mk (Kd.R_below (by (with_reducible repeat (first | apply Kd.R_alloc | apply Kd.R_drewN | apply Kd.R_drew)); exact HO_5.out) hb); have n1_ := Asd.mk (below_step (by repeat (first | (with_reducible first | exact HB.out | apply blA | apply pbN | apply blD) | exact HB.out)) hb); have n2_ := Asd.mk (hbox); have n3_ := Asd.mk ((by rw [hg]; exact (below_size (by repeat (first | (with_reducible first | exact HB.out | apply blA | apply pbN | apply blD) | exact HB.out))) : w.heap.size ≤ gb134)); have n4_ := Asd.mk ((by rw [hg]; exact (below_size (by repeat (first | (with_reducible first | exact HB.out | apply blA | apply pbN | apply blD) | exact HB.out))) : w.heap.size ≤ gb134)); clear HO_5; clear HB; have HO_5 := n0_; have HB := n1_; have BK134 := n2_; have GW134 := n3_; have GE134 := n4_; clear n0_ n1_ n2_ n3_ n4_; clear hb hbox hg; obtain ⟨hcz19_0, hcz19_1, hcz19_2, hcz19_3, hcz19_4, hcz19_5, hcz19_6, hcz19_7, hcz19_8⟩ := bkC9 BK134.out; obtain ⟨hfz19_0, hfz19_1, hfz19_2, hfz19_3, hfz19_4, hfz19_5, hfz19_6, hfz19_7, hfz19_8⟩ := bkF9 BK134.out) | ((with_reducible refine gate_callee (f := 74) rfl ?_); refine goesL_ (some 17) rfl rfl Tryz.func74 (by kernel_rfl) rfl #[.agg #[.int .i64 ((rd_T26 l0 x11_1).f0), .int .i64 ((rd_T26 l0 x11_1).f1.f0), .int .i64 ((rd_T26 l0 x11_1).f1.f1), .string ((rd_T26 l0 x11_1).f1.f2), .int .i64 ((rd_T26 l0 x11_1).f2), .int .i64 ((rd_T26 l0 x11_1).f3), .int .i64 ((rd_T26 l0 x11_1).f4), .string ((rd_T26 l0 x11_1).f5), .slice A133_8 ((rd_T26 l0 x11_1).f6).length c133_8]] rfl (by (try simp only [List.map_toArray, List.map_cons, List.map_nil]); first | done | rfl | (simp only [List.length_drop, List.length_take]; rfl)) ?_; (with_reducible refine (expr_Tables.calls ((rd_T26 l0 x11_1).f0) ((rd_T26 l0 x11_1).f1.f0) ((rd_T26 l0 x11_1).f1.f1) ((rd_T26 l0 x11_1).f1.f2) ((rd_T26 l0 x11_1).f2) ((rd_T26 l0 x11_1).f3) ((rd_T26 l0 x11_1).f4) ((rd_T26 l0 x11_1).f5) _ _ ((rd_T26 l0 x11_1).f6) t135 _ ?side1 ?side2 A6.out).mono ?_); (case side1 => exact Kd.C_below HR133_8.out (by repeat (first | (with_reducible first | exact HB.out | apply blA | apply pbN | apply blD | refine blS ?_ GE134.out) | exact HB.out))); (case side2 => exact HC133_8.out); rintro e w20 ⟨rfl, hb⟩; refine ⟨_, rfl, ?_⟩; have n0_ := Asd.mk (Kd.R_below (by (with_reducible repeat (first | apply Kd.R_alloc | apply Kd.R_drewN | apply Kd.R_drew)); exact (Kd.R_mono (Kd.R_far (p := ⟨gb134, 8, none⟩) (Kd.R_far (p := ⟨gb134, 7, none⟩) (Kd.R_far (p := ⟨gb134, 6, none⟩) (Kd.R_far (p := ⟨gb134, 5, none⟩) (Kd.R_far (p := ⟨gb134, 4, none⟩) (Kd.R_far (p := ⟨gb134, 3, none⟩) (Kd.R_far (p := ⟨gb134, 2, none⟩) (Kd.R_far (p := ⟨gb134, 1, none⟩) (Kd.R_far (p := ⟨gb134, 0, none⟩) (Kd.R_types HO_5.out BK134.out (by decide)) (fun _ hk => hk.2) (.int .i64 ((rd_T26 l0 x11_1).f0))) (fun _ hk => hk.2) (.int .i64 ((rd_T26 l0 x11_1).f1.f0))) (fun _ hk => hk.2) (.int .i64 ((rd_T26 l0 x11_1).f1.f1))) (fun _ hk => hk.2) (.string ((rd_T26 l0 x11_1).f1.f2))) (fun _ hk => hk.2) (.int .i64 ((rd_T26 l0 x11_1).f2))) (fun _ hk => hk.2) (.int .i64 ((rd_T26 l0 x11_1).f3))) (fun _ hk => hk.2) (.int .i64 ((rd_T26 l0 x11_1).f4))) (fun _ hk => hk.2) (.string ((rd_T26 l0 x11_1).f5))) (fun _ hk => hk.2) (.slice A133_8 ((rd_T26 l0 x11_1).f6).length c133_8)) (fun _ h_ => h_.1))) hb); have n1_ := Asd.mk (blk_below (g := gb134) (o := .cells #[.int .i64 ((rd_T26 l0 x11_1).f0), .int .i64 ((rd_T26 l0 x11_1).f1.f0), .int .i64 ((rd_T26 l0 x11_1).f1.f1), .string ((rd_T26 l0 x11_1).f1.f2), .int .i64 ((rd_T26 l0 x11_1).f2), .int .i64 ((rd_T26 l0 x11_1).f3), .int .i64 ((rd_T26 l0 x11_1).f4), .string ((rd_T26 l0 x11_1).f5), .slice A133_8 ((rd_T26 l0 x11_1).f6).length c133_8] 26 (0, 0)) (by (with_reducible repeat (first | refine bkN ?_ _ | refine bkD ?_ | refine bkA ?_ _)); refine blk_put (cs := #[.int .i64 ((rd_T26 l0 x11_1).f0), .int .i64 ((rd_T26 l0 x11_1).f1.f0), .int .i64 ((rd_T26 l0 x11_1).f1.f1), .string ((rd_T26 l0 x11_1).f1.f2), .int .i64 ((rd_T26 l0 x11_1).f2), .int .i64 ((rd_T26 l0 x11_1).f3), .int .i64 ((rd_T26 l0 x11_1).f4), .string ((rd_T26 l0 x11_1).f5), .slice none 0 0]) ?_ 8 _ rfl; (with_reducible repeat (first | refine bkN ?_ _ | refine bkD ?_ | refine bkA ?_ _)); refine blk_put (cs := #[.int .i64 ((rd_T26 l0 x11_1).f0), .int .i64 ((rd_T26 l0 x11_1).f1.f0), .int .i64 ((rd_T26 l0 x11_1).f1.f1), .string ((rd_T26 l0 x11_1).f1.f2), .int .i64 ((rd_T26 l0 x11_1).f2), .int .i64 ((rd_T26 l0 x11_1).f3), .int .i64 ((rd_T26 l0 x11_1).f4), .string (⟨#[]⟩ : ByteArray), .slice none 0 0]) ?_ 7 _ rfl; (with_reducible repeat (first | refine bkN ?_ _ | refine bkD ?_ | refine bkA ?_ _)); refine blk_put (cs := #[.int .i64 ((rd_T26 l0 x11_1).f0), .int .i64 ((rd_T26 l0 x11_1).f1.f0), .int .i64 ((rd_T26 l0 x11_1).f1.f1), .string ((rd_T26 l0 x11_1).f1.f2), .int .i64 ((rd_T26 l0 x11_1).f2), .int .i64 ((rd_T26 l0 x11_1).f3), .int .i64 0, .string (⟨#[]⟩ : ByteArray), .slice none 0 0]) ?_ 6 _ rfl; (with_reducible repeat (first | refine bkN ?_ _ | refine bkD ?_ | refine bkA ?_ _)); refine blk_put (cs := #[.int .i64 ((rd_T26 l0 x11_1).f0), .int .i64 ((rd_T26 l0 x11_1).f1.f0), .int .i64 ((rd_T26 l0 x11_1).f1.f1), .string ((rd_T26 l0 x11_1).f1.f2), .int .i64 ((rd_T26 l0 x11_1).f2), .int .i64 0, .int .i64 0, .string (⟨#[]⟩ : ByteArray), .slice none 0 0]) ?_ 5 _ rfl; (with_reducible repeat (first | refine bkN ?_ _ | refine bkD ?_ | refine bkA ?_ _)); refine blk_put (cs := #[.int .i64 ((rd_T26 l0 x11_1).f0), .int .i64 ((rd_T26 l0 x11_1).f1.f0), .int .i64 ((rd_T26 l0 x11_1).f1.f1), .string ((rd_T26 l0 x11_1).f1.f2), .int .i64 0, .int .i64 0, .int .i64 0, .string (⟨#[]⟩ : ByteArray), .slice none 0 0]) ?_ 4 _ rfl; (with_reducible repeat (first | refine bkN ?_ _ | refine bkD ?_ | refine bkA ?_ _)); refine blk_put (cs := #[.int .i64 ((rd_T26 l0 x11_1).f0), .int .i64 ((rd_T26 l0 x11_1).f1.f0), .int .i64 ((rd_T26 l0 x11_1).f1.f1), .string (⟨#[]⟩ : ByteArray), .int .i64 0, .int .i64 0, .int .i64 0, .string (⟨#[]⟩ : ByteArray), .slice none 0 0]) ?_ 3 _ rfl; (with_reducible repeat (first | refine bkN ?_ _ | refine bkD ?_ | refine bkA ?_ _)); refine blk_put (cs := #[.int .i64 ((rd_T26 l0 x11_1).f0), .int .i64 ((rd_T26 l0 x11_1).f1.f0), .int .i64 0, .string (⟨#[]⟩ : ByteArray), .int .i64 0, .int .i64 0, .int .i64 0, .string (⟨#[]⟩ : ByteArray), .slice none 0 0]) ?_ 2 _ rfl; (with_reducible repeat (first | refine bkN ?_ _ | refine bkD ?_ | refine bkA ?_ _)); refine blk_put (cs := #[.int .i64 ((rd_T26 l0 x11_1).f0), .int .i64 0, .int .i64 0, .string (⟨#[]⟩ : ByteArray), .int .i64 0, .int .i64 0, .int .i64 0, .string (⟨#[]⟩ : ByteArray), .slice none 0 0]) ?_ 1 _ rfl; (with_reducible repeat (first | refine bkN ?_ _ | refine bkD ?_ | refine bkA ?_ _)); refine blk_put (cs := #[.int .i64 0, .int .i64 0, .int .i64 0, .string (⟨#[]⟩ : ByteArray), .int .i64 0, .int .i64 0, .int .i64 0, .string (⟨#[]⟩ : ByteArray), .slice none 0 0]) ?_ 0 _ rfl; (with_reducible repeat (first | refine bkN ?_ _ | refine bkD ?_ | refine bkA ?_ _)); exact BK134.out) hb); have n2_ := Asd.mk (below_step (by repeat (first | (with_reducible first | exact HB.out | apply blA | apply pbN | apply blD | refine blS ?_ GE134.out) | exact HB.out)) hb); clear HO_5; clear BK134; clear HB; have HO_5 := n0_; have BK134 := n1_; have HB := n2_; clear n0_ n1_ n2_; (try clear hb); (try clear hb2); (try clear hk); (try clear hi)))
         go_roundg k1
         case measure => have := HK1.out; omega
         case rel => exact ⟨(x5_1), (wrap64 (x11_1 + 1)), (by first | rfl | (simp; done) | (simp [*]; done)), H', ⟨by have := HK1.out; omega⟩, ⟨by (with_reducible repeat (first | apply Kd.R_alloc | apply Kd.R_drewN | apply Kd.R_drew)); exact HO_5.out⟩, ⟨by repeat (first | (with_reducible first | exact HB.out | apply blA | apply pbN | apply blD | refine blS ?_ GE134.out) | exact HB.out)⟩⟩
      ·rw [if_neg c7] at H
       have c7b0 : decide (0 ≤ a1) = false := decide_eq_false c7
       clear c7
       have H' := Asd.mk H
       clear H
       have p133 : 0 ≤ (x11_1 : Int) := of_decide_eq_true (by first | (with_reducible assumption) | assumption)
       have q133 : x11_1 < (l0.length : Int) := of_decide_eq_true (by first | (with_reducible assumption) | assumption)
       obtain ⟨ad133, A133_8, c133_8, e133, hx133_0, hx133_1, hx133_2, hx133_3, hx133_4, hx133_5, hx133_6, hx133_7, hx133_8, hl133_8, hi133_8⟩ := at_T26 HR0.out x11_1 p133 q133
       cases e133
       replace hx133_0 := (HB.out.cell (World.block_lt_of_cell? w _ hx133_0)).trans hx133_0
       replace hx133_1 := (HB.out.cell (World.block_lt_of_cell? w _ hx133_1)).trans hx133_1
       replace hx133_2 := (HB.out.cell (World.block_lt_of_cell? w _ hx133_2)).trans hx133_2
       replace hx133_3 := (HB.out.cell (World.block_lt_of_cell? w _ hx133_3)).trans hx133_3
       replace hx133_4 := (HB.out.cell (World.block_lt_of_cell? w _ hx133_4)).trans hx133_4
       replace hx133_5 := (HB.out.cell (World.block_lt_of_cell? w _ hx133_5)).trans hx133_5
       replace hx133_6 := (HB.out.cell (World.block_lt_of_cell? w _ hx133_6)).trans hx133_6
       replace hx133_7 := (HB.out.cell (World.block_lt_of_cell? w _ hx133_7)).trans hx133_7
       replace hx133_8 := (HB.out.cell (World.block_lt_of_cell? w _ hx133_8)).trans hx133_8
       have HR133_8 := Asd.mk hi133_8
       have HC133_8 := Asd.mk hl133_8
       clear hi133_8 hl133_8
       replace p133 := eq_true p133
       replace q133 := eq_true q133
       go_wp2_with (first | ((with_reducible refine gate_dst (N := 7) rfl ?_); refine box_event rfl (N := 7) rfl (cs := #[.int .i64 0, .int .i64 0, .int .i64 0, .string (⟨#[]⟩ : ByteArray), .int .i64 0, .int .i64 0, .int .i64 0, .string (⟨#[]⟩ : ByteArray), .slice none 0 0]) (t := 26) (by first | (go_simp; done) | (go_simp; rfl)) ?_; intro gb134 hg w21 hbox hb; have n0_ := Asd.mk (Kd.R_below (by (with_reducible repeat (first | apply Kd.R_alloc | apply Kd.R_drewN | apply Kd.R_drew)); exact HO_5.out) hb); have n1_ := Asd.mk (below_step (by repeat (first | (with_reducible first | exact HB.out | apply blA | apply pbN | apply blD) | exact HB.out)) hb); have n2_ := Asd.mk (hbox); have n3_ := Asd.mk ((by rw [hg]; exact (below_size (by repeat (first | (with_reducible first | exact HB.out | apply blA | apply pbN | apply blD) | exact HB.out))) : w.heap.size ≤ gb134)); have n4_ := Asd.mk ((by rw [hg]; exact (below_size (by repeat (first | (with_reducible first | exact HB.out | apply blA | apply pbN | apply blD) | exact HB.out))) : w.heap.size ≤ gb134)); clear HO_5; clear HB; have HO_5 := n0_; have HB := n1_; have BK134 := n2_; have GW134 := n3_; have GE134 := n4_; clear n0_ n1_ n2_ n3_ n4_; clear hb hbox hg; obtain ⟨hcz22_0, hcz22_1, hcz22_2, hcz22_3, hcz22_4, hcz22_5, hcz22_6, hcz22_7, hcz22_8⟩ := bkC9 BK134.out; obtain ⟨hfz22_0, hfz22_1, hfz22_2, hfz22_3, hfz22_4, hfz22_5, hfz22_6, hfz22_7, hfz22_8⟩ := bkF9 BK134.out) | ((with_reducible refine gate_callee (f := 74) rfl ?_); refine goesL_ (some 17) rfl rfl Tryz.func74 (by kernel_rfl) rfl #[.agg #[.int .i64 ((rd_T26 l0 x11_1).f0), .int .i64 ((rd_T26 l0 x11_1).f1.f0), .int .i64 ((rd_T26 l0 x11_1).f1.f1), .string ((rd_T26 l0 x11_1).f1.f2), .int .i64 ((rd_T26 l0 x11_1).f2), .int .i64 ((rd_T26 l0 x11_1).f3), .int .i64 ((rd_T26 l0 x11_1).f4), .string ((rd_T26 l0 x11_1).f5), .slice A133_8 ((rd_T26 l0 x11_1).f6).length c133_8]] rfl (by (try simp only [List.map_toArray, List.map_cons, List.map_nil]); first | done | rfl | (simp only [List.length_drop, List.length_take]; rfl)) ?_; (with_reducible refine (expr_Tables.calls ((rd_T26 l0 x11_1).f0) ((rd_T26 l0 x11_1).f1.f0) ((rd_T26 l0 x11_1).f1.f1) ((rd_T26 l0 x11_1).f1.f2) ((rd_T26 l0 x11_1).f2) ((rd_T26 l0 x11_1).f3) ((rd_T26 l0 x11_1).f4) ((rd_T26 l0 x11_1).f5) _ _ ((rd_T26 l0 x11_1).f6) t135 _ ?side1 ?side2 A6.out).mono ?_); (case side1 => exact Kd.C_below HR133_8.out (by repeat (first | (with_reducible first | exact HB.out | apply blA | apply pbN | apply blD | refine blS ?_ GE134.out) | exact HB.out))); (case side2 => exact HC133_8.out); rintro e w23 ⟨rfl, hb⟩; refine ⟨_, rfl, ?_⟩; have n0_ := Asd.mk (Kd.R_below (by (with_reducible repeat (first | apply Kd.R_alloc | apply Kd.R_drewN | apply Kd.R_drew)); exact (Kd.R_mono (Kd.R_far (p := ⟨gb134, 8, none⟩) (Kd.R_far (p := ⟨gb134, 7, none⟩) (Kd.R_far (p := ⟨gb134, 6, none⟩) (Kd.R_far (p := ⟨gb134, 5, none⟩) (Kd.R_far (p := ⟨gb134, 4, none⟩) (Kd.R_far (p := ⟨gb134, 3, none⟩) (Kd.R_far (p := ⟨gb134, 2, none⟩) (Kd.R_far (p := ⟨gb134, 1, none⟩) (Kd.R_far (p := ⟨gb134, 0, none⟩) (Kd.R_types HO_5.out BK134.out (by decide)) (fun _ hk => hk.2) (.int .i64 ((rd_T26 l0 x11_1).f0))) (fun _ hk => hk.2) (.int .i64 ((rd_T26 l0 x11_1).f1.f0))) (fun _ hk => hk.2) (.int .i64 ((rd_T26 l0 x11_1).f1.f1))) (fun _ hk => hk.2) (.string ((rd_T26 l0 x11_1).f1.f2))) (fun _ hk => hk.2) (.int .i64 ((rd_T26 l0 x11_1).f2))) (fun _ hk => hk.2) (.int .i64 ((rd_T26 l0 x11_1).f3))) (fun _ hk => hk.2) (.int .i64 ((rd_T26 l0 x11_1).f4))) (fun _ hk => hk.2) (.string ((rd_T26 l0 x11_1).f5))) (fun _ hk => hk.2) (.slice A133_8 ((rd_T26 l0 x11_1).f6).length c133_8)) (fun _ h_ => h_.1))) hb); have n1_ := Asd.mk (blk_below (g := gb134) (o := .cells #[.int .i64 ((rd_T26 l0 x11_1).f0), .int .i64 ((rd_T26 l0 x11_1).f1.f0), .int .i64 ((rd_T26 l0 x11_1).f1.f1), .string ((rd_T26 l0 x11_1).f1.f2), .int .i64 ((rd_T26 l0 x11_1).f2), .int .i64 ((rd_T26 l0 x11_1).f3), .int .i64 ((rd_T26 l0 x11_1).f4), .string ((rd_T26 l0 x11_1).f5), .slice A133_8 ((rd_T26 l0 x11_1).f6).length c133_8] 26 (0, 0)) (by (with_reducible repeat (first | refine bkN ?_ _ | refine bkD ?_ | refine bkA ?_ _)); refine blk_put (cs := #[.int .i64 ((rd_T26 l0 x11_1).f0), .int .i64 ((rd_T26 l0 x11_1).f1.f0), .int .i64 ((rd_T26 l0 x11_1).f1.f1), .string ((rd_T26 l0 x11_1).f1.f2), .int .i64 ((rd_T26 l0 x11_1).f2), .int .i64 ((rd_T26 l0 x11_1).f3), .int .i64 ((rd_T26 l0 x11_1).f4), .string ((rd_T26 l0 x11_1).f5), .slice none 0 0]) ?_ 8 _ rfl; (with_reducible repeat (first | refine bkN ?_ _ | refine bkD ?_ | refine bkA ?_ _)); refine blk_put (cs := #[.int .i64 ((rd_T26 l0 x11_1).f0), .int .i64 ((rd_T26 l0 x11_1).f1.f0), .int .i64 ((rd_T26 l0 x11_1).f1.f1), .string ((rd_T26 l0 x11_1).f1.f2), .int .i64 ((rd_T26 l0 x11_1).f2), .int .i64 ((rd_T26 l0 x11_1).f3), .int .i64 ((rd_T26 l0 x11_1).f4), .string (⟨#[]⟩ : ByteArray), .slice none 0 0]) ?_ 7 _ rfl; (with_reducible repeat (first | refine bkN ?_ _ | refine bkD ?_ | refine bkA ?_ _)); refine blk_put (cs := #[.int .i64 ((rd_T26 l0 x11_1).f0), .int .i64 ((rd_T26 l0 x11_1).f1.f0), .int .i64 ((rd_T26 l0 x11_1).f1.f1), .string ((rd_T26 l0 x11_1).f1.f2), .int .i64 ((rd_T26 l0 x11_1).f2), .int .i64 ((rd_T26 l0 x11_1).f3), .int .i64 0, .string (⟨#[]⟩ : ByteArray), .slice none 0 0]) ?_ 6 _ rfl; (with_reducible repeat (first | refine bkN ?_ _ | refine bkD ?_ | refine bkA ?_ _)); refine blk_put (cs := #[.int .i64 ((rd_T26 l0 x11_1).f0), .int .i64 ((rd_T26 l0 x11_1).f1.f0), .int .i64 ((rd_T26 l0 x11_1).f1.f1), .string ((rd_T26 l0 x11_1).f1.f2), .int .i64 ((rd_T26 l0 x11_1).f2), .int .i64 0, .int .i64 0, .string (⟨#[]⟩ : ByteArray), .slice none 0 0]) ?_ 5 _ rfl; (with_reducible repeat (first | refine bkN ?_ _ | refine bkD ?_ | refine bkA ?_ _)); refine blk_put (cs := #[.int .i64 ((rd_T26 l0 x11_1).f0), .int .i64 ((rd_T26 l0 x11_1).f1.f0), .int .i64 ((rd_T26 l0 x11_1).f1.f1), .string ((rd_T26 l0 x11_1).f1.f2), .int .i64 0, .int .i64 0, .int .i64 0, .string (⟨#[]⟩ : ByteArray), .slice none 0 0]) ?_ 4 _ rfl; (with_reducible repeat (first | refine bkN ?_ _ | refine bkD ?_ | refine bkA ?_ _)); refine blk_put (cs := #[.int .i64 ((rd_T26 l0 x11_1).f0), .int .i64 ((rd_T26 l0 x11_1).f1.f0), .int .i64 ((rd_T26 l0 x11_1).f1.f1), .string (⟨#[]⟩ : ByteArray), .int .i64 0, .int .i64 0, .int .i64 0, .string (⟨#[]⟩ : ByteArray), .slice none 0 0]) ?_ 3 _ rfl; (with_reducible repeat (first | refine bkN ?_ _ | refine bkD ?_ | refine bkA ?_ _)); refine blk_put (cs := #[.int .i64 ((rd_T26 l0 x11_1).f0), .int .i64 ((rd_T26 l0 x11_1).f1.f0), .int .i64 0, .string (⟨#[]⟩ : ByteArray), .int .i64 0, .int .i64 0, .int .i64 0, .string (⟨#[]⟩ : ByteArray), .slice none 0 0]) ?_ 2 _ rfl; (with_reducible repeat (first | refine bkN ?_ _ | refine bkD ?_ | refine bkA ?_ _)); refine blk_put (cs := #[.int .i64 ((rd_T26 l0 x11_1).f0), .int .i64 0, .int .i64 0, .string (⟨#[]⟩ : ByteArray), .int .i64 0, .int .i64 0, .int .i64 0, .string (⟨#[]⟩ : ByteArray), .slice none 0 0]) ?_ 1 _ rfl; (with_reducible repeat (first | refine bkN ?_ _ | refine bkD ?_ | refine bkA ?_ _)); refine blk_put (cs := #[.int .i64 0, .int .i64 0, .int .i64 0, .string (⟨#[]⟩ : ByteArray), .int .i64 0, .int .i64 0, .int .i64 0, .string (⟨#[]⟩ : ByteArray), .slice none 0 0]) ?_ 0 _ rfl; (with_reducible repeat (first | refine bkN ?_ _ | refine bkD ?_ | refine bkA ?_ _)); exact BK134.out) hb); have n2_ := Asd.mk (below_step (by repeat (first | (with_reducible first | exact HB.out | apply blA | apply pbN | apply blD | refine blS ?_ GE134.out) | exact HB.out)) hb); clear HO_5; clear BK134; clear HB; have HO_5 := n0_; have BK134 := n1_; have HB := n2_; clear n0_ n1_ n2_; (try clear hb); (try clear hb2); (try clear hk); (try clear hi)))
       go_roundg k1
       case measure => have := HK1.out; omega
       case rel => exact ⟨(x5_1), (wrap64 (x11_1 + 1)), (by first | rfl | (simp; done) | (simp [*]; done)), H', ⟨by have := HK1.out; omega⟩, ⟨by (with_reducible repeat (first | apply Kd.R_alloc | apply Kd.R_drewN | apply Kd.R_drew)); exact HO_5.out⟩, ⟨by repeat (first | (with_reducible first | exact HB.out | apply blA | apply pbN | apply blD | refine blS ?_ GE134.out) | exact HB.out)⟩⟩
     ·rw [if_neg c5] at H
      exact absurd H (by simp)
    ·rw [if_neg c4] at H
     exact absurd H (by simp)
   ·rw [if_neg c3] at H
    have c3b0 : decide (x11_1 < (l0.length : Int)) = false := decide_eq_false c3
    clear c3
    obtain rfl := Option.some.inj H
    go_wp2
    go_ret
    exact ⟨_, by first | rfl | (simp [errW_none, errW_some] <;> rfl) | (simp [*, errW_none, errW_some] <;> rfl), by (with_reducible repeat (first | apply Kd.R_alloc | apply Kd.R_drewN | apply Kd.R_drew)); exact HO_5.out, by repeat (first | (with_reducible first | exact HB.out | apply blA | apply pbN | apply blD) | exact HB.out)⟩
end Go.Proofs.YtoffpegppdmkdaaGreatDoor.E
