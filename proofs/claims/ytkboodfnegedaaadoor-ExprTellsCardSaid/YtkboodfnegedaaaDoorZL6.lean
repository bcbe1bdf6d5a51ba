/- Contracts and plain lemmas of the functions that the law reaches, part 6. -/
import Derived.Laws.EntriesVeiled
import Derived.Deep.RegionHeld3
import Derived.Test.YtkboodfnegedaaaDoorZL3
import Derived.Test.YtkboodfnegedaaaDoorZL4
import Derived.Test.YtkboodfnegedaaaDoorZL5
namespace Go.Proofs.YtkboodfnegedaaaDoor.E
open Go.RowKit Go.Proofs.YtkboodfnegedaaaDoorW.PrintWords Go.Proofs.YtkboodfnegedaaaDoorW.PrintLast Go.Proofs.YtkboodfnegedaaaDoorW.PrintMore
structure Only (c : Nat) (w w' : World) : Prop where
  os : w'.os = w.os
  tape : w'.tape = w.tape
  output : w'.output = w.output
  size : w.heap.size ≤ w'.heap.size
  block : ∀ k, k < w.heap.size → k ≠ c → w'.heap[k]? = w.heap[k]?
theorem Only.refl (c : Nat) (w : World) : Only c w w := ⟨rfl, rfl, rfl, Nat.le_refl _, fun _ _ _ => rfl⟩
theorem Only.trans {c : Nat} {u v w : World} (h : Only c u v) (k : Only c v w) : Only c u w :=
  ⟨k.os.trans h.os, k.tape.trans h.tape, k.output.trans h.output, Nat.le_trans h.size k.size, fun i hi hc => (k.block i (by have := h.size; omega) hc).trans (h.block i hi hc)⟩
theorem Only.of {c : Nat} {u v : World} (h : Below u.heap.size u v) : Only c u v := ⟨h.os, h.tape, h.output, h.size, fun k hk _ => h.block k hk⟩
theorem Only.set (w : World) (c i : Nat) (u : Value) : Only c w (w.setCell ⟨c, i, none⟩ u) :=
  ⟨rfl, rfl, rfl, by simp [World.setCell], fun k _ hc => Below.heap_setCell _ _ _ _ hc⟩
theorem Only.below {c B : Nat} {u w w' : World} (h : Only c w w') (hb : Below B u w) (hc : B ≤ c) (hB : B ≤ w.heap.size) : Below B u w' :=
  hb.trans ⟨h.os, h.tape, h.output, h.size, fun k hk => h.block k (by omega) (by omega)⟩
theorem Only.drew {c : Nat} {u v : World} (h : Only c u v) : Only c u v.drew := ⟨h.os, h.tape, h.output, h.size, h.block⟩
structure REnv (w0 w : World) (mb wb many : Nat) : Prop where
  below : Below w0.heap.size w0 w
  hm : w0.heap.size ≤ mb
  hw : w0.heap.size ≤ wb
  ne : mb ≠ wb
  bm : w.heap[mb]? = some (.cells #[.int .i64 many] 3 (0, 0))
  bw : w.heap[wb]? = some (.cells #[.func (.func 48) #[] #[.pointer (some ⟨mb, 0, none⟩), .pointer (some ⟨wb, 0, none⟩)]] 65 (0, 0))
theorem REnv.only {w0 w w' : World} {mb wb many m : Nat} (h : REnv w0 w mb wb many) (ho : Only mb w w') (hm : w'.heap[mb]? = some (.cells #[.int .i64 m] 3 (0, 0))) : REnv w0 w' mb wb m :=
  ⟨ho.below h.below h.hm h.below.size, h.hm, h.hw, h.ne, hm, (ho.block wb (blk_lt h.bw) (Ne.symm h.ne)).trans h.bw⟩
theorem REnv.later {w0 w w' : World} {mb wb many : Nat} (h : REnv w0 w mb wb many) (hb : Below w.heap.size w w') : REnv w0 w' mb wb many :=
  h.only (Only.of hb) ((hb.block mb (blk_lt h.bm)).trans h.bm)
def WalkP (w : World) (mb : Nat) (o : Option Nat) (r : Ending) (w' : World) : Prop :=
  (∃ m, o = some m ∧ m ≤ 200 ∧ r = .returned (.bool true) ∧ w'.heap[mb]? = some (.cells #[.int .i64 m] 3 (0, 0)) ∧ Only mb w w') ∨ (o = none ∧ r = .returned (.bool false) ∧ Only mb w w')
def WalkOk (w0 : World) (mb wb : Nat) (e : Ex) : Prop := ∀ (deep many : Nat) (A : Option Addr) (c : Nat) (w : World), REnv w0 w mb wb many → many ≤ 200 → deep ≤ 21 → e.f6.length ≤ c → Kd.C k26 w0 A e.f6.length e.f6 →
  Calls Tryd.prog 48 #[.agg (exC e A c), .int .i64 deep, .pointer (some ⟨mb, 0, none⟩), .pointer (some ⟨wb, 0, none⟩)] w (WalkP w mb (cnt e deep many))
theorem hcf51 : ∀ (args : Array Value) (W : World), (callFunc 51 args).run Tryd.prog W = .ok (.enter 51 args) W := fun args W => by go_simp
def Walk1P (w : World) (mb : Nat) (o : Option Nat) (r : Ending) (w' : World) : Prop :=
  (∃ m, o = some m ∧ m ≤ 200 ∧ r = .returned (.bool false) ∧ w'.heap[mb]? = some (.cells #[.int .i64 m] 3 (0, 0)) ∧ Only mb w w') ∨ (o = none ∧ r = .returned (.bool true) ∧ Only mb w w')
set_option maxRecDepth 100000 in
theorem walk1_ok (w0 : World) (mb wb db : Nat) (e : Ex) (hw : WalkOk w0 mb wb e) (deep many : Nat) (A : Option Addr) (c : Nat) (w : World) (hE : REnv w0 w mb wb many) (hm : many ≤ 200) (hd : deep ≤ 20) (hc : e.f6.length ≤ c) (hC : Kd.C k26 w0 A e.f6.length e.f6)
    (hdb : w.heap[db]? = some (.cells #[.int .i64 deep] 3 (0, 0))) :
    Calls Tryd.prog 51 #[.agg (exC e A c), .pointer (some ⟨wb, 0, none⟩), .pointer (some ⟨db, 0, none⟩)] w (Walk1P w mb (cnt e (deep + 1) many)) := by
  have HW := Lib.hid hw; have HC := Lib.hid hC; have HE := Lib.hid hE
  clear hw hC hE
  unfold exC
  go_enter Tryd.func51, Tryd.ntmps51
  go_upto_region 1 with (first | ((with_reducible refine gate_dst (N := 3) rfl ?_); refine box_event rfl (N := 3) rfl (cs := exC e A c) (t := 26) (by first | rfl | (go_simp; done) | (go_simp; rfl)) ?_; intro g hgg w1 hbg hBg;  clear hgg))
  have HE1 := Lib.hid (HE.out.later hBg)
  have HO := Lib.hid (Only.of (c := mb) hBg)
  have hf : w1.cell? ⟨wb, 0, none⟩ = some _ := (bkC HE1.out.bw 0).trans rfl
  have hdp : w1.cell? ⟨db, 0, none⟩ = some _ := (bkC ((hBg.block db (blk_lt hdb)).trans hdb) 0).trans rfl
  obtain ⟨hz0, hz1, hz2, hz3, hz4, hz5, hz6, hz7, hz8⟩ := bkC9 hbg
  clear hbg hBg hdb HE
  have HCALL := Lib.hid (HW.out (deep + 1) many A c w1 HE1.out hm (by omega) hc HC.out)
  unfold exC at HCALL
  go_wp2_with fail
  refine HCALL.out.mono ?_
  rintro r W' (⟨m, h1, hle, rfl, h3, h4⟩ | ⟨h1, rfl, h4⟩)
  · have H1 := Lib.hid h1; clear h1
    go_wp2_with fail
    go_ret
    exact .inl ⟨m, H1.out, hle, rfl, h3, HO.out.trans h4⟩
  · have H1 := Lib.hid h1; clear h1
    go_wp2_with fail
    go_ret
    exact .inr ⟨H1.out, rfl, HO.out.trans h4⟩
set_option maxRecDepth 100000 in
theorem walk_step (w0 : World) (mb wb : Nat) (e : Ex) (ih : ∀ x ∈ e.f6, WalkOk w0 mb wb x) : WalkOk w0 mb wb e := by
  intro deep many A c w hE hm hd hc hC
  have HE := Lib.hid hE; have HC := Lib.hid hC; have IH := Lib.hid ih
  clear hE hC ih
  obtain ⟨o, ho⟩ : ∃ o, cnt e deep many = o := ⟨_, rfl⟩
  rw [ho]
  rw [cnt_eq] at ho
  have HOE := Lib.hid ho.symm
  clear ho
  unfold exC
  go_enter Tryd.func48, Tryd.ntmps48
  go_upto_region 1 with (first | ((with_reducible refine gate_dst (N := 4) rfl ?_); refine box_event rfl (N := 4) rfl (cs := exC e A c) (t := 26) (by first | rfl | (go_simp; done) | (go_simp; rfl)) ?_; intro g hgg w1 hbg hBg;  have hgm : g ≠ mb := (by have := blk_lt HE.out.bm; omega); clear hgg) | ((with_reducible refine gate_dst (N := 5) rfl ?_); refine box_event rfl (N := 5) rfl (cs := #[.int .i64 deep]) (t := 3) (by first | rfl | (go_simp; done) | (go_simp; rfl)) ?_; intro gd hgg w2 hbgd hBgd;  have hgdm : gd ≠ mb := (by have := blk_lt HE.out.bm; have := hBg.size; omega); clear hgg))
  have hB2 : Below w.heap.size w w2 := hBg.trans (hBgd.mono hBg.size)
  have HE2 := HE.out.later hB2
  have hmc : w2.cell? ⟨mb, 0, none⟩ = some (.int .i64 many) := (bkC HE2.bm 0).trans rfl
  have hmf : w2.frozen? ⟨mb, 0, none⟩ = false := bkF HE2.bm 0
  go_upto_region 2 with (fail)
  have hb3 : (w2.setCell ⟨mb, 0, none⟩ (.int .i64 ((many : Int) + 1))).heap[mb]? = some (.cells #[.int .i64 ((many + 1 : Nat) : Int)] 3 (0, 0)) := blk_set HE2.bm 0 _
  have ho3 : Only mb w (w2.setCell ⟨mb, 0, none⟩ (.int .i64 ((many : Int) + 1))) := (Only.of hB2).trans (Only.set _ _ _ _)
  have hg3 : (w2.setCell ⟨mb, 0, none⟩ (.int .i64 ((many : Int) + 1))).heap[g]? = some (.cells (exC e A c) 26 (0, 0)) := blk_far ((hBgd.block g (blk_lt hbg)).trans hbg) hgm _
  have hgd3 : (w2.setCell ⟨mb, 0, none⟩ (.int .i64 ((many : Int) + 1))).heap[gd]? = some (.cells #[.int .i64 deep] 3 (0, 0)) := blk_far hbgd hgdm _
  have HE3 := Lib.hid (HE.out.only ho3 hb3)
  have HO3 := Lib.hid ho3
  clear hmc hmf HE2 hB2 ho3 hb3 hbg hBg hbgd hBgd HE
  generalize w2.setCell ⟨mb, 0, none⟩ (.int .i64 ((many : Int) + 1)) = w3 at HE3 HO3 hg3 hgd3 ⊢
  have hmc : w3.cell? ⟨mb, 0, none⟩ = some (.int .i64 ((many : Int) + 1)) := (bkC HE3.out.bm 0).trans rfl
  have hdc : w3.cell? ⟨gd, 0, none⟩ = some (.int .i64 deep) := (bkC hgd3 0).trans rfl
  obtain ⟨hz0, hz1, hz2, hz3, hz4, hz5, hz6, hz7, hz8⟩ := bkC9 hg3
  by_cases h1 : many + 1 > 200
  · have HR : Hid (o = none) := HOE.out.trans (if_pos h1)
    have h1' : (200 : Int) < (many : Int) + 1 := by omega
    go_wp2_with fail
    go_ret
    exact .inr ⟨HR.out, rfl, HO3.out⟩
  · have h1' : ¬ (200 : Int) < (many : Int) + 1 := by omega
    by_cases h2 : deep > 20
    · have HR : Hid (o = none) := HOE.out.trans ((if_neg h1).trans (if_pos h2))
      have h2' : (20 : Int) < (deep : Int) := by omega
      go_wp2_with fail
      go_ret
      exact .inr ⟨HR.out, rfl, HO3.out⟩
    · have h2' : ¬ (20 : Int) < (deep : Int) := by omega
      have HOWN := Lib.hid (expr_own.calls 1 e.f0 e.f1.f0 e.f1.f1 e.f1.f2 e.f2 e.f3 e.f4 e.f5 A c e.f6 (ownB e) w3 (Kd.C_below HC.out HE3.out.below) hc (own_some e))
      by_cases h3 : ownB e = true
      · have HR : Hid (o = cntL e.f6 (deep + 1) (many + 1)) := HOE.out.trans ((if_neg h1).trans ((if_neg h2).trans (if_pos h3)))
        have HLN : Hid (e.f6.length ≤ 9223372036854775807) := by have h1 := (own_true h3).2; have h2 := wants_le e.f0; show _ ≤ _; omega
        rw [h3] at HOWN
        clear h3
        go_upto_region 4 with (go_at_call 49; refine HOWN.out.mono ?_; rintro r w4 ⟨rfl, hb4⟩)
        have HE4 := Lib.hid (HE3.out.later hb4)
        have HO4 := Lib.hid (HO3.out.trans (Only.of hb4))
        have hgd4 := (hb4.block gd (blk_lt hgd3)).trans hgd3
        have hz : w4.cell? ⟨g, 6 + 2, none⟩ = some (.slice A e.f6.length c) := (bkC ((hb4.block g (blk_lt hg3)).trans hg3) 8).trans rfl
        clear hz0 hz1 hz2 hz3 hz4 hz5 hz6 hz7 hz8 hmc hdc hg3 hgd3 HE3 HO3 hb4 HOWN
        have HCON := Lib.hid (contains_ok 51 #[.pointer (some ⟨wb, 0, none⟩), .pointer (some ⟨gd, 0, none⟩)] e.f6 A c w0 w4 HC.out HLN.out hcf51
          (fun i W => ∃ m, cntL (e.f6.take i) (deep + 1) (many + 1) = some m ∧ m ≤ 200 ∧ REnv w0 W mb wb m ∧ Only mb w4 W) (fun W => cntL e.f6 (deep + 1) (many + 1) = none ∧ Only mb w4 W)
          (fun i W h => by obtain ⟨m, _, _, h, _⟩ := h; exact h.below)
          (fun i x A8 c8 W hx h hc8 hC8 => by
            obtain ⟨m, h1, h2, h3, h4⟩ := h
            have hi : i < e.f6.length := (List.getElem?_eq_some_iff.1 hx).1
            have hxi : e.f6[i] = x := (List.getElem?_eq_some_iff.1 hx).2
            have hsn : cntL (e.f6.take (i + 1)) (deep + 1) (many + 1) = cnt x (deep + 1) m := by
              rw [List.take_succ_eq_append_getElem hi, cntL_snoc, h1, hxi]; rfl
            refine (walk1_ok w0 mb wb gd x (IH.out x (hxi ▸ List.getElem_mem hi)) deep m A8 c8 W h3 h2 (by omega) hc8 hC8 ((h4.block gd (blk_lt hgd4) hgdm).trans hgd4)).mono ?_
            rintro r W' (⟨m', g1, gle, rfl, g3, g4⟩ | ⟨g1, rfl, g4⟩)
            · exact .inl ⟨rfl, m', by rw [hsn, g1], gle, h3.only g4 g3, h4.trans g4⟩
            · exact .inr ⟨rfl, cntL_none_of_take _ (i + 1) _ _ (by rw [hsn, g1]), h4.trans g4⟩)
          ⟨many + 1, by simp [cntL], by omega, HE4.out, Only.refl _ _⟩)
        go_wp2_with fail
        all_goals
          refine HCON.out.mono ?_
          rintro r W' (⟨rfl, m, h1, hle, h3, h4⟩ | ⟨rfl, h1, h4⟩)
          · rw [List.take_length] at h1
            have H1 := Lib.hid h1; clear h1
            go_wp2_with fail
            go_ret
            exact .inl ⟨m, HR.out.trans H1.out, hle, rfl, h3.bm, HO4.out.trans h4⟩
          · have H1 := Lib.hid h1; clear h1
            go_wp2_with fail
            go_ret
            exact .inr ⟨HR.out.trans H1.out, rfl, HO4.out.trans h4⟩
      · have HR : Hid (o = none) := HOE.out.trans ((if_neg h1).trans ((if_neg h2).trans (if_neg h3)))
        have h3 : ownB e = false := by simpa using h3
        rw [h3] at HOWN
        clear h3
        go_wp2_with (go_at_call 49; refine HOWN.out.mono ?_; rintro r w4 ⟨rfl, hb4⟩)
        go_ret
        exact .inr ⟨HR.out, rfl, HO3.out.trans (Only.of hb4)⟩
theorem walk_ok (w0 : World) (mb wb : Nat) : ∀ (N : Nat) (e : Ex), SizeOf.sizeOf e < N → WalkOk w0 mb wb e := by
  intro N
  induction N with
  | zero => intro e h; omega
  | succ N ih =>
    intro e h
    refine walk_step w0 mb wb e fun x hx => ih x ?_
    have h1 := List.sizeOf_lt_of_mem hx
    have h2 : SizeOf.sizeOf e.f6 < SizeOf.sizeOf e := by cases e; simp; omega
    omega
def expr_Right.f (a0_0 : Int) (a0_1 : Int) (a0_2 : Int) (a0_3 : ByteArray) (a0_4 : Int) (a0_5 : Int) (a0_6 : Int) (a0_7 : ByteArray) (l0_8 : List Ex) : Option (Bool) := some (rightB ⟨a0_0, ⟨a0_1, a0_2, a0_3⟩, a0_4, a0_5, a0_6, a0_7, l0_8⟩)
set_option maxRecDepth 100000 in
theorem right_ok (e : Ex) (A : Option Addr) (c : Nat) (w : World) (hC : Kd.C k26 w A e.f6.length e.f6) (hc : e.f6.length ≤ c) :
    Calls Tryd.prog 17 #[.agg (exC e A c)] w fun r w' => r = .returned (.bool (rightB e)) ∧ Below w.heap.size w w' := by
  have HC := Lib.hid hC
  clear hC
  unfold exC
  obtain ⟨b, hb⟩ : ∃ b, rightB e = b := ⟨_, rfl⟩
  rw [hb]
  have HBV := Lib.hid hb; clear hb
  go_enter Tryd.func17, Tryd.ntmps17
  go_upto_region 2 with (first | ((with_reducible refine gate_dst (N := 1) rfl ?_); refine box_event rfl (N := 1) rfl (cs := exC e A c) (t := 26) (by first | rfl | (go_simp; done) | (go_simp; rfl)) ?_; intro g hgg w1 hbg hBg;  clear hgg) | ((with_reducible refine gate_dst (N := 3) rfl ?_); refine box_event rfl (N := 3) rfl (cs := #[.int .i64 0]) (t := 3) (by first | rfl | (go_simp; done) | (go_simp; rfl)) ?_; intro mb hgg w2 hbmb hBmb;  have hmb : w.heap.size ≤ mb := (by have := hBg.size; omega); have hgm : g ≠ mb := (by have := blk_lt hbg; omega); have hmc : w2.cell? ⟨mb, 0, none⟩ = some (.int .i64 0) := ((bkC hbmb 0).trans rfl); have hmf := bkF hbmb 0; clear hgg))
  have hB2 : Below w.heap.size w w2 := hBg.trans (hBmb.mono hBg.size)
  have hb3 : (w2.setCell ⟨mb, 0, none⟩ (.int .i64 0)).heap[mb]? = some (.cells #[.int .i64 ((0 : Nat) : Int)] 3 (0, 0)) := blk_set hbmb 0 _
  have hg3 : (w2.setCell ⟨mb, 0, none⟩ (.int .i64 0)).heap[g]? = some (.cells (exC e A c) 26 (0, 0)) := blk_far ((hBmb.block g (blk_lt hbg)).trans hbg) hgm _
  have hB3 : Below w.heap.size w (w2.setCell ⟨mb, 0, none⟩ (.int .i64 0)) := hB2.setCell hmb _
  clear hmc hmf hbg hBg hbmb hBmb hB2 hgm
  generalize w2.setCell ⟨mb, 0, none⟩ (.int .i64 0) = w3 at hb3 hg3 hB3 ⊢
  go_upto_region 3 with (first | ((with_reducible refine gate_dst (N := 4) rfl ?_); refine box_event rfl (N := 4) rfl (cs := #[.nilFunc]) (t := 65) (by first | rfl | (go_simp; done) | (go_simp; rfl)) ?_; intro wb hgg w4 hbwb hBwb;  have hwb : w.heap.size ≤ wb := (by have := hB3.size; omega); have hmw : mb ≠ wb := (by have := blk_lt hb3; omega); have hgw : g ≠ wb := (by have := blk_lt hg3; omega); have hwc : w4.cell? ⟨wb, 0, none⟩ = some .nilFunc := ((bkC hbwb 0).trans rfl); have hwf := bkF hbwb 0; clear hgg))
  go_upto_region 4 with (fail)
  obtain ⟨w5, hw5⟩ : ∃ w5, w5 = w4.setCell ⟨wb, 0, none⟩ (.func (.func 48) #[] #[.pointer (some ⟨mb, 0, none⟩), .pointer (some ⟨wb, 0, none⟩)]) := ⟨_, rfl⟩
  have hE : REnv w w5 mb wb 0 := by
    rw [hw5]
    exact ⟨((hB3.trans (hBwb.mono hB3.size))).setCell hwb _, hmb, hwb, hmw, blk_far ((hBwb.block mb (blk_lt hb3)).trans hb3) hmw _, blk_set hbwb 0 _⟩
  have hg5 : w5.heap[g]? = some (.cells (exC e A c) 26 (0, 0)) := by rw [hw5]; exact blk_far ((hBwb.block g (blk_lt hg3)).trans hg3) hgw _
  rw [← hw5]
  have HW := Lib.hid (walk_ok w mb wb _ e (Nat.lt_succ_self _) 1 0 A c w5 hE (by omega) (by omega) hc HC.out)
  unfold exC at HW
  have hfc : w5.cell? ⟨wb, 0, none⟩ = some _ := (bkC hE.bw 0).trans rfl
  obtain ⟨hz0, hz1, hz2, hz3, hz4, hz5, hz6, hz7, hz8⟩ := bkC9 hg5
  have HE := Lib.hid hE
  clear hw5 hb3 hg3 hB3 hbwb hBwb hwc hwf hE hg5
  go_wp2_with fail
  refine HW.out.mono ?_
  rintro r W' (⟨m, h1, hle, rfl, h3, h4⟩ | ⟨h1, rfl, h4⟩)
  · have H1 := Lib.hid h1; clear h1
    go_wp2_with fail
    go_ret
    exact ⟨by rw [← HBV.out]; unfold rightB; rw [H1.out]; rfl, h4.below HE.out.below HE.out.hm HE.out.below.size⟩
  · have H1 := Lib.hid h1; clear h1
    go_wp2_with fail
    go_ret
    exact ⟨by rw [← HBV.out]; unfold rightB; rw [H1.out]; rfl, h4.below HE.out.below HE.out.hm HE.out.below.size⟩
theorem expr_Right.calls (a0_0 : Int) (a0_1 : Int) (a0_2 : Int) (a0_3 : ByteArray) (a0_4 : Int) (a0_5 : Int) (a0_6 : Int) (a0_7 : ByteArray) (A0_8 : Option Addr) (c0_8 : Nat) (l0_8 : List Ex) (r : Bool) (w : World) (hr0_8 : Kd.C k26 w A0_8 l0_8.length l0_8) (hc0_8 : l0_8.length ≤ c0_8) (h : expr_Right.f a0_0 a0_1 a0_2 a0_3 a0_4 a0_5 a0_6 a0_7 l0_8 = some r) :
    Calls Tryd.prog 17 #[.agg #[.int .i64 a0_0, .int .i64 a0_1, .int .i64 a0_2, .string a0_3, .int .i64 a0_4, .int .i64 a0_5, .int .i64 a0_6, .string a0_7, .slice A0_8 l0_8.length c0_8]] w fun e w' => e = .returned (.bool r) ∧ Below w.heap.size w w' := by
  obtain rfl := Option.some.inj h
  exact right_ok ⟨a0_0, ⟨a0_1, a0_2, a0_3⟩, a0_4, a0_5, a0_6, a0_7, l0_8⟩ A0_8 c0_8 w hr0_8 hc0_8
def Rt (e : Ex) : Prop := ∃ d m r, cnt e d m = some r
theorem Rt.own {e : Ex} (h : Rt e) : ownB e = true := by
  obtain ⟨d, m, r, h⟩ := h
  rw [cnt_eq] at h
  split at h
  · cases h
  · split at h
    · cases h
    · split at h
      · assumption
      · cases h
theorem cntL_mem {l : List Ex} {x : Ex} (hx : x ∈ l) : ∀ {d m r : Nat}, cntL l d m = some r → ∃ m' r', cnt x d m' = some r' := by
  induction l with
  | nil => cases hx
  | cons y l ih =>
    intro d m r h
    rw [cntL] at h
    obtain ⟨q, h1, h2⟩ := Option.bind_eq_some_iff.1 h
    cases hx with
    | head => exact ⟨m, q, h1⟩
    | tail _ hx => exact ih hx h2
theorem Rt.kid {e x : Ex} (h : Rt e) (hx : x ∈ e.f6) : Rt x := by
  have ho := h.own
  obtain ⟨d, m, r, h⟩ := h
  rw [cnt_eq, ho] at h
  split at h
  · cases h
  · split at h
    · cases h
    · obtain ⟨m', r', h'⟩ := cntL_mem hx (by simpa using h)
      exact ⟨_, m', r', h'⟩
theorem Rt.len {e : Ex} (h : Rt e) : e.f6.length ≤ 2 := by have h1 := (own_true h.own).2; have h2 := wants_le e.f0; omega
theorem Rt.of {e : Ex} (h : rightB e = true) : Rt e := by
  unfold rightB at h
  obtain ⟨r, hr⟩ := Option.isSome_iff_exists.1 h
  exact ⟨1, 0, r, hr⟩
section
variable {σ : Type}
mutual
/-- Something of each part in turn, till it holds. -/
def someF (step : Ex → σ → Bool × σ) : Ex → σ → Bool × σ
  | ⟨f0, f1, f2, f3, f4, f5, f6⟩, s => if (step ⟨f0, f1, f2, f3, f4, f5, f6⟩ s).1 = true then (true, (step ⟨f0, f1, f2, f3, f4, f5, f6⟩ s).2) else someL step f6 (step ⟨f0, f1, f2, f3, f4, f5, f6⟩ s).2
def someL (step : Ex → σ → Bool × σ) : List Ex → σ → Bool × σ
  | [], s => (false, s)
  | x :: xs, s => if (someF step x s).1 = true then (true, (someF step x s).2) else someL step xs (someF step x s).2
end
theorem someF_eq (step : Ex → σ → Bool × σ) (e : Ex) (s : σ) : someF step e s = if (step e s).1 = true then (true, (step e s).2) else someL step e.f6 (step e s).2 := by
  cases e; rw [someF]
theorem someL_take (step : Ex → σ → Bool × σ) (l : List Ex) (k : Nat) (hk : k < l.length) : ∀ (s : σ), (someL step (l.take k) s).1 = false →
    someL step (l.take (k + 1)) s = someF step l[k] (someL step (l.take k) s).2 := by
  induction l generalizing k with
  | nil => simp at hk
  | cons y l ih =>
    intro s h
    cases k with
    | zero =>
      simp only [List.take_zero, List.take_succ_cons, someL, List.getElem_cons_zero]
      split
      · rename_i h1; rw [← h1]
      · rename_i h1; rw [← (by simpa using h1 : (someF step y s).1 = false)]
    | succ k =>
      simp only [List.take_succ_cons, someL, List.getElem_cons_succ] at h ⊢
      split at h
      · simp at h
      · rename_i h1
        rw [if_neg h1, if_neg h1]
        exact ih k (by simpa using hk) _ h
theorem someL_stop (step : Ex → σ → Bool × σ) (l : List Ex) (k : Nat) : ∀ (s : σ), (someL step (l.take k) s).1 = true → someL step l s = someL step (l.take k) s := by
  induction l generalizing k with
  | nil => intro s h; simp at h ⊢
  | cons y l ih =>
    intro s h
    cases k with
    | zero => simp [someL] at h
    | succ k =>
      simp only [List.take_succ_cons, someL] at h ⊢
      split
      · rfl
      · rename_i h1
        rw [if_neg h1] at h
        exact ih k _ h
structure Fr (sb : Option Nat) (w w' : World) : Prop where
  size : w.heap.size ≤ w'.heap.size
  block : ∀ k, k < w.heap.size → sb ≠ some k → w'.heap[k]? = w.heap[k]?
theorem Fr.refl (sb : Option Nat) (w : World) : Fr sb w w := ⟨Nat.le_refl _, fun _ _ _ => rfl⟩
theorem Fr.trans {sb : Option Nat} {u v w : World} (h : Fr sb u v) (k : Fr sb v w) : Fr sb u w :=
  ⟨Nat.le_trans h.size k.size, fun i hi hc => (k.block i (by have := h.size; omega) hc).trans (h.block i hi hc)⟩
theorem Fr.of {sb : Option Nat} {u v : World} (h : Below u.heap.size u v) : Fr sb u v := ⟨h.size, fun k hk _ => h.block k hk⟩
theorem Fr.set (w : World) (c i : Nat) (u : Value) : Fr (some c) w (w.setCell ⟨c, i, none⟩ u) :=
  ⟨by simp [World.setCell], fun k _ hc => Below.heap_setCell _ _ _ _ (fun h => hc (by rw [h]))⟩
structure SomeEnv (w0 : World) (sb : Option Nat) (fid : Nat) (caps : Array Value) (step : Ex → σ → Bool × σ) (R : σ → World → Prop) : Prop where
  run : ∀ (args : Array Value) (W : World), (callFunc fid args).run Tryd.prog W = .ok (.enter fid args) W
  base : ∀ s W, R s W → Below w0.heap.size w0 W
  old : ∀ s W k, R s W → sb = some k → k < W.heap.size
  later : ∀ s W W', R s W → Below W.heap.size W W' → R s W'
  one : ∀ (e : Ex) (A : Option Addr) (c : Nat) (s : σ) (W : World), Rt e → R s W → e.f6.length ≤ c → Kd.C k26 w0 A e.f6.length e.f6 →
    Calls Tryd.prog fid (#[.agg (exC e A c)] ++ caps) W fun r W' => r = .returned (.bool (step e s).1) ∧ R (step e s).2 W' ∧ Fr sb W W'
def SomeP (R : σ → World → Prop) (sb : Option Nat) (W : World) (q : Bool × σ) (r : Ending) (W' : World) : Prop := r = .returned (.bool q.1) ∧ R q.2 W' ∧ Fr sb W W'
def SomeOk (w0 : World) (sb : Option Nat) (fid : Nat) (caps : Array Value) (step : Ex → σ → Bool × σ) (R : σ → World → Prop) (e : Ex) : Prop :=
  ∀ (A : Option Addr) (c : Nat) (s : σ) (W : World), Rt e → R s W → e.f6.length ≤ c → Kd.C k26 w0 A e.f6.length e.f6 →
    Calls Tryd.prog 38 #[.agg (exC e A c), .func (.func fid) #[] caps] W (SomeP R sb W (someF step e s))
theorem hcf61 : ∀ (args : Array Value) (W : World), (callFunc 61 args).run Tryd.prog W = .ok (.enter 61 args) W := fun args W => by go_simp
set_option maxRecDepth 100000 in
theorem some1_ok {w0 : World} {sb : Option Nat} {fid : Nat} {caps : Array Value} {step : Ex → σ → Bool × σ} {R : σ → World → Prop} (hE : SomeEnv w0 sb fid caps step R) (e : Ex) (h : SomeOk w0 sb fid caps step R e) (fb : Nat) (A : Option Addr) (c : Nat) (s : σ) (w : World)
    (hRt : Rt e) (hR : R s w) (hc : e.f6.length ≤ c) (hC : Kd.C k26 w0 A e.f6.length e.f6) (hfb : w.heap[fb]? = some (.cells #[.func (.func fid) #[] caps] 44 (0, 0))) :
    Calls Tryd.prog 61 #[.agg (exC e A c), .pointer (some ⟨fb, 0, none⟩)] w (SomeP R sb w (someF step e s)) := by
  have HS := Lib.hid h; have HC := Lib.hid hC; have HR := Lib.hid hR; have HE := Lib.hid hE; have HRT := Lib.hid hRt
  clear h hC hR hE hRt
  obtain ⟨q, hq⟩ : ∃ q, someF step e s = q := ⟨_, rfl⟩
  rw [hq]
  have HQ := Lib.hid hq; clear hq
  unfold exC
  go_enter Tryd.func61, Tryd.ntmps61
  go_upto_region 1 with (first | ((with_reducible refine gate_dst (N := 2) rfl ?_); refine box_event rfl (N := 2) rfl (cs := exC e A c) (t := 26) (by first | rfl | (go_simp; done) | (go_simp; rfl)) ?_; intro g hgg w1 hbg hBg;  clear hgg))
  have hR1 := HE.out.later s w w1 HR.out hBg
  have hfc : w1.cell? ⟨fb, 0, none⟩ = some (.func (.func fid) #[] caps) := (bkC ((hBg.block fb (blk_lt hfb)).trans hfb) 0).trans rfl
  obtain ⟨hz0, hz1, hz2, hz3, hz4, hz5, hz6, hz7, hz8⟩ := bkC9 hbg
  have HF := Lib.hid (Fr.of (sb := sb) hBg)
  have HCALL := Lib.hid (HS.out A c s w1 HRT.out hR1 hc HC.out)
  rw [HQ.out] at HCALL
  unfold exC at HCALL
  clear hbg hBg hfb hR1
  go_wp2_with fail
  refine HCALL.out.mono ?_
  rintro r W' ⟨rfl, h1, h2⟩
  have H1 := Lib.hid h1; clear h1
  go_wp2_with fail
  go_ret
  exact ⟨rfl, H1.out, HF.out.trans h2⟩
set_option maxRecDepth 100000 in
theorem some_step {w0 : World} {sb : Option Nat} {fid : Nat} {caps : Array Value} {step : Ex → σ → Bool × σ} {R : σ → World → Prop} (hE : SomeEnv w0 sb fid caps step R) (e : Ex) (ih : ∀ x ∈ e.f6, SomeOk w0 sb fid caps step R x) : SomeOk w0 sb fid caps step R e := by
  intro A c s w hRt hR hc hC
  have IH := Lib.hid ih; have HC := Lib.hid hC; have HR := Lib.hid hR; have HE := Lib.hid hE; have HRT := Lib.hid hRt
  have hrun := hE.run
  clear ih hC hR hE hRt
  obtain ⟨q, hq⟩ : ∃ q, someF step e s = q := ⟨_, rfl⟩
  rw [hq]
  rw [someF_eq] at hq
  have HQ := Lib.hid hq.symm; clear hq
  unfold exC
  go_enter Tryd.func38, Tryd.ntmps38
  go_upto_region 1 with (first | ((with_reducible refine gate_dst (N := 2) rfl ?_); refine box_event rfl (N := 2) rfl (cs := exC e A c) (t := 26) (by first | rfl | (go_simp; done) | (go_simp; rfl)) ?_; intro g hgg w1 hbg hBg;  have hgs : sb ≠ some g := (fun h => by have := HE.out.old s w g HR.out h; omega); clear hgg) | ((with_reducible refine gate_dst (N := 3) rfl ?_); refine box_event rfl (N := 3) rfl (cs := #[.func (.func fid) #[] caps]) (t := 44) (by first | rfl | (go_simp; done) | (go_simp; rfl)) ?_; intro fb hgg w2 hbfb hBfb;  have hfs : sb ≠ some fb := (fun h => by have := HE.out.old s w fb HR.out h; have := hBg.size; omega); clear hgg))
  have hR1 := HE.out.later s w1 w2 (HE.out.later s w w1 HR.out hBg) hBfb
  have hF2 : Fr sb w w2 := (Fr.of hBg).trans (Fr.of hBfb)
  have hg2 := (hBfb.block g (blk_lt hbg)).trans hbg
  have hfc : w2.cell? ⟨fb, 0, none⟩ = some (.func (.func fid) #[] caps) := (bkC hbfb 0).trans rfl
  obtain ⟨hz0, hz1, hz2, hz3, hz4, hz5, hz6, hz7, hz8⟩ := bkC9 hg2
  have HCALL := Lib.hid (HE.out.one e A c s w2 HRT.out hR1 hc HC.out)
  unfold exC at HCALL
  clear hbg hBg hBfb hR1
  go_wp2_with fail
  refine HCALL.out.mono ?_
  obtain ⟨p, hp⟩ : ∃ p, step e s = p := ⟨_, rfl⟩
  rw [hp] at HQ ⊢
  have HP := Lib.hid hp; clear hp
  obtain ⟨p1, p2⟩ := p
  rintro r w3 ⟨rfl, h1, h3⟩
  have HF3 := Lib.hid (hF2.trans h3)
  have H1 := Lib.hid h1; clear h1
  have hz : w3.cell? ⟨g, 6 + 2, none⟩ = some (.slice A e.f6.length c) := (bkC ((h3.block g (blk_lt hg2) hgs).trans hg2) 8).trans rfl
  have hfb3 := (h3.block fb (blk_lt hbfb) hfs).trans hbfb
  clear hz0 hz1 hz2 hz3 hz4 hz5 hz6 hz7 hz8 hfc hg2 hbfb h3 hF2 HCALL
  cases p1 with
  | true =>
    have HQ2 : Hid (q = (true, p2)) := HQ.out
    go_wp2_with fail
    go_ret
    exact ⟨by rw [HQ2.out]; rfl, by rw [HQ2.out]; exact H1.out, HF3.out⟩
  | false =>
    have HQ2 : Hid (q = someL step e.f6 p2) := HQ.out
    have HLN : Hid (e.f6.length ≤ 9223372036854775807) := by have h1 := HRT.out.len; show _ ≤ _; omega
    have HCON := Lib.hid (contains_ok 61 #[.pointer (some ⟨fb, 0, none⟩)] e.f6 A c w0 w3 HC.out HLN.out hcf61
      (fun i W => (someL step (e.f6.take i) p2).1 = false ∧ R (someL step (e.f6.take i) p2).2 W ∧ Fr sb w3 W) (fun W => q.1 = true ∧ R q.2 W ∧ Fr sb w3 W)
      (fun i W h => HE.out.base _ _ h.2.1)
      (fun i x A8 c8 W hx h hc8 hC8 => by
        obtain ⟨g1, g2, g3⟩ := h
        have hi : i < e.f6.length := (List.getElem?_eq_some_iff.1 hx).1
        have hxi : e.f6[i] = x := (List.getElem?_eq_some_iff.1 hx).2
        have hm : x ∈ e.f6 := hxi ▸ List.getElem_mem hi
        have hs1 := someL_take step e.f6 i hi p2 g1
        rw [hxi] at hs1
        refine (some1_ok HE.out x (IH.out x hm) fb A8 c8 _ W (HRT.out.kid hm) g2 hc8 hC8 ((g3.block fb (blk_lt hfb3) hfs).trans hfb3)).mono ?_
        rintro r W' ⟨rfl, k1, k2⟩
        rw [← hs1] at k1 ⊢
        cases hb : (someL step (e.f6.take (i + 1)) p2).1 with
        | false => exact .inl ⟨rfl, rfl, k1, g3.trans k2⟩
        | true =>
          have h5 := someL_stop step e.f6 (i + 1) p2 hb
          rw [← HQ2.out] at h5
          rw [← h5] at hb k1
          exact .inr ⟨rfl, hb, k1, g3.trans k2⟩)
      ⟨by simp [someL], by simpa [someL] using H1.out, Fr.refl _ _⟩)
    rw [List.take_length, ← HQ2.out] at HCON
    go_wp2_with fail
    all_goals
      refine HCON.out.mono ?_
      rintro r W' (⟨rfl, h1, h3, h4⟩ | ⟨rfl, h1, h3, h4⟩)
      · have H1 := Lib.hid h1; clear h1
        have H3 := Lib.hid h3; clear h3
        go_wp2_with fail
        go_ret
        exact ⟨congrArg (fun b => Ending.returned (.bool b)) H1.out.symm, H3.out, HF3.out.trans h4⟩
      · have H1 := Lib.hid h1; clear h1
        have H3 := Lib.hid h3; clear h3
        go_wp2_with fail
        go_ret
        exact ⟨congrArg (fun b => Ending.returned (.bool b)) H1.out.symm, H3.out, HF3.out.trans h4⟩
theorem some_ok {w0 : World} {sb : Option Nat} {fid : Nat} {caps : Array Value} {step : Ex → σ → Bool × σ} {R : σ → World → Prop} (hE : SomeEnv w0 sb fid caps step R) : ∀ (N : Nat) (e : Ex), SizeOf.sizeOf e < N → SomeOk w0 sb fid caps step R e := by
  intro N
  induction N with
  | zero => intro e h; omega
  | succ N ih =>
    intro e h
    refine some_step hE e fun x hx => ih x ?_
    have h1 := List.sizeOf_lt_of_mem hx
    have h2 : SizeOf.sizeOf e.f6 < SizeOf.sizeOf e := by cases e; simp; omega
    omega
end
theorem Rt.rel {e : Ex} (h : Rt e) (h2 : e.f0 = 2) : 0 ≤ e.f2 ∧ e.f2 ≤ 15 ∧ 0 ≤ e.f3 ∧ e.f3 < 6 := by
  have h := h.own
  unfold ownB expr_own.f expr_wants.f at h
  simp only [Option.bind_some] at h
  split at h
  · by_cases hl : (e.f6.length : Int) = wantsI e.f0
    · rw [bne_eq_false_iff_eq.mpr hl] at h
      simp only [expr_own.j0, h2] at h
      simp at h
      repeat' (first | (split at h) | (simp at h; done))
      all_goals first | (simp at h; done) | exact ⟨by assumption, by assumption, by assumption, by assumption⟩
    · rw [bne_iff_ne.mpr hl] at h
      simp [expr_own.j0] at h
  · simp [expr_own.j0] at h
theorem Rt.par {e : Ex} (h : Rt e) (h2 : e.f0 = 3) : 1 ≤ e.f4 ∧ e.f4 ≤ 4 := by
  have h := h.own
  unfold ownB expr_own.f expr_wants.f at h
  simp only [Option.bind_some] at h
  split at h
  · by_cases hl : (e.f6.length : Int) = wantsI e.f0
    · rw [bne_eq_false_iff_eq.mpr hl] at h
      simp only [expr_own.j0, h2] at h
      simp at h
      repeat' (first | (split at h) | (simp at h; done))
      all_goals first | (simp at h; done) | exact ⟨by assumption, by assumption⟩
    · rw [bne_iff_ne.mpr hl] at h
      simp [expr_own.j0] at h
  · simp [expr_own.j0] at h
def atG {T : Type} (z : T) (e : Ex) (cols : List (List T)) (ps : List T) : T × Bool :=
  if e.f0 = 2 then (if e.f2 < (cols.length : Int) ∧ e.f3 < ((cols.getD e.f2.toNat []).length : Int) then ((cols.getD e.f2.toNat []).getD e.f3.toNat z, true) else (z, false))
  else if e.f0 = 3 then (if e.f4 ≤ (ps.length : Int) then (ps.getD (e.f4 - 1).toNat z, true) else (z, false)) else (z, true)
theorem wrap64_pred {n : Int} (h1 : 1 ≤ n) (h2 : n ≤ 4) : wrap64 (n - 1) = n - 1 := by
  rw [← i64_w]; exact IntWalk.i64_in _ (by omega)
theorem at_some {e : Ex} (h : Rt e) (cols : List (List Int)) (ps : List Int) : expr_at_int.f 1 e.f0 e.f1.f0 e.f1.f1 e.f1.f2 e.f2 e.f3 e.f4 e.f5 e.f6 cols ps = some (atG 0 e cols ps) := by
  unfold expr_at_int.f atG
  by_cases h2 : e.f0 = 2
  · obtain ⟨h3, h4, h5, h6⟩ := h.rel h2
    simp only [h2, if_true, expr_at_int.j0]
    by_cases h7 : e.f2 < (cols.length : Int)
    · have hR : rd_L4 cols e.f2 = cols.getD e.f2.toNat [] := rfl
      obtain ⟨L, hL⟩ : ∃ L, cols.getD e.f2.toNat [] = L := ⟨_, rfl⟩
      simp only [hR, hL, h3, h7, true_and, if_true]
      by_cases h8 : e.f3 < (L.length : Int)
      · simp only [h8, h5, decide_true, if_true]
        rfl
      · simp [h8]
    · simp [h7]
  · simp only [h2, if_false, expr_at_int.j0]
    by_cases h3 : e.f0 = 3
    · obtain ⟨h4, h5⟩ := h.par h3
      have hw := wrap64_pred h4 h5
      by_cases h6 : e.f4 ≤ (ps.length : Int)
      · have h7 : 0 ≤ e.f4 - 1 := by omega
        have h8 : e.f4 - 1 < (ps.length : Int) := by omega
        simp only [h3, h6, hw, h7, h8, if_true, Bool.false_eq_true, if_false]
        rfl
      · simp [h3, h6]
    · simp [h3]
def IxP (p : Int → Bool) (xs : List Int) (w : World) (r : Ending) (w' : World) : Prop := ∃ q : Int, r = .returned (.int .i64 q) ∧ (xs.any p = true ↔ 0 ≤ q) ∧ Below w.heap.size w w'
set_option maxRecDepth 100000 in
theorem indexI_ok (fid : Nat) (caps : Array Value) (p : Int → Bool) (xs : List Int) (A : Option Addr) (c : Nat) (w : World) (hC : Kd.C (Kd.int .i64) w A xs.length xs) (h63 : xs.length ≤ 9223372036854775807)
   (hcf : ∀ (args : Array Value) (W : World), (callFunc fid args).run Tryd.prog W = .ok (.enter fid args) W)
   (hstep : ∀ x W, Below w.heap.size w W → Calls Tryd.prog fid (#[.int .i64 x] ++ caps) W fun r W' => r = .returned (.bool (p x)) ∧ Below W.heap.size W W') :
   Calls Tryd.prog 92 #[.slice A xs.length c, .func (.func fid) #[] caps] w (IxP p xs w) := by
  obtain ⟨n, hn⟩ : ∃ n, xs.length = n := ⟨_, rfl⟩
  have HC := Lib.hid hC; clear hC
  have HSTEP := Lib.hid hstep; clear hstep
  rw [hn] at h63 ⊢
  have HN := Lib.hid hn; clear hn
  go_enter Tryd.func92, Tryd.ntmps92
  go_wp2_with fail
  go_loopw [8] (fun v8 wr => ∃ k : Nat, k ≤ n ∧ v8 = .int .i64 k ∧ Hid ((xs.take k).any p = false) ∧ Hid (Below w.heap.size w wr)) (fun i _ => n - (intOf i).toNat)
  case atStart => exact ⟨0, Nat.zero_le _, rfl, Lib.hid (by simp), Lib.hid (Below.refl _ _)⟩
  case round =>
    obtain ⟨k, hk, rfl, HA, HB⟩ := hrel
    by_cases hlt : k < n
    · have hlt' : (k : Int) < n := by omega
      have hxl : k < xs.length := by have := HN.out; omega
      obtain ⟨ad, rfl, hx⟩ := Kd.at_int (Kd.C_below HC.out HB.out) (k : Int) (by omega) (by have := HN.out; omega)
      have HT : Hid ((xs.take (k + 1)).any p = ((xs.take k).any p || p (rd xs k))) := Lib.hid (by
        rw [List.take_succ_eq_append_getElem hxl, List.any_append]
        simp [rd, List.getD_eq_getElem?_getD, hxl])
      have HCALL := Lib.hid (HSTEP.out (rd xs k) wr HB.out)
      obtain ⟨y, hy⟩ : ∃ y, rd xs k = y := ⟨_, rfl⟩
      rw [hy] at hx HT HCALL
      simp only [Int.toNat_natCast] at hx
      clear hy
      obtain ⟨b, hb⟩ : ∃ b, p y = b := ⟨_, rfl⟩
      rw [hb] at HCALL HT
      clear hb
      go_wp2_with fail
      refine HCALL.out.mono ?_
      rintro r W' ⟨rfl, hB'⟩
      have HB' := Lib.hid (HB.out.trans (hB'.mono HB.out.size))
      clear hB' hx
      cases b with
      | false =>
        go_wp2_with fail
        go_roundw
        case rel => exact ⟨k + 1, by omega, by go_num, Lib.hid (by rw [HT.out, HA.out]; rfl), HB'⟩
        case measure => simp [intOf]; omega
      | true =>
        go_wp2_with fail
        go_ret
        exact ⟨k, rfl, ⟨fun _ => by omega, fun _ => by
          have h1 := HT.out
          rw [Bool.or_true] at h1
          rw [← List.take_append_drop (k + 1) xs, List.any_append, h1]; rfl⟩, HB'.out⟩
    · have hlt' : ¬ (k : Int) < n := by omega
      obtain rfl : n = k := by omega
      have HA' : Hid (xs.any p = false) := by have h1 := HA.out; rw [← HN.out, List.take_length] at h1; exact Lib.hid h1
      go_wp2_with fail
      go_ret
      exact ⟨-1, rfl, by rw [HA'.out]; simp, HB.out⟩
set_option maxRecDepth 100000 in
theorem containsI_ok (fid : Nat) (caps : Array Value) (p : Int → Bool) (xs : List Int) (A : Option Addr) (c : Nat) (w : World) (hC : Kd.C (Kd.int .i64) w A xs.length xs) (h63 : xs.length ≤ 9223372036854775807)
   (hcf : ∀ (args : Array Value) (W : World), (callFunc fid args).run Tryd.prog W = .ok (.enter fid args) W)
   (hstep : ∀ x W, Below w.heap.size w W → Calls Tryd.prog fid (#[.int .i64 x] ++ caps) W fun r W' => r = .returned (.bool (p x)) ∧ Below W.heap.size W W') :
   Calls Tryd.prog 63 #[.slice A xs.length c, .func (.func fid) #[] caps] w fun r w' => r = .returned (.bool (xs.any p)) ∧ Below w.heap.size w w' := by
  have HIX := Lib.hid (indexI_ok fid caps p xs A c w hC h63 hcf hstep)
  obtain ⟨b, hb⟩ : ∃ b, xs.any p = b := ⟨_, rfl⟩
  rw [hb]
  have HBV := Lib.hid hb; clear hb
  clear hC hcf hstep
  go_enter Tryd.func63, Tryd.ntmps63
  go_wp2_with (go_at_call 92; refine HIX.out.mono ?_; rintro r W' ⟨q, rfl, hq, hB⟩)
  rw [HBV.out] at hq
  go_ret
  refine ⟨?_, hB⟩
  cases b with
  | false => simp at hq; simp [hq]
  | true => simp at hq; simp [hq]
theorem hcf64 : ∀ (args : Array Value) (W : World), (callFunc 64 args).run Tryd.prog W = .ok (.enter 64 args) W := fun args W => by go_simp
set_option maxRecDepth 100000 in
theorem isnt_ok (x want : Int) (g : Nat) (w : World) (hg : w.heap[g]? = some (.cells #[.int .i64 want] 3 (0, 0))) :
    Calls Tryd.prog 64 #[.int .i64 x, .pointer (some ⟨g, 0, none⟩)] w fun r w' => r = .returned (.bool (x != want)) ∧ Below w.heap.size w w' := by
  have hc : w.cell? ⟨g, 0, none⟩ = some (.int .i64 want) := (bkC hg 0).trans rfl
  go_enter Tryd.func64, Tryd.ntmps64
  go_wp2_with fail
  all_goals go_ret
  all_goals exact ⟨by simp_all, Below.refl _ _⟩
set_option maxRecDepth 100000 in
theorem all_ok (want : Int) (lb : Nat) (A : Option Addr) (c : Nat) (ks : List Int) (w : World) (hlb : w.heap[lb]? = some (.cells #[.slice A ks.length c] 28 (0, 0))) (hC : Kd.C (Kd.int .i64) w A ks.length ks) (h63 : ks.length ≤ 2) :
    Calls Tryd.prog 62 #[.int .i64 want, .pointer (some ⟨lb, 0, none⟩)] w fun r w' => r = .returned (.bool (ks.all (· == want))) ∧ Below w.heap.size w w' := by
  obtain ⟨b, hb⟩ : ∃ b, ks.all (· == want) = b := ⟨_, rfl⟩
  rw [hb]
  have HBV : Hid (ks.any (· != want) = !b) := Lib.hid (by rw [← hb, List.not_all_eq_any_not]; rfl)
  clear hb
  have HC := Lib.hid hC; clear hC
  go_enter Tryd.func62, Tryd.ntmps62
  go_upto_region 1 with (first | ((with_reducible refine gate_dst (N := 2) rfl ?_); refine box_event rfl (N := 2) rfl (cs := #[.int .i64 want]) (t := 3) (by first | rfl | (go_simp; done) | (go_simp; rfl)) ?_; intro g hgg w1 hbg hBg; clear hgg))
  have hcl : w1.cell? ⟨lb, 0, none⟩ = some (.slice A ks.length c) := (bkC ((hBg.block lb (blk_lt hlb)).trans hlb) 0).trans rfl
  have HCON := Lib.hid (containsI_ok 64 #[.pointer (some ⟨g, 0, none⟩)] (· != want) ks A c w1 (Kd.C_below HC.out hBg) (by omega) hcf64 (fun x W hW => isnt_ok x want g W ((hW.block g (blk_lt hbg)).trans hbg)))
  have HB := Lib.hid hBg
  rw [HBV.out] at HCON
  clear hBg hbg hlb
  go_wp2_with fail
  all_goals
    refine HCON.out.mono ?_
    rintro r w2 ⟨rfl, hB2⟩
    have HB2 := Lib.hid hB2; clear hB2
    go_wp2_with fail
    go_ret
    exact ⟨by simp, HB.out.trans (HB2.out.mono HB.out.size)⟩
def zerosE : Array Value := #[.int .i64 0, .int .i64 0, .int .i64 0, .string ⟨#[]⟩, .int .i64 0, .int .i64 0, .int .i64 0, .string ⟨#[]⟩, .slice none 0 0]
theorem info_ex (e : Ex) (A : Option Addr) (c : Nat) : (Tryd.prog.info? 26).map (·.size) = some (exC e A c).size := by
  have h : (Tryd.prog.info? 26).map (·.size) = some 9 := by kernel_rfl
  rw [h]; rfl
theorem one_ex (e : Ex) (A : Option Addr) (c : Nat) : (exC e A c).all (·.oneCell') = true := by simp [exC, Value.oneCell']
def kindFin (op : Int) : Option (List Int) → Int × Bool
  | none => (0, false)
  | some ks => if op ≤ 8 then (1, ks.all (· == 1)) else if op ≤ 14 then (2, decide (ks.length < 2) || ks.getD 0 0 == ks.getD 1 0) else if op = 18 then (2, true) else (2, ks.all (· == 2))
mutual
def kindF : Ex → List (List Int) → List Int → Int × Bool
  | ⟨f0, f1, f2, f3, f4, f5, f6⟩, cols, ps => if f0 = 1 then (f1.f0, true) else if f0 = 2 ∨ f0 = 3 then atG 0 ⟨f0, f1, f2, f3, f4, f5, f6⟩ cols ps else kindFin f0 (kindL f6 cols ps)
def kindL : List Ex → List (List Int) → List Int → Option (List Int)
  | [], _, _ => some []
  | x :: xs, cols, ps => if (kindF x cols ps).2 = true then (kindL xs cols ps).map (fun ks => if (kindF x cols ps).1 = 0 then ks else (kindF x cols ps).1 :: ks) else none
end
theorem kindF_eq (e : Ex) (cols : List (List Int)) (ps : List Int) : kindF e cols ps = if e.f0 = 1 then (e.f1.f0, true) else if e.f0 = 2 ∨ e.f0 = 3 then atG 0 e cols ps else kindFin e.f0 (kindL e.f6 cols ps) := by
  cases e; rw [kindF]
theorem kindL_snoc (l : List Ex) (x : Ex) (cols : List (List Int)) (ps : List Int) : kindL (l ++ [x]) cols ps = (kindL l cols ps).bind fun ks => if (kindF x cols ps).2 = true then some (if (kindF x cols ps).1 = 0 then ks else ks ++ [(kindF x cols ps).1]) else none := by
  induction l with
  | nil => simp only [List.nil_append, kindL]; split <;> simp
  | cons y l ih =>
    simp only [List.cons_append, kindL, ih]
    split
    · cases kindL l cols ps with
      | none => rfl
      | some ks =>
        simp only [Option.bind_some, Option.map_some]
        split <;> split <;> simp
        all_goals split <;> simp_all
    · rfl
theorem kindL_none (l : List Ex) (k : Nat) (cols : List (List Int)) (ps : List Int) (h : kindL (l.take k) cols ps = none) : kindL l cols ps = none := by
  induction l generalizing k with
  | nil => simpa using h
  | cons y l ih =>
    cases k with
    | zero => simp [kindL] at h
    | succ k =>
      simp only [List.take_succ_cons, kindL] at h ⊢
      split at h
      · rename_i h1
        rw [if_pos h1]
        rw [ih k (by simpa using h)]; rfl
      · rename_i h1
        rw [if_neg h1]
def KindP (q : Int × Bool) (w : World) (r : Ending) (w' : World) : Prop := r = .returned (.tuple #[.int .i64 q.1, .bool q.2]) ∧ Below w.heap.size w w'
def KindOk (e : Ex) : Prop := ∀ (A A1 A2 : Option Addr) (c c1 c2 : Nat) (cols : List (List Int)) (ps : List Int) (w : World), Rt e → Kd.C k26 w A e.f6.length e.f6 → e.f6.length ≤ c → Kd.C (Kd.slice 3 (Kd.int .i64)) w A1 cols.length cols → cols.length ≤ c1 → Kd.C (Kd.int .i64) w A2 ps.length ps → ps.length ≤ c2 →
  Calls Tryd.prog 39 #[.agg (exC e A c), .slice A1 cols.length c1, .slice A2 ps.length c2] w (KindP (kindF e cols ps) w)
theorem upto2 {ks : List Int} (h : ks.length ≤ 2) : ks = [] ∨ (∃ y, ks = [y]) ∨ ∃ y z, ks = [y, z] := by
  match ks, h with
  | [], _ => exact .inl rfl
  | [y], _ => exact .inr (.inl ⟨y, rfl⟩)
  | [y, z], _ => exact .inr (.inr ⟨y, z, rfl⟩)
structure KInv (w0 : World) (g lb : Nat) (e : Ex) (A : Option Addr) (c : Nat) (cols : List (List Int)) (ps : List Int) (k : Nat) (v : Value) (ks : List Int) (w : World) : Prop where
  below : Below w0.heap.size w0 w
  hlb : w0.heap.size ≤ lb
  bg : w.heap[g]? = some (.cells (exC e A c) 26 (0, 0))
  bl : w.heap[lb]? = some (.cells #[v] 28 (0, 0))
  got : kindL (e.f6.take k) cols ps = some ks
  le : ks.length ≤ k
  own : Kd.R (Kd.int .i64) 3 w w0.heap.size (fun _ => True) v ks
set_option maxHeartbeats 2000000 in
set_option maxRecDepth 100000 in
theorem kind_step (e : Ex) (ih : ∀ x ∈ e.f6, KindOk x) : KindOk e := by
  intro A A1 A2 c c1 c2 cols ps w hRt hC hc hC1 hc1 hC2 hc2
  have IH := Lib.hid ih; have HC := Lib.hid hC; have HC1 := Lib.hid hC1; have HC2 := Lib.hid hC2; have HRT := Lib.hid hRt
  clear ih hC hC1 hC2 hRt
  obtain ⟨q, hq⟩ : ∃ q, kindF e cols ps = q := ⟨_, rfl⟩
  rw [hq]
  rw [kindF_eq] at hq
  have HQ := Lib.hid hq.symm; clear hq
  unfold exC
  go_enter Tryd.func39, Tryd.ntmps39
  go_upto_region 1 with (first | ((with_reducible refine gate_dst (N := 3) rfl ?_); refine box_event rfl (N := 3) rfl (cs := exC e A c) (t := 26) (by first | rfl | (go_simp; done) | (go_simp; rfl)) ?_; intro g hgg w1 hbg hBg;  clear hgg))
  obtain ⟨hz0, hz1, hz2, hz3, hz4, hz5, hz6, hz7, hz8⟩ := bkC9 hbg
  have HB := Lib.hid hBg
  by_cases h1 : e.f0 = 1
  · have HQ2 : Hid (q = (e.f1.f0, true)) := by have := HQ.out; rw [if_pos h1] at this; exact this
    clear hbg hBg
    replace h1 : (e.f0 == 1) = true := beq_iff_eq.mpr h1
    go_wp2_with fail
    go_ret2
    exact ⟨by rw [HQ2.out]; rfl, HB.out⟩
  · by_cases h23 : e.f0 = 2 ∨ e.f0 = 3
    · have HQ2 : Hid (q = atG 0 e cols ps) := by have := HQ.out; rw [if_neg h1, if_pos h23] at this; exact this
      have hat : expr_at_int.f 1 e.f0 e.f1.f0 e.f1.f1 e.f1.f2 e.f2 e.f3 e.f4 e.f5 e.f6 cols ps = some (q.1, q.2) := by
        rw [at_some HRT.out, ← HQ2.out]
      have hk1 := Kd.C_below HC1.out hBg
      have hk2 := Kd.C_below HC2.out hBg
      have hk0 := Kd.C_below HC.out hBg
      have HAT := Lib.hid (expr_at_int.calls 1 e.f0 e.f1.f0 e.f1.f1 e.f1.f2 e.f2 e.f3 e.f4 e.f5 A c e.f6 A1 c1 cols A2 c2 ps q.1 q.2 w1 hk0 hc hk1 hc1 hk2 hc2 hat)
      clear hat hk1 hk2 hk0
      clear hbg hBg
      replace h1 : (e.f0 == 1) = false := beq_eq_false_iff_ne.mpr h1
      have h24 : (e.f0 == 2) = true ∨ ((e.f0 == 2) = false ∧ (e.f0 == 3) = true) := by
        by_cases h2 : e.f0 = 2
        · exact .inl (beq_iff_eq.mpr h2)
        · exact .inr ⟨beq_eq_false_iff_ne.mpr h2, beq_iff_eq.mpr (h23.resolve_left h2)⟩
      clear h23
      rcases h24 with h2 | ⟨h2, h3⟩
      all_goals
        go_wp2_with (go_at_call 37; refine HAT.out.mono ?_; rintro r w2 ⟨rfl, hB2⟩)
        go_ret2
        exact ⟨rfl, HB.out.trans (hB2.mono HB.out.size)⟩
    · have HQ2 : Hid (q = kindFin e.f0 (kindL e.f6 cols ps)) := by have := HQ.out; rw [if_neg h1, if_neg h23] at this; exact this
      have h2 : (e.f0 == 2) = false := beq_eq_false_iff_ne.mpr fun h => h23 (.inl h)
      have h3 : (e.f0 == 3) = false := beq_eq_false_iff_ne.mpr fun h => h23 (.inr h)
      replace h1 : (e.f0 == 1) = false := beq_eq_false_iff_ne.mpr h1
      clear h23
      go_upto_region 8 with (first | ((with_reducible refine gate_dst (N := 8) rfl ?_); refine box_event rfl (N := 8) rfl (cs := #[.slice none 0 0]) (t := 28) (by first | rfl | (go_simp; done) | (go_simp; rfl)) ?_; intro lb hgg w2 hblb hBlb;  have hlb : w.heap.size ≤ lb := (by have := HB.out.size; omega); clear hgg))
      have hK0 : KInv w g lb e A c cols ps 0 (.slice none 0 0) [] w2 := ⟨HB.out.trans (hBlb.mono HB.out.size), hlb, (hBlb.block g (blk_lt hbg)).trans hbg, hblb, by simp [kindL], by simp, Kd.R_nil _ _ _ _ _⟩
      clear hz0 hz1 hz2 hz3 hz4 hz5 hz6 hz7 hz8 hbg hBg hblb hBlb
      have HK0 := Lib.hid hK0; clear hK0
      obtain ⟨hz0, hz1, hz2, hz3, hz4, hz5, hz6, hz7, hz8⟩ := bkC9 HK0.out.bg
      have HLN : Hid (e.f6.length ≤ 2) := HRT.out.len
      obtain ⟨n, hn⟩ : ∃ n, e.f6.length = n := ⟨_, rfl⟩
      have HN := Lib.hid hn
      have hn2 : n ≤ 2 := by have h : e.f6.length ≤ 2 := HLN.out; omega
      go_wp2_with fail
      go_loopw [33] (fun v33 wr => ∃ (k : Nat) (v : Value) (ks : List Int), k ≤ n ∧ v33 = .int .i64 k ∧ Hid (KInv w g lb e A c cols ps k v ks wr)) (fun i _ => n - (intOf i).toNat)
      case atStart => exact ⟨0, _, _, Nat.zero_le _, rfl, HK0⟩
      case round =>
        obtain ⟨k, v, ks, hk, rfl, HK⟩ := hrel
        clear hz0 hz1 hz2 hz3 hz4 hz5 hz6 hz7 hz8
        by_cases hlt : k < n
        · have hlt' : (k : Int) < n := by omega
          rw [hn] at HC
          obtain ⟨ad, A8, c8, x, rfl, HE, h0, h1, h2, h3, h4, h5, h6, h7, h8, hc8, hC8⟩ := at_ex HC.out hn k hlt
          replace HE := Lib.hid HE
          have HC8 := Lib.hid hC8; clear hC8
          replace h0 := pw_cell_below HK.out.below h0; replace h1 := pw_cell_below HK.out.below h1; replace h2 := pw_cell_below HK.out.below h2; replace h3 := pw_cell_below HK.out.below h3; replace h4 := pw_cell_below HK.out.below h4; replace h5 := pw_cell_below HK.out.below h5; replace h6 := pw_cell_below HK.out.below h6; replace h7 := pw_cell_below HK.out.below h7; replace h8 := pw_cell_below HK.out.below h8
          have hx : x ∈ e.f6 := by have h := HE.out; rw [List.getElem?_eq_some_iff] at h; obtain ⟨h, h'⟩ := h; exact h' ▸ List.getElem_mem h
          have HT : Hid (kindL (e.f6.take (k + 1)) cols ps = if (kindF x cols ps).2 = true then some (if (kindF x cols ps).1 = 0 then ks else ks ++ [(kindF x cols ps).1]) else none) := by
            have h := HE.out; rw [List.getElem?_eq_some_iff] at h; obtain ⟨h, h'⟩ := h
            rw [List.take_succ_eq_append_getElem h, kindL_snoc, HK.out.got, h']; exact Lib.hid rfl
          have HRX := Lib.hid (HRT.out.kid hx)
          have IHX := Lib.hid (IH.out x hx)
          clear hx HE
          go_upto_region 11 with (first | ((with_reducible refine gate_dst (N := 10) rfl ?_); refine box_event rfl (N := 10) rfl (cs := zerosE) (t := 26) (by first | rfl | (go_simp; done) | (go_simp; rfl)) ?_; intro xb hgg w3 hbxb hBxb;  have hxg : g ≠ xb := (by have := blk_lt HK.out.bg; omega); have hxl : lb ≠ xb := (by have := blk_lt HK.out.bl; omega); have hxr : wr.heap.size ≤ xb := (by omega); clear hgg) | ((with_reducible refine gate_store (p := 10) (v := .tmp 36) rfl ?_); refine wpList_store_row rfl 26 (.tmp 10) (.tmp 36) rfl xb (exC x A8 c8) rfl rfl 26 zerosE hbxb (info_ex _ _ _) rfl (one_ex _ _ _) ?_))
          clear h0 h1 h2 h3 h4 h5 h6 h7 h8
          have hx4 := setRow_at w3 xb _ zerosE (exC x A8 c8) hbxb
          have hB4 : Below wr.heap.size wr (w3.setRow xb (exC x A8 c8)) := below_setRow' hBxb hxr _
          generalize w3.setRow xb (exC x A8 c8) = w4 at hx4 hB4 ⊢
          have HK4 : Hid (KInv w g lb e (some ad) c cols ps k v ks w4) := ⟨HK.out.below.trans (hB4.mono HK.out.below.size), HK.out.hlb, (hB4.block g (blk_lt HK.out.bg)).trans HK.out.bg, (hB4.block lb (blk_lt HK.out.bl)).trans HK.out.bl, HK.out.got, HK.out.le, Kd.R_below HK.out.own hB4⟩
          obtain ⟨hz0, hz1, hz2, hz3, hz4, hz5, hz6, hz7, hz8⟩ := bkC9 hx4
          have HCALL := Lib.hid (IHX.out A8 A1 A2 c8 c1 c2 cols ps w4 HRX.out (Kd.C_below HC8.out HK4.out.below) hc8 (Kd.C_below HC1.out HK4.out.below) hc1 (Kd.C_below HC2.out HK4.out.below) hc2)
          obtain ⟨p, hp⟩ : ∃ p, kindF x cols ps = p := ⟨_, rfl⟩
          rw [hp] at HCALL HT
          clear hp
          obtain ⟨p1, p2⟩ := p
          clear hbxb hBxb HK hx4 hB4
          go_upto_region 12 with (go_at_call 39; refine HCALL.out.mono ?_; rintro r w5 ⟨rfl, hB5⟩)
          have HK5 : Hid (KInv w g lb e (some ad) c cols ps k v ks w5) := ⟨HK4.out.below.trans (hB5.mono HK4.out.below.size), HK4.out.hlb, (hB5.block g (blk_lt HK4.out.bg)).trans HK4.out.bg, (hB5.block lb (blk_lt HK4.out.bl)).trans HK4.out.bl, HK4.out.got, HK4.out.le, Kd.R_below HK4.out.own hB5⟩
          clear HK4 hB5 hz0 hz1 hz2 hz3 hz4 hz5 hz6 hz7 hz8 HCALL
          cases p2 with
          | false =>
            have HT2 : Hid (q = (0, false)) := by
              have h := kindL_none _ _ _ _ HT.out
              have h2 := HQ2.out
              rw [h] at h2; exact Lib.hid h2
            go_wp2_with fail
            go_ret2
            exact ⟨by rw [HT2.out]; rfl, HK5.out.below⟩
          | true =>
            by_cases hp1 : p1 = 0
            · have HT2 : Hid (kindL (e.f6.take (k + 1)) cols ps = some ks) := by have h := HT.out; rw [if_pos hp1] at h; exact Lib.hid h
              replace hp1 : (p1 != 0) = false := bne_eq_false_iff_eq.mpr hp1
              go_wp2_with fail
              go_roundw
              case rel => exact ⟨k + 1, v, ks, by omega, by go_num, ⟨HK5.out.below, HK5.out.hlb, HK5.out.bg, HK5.out.bl, HT2.out, by have := HK5.out.le; omega, HK5.out.own⟩⟩
              case measure => simp [intOf]; omega
            · have HT2 : Hid (kindL (e.f6.take (k + 1)) cols ps = some (ks ++ [p1])) := by have h := HT.out; rw [if_neg hp1] at h; exact Lib.hid h
              replace hp1 : (p1 != 0) = true := bne_iff_ne.mpr hp1
              obtain ⟨A5, c5, rfl, -, -⟩ := Kd.R_reads HK5.out.own
              have hgl : g ≠ lb := by intro h; have h1 := HK5.out.bg; rw [h, HK5.out.bl] at h1; simp at h1
              have hlc : w5.cell? ⟨lb, 0, none⟩ = some (.slice A5 ks.length c5) := (bkC HK5.out.bl 0).trans rfl
              have hkl : ks.length ≤ 2 := by have := HK5.out.le; omega
              obtain ⟨zs, hzs⟩ : ∃ zs, ks ++ [p1] = zs := ⟨_, rfl⟩
              have HZ := Lib.hid hzs
              rw [hzs] at HT2
              clear hzs
              go_wp2_with ((with_reducible refine gate_builtin (b := .append) (xs := #[.tmp 48, .tmp 50]) rfl ?_); at_builtin; refine Kd.R_append (Kd.int .i64) (w0 := w) w.heap.size rfl (.tmp 48) (.tmp 50) 28 3 (.int .i64 0) 8 rfl Tryd.underlying28 info3 rfl (by decide) (by omega) (.slice A5 ks.length c5) ks p1 [.int .i64 p1] (fun _ => True) (fun _ => False) rfl rfl ?aP (fun _ hk => hk.elim) ?aF ?aO ?aB ?aS ?aL ?_; (case aP => exact rfl); (case aB => exact HK5.out.below); (case aF => exact (fun _ _ => trivial)); (case aO => exact HK5.out.own); (case aS => exact HK5.out.below.size); (case aL => omega); intro v1 w6 ho hb hg hat; rw [HZ.out] at ho; obtain ⟨A6, c6, rfl, -, -⟩ := Kd.R_reads ho; have hl6 := blk_grown (g := lb) (o := .cells #[.slice A5 ks.length c5] 28 (0, 0)) HK5.out.bl hg (Kd.R_ne HK5.out.own HK5.out.bl (by decide)); have hg6 := blk_grown (g := g) HK5.out.bg hg (Kd.R_ne HK5.out.own HK5.out.bg (by decide)); have hlc6 := bkF hl6 0; have hld6 : w6.cell? ⟨lb, 0, none⟩ = some (.slice A5 ks.length c5) := (bkC hl6 0).trans rfl; have HO6 := Lib.hid ho; have HB6 := Lib.hid hb; clear ho hb hg hat hlc)
              have hls : (w6.setCell ⟨lb, 0, none⟩ (.slice A6 zs.length c6)).heap[lb]? = some (.cells #[.slice A6 zs.length c6] 28 (0, 0)) := blk_set hl6 0 _
              have hzl : zs.length ≤ k + 1 := by rw [← HZ.out]; have := HK5.out.le; simp; omega
              go_roundw
              case rel => exact ⟨k + 1, .slice A6 zs.length c6, zs, by omega, by go_num, ⟨HB6.out.setCell (p := ⟨lb, 0, none⟩) HK5.out.hlb _, HK5.out.hlb, blk_far hg6 hgl _, hls, HT2.out, hzl, Kd.R_set HO6.out hl6 (fun q hq => (List.mem_cons.1 hq).elim (fun h => h ▸ (by decide)) (fun h => absurd (show q ∈ [] from h) (by simp))) 0 _⟩⟩
              case measure => simp [intOf]; omega
        · have hlt' : ¬ (k : Int) < n := by omega
          obtain rfl : n = k := by omega
          have HQ3 : Hid (q = kindFin e.f0 (some ks)) := by
            have h := HQ2.out
            have h' := HK.out.got
            rw [← HN.out, List.take_length] at h'
            rw [h'] at h; exact Lib.hid h
          have hkl : ks.length ≤ 2 := by have := HK.out.le; omega
          obtain ⟨A5, c5, rfl, -, hC5⟩ := Kd.R_reads HK.out.own
          have HC5 := Lib.hid hC5
          have HALL : ∀ want : Int, Hid (Calls Tryd.prog 62 #[.int .i64 want, .pointer (some ⟨lb, 0, none⟩)] wr fun r w' => r = .returned (.bool (ks.all (· == want))) ∧ Below wr.heap.size wr w') := fun want => Lib.hid (all_ok want lb A5 c5 ks wr HK.out.bl hC5 hkl)
          have HALL1 := HALL 1
          have HALL2 := HALL 2
          clear HALL hC5 HQ HQ2
          obtain ⟨hz0, hz1, hz2, hz3, hz4, hz5, hz6, hz7, hz8⟩ := bkC9 HK.out.bg
          by_cases h8 : e.f0 ≤ 8
          · have HQ4 : Hid (q = (1, ks.all (· == 1))) := by have h := HQ3.out; simp only [kindFin, if_pos h8] at h; exact Lib.hid h
            go_wp2_with (refine HALL1.out.mono ?_; rintro r w6 ⟨rfl, hB6⟩)
            go_ret2
            exact ⟨by rw [HQ4.out]; rfl, HK.out.below.trans (hB6.mono HK.out.below.size)⟩
          · by_cases h14 : e.f0 ≤ 14
            · have HQ4 : Hid (q = (2, decide (ks.length < 2) || ks.getD 0 0 == ks.getD 1 0)) := by have h := HQ3.out; simp only [kindFin, if_neg h8, if_pos h14] at h; exact Lib.hid h
              have hlc : wr.cell? ⟨lb, 0, none⟩ = some (.slice A5 ks.length c5) := (bkC HK.out.bl 0).trans rfl
              obtain rfl | ⟨y, rfl⟩ | ⟨y, z, rfl⟩ := upto2 hkl
              · replace hlc : wr.cell? ⟨lb, 0, none⟩ = some (.slice A5 0 c5) := hlc
                clear HALL1 HALL2
                go_upto_region 21 with (fail)
                go_region
                go_wp2_with fail
                go_ret2
                exact ⟨by rw [HQ4.out]; rfl, pbN HK.out.below 1⟩
              · replace hlc : wr.cell? ⟨lb, 0, none⟩ = some (.slice A5 1 c5) := hlc
                clear HALL1 HALL2
                go_upto_region 21 with (fail)
                go_region
                go_wp2_with fail
                go_ret2
                exact ⟨by rw [HQ4.out]; rfl, pbN HK.out.below 1⟩
              · obtain ⟨ad, rfl, hy⟩ := Kd.at_int HC5.out 0 (by omega) (by simp)
                obtain ⟨ad', hz, hz'⟩ := Kd.at_int HC5.out 1 (by omega) (by simp)
                obtain rfl := Option.some.inj hz
                obtain ⟨g5, rfl⟩ := Kd.R_head HK.out.own
                clear hz HALL1 HALL2
                replace hlc : wr.cell? ⟨lb, 0, none⟩ = some (.slice (some ⟨g5, 0, none⟩) 2 c5) := hlc
                replace hy : wr.cell? ⟨g5, 0, none⟩ = some (.int .i64 y) := by rw [add_plain] at hy; exact hy
                replace hz' : wr.cell? ⟨g5, 1, none⟩ = some (.int .i64 z) := by rw [add_plain] at hz'; exact hz'
                go_upto_region 21 with (fail)
                go_region
                go_wp2_with fail
                go_ret2
                exact ⟨by rw [HQ4.out]; rfl, pbN HK.out.below 1⟩
            · by_cases h18 : e.f0 = 18
              · have HQ4 : Hid (q = (2, true)) := by have h := HQ3.out; simp only [kindFin, if_neg h8, if_neg h14, if_pos h18] at h; exact Lib.hid h
                replace h18 : (e.f0 == 18) = true := beq_iff_eq.mpr h18
                clear HALL1 HALL2
                go_wp2_with fail
                go_ret2
                exact ⟨by rw [HQ4.out]; rfl, HK.out.below⟩
              · have HQ4 : Hid (q = (2, ks.all (· == 2))) := by have h := HQ3.out; simp only [kindFin, if_neg h8, if_neg h14, if_neg h18] at h; exact Lib.hid h
                replace h18 : (e.f0 == 18) = false := beq_eq_false_iff_ne.mpr h18
                go_wp2_with (refine HALL2.out.mono ?_; rintro r w6 ⟨rfl, hB6⟩)
                go_ret2
                exact ⟨by rw [HQ4.out]; rfl, HK.out.below.trans (hB6.mono HK.out.below.size)⟩
theorem kind_ok : ∀ (N : Nat) (e : Ex), SizeOf.sizeOf e < N → KindOk e := by
  intro N
  induction N with
  | zero => intro e h; omega
  | succ N ih =>
    intro e h
    refine kind_step e fun x hx => ih x ?_
    have h1 := List.sizeOf_lt_of_mem hx
    have h2 : SizeOf.sizeOf e.f6 < SizeOf.sizeOf e := by cases e; simp; omega
    omega
def lackK (cols : List (List Int)) (ps : List Int) (e : Ex) (_ : Unit) : Bool × Unit := (!(atG 0 e cols ps).2 || (decide ((atG 0 e cols ps).1 < 0) || decide ((atG 0 e cols ps).1 > 3)), ())
def kindRes (e : Ex) (cols : List (List Int)) (ps : List Int) : Int × Int :=
  if rightB e = true then (if (someF (lackK cols ps) e ()).1 = true then (0, 1) else if (kindF e cols ps).2 = true then ((kindF e cols ps).1, 0) else (0, 9)) else (0, 1)
theorem hcf36 : ∀ (args : Array Value) (W : World), (callFunc 36 args).run Tryd.prog W = .ok (.enter 36 args) W := fun args W => by go_simp
structure CEnv (w0 : World) (b1 b2 : Nat) (A1 A2 : Option Addr) (n1 n2 c1 c2 : Nat) (t1 t2 : Nat) (w : World) : Prop where
  below : Below w0.heap.size w0 w
  h1 : w.heap[b1]? = some (.cells #[.slice A1 n1 c1] t1 (0, 0))
  h2 : w.heap[b2]? = some (.cells #[.slice A2 n2 c2] t2 (0, 0))
theorem CEnv.later {w0 w w' : World} {b1 b2 : Nat} {A1 A2 : Option Addr} {n1 n2 c1 c2 t1 t2 : Nat} (h : CEnv w0 b1 b2 A1 A2 n1 n2 c1 c2 t1 t2 w) (k : Below w.heap.size w w') : CEnv w0 b1 b2 A1 A2 n1 n2 c1 c2 t1 t2 w' :=
  ⟨h.below.trans (k.mono h.below.size), (k.block b1 (blk_lt h.h1)).trans h.h1, (k.block b2 (blk_lt h.h2)).trans h.h2⟩
set_option maxRecDepth 100000 in
theorem lackK_ok (w0 : World) (b1 b2 : Nat) (A1 A2 : Option Addr) (c1 c2 : Nat) (cols : List (List Int)) (ps : List Int) (e : Ex) (A : Option Addr) (c : Nat) (w : World) (hRt : Rt e) (hC : Kd.C k26 w0 A e.f6.length e.f6) (hc : e.f6.length ≤ c) (hC1 : Kd.C (Kd.slice 3 (Kd.int .i64)) w0 A1 cols.length cols) (hc1 : cols.length ≤ c1) (hC2 : Kd.C (Kd.int .i64) w0 A2 ps.length ps) (hc2 : ps.length ≤ c2)
    (hE : CEnv w0 b1 b2 A1 A2 cols.length ps.length c1 c2 27 28 w) :
    Calls Tryd.prog 36 #[.agg (exC e A c), .pointer (some ⟨b1, 0, none⟩), .pointer (some ⟨b2, 0, none⟩)] w fun r w' => r = .returned (.bool (lackK cols ps e ()).1) ∧ Below w.heap.size w w' := by
  unfold exC lackK
  obtain ⟨q, hq⟩ : ∃ q, atG 0 e cols ps = q := ⟨_, rfl⟩
  rw [hq]
  have hat : expr_at_int.f 1 e.f0 e.f1.f0 e.f1.f1 e.f1.f2 e.f2 e.f3 e.f4 e.f5 e.f6 cols ps = some (q.1, q.2) := by
    rw [at_some hRt, hq]
  have HC := Lib.hid hC; have HC1 := Lib.hid hC1; have HC2 := Lib.hid hC2; have HE := Lib.hid hE; have HAT0 := Lib.hid hat
  clear hq hRt hC hC1 hC2 hE hat
  go_enter Tryd.func36, Tryd.ntmps36
  go_upto_region 1 with (first | ((with_reducible refine gate_dst (N := 3) rfl ?_); refine box_event rfl (N := 3) rfl (cs := exC e A c) (t := 26) (by first | rfl | (go_simp; done) | (go_simp; rfl)) ?_; intro g hgg w1 hbg hBg;  clear hgg))
  obtain ⟨hz0, hz1, hz2, hz3, hz4, hz5, hz6, hz7, hz8⟩ := bkC9 hbg
  have HE1 := Lib.hid (HE.out.later hBg)
  have HB := Lib.hid hBg
  have hd1 : w1.cell? ⟨b1, 0, none⟩ = some (.slice A1 cols.length c1) := (bkC HE1.out.h1 0).trans rfl
  have hd2 : w1.cell? ⟨b2, 0, none⟩ = some (.slice A2 ps.length c2) := (bkC HE1.out.h2 0).trans rfl
  have HAT := Lib.hid (expr_at_int.calls 1 e.f0 e.f1.f0 e.f1.f1 e.f1.f2 e.f2 e.f3 e.f4 e.f5 A c e.f6 A1 c1 cols A2 c2 ps q.1 q.2 w1 (Kd.C_below HC.out HE1.out.below) hc (Kd.C_below HC1.out HE1.out.below) hc1 (Kd.C_below HC2.out HE1.out.below) hc2 HAT0.out)
  obtain ⟨q1, q2⟩ := q
  clear hbg hBg
  go_upto_region 2 with (go_at_call 37; refine HAT.out.mono ?_; rintro r w2 ⟨rfl, hB2⟩)
  have HB2 := Lib.hid (HB.out.trans (hB2.mono HB.out.size))
  clear hB2 HE1 hd1 hd2 hz0 hz1 hz2 hz3 hz4 hz5 hz6 hz7 hz8
  cases q2 with
  | false =>
    go_wp2_with fail
    go_ret
    exact ⟨rfl, HB2.out⟩
  | true =>
    by_cases h1 : q1 < 0
    · have hr : (!true || (decide (q1 < 0) || decide (q1 > 3))) = true := by simp [h1]
      have HR := Lib.hid hr.symm; clear hr
      go_wp2_with fail
      go_ret
      exact ⟨by first | exact rfl | exact congrArg (fun b => Ending.returned (.bool b)) HR.out, HB2.out⟩
    · by_cases h2 : 3 < q1
      · have hr : (!true || (decide (q1 < 0) || decide (q1 > 3))) = true := by simp [h2]
        have HR := Lib.hid hr.symm; clear hr
        go_wp2_with fail
        go_ret
        exact ⟨by first | exact rfl | exact congrArg (fun b => Ending.returned (.bool b)) HR.out, HB2.out⟩
      · have hr : (!true || (decide (q1 < 0) || decide (q1 > 3))) = false := by simp; omega
        have HR := Lib.hid hr.symm; clear hr
        go_wp2_with fail
        go_ret
        exact ⟨by first | exact rfl | exact congrArg (fun b => Ending.returned (.bool b)) HR.out, HB2.out⟩
theorem lackK_env (w0 : World) (b1 b2 : Nat) (A1 A2 : Option Addr) (c1 c2 : Nat) (cols : List (List Int)) (ps : List Int) (hC1 : Kd.C (Kd.slice 3 (Kd.int .i64)) w0 A1 cols.length cols) (hc1 : cols.length ≤ c1) (hC2 : Kd.C (Kd.int .i64) w0 A2 ps.length ps) (hc2 : ps.length ≤ c2) :
    SomeEnv w0 none 36 #[.pointer (some ⟨b1, 0, none⟩), .pointer (some ⟨b2, 0, none⟩)] (lackK cols ps) (fun _ W => CEnv w0 b1 b2 A1 A2 cols.length ps.length c1 c2 27 28 W) where
  run := hcf36
  base _ _ h := h.below
  old _ _ _ _ h := by cases h
  later _ _ _ h k := h.later k
  one e A c s W hRt hR hc hC := (lackK_ok w0 b1 b2 A1 A2 c1 c2 cols ps e A c W hRt hC hc hC1 hc1 hC2 hc2 hR).mono (by
    rintro r W' ⟨rfl, h⟩
    exact ⟨rfl, hR.later h, Fr.of h⟩)
set_option maxHeartbeats 1000000 in
set_option maxRecDepth 100000 in
theorem Kind_ok (e : Ex) (A A1 A2 : Option Addr) (c c1 c2 : Nat) (cols : List (List Int)) (ps : List Int) (w : World) (hC : Kd.C k26 w A e.f6.length e.f6) (hc : e.f6.length ≤ c) (hC1 : Kd.C (Kd.slice 3 (Kd.int .i64)) w A1 cols.length cols) (hc1 : cols.length ≤ c1) (hC2 : Kd.C (Kd.int .i64) w A2 ps.length ps) (hc2 : ps.length ≤ c2) :
    Calls Tryd.prog 12 #[.agg (exC e A c), .slice A1 cols.length c1, .slice A2 ps.length c2] w fun r w' => r = .returned (.tuple #[.int .i64 (kindRes e cols ps).1, .int .i64 (kindRes e cols ps).2]) ∧ Below w.heap.size w w' := by
  have HC := Lib.hid hC; have HC1 := Lib.hid hC1; have HC2 := Lib.hid hC2
  clear hC hC1 hC2
  obtain ⟨b, hb⟩ : ∃ b, kindRes e cols ps = b := ⟨_, rfl⟩
  rw [hb]
  have HBV := Lib.hid hb.symm; clear hb
  unfold exC
  go_enter Tryd.func12, Tryd.ntmps12
  go_upto_region 1 with (first | ((with_reducible refine gate_dst (N := 3) rfl ?_); refine box_event rfl (N := 3) rfl (cs := exC e A c) (t := 26) (by first | rfl | (go_simp; done) | (go_simp; rfl)) ?_; intro g hgg w1 hbg hBg;  clear hgg) | ((with_reducible refine gate_dst (N := 4) rfl ?_); refine box_event rfl (N := 4) rfl (cs := #[.slice A1 cols.length c1]) (t := 27) (by first | rfl | (go_simp; done) | (go_simp; rfl)) ?_; intro g1 hgg w2 hbg1 hBg1;  clear hgg) | ((with_reducible refine gate_dst (N := 5) rfl ?_); refine box_event rfl (N := 5) rfl (cs := #[.slice A2 ps.length c2]) (t := 28) (by first | rfl | (go_simp; done) | (go_simp; rfl)) ?_; intro g2 hgg w3 hbg2 hBg2;  clear hgg))
  have hg3 := (hBg2.block g (by have := hBg1.size; have := blk_lt hbg; omega)).trans ((hBg1.block g (blk_lt hbg)).trans hbg)
  have hg13 := (hBg2.block g1 (blk_lt hbg1)).trans hbg1
  have hB3 : Below w.heap.size w w3 := hBg.trans ((hBg1.trans (hBg2.mono hBg1.size)).mono hBg.size)
  have HE3 : Hid (CEnv w g1 g2 A1 A2 cols.length ps.length c1 c2 27 28 w3) := ⟨hB3, hg13, hbg2⟩
  clear hbg hBg hbg1 hBg1 hbg2 hBg2
  obtain ⟨hz0, hz1, hz2, hz3, hz4, hz5, hz6, hz7, hz8⟩ := bkC9 hg3
  have HCR := Lib.hid (right_ok e A c w3 (Kd.C_below HC.out hB3) hc)
  unfold exC at HCR
  go_wp2_with fail
  refine HCR.out.mono ?_
  obtain ⟨rb, hrb⟩ : ∃ rb, rightB e = rb := ⟨_, rfl⟩
  rw [hrb]
  have HRB := Lib.hid hrb; clear hrb
  rintro r w4 ⟨rfl, hB4⟩
  have HE4 := Lib.hid (HE3.out.later hB4)
  clear hz0 hz1 hz2 hz3 hz4 hz5 hz6 hz7 hz8
  have hg4 := (hB4.block g (blk_lt hg3)).trans hg3
  clear hB3 hB4 hg3 hg13
  cases rb with
  | false =>
    have HQ2 : Hid (b = (0, 1)) := by have := HBV.out; show _ = _; rw [this]; unfold kindRes; rw [HRB.out]; rfl
    go_wp2_with fail
    go_ret2
    exact ⟨by rw [HQ2.out]; rfl, HE4.out.below⟩
  | true =>
    have HRT := Lib.hid (Rt.of HRB.out)
    obtain ⟨hz0, hz1, hz2, hz3, hz4, hz5, hz6, hz7, hz8⟩ := bkC9 hg4
    have HSM := Lib.hid (some_ok (lackK_env w g1 g2 A1 A2 c1 c2 cols ps HC1.out hc1 HC2.out hc2) _ e (Nat.lt_succ_self _) A c () w4 HRT.out HE4.out hc HC.out)
    unfold exC at HSM
    obtain ⟨q, hq⟩ : ∃ q, (someF (lackK cols ps) e ()) = q := ⟨_, rfl⟩
    rw [hq] at HSM
    have HQ2 : Hid (b = if q.1 = true then (0, 1) else if (kindF e cols ps).2 = true then ((kindF e cols ps).1, 0) else (0, 9)) := by have := HBV.out; show _ = _; rw [this]; unfold kindRes; rw [HRB.out, hq]; rfl
    clear hq
    obtain ⟨q1, q2⟩ := q
    go_wp2_with fail
    refine HSM.out.mono ?_
    rintro r w5 ⟨rfl, hE5, hF5⟩
    have HE5 := Lib.hid hE5
    have hg5 := (hF5.block g (blk_lt hg4) (by simp)).trans hg4
    clear hE5 hF5 hz0 hz1 hz2 hz3 hz4 hz5 hz6 hz7 hz8 hg4 HSM
    cases q1 with
    | true =>
      have HQ3 : Hid (b = (0, 1)) := HQ2.out
      go_wp2_with fail
      go_ret2
      exact ⟨by rw [HQ3.out]; rfl, HE5.out.below⟩
    | false =>
      have HQ3 : Hid (b = if (kindF e cols ps).2 = true then ((kindF e cols ps).1, 0) else (0, 9)) := HQ2.out
      obtain ⟨hz0, hz1, hz2, hz3, hz4, hz5, hz6, hz7, hz8⟩ := bkC9 hg5
      have hd1 : w5.cell? ⟨g1, 0, none⟩ = some (.slice A1 cols.length c1) := (bkC HE5.out.h1 0).trans rfl
      have hd2 : w5.cell? ⟨g2, 0, none⟩ = some (.slice A2 ps.length c2) := (bkC HE5.out.h2 0).trans rfl
      have HK := Lib.hid (kind_ok _ e (Nat.lt_succ_self _) A A1 A2 c c1 c2 cols ps w5 HRT.out (Kd.C_below HC.out HE5.out.below) hc (Kd.C_below HC1.out HE5.out.below) hc1 (Kd.C_below HC2.out HE5.out.below) hc2)
      unfold exC at HK
      obtain ⟨p, hp⟩ : ∃ p, kindF e cols ps = p := ⟨_, rfl⟩
      rw [hp] at HK HQ3
      clear hp
      obtain ⟨p1, p2⟩ := p
      go_upto_region 5 with (go_at_call 39; refine HK.out.mono ?_; rintro r w6 ⟨rfl, hB6⟩)
      have HB6 := Lib.hid (HE5.out.below.trans (hB6.mono HE5.out.below.size))
      clear hB6 hz0 hz1 hz2 hz3 hz4 hz5 hz6 hz7 hz8 hd1 hd2
      cases p2 with
      | false =>
        have HQ4 : Hid (b = (0, 9)) := HQ3.out
        go_wp2_with fail
        go_ret2
        exact ⟨by rw [HQ4.out]; rfl, HB6.out⟩
      | true =>
        have HQ4 : Hid (b = (p1, 0)) := HQ3.out
        go_wp2_with fail
        go_ret2
        exact ⟨by rw [HQ4.out]; rfl, HB6.out⟩
end Go.Proofs.YtkboodfnegedaaaDoor.E
namespace Go.Proofs.YtkboodfnegedaaaDoor.E
set_option linter.unusedSimpArgs false
set_option linter.unusedVariables false
open Go.RowKit Go.Proofs.YtkboodfnegedaaaDoorW.PrintWords Go.Proofs.YtkboodfnegedaaaDoorW.PrintLast Go.Proofs.YtkboodfnegedaaaDoorW.PrintMore
mutual
/-- Does one part meet p? -/
def anyE (p : Ex → Bool) : Ex → Bool
  | ⟨f0, f1, f2, f3, f4, f5, f6⟩ => p ⟨f0, f1, f2, f3, f4, f5, f6⟩ || anyL p f6
def anyL (p : Ex → Bool) : List Ex → Bool
  | [] => false
  | x :: xs => anyE p x || anyL p xs
end
mutual
theorem someF_any (step : Ex → Unit → Bool × Unit) : (e : Ex) → (someF step e ()).1 = anyE (fun e => (step e ()).1) e
  | ⟨f0, f1, f2, f3, f4, f5, f6⟩ => by
    rw [someF, anyE]
    by_cases h : (step ⟨f0, f1, f2, f3, f4, f5, f6⟩ ()).1 = true
    · rw [if_pos h, h]; rfl
    · rw [if_neg h, Bool.eq_false_iff.mpr h]; exact someL_any step f6
theorem someL_any (step : Ex → Unit → Bool × Unit) : (l : List Ex) → (someL step l ()).1 = anyL (fun e => (step e ()).1) l
  | [] => by rw [someL, anyL]
  | x :: xs => by
    rw [someL, anyL, ← someF_any step x]
    by_cases h : (someF step x ()).1 = true
    · rw [if_pos h, h]; rfl
    · rw [if_neg h, Bool.eq_false_iff.mpr h]; exact someL_any step xs
end
theorem meas_own {e : Ex} {p : Nat × Nat} (h : meas e = some p) : ownB e = true ∧ ∃ q, measL e.f6 = some q := by
  rw [meas_eq] at h
  split at h
  · obtain ⟨q, hq, _⟩ := Option.map_eq_some_iff.1 h
    exact ⟨by assumption, q, hq⟩
  · cases h
theorem measL_cons {x : Ex} {xs : List Ex} {p : Nat × Nat} (h : measL (x :: xs) = some p) : (∃ a, meas x = some a) ∧ ∃ b, measL xs = some b := by
  rw [measL] at h
  obtain ⟨a, ha, h⟩ := Option.bind_eq_some_iff.1 h
  obtain ⟨b, hb, _⟩ := Option.map_eq_some_iff.1 h
  exact ⟨⟨a, ha⟩, b, hb⟩
theorem right_some_meas {e : Ex} (h : rightB e = true) : ∃ p, meas e = some p := by
  rw [right_meas] at h
  cases hm : meas e with
  | none => rw [hm] at h; simp at h
  | some p => exact ⟨p, rfl⟩
theorem own_len {e : Ex} (h : ownB e = true) : e.f6.length ≤ 2 := by
  have := (own_true h).2; have h2 := wants_le e.f0; omega
theorem own_two {e : Ex} (h : ownB e = true) (h1 : 4 ≤ e.f0) (h8 : e.f0 ≠ 8) (h17 : e.f0 ≤ 16) : ∃ x y, e.f6 = [x, y] := by
  have hl := (own_true h).2
  have : wantsI e.f0 = 2 := by
    rcases wants_case e.f0 (by omega) (by omega) with h | h | h | h | h | h | h | h | h | h | h | h | h | h | h | h | h | h <;> rw [h] at h1 h8 h17 ⊢ <;> first | rfl | omega
  have hl2 : e.f6.length = 2 := by omega
  match e.f6, hl2 with
  | [x, y], _ => exact ⟨x, y, rfl⟩
end Go.Proofs.YtkboodfnegedaaaDoor.E
namespace Go.Proofs.YtkboodfnegedaaaDoor.E
open Go.RowKit Go.Proofs.YtkboodfnegedaaaDoorW.PrintWords Go.Proofs.YtkboodfnegedaaaDoorW.PrintLast Go.Proofs.YtkboodfnegedaaaDoorW.PrintMore
def AtP (q : Va × Bool) (w : World) (r : Ending) (w' : World) : Prop := r = .returned (.tuple #[.agg (vaC q.1), .bool q.2]) ∧ Below w.heap.size w w'
set_option maxHeartbeats 1000000 in
set_option maxRecDepth 100000 in
theorem atV_ok (e : Ex) (A A1 A2 : Option Addr) (c c1 c2 : Nat) (cols : List (List Va)) (ps : List Va) (w : World) (hRt : Rt e) (hC1 : Kd.C (Kd.slice 23 k23) w A1 cols.length cols) (hC2 : Kd.C k23 w A2 ps.length ps) :
    Calls Tryd.prog 43 #[.agg (exC e A c), .slice A1 cols.length c1, .slice A2 ps.length c2] w (AtP (atG zeroV e cols ps) w) := by
  obtain ⟨q, hq⟩ : ∃ q, atG zeroV e cols ps = q := ⟨_, rfl⟩
  rw [hq]
  have HQ := Lib.hid hq.symm
  have HC1 := Lib.hid hC1; have HC2 := Lib.hid hC2; have HRT := Lib.hid hRt
  clear hq hC1 hC2 hRt
  unfold exC
  go_enter Tryd.func43, Tryd.ntmps43
  go_upto_region 1 with (first | ((with_reducible refine gate_dst (N := 3) rfl ?_); refine box_event rfl (N := 3) rfl (cs := exC e A c) (t := 26) (by first | rfl | (go_simp; done) | (go_simp; rfl)) ?_; intro g hgg w1 hbg hBg;  clear hgg) | ((with_reducible refine gate_dst (N := 6) rfl ?_); refine box_event rfl (N := 6) rfl (cs := vaC zeroV) (t := 23) (by first | rfl | (go_simp; done) | (go_simp; rfl)) ?_; intro rb hgg w2 hbrb hBrb;  have hrb : w.heap.size ≤ rb := (by have := hBg.size; omega); have hgr : g ≠ rb := (by have := blk_lt hbg; omega); clear hgg))
  have hg2 := (hBrb.block g (blk_lt hbg)).trans hbg
  have HB := Lib.hid (hBg.trans (hBrb.mono hBg.size))
  clear hbg hBg hBrb
  obtain ⟨hz0, hz1, hz2, hz3, hz4, hz5, hz6, hz7, hz8⟩ := bkC9 hg2
  have hr0 : w2.cell? ⟨rb, 0, none⟩ = some (.int .i64 0) := (bkC hbrb 0).trans rfl
  have hr1 : w2.cell? ⟨rb, 1, none⟩ = some (.int .i64 0) := (bkC hbrb 1).trans rfl
  have hr2 : w2.cell? ⟨rb, 2, none⟩ = some (.string ⟨#[]⟩) := (bkC hbrb 2).trans rfl
  have hf0 := bkF hbrb 0
  have hf1 := bkF hbrb 1
  have hf2 := bkF hbrb 2
  by_cases h2 : e.f0 = 2
  · obtain ⟨p1, -, p2, -⟩ := HRT.out.rel h2
    have h2b : (e.f0 == 2) = true := beq_iff_eq.mpr h2
    have h2c : (e.f0 != 2) = false := bne_eq_false_iff_eq.mpr h2
    have h3b : (e.f0 == 3) = false := beq_eq_false_iff_ne.mpr (by omega)
    have h3c : (e.f0 != 3) = true := bne_iff_ne.mpr (by omega)
    have HH2 := Lib.hid h2
    clear h2
    by_cases h3 : e.f2 < (cols.length : Int)
    · obtain ⟨ad, A0, c0, rfl, hx, hl0, hC0⟩ := at_L6 (Kd.C_below HC1.out HB.out) e.f2 p1 h3
      obtain ⟨L, hL⟩ : ∃ L, cols.getD e.f2.toNat [] = L := ⟨_, rfl⟩
      replace hx : w2.cell? (ad.add e.f2.toNat) = some (.slice A0 L.length c0) := by rw [← hL]; exact hx
      replace hC0 : Kd.C k23 w2 A0 L.length L := by rw [← hL]; exact hC0
      have HC0 := Lib.hid hC0
      clear hC0
      by_cases h4 : e.f3 < (L.length : Int)
      · obtain ⟨ad0, rfl, hv0, hv1, hv2⟩ := at_T23 HC0.out e.f3 p2 h4
        obtain ⟨v, hv⟩ : ∃ v, rd_T23 L e.f3 = v := ⟨_, rfl⟩
        rw [hv] at hv0 hv1 hv2
        have HQ2 : Hid (q = (v, true)) := by
          have h := HQ.out
          unfold atG at h
          rw [if_pos HH2.out, hL, if_pos ⟨h3, h4⟩] at h
          rw [← hv]; exact Lib.hid h
        go_region
        go_upto_region 2 with (fail)
        go_region
        go_wp2_with fail
        refine bodyPost_ret (results_ct rfl _ _ rb 23 (vaC v) (0, 0) _ rfl ?blk Tryd.underlying23 rfl info_va) rfl ?_; (case blk => exact va_put hbrb v); exact ⟨by rw [HQ2.out]; rfl, by (repeat refine below_drewN' ?_); exact va_below HB.out hrb v⟩
      · have HQ2 : Hid (q = (zeroV, false)) := by
          have h := HQ.out
          unfold atG at h
          rw [if_pos HH2.out, hL, if_neg (fun h => h4 h.2)] at h
          exact Lib.hid h
        go_region
        go_wp2_with fail
        go_region
        go_wp2_with fail
        refine bodyPost_ret (results_ct rfl _ _ rb 23 (vaC zeroV) (0, 0) _ rfl ?blk Tryd.underlying23 rfl info_va) rfl ?_; (case blk => exact va_put hbrb zeroV); exact ⟨by rw [HQ2.out]; rfl, by (repeat refine below_drewN' ?_); exact va_below HB.out hrb zeroV⟩
    · have HQ2 : Hid (q = (zeroV, false)) := by
        have h := HQ.out
        unfold atG at h
        rw [if_pos HH2.out, if_neg (fun h => h3 h.1)] at h
        exact Lib.hid h
      go_region
      go_wp2_with fail
      go_region
      go_wp2_with fail
      refine bodyPost_ret (results_ct rfl _ _ rb 23 (vaC zeroV) (0, 0) _ rfl ?blk Tryd.underlying23 rfl info_va) rfl ?_; (case blk => exact va_put hbrb zeroV); exact ⟨by rw [HQ2.out]; rfl, by (repeat refine below_drewN' ?_); exact va_below HB.out hrb zeroV⟩
  · have h2b : (e.f0 == 2) = false := beq_eq_false_iff_ne.mpr h2
    have h2c : (e.f0 != 2) = true := bne_iff_ne.mpr h2
    by_cases h3 : e.f0 = 3
    · obtain ⟨p1, p2⟩ := HRT.out.par h3
      have h3b : (e.f0 == 3) = true := beq_iff_eq.mpr h3
      have h3c : (e.f0 != 3) = false := bne_eq_false_iff_eq.mpr h3
      have HH2 := Lib.hid h2; have HH3 := Lib.hid h3
      clear h2 h3
      by_cases h4 : e.f4 ≤ (ps.length : Int)
      · have hw : wrap64 (e.f4 - 1) = e.f4 - 1 := wrap64_pred p1 p2
        obtain ⟨m, hm⟩ : ∃ m, e.f4 - 1 = m := ⟨_, rfl⟩
        rw [hm] at hw
        have q1 : 0 ≤ m := by omega
        have q2 : m < (ps.length : Int) := by omega
        obtain ⟨ad0, rfl, hv0, hv1, hv2⟩ := at_T23 (Kd.C_below HC2.out HB.out) m q1 q2
        obtain ⟨v, hv⟩ : ∃ v, rd_T23 ps m = v := ⟨_, rfl⟩
        rw [hv] at hv0 hv1 hv2
        have HQ2 : Hid (q = (v, true)) := by
          have h := HQ.out
          unfold atG at h
          rw [if_neg HH2.out, if_pos HH3.out, if_pos h4, hm] at h
          rw [← hv]; exact Lib.hid h
        have hw2 : IntKind.i64.wrap m = m := (i64_w _).trans hw
        go_region
        go_wp2_with fail
        refine bodyPost_ret (results_ct rfl _ _ rb 23 (vaC v) (0, 0) _ rfl ?blk Tryd.underlying23 rfl info_va) rfl ?_; (case blk => exact va_put hbrb v); exact ⟨by rw [HQ2.out]; rfl, by (repeat refine below_drewN' ?_); exact va_below HB.out hrb v⟩
      · have HQ2 : Hid (q = (zeroV, false)) := by
          have h := HQ.out
          unfold atG at h
          rw [if_neg HH2.out, if_pos HH3.out, if_neg h4] at h
          exact Lib.hid h
        go_region
        go_wp2_with fail
        go_region
        go_wp2_with fail
        refine bodyPost_ret (results_ct rfl _ _ rb 23 (vaC zeroV) (0, 0) _ rfl ?blk Tryd.underlying23 rfl info_va) rfl ?_; (case blk => exact va_put hbrb zeroV); exact ⟨by rw [HQ2.out]; rfl, by (repeat refine below_drewN' ?_); exact va_below HB.out hrb zeroV⟩
    · have h3b : (e.f0 == 3) = false := beq_eq_false_iff_ne.mpr h3
      have h3c : (e.f0 != 3) = true := bne_iff_ne.mpr h3
      have HQ2 : Hid (q = (zeroV, true)) := by
        have h := HQ.out
        unfold atG at h
        rw [if_neg h2, if_neg h3] at h
        exact Lib.hid h
      clear h2 h3
      go_region
      go_wp2_with fail
      go_region
      go_wp2_with fail
      refine bodyPost_ret (results_ct rfl _ _ rb 23 (vaC zeroV) (0, 0) _ rfl ?blk Tryd.underlying23 rfl info_va) rfl ?_; (case blk => exact va_put hbrb zeroV); exact ⟨by rw [HQ2.out]; rfl, by (repeat refine below_drewN' ?_); exact va_below HB.out hrb zeroV⟩
def safeStep (e : Ex) (_ : Unit) : Bool × Unit := (decide (4 ≤ e.f0 ∧ e.f0 ≤ 8), ())
def safeB (e : Ex) : Bool := rightB e && !(someF safeStep e ()).1
theorem hcf52 : ∀ (args : Array Value) (W : World), (callFunc 52 args).run Tryd.prog W = .ok (.enter 52 args) W := fun args W => by go_simp
set_option maxRecDepth 100000 in
theorem safe1_ok (e : Ex) (A : Option Addr) (c : Nat) (w : World) :
    Calls Tryd.prog 52 #[.agg (exC e A c)] w fun r W' => r = .returned (.bool (decide (4 ≤ e.f0 ∧ e.f0 ≤ 8))) ∧ Below w.heap.size w W' := by
  unfold exC
  obtain ⟨q, hq⟩ : ∃ q, decide (4 ≤ e.f0 ∧ e.f0 ≤ 8) = q := ⟨_, rfl⟩
  rw [hq]
  have HQ := Lib.hid hq; clear hq
  go_enter Tryd.func52, Tryd.ntmps52
  go_upto_region 1 with (first | ((with_reducible refine gate_dst (N := 1) rfl ?_); refine box_event rfl (N := 1) rfl (cs := exC e A c) (t := 26) (by first | rfl | (go_simp; done) | (go_simp; rfl)) ?_; intro g hgg w1 hbg hBg;  clear hgg))
  obtain ⟨hz0, hz1, hz2, hz3, hz4, hz5, hz6, hz7, hz8⟩ := bkC9 hbg
  have HB := Lib.hid hBg
  clear hbg hBg
  by_cases h1 : 4 ≤ e.f0
  · by_cases h2 : e.f0 ≤ 8
    · have HQ2 : Hid (q = true) := by have := HQ.out; show _ = _; rw [← this]; simp [h1, h2]
      go_wp2_with fail
      go_ret
      exact ⟨congrArg (fun b => Ending.returned (.bool b)) HQ2.out.symm, HB.out⟩
    · have HQ2 : Hid (q = false) := by have := HQ.out; show _ = _; rw [← this]; simp [h2]
      go_wp2_with fail
      go_ret
      exact ⟨congrArg (fun b => Ending.returned (.bool b)) HQ2.out.symm, HB.out⟩
  · have HQ2 : Hid (q = false) := by have := HQ.out; show _ = _; rw [← this]; simp [h1]
    go_wp2_with fail
    go_ret
    exact ⟨congrArg (fun b => Ending.returned (.bool b)) HQ2.out.symm, HB.out⟩
theorem safe_env (w0 : World) : SomeEnv w0 none 52 #[] safeStep (fun _ W => Below w0.heap.size w0 W) where
  run := hcf52
  base _ _ h := h
  old _ _ _ _ h := by cases h
  later _ _ _ h k := h.trans (k.mono h.size)
  one e A c s W _ hR _ _ := (safe1_ok e A c W).mono (by
    rintro r W' ⟨rfl, h⟩
    exact ⟨rfl, hR.trans (h.mono hR.size), Fr.of h⟩)
set_option maxRecDepth 100000 in
theorem safe_ok (e : Ex) (A : Option Addr) (c : Nat) (w : World) (hC : Kd.C k26 w A e.f6.length e.f6) (hc : e.f6.length ≤ c) :
    Calls Tryd.prog 21 #[.agg (exC e A c)] w fun r w' => r = .returned (.bool (safeB e)) ∧ Below w.heap.size w w' := by
  have HC := Lib.hid hC
  clear hC
  obtain ⟨b, hb⟩ : ∃ b, safeB e = b := ⟨_, rfl⟩
  rw [hb]
  have HBV := Lib.hid hb.symm; clear hb
  unfold exC
  go_enter Tryd.func21, Tryd.ntmps21
  go_upto_region 1 with (first | ((with_reducible refine gate_dst (N := 1) rfl ?_); refine box_event rfl (N := 1) rfl (cs := exC e A c) (t := 26) (by first | rfl | (go_simp; done) | (go_simp; rfl)) ?_; intro g hgg w1 hbg hBg;  clear hgg))
  obtain ⟨hz0, hz1, hz2, hz3, hz4, hz5, hz6, hz7, hz8⟩ := bkC9 hbg
  have HCR := Lib.hid (right_ok e A c w1 (Kd.C_below HC.out hBg) hc)
  unfold exC at HCR
  go_wp2_with fail
  refine HCR.out.mono ?_
  obtain ⟨rb, hrb⟩ : ∃ rb, rightB e = rb := ⟨_, rfl⟩
  rw [hrb]
  have HRB := Lib.hid hrb; clear hrb
  rintro r w2 ⟨rfl, hB2⟩
  have hBB : Below w.heap.size w w2 := hBg.trans (hB2.mono hBg.size)
  clear hz0 hz1 hz2 hz3 hz4 hz5 hz6 hz7 hz8
  have hg2 := (hB2.block g (blk_lt hbg)).trans hbg
  cases rb with
  | false =>
    have HQ2 : Hid (b = false) := by have := HBV.out; show _ = _; rw [this]; unfold safeB; rw [HRB.out]; rfl
    go_wp2_with fail
    go_ret
    exact ⟨congrArg (fun b => Ending.returned (.bool b)) HQ2.out.symm, hBB⟩
  | true =>
    obtain ⟨hz0, hz1, hz2, hz3, hz4, hz5, hz6, hz7, hz8⟩ := bkC9 hg2
    have HSM := Lib.hid (some_ok (safe_env w) _ e (Nat.lt_succ_self _) A c () w2 (Rt.of HRB.out) hBB hc HC.out)
    unfold exC at HSM
    obtain ⟨q, hq⟩ : ∃ q, (someF safeStep e ()) = q := ⟨_, rfl⟩
    rw [hq] at HSM
    have HQ2 : Hid (b = !q.1) := by have := HBV.out; show _ = _; rw [this]; unfold safeB; rw [HRB.out, hq]; rfl
    clear hq
    obtain ⟨q1, q2⟩ := q
    go_wp2_with fail
    refine HSM.out.mono ?_
    rintro r w3 ⟨rfl, hB3, _⟩
    go_wp2_with fail
    go_ret
    exact ⟨congrArg (fun b => Ending.returned (.bool b)) HQ2.out.symm, hB3⟩
def ex2 (a b : Ex) (Aa Ab : Option Addr) (ca cb : Nat) : Array Value := #[.int .i64 a.f0, .int .i64 a.f1.f0, .int .i64 a.f1.f1, .string a.f1.f2, .int .i64 a.f2, .int .i64 a.f3, .int .i64 a.f4, .string a.f5, .slice Aa a.f6.length ca, .int .i64 b.f0, .int .i64 b.f1.f0, .int .i64 b.f1.f1, .string b.f1.f2, .int .i64 b.f2, .int .i64 b.f3, .int .i64 b.f4, .string b.f5, .slice Ab b.f6.length cb]
theorem ex2_C {w : World} {g : Nat} {a b : Ex} {Aa Ab : Option Addr} {ca cb : Nat} (h : w.heap[g]? = some (.cells (ex2 a b Aa Ab ca cb) 26 (0, 0))) (ha : a.f6.length ≤ ca) (hb : b.f6.length ≤ cb) (hA : Kd.C k26 w Aa a.f6.length a.f6) (hB : Kd.C k26 w Ab b.f6.length b.f6) :
    Kd.C k26 w (some ⟨g, 0, none⟩) 2 [a, b] := by
  refine ⟨rfl, by omega, fun _ => ⟨_, rfl, ?_⟩⟩
  intro j p hp
  match j, hp with
  | 0, hp =>
    obtain rfl := Option.some.inj hp
    refine ⟨_, rfl, k26_mk w a ha hA, ?_⟩
    intro i u hu
    have hi : i < 9 := by
      have := (List.getElem?_eq_some_iff.1 hu).1; simpa using this
    obtain rfl | rfl | rfl | rfl | rfl | rfl | rfl | rfl | rfl : i = 0 ∨ i = 1 ∨ i = 2 ∨ i = 3 ∨ i = 4 ∨ i = 5 ∨ i = 6 ∨ i = 7 ∨ i = 8 := by omega
    · have hu' := Option.some.inj hu; subst hu'; rw [add_plain]; exact (bkC h 0).trans rfl
    · have hu' := Option.some.inj hu; subst hu'; rw [add_plain]; exact (bkC h 1).trans rfl
    · have hu' := Option.some.inj hu; subst hu'; rw [add_plain]; exact (bkC h 2).trans rfl
    · have hu' := Option.some.inj hu; subst hu'; rw [add_plain]; exact (bkC h 3).trans rfl
    · have hu' := Option.some.inj hu; subst hu'; rw [add_plain]; exact (bkC h 4).trans rfl
    · have hu' := Option.some.inj hu; subst hu'; rw [add_plain]; exact (bkC h 5).trans rfl
    · have hu' := Option.some.inj hu; subst hu'; rw [add_plain]; exact (bkC h 6).trans rfl
    · have hu' := Option.some.inj hu; subst hu'; rw [add_plain]; exact (bkC h 7).trans rfl
    · have hu' := Option.some.inj hu; subst hu'; rw [add_plain]; exact (bkC h 8).trans rfl
  | 1, hp =>
    obtain rfl := Option.some.inj hp
    refine ⟨_, rfl, k26_mk w b hb hB, ?_⟩
    intro i u hu
    have hi : i < 9 := by
      have := (List.getElem?_eq_some_iff.1 hu).1; simpa using this
    obtain rfl | rfl | rfl | rfl | rfl | rfl | rfl | rfl | rfl : i = 0 ∨ i = 1 ∨ i = 2 ∨ i = 3 ∨ i = 4 ∨ i = 5 ∨ i = 6 ∨ i = 7 ∨ i = 8 := by omega
    · have hu' := Option.some.inj hu; subst hu'; rw [add_plain]; exact (bkC h 9).trans rfl
    · have hu' := Option.some.inj hu; subst hu'; rw [add_plain]; exact (bkC h 10).trans rfl
    · have hu' := Option.some.inj hu; subst hu'; rw [add_plain]; exact (bkC h 11).trans rfl
    · have hu' := Option.some.inj hu; subst hu'; rw [add_plain]; exact (bkC h 12).trans rfl
    · have hu' := Option.some.inj hu; subst hu'; rw [add_plain]; exact (bkC h 13).trans rfl
    · have hu' := Option.some.inj hu; subst hu'; rw [add_plain]; exact (bkC h 14).trans rfl
    · have hu' := Option.some.inj hu; subst hu'; rw [add_plain]; exact (bkC h 15).trans rfl
    · have hu' := Option.some.inj hu; subst hu'; rw [add_plain]; exact (bkC h 16).trans rfl
    · have hu' := Option.some.inj hu; subst hu'; rw [add_plain]; exact (bkC h 17).trans rfl
theorem setRow_far (w : World) {g k : Nat} {o : Obj} (hn : ¬ g = k) (h : w.heap[k]? = some o) (cs : Array Value) : (w.setRow g cs).heap[k]? = some o := by
  unfold World.setRow
  show (Array.modify _ _ _)[k]? = _
  rw [Array.getElem?_modify, if_neg hn]; exact h
def refE (a b : Int) : Ex := ⟨2, zeroV, a, b, 0, ⟨#[]⟩, []⟩
def numE (n : Int) : Ex := ⟨1, ⟨1, n, ⟨#[]⟩⟩, 0, 0, 0, ⟨#[]⟩, []⟩
def twoE (op : Int) (a b : Ex) : Ex := ⟨op, zeroV, 0, 0, 0, ⟨#[]⟩, [a, b]⟩
set_option maxHeartbeats 1000000 in
set_option maxRecDepth 100000 in
theorem ref_ok (a b : Int) (w : World) : Calls Tryd.prog 34 #[.int .i64 a, .int .i64 b] w fun r w' => r = .returned (.agg (exC (refE a b) none 0)) ∧ Below w.heap.size w w' := by
  go_enter Tryd.func34, Tryd.ntmps34
  go_upto_region 1 with (first | ((with_reducible refine gate_dst (N := 4) rfl ?_); refine box_event rfl (N := 4) rfl (cs := zerosE) (t := 26) (by first | rfl | (go_simp; done) | (go_simp; rfl)) ?_; intro rb hgg w1 hbrb hBrb;  have hrb : w.heap.size ≤ rb := (by omega); clear hgg))
  go_wp2_with ((with_reducible refine gate_store (p := 4) (v := .tmp 7) rfl ?_); refine wpList_store_row rfl 26 (.tmp 4) (.tmp 7) rfl rb (exC (refE a b) none 0) rfl rfl 26 zerosE hbrb (info_ex _ _ _) rfl (one_ex _ _ _) ?_)
  refine bodyPost_ret (results_cell_row rfl _ _ rb 26 (exC (refE a b) none 0) (0, 0) _ rfl (setRow_at _ rb _ zerosE _ hbrb) Tryd.underlying26 rfl (info_ex _ _ _)) rfl ?_; exact ⟨rfl, below_setRow' hBrb hrb _⟩
set_option maxHeartbeats 1000000 in
set_option maxRecDepth 100000 in
theorem num_ok9 (n : Int) (w : World) : Calls Tryd.prog 35 #[.int .i64 n] w fun r w' => r = .returned (.agg (exC (numE n) none 0)) ∧ Below w.heap.size w w' := by
  go_enter Tryd.func35, Tryd.ntmps35
  go_upto_region 1 with (first | ((with_reducible refine gate_dst (N := 2) rfl ?_); refine box_event rfl (N := 2) rfl (cs := zerosE) (t := 26) (by first | rfl | (go_simp; done) | (go_simp; rfl)) ?_; intro rb hgg w1 hbrb hBrb;  have hrb : w.heap.size ≤ rb := (by omega); clear hgg))
  go_wp2_with ((with_reducible refine gate_store (p := 2) (v := .tmp 5) rfl ?_); refine wpList_store_row rfl 26 (.tmp 2) (.tmp 5) rfl rb (exC (numE n) none 0) rfl rfl 26 zerosE hbrb (info_ex _ _ _) rfl (one_ex _ _ _) ?_)
  refine bodyPost_ret (results_cell_row rfl _ _ rb 26 (exC (numE n) none 0) (0, 0) _ rfl (setRow_at _ rb _ zerosE _ hbrb) Tryd.underlying26 rfl (info_ex _ _ _)) rfl ?_; exact ⟨rfl, below_setRow' hBrb hrb _⟩
def TwoP (op : Int) (a b : Ex) (w : World) (r : Ending) (w' : World) : Prop := ∃ A, r = .returned (.agg (exC (twoE op a b) A 2)) ∧ Kd.C k26 w' A 2 [a, b] ∧ Below w.heap.size w w'
set_option maxHeartbeats 1000000 in
set_option maxRecDepth 100000 in
theorem two_ok (op : Int) (a b : Ex) (Aa Ab : Option Addr) (ca cb : Nat) (w : World) (ha : a.f6.length ≤ ca) (hb : b.f6.length ≤ cb) (hA : Kd.C k26 w Aa a.f6.length a.f6) (hB : Kd.C k26 w Ab b.f6.length b.f6) :
    Calls Tryd.prog 23 #[.int .i64 op, .agg (exC a Aa ca), .agg (exC b Ab cb)] w (TwoP op a b w) := by
  have HA := Lib.hid hA; have HBc := Lib.hid hB
  clear hA hB
  unfold exC
  go_enter Tryd.func23, Tryd.ntmps23
  go_upto_region 1 with (first | ((with_reducible refine gate_dst (N := 4) rfl ?_); refine box_event rfl (N := 4) rfl (cs := exC a Aa ca) (t := 26) (by first | rfl | (go_simp; done) | (go_simp; rfl)) ?_; intro ga hgg w1 hbga hBga;  clear hgg) | ((with_reducible refine gate_dst (N := 5) rfl ?_); refine box_event rfl (N := 5) rfl (cs := exC b Ab cb) (t := 26) (by first | rfl | (go_simp; done) | (go_simp; rfl)) ?_; intro gb hgg w2 hbgb hBgb;  clear hgg) | ((with_reducible refine gate_dst (N := 6) rfl ?_); refine box_event rfl (N := 6) rfl (cs := zerosE) (t := 26) (by first | rfl | (go_simp; done) | (go_simp; rfl)) ?_; intro rb hgg w3 hbrb hBrb;  have hrb : w.heap.size ≤ rb := (by have := hBga.size; have := hBgb.size; omega); clear hgg))
  have ha3 := (hBrb.block ga (by have := hBgb.size; have := blk_lt hbga; omega)).trans ((hBgb.block ga (blk_lt hbga)).trans hbga)
  have hb3 := (hBrb.block gb (blk_lt hbgb)).trans hbgb
  have HB3 := Lib.hid (hBga.trans ((hBgb.trans (hBrb.mono hBgb.size)).mono hBga.size))
  clear hBga hBgb hBrb hbga hbgb
  obtain ⟨hz0, hz1, hz2, hz3, hz4, hz5, hz6, hz7, hz8⟩ := bkC9 ha3
  obtain ⟨hy0, hy1, hy2, hy3, hy4, hy5, hy6, hy7, hy8⟩ := bkC9 hb3
  go_wp2_with ((with_reducible refine gate_store (p := 6) (v := .tmp 11) rfl ?_); refine wpList_store_row rfl 26 (.tmp 6) (.tmp 11) rfl rb (exC (twoE op a b) (some ⟨w3.heap.size, 0, none⟩) 2) rfl rfl 26 zerosE (bkA hbrb _) (info_ex _ _ _) rfl (one_ex _ _ _) ?_)
  have hlb : (w3.alloc (.cells (ex2 a b Aa Ab ca cb) 26)).heap[w3.heap.size]? = some (.cells (ex2 a b Aa Ab ca cb) 26 (0, 0)) := heap_alloc_new w3 _
  have hne : ¬ rb = w3.heap.size := by have := blk_lt hbrb; omega
  have hlb2 : ((w3.alloc (.cells (ex2 a b Aa Ab ca cb) 26)).setRow rb (exC (twoE op a b) (some ⟨w3.heap.size, 0, none⟩) 2)).heap[w3.heap.size]? = some (.cells (ex2 a b Aa Ab ca cb) 26 (0, 0)) := by
    exact setRow_far _ hne hlb _
  have hB4 : Below w.heap.size w ((w3.alloc (.cells (ex2 a b Aa Ab ca cb) 26)).setRow rb (exC (twoE op a b) (some ⟨w3.heap.size, 0, none⟩) 2)) := below_setRow' (blA HB3.out _) hrb _
  refine bodyPost_ret (results_cell_row rfl _ _ rb 26 (exC (twoE op a b) (some ⟨w3.heap.size, 0, none⟩) 2) (0, 0) _ rfl (setRow_at _ rb _ zerosE _ (bkA hbrb _)) Tryd.underlying26 rfl (info_ex _ _ _)) rfl ?_
  exact ⟨_, rfl, ex2_C hlb2 ha hb (Kd.C_below HA.out hB4) (Kd.C_below HBc.out hB4), hB4⟩
def tabStep (e : Ex) (s : Int) : Bool × Int := (false, if e.f0 = 2 then Go.bits .or .i64 s (shl .i64 1 e.f2) else s)
def tabN (e : Ex) : Int := if rightB e = true then (someF tabStep e 0).2 else 0
theorem hcf47 : ∀ (args : Array Value) (W : World), (callFunc 47 args).run Tryd.prog W = .ok (.enter 47 args) W := fun args W => by go_simp
structure TEnv (w0 : World) (tb : Nat) (s : Int) (w : World) : Prop where
  below : Below w0.heap.size w0 w
  ge : w0.heap.size ≤ tb
  blk : w.heap[tb]? = some (.cells #[.int .i64 s] 3 (0, 0))
set_option maxRecDepth 100000 in
theorem tables1_ok (w0 : World) (tb : Nat) (e : Ex) (A : Option Addr) (c : Nat) (s : Int) (w : World) (hRt : Rt e) (hT : TEnv w0 tb s w) :
    Calls Tryd.prog 47 #[.agg (exC e A c), .pointer (some ⟨tb, 0, none⟩)] w (SomeP (TEnv w0 tb) (some tb) w (tabStep e s)) := by
  unfold exC
  obtain ⟨q, hq⟩ : ∃ q, tabStep e s = q := ⟨_, rfl⟩
  rw [hq]
  have HQ := Lib.hid hq.symm; clear hq
  have HRT := Lib.hid hRt; have HT := Lib.hid hT
  clear hRt hT
  go_enter Tryd.func47, Tryd.ntmps47
  go_upto_region 1 with (first | ((with_reducible refine gate_dst (N := 2) rfl ?_); refine box_event rfl (N := 2) rfl (cs := exC e A c) (t := 26) (by first | rfl | (go_simp; done) | (go_simp; rfl)) ?_; intro g hgg w1 hbg hBg;  have hgt : g ≠ tb := (by have := blk_lt HT.out.blk; omega); clear hgg))
  obtain ⟨hz0, hz1, hz2, hz3, hz4, hz5, hz6, hz7, hz8⟩ := bkC9 hbg
  have HB := Lib.hid hBg
  have ht1 := (HB.out.block tb (blk_lt HT.out.blk)).trans HT.out.blk
  have HT1 : Hid (TEnv w0 tb s w1) := ⟨HT.out.below.trans (HB.out.mono HT.out.below.size), HT.out.ge, ht1⟩
  clear hbg hBg
  by_cases h1 : e.f0 = 2
  · have HQ2 : Hid (q = (false, Go.bits .or .i64 s (shl .i64 1 e.f2))) := by have := HQ.out; show _ = _; rw [this]; unfold tabStep; rw [if_pos h1]
    obtain ⟨h2, h3, -, -⟩ := HRT.out.rel h1
    have h2b : decide (0 ≤ e.f2) = true := decide_eq_true h2
    obtain ⟨j, hj⟩ : ∃ j, shl .i64 1 e.f2 = j := ⟨_, rfl⟩
    rw [hj] at HQ2
    have hj1 : (IntKind.i64.wrap (1 * 2 ^ min e.f2.toNat 64)) = j := hj
    have hj2 : (IntKind.i64.wrap (1 * 2 ^ e.f2.toNat)) = j := shl_small hj (by show e.f2 ≤ 64; omega)
    have hj3 : (IntKind.i64.wrap (2 ^ min e.f2.toNat 64)) = j := by have h_ := hj1; rw [Int.one_mul] at h_; exact h_
    have hj4 : (IntKind.i64.wrap (2 ^ e.f2.toNat)) = j := by have h_ := hj2; rw [Int.one_mul] at h_; exact h_
    have hj5 : (wrap64 (1 * 2 ^ min e.f2.toNat 64)) = j := (i64_w _).symm.trans hj1
    have hj6 : (wrap64 (1 * 2 ^ e.f2.toNat)) = j := (i64_w _).symm.trans hj2
    have hj7 : e.f2 ≤ 64 := by omega
    have hmc : w1.cell? ⟨tb, 0, none⟩ = some (.int .i64 s) := (bkC ht1 0).trans rfl
    have hmf : w1.frozen? ⟨tb, 0, none⟩ = false := bkF ht1 0
    go_upto_region 2 with (fail)
    go_region
    go_wp2_with fail
    go_ret
    have hset : (w1.setCell ⟨tb, 0, none⟩ (.int .i64 (bits .or .i64 s j))).heap[tb]? = some (.cells #[.int .i64 (bits .or .i64 s j)] 3 (0, 0)) := blk_set ht1 0 _
    have hT2 : TEnv w0 tb (bits .or .i64 s j) (w1.setCell ⟨tb, 0, none⟩ (.int .i64 (bits .or .i64 s j))).drew :=
      have hS : Below w0.heap.size w0 (w1.setCell ⟨tb, 0, none⟩ (.int .i64 (bits .or .i64 s j))) := HT1.out.below.setCell (p := ⟨tb, 0, none⟩) HT.out.ge _
      ⟨⟨hS.os, hS.tape, hS.output, hS.size, hS.block⟩, HT.out.ge, hset⟩
    have hF2 := (Fr.of HB.out).trans (Fr.set w1 tb 0 (.int .i64 (bits .or .i64 s j)))
    exact ⟨congrArg (fun b => Ending.returned (.bool b)) (congrArg Prod.fst HQ2.out).symm, by rw [HQ2.out]; exact hT2, ⟨hF2.size, hF2.block⟩⟩
  · have HQ2 : Hid (q = (false, s)) := by have := HQ.out; show _ = _; rw [this]; unfold tabStep; rw [if_neg h1]
    go_wp2_with fail
    go_ret
    exact ⟨congrArg (fun b => Ending.returned (.bool b)) (congrArg Prod.fst HQ2.out).symm, by rw [HQ2.out]; exact HT1.out, Fr.of HB.out⟩
theorem tables_env (w0 : World) (tb : Nat) : SomeEnv w0 (some tb) 47 #[.pointer (some ⟨tb, 0, none⟩)] tabStep (TEnv w0 tb) where
  run := hcf47
  base _ _ h := h.below
  old _ _ k h e := by cases e; exact blk_lt h.blk
  later _ _ _ h k := ⟨h.below.trans (k.mono h.below.size), h.ge, (k.block tb (blk_lt h.blk)).trans h.blk⟩
  one e A c s W hRt hR _ _ := tables1_ok w0 tb e A c s W hRt hR
set_option maxRecDepth 100000 in
theorem tables_ok (e : Ex) (A : Option Addr) (c : Nat) (w : World) (hC : Kd.C k26 w A e.f6.length e.f6) (hc : e.f6.length ≤ c) :
    Calls Tryd.prog 16 #[.agg (exC e A c)] w fun r w' => r = .returned (.int .i64 (tabN e)) ∧ Below w.heap.size w w' := by
  have HC := Lib.hid hC
  clear hC
  obtain ⟨b, hb⟩ : ∃ b, tabN e = b := ⟨_, rfl⟩
  rw [hb]
  have HBV := Lib.hid hb.symm; clear hb
  unfold exC
  go_enter Tryd.func16, Tryd.ntmps16
  go_upto_region 2 with (first | ((with_reducible refine gate_dst (N := 1) rfl ?_); refine box_event rfl (N := 1) rfl (cs := exC e A c) (t := 26) (by first | rfl | (go_simp; done) | (go_simp; rfl)) ?_; intro g hgg w1 hbg hBg;  clear hgg) | ((with_reducible refine gate_dst (N := 3) rfl ?_); refine box_event rfl (N := 3) rfl (cs := #[.int .i64 0]) (t := 3) (by first | rfl | (go_simp; done) | (go_simp; rfl)) ?_; intro tb hgg w2 hbtb hBtb;  have htb : w.heap.size ≤ tb := (by have := hBg.size; omega); have hgt : g ≠ tb := (by have := blk_lt hbg; omega); have hmc : w2.cell? ⟨tb, 0, none⟩ = some (.int .i64 0) := ((bkC hbtb 0).trans rfl); have hmf := bkF hbtb 0; clear hgg))
  have hb3 : (w2.setCell ⟨tb, 0, none⟩ (.int .i64 0)).heap[tb]? = some (.cells #[.int .i64 0] 3 (0, 0)) := blk_set hbtb 0 _
  have hg3 : (w2.setCell ⟨tb, 0, none⟩ (.int .i64 0)).heap[g]? = some (.cells (exC e A c) 26 (0, 0)) := blk_far ((hBtb.block g (blk_lt hbg)).trans hbg) hgt _
  have hB3 : Below w.heap.size w (w2.setCell ⟨tb, 0, none⟩ (.int .i64 0)) := (hBg.trans (hBtb.mono hBg.size)).setCell htb _
  clear hmc hmf hbg hBg hbtb hBtb
  generalize w2.setCell ⟨tb, 0, none⟩ (.int .i64 0) = w3 at hb3 hg3 hB3 ⊢
  obtain ⟨hz0, hz1, hz2, hz3, hz4, hz5, hz6, hz7, hz8⟩ := bkC9 hg3
  have HCR := Lib.hid (right_ok e A c w3 (Kd.C_below HC.out hB3) hc)
  unfold exC at HCR
  go_wp2_with fail
  refine HCR.out.mono ?_
  obtain ⟨rb, hrb⟩ : ∃ rb, rightB e = rb := ⟨_, rfl⟩
  rw [hrb]
  have HRB := Lib.hid hrb; clear hrb
  rintro r w4 ⟨rfl, hB4⟩
  have hT4 : TEnv w tb 0 w4 := ⟨hB3.trans (hB4.mono hB3.size), htb, (hB4.block tb (blk_lt hb3)).trans hb3⟩
  clear hz0 hz1 hz2 hz3 hz4 hz5 hz6 hz7 hz8
  have hg4 := (hB4.block g (blk_lt hg3)).trans hg3
  cases rb with
  | false =>
    have HQ2 : Hid (b = 0) := by have := HBV.out; show _ = _; rw [this]; unfold tabN; rw [HRB.out]; rfl
    have hz : w4.cell? ⟨tb, 0, none⟩ = some _ := (bkC hT4.blk 0).trans rfl
    go_wp2_with fail
    go_ret
    exact ⟨congrArg (fun b => Ending.returned (.int .i64 b)) HQ2.out.symm, hT4.below⟩
  | true =>
    obtain ⟨hz0, hz1, hz2, hz3, hz4, hz5, hz6, hz7, hz8⟩ := bkC9 hg4
    have HSM := Lib.hid (some_ok (tables_env w tb) _ e (Nat.lt_succ_self _) A c 0 w4 (Rt.of HRB.out) hT4 hc HC.out)
    unfold exC at HSM
    obtain ⟨q, hq⟩ : ∃ q, (someF tabStep e 0) = q := ⟨_, rfl⟩
    rw [hq] at HSM
    have HQ2 : Hid (b = q.2) := by have := HBV.out; show _ = _; rw [this]; unfold tabN; rw [HRB.out, hq]; rfl
    clear hq
    obtain ⟨q1, q2⟩ := q
    go_wp2_with fail
    refine HSM.out.mono ?_
    rintro r w5 ⟨rfl, hT5, _⟩
    have hz : w5.cell? ⟨tb, 0, none⟩ = some _ := (bkC hT5.blk 0).trans rfl
    go_wp2_with fail
    go_ret
    exact ⟨congrArg (fun b => Ending.returned (.int .i64 b)) HQ2.out.symm, hT5.below⟩
end Go.Proofs.YtkboodfnegedaaaDoor.E
