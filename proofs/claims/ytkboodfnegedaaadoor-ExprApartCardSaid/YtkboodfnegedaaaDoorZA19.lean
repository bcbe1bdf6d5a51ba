/- Contracts and plain lemmas of the functions that the law reaches, part 19. -/
import Derived.Test.YtkboodfnegedaaaDoorZA6
namespace Go.Proofs.YtkboodfnegedaaaDoor.E
open Go.RowKit Go.Proofs.YtkboodfnegedaaaDoorW.PrintWords Go.Proofs.YtkboodfnegedaaaDoorW.PrintLast Go.Proofs.YtkboodfnegedaaaDoorW.PrintMore
def tabStep (e : Ex) (s : Int) : Bool × Int := (false, if e.f0 = 2 then Go.bits .or .i64 s (shl .i64 1 e.f2) else s)
def tabN (e : Ex) : Int := if rightB e = true then (someF tabStep e 0).2 else 0
theorem hcf47 : ∀ (args : Array Value) (W : World), (callFunc 47 args).run Tryd.prog W = .ok (.enter 47 args) W := fun args W => by go_simp
structure TEnv (w0 : World) (tb : Nat) (s : Int) (w : World) : Prop where
  below : Below w0.heap.size w0 w
  ge : w0.heap.size ≤ tb
  blk : w.heap[tb]? = some (.cells #[.int .i64 s] 3 (0, 0))
set_option maxRecDepth 100000 in
theorem tables1_ok (w0 : World) (tb : Nat) (e : Ex) (A : Option Addr) (c : Nat) (s : Int) (w : World) (hRt : Rt e) (hT : TEnv w0 tb s w) :
    Calls Tryd.prog 47 #[.agg (exC e A c), .pointer (some ⟨tb, 0, none⟩)] w (SomeP (TEnv w0 tb) (some tb) w (tabStep e s)) := by
  unfold exC
  obtain ⟨q, hq⟩ : ∃ q, tabStep e s = q := ⟨_, rfl⟩
  rw [hq]
  have HQ := Lib.hid hq.symm; clear hq
  have HRT := Lib.hid hRt; have HT := Lib.hid hT
  clear hRt hT
  go_enter Tryd.func47, Tryd.ntmps47
  go_upto_region 1 with (first | ((with_reducible refine gate_dst (N := 2) rfl ?_); refine box_event rfl (N := 2) rfl (cs := exC e A c) (t := 26) (by first | rfl | (go_simp; done) | (go_simp; rfl)) ?_; intro g hgg w1 hbg hBg;  have hgt : g ≠ tb := (by have := blk_lt HT.out.blk; omega); clear hgg))
  have hz0 : w1.cell? ⟨g, 0, none⟩ = some (.int .i64 e.f0) := (bkC hbg 0).trans rfl; have hz1 : w1.cell? ⟨g, 1, none⟩ = some (.int .i64 e.f1.f0) := (bkC hbg 1).trans rfl; have hz2 : w1.cell? ⟨g, 2, none⟩ = some (.int .i64 e.f1.f1) := (bkC hbg 2).trans rfl; have hz3 : w1.cell? ⟨g, 3, none⟩ = some (.string e.f1.f2) := (bkC hbg 3).trans rfl; have hz4 : w1.cell? ⟨g, 4, none⟩ = some (.int .i64 e.f2) := (bkC hbg 4).trans rfl; have hz5 : w1.cell? ⟨g, 5, none⟩ = some (.int .i64 e.f3) := (bkC hbg 5).trans rfl; have hz6 : w1.cell? ⟨g, 6, none⟩ = some (.int .i64 e.f4) := (bkC hbg 6).trans rfl; have hz7 : w1.cell? ⟨g, 7, none⟩ = some (.string e.f5) := (bkC hbg 7).trans rfl; have hz8 : w1.cell? ⟨g, 8, none⟩ = some (.slice A e.f6.length c) := (bkC hbg 8).trans rfl
  have HB := Lib.hid hBg
  have ht1 := (HB.out.block tb (blk_lt HT.out.blk)).trans HT.out.blk
  have HT1 : Hid (TEnv w0 tb s w1) := ⟨HT.out.below.trans (HB.out.mono HT.out.below.size), HT.out.ge, ht1⟩
  clear hbg hBg
  by_cases h1 : e.f0 = 2
  · have HQ2 : Hid (q = (false, Go.bits .or .i64 s (shl .i64 1 e.f2))) := by have := HQ.out; show _ = _; rw [this]; unfold tabStep; rw [if_pos h1]
    obtain ⟨h2, h3, -, -⟩ := HRT.out.rel h1
    have h2b : decide (0 ≤ e.f2) = true := decide_eq_true h2
    obtain ⟨j, hj⟩ : ∃ j, shl .i64 1 e.f2 = j := ⟨_, rfl⟩
    rw [hj] at HQ2
    have hj1 : (IntKind.i64.wrap (1 * 2 ^ min e.f2.toNat 64)) = j := hj
    have hj2 : (IntKind.i64.wrap (1 * 2 ^ e.f2.toNat)) = j := shl_small hj (by show e.f2 ≤ 64; omega)
    have hj3 : (IntKind.i64.wrap (2 ^ min e.f2.toNat 64)) = j := by have h_ := hj1; rw [Int.one_mul] at h_; exact h_
    have hj4 : (IntKind.i64.wrap (2 ^ e.f2.toNat)) = j := by have h_ := hj2; rw [Int.one_mul] at h_; exact h_
    have hj5 : (wrap64 (1 * 2 ^ min e.f2.toNat 64)) = j := (i64_w _).symm.trans hj1
    have hj6 : (wrap64 (1 * 2 ^ e.f2.toNat)) = j := (i64_w _).symm.trans hj2
    have hj7 : e.f2 ≤ 64 := by omega
    have hmc : w1.cell? ⟨tb, 0, none⟩ = some (.int .i64 s) := (bkC ht1 0).trans rfl
    have hmf : w1.frozen? ⟨tb, 0, none⟩ = false := bkF ht1 0
    go_upto_region 2 with (fail)
    go_region
    go_wp2_with fail
    go_ret
    have hset : (w1.setCell ⟨tb, 0, none⟩ (.int .i64 (bits .or .i64 s j))).heap[tb]? = some (.cells #[.int .i64 (bits .or .i64 s j)] 3 (0, 0)) := blk_set ht1 0 _
    have hT2 : TEnv w0 tb (bits .or .i64 s j) (w1.setCell ⟨tb, 0, none⟩ (.int .i64 (bits .or .i64 s j))).drew :=
      have hS : Below w0.heap.size w0 (w1.setCell ⟨tb, 0, none⟩ (.int .i64 (bits .or .i64 s j))) := HT1.out.below.setCell (p := ⟨tb, 0, none⟩) HT.out.ge _
      ⟨⟨hS.os, hS.tape, hS.output, hS.size, hS.block⟩, HT.out.ge, hset⟩
    have hF2 := (Fr.of HB.out).trans (Fr.set w1 tb 0 (.int .i64 (bits .or .i64 s j)))
    exact ⟨congrArg (fun b => Ending.returned (.bool b)) (congrArg Prod.fst HQ2.out).symm, by rw [HQ2.out]; exact hT2, ⟨hF2.size, hF2.block⟩⟩
  · have HQ2 : Hid (q = (false, s)) := by have := HQ.out; show _ = _; rw [this]; unfold tabStep; rw [if_neg h1]
    go_wp2_with fail
    go_ret
    exact ⟨congrArg (fun b => Ending.returned (.bool b)) (congrArg Prod.fst HQ2.out).symm, by rw [HQ2.out]; exact HT1.out, Fr.of HB.out⟩
theorem tables_env (w0 : World) (tb : Nat) : SomeEnv w0 (some tb) 47 #[.pointer (some ⟨tb, 0, none⟩)] tabStep (TEnv w0 tb) where
  run := hcf47
  base _ _ h := h.below
  old _ _ k h e := by cases e; exact blk_lt h.blk
  later _ _ _ h k := ⟨h.below.trans (k.mono h.below.size), h.ge, (k.block tb (blk_lt h.blk)).trans h.blk⟩
  one e A c s W hRt hR _ _ := tables1_ok w0 tb e A c s W hRt hR
set_option maxRecDepth 100000 in
theorem tables_ok (e : Ex) (A : Option Addr) (c : Nat) (w : World) (hC : Kd.C k26 w A e.f6.length e.f6) (hc : e.f6.length ≤ c) :
    Calls Tryd.prog 16 #[.agg (exC e A c)] w fun r w' => r = .returned (.int .i64 (tabN e)) ∧ Below w.heap.size w w' := by
  have HC := Lib.hid hC
  clear hC
  obtain ⟨b, hb⟩ : ∃ b, tabN e = b := ⟨_, rfl⟩
  rw [hb]
  have HBV := Lib.hid hb.symm; clear hb
  unfold exC
  go_enter Tryd.func16, Tryd.ntmps16
  go_upto_region 2 with (first | ((with_reducible refine gate_dst (N := 1) rfl ?_); refine box_event rfl (N := 1) rfl (cs := exC e A c) (t := 26) (by first | rfl | (go_simp; done) | (go_simp; rfl)) ?_; intro g hgg w1 hbg hBg;  clear hgg) | ((with_reducible refine gate_dst (N := 3) rfl ?_); refine box_event rfl (N := 3) rfl (cs := #[.int .i64 0]) (t := 3) (by first | rfl | (go_simp; done) | (go_simp; rfl)) ?_; intro tb hgg w2 hbtb hBtb;  have htb : w.heap.size ≤ tb := (by have := hBg.size; omega); have hgt : g ≠ tb := (by have := blk_lt hbg; omega); have hmc : w2.cell? ⟨tb, 0, none⟩ = some (.int .i64 0) := ((bkC hbtb 0).trans rfl); have hmf := bkF hbtb 0; clear hgg))
  have hb3 : (w2.setCell ⟨tb, 0, none⟩ (.int .i64 0)).heap[tb]? = some (.cells #[.int .i64 0] 3 (0, 0)) := blk_set hbtb 0 _
  have hg3 : (w2.setCell ⟨tb, 0, none⟩ (.int .i64 0)).heap[g]? = some (.cells (exC e A c) 26 (0, 0)) := blk_far ((hBtb.block g (blk_lt hbg)).trans hbg) hgt _
  have hB3 : Below w.heap.size w (w2.setCell ⟨tb, 0, none⟩ (.int .i64 0)) := (hBg.trans (hBtb.mono hBg.size)).setCell htb _
  clear hmc hmf hbg hBg hbtb hBtb
  generalize w2.setCell ⟨tb, 0, none⟩ (.int .i64 0) = w3 at hb3 hg3 hB3 ⊢
  have hz0 : w3.cell? ⟨g, 0, none⟩ = some (.int .i64 e.f0) := (bkC hg3 0).trans rfl; have hz1 : w3.cell? ⟨g, 1, none⟩ = some (.int .i64 e.f1.f0) := (bkC hg3 1).trans rfl; have hz2 : w3.cell? ⟨g, 2, none⟩ = some (.int .i64 e.f1.f1) := (bkC hg3 2).trans rfl; have hz3 : w3.cell? ⟨g, 3, none⟩ = some (.string e.f1.f2) := (bkC hg3 3).trans rfl; have hz4 : w3.cell? ⟨g, 4, none⟩ = some (.int .i64 e.f2) := (bkC hg3 4).trans rfl; have hz5 : w3.cell? ⟨g, 5, none⟩ = some (.int .i64 e.f3) := (bkC hg3 5).trans rfl; have hz6 : w3.cell? ⟨g, 6, none⟩ = some (.int .i64 e.f4) := (bkC hg3 6).trans rfl; have hz7 : w3.cell? ⟨g, 7, none⟩ = some (.string e.f5) := (bkC hg3 7).trans rfl; have hz8 : w3.cell? ⟨g, 8, none⟩ = some (.slice A e.f6.length c) := (bkC hg3 8).trans rfl
  have HCR := Lib.hid (right_ok e A c w3 (Kd.C_below HC.out hB3) hc)
  unfold exC at HCR
  go_wp2_with fail
  refine HCR.out.mono ?_
  obtain ⟨rb, hrb⟩ : ∃ rb, rightB e = rb := ⟨_, rfl⟩
  rw [hrb]
  have HRB := Lib.hid hrb; clear hrb
  rintro r w4 ⟨rfl, hB4⟩
  have hT4 : TEnv w tb 0 w4 := ⟨hB3.trans (hB4.mono hB3.size), htb, (hB4.block tb (blk_lt hb3)).trans hb3⟩
  clear hz0 hz1 hz2 hz3 hz4 hz5 hz6 hz7 hz8
  have hg4 := (hB4.block g (blk_lt hg3)).trans hg3
  cases rb with
  | false =>
    have HQ2 : Hid (b = 0) := by have := HBV.out; show _ = _; rw [this]; unfold tabN; rw [HRB.out]; rfl
    have hz : w4.cell? ⟨tb, 0, none⟩ = some _ := (bkC hT4.blk 0).trans rfl
    go_wp2_with fail
    go_ret
    exact ⟨congrArg (fun b => Ending.returned (.int .i64 b)) HQ2.out.symm, hT4.below⟩
  | true =>
    have hz0 : w4.cell? ⟨g, 0, none⟩ = some (.int .i64 e.f0) := (bkC hg4 0).trans rfl; have hz1 : w4.cell? ⟨g, 1, none⟩ = some (.int .i64 e.f1.f0) := (bkC hg4 1).trans rfl; have hz2 : w4.cell? ⟨g, 2, none⟩ = some (.int .i64 e.f1.f1) := (bkC hg4 2).trans rfl; have hz3 : w4.cell? ⟨g, 3, none⟩ = some (.string e.f1.f2) := (bkC hg4 3).trans rfl; have hz4 : w4.cell? ⟨g, 4, none⟩ = some (.int .i64 e.f2) := (bkC hg4 4).trans rfl; have hz5 : w4.cell? ⟨g, 5, none⟩ = some (.int .i64 e.f3) := (bkC hg4 5).trans rfl; have hz6 : w4.cell? ⟨g, 6, none⟩ = some (.int .i64 e.f4) := (bkC hg4 6).trans rfl; have hz7 : w4.cell? ⟨g, 7, none⟩ = some (.string e.f5) := (bkC hg4 7).trans rfl; have hz8 : w4.cell? ⟨g, 8, none⟩ = some (.slice A e.f6.length c) := (bkC hg4 8).trans rfl
    have HSM := Lib.hid (some_ok (tables_env w tb) _ e (Nat.lt_succ_self _) A c 0 w4 (Rt.of HRB.out) hT4 hc HC.out)
    unfold exC at HSM
    obtain ⟨q, hq⟩ : ∃ q, (someF tabStep e 0) = q := ⟨_, rfl⟩
    rw [hq] at HSM
    have HQ2 : Hid (b = q.2) := by have := HBV.out; show _ = _; rw [this]; unfold tabN; rw [HRB.out, hq]; rfl
    clear hq
    obtain ⟨q1, q2⟩ := q
    go_wp2_with fail
    refine HSM.out.mono ?_
    rintro r w5 ⟨rfl, hT5, _⟩
    have hz : w5.cell? ⟨tb, 0, none⟩ = some _ := (bkC hT5.blk 0).trans rfl
    go_wp2_with fail
    go_ret
    exact ⟨congrArg (fun b => Ending.returned (.int .i64 b)) HQ2.out.symm, hT5.below⟩
end Go.Proofs.YtkboodfnegedaaaDoor.E
