/- Contracts and plain lemmas of the functions that the law reaches, part 18. -/
import Derived.Test.YtkboodfnegedaaaDoorZB6
namespace Go.Proofs.YtkboodfnegedaaaDoor.E
open Go.RowKit Go.Proofs.YtkboodfnegedaaaDoorW.PrintWords Go.Proofs.YtkboodfnegedaaaDoorW.PrintLast Go.Proofs.YtkboodfnegedaaaDoorW.PrintMore
def safeStep (e : Ex) (_ : Unit) : Bool × Unit := (decide (4 ≤ e.f0 ∧ e.f0 ≤ 8), ())
def safeB (e : Ex) : Bool := rightB e && !(someF safeStep e ()).1
theorem hcf52 : ∀ (args : Array Value) (W : World), (callFunc 52 args).run Tryd.prog W = .ok (.enter 52 args) W := fun args W => by go_simp
set_option maxRecDepth 100000 in
theorem safe1_ok (e : Ex) (A : Option Addr) (c : Nat) (w : World) :
    Calls Tryd.prog 52 #[.agg (exC e A c)] w fun r W' => r = .returned (.bool (decide (4 ≤ e.f0 ∧ e.f0 ≤ 8))) ∧ Below w.heap.size w W' := by
  unfold exC
  obtain ⟨q, hq⟩ : ∃ q, decide (4 ≤ e.f0 ∧ e.f0 ≤ 8) = q := ⟨_, rfl⟩
  rw [hq]
  have HQ := Lib.hid hq; clear hq
  go_enter Tryd.func52, Tryd.ntmps52
  go_upto_region 1 with (first | ((with_reducible refine gate_dst (N := 1) rfl ?_); refine box_event rfl (N := 1) rfl (cs := exC e A c) (t := 26) (by first | rfl | (go_simp; done) | (go_simp; rfl)) ?_; intro g hgg w1 hbg hBg;  clear hgg))
  have hz0 : w1.cell? ⟨g, 0, none⟩ = some (.int .i64 e.f0) := (bkC hbg 0).trans rfl; have hz1 : w1.cell? ⟨g, 1, none⟩ = some (.int .i64 e.f1.f0) := (bkC hbg 1).trans rfl; have hz2 : w1.cell? ⟨g, 2, none⟩ = some (.int .i64 e.f1.f1) := (bkC hbg 2).trans rfl; have hz3 : w1.cell? ⟨g, 3, none⟩ = some (.string e.f1.f2) := (bkC hbg 3).trans rfl; have hz4 : w1.cell? ⟨g, 4, none⟩ = some (.int .i64 e.f2) := (bkC hbg 4).trans rfl; have hz5 : w1.cell? ⟨g, 5, none⟩ = some (.int .i64 e.f3) := (bkC hbg 5).trans rfl; have hz6 : w1.cell? ⟨g, 6, none⟩ = some (.int .i64 e.f4) := (bkC hbg 6).trans rfl; have hz7 : w1.cell? ⟨g, 7, none⟩ = some (.string e.f5) := (bkC hbg 7).trans rfl; have hz8 : w1.cell? ⟨g, 8, none⟩ = some (.slice A e.f6.length c) := (bkC hbg 8).trans rfl
  have HB := Lib.hid hBg
  clear hbg hBg
  by_cases h1 : 4 ≤ e.f0
  · by_cases h2 : e.f0 ≤ 8
    · have HQ2 : Hid (q = true) := by have := HQ.out; show _ = _; rw [← this]; simp [h1, h2]
      go_wp2_with fail
      go_ret
      exact ⟨congrArg (fun b => Ending.returned (.bool b)) HQ2.out.symm, HB.out⟩
    · have HQ2 : Hid (q = false) := by have := HQ.out; show _ = _; rw [← this]; simp [h2]
      go_wp2_with fail
      go_ret
      exact ⟨congrArg (fun b => Ending.returned (.bool b)) HQ2.out.symm, HB.out⟩
  · have HQ2 : Hid (q = false) := by have := HQ.out; show _ = _; rw [← this]; simp [h1]
    go_wp2_with fail
    go_ret
    exact ⟨congrArg (fun b => Ending.returned (.bool b)) HQ2.out.symm, HB.out⟩
theorem safe_env (w0 : World) : SomeEnv w0 none 52 #[] safeStep (fun _ W => Below w0.heap.size w0 W) where
  run := hcf52
  base _ _ h := h
  old _ _ _ _ h := by cases h
  later _ _ _ h k := h.trans (k.mono h.size)
  one e A c s W _ hR _ _ := (safe1_ok e A c W).mono (by
    rintro r W' ⟨rfl, h⟩
    exact ⟨rfl, hR.trans (h.mono hR.size), Fr.of h⟩)
set_option maxRecDepth 100000 in
theorem safe_ok (e : Ex) (A : Option Addr) (c : Nat) (w : World) (hC : Kd.C k26 w A e.f6.length e.f6) (hc : e.f6.length ≤ c) :
    Calls Tryd.prog 21 #[.agg (exC e A c)] w fun r w' => r = .returned (.bool (safeB e)) ∧ Below w.heap.size w w' := by
  have HC := Lib.hid hC
  clear hC
  obtain ⟨b, hb⟩ : ∃ b, safeB e = b := ⟨_, rfl⟩
  rw [hb]
  have HBV := Lib.hid hb.symm; clear hb
  unfold exC
  go_enter Tryd.func21, Tryd.ntmps21
  go_upto_region 1 with (first | ((with_reducible refine gate_dst (N := 1) rfl ?_); refine box_event rfl (N := 1) rfl (cs := exC e A c) (t := 26) (by first | rfl | (go_simp; done) | (go_simp; rfl)) ?_; intro g hgg w1 hbg hBg;  clear hgg))
  have hz0 : w1.cell? ⟨g, 0, none⟩ = some (.int .i64 e.f0) := (bkC hbg 0).trans rfl; have hz1 : w1.cell? ⟨g, 1, none⟩ = some (.int .i64 e.f1.f0) := (bkC hbg 1).trans rfl; have hz2 : w1.cell? ⟨g, 2, none⟩ = some (.int .i64 e.f1.f1) := (bkC hbg 2).trans rfl; have hz3 : w1.cell? ⟨g, 3, none⟩ = some (.string e.f1.f2) := (bkC hbg 3).trans rfl; have hz4 : w1.cell? ⟨g, 4, none⟩ = some (.int .i64 e.f2) := (bkC hbg 4).trans rfl; have hz5 : w1.cell? ⟨g, 5, none⟩ = some (.int .i64 e.f3) := (bkC hbg 5).trans rfl; have hz6 : w1.cell? ⟨g, 6, none⟩ = some (.int .i64 e.f4) := (bkC hbg 6).trans rfl; have hz7 : w1.cell? ⟨g, 7, none⟩ = some (.string e.f5) := (bkC hbg 7).trans rfl; have hz8 : w1.cell? ⟨g, 8, none⟩ = some (.slice A e.f6.length c) := (bkC hbg 8).trans rfl
  have HCR := Lib.hid (right_ok e A c w1 (Kd.C_below HC.out hBg) hc)
  unfold exC at HCR
  go_wp2_with fail
  refine HCR.out.mono ?_
  obtain ⟨rb, hrb⟩ : ∃ rb, rightB e = rb := ⟨_, rfl⟩
  rw [hrb]
  have HRB := Lib.hid hrb; clear hrb
  rintro r w2 ⟨rfl, hB2⟩
  have hBB : Below w.heap.size w w2 := hBg.trans (hB2.mono hBg.size)
  clear hz0 hz1 hz2 hz3 hz4 hz5 hz6 hz7 hz8
  have hg2 := (hB2.block g (blk_lt hbg)).trans hbg
  cases rb with
  | false =>
    have HQ2 : Hid (b = false) := by have := HBV.out; show _ = _; rw [this]; unfold safeB; rw [HRB.out]; rfl
    go_wp2_with fail
    go_ret
    exact ⟨congrArg (fun b => Ending.returned (.bool b)) HQ2.out.symm, hBB⟩
  | true =>
    have hz0 : w2.cell? ⟨g, 0, none⟩ = some (.int .i64 e.f0) := (bkC hg2 0).trans rfl; have hz1 : w2.cell? ⟨g, 1, none⟩ = some (.int .i64 e.f1.f0) := (bkC hg2 1).trans rfl; have hz2 : w2.cell? ⟨g, 2, none⟩ = some (.int .i64 e.f1.f1) := (bkC hg2 2).trans rfl; have hz3 : w2.cell? ⟨g, 3, none⟩ = some (.string e.f1.f2) := (bkC hg2 3).trans rfl; have hz4 : w2.cell? ⟨g, 4, none⟩ = some (.int .i64 e.f2) := (bkC hg2 4).trans rfl; have hz5 : w2.cell? ⟨g, 5, none⟩ = some (.int .i64 e.f3) := (bkC hg2 5).trans rfl; have hz6 : w2.cell? ⟨g, 6, none⟩ = some (.int .i64 e.f4) := (bkC hg2 6).trans rfl; have hz7 : w2.cell? ⟨g, 7, none⟩ = some (.string e.f5) := (bkC hg2 7).trans rfl; have hz8 : w2.cell? ⟨g, 8, none⟩ = some (.slice A e.f6.length c) := (bkC hg2 8).trans rfl
    have HSM := Lib.hid (some_ok (safe_env w) _ e (Nat.lt_succ_self _) A c () w2 (Rt.of HRB.out) hBB hc HC.out)
    unfold exC at HSM
    obtain ⟨q, hq⟩ : ∃ q, (someF safeStep e ()) = q := ⟨_, rfl⟩
    rw [hq] at HSM
    have HQ2 : Hid (b = !q.1) := by have := HBV.out; show _ = _; rw [this]; unfold safeB; rw [HRB.out, hq]; rfl
    clear hq
    obtain ⟨q1, q2⟩ := q
    go_wp2_with fail
    refine HSM.out.mono ?_
    rintro r w3 ⟨rfl, hB3, _⟩
    go_wp2_with fail
    go_ret
    exact ⟨congrArg (fun b => Ending.returned (.bool b)) HQ2.out.symm, hB3⟩
end Go.Proofs.YtkboodfnegedaaaDoor.E
