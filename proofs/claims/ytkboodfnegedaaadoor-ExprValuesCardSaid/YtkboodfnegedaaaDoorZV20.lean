/- Contracts and plain lemmas of the functions that the law reaches, part 20. -/
import Derived.Test.YtkboodfnegedaaaDoorZV3
import Derived.Test.YtkboodfnegedaaaDoorZV4
import Derived.Test.YtkboodfnegedaaaDoorZV13
import Derived.Test.YtkboodfnegedaaaDoorZV14
import Derived.Test.YtkboodfnegedaaaDoorZV15
import Derived.Test.YtkboodfnegedaaaDoorZV19
namespace Go.Proofs.YtkboodfnegedaaaDoor.E
set_option linter.unusedSimpArgs false
set_option linter.unusedVariables false
open Go.RowKit Go.Proofs.YtkboodfnegedaaaDoorW.PrintWords Go.Proofs.YtkboodfnegedaaaDoorW.PrintLast Go.Proofs.YtkboodfnegedaaaDoorW.PrintMore
def inV (q : Va × Int) : Prop := in64 q.1.f1
theorem in64_0 : in64 0 := by unfold in64; omega
theorem in64_1 : in64 1 := by unfold in64; omega
theorem inV_zero (c : Int) : inV (zeroV, c) := in64_0
theorem inV_num (n c : Int) : inV (numV (wrap64 n), c) := wrap64_in n
theorem inV_truth (b : Bool) (c : Int) : inV (truthV b, c) := by cases b; exact in64_0; exact in64_1
theorem inV_ite {c : Prop} [Decidable c] {x y : Va × Int} (hx : inV x) (hy : inV y) : inV (if c then x else y) := by split; exact hx; exact hy
theorem inV_orNull {k : Int} {l : List Va} {o : Va × Int} (h : inV o) : inV (orNull k l o) := by
  unfold orNull; split
  · exact inV_zero _
  · exact h
theorem inV_add (a b : Va) : inV (addV a b) := inV_orNull (by split; exact inV_zero _; exact inV_num _ _)
theorem inV_sub (a b : Va) : inV (subV a b) := inV_orNull (by split; exact inV_zero _; exact inV_num _ _)
theorem inV_div (a b : Va) : inV (divV a b) := inV_orNull (by
  split
  · exact inV_zero _
  · split
    · exact inV_zero _
    · exact inV_num _ _)
theorem inV_neg (a : Va) : inV (negV a) := inV_orNull (inV_sub _ _)
theorem inV_not (a : Va) : inV (notV a) := inV_orNull (inV_truth _ _)
theorem inV_dec (o : Bool) (a b : Va) : inV (decV o a b) := by
  unfold decV
  repeat' split
  all_goals first | exact inV_truth _ _ | exact inV_zero _
theorem inV_mulR (a b : Int) : inV (mulR a b) := by
  unfold mulR
  repeat' split
  all_goals first | exact inV_zero _ | exact wrap64_in _
theorem inV_mul (a b : Va) : inV (mulV a b) := by
  unfold mulV; split
  · exact inV_zero _
  · exact inV_mulR _ _
theorem inV_test (op : Int) (a b : Va) : inV (testV op a b) := by
  unfold testV
  refine inV_ite (inV_zero _) (inV_ite (inV_zero _) ?_)
  exact inV_truth (holdV op (cmpV a b)) 0
theorem inV_op (op : Int) (a b : Va) : inV (opV op a b) := by
  unfold opV
  exact inV_ite (inV_add _ _) (inV_ite (inV_sub _ _) (inV_ite (inV_mul _ _) (inV_ite (inV_div _ _) (inV_ite (inV_neg _) (inV_ite (inV_dec _ _ _) (inV_ite (inV_dec _ _ _) (inV_ite (inV_not _) (inV_ite (inV_truth _ _) (inV_test _ _ _)))))))))
def InR (rows : List (List Va)) (ps : List Va) : Prop := (∀ r ∈ rows, ∀ v ∈ r, in64 v.f1) ∧ ∀ v ∈ ps, in64 v.f1
theorem inV_get {l : List Va} (h : ∀ v ∈ l, in64 v.f1) (n : Nat) : in64 (l.getD n zeroV).f1 := by
  rw [List.getD_eq_getElem?_getD]
  cases hl : l[n]? with
  | none => exact in64_0
  | some v => exact h v (List.mem_of_getElem? hl)
theorem inV_at {e : Ex} {rows : List (List Va)} {ps : List Va} (h : InR rows ps) (he : e.f0 = 2 ∨ e.f0 = 3) : in64 (atG zeroV e rows ps).1.f1 := by
  unfold atG
  by_cases h2 : e.f0 = 2
  · rw [if_pos h2]
    split
    · refine inV_get (fun v hv => ?_) _
      rw [List.getD_eq_getElem?_getD] at hv
      cases hl : rows[e.f2.toNat]? with
      | none => rw [hl] at hv; simp at hv
      | some r => rw [hl] at hv; exact h.1 r (List.mem_of_getElem? hl) v hv
    · exact in64_0
  · rw [if_neg h2, if_pos (he.resolve_left h2)]
    split
    · exact inV_get h.2 _
    · exact in64_0
theorem inV_eval {e : Ex} {rows : List (List Va)} {ps : List Va} (h : InR rows ps) (he : e.f0 = 1 → in64 e.f1.f1) : in64 (evalF e rows ps).1.f1 := by
  rw [evalF_eq]
  by_cases h1 : e.f0 = 1
  · rw [if_pos h1]; exact he h1
  · rw [if_neg h1]
    by_cases h23 : e.f0 = 2 ∨ e.f0 = 3
    · rw [if_pos h23]; exact inV_at h h23
    · rw [if_neg h23]
      cases evalL e.f6 rows ps with
      | error x => exact in64_0
      | ok l => exact inV_op _ _ _
theorem evalL_in {rows : List (List Va)} {ps : List Va} (l : List Ex) (h : ∀ x ∈ l, in64 (evalF x rows ps).1.f1) : ∀ vs, evalL l rows ps = .ok vs → ∀ v ∈ vs, in64 v.f1 := by
  induction l with
  | nil => intro vs hv v hm; rw [evalL] at hv; cases hv; simp at hm
  | cons x l ih =>
    intro vs hv v hm
    rw [evalL] at hv
    split at hv
    · split at hv
      · cases hv
      · rename_i l' hl
        cases hv
        rcases List.mem_cons.1 hm with rfl | hm
        · exact h x (by simp)
        · exact ih (fun y hy => h y (by simp [hy])) _ hl v hm
    · cases hv
end Go.Proofs.YtkboodfnegedaaaDoor.E
namespace Go.Proofs.YtkboodfnegedaaaDoor.E
open Go.RowKit Go.Proofs.YtkboodfnegedaaaDoorW.PrintWords Go.Proofs.YtkboodfnegedaaaDoorW.PrintLast Go.Proofs.YtkboodfnegedaaaDoorW.PrintMore
theorem addR_ok (a b : Va) (ha : in64 a.f1) (hb : in64 b.f1) (w : World) : Calls Tryd.prog 74 #[.agg (vaC a), .agg (vaC b)] w (VP (addV a b) w) := q01_Add.calls 9 a.f0 a.f1 a.f2 b.f0 b.f1 b.f2 _ _ _ _ w (addR_f a b ha hb)
theorem subR_ok (a b : Va) (ha : in64 a.f1) (hb : in64 b.f1) (w : World) : Calls Tryd.prog 75 #[.agg (vaC a), .agg (vaC b)] w (VP (subV a b) w) := q01_Sub.calls 9 a.f0 a.f1 a.f2 b.f0 b.f1 b.f2 _ _ _ _ w (subR_f a b ha hb)
theorem mulR_ok (a b : Va) (ha : in64 a.f1) (hb : in64 b.f1) (w : World) : Calls Tryd.prog 76 #[.agg (vaC a), .agg (vaC b)] w (VP (mulV a b) w) := q01_Mul.calls 9 a.f0 a.f1 a.f2 b.f0 b.f1 b.f2 _ _ _ _ w (mulR_f a b ha hb)
theorem divR_ok (a b : Va) (w : World) : Calls Tryd.prog 77 #[.agg (vaC a), .agg (vaC b)] w (VP (divV a b) w) := q01_Div.calls 9 a.f0 a.f1 a.f2 b.f0 b.f1 b.f2 _ _ _ _ w (divR_f a b)
theorem negR_ok (a : Va) (ha : in64 a.f1) (w : World) : Calls Tryd.prog 78 #[.agg (vaC a)] w (VP (negV a) w) := q01_Neg.calls a.f0 a.f1 a.f2 _ _ _ _ w (negR_f a ha)
theorem andR_ok (a b : Va) (w : World) : Calls Tryd.prog 79 #[.agg (vaC a), .agg (vaC b)] w (VP (andV a b) w) := q01_And.calls 9 a.f0 a.f1 a.f2 b.f0 b.f1 b.f2 _ _ _ _ w (andR_f a b)
theorem orR_ok (a b : Va) (w : World) : Calls Tryd.prog 80 #[.agg (vaC a), .agg (vaC b)] w (VP (orV a b) w) := q01_Or.calls 9 a.f0 a.f1 a.f2 b.f0 b.f1 b.f2 _ _ _ _ w (orR_f a b)
theorem notR_ok (a : Va) (w : World) : Calls Tryd.prog 81 #[.agg (vaC a)] w (VP (notV a) w) := q01_Not.calls a.f0 a.f1 a.f2 _ _ _ _ w (notR_f a)
theorem testR_ok (op : Int) (a b : Va) (w : World) : Calls Tryd.prog 83 #[.int .i64 op, .agg (vaC a), .agg (vaC b)] w (VP (testV op a b) w) := q01_Test.calls 9 op a.f0 a.f1 a.f2 b.f0 b.f1 b.f2 _ _ _ _ w (testR_f op a b)
theorem truthR_ok (b : Bool) (w : World) : Calls Tryd.prog 82 #[.bool b] w fun r w' => r = .returned (.agg #[.int .i64 2, .int .i64 (if b = true then 1 else 0), .string ⟨#[]⟩]) ∧ Below w.heap.size w w' := q01_Truth.calls b _ _ _ w (truthR_f b)
def EvalROk (e : Ex) : Prop := ∀ (A A1 A2 : Option Addr) (c c1 c2 : Nat) (rows : List (List Va)) (ps : List Va) (w : World), Rt e → rngF e = true → InR rows ps → (someF (lackV rows ps) e ()).1 = false → Kd.C k26 w A e.f6.length e.f6 → e.f6.length ≤ c → Kd.C (Kd.slice 23 k23) w A1 rows.length rows → rows.length ≤ c1 → Kd.C k23 w A2 ps.length ps → ps.length ≤ c2 →
  Calls Tryd.prog 46 #[.agg (exC e A c), .slice A1 rows.length c1, .slice A2 ps.length c2] w (VP (evalF e rows ps) w)
structure RInv (w2 : World) (e : Ex) (rows : List (List Va)) (ps : List Va) (k : Nat) (vs : List Va) (u : Value) (w : World) : Prop where
  below : Below w2.heap.size w2 w
  got : evalL (e.f6.take k) rows ps = .ok vs
  le : vs.length = k
  own : Kd.R k23 23 w w2.heap.size (fun _ => True) u vs
theorem RInv.later {w2 w w' : World} {e : Ex} {rows : List (List Va)} {ps : List Va} {k : Nat} {vs : List Va} {u : Value} (h : RInv w2 e rows ps k vs u w) (hb : Below w.heap.size w w') : RInv w2 e rows ps k vs u w' :=
  ⟨h.below.trans (hb.mono h.below.size), h.got, h.le, Kd.R_below h.own hb⟩
theorem infoVA : (Tryd.prog.info? 23).map (fun i => (i.zero, i.size, i.bytes)) = some (some (.agg (vaC zeroV)), 3, 32) := by kernel_rfl
theorem rng_in {x : Ex} (h : rngF x = true) : in64 x.f1.f1 := by rw [rngF_eq, Bool.and_eq_true] at h; unfold in64; exact of_decide_eq_true h.1
theorem wants_n {n k : Nat} {op m : Int} (h : (n : Int) = wantsI op) (hm : op = m) (hk : wantsI m = k) : n = k := by rw [hm, hk] at h; omega
theorem wants_else {n : Nat} {op : Int} (h : (n : Int) = wantsI op) (h1 : op ≠ 1) (h2 : op ≠ 2) (h3 : op ≠ 3) (h8 : op ≠ 8) (h17 : op ≠ 17) (h18 : op ≠ 18) : n = 2 := by
  by_cases ha : op < 1
  · have : wantsI op = -1 := by unfold wantsI; rw [if_pos ha]
    omega
  · by_cases hb : op ≥ 19
    · have : wantsI op = -1 := by unfold wantsI; rw [if_neg ha, if_pos hb]
      omega
    · rcases wants_case op (by omega) (by omega) with e | e | e | e | e | e | e | e | e | e | e | e | e | e | e | e | e | e <;> first | exact absurd e (by assumption) | exact wants_n h e rfl
theorem len_one {l : List Va} (h : l.length = 1) : ∃ a, l = [a] := by
  match l, h with
  | [a], _ => exact ⟨a, rfl⟩
theorem len_two {l : List Va} (h : l.length = 2) : ∃ a b, l = [a, b] := by
  match l, h with
  | [a, b], _ => exact ⟨a, b, rfl⟩
theorem own_two_at {w : World} {base : Nat} {u : Value} {a b : Va} (h : Kd.R k23 23 w base (fun _ => True) u [a, b]) : ∃ gb cap, u = .slice (some ⟨gb, 0, none⟩) 2 cap ∧ w.cell? ⟨gb, 0, none⟩ = some (.int .i64 a.f0) ∧ w.cell? ⟨gb, 1, none⟩ = some (.int .i64 a.f1) ∧ w.cell? ⟨gb, 2, none⟩ = some (.string a.f2) ∧ w.cell? ⟨gb, 3, none⟩ = some (.int .i64 b.f0) ∧ w.cell? ⟨gb, 4, none⟩ = some (.int .i64 b.f1) ∧ w.cell? ⟨gb, 5, none⟩ = some (.string b.f2) := by
  have h' := h
  obtain ⟨_, inner, hown, _⟩ := h'
  obtain ⟨gb, cap, rfl, _⟩ := hown.form (show 0 < 2 by decide)
  have hC := (Kd.R_reads' h).2.2
  obtain ⟨ad, ha, h0, h1, h2⟩ := at_T23 hC 0 (by decide) (by show (0 : Int) < 2; decide)
  cases ha
  obtain ⟨ad, ha, h3, h4, h5⟩ := at_T23 hC 1 (by decide) (by show (1 : Int) < 2; decide)
  cases ha
  exact ⟨gb, cap, rfl, h0, h1, h2, h3, h4, h5⟩
theorem own_one_at {w : World} {base : Nat} {u : Value} {a : Va} (h : Kd.R k23 23 w base (fun _ => True) u [a]) : ∃ gb cap, u = .slice (some ⟨gb, 0, none⟩) 1 cap ∧ w.cell? ⟨gb, 0, none⟩ = some (.int .i64 a.f0) ∧ w.cell? ⟨gb, 1, none⟩ = some (.int .i64 a.f1) ∧ w.cell? ⟨gb, 2, none⟩ = some (.string a.f2) := by
  have h' := h
  obtain ⟨_, inner, hown, _⟩ := h'
  obtain ⟨gb, cap, rfl, _⟩ := hown.form (show 0 < 1 by decide)
  have hC := (Kd.R_reads' h).2.2
  obtain ⟨ad, ha, h0, h1, h2⟩ := at_T23 hC 0 (by decide) (by show (0 : Int) < 1; decide)
  cases ha
  exact ⟨gb, cap, rfl, h0, h1, h2⟩
theorem lack_own {e : Ex} {rows : List (List Va)} {ps : List Va} (h : (someF (lackV rows ps) e ()).1 = false) : (atG zeroV e rows ps).2 = true ∧ ∀ x ∈ e.f6, (someF (lackV rows ps) x ()).1 = false := by
  rw [someF_eq] at h
  split at h
  · simp at h
  · rename_i h1
    have h1 : (lackV rows ps e ()).1 = false := Bool.eq_false_iff.mpr h1
    unfold lackV at h1
    refine ⟨by simpa using h1, ?_⟩
    have hl : ∀ l : List Ex, (someL (lackV rows ps) l ()).1 = false → ∀ x ∈ l, (someF (lackV rows ps) x ()).1 = false := by
      intro l
      induction l with
      | nil => intro _ x hx; simp at hx
      | cons y l ih =>
        intro hy x hx
        rw [someL] at hy
        split at hy
        · simp at hy
        · rename_i h2
          rcases List.mem_cons.1 hx with rfl | hx
          · exact Bool.eq_false_iff.mpr h2
          · exact ih hy x hx
    exact hl e.f6 h
set_option maxHeartbeats 8000000 in
set_option maxRecDepth 100000 in
theorem evalR_step (e : Ex) (ih : ∀ x ∈ e.f6, EvalROk x) : EvalROk e := by
  intro A A1 A2 c c1 c2 rows ps w hRt hrg hin hlk hC hc hC1 hc1 hC2 hc2
  have IH := Lib.hid ih; have HC := Lib.hid hC; have HC1 := Lib.hid hC1; have HC2 := Lib.hid hC2; have HRT := Lib.hid hRt; have HRG := Lib.hid hrg; have HIN := Lib.hid hin; have HLK := Lib.hid (lack_own hlk)
  clear ih hC hC1 hC2 hRt hrg hin hlk
  obtain ⟨q, hq⟩ : ∃ q, evalF e rows ps = q := ⟨_, rfl⟩
  rw [hq]
  rw [evalF_eq] at hq
  have HQ := Lib.hid hq.symm; clear hq
  unfold exC
  go_enter Tryd.func46, Tryd.ntmps46
  go_upto_region 1 with (first | ((with_reducible refine gate_dst (N := 3) rfl ?_); refine box_event rfl (N := 3) rfl (cs := exC e A c) (t := 26) (by first | rfl | (go_simp; done) | (go_simp; rfl)) ?_; intro g hgg w1 hbg hBg;  clear hgg) | ((with_reducible refine gate_dst (N := 6) rfl ?_); refine box_event rfl (N := 6) rfl (cs := vaC zeroV) (t := 23) (by first | rfl | (go_simp; done) | (go_simp; rfl)) ?_; intro rb hgg w2 hbrb hBrb;  have hrb : w.heap.size ≤ rb := (by have := hBg.size; omega); have hgr : g ≠ rb := (by have := blk_lt hbg; omega); clear hgg))
  have hg2 := (hBrb.block g (blk_lt hbg)).trans hbg
  have HB := Lib.hid (hBg.trans (hBrb.mono hBg.size))
  clear hbg hBg hBrb
  obtain ⟨hz0, hz1, hz2, hz3, hz4, hz5, hz6, hz7, hz8⟩ := bkC9 hg2
  by_cases h1 : e.f0 = 1
  · have HQ2 : Hid (q = (e.f1, 0)) := by have := HQ.out; rw [if_pos h1] at this; exact this
    obtain ⟨hr0, hr1, hr2⟩ := bkC3 hbrb; have hf0 := bkF hbrb 0; have hf1 := bkF hbrb 1; have hf2 := bkF hbrb 2
    replace h1 : (e.f0 == 1) = true := beq_iff_eq.mpr h1
    go_wp2_with fail
    refine bodyPost_ret (results_ct rfl _ _ rb 23 (vaC e.f1) (0, 0) _ rfl ?blk Tryd.underlying23 rfl info_va) rfl ?_; (case blk => exact va_put hbrb e.f1); exact ⟨by rw [HQ2.out]; rfl, by (repeat refine below_drewN' ?_); exact va_below HB.out hrb e.f1⟩
  · by_cases h2 : e.f0 = 2
    · obtain ⟨p1, -, p2, -⟩ := HRT.out.rel h2
      have HQ2 : Hid (q = ((atG zeroV e rows ps).1, 0)) := by have := HQ.out; rw [if_neg h1, if_pos (.inl h2)] at this; exact this
      have hat := HLK.out.1
      unfold atG at hat HQ2
      rw [if_pos h2] at hat HQ2
      have h34 : e.f2 < (rows.length : Int) ∧ e.f3 < ((rows.getD e.f2.toNat []).length : Int) := by
        by_cases h : e.f2 < (rows.length : Int) ∧ e.f3 < ((rows.getD e.f2.toNat []).length : Int)
        · exact h
        · rw [if_neg h] at hat; simp at hat
      rw [if_pos h34] at HQ2
      obtain ⟨h3, h4⟩ := h34
      clear hat
      obtain ⟨ad, A0, c0, rfl, hx, hl0, hC0⟩ := at_L6 (Kd.C_below HC1.out HB.out) e.f2 p1 h3
      obtain ⟨L, hL⟩ : ∃ L, rows.getD e.f2.toNat [] = L := ⟨_, rfl⟩
      replace hx : w2.cell? (ad.add e.f2.toNat) = some (.slice A0 L.length c0) := by rw [← hL]; exact hx
      replace hC0 : Kd.C k23 w2 A0 L.length L := by rw [← hL]; exact hC0
      rw [hL] at h4 HQ2
      have HC0 := Lib.hid hC0
      clear hC0 hL
      obtain ⟨ad0, rfl, hv0, hv1, hv2⟩ := at_T23 HC0.out e.f3 p2 h4
      obtain ⟨v, hv⟩ : ∃ v, rd_T23 L e.f3 = v := ⟨_, rfl⟩
      rw [hv] at hv0 hv1 hv2
      replace HQ2 : Hid (q = (v, 0)) := by rw [← hv]; exact HQ2
      obtain ⟨hr0, hr1, hr2⟩ := bkC3 hbrb; have hf0 := bkF hbrb 0; have hf1 := bkF hbrb 1; have hf2 := bkF hbrb 2
      replace h1 : (e.f0 == 1) = false := beq_eq_false_iff_ne.mpr h1
      replace h2 : (e.f0 == 2) = true := beq_iff_eq.mpr h2
      clear hv
      go_upto_region 5 with (fail)
      go_region
      go_wp2_with fail
      refine bodyPost_ret (results_ct rfl _ _ rb 23 (vaC v) (0, 0) _ rfl ?blk Tryd.underlying23 rfl info_va) rfl ?_; (case blk => exact va_put hbrb v); exact ⟨by rw [HQ2.out]; rfl, by (repeat refine below_drewN' ?_); exact va_below HB.out hrb v⟩
    · by_cases h3 : e.f0 = 3
      · obtain ⟨p1, p2⟩ := HRT.out.par h3
        have HQ2 : Hid (q = ((atG zeroV e rows ps).1, 0)) := by have := HQ.out; rw [if_neg h1, if_pos (.inr h3)] at this; exact this
        have hat := HLK.out.1
        unfold atG at hat HQ2
        rw [if_neg h2, if_pos h3] at hat HQ2
        have h4 : e.f4 ≤ (ps.length : Int) := by
          by_cases h : e.f4 ≤ (ps.length : Int)
          · exact h
          · rw [if_neg h] at hat; simp at hat
        rw [if_pos h4] at HQ2
        clear hat
        have hw : wrap64 (e.f4 - 1) = e.f4 - 1 := wrap64_pred p1 p2
        obtain ⟨m, hm⟩ : ∃ m, e.f4 - 1 = m := ⟨_, rfl⟩
        rw [hm] at hw HQ2
        have q1 : 0 ≤ m := by omega
        have q2 : m < (ps.length : Int) := by omega
        obtain ⟨ad0, rfl, hv0, hv1, hv2⟩ := at_T23 (Kd.C_below HC2.out HB.out) m q1 q2
        obtain ⟨v, hv⟩ : ∃ v, rd_T23 ps m = v := ⟨_, rfl⟩
        rw [hv] at hv0 hv1 hv2
        replace HQ2 : Hid (q = (v, 0)) := by rw [← hv]; exact HQ2
        have hw2 : IntKind.i64.wrap m = m := (i64_w _).trans hw
        obtain ⟨hr0, hr1, hr2⟩ := bkC3 hbrb; have hf0 := bkF hbrb 0; have hf1 := bkF hbrb 1; have hf2 := bkF hbrb 2
        replace h1 : (e.f0 == 1) = false := beq_eq_false_iff_ne.mpr h1
        replace h2 : (e.f0 == 2) = false := beq_eq_false_iff_ne.mpr h2
        replace h3 : (e.f0 == 3) = true := beq_iff_eq.mpr h3
        clear hv
        go_wp2_with fail
        refine bodyPost_ret (results_ct rfl _ _ rb 23 (vaC v) (0, 0) _ rfl ?blk Tryd.underlying23 rfl info_va) rfl ?_; (case blk => exact va_put hbrb v); exact ⟨by rw [HQ2.out]; rfl, by (repeat refine below_drewN' ?_); exact va_below HB.out hrb v⟩
      · have HQ2 : Hid (q = opL e.f0 (evalL e.f6 rows ps)) := by have := HQ.out; rw [if_neg h1, if_neg (fun h => h.elim h2 h3)] at this; exact this
        replace h1 : (e.f0 == 1) = false := beq_eq_false_iff_ne.mpr h1
        replace h2 : (e.f0 == 2) = false := beq_eq_false_iff_ne.mpr h2
        replace h3 : (e.f0 == 3) = false := beq_eq_false_iff_ne.mpr h3
        have hK0 : RInv w2 e rows ps 0 [] (.slice none 0 0) w2 := ⟨Below.refl _ _, by simp [evalL], rfl, Kd.R_nil _ _ _ _ _⟩
        have HK0 := Lib.hid hK0; clear hK0
        have BG2 := Lib.hid hg2; have BR2 := Lib.hid hbrb
        clear hg2 hbrb
        have HLN : Hid (e.f6.length ≤ 2) := HRT.out.len
        obtain ⟨n, hn⟩ : ∃ n, e.f6.length = n := ⟨_, rfl⟩
        have HN := Lib.hid hn
        have hn2 : n ≤ 2 := by have h : e.f6.length ≤ 2 := HLN.out; omega
        simp only [hn]
        go_wp2_with fail
        go_loopw [8, 9] (fun v8 v9 wr => ∃ (k : Nat) (vs : List Va), k ≤ n ∧ v9 = .int .i64 k ∧ Hid (RInv w2 e rows ps k vs v8 wr)) (fun _ i _ => n - (intOf i).toNat)
        case atStart => exact ⟨0, [], Nat.zero_le _, rfl, HK0⟩
        case round =>
          obtain ⟨k, vs, hk, rfl, HK⟩ := hrel
          clear hz0 hz1 hz2 hz3 hz4 hz5 hz6 hz7 hz8
          have BGr := Lib.hid ((HK.out.below.block g (blk_lt BG2.out)).trans BG2.out)
          obtain ⟨hz0, hz1, hz2, hz3, hz4, hz5, hz6, hz7, hz8⟩ := bkC9 BGr.out
          by_cases hlt : k < n
          · have hlt' : (k : Int) < n := by omega
            rw [hn] at HC
            obtain ⟨ad, A8, c8, x, rfl, HE, h0, h1, h2, h3, h4, h5, h6, h7, h8, hc8, hC8⟩ := at_ex (Kd.C_below HC.out HB.out) hn k hlt
            replace HE := Lib.hid HE
            have HC8 := Lib.hid hC8; clear hC8
            replace h0 := pw_cell_below HK.out.below h0; replace h1 := pw_cell_below HK.out.below h1; replace h2 := pw_cell_below HK.out.below h2; replace h3 := pw_cell_below HK.out.below h3; replace h4 := pw_cell_below HK.out.below h4; replace h5 := pw_cell_below HK.out.below h5; replace h6 := pw_cell_below HK.out.below h6; replace h7 := pw_cell_below HK.out.below h7; replace h8 := pw_cell_below HK.out.below h8
            have hx : x ∈ e.f6 := by have h := HE.out; rw [List.getElem?_eq_some_iff] at h; obtain ⟨h, h'⟩ := h; exact h' ▸ List.getElem_mem h
            have HT : Hid (evalL (e.f6.take (k + 1)) rows ps = if (evalF x rows ps).2 = 0 then .ok (vs ++ [(evalF x rows ps).1]) else .error (evalF x rows ps).2) := by
              have h := HE.out; rw [List.getElem?_eq_some_iff] at h; obtain ⟨h, h'⟩ := h
              rw [List.take_succ_eq_append_getElem h, evalL_snoc _ _ _ _ _ HK.out.got, h']; exact Lib.hid rfl
            have hrx : rngF x = true := by have h := HRG.out; rw [rngF_eq, Bool.and_eq_true] at h; exact rngL_mem h.2 hx
            have HBr := Lib.hid (HB.out.trans (HK.out.below.mono HB.out.size))
            have HCALL := Lib.hid (IH.out x hx A8 A1 A2 c8 c1 c2 rows ps wr (HRT.out.kid hx) hrx HIN.out (HLK.out.2 x hx) (Kd.C_below HC8.out HK.out.below) hc8 (Kd.C_below HC1.out HBr.out) hc1 (Kd.C_below HC2.out HBr.out) hc2)
            clear hx HE hrx
            obtain ⟨p, hp⟩ : ∃ p, evalF x rows ps = p := ⟨_, rfl⟩
            rw [hp] at HCALL HT
            clear hp
            obtain ⟨v, err⟩ := p
            replace HCALL : Hid (Calls Tryd.prog 46 #[.agg #[.int .i64 x.f0, .int .i64 x.f1.f0, .int .i64 x.f1.f1, .string x.f1.f2, .int .i64 x.f2, .int .i64 x.f3, .int .i64 x.f4, .string x.f5, .slice A8 x.f6.length c8], .slice A1 rows.length c1, .slice A2 ps.length c2] wr fun r w' => r = .returned (.tuple #[.agg #[.int .i64 v.f0, .int .i64 v.f1, .string v.f2], .int .i64 err]) ∧ Below wr.heap.size wr w') := HCALL
            go_upto_region 13 with (first | (go_at_call 46; refine HCALL.out.mono ?_; rintro r w6 ⟨rfl, hB6⟩; have HK6 := Lib.hid (HK.out.later hB6)) | ((with_reducible refine gate_dst (N := 10) rfl ?_); refine box_event rfl (N := 10) rfl (cs := vaC zeroV) (t := 23) (by first | rfl | (go_simp; done) | (go_simp; rfl)) ?_; intro vb hgg w7 hbvb hBvb;  have hvb : w6.heap.size ≤ vb := (by omega); obtain ⟨hd0, hd1, hd2⟩ := bkC3 hbvb; have he0 := bkF hbvb 0; have he1 := bkF hbvb 1; have he2 := bkF hbvb 2; clear hgg))
            have hv8 := va_put hbvb v
            have HK8 := Lib.hid (HK6.out.later (va_below hBvb hvb v))
            clear hd0 hd1 hd2 he0 he1 he2 hbvb hBvb HK6 HCALL hB6 hz0 hz1 hz2 hz3 hz4 hz5 hz6 hz7 hz8 h0 h1 h2 h3 h4 h5 h6 h7 h8
            generalize ((w7.setCell ⟨vb, 0, none⟩ (.int .i64 v.f0)).setCell ⟨vb, 1, none⟩ (.int .i64 v.f1)).setCell ⟨vb, 2, none⟩ (.string v.f2) = w8 at hv8 HK8 ⊢
            have HB8 := Lib.hid (HB.out.trans (HK8.out.below.mono HB.out.size))
            by_cases herr : err = 0
            · have HT2 : Hid (evalL (e.f6.take (k + 1)) rows ps = .ok (vs ++ [v])) := by have h := HT.out; rw [if_pos herr] at h; exact Lib.hid h
              replace herr : (err != 0) = false := bne_eq_false_iff_eq.mpr herr
              have hd0 : w8.cell? ⟨vb, 0, none⟩ = some (.int .i64 v.f0) := ((bkC hv8 0).trans rfl)
              have hd1 : w8.cell? ⟨vb, 1, none⟩ = some (.int .i64 v.f1) := ((bkC hv8 1).trans rfl)
              have hd2 : w8.cell? ⟨vb, 2, none⟩ = some (.string v.f2) := ((bkC hv8 2).trans rfl)
              obtain ⟨A5, c5, rfl, -, -⟩ := Kd.R_reads HK8.out.own
              have hkl : vs.length ≤ 2 := by have := HK8.out.le; omega
              go_wp2_with ((with_reducible refine gate_builtin (b := .append) (xs := #[.tmp 59, .tmp 61]) rfl ?_); at_builtin; refine Kd.R_append k23 (w0 := w2) w2.heap.size rfl (.tmp 59) (.tmp 61) 37 23 (.agg (vaC zeroV)) 32 rfl Tryd.underlying37 infoVA rfl (by decide) (by omega) (.slice A5 vs.length c5) vs v [.int .i64 v.f0, .int .i64 v.f1, .string v.f2] (fun _ => True) (fun _ => False) rfl rfl ?aP (fun _ hk => hk.elim) ?aF ?aO ?aB ?aS ?aL ?_; (case aP => exact k23_mkM _ _ _ v); (case aB => exact HK8.out.below); (case aF => exact (fun _ _ => trivial)); (case aO => exact HK8.out.own); (case aS => exact HK8.out.below.size); (case aL => omega); intro v1 w9 ho hb hg hat; have HO9 := Lib.hid ho; have HB9 := Lib.hid hb; clear ho hb hg hat)
              go_roundw
              case rel => exact ⟨k + 1, vs ++ [v], by omega, by go_num, ⟨HB9.out, HT2.out, by have := HK8.out.le; simp; omega, HO9.out⟩⟩
              case measure => simp [intOf]; omega
            · have HT2 : Hid (q = (zeroV, err)) := by
                have h := HT.out
                rw [if_neg herr] at h
                have h' := evalL_err _ _ _ _ _ h
                have h2 := HQ2.out
                rw [h'] at h2; exact Lib.hid h2
              have HQ2 := HT2
              have hr8 := (HK8.out.below.block rb (blk_lt BR2.out)).trans BR2.out
              replace herr : (err != 0) = true := bne_iff_ne.mpr herr
              obtain ⟨hr0, hr1, hr2⟩ := bkC3 hr8; have hf0 := bkF hr8 0; have hf1 := bkF hr8 1; have hf2 := bkF hr8 2
              go_wp2_with fail
              refine bodyPost_ret (results_ct rfl _ _ rb 23 (vaC zeroV) (0, 0) _ rfl ?blk Tryd.underlying23 rfl info_va) rfl ?_; (case blk => exact va_put hr8 zeroV); exact ⟨by rw [HQ2.out]; rfl, by (repeat refine below_drewN' ?_); exact va_below HB8.out hrb zeroV⟩
          · have hlt' : ¬ (k : Int) < n := by omega
            obtain rfl : n = k := by omega
            have HQ3 : Hid (q = opV e.f0 (vs.getD 0 zeroV) (vs.getD 1 zeroV)) := by
              have h := HQ2.out
              have h' := HK.out.got
              rw [← HN.out, List.take_length] at h'
              rw [h'] at h; exact Lib.hid h
            have HVI : Hid (∀ v ∈ vs, in64 v.f1) := by
              have h' := HK.out.got
              rw [← HN.out, List.take_length] at h'
              have hr := HRG.out
              rw [rngF_eq, Bool.and_eq_true] at hr
              exact Lib.hid (evalL_in e.f6 (fun x hx => inV_eval HIN.out (fun _ => rng_in (rngL_mem hr.2 hx))) vs h')
            have HW : Hid ((n : Int) = wantsI e.f0) := Lib.hid (by rw [← HN.out]; exact ((own_iff e).1 HRT.out.own).2.1)
            have HLE := Lib.hid HK.out.le
            have HOW := Lib.hid HK.out.own
            have HBr := Lib.hid (HB.out.trans (HK.out.below.mono HB.out.size))
            have HRr := Lib.hid ((HK.out.below.block rb (blk_lt BR2.out)).trans BR2.out)
            clear HQ HQ2 HK hlt hlt'
            by_cases hm : e.f0 = 4
            · have hn2 : n = 2 := wants_n (k := 2) HW.out hm (by decide)
              obtain ⟨a, b, rfl⟩ := len_two (by rw [HLE.out]; exact hn2)
              obtain ⟨gb, cap, rfl, hl0, hl1, hl2, hl3, hl4, hl5⟩ := own_two_at HOW.out
              simp only [List.length_cons, List.length_nil] at *
              have HQ4 : Hid (q = addV a b) := by have h := HQ3.out; rw [hm] at h; exact Lib.hid h
              obtain ⟨p, hp⟩ : ∃ p, addV a b = p := ⟨_, rfl⟩
              have HOP := Lib.hid (addR_ok a b (HVI.out a (by simp)) (HVI.out b (by simp)) wr.drew)
              rw [hp] at HOP HQ4
              clear hp
              obtain ⟨v, p2⟩ := p
              replace HOP : Hid (Calls Tryd.prog 74 #[.agg #[.int .i64 a.f0, .int .i64 a.f1, .string a.f2], .agg #[.int .i64 b.f0, .int .i64 b.f1, .string b.f2]] wr.drew fun r w' => r = .returned (.tuple #[.agg #[.int .i64 v.f0, .int .i64 v.f1, .string v.f2], .int .i64 p2]) ∧ Below wr.heap.size wr w') := Lib.hid (HOP.out.mono fun r w' h => ⟨h.1, ⟨h.2.os, h.2.tape, h.2.output, h.2.size, h.2.block⟩⟩)
              have HQ2 := HQ4
              have t4 : (e.f0 == 4) = true := (by simp [hm]); have t5 : (e.f0 == 5) = false := (by simp [hm]); have t6 : (e.f0 == 6) = false := (by simp [hm]); have t7 : (e.f0 == 7) = false := (by simp [hm]); have t8 : (e.f0 == 8) = false := (by simp [hm]); have t15 : (e.f0 == 15) = false := (by simp [hm]); have t16 : (e.f0 == 16) = false := (by simp [hm]); have t17 : (e.f0 == 17) = false := (by simp [hm]); have t18 : (e.f0 == 18) = false := (by simp [hm])
              clear hm
              go_upto_region 18 with (fail)
              go_region_with (go_at_call 74; refine HOP.out.mono ?_; rintro r w9 ⟨rfl, hB9⟩; have hr9 := (hB9.block rb (blk_lt HRr.out)).trans HRr.out; have HB9 := Lib.hid (HBr.out.trans (hB9.mono HBr.out.size)); obtain ⟨hr0, hr1, hr2⟩ := bkC3 hr9; have hf0 := bkF hr9 0; have hf1 := bkF hr9 1; have hf2 := bkF hr9 2)
              all_goals ((try go_wp2_with fail); refine bodyPost_ret (results_ct rfl _ _ rb 23 (vaC v) (0, 0) _ rfl ?blk Tryd.underlying23 rfl info_va) rfl ?_; (case blk => exact va_put hr9 v); exact ⟨by rw [HQ2.out]; rfl, by (repeat refine below_drewN' ?_); exact va_below HB9.out hrb v⟩)
            ·
              have m4 := Lib.hid hm; clear hm
              by_cases hm : e.f0 = 5
              · have hn2 : n = 2 := wants_n (k := 2) HW.out hm (by decide)
                obtain ⟨a, b, rfl⟩ := len_two (by rw [HLE.out]; exact hn2)
                obtain ⟨gb, cap, rfl, hl0, hl1, hl2, hl3, hl4, hl5⟩ := own_two_at HOW.out
                simp only [List.length_cons, List.length_nil] at *
                have HQ4 : Hid (q = subV a b) := by have h := HQ3.out; rw [hm] at h; exact Lib.hid h
                obtain ⟨p, hp⟩ : ∃ p, subV a b = p := ⟨_, rfl⟩
                have HOP := Lib.hid (subR_ok a b (HVI.out a (by simp)) (HVI.out b (by simp)) wr.drew)
                rw [hp] at HOP HQ4
                clear hp
                obtain ⟨v, p2⟩ := p
                replace HOP : Hid (Calls Tryd.prog 75 #[.agg #[.int .i64 a.f0, .int .i64 a.f1, .string a.f2], .agg #[.int .i64 b.f0, .int .i64 b.f1, .string b.f2]] wr.drew fun r w' => r = .returned (.tuple #[.agg #[.int .i64 v.f0, .int .i64 v.f1, .string v.f2], .int .i64 p2]) ∧ Below wr.heap.size wr w') := Lib.hid (HOP.out.mono fun r w' h => ⟨h.1, ⟨h.2.os, h.2.tape, h.2.output, h.2.size, h.2.block⟩⟩)
                have HQ2 := HQ4
                have t4 : (e.f0 == 4) = false := (by simp [hm]); have t5 : (e.f0 == 5) = true := (by simp [hm]); have t6 : (e.f0 == 6) = false := (by simp [hm]); have t7 : (e.f0 == 7) = false := (by simp [hm]); have t8 : (e.f0 == 8) = false := (by simp [hm]); have t15 : (e.f0 == 15) = false := (by simp [hm]); have t16 : (e.f0 == 16) = false := (by simp [hm]); have t17 : (e.f0 == 17) = false := (by simp [hm]); have t18 : (e.f0 == 18) = false := (by simp [hm])
                clear hm
                go_upto_region 20 with (fail)
                go_region_with (go_at_call 75; refine HOP.out.mono ?_; rintro r w9 ⟨rfl, hB9⟩; have hr9 := (hB9.block rb (blk_lt HRr.out)).trans HRr.out; have HB9 := Lib.hid (HBr.out.trans (hB9.mono HBr.out.size)); obtain ⟨hr0, hr1, hr2⟩ := bkC3 hr9; have hf0 := bkF hr9 0; have hf1 := bkF hr9 1; have hf2 := bkF hr9 2)
                all_goals ((try go_wp2_with fail); refine bodyPost_ret (results_ct rfl _ _ rb 23 (vaC v) (0, 0) _ rfl ?blk Tryd.underlying23 rfl info_va) rfl ?_; (case blk => exact va_put hr9 v); exact ⟨by rw [HQ2.out]; rfl, by (repeat refine below_drewN' ?_); exact va_below HB9.out hrb v⟩)
              ·
                have m5 := Lib.hid hm; clear hm
                by_cases hm : e.f0 = 6
                · have hn2 : n = 2 := wants_n (k := 2) HW.out hm (by decide)
                  obtain ⟨a, b, rfl⟩ := len_two (by rw [HLE.out]; exact hn2)
                  obtain ⟨gb, cap, rfl, hl0, hl1, hl2, hl3, hl4, hl5⟩ := own_two_at HOW.out
                  simp only [List.length_cons, List.length_nil] at *
                  have HQ4 : Hid (q = mulV a b) := by have h := HQ3.out; rw [hm] at h; exact Lib.hid h
                  obtain ⟨p, hp⟩ : ∃ p, mulV a b = p := ⟨_, rfl⟩
                  have HOP := Lib.hid (mulR_ok a b (HVI.out a (by simp)) (HVI.out b (by simp)) wr.drew)
                  rw [hp] at HOP HQ4
                  clear hp
                  obtain ⟨v, p2⟩ := p
                  replace HOP : Hid (Calls Tryd.prog 76 #[.agg #[.int .i64 a.f0, .int .i64 a.f1, .string a.f2], .agg #[.int .i64 b.f0, .int .i64 b.f1, .string b.f2]] wr.drew fun r w' => r = .returned (.tuple #[.agg #[.int .i64 v.f0, .int .i64 v.f1, .string v.f2], .int .i64 p2]) ∧ Below wr.heap.size wr w') := Lib.hid (HOP.out.mono fun r w' h => ⟨h.1, ⟨h.2.os, h.2.tape, h.2.output, h.2.size, h.2.block⟩⟩)
                  have HQ2 := HQ4
                  have t4 : (e.f0 == 4) = false := (by simp [hm]); have t5 : (e.f0 == 5) = false := (by simp [hm]); have t6 : (e.f0 == 6) = true := (by simp [hm]); have t7 : (e.f0 == 7) = false := (by simp [hm]); have t8 : (e.f0 == 8) = false := (by simp [hm]); have t15 : (e.f0 == 15) = false := (by simp [hm]); have t16 : (e.f0 == 16) = false := (by simp [hm]); have t17 : (e.f0 == 17) = false := (by simp [hm]); have t18 : (e.f0 == 18) = false := (by simp [hm])
                  clear hm
                  go_upto_region 22 with (fail)
                  go_region_with (go_at_call 76; refine HOP.out.mono ?_; rintro r w9 ⟨rfl, hB9⟩; have hr9 := (hB9.block rb (blk_lt HRr.out)).trans HRr.out; have HB9 := Lib.hid (HBr.out.trans (hB9.mono HBr.out.size)); obtain ⟨hr0, hr1, hr2⟩ := bkC3 hr9; have hf0 := bkF hr9 0; have hf1 := bkF hr9 1; have hf2 := bkF hr9 2)
                  all_goals ((try go_wp2_with fail); refine bodyPost_ret (results_ct rfl _ _ rb 23 (vaC v) (0, 0) _ rfl ?blk Tryd.underlying23 rfl info_va) rfl ?_; (case blk => exact va_put hr9 v); exact ⟨by rw [HQ2.out]; rfl, by (repeat refine below_drewN' ?_); exact va_below HB9.out hrb v⟩)
                ·
                  have m6 := Lib.hid hm; clear hm
                  by_cases hm : e.f0 = 7
                  · have hn2 : n = 2 := wants_n (k := 2) HW.out hm (by decide)
                    obtain ⟨a, b, rfl⟩ := len_two (by rw [HLE.out]; exact hn2)
                    obtain ⟨gb, cap, rfl, hl0, hl1, hl2, hl3, hl4, hl5⟩ := own_two_at HOW.out
                    simp only [List.length_cons, List.length_nil] at *
                    have HQ4 : Hid (q = divV a b) := by have h := HQ3.out; rw [hm] at h; exact Lib.hid h
                    obtain ⟨p, hp⟩ : ∃ p, divV a b = p := ⟨_, rfl⟩
                    have HOP := Lib.hid (divR_ok a b wr.drew)
                    rw [hp] at HOP HQ4
                    clear hp
                    obtain ⟨v, p2⟩ := p
                    replace HOP : Hid (Calls Tryd.prog 77 #[.agg #[.int .i64 a.f0, .int .i64 a.f1, .string a.f2], .agg #[.int .i64 b.f0, .int .i64 b.f1, .string b.f2]] wr.drew fun r w' => r = .returned (.tuple #[.agg #[.int .i64 v.f0, .int .i64 v.f1, .string v.f2], .int .i64 p2]) ∧ Below wr.heap.size wr w') := Lib.hid (HOP.out.mono fun r w' h => ⟨h.1, ⟨h.2.os, h.2.tape, h.2.output, h.2.size, h.2.block⟩⟩)
                    have HQ2 := HQ4
                    have t4 : (e.f0 == 4) = false := (by simp [hm]); have t5 : (e.f0 == 5) = false := (by simp [hm]); have t6 : (e.f0 == 6) = false := (by simp [hm]); have t7 : (e.f0 == 7) = true := (by simp [hm]); have t8 : (e.f0 == 8) = false := (by simp [hm]); have t15 : (e.f0 == 15) = false := (by simp [hm]); have t16 : (e.f0 == 16) = false := (by simp [hm]); have t17 : (e.f0 == 17) = false := (by simp [hm]); have t18 : (e.f0 == 18) = false := (by simp [hm])
                    clear hm
                    go_upto_region 24 with (fail)
                    go_region_with (go_at_call 77; refine HOP.out.mono ?_; rintro r w9 ⟨rfl, hB9⟩; have hr9 := (hB9.block rb (blk_lt HRr.out)).trans HRr.out; have HB9 := Lib.hid (HBr.out.trans (hB9.mono HBr.out.size)); obtain ⟨hr0, hr1, hr2⟩ := bkC3 hr9; have hf0 := bkF hr9 0; have hf1 := bkF hr9 1; have hf2 := bkF hr9 2)
                    all_goals ((try go_wp2_with fail); refine bodyPost_ret (results_ct rfl _ _ rb 23 (vaC v) (0, 0) _ rfl ?blk Tryd.underlying23 rfl info_va) rfl ?_; (case blk => exact va_put hr9 v); exact ⟨by rw [HQ2.out]; rfl, by (repeat refine below_drewN' ?_); exact va_below HB9.out hrb v⟩)
                  ·
                    have m7 := Lib.hid hm; clear hm
                    by_cases hm : e.f0 = 8
                    · have hn1 : n = 1 := wants_n (k := 1) HW.out hm (by decide)
                      obtain ⟨a, rfl⟩ := len_one (by rw [HLE.out]; exact hn1)
                      obtain ⟨gb, cap, rfl, hl0, hl1, hl2⟩ := own_one_at HOW.out
                      simp only [List.length_cons, List.length_nil] at *
                      have HQ4 : Hid (q = negV a) := by have h := HQ3.out; rw [hm] at h; exact Lib.hid h
                      obtain ⟨p, hp⟩ : ∃ p, negV a = p := ⟨_, rfl⟩
                      have HOP := Lib.hid (negR_ok a (HVI.out a (by simp)) wr)
                      rw [hp] at HOP HQ4
                      clear hp
                      obtain ⟨v, p2⟩ := p
                      replace HOP : Hid (Calls Tryd.prog 78 #[.agg #[.int .i64 a.f0, .int .i64 a.f1, .string a.f2]] wr fun r w' => r = .returned (.tuple #[.agg #[.int .i64 v.f0, .int .i64 v.f1, .string v.f2], .int .i64 p2]) ∧ Below wr.heap.size wr w') := HOP
                      have HQ2 := HQ4
                      have t4 : (e.f0 == 4) = false := (by simp [hm]); have t5 : (e.f0 == 5) = false := (by simp [hm]); have t6 : (e.f0 == 6) = false := (by simp [hm]); have t7 : (e.f0 == 7) = false := (by simp [hm]); have t8 : (e.f0 == 8) = true := (by simp [hm]); have t15 : (e.f0 == 15) = false := (by simp [hm]); have t16 : (e.f0 == 16) = false := (by simp [hm]); have t17 : (e.f0 == 17) = false := (by simp [hm]); have t18 : (e.f0 == 18) = false := (by simp [hm])
                      clear hm
                      go_wp2_with (go_at_call 78; refine HOP.out.mono ?_; rintro r w9 ⟨rfl, hB9⟩; have hr9 := (hB9.block rb (blk_lt HRr.out)).trans HRr.out; have HB9 := Lib.hid (HBr.out.trans (hB9.mono HBr.out.size)); obtain ⟨hr0, hr1, hr2⟩ := bkC3 hr9; have hf0 := bkF hr9 0; have hf1 := bkF hr9 1; have hf2 := bkF hr9 2)
                      refine bodyPost_ret (results_ct rfl _ _ rb 23 (vaC v) (0, 0) _ rfl ?blk Tryd.underlying23 rfl info_va) rfl ?_; (case blk => exact va_put hr9 v); exact ⟨by rw [HQ2.out]; rfl, by (repeat refine below_drewN' ?_); exact va_below HB9.out hrb v⟩
                    ·
                      have m8 := Lib.hid hm; clear hm
                      by_cases hm : e.f0 = 15
                      · have hn2 : n = 2 := wants_n (k := 2) HW.out hm (by decide)
                        obtain ⟨a, b, rfl⟩ := len_two (by rw [HLE.out]; exact hn2)
                        obtain ⟨gb, cap, rfl, hl0, hl1, hl2, hl3, hl4, hl5⟩ := own_two_at HOW.out
                        simp only [List.length_cons, List.length_nil] at *
                        have HQ4 : Hid (q = andV a b) := by have h := HQ3.out; rw [hm] at h; exact Lib.hid h
                        obtain ⟨p, hp⟩ : ∃ p, andV a b = p := ⟨_, rfl⟩
                        have HOP := Lib.hid (andR_ok a b wr.drew)
                        rw [hp] at HOP HQ4
                        clear hp
                        obtain ⟨v, p2⟩ := p
                        replace HOP : Hid (Calls Tryd.prog 79 #[.agg #[.int .i64 a.f0, .int .i64 a.f1, .string a.f2], .agg #[.int .i64 b.f0, .int .i64 b.f1, .string b.f2]] wr.drew fun r w' => r = .returned (.tuple #[.agg #[.int .i64 v.f0, .int .i64 v.f1, .string v.f2], .int .i64 p2]) ∧ Below wr.heap.size wr w') := Lib.hid (HOP.out.mono fun r w' h => ⟨h.1, ⟨h.2.os, h.2.tape, h.2.output, h.2.size, h.2.block⟩⟩)
                        have HQ2 := HQ4
                        have t4 : (e.f0 == 4) = false := (by simp [hm]); have t5 : (e.f0 == 5) = false := (by simp [hm]); have t6 : (e.f0 == 6) = false := (by simp [hm]); have t7 : (e.f0 == 7) = false := (by simp [hm]); have t8 : (e.f0 == 8) = false := (by simp [hm]); have t15 : (e.f0 == 15) = true := (by simp [hm]); have t16 : (e.f0 == 16) = false := (by simp [hm]); have t17 : (e.f0 == 17) = false := (by simp [hm]); have t18 : (e.f0 == 18) = false := (by simp [hm])
                        clear hm
                        go_upto_region 28 with (fail)
                        go_region_with (go_at_call 79; refine HOP.out.mono ?_; rintro r w9 ⟨rfl, hB9⟩; have hr9 := (hB9.block rb (blk_lt HRr.out)).trans HRr.out; have HB9 := Lib.hid (HBr.out.trans (hB9.mono HBr.out.size)); obtain ⟨hr0, hr1, hr2⟩ := bkC3 hr9; have hf0 := bkF hr9 0; have hf1 := bkF hr9 1; have hf2 := bkF hr9 2)
                        all_goals ((try go_wp2_with fail); refine bodyPost_ret (results_ct rfl _ _ rb 23 (vaC v) (0, 0) _ rfl ?blk Tryd.underlying23 rfl info_va) rfl ?_; (case blk => exact va_put hr9 v); exact ⟨by rw [HQ2.out]; rfl, by (repeat refine below_drewN' ?_); exact va_below HB9.out hrb v⟩)
                      ·
                        have m15 := Lib.hid hm; clear hm
                        by_cases hm : e.f0 = 16
                        · have hn2 : n = 2 := wants_n (k := 2) HW.out hm (by decide)
                          obtain ⟨a, b, rfl⟩ := len_two (by rw [HLE.out]; exact hn2)
                          obtain ⟨gb, cap, rfl, hl0, hl1, hl2, hl3, hl4, hl5⟩ := own_two_at HOW.out
                          simp only [List.length_cons, List.length_nil] at *
                          have HQ4 : Hid (q = orV a b) := by have h := HQ3.out; rw [hm] at h; exact Lib.hid h
                          obtain ⟨p, hp⟩ : ∃ p, orV a b = p := ⟨_, rfl⟩
                          have HOP := Lib.hid (orR_ok a b wr.drew)
                          rw [hp] at HOP HQ4
                          clear hp
                          obtain ⟨v, p2⟩ := p
                          replace HOP : Hid (Calls Tryd.prog 80 #[.agg #[.int .i64 a.f0, .int .i64 a.f1, .string a.f2], .agg #[.int .i64 b.f0, .int .i64 b.f1, .string b.f2]] wr.drew fun r w' => r = .returned (.tuple #[.agg #[.int .i64 v.f0, .int .i64 v.f1, .string v.f2], .int .i64 p2]) ∧ Below wr.heap.size wr w') := Lib.hid (HOP.out.mono fun r w' h => ⟨h.1, ⟨h.2.os, h.2.tape, h.2.output, h.2.size, h.2.block⟩⟩)
                          have HQ2 := HQ4
                          have t4 : (e.f0 == 4) = false := (by simp [hm]); have t5 : (e.f0 == 5) = false := (by simp [hm]); have t6 : (e.f0 == 6) = false := (by simp [hm]); have t7 : (e.f0 == 7) = false := (by simp [hm]); have t8 : (e.f0 == 8) = false := (by simp [hm]); have t15 : (e.f0 == 15) = false := (by simp [hm]); have t16 : (e.f0 == 16) = true := (by simp [hm]); have t17 : (e.f0 == 17) = false := (by simp [hm]); have t18 : (e.f0 == 18) = false := (by simp [hm])
                          clear hm
                          go_upto_region 30 with (fail)
                          go_region_with (go_at_call 80; refine HOP.out.mono ?_; rintro r w9 ⟨rfl, hB9⟩; have hr9 := (hB9.block rb (blk_lt HRr.out)).trans HRr.out; have HB9 := Lib.hid (HBr.out.trans (hB9.mono HBr.out.size)); obtain ⟨hr0, hr1, hr2⟩ := bkC3 hr9; have hf0 := bkF hr9 0; have hf1 := bkF hr9 1; have hf2 := bkF hr9 2)
                          all_goals ((try go_wp2_with fail); refine bodyPost_ret (results_ct rfl _ _ rb 23 (vaC v) (0, 0) _ rfl ?blk Tryd.underlying23 rfl info_va) rfl ?_; (case blk => exact va_put hr9 v); exact ⟨by rw [HQ2.out]; rfl, by (repeat refine below_drewN' ?_); exact va_below HB9.out hrb v⟩)
                        ·
                          have m16 := Lib.hid hm; clear hm
                          by_cases hm : e.f0 = 17
                          · have hn1 : n = 1 := wants_n (k := 1) HW.out hm (by decide)
                            obtain ⟨a, rfl⟩ := len_one (by rw [HLE.out]; exact hn1)
                            obtain ⟨gb, cap, rfl, hl0, hl1, hl2⟩ := own_one_at HOW.out
                            simp only [List.length_cons, List.length_nil] at *
                            have HQ4 : Hid (q = notV a) := by have h := HQ3.out; rw [hm] at h; exact Lib.hid h
                            obtain ⟨p, hp⟩ : ∃ p, notV a = p := ⟨_, rfl⟩
                            have HOP := Lib.hid (notR_ok a wr)
                            rw [hp] at HOP HQ4
                            clear hp
                            obtain ⟨v, p2⟩ := p
                            replace HOP : Hid (Calls Tryd.prog 81 #[.agg #[.int .i64 a.f0, .int .i64 a.f1, .string a.f2]] wr fun r w' => r = .returned (.tuple #[.agg #[.int .i64 v.f0, .int .i64 v.f1, .string v.f2], .int .i64 p2]) ∧ Below wr.heap.size wr w') := HOP
                            have HQ2 := HQ4
                            have t4 : (e.f0 == 4) = false := (by simp [hm]); have t5 : (e.f0 == 5) = false := (by simp [hm]); have t6 : (e.f0 == 6) = false := (by simp [hm]); have t7 : (e.f0 == 7) = false := (by simp [hm]); have t8 : (e.f0 == 8) = false := (by simp [hm]); have t15 : (e.f0 == 15) = false := (by simp [hm]); have t16 : (e.f0 == 16) = false := (by simp [hm]); have t17 : (e.f0 == 17) = true := (by simp [hm]); have t18 : (e.f0 == 18) = false := (by simp [hm])
                            clear hm
                            go_wp2_with (go_at_call 81; refine HOP.out.mono ?_; rintro r w9 ⟨rfl, hB9⟩; have hr9 := (hB9.block rb (blk_lt HRr.out)).trans HRr.out; have HB9 := Lib.hid (HBr.out.trans (hB9.mono HBr.out.size)); obtain ⟨hr0, hr1, hr2⟩ := bkC3 hr9; have hf0 := bkF hr9 0; have hf1 := bkF hr9 1; have hf2 := bkF hr9 2)
                            refine bodyPost_ret (results_ct rfl _ _ rb 23 (vaC v) (0, 0) _ rfl ?blk Tryd.underlying23 rfl info_va) rfl ?_; (case blk => exact va_put hr9 v); exact ⟨by rw [HQ2.out]; rfl, by (repeat refine below_drewN' ?_); exact va_below HB9.out hrb v⟩
                          ·
                            have m17 := Lib.hid hm; clear hm
                            by_cases hm : e.f0 = 18
                            · have hn1 : n = 1 := wants_n (k := 1) HW.out hm (by decide)
                              obtain ⟨a, rfl⟩ := len_one (by rw [HLE.out]; exact hn1)
                              obtain ⟨gb, cap, rfl, hl0, hl1, hl2⟩ := own_one_at HOW.out
                              simp only [List.length_cons, List.length_nil] at *
                              have HQ4 : Hid (q = (truthV (a.f0 == 0), 0)) := by have h := HQ3.out; rw [hm] at h; exact Lib.hid h
                              obtain ⟨t, ht⟩ : ∃ t, (if (a.f0 == 0) = true then (1 : Int) else 0) = t := ⟨_, rfl⟩
                              have HOP := Lib.hid (truthR_ok (a.f0 == 0) wr)
                              unfold truthV at HQ4
                              rw [ht] at HOP HQ4
                              clear ht
                              have HQ2 := HQ4
                              have t4 : (e.f0 == 4) = false := (by simp [hm]); have t5 : (e.f0 == 5) = false := (by simp [hm]); have t6 : (e.f0 == 6) = false := (by simp [hm]); have t7 : (e.f0 == 7) = false := (by simp [hm]); have t8 : (e.f0 == 8) = false := (by simp [hm]); have t15 : (e.f0 == 15) = false := (by simp [hm]); have t16 : (e.f0 == 16) = false := (by simp [hm]); have t17 : (e.f0 == 17) = false := (by simp [hm]); have t18 : (e.f0 == 18) = true := (by simp [hm])
                              clear hm
                              go_wp2_with (go_at_call 82; refine HOP.out.mono ?_; rintro r w9 ⟨rfl, hB9⟩; have hr9 := (hB9.block rb (blk_lt HRr.out)).trans HRr.out; have HB9 := Lib.hid (HBr.out.trans (hB9.mono HBr.out.size)); obtain ⟨hr0, hr1, hr2⟩ := bkC3 hr9; have hf0 := bkF hr9 0; have hf1 := bkF hr9 1; have hf2 := bkF hr9 2)
                              refine bodyPost_ret (results_ct rfl _ _ rb 23 (vaC (⟨2, t, ⟨#[]⟩⟩ : Va)) (0, 0) _ rfl ?blk Tryd.underlying23 rfl info_va) rfl ?_; (case blk => exact va_put hr9 (⟨2, t, ⟨#[]⟩⟩ : Va)); exact ⟨by rw [HQ2.out]; rfl, by (repeat refine below_drewN' ?_); exact va_below HB9.out hrb (⟨2, t, ⟨#[]⟩⟩ : Va)⟩
                            ·
                              have m18 := Lib.hid hm; clear hm
                              have hn2 : n = 2 := wants_else HW.out (fun h => by simp [h] at h1) (fun h => by simp [h] at h2) (fun h => by simp [h] at h3) m8.out m17.out m18.out
                              obtain ⟨a, b, rfl⟩ := len_two (by rw [HLE.out]; exact hn2)
                              obtain ⟨gb, cap, rfl, hl0, hl1, hl2, hl3, hl4, hl5⟩ := own_two_at HOW.out
                              simp only [List.length_cons, List.length_nil] at *
                              have HQ4 : Hid (q = testV e.f0 a b) := by have h := HQ3.out; unfold opV at h; rw [if_neg m4.out, if_neg m5.out, if_neg m6.out, if_neg m7.out, if_neg m8.out, if_neg m15.out, if_neg m16.out, if_neg m17.out, if_neg m18.out] at h; exact Lib.hid h
                              obtain ⟨p, hp⟩ : ∃ p, testV e.f0 a b = p := ⟨_, rfl⟩
                              have HOP := Lib.hid (testR_ok e.f0 a b wr.drew)
                              rw [hp] at HOP HQ4
                              clear hp
                              obtain ⟨v, p2⟩ := p
                              replace HOP : Hid (Calls Tryd.prog 83 #[.int .i64 e.f0, .agg #[.int .i64 a.f0, .int .i64 a.f1, .string a.f2], .agg #[.int .i64 b.f0, .int .i64 b.f1, .string b.f2]] wr.drew fun r w' => r = .returned (.tuple #[.agg #[.int .i64 v.f0, .int .i64 v.f1, .string v.f2], .int .i64 p2]) ∧ Below wr.heap.size wr w') := Lib.hid (HOP.out.mono fun r w' h => ⟨h.1, ⟨h.2.os, h.2.tape, h.2.output, h.2.size, h.2.block⟩⟩)
                              have HQ2 := HQ4
                              have t4 : (e.f0 == 4) = false := beq_eq_false_iff_ne.mpr m4.out; have t5 : (e.f0 == 5) = false := beq_eq_false_iff_ne.mpr m5.out; have t6 : (e.f0 == 6) = false := beq_eq_false_iff_ne.mpr m6.out; have t7 : (e.f0 == 7) = false := beq_eq_false_iff_ne.mpr m7.out; have t8 : (e.f0 == 8) = false := beq_eq_false_iff_ne.mpr m8.out; have t15 : (e.f0 == 15) = false := beq_eq_false_iff_ne.mpr m15.out; have t16 : (e.f0 == 16) = false := beq_eq_false_iff_ne.mpr m16.out; have t17 : (e.f0 == 17) = false := beq_eq_false_iff_ne.mpr m17.out; have t18 : (e.f0 == 18) = false := beq_eq_false_iff_ne.mpr m18.out
                              go_upto_region 35 with (fail)
                              go_region_with (go_at_call 83; refine HOP.out.mono ?_; rintro r w9 ⟨rfl, hB9⟩; have hr9 := (hB9.block rb (blk_lt HRr.out)).trans HRr.out; have HB9 := Lib.hid (HBr.out.trans (hB9.mono HBr.out.size)); obtain ⟨hr0, hr1, hr2⟩ := bkC3 hr9; have hf0 := bkF hr9 0; have hf1 := bkF hr9 1; have hf2 := bkF hr9 2)
                              all_goals ((try go_wp2_with fail); refine bodyPost_ret (results_ct rfl _ _ rb 23 (vaC v) (0, 0) _ rfl ?blk Tryd.underlying23 rfl info_va) rfl ?_; (case blk => exact va_put hr9 v); exact ⟨by rw [HQ2.out]; rfl, by (repeat refine below_drewN' ?_); exact va_below HB9.out hrb v⟩)
theorem evalR_ok : ∀ (N : Nat) (e : Ex), SizeOf.sizeOf e < N → EvalROk e := by
  intro N
  induction N with
  | zero => intro e h; omega
  | succ N ih =>
    intro e h
    refine evalR_step e fun x hx => ih x ?_
    have h1 := List.sizeOf_lt_of_mem hx
    have h2 : SizeOf.sizeOf e.f6 < SizeOf.sizeOf e := by cases e; simp; omega
    omega
def MayR (e : Ex) (rows : List (List Va)) (ps : List Va) : Prop := rightB e = true ∧ rngF e = true ∧ InR rows ps ∧ (someF (lackV rows ps) e ()).1 = false
def in64B (v : Va) : Bool := decide (-9223372036854775808 ≤ v.f1 ∧ v.f1 ≤ 9223372036854775807)
def inRB (rows : List (List Va)) (ps : List Va) : Bool := rows.all (·.all in64B) && ps.all in64B
theorem inRB_iff (rows : List (List Va)) (ps : List Va) : inRB rows ps = true ↔ InR rows ps := by
  unfold inRB InR in64B in64
  simp
def evalRt (e : Ex) (rows : List (List Va)) (ps : List Va) : Option (Int × Int × ByteArray × Int) := if rightB e = true ∧ rngF e = true ∧ inRB rows ps = true ∧ (someF (lackV rows ps) e ()).1 = false then some (tup4 (evalF e rows ps)) else none
def q08_eval.f (a0_0 : Int) (a0_1 : Int) (a0_2 : Int) (a0_3 : ByteArray) (a0_4 : Int) (a0_5 : Int) (a0_6 : Int) (a0_7 : ByteArray) (l0_8 : List Ex) (l1 : List (List Va)) (l2 : List Va) : Option (Int × Int × ByteArray × Int) := evalRt ⟨a0_0, ⟨a0_1, a0_2, a0_3⟩, a0_4, a0_5, a0_6, a0_7, l0_8⟩ l1 l2
theorem refEval_f {e : Ex} {rows : List (List Va)} {ps : List Va} (h : MayR e rows ps) : evalRt e rows ps = some (tup4 (evalF e rows ps)) := by
  unfold evalRt
  rw [if_pos ⟨h.1, h.2.1, (inRB_iff _ _).2 h.2.2.1, h.2.2.2⟩]
theorem q08_eval.calls (a0_0 : Int) (a0_1 : Int) (a0_2 : Int) (a0_3 : ByteArray) (a0_4 : Int) (a0_5 : Int) (a0_6 : Int) (a0_7 : ByteArray) (A0_8 : Option Addr) (c0_8 : Nat) (l0_8 : List Ex) (A1 : Option Addr) (c1 : Nat) (l1 : List (List Va)) (A2 : Option Addr) (c2 : Nat) (l2 : List Va) (r1 : Int) (r2 : Int) (r3 : ByteArray) (r4 : Int) (w : World) (hr0_8 : Kd.C k26 w A0_8 l0_8.length l0_8) (hc0_8 : l0_8.length ≤ c0_8) (hr1 : Kd.C (Kd.slice 23 k23) w A1 l1.length l1) (hc1 : l1.length ≤ c1) (hr2 : Kd.C k23 w A2 l2.length l2) (hc2 : l2.length ≤ c2) (h : q08_eval.f a0_0 a0_1 a0_2 a0_3 a0_4 a0_5 a0_6 a0_7 l0_8 l1 l2 = some (r1, r2, r3, r4)) :
    Calls Tryd.prog 46 #[.agg #[.int .i64 a0_0, .int .i64 a0_1, .int .i64 a0_2, .string a0_3, .int .i64 a0_4, .int .i64 a0_5, .int .i64 a0_6, .string a0_7, .slice A0_8 l0_8.length c0_8], .slice A1 l1.length c1, .slice A2 l2.length c2] w fun e w' => e = .returned (.tuple #[.agg #[.int .i64 r1, .int .i64 r2, .string r3], .int .i64 r4]) ∧ Below w.heap.size w w' := by
  unfold q08_eval.f evalRt at h
  split at h
  · rename_i hm
    obtain ⟨h1, h2, h3, h4⟩ := hm
    have h' := Option.some.inj h
    have hq : evalF ⟨a0_0, ⟨a0_1, a0_2, a0_3⟩, a0_4, a0_5, a0_6, a0_7, l0_8⟩ l1 l2 = (⟨r1, r2, r3⟩, r4) := by
      unfold tup4 at h'
      simp only [Prod.mk.injEq] at h'
      obtain ⟨rfl, rfl, rfl, rfl⟩ := h'
      rfl
    have hk := evalR_ok _ ⟨a0_0, ⟨a0_1, a0_2, a0_3⟩, a0_4, a0_5, a0_6, a0_7, l0_8⟩ (Nat.lt_succ_self _) A0_8 A1 A2 c0_8 c1 c2 l1 l2 w (Rt.of h1) h2 ((inRB_iff _ _).1 h3) h4 hr0_8 hc0_8 hr1 hc1 hr2 hc2
    rw [hq] at hk
    exact hk
  · cases h
end Go.Proofs.YtkboodfnegedaaaDoor.E
namespace Go.Proofs.YtkboodfnegedaaaDoor.E
open Go.RowKit Go.Proofs.YtkboodfnegedaaaDoorW.PrintWords Go.Proofs.YtkboodfnegedaaaDoorW.PrintLast Go.Proofs.YtkboodfnegedaaaDoorW.PrintMore
attribute [local go_sem] max2_int min2_int max_two min_two max_three min_three max_four min_four   -- for this text's walks alone
set_option linter.unusedVariables false
set_option linter.unusedSimpArgs false
def q08_Eval.f (k : Nat) (a0_0 : Int) (a0_1 : Int) (a0_2 : Int) (a0_3 : ByteArray) (a0_4 : Int) (a0_5 : Int) (a0_6 : Int) (a0_7 : ByteArray) (l0_8 : List (S26)) (l1 : List (List (S23))) (l2 : List (S23)) : Option (Int × Int × ByteArray × Int) := (q08_Right.f k a0_0 a0_1 a0_2 a0_3 a0_4 a0_5 a0_6 a0_7 l0_8).bind fun t470 => (if t470 = true then ((q08_there.f k a0_0 a0_1 a0_2 a0_3 a0_4 a0_5 a0_6 a0_7 l0_8 l1 l2).bind fun t471 => (if t471 = true then ((q08_eval.f a0_0 a0_1 a0_2 a0_3 a0_4 a0_5 a0_6 a0_7 l0_8 l1 l2).bind fun bt472 => (some (bt472.1, bt472.2.1, bt472.2.2.1, bt472.2.2.2))) else (some (0, 0, (⟨#[]⟩ : ByteArray), 1)))) else (some (0, 0, (⟨#[]⟩ : ByteArray), 1)))
set_option maxHeartbeats 8000000 in
set_option maxRecDepth 100000 in
theorem q08_Eval.calls (k : Nat) (a0_0 : Int) (a0_1 : Int) (a0_2 : Int) (a0_3 : ByteArray) (a0_4 : Int) (a0_5 : Int) (a0_6 : Int) (a0_7 : ByteArray) (A0_8 : Option Addr) (c0_8 : Nat) (l0_8 : List (S26)) (A1 : Option Addr) (c1 : Nat) (l1 : List (List (S23))) (A2 : Option Addr) (c2 : Nat) (l2 : List (S23)) (r1 : Int) (r2 : Int) (r3 : ByteArray) (r4 : Int) (w : World) (hr0_8 : Kd.C k26 w A0_8 l0_8.length l0_8) (hc0_8 : l0_8.length ≤ c0_8) (hr1 : Kd.C (Kd.slice 23 k23) w A1 l1.length l1) (hc1 : l1.length ≤ c1) (hr2 : Kd.C k23 w A2 l2.length l2) (hc2 : l2.length ≤ c2) (h : q08_Eval.f k a0_0 a0_1 a0_2 a0_3 a0_4 a0_5 a0_6 a0_7 l0_8 l1 l2 = some (r1, r2, r3, r4)) :
  Calls Tryd.prog 15 #[.agg #[.int .i64 a0_0, .int .i64 a0_1, .int .i64 a0_2, .string a0_3, .int .i64 a0_4, .int .i64 a0_5, .int .i64 a0_6, .string a0_7, .slice A0_8 l0_8.length c0_8], .slice A1 l1.length c1, .slice A2 l2.length c2] w fun e w' => e = .returned (.tuple #[.agg #[.int .i64 r1, .int .i64 r2, .string r3], .int .i64 r4]) ∧ Below w.heap.size w w' := by
 have hu26 := Tryd.underlying26
 have hu23 := Tryd.underlying23
 have HR0_8 := Asd.mk hr0_8
 have HC0_8 := Asd.mk hc0_8
 clear hr0_8 hc0_8
 have HR1 := Asd.mk hr1
 have HC1 := Asd.mk hc1
 clear hr1 hc1
 have HR2 := Asd.mk hr2
 have HC2 := Asd.mk hc2
 clear hr2 hc2
 have HB := Asd.mk (Below.refl w.heap.size w)
 have H : ((q08_Right.f k a0_0 a0_1 a0_2 a0_3 a0_4 a0_5 a0_6 a0_7 l0_8).bind fun t470 => (if t470 = true then ((q08_there.f k a0_0 a0_1 a0_2 a0_3 a0_4 a0_5 a0_6 a0_7 l0_8 l1 l2).bind fun t471 => (if t471 = true then ((q08_eval.f a0_0 a0_1 a0_2 a0_3 a0_4 a0_5 a0_6 a0_7 l0_8 l1 l2).bind fun bt472 => (some (bt472.1, bt472.2.1, bt472.2.2.1, bt472.2.2.2))) else (some (0, 0, (⟨#[]⟩ : ByteArray), 1)))) else (some (0, 0, (⟨#[]⟩ : ByteArray), 1)))) = some (r1, r2, r3, r4) := h
 clear h
 replace H := Option.bind_eq_some_iff.mp H
 obtain ⟨t470, A40, H⟩ := H
 replace H : (if t470 = true then ((q08_there.f k a0_0 a0_1 a0_2 a0_3 a0_4 a0_5 a0_6 a0_7 l0_8 l1 l2).bind fun t471 => (if t471 = true then ((q08_eval.f a0_0 a0_1 a0_2 a0_3 a0_4 a0_5 a0_6 a0_7 l0_8 l1 l2).bind fun bt472 => (some (bt472.1, bt472.2.1, bt472.2.2.1, bt472.2.2.2))) else (some (0, 0, (⟨#[]⟩ : ByteArray), 1)))) else (some (0, 0, (⟨#[]⟩ : ByteArray), 1))) = some (r1, r2, r3, r4) := H
 have A4 := Asd.mk A40
 clear A40
 by_cases c5 : t470 = true
 ·subst c5
  have H1 : ((q08_there.f k a0_0 a0_1 a0_2 a0_3 a0_4 a0_5 a0_6 a0_7 l0_8 l1 l2).bind fun t471 => (if t471 = true then ((q08_eval.f a0_0 a0_1 a0_2 a0_3 a0_4 a0_5 a0_6 a0_7 l0_8 l1 l2).bind fun bt472 => (some (bt472.1, bt472.2.1, bt472.2.2.1, bt472.2.2.2))) else (some (0, 0, (⟨#[]⟩ : ByteArray), 1)))) = some (r1, r2, r3, r4) := by rw [if_pos rfl] at H; exact H
  clear H
  have H := H1
  clear H1
  replace H := Option.bind_eq_some_iff.mp H
  obtain ⟨t471, A60, H⟩ := H
  replace H : (if t471 = true then ((q08_eval.f a0_0 a0_1 a0_2 a0_3 a0_4 a0_5 a0_6 a0_7 l0_8 l1 l2).bind fun bt472 => (some (bt472.1, bt472.2.1, bt472.2.2.1, bt472.2.2.2))) else (some (0, 0, (⟨#[]⟩ : ByteArray), 1))) = some (r1, r2, r3, r4) := H
  have A6 := Asd.mk A60
  clear A60
  by_cases c7 : t471 = true
  ·subst c7
   have H1 : ((q08_eval.f a0_0 a0_1 a0_2 a0_3 a0_4 a0_5 a0_6 a0_7 l0_8 l1 l2).bind fun bt472 => (some (bt472.1, bt472.2.1, bt472.2.2.1, bt472.2.2.2))) = some (r1, r2, r3, r4) := by rw [if_pos rfl] at H; exact H
   clear H
   have H := H1
   clear H1
   replace H := Option.bind_eq_some_iff.mp H
   obtain ⟨⟨t472, t473, t474, t475⟩, A80, H⟩ := H
   replace H : (some (t472, t473, t474, t475)) = some (r1, r2, r3, r4) := H
   have A8 := Asd.mk A80
   clear A80
   simp only [Option.some.injEq, Prod.mk.injEq] at H
   obtain ⟨rfl, rfl, rfl, rfl⟩ := H
   go_enter Tryd.func15, Tryd.ntmps15
   go_wp2_with (first | ((with_reducible refine gate_dst (N := 3) rfl ?_); refine box_event rfl (N := 3) rfl (cs := #[.int .i64 a0_0, .int .i64 a0_1, .int .i64 a0_2, .string a0_3, .int .i64 a0_4, .int .i64 a0_5, .int .i64 a0_6, .string a0_7, .slice A0_8 l0_8.length c0_8]) (t := 26) (by first | (go_simp; done) | (go_simp; rfl)) ?_; intro gb468 hg w9 hbox hb; have BK468 := Asd.mk (hbox); have GW468 := Asd.mk (bZ hg HB.out); have GE468 := GW468; replace HB := Asd.mk (bS hb HB.out); clear hb hbox hg) | ((with_reducible refine gate_dst (N := 6) rfl ?_); refine box_event rfl (N := 6) rfl (cs := #[.int .i64 0, .int .i64 0, .string (⟨#[]⟩ : ByteArray)]) (t := 23) (by first | (go_simp; done) | (go_simp; rfl)) ?_; intro gb469 hg w10 hbox hb; have BK469 := Asd.mk (hbox); have GW469 := Asd.mk (bZ hg HB.out); have GE469 := GW469; have NB468_469 := Asd.mk (bL hg BK468.out); have NB469_468 := Asd.mk (bG hg BK468.out); replace BK468 := Asd.mk (bB hb BK468.out); replace HB := Asd.mk (bS hb HB.out); clear hb hbox hg; have hnb11 := NB468_469.out; have hnc11 := NB469_468.out; obtain ⟨hcz12_0, hcz12_1, hcz12_2, hcz12_3, hcz12_4, hcz12_5, hcz12_6, hcz12_7, hcz12_8⟩ := bkC9 BK468.out; obtain ⟨hfz12_0, hfz12_1, hfz12_2, hfz12_3, hfz12_4, hfz12_5, hfz12_6, hfz12_7, hfz12_8⟩ := bkF9 BK468.out) | ((with_reducible refine gate_callee (f := 30) rfl ?_); refine goesL_ (some 10) rfl rfl Tryd.func30 (by kernel_rfl) rfl #[.agg #[.int .i64 a0_0, .int .i64 a0_1, .int .i64 a0_2, .string a0_3, .int .i64 a0_4, .int .i64 a0_5, .int .i64 a0_6, .string a0_7, .slice A0_8 l0_8.length c0_8]] rfl (by (try simp only [List.map_toArray, List.map_cons, List.map_nil]); first | done | rfl | (simp only [List.length_drop, List.length_take]; rfl)) ?_; (with_reducible refine (q08_Right.calls k a0_0 a0_1 a0_2 a0_3 a0_4 a0_5 a0_6 a0_7 _ _ l0_8 true _ ?side1 ?side2 A4.out).mono ?_); (case side1 => repeat (first | exact (Kd.C_below HR0_8.out HB.out) | (with_reducible refine Kd.C_alloc ?_ _) | (with_reducible refine Kd.C_drewN ?_ _) | (with_reducible refine Kd.C_drew ?_))); (case side2 => exact HC0_8.out); rintro e w13 ⟨rfl, hb⟩; refine ⟨_, rfl, ?_⟩; replace BK468 := Asd.mk (bB hb BK468.out); replace BK469 := Asd.mk (bB hb BK469.out); replace HB := Asd.mk (bS hb HB.out); clear hb; obtain ⟨hcz14_0, hcz14_1, hcz14_2, hcz14_3, hcz14_4, hcz14_5, hcz14_6, hcz14_7, hcz14_8⟩ := bkC9 BK468.out; obtain ⟨hfz14_0, hfz14_1, hfz14_2, hfz14_3, hfz14_4, hfz14_5, hfz14_6, hfz14_7, hfz14_8⟩ := bkF9 BK468.out) | (go_at_call 45; (with_reducible refine (q08_there.calls k a0_0 a0_1 a0_2 a0_3 a0_4 a0_5 a0_6 a0_7 _ _ l0_8 _ _ l1 _ _ l2 true _ ?side1 ?side2 ?side3 ?side4 ?side5 ?side6 A6.out).mono ?_); (case side1 => repeat (first | exact (Kd.C_below HR0_8.out HB.out) | (with_reducible refine Kd.C_alloc ?_ _) | (with_reducible refine Kd.C_drewN ?_ _) | (with_reducible refine Kd.C_drew ?_))); (case side2 => exact HC0_8.out); (case side3 => repeat (first | exact (Kd.C_below HR1.out HB.out) | (with_reducible refine Kd.C_alloc ?_ _) | (with_reducible refine Kd.C_drewN ?_ _) | (with_reducible refine Kd.C_drew ?_))); (case side4 => exact HC1.out); (case side5 => repeat (first | exact (Kd.C_below HR2.out HB.out) | (with_reducible refine Kd.C_alloc ?_ _) | (with_reducible refine Kd.C_drewN ?_ _) | (with_reducible refine Kd.C_drew ?_))); (case side6 => exact HC2.out); rintro e w15 ⟨rfl, hb⟩; replace BK468 := Asd.mk (bB hb BK468.out); replace BK469 := Asd.mk (bB hb BK469.out); replace HB := Asd.mk (bS hb HB.out); clear hb; obtain ⟨hcz16_0, hcz16_1, hcz16_2, hcz16_3, hcz16_4, hcz16_5, hcz16_6, hcz16_7, hcz16_8⟩ := bkC9 BK468.out; obtain ⟨hfz16_0, hfz16_1, hfz16_2, hfz16_3, hfz16_4, hfz16_5, hfz16_6, hfz16_7, hfz16_8⟩ := bkF9 BK468.out) | ((with_reducible refine gate_callee (f := 46) rfl ?_); refine goesL_ (some 24) rfl rfl Tryd.func46 (by kernel_rfl) rfl #[.agg #[.int .i64 a0_0, .int .i64 a0_1, .int .i64 a0_2, .string a0_3, .int .i64 a0_4, .int .i64 a0_5, .int .i64 a0_6, .string a0_7, .slice A0_8 l0_8.length c0_8], .slice A1 l1.length c1, .slice A2 l2.length c2] rfl (by (try simp only [List.map_toArray, List.map_cons, List.map_nil]); first | done | rfl | (simp only [List.length_drop, List.length_take]; rfl)) ?_; (with_reducible refine (q08_eval.calls a0_0 a0_1 a0_2 a0_3 a0_4 a0_5 a0_6 a0_7 _ _ l0_8 _ _ l1 _ _ l2 t472 t473 t474 t475 _ ?side1 ?side2 ?side3 ?side4 ?side5 ?side6 A8.out).mono ?_); (case side1 => repeat (first | exact (Kd.C_below HR0_8.out HB.out) | (with_reducible refine Kd.C_alloc ?_ _) | (with_reducible refine Kd.C_drewN ?_ _) | (with_reducible refine Kd.C_drew ?_))); (case side2 => exact HC0_8.out); (case side3 => repeat (first | exact (Kd.C_below HR1.out HB.out) | (with_reducible refine Kd.C_alloc ?_ _) | (with_reducible refine Kd.C_drewN ?_ _) | (with_reducible refine Kd.C_drew ?_))); (case side4 => exact HC1.out); (case side5 => repeat (first | exact (Kd.C_below HR2.out HB.out) | (with_reducible refine Kd.C_alloc ?_ _) | (with_reducible refine Kd.C_drewN ?_ _) | (with_reducible refine Kd.C_drew ?_))); (case side6 => exact HC2.out); rintro e w17 ⟨rfl, hb⟩; refine ⟨_, rfl, ?_⟩; replace BK468 := Asd.mk (bB hb BK468.out); replace BK469 := Asd.mk (bB hb BK469.out); replace HB := Asd.mk (bS hb HB.out); clear hb; obtain ⟨hcz18_0, hcz18_1, hcz18_2⟩ := bkC3 BK469.out; obtain ⟨hfz18_0, hfz18_1, hfz18_2⟩ := bkF3 BK469.out))
   refine bodyPost_ret (results_ct rfl _ _ gb469 23 #[.int .i64 t472, .int .i64 t473, .string t474] (0, 0) _ rfl (by refine blk_put (cs := #[.int .i64 t472, .int .i64 t473, .string (⟨#[]⟩ : ByteArray)]) ?_ 2 _ rfl; refine blk_put (cs := #[.int .i64 t472, .int .i64 0, .string (⟨#[]⟩ : ByteArray)]) ?_ 1 _ rfl; refine blk_put (cs := #[.int .i64 0, .int .i64 0, .string (⟨#[]⟩ : ByteArray)]) ?_ 0 _ rfl; exact BK469.out) Tryd.underlying23 rfl (by kernel_rfl)) rfl ?_
   exact ⟨by first | rfl | (simp [errW_none, errW_some] <;> rfl) | (simp [*, errW_none, errW_some] <;> rfl), by repeat (first | (with_reducible first | exact HB.out | apply blA | apply pbN | apply blD | refine blS ?_ GE468.out | refine blS ?_ GE469.out) | exact HB.out)⟩
  ·replace c7 := Bool.eq_false_iff.mpr c7
   subst c7
   have H1 : (some (0, 0, (⟨#[]⟩ : ByteArray), 1)) = some (r1, r2, r3, r4) := by rw [if_neg (show ¬ (false = true) by decide)] at H; exact H
   clear H
   have H := H1
   clear H1
   simp only [Option.some.injEq, Prod.mk.injEq] at H
   obtain ⟨rfl, rfl, rfl, rfl⟩ := H
   go_enter Tryd.func15, Tryd.ntmps15
   go_wp2_with (first | ((with_reducible refine gate_dst (N := 3) rfl ?_); refine box_event rfl (N := 3) rfl (cs := #[.int .i64 a0_0, .int .i64 a0_1, .int .i64 a0_2, .string a0_3, .int .i64 a0_4, .int .i64 a0_5, .int .i64 a0_6, .string a0_7, .slice A0_8 l0_8.length c0_8]) (t := 26) (by first | (go_simp; done) | (go_simp; rfl)) ?_; intro gb468 hg w19 hbox hb; have BK468 := Asd.mk (hbox); have GW468 := Asd.mk (bZ hg HB.out); have GE468 := GW468; replace HB := Asd.mk (bS hb HB.out); clear hb hbox hg) | ((with_reducible refine gate_dst (N := 6) rfl ?_); refine box_event rfl (N := 6) rfl (cs := #[.int .i64 0, .int .i64 0, .string (⟨#[]⟩ : ByteArray)]) (t := 23) (by first | (go_simp; done) | (go_simp; rfl)) ?_; intro gb469 hg w20 hbox hb; have BK469 := Asd.mk (hbox); have GW469 := Asd.mk (bZ hg HB.out); have GE469 := GW469; have NB468_469 := Asd.mk (bL hg BK468.out); have NB469_468 := Asd.mk (bG hg BK468.out); replace BK468 := Asd.mk (bB hb BK468.out); replace HB := Asd.mk (bS hb HB.out); clear hb hbox hg; have hnb21 := NB468_469.out; have hnc21 := NB469_468.out; obtain ⟨hcz22_0, hcz22_1, hcz22_2, hcz22_3, hcz22_4, hcz22_5, hcz22_6, hcz22_7, hcz22_8⟩ := bkC9 BK468.out; obtain ⟨hfz22_0, hfz22_1, hfz22_2, hfz22_3, hfz22_4, hfz22_5, hfz22_6, hfz22_7, hfz22_8⟩ := bkF9 BK468.out) | ((with_reducible refine gate_callee (f := 30) rfl ?_); refine goesL_ (some 10) rfl rfl Tryd.func30 (by kernel_rfl) rfl #[.agg #[.int .i64 a0_0, .int .i64 a0_1, .int .i64 a0_2, .string a0_3, .int .i64 a0_4, .int .i64 a0_5, .int .i64 a0_6, .string a0_7, .slice A0_8 l0_8.length c0_8]] rfl (by (try simp only [List.map_toArray, List.map_cons, List.map_nil]); first | done | rfl | (simp only [List.length_drop, List.length_take]; rfl)) ?_; (with_reducible refine (q08_Right.calls k a0_0 a0_1 a0_2 a0_3 a0_4 a0_5 a0_6 a0_7 _ _ l0_8 true _ ?side1 ?side2 A4.out).mono ?_); (case side1 => repeat (first | exact (Kd.C_below HR0_8.out HB.out) | (with_reducible refine Kd.C_alloc ?_ _) | (with_reducible refine Kd.C_drewN ?_ _) | (with_reducible refine Kd.C_drew ?_))); (case side2 => exact HC0_8.out); rintro e w23 ⟨rfl, hb⟩; refine ⟨_, rfl, ?_⟩; replace BK468 := Asd.mk (bB hb BK468.out); replace BK469 := Asd.mk (bB hb BK469.out); replace HB := Asd.mk (bS hb HB.out); clear hb; obtain ⟨hcz24_0, hcz24_1, hcz24_2, hcz24_3, hcz24_4, hcz24_5, hcz24_6, hcz24_7, hcz24_8⟩ := bkC9 BK468.out; obtain ⟨hfz24_0, hfz24_1, hfz24_2, hfz24_3, hfz24_4, hfz24_5, hfz24_6, hfz24_7, hfz24_8⟩ := bkF9 BK468.out) | (go_at_call 45; (with_reducible refine (q08_there.calls k a0_0 a0_1 a0_2 a0_3 a0_4 a0_5 a0_6 a0_7 _ _ l0_8 _ _ l1 _ _ l2 false _ ?side1 ?side2 ?side3 ?side4 ?side5 ?side6 A6.out).mono ?_); (case side1 => repeat (first | exact (Kd.C_below HR0_8.out HB.out) | (with_reducible refine Kd.C_alloc ?_ _) | (with_reducible refine Kd.C_drewN ?_ _) | (with_reducible refine Kd.C_drew ?_))); (case side2 => exact HC0_8.out); (case side3 => repeat (first | exact (Kd.C_below HR1.out HB.out) | (with_reducible refine Kd.C_alloc ?_ _) | (with_reducible refine Kd.C_drewN ?_ _) | (with_reducible refine Kd.C_drew ?_))); (case side4 => exact HC1.out); (case side5 => repeat (first | exact (Kd.C_below HR2.out HB.out) | (with_reducible refine Kd.C_alloc ?_ _) | (with_reducible refine Kd.C_drewN ?_ _) | (with_reducible refine Kd.C_drew ?_))); (case side6 => exact HC2.out); rintro e w25 ⟨rfl, hb⟩; replace BK468 := Asd.mk (bB hb BK468.out); replace BK469 := Asd.mk (bB hb BK469.out); replace HB := Asd.mk (bS hb HB.out); clear hb; obtain ⟨hcz26_0, hcz26_1, hcz26_2⟩ := bkC3 BK469.out; obtain ⟨hfz26_0, hfz26_1, hfz26_2⟩ := bkF3 BK469.out))
   refine bodyPost_ret (results_ct rfl _ _ gb469 23 #[.int .i64 0, .int .i64 0, .string (⟨#[]⟩ : ByteArray)] (0, 0) _ rfl (by refine blk_put (cs := #[.int .i64 0, .int .i64 0, .string (⟨#[]⟩ : ByteArray)]) ?_ 2 _ rfl; refine blk_put (cs := #[.int .i64 0, .int .i64 0, .string (⟨#[]⟩ : ByteArray)]) ?_ 1 _ rfl; refine blk_put (cs := #[.int .i64 0, .int .i64 0, .string (⟨#[]⟩ : ByteArray)]) ?_ 0 _ rfl; exact BK469.out) Tryd.underlying23 rfl (by kernel_rfl)) rfl ?_
   exact ⟨by first | rfl | (simp [errW_none, errW_some] <;> rfl) | (simp [*, errW_none, errW_some] <;> rfl), by repeat (first | (with_reducible first | exact HB.out | apply blA | apply pbN | apply blD | refine blS ?_ GE468.out | refine blS ?_ GE469.out) | exact HB.out)⟩
 ·replace c5 := Bool.eq_false_iff.mpr c5
  subst c5
  have H1 : (some (0, 0, (⟨#[]⟩ : ByteArray), 1)) = some (r1, r2, r3, r4) := by rw [if_neg (show ¬ (false = true) by decide)] at H; exact H
  clear H
  have H := H1
  clear H1
  simp only [Option.some.injEq, Prod.mk.injEq] at H
  obtain ⟨rfl, rfl, rfl, rfl⟩ := H
  go_enter Tryd.func15, Tryd.ntmps15
  go_wp2_with (first | ((with_reducible refine gate_dst (N := 3) rfl ?_); refine box_event rfl (N := 3) rfl (cs := #[.int .i64 a0_0, .int .i64 a0_1, .int .i64 a0_2, .string a0_3, .int .i64 a0_4, .int .i64 a0_5, .int .i64 a0_6, .string a0_7, .slice A0_8 l0_8.length c0_8]) (t := 26) (by first | (go_simp; done) | (go_simp; rfl)) ?_; intro gb468 hg w27 hbox hb; have BK468 := Asd.mk (hbox); have GW468 := Asd.mk (bZ hg HB.out); have GE468 := GW468; replace HB := Asd.mk (bS hb HB.out); clear hb hbox hg) | ((with_reducible refine gate_dst (N := 6) rfl ?_); refine box_event rfl (N := 6) rfl (cs := #[.int .i64 0, .int .i64 0, .string (⟨#[]⟩ : ByteArray)]) (t := 23) (by first | (go_simp; done) | (go_simp; rfl)) ?_; intro gb469 hg w28 hbox hb; have BK469 := Asd.mk (hbox); have GW469 := Asd.mk (bZ hg HB.out); have GE469 := GW469; have NB468_469 := Asd.mk (bL hg BK468.out); have NB469_468 := Asd.mk (bG hg BK468.out); replace BK468 := Asd.mk (bB hb BK468.out); replace HB := Asd.mk (bS hb HB.out); clear hb hbox hg; have hnb29 := NB468_469.out; have hnc29 := NB469_468.out; obtain ⟨hcz30_0, hcz30_1, hcz30_2, hcz30_3, hcz30_4, hcz30_5, hcz30_6, hcz30_7, hcz30_8⟩ := bkC9 BK468.out; obtain ⟨hfz30_0, hfz30_1, hfz30_2, hfz30_3, hfz30_4, hfz30_5, hfz30_6, hfz30_7, hfz30_8⟩ := bkF9 BK468.out) | ((with_reducible refine gate_callee (f := 30) rfl ?_); refine goesL_ (some 10) rfl rfl Tryd.func30 (by kernel_rfl) rfl #[.agg #[.int .i64 a0_0, .int .i64 a0_1, .int .i64 a0_2, .string a0_3, .int .i64 a0_4, .int .i64 a0_5, .int .i64 a0_6, .string a0_7, .slice A0_8 l0_8.length c0_8]] rfl (by (try simp only [List.map_toArray, List.map_cons, List.map_nil]); first | done | rfl | (simp only [List.length_drop, List.length_take]; rfl)) ?_; (with_reducible refine (q08_Right.calls k a0_0 a0_1 a0_2 a0_3 a0_4 a0_5 a0_6 a0_7 _ _ l0_8 false _ ?side1 ?side2 A4.out).mono ?_); (case side1 => repeat (first | exact (Kd.C_below HR0_8.out HB.out) | (with_reducible refine Kd.C_alloc ?_ _) | (with_reducible refine Kd.C_drewN ?_ _) | (with_reducible refine Kd.C_drew ?_))); (case side2 => exact HC0_8.out); rintro e w31 ⟨rfl, hb⟩; refine ⟨_, rfl, ?_⟩; replace BK468 := Asd.mk (bB hb BK468.out); replace BK469 := Asd.mk (bB hb BK469.out); replace HB := Asd.mk (bS hb HB.out); clear hb; obtain ⟨hcz32_0, hcz32_1, hcz32_2⟩ := bkC3 BK469.out; obtain ⟨hfz32_0, hfz32_1, hfz32_2⟩ := bkF3 BK469.out))
  refine bodyPost_ret (results_ct rfl _ _ gb469 23 #[.int .i64 0, .int .i64 0, .string (⟨#[]⟩ : ByteArray)] (0, 0) _ rfl (by refine blk_put (cs := #[.int .i64 0, .int .i64 0, .string (⟨#[]⟩ : ByteArray)]) ?_ 2 _ rfl; refine blk_put (cs := #[.int .i64 0, .int .i64 0, .string (⟨#[]⟩ : ByteArray)]) ?_ 1 _ rfl; refine blk_put (cs := #[.int .i64 0, .int .i64 0, .string (⟨#[]⟩ : ByteArray)]) ?_ 0 _ rfl; exact BK469.out) Tryd.underlying23 rfl (by kernel_rfl)) rfl ?_
  exact ⟨by first | rfl | (simp [errW_none, errW_some] <;> rfl) | (simp [*, errW_none, errW_some] <;> rfl), by repeat (first | (with_reducible first | exact HB.out | apply blA | apply pbN | apply blD | refine blS ?_ GE468.out | refine blS ?_ GE469.out) | exact HB.out)⟩
end Go.Proofs.YtkboodfnegedaaaDoor.E
