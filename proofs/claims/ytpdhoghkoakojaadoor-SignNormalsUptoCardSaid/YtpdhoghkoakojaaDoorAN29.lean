/- Contracts and plain lemmas of the functions that the law reaches, part 29. -/
import Derived.Test.YtpdhoghkoakojaaDoorAN7
import Derived.Test.YtpdhoghkoakojaaDoorAN17
import Derived.Test.YtpdhoghkoakojaaDoorAN28
namespace Go.Proofs.YtpdhoghkoakojaaDoor.E
set_option linter.unusedSimpArgs false
set_option linter.unusedVariables false
open Go.RowKit Go.Proofs.YtpdhoghkoakojaaDoorW.PrintWords Go.Proofs.YtpdhoghkoakojaaDoorW.PrintLast Go.Proofs.YtpdhoghkoakojaaDoorW.PrintMore
mutual
theorem prN_wf : (e : Ex) → wf26 e → prN e = true
  | ⟨f0, f1, f2, f3, f4, f5, f6⟩, h => by
    cases h with
    | mk _ h0 h1 h2 h3 h4 h5 hl h6 =>
      rw [prN, prL_wf f6 h6]
      have a0 := in64_of h0
      have a1 := in64_of h1.2.1
      have a2 := in64_of h2
      have a3 := in64_of h3
      have a4 := in64_of h4
      simp [a0.1, a0.2, a1.1, a1.2, a2.1, a2.2, a3.1, a3.2, a4.1, a4.2]
theorem prL_wf : (l : List Ex) → (∀ y ∈ l, wf26 y) → prL l = true
  | [], h => by rw [prL]
  | x :: xs, h => by
    rw [prL, prN_wf x (h x (by simp)), prL_wf xs (fun y hy => h y (by simp [hy]))]; rfl
end
mutual
theorem text_bulk : (e : Ex) → wf26 e → (textF e).length + 1 ≤ 46 * bk26 e
  | ⟨f0, f1, f2, f3, f4, f5, f6⟩, h => by
    cases h with
    | mk _ h0 h1 h2 h3 h4 h5 hl h6 =>
      have a0 := itoa_le f0 (in64_of h0).1 (in64_of h0).2
      have a1 := itoa_le f1.f1 (in64_of h1.2.1).1 (in64_of h1.2.1).2
      have a2 := itoa_le f2 (in64_of h2).1 (in64_of h2).2
      have a3 := itoa_le f3 (in64_of h3).1 (in64_of h3).2
      have a4 := itoa_le f4 (in64_of h4).1 (in64_of h4).2
      have hk := textL_bulk f6 h6
      have h1s : f1.f2.size ≤ reachBytes := h1.2.2
      have hrb : reachBytes ≤ 9223372036854775807 := by decide
      have h5s : (Lib.itoa (f1.f2.size : Int)).length ≤ 21 := itoa_le _ (by omega) (by omega)
      have hs := sz_list f1.f2
      rw [textF, bk26]
      have hb : bk23 f1 = (1 + (1 + (f1.f2.size + 1))) + 1 := rfl
      rw [hb]
      simp only []
      split
      · split
        · simp only [List.length_cons, List.length_nil]; omega
        · split
          · simp only [List.length_cons]; omega
          · split
            · simp only [List.length_cons]; omega
            · simp only [List.length_cons, List.length_append]; omega
      · split
        · simp only [List.length_cons, List.length_append]; omega
        · split
          · simp only [List.length_cons]; omega
          · simp only [List.length_cons, List.length_append, List.length_nil]; omega
theorem textL_bulk : (l : List Ex) → (∀ y ∈ l, wf26 y) → (textL l).length ≤ 46 * bk26L l
  | [], h => by rw [textL]; simp
  | x :: xs, h => by
    have h1 := text_bulk x (h x (by simp))
    have h2 := textL_bulk xs (fun y hy => h y (by simp [hy]))
    rw [textL, bk26L]
    simp only [List.length_cons, List.length_append]
    omega
end
def notE (e : Ex) : Ex := ⟨17, ⟨0, 0, ⟨#[]⟩⟩, 0, 0, 0, ⟨#[]⟩, [e]⟩
theorem prB_not {e : Ex} (hw : wf26 e) (hb : bk26 e ≤ 1048576) : prB (notE e) = true := by
  have h1 := prN_wf e hw
  have h2 := text_bulk e hw
  have h3 : (textF (notE e)).length ≤ 40 + (textF e).length := by
    unfold notE
    rw [textF_eq]
    have h4 : (Lib.itoa (17 : Int)).length ≤ 21 := itoa_le 17 (by decide) (by decide)
    simp [textL]
    omega
  unfold prB
  rw [Bool.and_eq_true, decide_eq_true_eq]
  refine ⟨?_, by omega⟩
  unfold notE
  rw [prN, prL, prL, h1]
  decide
theorem refN_res (e : Ex) : refN e = flatB (normalRes e).1 (rightB e) := by
  unfold refN normalRes
  cases rightB e <;> rfl
theorem exprs_okP (L : List Ex) (A B : Option Addr) (c d : Nat) (w : World) (hL : L.length ≤ 4611686018427387904) (h : ∀ x ∈ L, prB x = true) (hA : Kd.C KX w A L.length L) (hc : L.length ≤ c) (hB : Kd.C KX w B L.length L) (hd : L.length ≤ d) :
    Calls Tryd.prog 14 #[.slice A L.length c, .slice B L.length d] w fun e w' => e = .returned (.bool true) ∧ Below w.heap.size w w' := by
  obtain ⟨k, hk⟩ := (exprs_ev L hL h).rounds
  exact w12_exprs.calls k A c L B d L true w hA hc hB hd hk
theorem prB_zero : prB zeroX = true := by
  have h1 : prN zeroX = true := by unfold zeroX; rw [prN, prL]; decide
  unfold prB
  rw [h1, Bool.true_and, decide_eq_true_eq]
  unfold zeroX
  rw [textF_eq]
  have h4 : (Lib.itoa (0 : Int)).length ≤ 21 := itoa_le 0 (by decide) (by decide)
  simp [textL]
  omega
theorem prB_res {e : Ex} (hg : rngF e = true) : prB (normalRes e).1 = true := by
  unfold normalRes
  by_cases h : rightB e = true
  · rw [if_pos h]; exact prB_of (right_norm h) (norm_rng hg)
  · rw [if_neg h]; exact prB_zero
def refL (l : List Ex) : List Ex := (refC l []).1
theorem refL_right {l : List Ex} (h : l.all rightB = true) : refL l = condsF l := by unfold refL refC; rw [if_pos h]; rfl
theorem refL_wrong {l : List Ex} (h : l.all rightB = false) : refL l = [] := by unfold refL refC; rw [if_neg (by rw [h]; decide)]
theorem refL_pr {l : List Ex} (hg : ∀ x ∈ l, rngF x = true) : ∀ x ∈ refL l, prB x = true := by
  cases h : l.all rightB with
  | true =>
    rw [refL_right h]
    have hr := List.all_eq_true.1 h
    exact fun x hx => prB_of (conds_right hr x hx) (conds_rng hr hg x hx)
  | false => rw [refL_wrong h]; exact fun x hx => by cases hx
theorem refL_len (l : List Ex) : (refL l).length ≤ l.length := by
  cases h : l.all rightB with
  | true => rw [refL_right h]; exact conds_len l
  | false => rw [refL_wrong h]; simp
theorem refC_pair (l : List Ex) : refC l [] = (refL l, l.all rightB) := by
  unfold refL refC
  cases l.all rightB <;> rfl
end Go.Proofs.YtpdhoghkoakojaaDoor.E
namespace Go.Proofs.YtpdhoghkoakojaaDoor.E
open Go.RowKit Go.Proofs.YtpdhoghkoakojaaDoorW.PrintWords Go.Proofs.YtpdhoghkoakojaaDoorW.PrintLast Go.Proofs.YtpdhoghkoakojaaDoorW.PrintMore
set_option linter.unusedVariables false
set_option linter.unusedSimpArgs false
theorem print_not (e : Ex) (hp : prB (notE e) = true) (A : Option Addr) (c : Nat) (w : World) (g : Nat) (h : w.heap[g]? = some (.cells (exC e A c) 26 (0, 0))) (hc : e.f6.length ≤ c) (hC : Kd.C KX w A e.f6.length e.f6) :
    Calls Tryd.prog 9 #[.agg #[.int .i64 17, .int .i64 0, .int .i64 0, .string ⟨#[]⟩, .int .i64 0, .int .i64 0, .int .i64 0, .string ⟨#[]⟩, .slice (some ⟨g, 0, none⟩) 1 1]] w fun r w' => r = .returned (.string (textS (notE e))) ∧ Below w.heap.size w w' :=
  q08_Print.calls 17 0 0 ⟨#[]⟩ 0 0 0 ⟨#[]⟩ (some ⟨g, 0, none⟩) 1 [e] _ w (ex1_C h hc hC) (Nat.le_refl 1) (print_f hp)
theorem normal_any (e y : Ex) (b : Bool) (hy : (normalRes e).1 = y) (hb : rightB e = b) (A : Option Addr) (c : Nat) (w : World) (hT : TabW w) (hRg : rngF e = true) (hC : Kd.C KX w A e.f6.length e.f6) (hc : e.f6.length ≤ c) :
    Calls Tryd.prog 10 #[.agg (exC e A c)] w fun r w' => ∃ D k, r = .returned (.tuple #[.agg (exC y D k), .int .i64 (if b = true then 0 else 1)]) ∧ y.f6.length ≤ k ∧ Kd.C KX w' D y.f6.length y.f6 ∧ Below w.heap.size w w' := by
  have h2 : (normalRes e).2 = if b = true then 0 else 1 := by unfold normalRes; subst hb; by_cases h : rightB e = true <;> simp [h]
  refine Calls.mono (Normal_ok e A c w hT hRg hC hc) ?_
  rintro r w' ⟨D, k, h1, h3, h4, h5⟩
  rw [hy] at h1 h3 h4
  rw [h2] at h1
  exact ⟨D, k, h1, h3, Kd.F_now h4, h5⟩
theorem refnormal_any (e y : Ex) (b : Bool) (hy : (normalRes e).1 = y) (hb : rightB e = b) (A : Option Addr) (c : Nat) (w : World) (hRg : rngF e = true) (hC : Kd.C KX w A e.f6.length e.f6) (hc : e.f6.length ≤ c) :
    Calls Tryd.prog 11 #[.agg (exC e A c)] w fun r w' => ∃ D k, r = .returned (.tuple #[.agg (exC y D k), .bool b]) ∧ y.f6.length ≤ k ∧ Kd.C KX w' D y.f6.length y.f6 ∧ Below w.heap.size w w' := by
  have h := refNormal_ev e hRg
  rw [refN_res, hy, hb] at h
  obtain ⟨k, hk⟩ := h.rounds
  refine Calls.mono (q12_Normal.calls k e.f0 e.f1.f0 e.f1.f1 e.f1.f2 e.f2 e.f3 e.f4 e.f5 A c e.f6 y.f0 y.f1.f0 y.f1.f1 y.f1.f2 y.f2 y.f3 y.f4 y.f5 y.f6 b w hC hc hk) ?_
  rintro r w' ⟨v, rfl, hN, hB⟩
  obtain ⟨D, k2, rfl, h3, h4⟩ := Kd.N_reads hN
  exact ⟨D, k2, rfl, h3, h4, hB⟩
theorem conds_any (l L : List Ex) (b : Bool) (hL : refL l = L) (hb : l.all rightB = b) (B : Option Addr) (d : Nat) (w : World) (hT : TabW w) (hRg : ∀ x ∈ l, rngF x = true) (hC : Kd.C KX w B l.length l) (hl : l.length * 104 ≤ 140737488351232) :
    Calls Tryd.prog 12 #[.slice B l.length d] w fun r w' => ∃ D k, r = .returned (.tuple #[.slice D L.length k, .int .i64 (if b = true then 0 else 1)]) ∧ L.length ≤ k ∧ Kd.C KX w' D L.length L ∧ Below w.heap.size w w' :=
  (Conds_ok l B d w hT hRg hC hl).mono (by
    rintro r w' (⟨hf, rfl, hB⟩ | ⟨hr, v, ys, hys, rfl, hN, hB⟩)
    · rw [refL_wrong hf] at hL
      rw [hf] at hb
      subst hL; subst hb
      exact ⟨none, 0, rfl, Nat.le_refl _, Kd.C_nil _ _, hB⟩
    · rw [refL_right hr] at hL
      rw [hr] at hb
      rw [comp_conds (List.all_eq_true.1 hr) hys, hL] at hN
      subst hb
      obtain ⟨A1, c1, rfl, hc1, hC1⟩ := Kd.N_reads hN
      exact ⟨A1, c1, rfl, hc1, hC1, hB⟩)
theorem refconds_any (l L : List Ex) (b : Bool) (hL : refL l = L) (hb : l.all rightB = b) (B : Option Addr) (d : Nat) (w : World) (hRg : ∀ x ∈ l, rngF x = true) (hC : Kd.C KX w B l.length l) (hd : l.length ≤ d) (hl : l.length + 2 < 1353245080339) :
    Calls Tryd.prog 13 #[.slice B l.length d] w fun r w' => ∃ D k, r = .returned (.tuple #[.slice D L.length k, .bool b]) ∧ L.length ≤ k ∧ Kd.C KX w' D L.length L ∧ Below w.heap.size w w' := by
  have h := refConds_ev l hl hRg
  rw [refC_pair, hL, hb] at h
  obtain ⟨k, hk⟩ := h.rounds
  refine Calls.mono (q12_Conds.calls k B d l L b w hC hd hk) ?_
  rintro r w' ⟨v, rfl, hN, hB⟩
  obtain ⟨D, k2, rfl, h3, h4⟩ := Kd.N_reads hN
  exact ⟨D, k2, rfl, h3, h4, hB⟩
set_option maxHeartbeats 8000000 in
set_option maxRecDepth 100000 in
theorem normals_ok (e : Ex) (l : List Ex) (A B : Option Addr) (c d : Nat) (w : World) (hT : TabW w) (hg : rngF e = true) (hgl : ∀ x ∈ l, rngF x = true) (hp : prB (notE e) = true) (hc : e.f6.length ≤ c) (hC : Kd.C KX w A e.f6.length e.f6) (hd : l.length ≤ d) (hB : Kd.C KX w B l.length l) :
    Calls Tryd.prog 3 #[.agg (exC e A c), .slice B l.length d] w fun r w' => r = .returned (.bool true) ∧ Below w.heap.size w w' := by
  have HT := Lib.hid hT; have HG := Lib.hid hg; have HGL := Lib.hid hgl; have HC := Lib.hid hC; have HBC := Lib.hid hB; have HP0 := Lib.hid hp; clear hT hg hgl hC hB hp
  obtain ⟨y, hy⟩ : ∃ y, (normalRes e).1 = y := ⟨_, rfl⟩
  obtain ⟨b, hb⟩ : ∃ b, rightB e = b := ⟨_, rfl⟩
  have HYP : Hid (prB y = true) := Lib.hid (by rw [← hy]; exact prB_res HG.out)
  have HY := Lib.hid hy; have HBB := Lib.hid hb; clear hy hb
  unfold exC
  go_enter Tryd.func3, Tryd.ntmps3
  go_upto_region 1 with (first | ((with_reducible refine gate_dst (N := 2) rfl ?_); refine box_event rfl (N := 2) rfl (cs := exC e A c) (t := 26) (by first | rfl | (go_simp; done) | (go_simp; rfl)) ?_; intro g hgg w1 hbg hBg;  have HG1 := Lib.hid hbg; have HB1 := Lib.hid hBg; have hgw : w.heap.size ≤ g := (by omega); clear hgg hbg hBg))
  have HEX := Lib.hid (examples_ok w1 (tab_at HT.out HB1.out))
  go_upto_region 2 with (go_at_call 8; refine HEX.out.mono ?_; rintro rr w2 ⟨rfl, hB2⟩; have HG2 := Lib.hid ((hB2.block g (blk_lt HG1.out)).trans HG1.out); have HB2 := Lib.hid (HB1.out.trans (hB2.mono HB1.out.size)); clear hB2)
  clear HEX HG1 HB1
  go_upto_region 3 with fail
  have hL0 : (min (l.length : Int) 40).toNat ≤ 40 := by omega
  have hL1 : (min (l.length : Int) 40).toNat ≤ l.length := by omega
  generalize (min (l.length : Int) 40).toNat = n at hL0 hL1 ⊢
  obtain ⟨ds, hds⟩ : ∃ ds, l.take n = ds := ⟨_, rfl⟩
  have HDC := Lib.hid (Kd.C_take HBC.out hL1)
  have hDL : ds.length = n := by rw [← hds, List.length_take]; omega
  have HDG : Hid (∀ x ∈ ds, rngF x = true) := Lib.hid (by rw [← hds]; exact fun x hx => HGL.out x (List.mem_of_mem_take hx))
  rw [hds] at HDC
  have hdd : ds.length ≤ d := by omega
  clear hds HGL HBC hd hL1
  subst hDL
  obtain ⟨L, hL⟩ : ∃ L, refL ds = L := ⟨_, rfl⟩
  obtain ⟨b2, hb2⟩ : ∃ b2, ds.all rightB = b2 := ⟨_, rfl⟩
  have HLP : Hid (∀ x ∈ L, prB x = true) := Lib.hid (by rw [← hL]; exact refL_pr HDG.out)
  have hLL : L.length ≤ 40 := by rw [← hL]; have := refL_len ds; omega
  have HL := Lib.hid hL; have HB2E := Lib.hid hb2; clear hL hb2
  obtain ⟨hz0, hz1, hz2, hz3, hz4, hz5, hz6, hz7, hz8⟩ := bkC9 HG2.out
  have hi1 : (w2.alloc (.cells (exC e A c) 26 (0, 0))).heap[w2.heap.size]? = some (.cells (exC e A c) 26 (0, 0)) := heap_alloc_new w2 _
  have hB22 : Below w2.heap.size w2 (w2.alloc (.cells (exC e A c) 26 (0, 0))) := blA (Below.refl _ _) _
  have HPR := Lib.hid (print_not e HP0.out A c _ _ hi1 hc (Kd.C_below HC.out (HB2.out.trans (hB22.mono HB2.out.size))))
  have HB22 := Lib.hid hB22
  clear hi1 hB22
  unfold exC at HPR
  go_upto_region 4 with (go_at_call 9; refine HPR.out.mono ?_; rintro rr w3 ⟨rfl, hB3⟩; have HB23 := Lib.hid (HB22.out.trans (hB3.mono HB22.out.size)); clear hB3)
  have HG3 := Lib.hid ((HB23.out.block g (blk_lt HG2.out)).trans HG2.out)
  have HB3 := Lib.hid (HB2.out.trans (HB23.out.mono HB2.out.size))
  clear HPR HB22 HB23 HG2 HB2 hz0 hz1 hz2 hz3 hz4 hz5 hz6 hz7 hz8
  generalize hts : textS (notE e) = ts
  have HTS := Lib.hid hts; clear hts
  obtain ⟨hz0, hz1, hz2, hz3, hz4, hz5, hz6, hz7, hz8⟩ := bkC9 HG3.out
  have HNO := Lib.hid (normal_any e y b HY.out HBB.out A c w3 (tab_at HT.out HB3.out) HG.out (Kd.C_below HC.out HB3.out) hc)
  generalize hen : (if b = true then 0 else 1 : Int) = en at HNO
  have HEN := Lib.hid hen; clear hen
  unfold exC at HNO
  go_upto_region 5 with (first | (go_at_call 10; refine HNO.out.mono ?_; rintro rr w4 ⟨D, k, rfl, hk, hCD, hB4⟩; have HB4 := Lib.hid hB4; have HCD := Lib.hid hCD; clear hB4 hCD) | ((with_reducible refine gate_dst (N := 7) rfl ?_); refine box_event rfl (N := 7) rfl (cs := zerosE) (t := 26) (by first | rfl | (go_simp; done) | (go_simp; rfl)) ?_; intro g7 hgg w5 hbg7 hBg7;  have HB5 := Lib.hid hBg7; have hg7w : w4.heap.size ≤ g7 := (by omega); clear hgg) | ((with_reducible refine gate_store (p := 7) (v := .tmp 31) rfl ?_); refine wpList_store_row rfl 26 (.tmp 7) (.tmp 31) rfl g7 (exC y D k) rfl rfl 26 zerosE hbg7 (info_ex _ _ _) rfl (one_ex _ _ _) ?_))
  have hx6 := setRow_at w5 g7 _ zerosE (exC y D k) hbg7
  have hB46 : Below w4.heap.size w4 (w5.setRow g7 (exC y D k)) := below_setRow' HB5.out (by omega) _
  clear hbg7 hBg7
  generalize w5.setRow g7 (exC y D k) = w6 at hx6 hB46 ⊢
  have hB36 := HB4.out.trans (hB46.mono HB4.out.size)
  have HCD6 := Lib.hid (Kd.C_below HCD.out hB46)
  have HB6 := Lib.hid (HB3.out.trans (hB36.mono HB3.out.size))
  have HX6 := Lib.hid hx6
  have HG6 := Lib.hid ((hB36.block g (blk_lt HG3.out)).trans HG3.out)
  clear hx6 hB46 hB36 HCD HB5 HB4 HB3 HNO hz0 hz1 hz2 hz3 hz4 hz5 hz6 hz7 hz8 HG3
  obtain ⟨hz0, hz1, hz2, hz3, hz4, hz5, hz6, hz7, hz8⟩ := bkC9 HG6.out
  have HRO := Lib.hid (refnormal_any e y b HY.out HBB.out A c w6 HG.out (Kd.C_below HC.out HB6.out) hc)
  unfold exC at HRO
  go_upto_region 6 with (first | (go_at_call 11; refine HRO.out.mono ?_; rintro rr w7 ⟨E, k2, rfl, hk2, hCE, hB7⟩; have HB7 := Lib.hid hB7; have HCE := Lib.hid hCE; clear hB7 hCE) | ((with_reducible refine gate_dst (N := 9) rfl ?_); refine box_event rfl (N := 9) rfl (cs := zerosE) (t := 26) (by first | rfl | (go_simp; done) | (go_simp; rfl)) ?_; intro g9 hgg w8 hbg9 hBg9;  have HB8 := Lib.hid hBg9; have hg9w : w7.heap.size ≤ g9 := (by omega); clear hgg) | ((with_reducible refine gate_store (p := 9) (v := .tmp 36) rfl ?_); refine wpList_store_row rfl 26 (.tmp 9) (.tmp 36) rfl g9 (exC y E k2) rfl rfl 26 zerosE hbg9 (info_ex _ _ _) rfl (one_ex _ _ _) ?_))
  have hx9 := setRow_at w8 g9 _ zerosE (exC y E k2) hbg9
  have hB79 : Below w7.heap.size w7 (w8.setRow g9 (exC y E k2)) := below_setRow' HB8.out (by omega) _
  clear hbg9 hBg9
  generalize w8.setRow g9 (exC y E k2) = w9 at hx9 hB79 ⊢
  have hB69 := HB7.out.trans (hB79.mono HB7.out.size)
  have HCE9 := Lib.hid (Kd.C_below HCE.out hB79)
  have HCD9 := Lib.hid (Kd.C_below HCD6.out hB69)
  have HB9 := Lib.hid (HB6.out.trans (hB69.mono HB6.out.size))
  have HX79 := Lib.hid ((hB69.block g7 (blk_lt HX6.out)).trans HX6.out)
  have HX99 := Lib.hid hx9
  have HG9 := Lib.hid ((hB69.block g (blk_lt HG6.out)).trans HG6.out)
  clear hx9 hB79 hB69 HCE HCD6 HB8 HB7 HB6 HRO HX6 hz0 hz1 hz2 hz3 hz4 hz5 hz6 hz7 hz8 HG6
  have HCP := Lib.hid (conds_any ds L b2 HL.out HB2E.out B d w9 (tab_at HT.out HB9.out) HDG.out (Kd.C_below HDC.out HB9.out) (by omega))
  generalize hem : (if b2 = true then 0 else 1 : Int) = em at HCP
  have HEM := Lib.hid hem; clear hem
  go_upto_region 7 with (go_at_call 12; refine HCP.out.mono ?_; rintro rr w10 ⟨F, k3, rfl, hk3, hCF, hB10⟩; have HB10 := Lib.hid hB10; have HCF := Lib.hid hCF; clear hB10 hCF)
  have HB90 := Lib.hid (HB9.out.trans (HB10.out.mono HB9.out.size))
  have HRP := Lib.hid (refconds_any ds L b2 HL.out HB2E.out B d w10 HDG.out (Kd.C_below HDC.out HB90.out) hdd (by omega))
  go_upto_region 8 with (go_at_call 13; refine HRP.out.mono ?_; rintro rr w11 ⟨G, k4, rfl, hk4, hCG, hB11⟩; have HB11 := Lib.hid hB11; have HCG := Lib.hid hCG; clear hB11 hCG)
  have hB911 := HB10.out.trans (HB11.out.mono HB10.out.size)
  have HCF11 := Lib.hid (Kd.C_below HCF.out HB11.out)
  have HX7 := Lib.hid ((hB911.block g7 (blk_lt HX79.out)).trans HX79.out)
  have HX9 := Lib.hid ((hB911.block g9 (blk_lt HX99.out)).trans HX99.out)
  have HG11 := Lib.hid ((hB911.block g (blk_lt HG9.out)).trans HG9.out)
  have HCD11 := Lib.hid (Kd.C_below HCD9.out hB911)
  have HCE11 := Lib.hid (Kd.C_below HCE9.out hB911)
  have HB11' := Lib.hid (HB9.out.trans (hB911.mono HB9.out.size))
  clear hB911 HCP HRP HB10 HB11 HCF HX79 HX99 HG9 HCD9 HCE9 HB9 HB90
  have hlt7 : g7 < w11.heap.size := blk_lt HX7.out
  have hlt9 : g9 < w11.heap.size := blk_lt HX9.out
  obtain ⟨hz0, hz1, hz2, hz3, hz4, hz5, hz6, hz7, hz8⟩ := bkC9 HX7.out
  obtain ⟨hy0, hy1, hy2, hy3, hy4, hy5, hy6, hy7, hy8⟩ := bkC9 HX9.out
  have hi1 : ((w11.alloc (.cells (exC y D k) 26 (0, 0))).alloc (.cells (exC y E k2) 26 (0, 0))).heap[w11.heap.size]? = some (.cells (exC y D k) 26 (0, 0)) := bkA (heap_alloc_new w11 _) _
  have hi2 : ((w11.alloc (.cells (exC y D k) 26 (0, 0))).alloc (.cells (exC y E k2) 26 (0, 0))).heap[w11.heap.size + 1]? = some (.cells (exC y E k2) 26 (0, 0)) := by
    have h := heap_alloc_new (w11.alloc (.cells (exC y D k) 26 (0, 0))) (.cells (exC y E k2) 26 (0, 0))
    rw [show (w11.alloc (.cells (exC y D k) 26 (0, 0))).heap.size = w11.heap.size + 1 from by simp] at h
    exact h
  have hB12 : Below w11.heap.size w11 ((w11.alloc (.cells (exC y D k) 26 (0, 0))).alloc (.cells (exC y E k2) 26 (0, 0))) := blA (blA (Below.refl _ _) _) _
  have HE1 := Lib.hid (exprs_okP [y] (some ⟨w11.heap.size, 0, none⟩) (some ⟨w11.heap.size + 1, 0, none⟩) 1 1 _ (by simp) (fun x hx => by obtain rfl := List.mem_singleton.1 hx; exact HYP.out) (ex1_C hi1 hk (Kd.C_below HCD11.out hB12)) (Nat.le_refl 1) (ex1_C hi2 hk2 (Kd.C_below HCE11.out hB12)) (Nat.le_refl 1))
  have HB12 := Lib.hid hB12
  clear hi1 hi2 hB12
  go_wp2_with fail
  clear hz0 hz1 hz2 hz3 hz4 hz5 hz6 hz7 hz8 hy0 hy1 hy2 hy3 hy4 hy5 hy6 hy7 hy8
  refine HE1.out.mono ?_
  rintro rr w13 ⟨rfl, hB13⟩
  have hB1113 : Below w11.heap.size w11 w13 := HB12.out.trans (hB13.mono HB12.out.size)
  have HE2 := Lib.hid (exprs_okP L F G k3 k4 w13 (by omega) HLP.out (Kd.C_below HCF11.out hB1113) hk3 (Kd.C_below HCG.out hB1113) hk4)
  have HG13 := Lib.hid ((hB1113.block g (blk_lt HG11.out)).trans HG11.out)
  have HB13 := Lib.hid (HB11'.out.trans (hB1113.mono HB11'.out.size))
  clear hB13 hB1113 HE1 HB12 HX7 HX9 HCD11 HCE11 HB11' HG11 HCF11 HCG
  go_wp2_with fail
  refine HE2.out.mono ?_
  rintro rr w14 ⟨rfl, hB14⟩
  have HG14 := Lib.hid ((hB14.block g (blk_lt HG13.out)).trans HG13.out)
  have HB14 := Lib.hid (HB13.out.trans (hB14.mono HB13.out.size))
  clear hB14 HE2 HG13 HB13
  obtain ⟨hz0, hz1, hz2, hz3, hz4, hz5, hz6, hz7, hz8⟩ := bkC9 HG14.out
  have hi1 : (w14.alloc (.cells (exC e A c) 26 (0, 0))).heap[w14.heap.size]? = some (.cells (exC e A c) 26 (0, 0)) := heap_alloc_new w14 _
  have HB15 := Lib.hid (blA HB14.out (.cells (exC e A c) 26 (0, 0)))
  have HPR := Lib.hid (print_not e HP0.out A c _ _ hi1 hc (Kd.C_below HC.out HB15.out))
  clear hi1
  rw [HTS.out] at HPR
  unfold exC at HPR
  go_wp2_with fail
  refine HPR.out.mono ?_
  rintro rr w15 ⟨rfl, hB15⟩
  have HB16 := Lib.hid (HB15.out.trans (hB15.mono HB15.out.size))
  clear hB15 HPR HB15 hz0 hz1 hz2 hz3 hz4 hz5 hz6 hz7 hz8
  have hen := HEN.out; have hem := HEM.out
  clear HEN HEM
  cases b with
  | true =>
    have he : en = 0 := hen.symm
    subst he; clear hen
    cases b2 with
    | true =>
      have he : em = 0 := hem.symm
      subst he; clear hem
      go_wp2
      go_ret
      exact ⟨rfl, HB16.out⟩
    | false =>
      have he : em = 1 := hem.symm
      subst he; clear hem
      go_wp2
      go_ret
      exact ⟨rfl, HB16.out⟩
  | false =>
    have he : en = 1 := hen.symm
    subst he; clear hen
    cases b2 with
    | true =>
      have he : em = 0 := hem.symm
      subst he; clear hem
      go_wp2
      go_ret
      exact ⟨rfl, HB16.out⟩
    | false =>
      have he : em = 1 := hem.symm
      subst he; clear hem
      go_wp2
      go_ret
      exact ⟨rfl, HB16.out⟩
end Go.Proofs.YtpdhoghkoakojaaDoor.E
