/- Contracts and plain lemmas of the functions that the law reaches, part 30. -/
import Derived.Test.YtpdhoghkoakojaaDoorAT7
import Derived.Test.YtpdhoghkoakojaaDoorAT25
import Derived.Test.YtpdhoghkoakojaaDoorAT29
namespace Go.Proofs.YtpdhoghkoakojaaDoor.E
open Go.RowKit Go.Proofs.YtpdhoghkoakojaaDoorW.PrintWords Go.Proofs.YtpdhoghkoakojaaDoorW.PrintLast Go.Proofs.YtpdhoghkoakojaaDoorW.PrintMore
set_option linter.unusedVariables false
set_option linter.unusedSimpArgs false
theorem within_any (m : Int) (cs : List Ex) (T : List Int) (hT : withI m cs 0 = T) (A : Option Addr) (c : Nat) (w : World) (hl : cs.length ≤ 1048576) (hc : cs.length ≤ c) (hC : Kd.C KX w A cs.length cs) :
    Calls Tryd.prog 16 #[.slice A cs.length c, .int .i64 m] w fun r w' => ∃ B d, r = .returned (.slice B T.length d) ∧ T.length ≤ d ∧ (Kd.int .i64).C w' B T.length T ∧ Below w.heap.size w w' := by
  have h := within_ev m cs (by omega)
  rw [hT] at h
  obtain ⟨k, hk⟩ := h.rounds
  refine Calls.mono (sign_Within.calls k A c cs m T w hC hc hk) ?_
  rintro r w' ⟨v, rfl, hN, hB⟩
  obtain ⟨B, d, rfl, h3, h4⟩ := Kd.N_reads (Kd.R_N hN)
  exact ⟨B, d, rfl, h3, h4, hB⟩
theorem refwithin_any (m : Int) (hm : m < 2 ^ 63) (cs : List Ex) (T : List Int) (hT : withI m cs 0 = T) (A : Option Addr) (c : Nat) (w : World) (hl : cs.length ≤ 1048576) (hc : cs.length ≤ c) (hC : Kd.C KX w A cs.length cs) :
    Calls Tryd.prog 17 #[.slice A cs.length c, .int .i64 m] w fun r w' => ∃ B d, r = .returned (.slice B T.length d) ∧ T.length ≤ d ∧ (Kd.int .i64).C w' B T.length T ∧ Below w.heap.size w w' := by
  have h := refWithin_ev m hm cs (by omega)
  rw [hT] at h
  obtain ⟨k, hk⟩ := h.rounds
  refine Calls.mono (q12_Within.calls k A c cs m T w hC hc hk) ?_
  rintro r w' ⟨v, rfl, hN, hB⟩
  obtain ⟨B, d, rfl, h3, h4⟩ := Kd.N_reads (Kd.R_N hN)
  exact ⟨B, d, rfl, h3, h4, hB⟩
theorem numbers_any (T : List Int) (A B : Option Addr) (c d : Nat) (w : World) (hl : T.length ≤ 1048576) (hc : T.length ≤ c) (hA : (Kd.int .i64).C w A T.length T) (hd : T.length ≤ d) (hB : (Kd.int .i64).C w B T.length T) :
    Calls Tryd.prog 15 #[.slice A T.length c, .slice B T.length d] w fun r w' => r = .returned (.bool true) ∧ Below w.heap.size w w' := by
  obtain ⟨k, hk⟩ := (numbers_ev T (by omega)).rounds
  refine Calls.mono (w12_numbers.calls k A c T B d T true w hA hc hB hd hk) ?_
  rintro r w' ⟨rfl, hD⟩
  exact ⟨rfl, hD.below⟩
theorem len_bulk : ∀ l : List Ex, l.length ≤ (l.map bk26).sum
  | [] => Nat.le_refl _
  | x :: l => by
    have h := len_bulk l
    have h1 : 1 ≤ bk26 x := by rw [bk26_eq]; omega
    rw [List.map_cons, List.sum_cons, List.length_cons]
    omega
theorem cs_bulk {x : S43} (h : bk43 x ≤ 1048576) : x.f4.length ≤ 1048576 := by
  have h1 := len_bulk x.f4
  unfold bk43 at h
  simp only [] at h
  omega
theorem of_pair (sz : List Int) (n m : Int) (cs : List Ex) : ofRes sz n m cs = ((refO sz n m cs).1, if (refO sz n m cs).2 = true then 0 else 1) := by
  unfold ofRes refO
  by_cases h : offP n sz.length m ∨ cs.all rightB = false
  · rw [if_pos h, if_pos h]; rfl
  · rw [if_neg h, if_neg h]; rfl
set_option maxHeartbeats 8000000 in
set_option maxRecDepth 100000 in
theorem tells_ok (sz d2 : List Int) (n m : Int) (d3 cs d5 d6 d8 : List Ex) (d9 : List S144) (A0 A2 A3 A4 A5 A6 A8 A9 : Option Addr) (c0 c2 c3 c4 c5 c6 c8 c9 : Nat) (b7 b10 : Bool) (w : World) (hm63 : m < 2 ^ 63) (hT : TabW w) (hRg : ∀ x ∈ cs, rngF x = true) (hl : cs.length ≤ 1048576)
    (hsz : ∀ i : Nat, i < sz.length → -9223372036854775808 ≤ rd sz i ∧ rd sz i ≤ 9223372036854775807) (q0 : sz.length ≤ c0) (hC0 : (Kd.int .i64).C w A0 sz.length sz) (q2 : d2.length ≤ c2) (hC2 : (Kd.int .i64).C w A2 d2.length d2) (q3 : d3.length ≤ c3) (hC3 : Kd.C KX w A3 d3.length d3) (q4 : cs.length ≤ c4) (hC4 : Kd.C KX w A4 cs.length cs)
    (q5 : d5.length ≤ c5) (hC5 : Kd.C KX w A5 d5.length d5) (q6 : d6.length ≤ c6) (hC6 : Kd.C KX w A6 d6.length d6) (q8 : d8.length ≤ c8) (hC8 : Kd.C KX w A8 d8.length d8) (q9 : d9.length ≤ c9) (hC9 : Kd.C k144 w A9 d9.length d9) :
    Calls Tryd.prog 4 #[.agg #[.slice A0 sz.length c0, .int .i64 n, .slice A2 d2.length c2, .slice A3 d3.length c3, .slice A4 cs.length c4, .slice A5 d5.length c5, .slice A6 d6.length c6, .bool b7, .slice A8 d8.length c8, .slice A9 d9.length c9, .bool b10], .int .i64 m] w fun r w' => r = .returned (.bool true) ∧ Below w.heap.size w w' := by
  have HT := Lib.hid hT; have HRG := Lib.hid hRg; have HSZ := Lib.hid hsz; have HC0 := Lib.hid hC0; have HC2 := Lib.hid hC2; have HC3 := Lib.hid hC3; have HC4 := Lib.hid hC4; have HC5 := Lib.hid hC5; have HC6 := Lib.hid hC6; have HC8 := Lib.hid hC8; have HC9 := Lib.hid hC9
  have HQ := Lib.hid (And.intro q0 (And.intro q2 (And.intro q3 (And.intro q5 (And.intro q6 (And.intro q8 q9))))))
  clear hT hRg hsz hC0 hC2 hC3 hC4 hC5 hC6 hC8 hC9 q0 q2 q3 q5 q6 q8 q9
  obtain ⟨T, hWI⟩ : ∃ T, withI m cs 0 = T := ⟨_, rfl⟩
  have hTl : T.length ≤ 1048576 := by rw [← hWI]; have := withI_len m cs 0; omega
  have HWI := Lib.hid hWI; clear hWI
  obtain ⟨rs, hrs⟩ : ∃ rs, refO sz n m cs = rs := ⟨_, rfl⟩
  obtain ⟨s1, b1⟩ := rs
  have hOR : ofRes sz n m cs = (s1, if b1 = true then 0 else 1) := by rw [of_pair, hrs]
  have HRS := Lib.hid hrs; have HOR := Lib.hid hOR; clear hrs hOR
  go_enter Tryd.func4, Tryd.ntmps4
  go_upto_region 1 with (first | ((with_reducible refine gate_dst (N := 2) rfl ?_); refine box_event rfl (N := 2) rfl (cs := #[.slice A0 sz.length c0, .int .i64 n, .slice A2 d2.length c2, .slice A3 d3.length c3, .slice A4 cs.length c4, .slice A5 d5.length c5, .slice A6 d6.length c6, .bool b7, .slice A8 d8.length c8, .slice A9 d9.length c9, .bool b10]) (t := 43) (by first | rfl | (go_simp; done) | (go_simp; rfl)) ?_; intro g hgg w1 hbg hBg;  have HG := Lib.hid hbg; have HB1 := Lib.hid hBg; have hgw : w.heap.size ≤ g := (by omega); clear hgg hbg hBg))
  have HEX := Lib.hid (examples_ok w1 (tab_at HT.out HB1.out))
  go_upto_region 2 with (go_at_call 8; refine HEX.out.mono ?_; rintro rr w2 ⟨rfl, hB2⟩; have HG2 := Lib.hid ((hB2.block g (blk_lt HG.out)).trans HG.out); have HB2 := Lib.hid (HB1.out.trans (hB2.mono HB1.out.size)); clear hB2)
  clear HEX HG HB1
  have hz4 : w2.cell? ⟨g, 4, none⟩ = some (.slice A4 cs.length c4) := (bkC HG2.out 4).trans rfl
  have HBD := Lib.hid (below_drew HB2.out)
  have HGD : Hid (w2.drew.heap[g]? = some (.cells #[.slice A0 sz.length c0, .int .i64 n, .slice A2 d2.length c2, .slice A3 d3.length c3, .slice A4 cs.length c4, .slice A5 d5.length c5, .slice A6 d6.length c6, .bool b7, .slice A8 d8.length c8, .slice A9 d9.length c9, .bool b10] 43 (0, 0))) := Lib.hid HG2.out
  have HWA := Lib.hid (within_any m cs T HWI.out A4 c4 w2.drew hl q4 (Kd.C_below HC4.out HBD.out))
  have HWR : Hid (∀ W, Below w2.drew.heap.size w2.drew W → Calls Tryd.prog 17 #[.slice A4 cs.length c4, .int .i64 m] W fun r w' => ∃ B d, r = .returned (.slice B T.length d) ∧ T.length ≤ d ∧ (Kd.int .i64).C w' B T.length T ∧ Below W.heap.size W w') := Lib.hid (fun W hW => refwithin_any m hm63 cs T HWI.out A4 c4 W hl q4 (Kd.C_below HC4.out (HBD.out.trans (hW.mono HBD.out.size))))
  go_region_held3 (fun w' => w'.cell? ⟨g, 4, none⟩ = some (.slice A4 cs.length c4)) (go_keep) (first
    | (go_at_call 16; refine HWA.out.mono ?_; rintro rr w3 ⟨F, k3, rfl, hk3, hCF, hB3⟩; have HCF := Lib.hid hCF; have HB23 := Lib.hid hB3; have HG3 := Lib.hid ((HB23.out.block g (blk_lt HGD.out)).trans HGD.out); have hz4' : w3.cell? ⟨g, 4, none⟩ = some (.slice A4 cs.length c4) := ((bkC HG3.out 4).trans rfl); clear hCF hB3)
    | (go_at_call 17; refine (HWR.out _ HB23.out).mono ?_; rintro rr w4 ⟨G, k4, rfl, hk4, hCG, hB4⟩; have HB34 := Lib.hid hB4; have HNU := Lib.hid (numbers_any T F G k3 k4 w4 hTl hk3 (Kd.C_below HCF.out HB34.out) hk4 hCG); have HG4 := Lib.hid ((HB34.out.block g (blk_lt HG3.out)).trans HG3.out); have hz4'' : w4.cell? ⟨g, 4, none⟩ = some (.slice A4 cs.length c4) := ((bkC HG4.out 4).trans rfl); clear hCG hB4)
    | (go_at_call 15; refine HNU.out.mono ?_; rintro rr w5 ⟨rfl, hB5⟩; have HG5 := Lib.hid ((hB5.block g (blk_lt HG4.out)).trans HG4.out); have hz4''' : w5.cell? ⟨g, 4, none⟩ = some (.slice A4 cs.length c4) := ((bkC HG5.out 4).trans rfl); have HB5 := Lib.hid (HBD.out.trans ((HB23.out.trans ((HB34.out.trans (hB5.mono HB34.out.size)).mono HB23.out.size)).mono HBD.out.size)); clear hB5))
  clear hz4 hz4' hz4'' hz4''' HWA HWR HNU HBD HGD HG2 HG3 HG4 HB2 HB23 HB34 HCF
  have hz0 : w5.cell? ⟨g, 0, none⟩ = some (.slice A0 sz.length c0) := (bkC HG5.out 0).trans rfl; have hz1 : w5.cell? ⟨g, 1, none⟩ = some (.int .i64 n) := (bkC HG5.out 1).trans rfl; have hz2 : w5.cell? ⟨g, 2, none⟩ = some (.slice A2 d2.length c2) := (bkC HG5.out 2).trans rfl; have hz3 : w5.cell? ⟨g, 3, none⟩ = some (.slice A3 d3.length c3) := (bkC HG5.out 3).trans rfl; have hz4 : w5.cell? ⟨g, 4, none⟩ = some (.slice A4 cs.length c4) := (bkC HG5.out 4).trans rfl; have hz5 : w5.cell? ⟨g, 5, none⟩ = some (.slice A5 d5.length c5) := (bkC HG5.out 5).trans rfl; have hz6 : w5.cell? ⟨g, 6, none⟩ = some (.slice A6 d6.length c6) := (bkC HG5.out 6).trans rfl; have hz7 : w5.cell? ⟨g, 7, none⟩ = some (.bool b7) := (bkC HG5.out 7).trans rfl; have hz8 : w5.cell? ⟨g, 8, none⟩ = some (.slice A8 d8.length c8) := (bkC HG5.out 8).trans rfl; have hz9 : w5.cell? ⟨g, 9, none⟩ = some (.slice A9 d9.length c9) := (bkC HG5.out 9).trans rfl; have hz10 : w5.cell? ⟨g, 10, none⟩ = some (.bool b10) := (bkC HG5.out 10).trans rfl
  have hOF := Of_ok sz d2 n m d3 cs d5 d6 d8 (List.replicate d9.length zeroX) A0 A2 A3 A4 A5 A6 A8 A9 c0 c2 c3 c4 c5 c6 c8 c9 b7 b10 w5 hm63 (tab_at HT.out HB5.out) HRG.out (Kd.C_below HC4.out HB5.out) hl q4 HSZ.out (Kd.C_below HC0.out HB5.out)
  rw [List.length_replicate, HOR.out] at hOF
  have HOF := Lib.hid hOF; clear hOF
  generalize hen : (if b1 = true then 0 else 1 : Int) = en at HOF
  have HEN := Lib.hid hen; clear hen
  go_upto_region 4 with (go_at_call 18; refine HOF.out.mono ?_; rintro rr w6 ⟨rfl, hB6⟩; have HG6 := Lib.hid ((hB6.block g (blk_lt HG5.out)).trans HG5.out); have HB6 := Lib.hid (HB5.out.trans (hB6.mono HB5.out.size)); clear hB6)
  clear hz0 hz1 hz2 hz3 hz4 hz5 hz6 hz7 hz8 hz9 hz10 HOF HG5 HB5
  have hz0 : w6.cell? ⟨g, 0, none⟩ = some (.slice A0 sz.length c0) := (bkC HG6.out 0).trans rfl; have hz1 : w6.cell? ⟨g, 1, none⟩ = some (.int .i64 n) := (bkC HG6.out 1).trans rfl; have hz2 : w6.cell? ⟨g, 2, none⟩ = some (.slice A2 d2.length c2) := (bkC HG6.out 2).trans rfl; have hz3 : w6.cell? ⟨g, 3, none⟩ = some (.slice A3 d3.length c3) := (bkC HG6.out 3).trans rfl; have hz4 : w6.cell? ⟨g, 4, none⟩ = some (.slice A4 cs.length c4) := (bkC HG6.out 4).trans rfl; have hz5 : w6.cell? ⟨g, 5, none⟩ = some (.slice A5 d5.length c5) := (bkC HG6.out 5).trans rfl; have hz6 : w6.cell? ⟨g, 6, none⟩ = some (.slice A6 d6.length c6) := (bkC HG6.out 6).trans rfl; have hz7 : w6.cell? ⟨g, 7, none⟩ = some (.bool b7) := (bkC HG6.out 7).trans rfl; have hz8 : w6.cell? ⟨g, 8, none⟩ = some (.slice A8 d8.length c8) := (bkC HG6.out 8).trans rfl; have hz9 : w6.cell? ⟨g, 9, none⟩ = some (.slice A9 d9.length c9) := (bkC HG6.out 9).trans rfl; have hz10 : w6.cell? ⟨g, 10, none⟩ = some (.bool b10) := (bkC HG6.out 10).trans rfl
  have hRO := refOf_ev sz n m hm63 d2 d3 cs d5 d6 d8 d9 b7 b10 hl HRG.out HSZ.out
  rw [HRS.out] at hRO
  obtain ⟨k, hk⟩ := hRO.rounds
  have hq := HQ.out
  have HRO := Lib.hid (q12_Of.calls k A0 c0 sz n A2 c2 d2 A3 c3 d3 A4 c4 cs A5 c5 d5 A6 c6 d6 b7 A8 c8 d8 A9 c9 d9 b10 m s1 b1 w6 (Kd.C_below HC0.out HB6.out) hq.1 (Kd.C_below HC2.out HB6.out) hq.2.1 (Kd.C_below HC3.out HB6.out) hq.2.2.1 (Kd.C_below HC4.out HB6.out) q4 (Kd.C_below HC5.out HB6.out) hq.2.2.2.1 (Kd.C_below HC6.out HB6.out) hq.2.2.2.2.1 (Kd.C_below HC8.out HB6.out) hq.2.2.2.2.2.1 (Kd.C_below HC9.out HB6.out) hq.2.2.2.2.2.2 hk)
  clear hq hk
  go_upto_region 5 with (go_at_call 19; refine HRO.out.mono ?_; rintro rr w7 ⟨rfl, hB7⟩; have HB7 := Lib.hid (HB6.out.trans (hB7.mono HB6.out.size)); clear hB7)
  clear hz0 hz1 hz2 hz3 hz4 hz5 hz6 hz7 hz8 hz9 hz10 HRO HG6 HB6
  have hen := HEN.out; clear HEN HOR HRS
  cases b1 with
  | true =>
    have he : en = 0 := hen.symm
    subst he; clear hen
    go_wp2
    go_ret
    exact ⟨rfl, HB7.out⟩
  | false =>
    have he : en = 1 := hen.symm
    subst he; clear hen
    go_wp2
    go_ret
    exact ⟨rfl, HB7.out⟩
end Go.Proofs.YtpdhoghkoakojaaDoor.E
