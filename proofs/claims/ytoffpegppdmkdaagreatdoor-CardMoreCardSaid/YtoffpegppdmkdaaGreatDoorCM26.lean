/- Contracts and plain lemmas of the functions that the law reaches, part 26. -/
import Derived.Laws.MathBits
import Derived.Laws.Bits64
import Derived.Deep.RegionHeld3
import Derived.Test.YtoffpegppdmkdaaGreatDoorCM3
import Derived.Test.YtoffpegppdmkdaaGreatDoorCM20
import Derived.Test.YtoffpegppdmkdaaGreatDoorCM22
import Derived.Test.YtoffpegppdmkdaaGreatDoorCM24
import Derived.Test.YtoffpegppdmkdaaGreatDoorCM25
namespace Go.Proofs.YtoffpegppdmkdaaGreatDoor.E
set_option linter.unusedSimpArgs false
set_option linter.unusedVariables false
open Go.RowKit Go.Proofs.YtoffpegppdmkdaaGreatDoorW.PrintWords Go.Proofs.YtoffpegppdmkdaaGreatDoorW.PrintLast Go.Proofs.YtoffpegppdmkdaaGreatDoorW.PrintMore
abbrev Kn := S45
def mulI (a b : Int) : Int := clipI (clipI a * clipI b)
theorem mul_f (a b : Int) : hist_Mul.f a b = some (mulI a b) := by
  have ha := clip_0 a; have hb := clip_0 b
  unfold mulI
  show (Option.bind (some (clipI a)) _) = _
  rw [Option.bind_some]
  show (Option.bind (some (clipI b)) _) = _
  rw [Option.bind_some]
  obtain ⟨x, hx⟩ : ∃ x, clipI a = x := ⟨_, rfl⟩
  obtain ⟨y, hy⟩ : ∃ y, clipI b = y := ⟨_, rfl⟩
  rw [hx] at ha ⊢; rw [hy] at hb ⊢; clear hx hy
  have hx1 : IntKind.u64.wrap x = x := by simp only [IntKind.wrap_u64]; omega
  have hy1 : IntKind.u64.wrap y = y := by simp only [IntKind.wrap_u64]; omega
  rw [hx1, hy1]
  have h := mul64_arith x y (by omega) (by omega) (by omega) (by omega)
  have hp0 : 0 ≤ x * y := Int.mul_nonneg (by omega) (by omega)
  have hf : bits_Mul64.f x y = some ((x * y) / 18446744073709551616, (x * y) % 18446744073709551616) := by
    unfold bits_Mul64.f
    rw [and_low32 _ (by omega) (by omega), and_low32 _ (by omega) (by omega)]
    simp only [IntKind.wrap_u64]
    rw [and_low32 _ (Int.emod_nonneg _ (by decide)) (Int.emod_lt_of_pos _ (by decide))]
    rw [h]
  rw [hf, Option.bind_some]
  generalize x * y = p at hp0 ⊢
  by_cases hh : p / 18446744073709551616 = 0
  · rw [if_pos hh]
    have e : p % 18446744073709551616 = p := by omega
    show (Option.bind (some (clipI (p % 18446744073709551616))) _) = _
    have hc := clip_0 p
    rw [e, Option.bind_some, wrap64_of (by omega) (by omega)]
  · rw [if_neg hh]
    have e : clipI p = 1000000000000 := by rw [clip_eq, if_neg (by omega), if_pos (by omega)]
    rw [e]
theorem mul_0 (a b : Int) : 0 ≤ mulI a b ∧ mulI a b ≤ 1000000000000 := clip_0 _
def timesI (a n d : Int) : Int := mulI a n / mx 1 (clipI d)
theorem times_0 (a n d : Int) : 0 ≤ timesI a n d ∧ timesI a n d ≤ 1000000000000 := by
  have h := mul_0 a n
  have hm := mx_le 1 (clipI d)
  unfold timesI
  exact ⟨Int.ediv_nonneg h.1 (by omega), Int.le_trans (Int.ediv_le_self _ h.1) h.2⟩
theorem times_f (a n d : Int) : hist_Times.f a n d = some (timesI a n d) := by
  have h0 := mul_0 a n
  have hm := mx_le 1 (clipI d)
  have ht := times_0 a n d
  unfold hist_Times.f
  rw [mul_f, Option.bind_some]
  show (Option.bind (some (clipI d)) _) = _
  rw [Option.bind_some, if_neg (by omega), Int.tdiv_eq_ediv_of_nonneg h0.1]
  show some (wrap64 (timesI a n d)) = _
  rw [wrap64_of (by omega) (by omega)]
def baseL (b : Bl) (st : List Sta) : Nat → List Int
  | 0 => []
  | n + 1 => baseL b st n ++ [clipI (statF b.f0 st (n : Int)).f0]
theorem baseL_len (b : Bl) (st : List Sta) : ∀ n, (baseL b st n).length = n
  | 0 => rfl
  | n + 1 => by rw [baseL, List.length_append, baseL_len b st n]; rfl
def baseF (b : Bl) (st : List Sta) : List Int := if b.f1 < 1 ∨ 4 < b.f1 ∨ (b.f0.length : Int) < b.f1 then [] else baseL b st b.f1.toNat
theorem base_l0 (b : Bl) (st : List Sta) (n : Nat) (hn : (n : Int) = b.f1) (h4 : n ≤ 4) : ∀ (d j : Nat), j + d = n → Ev (fun k => card_Base.l0 k st (baseL b st j) b.f1 (j : Int) b.f0 b.f1 b.f2 b.f3 b.f4 b.f5 b.f6 b.f7 b.f8 b.f9 b.f10) (baseL b st n)
  | 0, j, hj => by
    refine Ev.const 1 (fun k => ?_)
    rw [card_Base.l0, if_neg (by omega), show j = n by omega]
  | d + 1, j, hj => by
    have ih := base_l0 b st n hn h4 d (j + 1) (by omega)
    refine Ev.steps 1 (fun k => ?_) ih
    rw [card_Base.l0, if_pos (by omega), statF_f, Option.bind_some]
    show (Option.bind (some (clipI (statF b.f0 st (j : Int)).f0)) _) = _
    rw [Option.bind_some, if_pos (by rw [baseL_len]; omega), wrap64_of (x := (j : Int) + 1) (by omega) (by omega)]
    rfl
theorem base_ev (b : Bl) (st : List Sta) : Ev (fun k => card_Base.f k b.f0 b.f1 b.f2 b.f3 b.f4 b.f5 b.f6 b.f7 b.f8 b.f9 b.f10 st) (baseF b st) := by
  unfold card_Base.f baseF
  by_cases h1 : b.f1 < 1
  · simp only [if_pos h1]
    rw [if_pos (.inl h1)]
    exact Ev.const 1 (fun k => by rw [card_Base.j0, if_pos rfl])
  simp only [if_neg h1]
  by_cases h2 : b.f1 > 4
  · simp only [if_pos h2]
    rw [if_pos (.inr (.inl h2))]
    exact Ev.const 1 (fun k => by rw [card_Base.j0, if_pos rfl])
  simp only [if_neg h2]
  by_cases h3 : (b.f0.length : Int) < b.f1
  · rw [if_pos (.inr (.inr h3)), decide_eq_true h3]
    exact Ev.const 1 (fun k => by rw [card_Base.j0, if_pos rfl])
  · rw [if_neg (by omega), decide_eq_false h3]
    refine Ev.steps 1 (fun k => ?_) (base_l0 b st b.f1.toNat (by omega) (by omega) b.f1.toNat 0 (by omega))
    rw [card_Base.j0, if_neg (by decide)]; rfl
def prodF (m : Int) : List Int → Nat → Int → Int
  | [], _, n => n
  | x :: l, i, n => prodF m l (i + 1) (if bitB m i = true then mulI n x else n)
def partsF (b : Bl) (st : List Sta) : List Ex → Int → Int
  | [], n => n
  | x :: l, n => partsF b st l (timesI n (partF b st x).1 (partF b st x).2)
def knownF (s : ByteArray) : List Kn → Option Int
  | [] => none
  | x :: l => match knownF s l with
    | some n => some n
    | none => if x.f0.toList = s.toList then some (clipI x.f1) else none
def guessF (b : Bl) (m : Int) (st : List Sta) : Int := partsF b st (sel m (condsF b.f4)) (prodF m (baseF b st) 0 1)
def estF (b : Bl) (m : Int) (st : List Sta) (kn : List Kn) : Int × Int :=
  if (ofRes b.f0 b.f1 m b.f4).2 = 0 then ((knownF (ofRes b.f0 b.f1 m b.f4).1 kn).getD (guessF b m st), 0) else (0, (ofRes b.f0 b.f1 m b.f4).2)
theorem baseF_len (b : Bl) (st : List Sta) : (baseF b st).length ≤ 4 := by
  unfold baseF
  split
  · simp
  · rw [baseL_len]; omega
theorem knownF_app (s : ByteArray) (l1 : List Kn) {l2 : List Kn} {n : Int} (h : knownF s l2 = some n) : knownF s (l1 ++ l2) = some n := by
  induction l1 with
  | nil => exact h
  | cons x l ih => rw [List.cons_append, knownF, ih]
theorem of_right {b : Bl} {m : Int} {s : ByteArray} (h : ofRes b.f0 b.f1 m b.f4 = (s, 0)) : b.f4.all rightB = true := by
  unfold ofRes at h
  by_cases h2 : offP b.f1 b.f0.length m ∨ b.f4.all rightB = false
  · rw [if_pos h2] at h; cases (Prod.mk.inj h).2
  · cases hh : b.f4.all rightB with
    | true => rfl
    | false => exact absurd (.inr hh) h2
theorem withI_none (m : Int) : ∀ (l : List Ex) (j : Nat), withI m l j = [] → sel m l = []
  | [], _, _ => rfl
  | x :: l, j, h => by
    rw [withI] at h
    by_cases hs : inSet m x = true
    · rw [if_pos hs] at h; cases h
    · rw [if_neg hs] at h
      rw [sel, List.filter_cons, if_neg hs]
      exact withI_none m l (j + 1) h
theorem withI_next (m : Int) (L : List Ex) : ∀ (l : List Ex) (j i : Nat) (W : List Int), L.drop j = l → W.drop i = withI m l j → i < W.length → ∃ (q : Nat) (x : Ex), j ≤ q ∧ rd W (i : Int) = (q : Int) ∧ L[q]? = some x ∧ W.drop (i + 1) = withI m (L.drop (q + 1)) (q + 1) ∧ sel m l = x :: sel m (L.drop (q + 1))
  | [], j, i, W, hj, hi, hl => by
    rw [withI] at hi
    have := List.drop_eq_nil_iff.1 hi
    omega
  | x :: l, j, i, W, hj, hi, hl => by
    have hr : L.drop (j + 1) = l := by rw [← List.drop_drop, hj]; rfl
    rw [withI] at hi
    by_cases hs : inSet m x = true
    · rw [if_pos hs] at hi
      refine ⟨j, x, Nat.le_refl _, ?_, ?_, ?_, ?_⟩
      · have h := congrArg (·[0]?) hi
        simp only [List.getElem?_drop, List.getElem?_cons_zero, Nat.add_zero] at h
        unfold rd
        rw [Int.toNat_natCast, List.getD_eq_getElem?_getD, h]; rfl
      · have h := congrArg (·[0]?) hj
        simpa only [List.getElem?_drop, List.getElem?_cons_zero, Nat.add_zero] using h
      · rw [← List.drop_drop, hi, hr]; rfl
      · rw [sel, List.filter_cons, if_pos hs, hr]; rfl
    · rw [if_neg hs] at hi
      obtain ⟨q, y, h1, h2, h3, h4, h5⟩ := withI_next m L l (j + 1) i W hr hi hl
      refine ⟨q, y, by omega, h2, h3, h4, ?_⟩
      rw [sel, List.filter_cons, if_neg hs]
      exact h5
end Go.Proofs.YtoffpegppdmkdaaGreatDoor.E
namespace Go.Proofs.YtoffpegppdmkdaaGreatDoor.E
open Go.RowKit Go.Proofs.YtoffpegppdmkdaaGreatDoorW.PrintWords Go.Proofs.YtoffpegppdmkdaaGreatDoorW.PrintLast Go.Proofs.YtoffpegppdmkdaaGreatDoorW.PrintMore
set_option linter.unusedVariables false
set_option linter.unusedSimpArgs false
theorem of_ok2 (b : Bl) (a : BA) (m : Int) (w : World) (hT : TabW w) (hG : ofG b.f0 m b.f4) (hb : BR b a w) : Calls Tryz.prog 17 #[.agg #[.slice a.A0 b.f0.length a.c0, .int .i64 b.f1, .slice a.A2 b.f2.length a.c2, .slice a.A3 b.f3.length a.c3, .slice a.A4 b.f4.length a.c4, .slice a.A5 b.f5.length a.c5, .slice a.A6 b.f6.length a.c6, .bool b.f7, .slice a.A8 b.f8.length a.c8, .slice a.A9 b.f9.length a.c9, .bool b.f10], .int .i64 m] w fun e w' => e = .returned (.tuple #[.string (ofRes b.f0 b.f1 m b.f4).1, .int .i64 (ofRes b.f0 b.f1 m b.f4).2]) ∧ Below w.heap.size w w' :=
  sign_Of.calls a.A0 a.c0 b.f0 b.f1 a.A2 a.c2 b.f2 a.A3 a.c3 b.f3 a.A4 a.c4 b.f4 a.A5 a.c5 b.f5 a.A6 a.c6 b.f6 b.f7 a.A8 a.c8 b.f8 a.A9 a.c9 b.f9 b.f10 m _ _ w hb.r0 hb.l0 hb.r2 hb.l2 hb.r3 hb.l3 hb.r4 hb.l4 hb.r5 hb.l5 hb.r6 hb.l6 hb.r8 hb.l8 hb.r9 hb.l9 (by unfold sign_Of.f; rw [if_pos hG]) hT
theorem base_ok (b : Bl) (a : BA) (st : List Sta) (A1 : Option Addr) (c1 : Nat) (w : World) (hb : BR b a w) (hS : Kd.C k51 w A1 st.length st) (hc1 : st.length ≤ c1) : Calls Tryz.prog 14 #[.agg #[.slice a.A0 b.f0.length a.c0, .int .i64 b.f1, .slice a.A2 b.f2.length a.c2, .slice a.A3 b.f3.length a.c3, .slice a.A4 b.f4.length a.c4, .slice a.A5 b.f5.length a.c5, .slice a.A6 b.f6.length a.c6, .bool b.f7, .slice a.A8 b.f8.length a.c8, .slice a.A9 b.f9.length a.c9, .bool b.f10], .slice A1 st.length c1] w fun e w' => ∃ A c, e = .returned (.slice A (baseF b st).length c) ∧ (Kd.int .i64).C w' A (baseF b st).length (baseF b st) ∧ Below w.heap.size w w' := by
  obtain ⟨k, hk⟩ := (base_ev b st).rounds
  refine (card_Base.calls k a.A0 a.c0 b.f0 b.f1 a.A2 a.c2 b.f2 a.A3 a.c3 b.f3 a.A4 a.c4 b.f4 a.A5 a.c5 b.f5 a.A6 a.c6 b.f6 b.f7 a.A8 a.c8 b.f8 a.A9 a.c9 b.f9 b.f10 A1 c1 st _ w hb.r0 hb.l0 hb.r2 hb.l2 hb.r3 hb.l3 hb.r4 hb.l4 hb.r5 hb.l5 hb.r6 hb.l6 hb.r8 hb.l8 hb.r9 hb.l9 hS hc1 hk).mono ?_
  rintro e w' ⟨v, rfl, hR, hB⟩
  obtain ⟨A, c, rfl, hc, hC⟩ := Kd.R_reads hR
  exact ⟨A, c, rfl, hC, hB⟩
theorem conds_ok2 (l : List Ex) (A : Option Addr) (c : Nat) (w : World) (hT : TabW w) (hG : condsG l) (hr : l.all rightB = true) (hC : Kd.C KX w A l.length l) (hc : l.length ≤ c) : Calls Tryz.prog 35 #[.slice A l.length c] w fun e w' => ∃ A2 c2, e = .returned (.tuple #[.slice A2 (condsF l).length c2, .int .i64 0]) ∧ (condsF l).length ≤ c2 ∧ Kd.C KX w' A2 (condsF l).length (condsF l) ∧ Below w.heap.size w w' := by
  refine (sign_Conds.calls A c l (condsF l) 0 w hC hc (by unfold sign_Conds.f condsR; rw [if_pos hG, if_pos hr]) hT).mono ?_
  rintro e w' ⟨v, rfl, hN, hB⟩
  obtain ⟨A2, c2, rfl, hc2, hC2⟩ := Kd.N_reads hN
  exact ⟨A2, c2, rfl, hc2, hC2, hB⟩
theorem within_ok2 (m : Int) (l : List Ex) (A : Option Addr) (c : Nat) (w : World) (hC : Kd.C KX w A l.length l) (hc : l.length ≤ c) (hl : l.length < 17592186044416) : Calls Tryz.prog 36 #[.slice A l.length c, .int .i64 m] w fun e w' => ∃ A2 c2, e = .returned (.slice A2 (withI m l 0).length c2) ∧ (Kd.int .i64).C w' A2 (withI m l 0).length (withI m l 0) ∧ Below w.heap.size w w' := by
  obtain ⟨k, hk⟩ := (within_ev m l hl).rounds
  refine (sign_Within.calls k A c l m _ w hC hc hk).mono ?_
  rintro e w' ⟨v, rfl, hR, hB⟩
  obtain ⟨A2, c2, rfl, hc2, hC2⟩ := Kd.R_reads hR
  exact ⟨A2, c2, rfl, hC2, hB⟩
set_option maxHeartbeats 8000000 in
set_option maxRecDepth 100000 in
theorem est_ok (b : Bl) (a : BA) (m : Int) (st : List Sta) (A1 : Option Addr) (c1 : Nat) (kn : List Kn) (A3 : Option Addr) (c3 : Nat) (w : World) (hT : TabW w) (hG : ofG b.f0 m b.f4) (hb : BR b a w) (hS : Kd.C k51 w A1 st.length st) (hc1 : st.length ≤ c1) (hK : Kd.C k45 w A3 kn.length kn) (hkn : kn.length ≤ 4611686018427387904) :
    Calls Tryz.prog 16 #[.agg (blC b a), .int .i64 m, .slice A1 st.length c1, .slice A3 kn.length c3] w fun r w' => r = .returned (.tuple #[.int .i64 (estF b m st kn).1, .int .i64 (estF b m st kn).2]) ∧ Below w.heap.size w w' := by
  have HOF := Lib.hid (fun (W : World) (hW : Below w.heap.size w W) => of_ok2 b a m W (tab_at hT hW) hG (hb.later hW))
  have HBA := Lib.hid (fun (W : World) (hW : Below w.heap.size w W) => base_ok b a st A1 c1 W (hb.later hW) (Kd.C_below hS hW) hc1)
  have HPA := Lib.hid (fun (W : World) (hW : Below w.heap.size w W) (x : Ex) (A : Option Addr) (c : Nat) (h1 : rngF x = true) (h2 : x.f6.length ≤ c) (h3 : Kd.C KX W A x.f6.length x.f6) => part_ok x A c b a st A1 c1 W (tab_at hT hW) h1 h3 h2 (hb.later hW) (Kd.C_below hS hW) hc1)
  have HCD := Lib.hid (fun (W : World) (hW : Below w.heap.size w W) (hr : b.f4.all rightB = true) => conds_ok2 b.f4 a.A4 a.c4 W (tab_at hT hW) hG.1 hr (Kd.C_below hb.r4 hW) hb.l4)
  have HGG := Lib.hid hG
  obtain ⟨s, er, hs⟩ : ∃ s er, ofRes b.f0 b.f1 m b.f4 = (s, er) := ⟨_, _, rfl⟩
  rw [hs] at HOF
  dsimp only at HOF
  have HSO := Lib.hid hs
  obtain ⟨pn, hpn⟩ : ∃ pn, estF b m st kn = pn := ⟨_, rfl⟩
  rw [hpn]
  have HPN : Hid ((if er = 0 then ((knownF s kn).getD (guessF b m st), 0) else ((0 : Int), er)) = pn) := Lib.hid (by unfold estF at hpn; rw [hs] at hpn; exact hpn)
  obtain ⟨n1, hn1⟩ : ∃ n1, st.length = n1 := ⟨_, rfl⟩
  rw [hn1] at HBA HPA ⊢
  obtain ⟨nk, hnk⟩ : ∃ nk, kn.length = nk := ⟨_, rfl⟩
  rw [hnk] at hkn ⊢
  have HNK := Lib.hid hnk
  have HK := Lib.hid hK
  clear hT hG hb hS hc1 hK hs hpn hn1 hnk
  unfold blC
  unfold exC blC at HPA
  go_enter Tryz.func16, Tryz.ntmps16
  go_upto_region 1 with (first | ((with_reducible refine gate_dst (N := 4) rfl ?_); refine box_event rfl (N := 4) rfl (cs := blC b a) (t := 30) (by first | rfl | (go_simp; done) | (go_simp; rfl)) ?_; intro g4 hgg w1 hbg4 hBg4;  have HG4 := Lib.hid hbg4; have HB := Lib.hid hBg4; clear hgg hbg4 hBg4))
  have bx0 : w1.cell? ⟨g4, 0, none⟩ = some (.slice a.A0 b.f0.length a.c0) := (bkC HG4.out 0).trans rfl; have bx1 : w1.cell? ⟨g4, 1, none⟩ = some (.int .i64 b.f1) := (bkC HG4.out 1).trans rfl; have bx2 : w1.cell? ⟨g4, 2, none⟩ = some (.slice a.A2 b.f2.length a.c2) := (bkC HG4.out 2).trans rfl; have bx3 : w1.cell? ⟨g4, 3, none⟩ = some (.slice a.A3 b.f3.length a.c3) := (bkC HG4.out 3).trans rfl; have bx4 : w1.cell? ⟨g4, 4, none⟩ = some (.slice a.A4 b.f4.length a.c4) := (bkC HG4.out 4).trans rfl; have bx5 : w1.cell? ⟨g4, 5, none⟩ = some (.slice a.A5 b.f5.length a.c5) := (bkC HG4.out 5).trans rfl; have bx6 : w1.cell? ⟨g4, 6, none⟩ = some (.slice a.A6 b.f6.length a.c6) := (bkC HG4.out 6).trans rfl; have bx7 : w1.cell? ⟨g4, 7, none⟩ = some (.bool b.f7) := (bkC HG4.out 7).trans rfl; have bx8 : w1.cell? ⟨g4, 8, none⟩ = some (.slice a.A8 b.f8.length a.c8) := (bkC HG4.out 8).trans rfl; have bx9 : w1.cell? ⟨g4, 9, none⟩ = some (.slice a.A9 b.f9.length a.c9) := (bkC HG4.out 9).trans rfl; have bx10 : w1.cell? ⟨g4, 10, none⟩ = some (.bool b.f10) := (bkC HG4.out 10).trans rfl
  have HO := Lib.hid (HOF.out w1 HB.out)
  clear HOF
  go_upto_region 2 with (go_at_call 17; refine HO.out.mono ?_; rintro rr w2 ⟨rfl, hB2⟩; have HB2 := Lib.hid hB2; clear hB2)
  clear HO bx0 bx1 bx2 bx3 bx4 bx5 bx6 bx7 bx8 bx9 bx10
  have HG42 := Lib.hid ((HB2.out.block g4 (blk_lt HG4.out)).trans HG4.out)
  have HBw : Hid (Below w.heap.size w w2) := Lib.hid (HB.out.trans (HB2.out.mono HB.out.size))
  clear HB2 HG4 HB
  by_cases he : er = 0
  · subst he
    have HPK : Hid (((knownF s kn).getD (guessF b m st), 0) = pn) := Lib.hid (by have h := HPN.out; rw [if_pos rfl] at h; exact h)
    have hwk : wrap64 ((nk : Int) - 1) = (nk : Int) - 1 := wrap64_of (by omega) (by omega)
    go_upto_region 5 with fail
    clear hwk
    go_loopw [12] (fun v12 wr => ∃ j : Nat, j ≤ nk ∧ v12 = .int .i64 ((j : Int) - 1) ∧ Hid (knownF s (kn.drop j) = none) ∧ Hid (wr = w2)) (fun v _ => (intOf v + 1).toNat)
    case atStart => exact ⟨nk, Nat.le_refl _, rfl, Lib.hid (by rw [List.drop_of_length_le (by rw [HNK.out]; exact Nat.le_refl _)]; rfl), Lib.hid rfl⟩
    case round =>
      obtain ⟨j, hj, rfl, HKJ, HWR⟩ := hrel
      obtain rfl := HWR.out
      by_cases hj0 : j = 0
      · subst hj0
        have HKN : Hid (knownF s kn = none) := Lib.hid (by have h := HKJ.out; rw [List.drop_zero] at h; exact h)
        have hneg : ¬ (((0 : Nat) : Int) - 1 ≥ 0) := by omega
        have HGU : Hid ((guessF b m st, 0) = pn) := Lib.hid (by have h := HPK.out; rw [HKN.out] at h; exact h)
        clear HKJ HPK HKN
        have bx0 : wr.cell? ⟨g4, 0, none⟩ = some (.slice a.A0 b.f0.length a.c0) := (bkC HG42.out 0).trans rfl; have bx1 : wr.cell? ⟨g4, 1, none⟩ = some (.int .i64 b.f1) := (bkC HG42.out 1).trans rfl; have bx2 : wr.cell? ⟨g4, 2, none⟩ = some (.slice a.A2 b.f2.length a.c2) := (bkC HG42.out 2).trans rfl; have bx3 : wr.cell? ⟨g4, 3, none⟩ = some (.slice a.A3 b.f3.length a.c3) := (bkC HG42.out 3).trans rfl; have bx4 : wr.cell? ⟨g4, 4, none⟩ = some (.slice a.A4 b.f4.length a.c4) := (bkC HG42.out 4).trans rfl; have bx5 : wr.cell? ⟨g4, 5, none⟩ = some (.slice a.A5 b.f5.length a.c5) := (bkC HG42.out 5).trans rfl; have bx6 : wr.cell? ⟨g4, 6, none⟩ = some (.slice a.A6 b.f6.length a.c6) := (bkC HG42.out 6).trans rfl; have bx7 : wr.cell? ⟨g4, 7, none⟩ = some (.bool b.f7) := (bkC HG42.out 7).trans rfl; have bx8 : wr.cell? ⟨g4, 8, none⟩ = some (.slice a.A8 b.f8.length a.c8) := (bkC HG42.out 8).trans rfl; have bx9 : wr.cell? ⟨g4, 9, none⟩ = some (.slice a.A9 b.f9.length a.c9) := (bkC HG42.out 9).trans rfl; have bx10 : wr.cell? ⟨g4, 10, none⟩ = some (.bool b.f10) := (bkC HG42.out 10).trans rfl
        have HB3 := Lib.hid (HBA.out wr HBw.out)
        clear HBA
        go_upto_region 11 with (go_at_call 14; refine HB3.out.mono ?_; rintro rr w3 ⟨AB, cB, rfl, hCB, hB3⟩; have HCB := Lib.hid hCB; have HB43 := Lib.hid hB3; clear hB3 hCB)
        clear HB3 bx0 bx1 bx2 bx3 bx4 bx5 bx6 bx7 bx8 bx9 bx10
        have HG43 := Lib.hid ((HB43.out.block g4 (blk_lt HG42.out)).trans HG42.out)
        have HBw3 : Hid (Below w.heap.size w w3) := Lib.hid (HBw.out.trans (HB43.out.mono HBw.out.size))
        clear HB43 HG42
        obtain ⟨B, hB⟩ : ∃ B, baseF b st = B := ⟨_, rfl⟩
        rw [hB] at HCB ⊢
        have HBL : Hid (B.length ≤ 4) := Lib.hid (by rw [← hB]; exact baseF_len b st)
        obtain ⟨nb, hnb⟩ : ∃ nb, B.length = nb := ⟨_, rfl⟩
        have HNB := Lib.hid hnb
        rw [hnb] at HCB HBL ⊢
        obtain ⟨R, hR⟩ : ∃ R, prodF m B 0 1 = R := ⟨_, rfl⟩
        have HR := Lib.hid hR
        have HGV : Hid ((partsF b st (sel m (condsF b.f4)) R, 0) = pn) := Lib.hid (by have h := HGU.out; unfold guessF at h; rw [hB, hR] at h; exact h)
        clear hB hnb hR HGU
        go_loopw [13, 55] (fun v13 v55 wr => ∃ (i : Nat) (n : Int), i ≤ nb ∧ v13 = .int .i64 n ∧ v55 = .int .i64 i ∧ Hid (prodF m (B.drop i) i n = R) ∧ Hid (Below w3.heap.size w3 wr)) (fun _ v _ => nb - (intOf v).toNat)
        case atStart => exact ⟨0, 1, Nat.zero_le _, rfl, rfl, HR, Lib.hid (Below.refl _ _)⟩
        case round =>
          obtain ⟨i, n, hi, rfl, rfl, HRI, HBr⟩ := hrel
          have hi4 : i ≤ 4 := by have := HBL.out; omega
          by_cases hlt : i < nb
          · have hlt' : (i : Int) < nb := by omega
            obtain ⟨ad, rfl, q0⟩ := Kd.at_int (Kd.C_below HCB.out HBr.out) (i : Int) (by omega) hlt'
            rw [show ((i : Int)).toNat = i by omega] at q0
            obtain ⟨x, hx⟩ : ∃ x, rd B (i : Int) = x := ⟨_, rfl⟩
            have hil : i < B.length := by rw [HNB.out]; exact hlt
            have HDD : Hid (B.drop i = x :: B.drop (i + 1)) := Lib.hid (by rw [List.drop_eq_getElem_cons hil, ← hx]; unfold rd; simp [List.getElem?_eq_getElem hil])
            rw [hx] at q0
            clear hx hil
            cases hbb : bitB m i with
            | false =>
              have hbit : (Go.bits .and .i64 (m / 2 ^ i) 1 == 1) = false := hbb
              go_wp2_with fail
              go_roundw
              case rel => exact ⟨i + 1, n, by omega, rfl, by go_num, Lib.hid (by have h := HRI.out; rw [HDD.out, prodF, if_neg (by rw [hbb]; decide)] at h; exact h), HBr⟩
              case measure => simp [intOf]; omega
            | true =>
              have hbit : (Go.bits .and .i64 (m / 2 ^ i) 1 == 1) = true := hbb
              have HMU := Lib.hid (fun (W : World) => hist_Mul.calls n x _ W (mul_f n x))
              go_wp2_with (go_at_call 34; refine (HMU.out _).mono ?_; rintro rr w4 ⟨rfl, hB4⟩; have HB4 : Hid (Below w3.heap.size w3 w4) := Lib.hid (HBr.out.trans (hB4.mono HBr.out.size)); clear hB4)
              go_roundw
              case rel => exact ⟨i + 1, _, by omega, rfl, by go_num, Lib.hid (by have h := HRI.out; rw [HDD.out, prodF, if_pos hbb] at h; exact h), HB4⟩
              case measure => simp [intOf]; omega
          · have hlt' : ¬ (i : Int) < nb := by omega
            obtain rfl : nb = i := by omega
            obtain rfl : n = R := by have h := HRI.out; rw [List.drop_of_length_le (by rw [HNB.out]; exact Nat.le_refl _)] at h; exact h
            clear hi hi4 hlt HRI HR HBL HCB
            have HBwr : Hid (Below w.heap.size w wr) := Lib.hid (HBw3.out.trans (HBr.out.mono HBw3.out.size))
            have HG4r := Lib.hid ((HBr.out.block g4 (blk_lt HG43.out)).trans HG43.out)
            clear HBr HG43 HBw3
            have hr : b.f4.all rightB = true := of_right HSO.out
            have z4 : wr.cell? ⟨g4, 4, none⟩ = some (.slice a.A4 b.f4.length a.c4) := (bkC HG4r.out 4).trans rfl
            have HC1 := Lib.hid (HCD.out wr HBwr.out hr)
            have HLG : Hid (∀ x ∈ condsF b.f4, rngF x = true) := Lib.hid (conds_rng (List.all_eq_true.1 hr) HGG.out.1.1)
            have HLL : Hid ((condsF b.f4).length ≤ 1048576) := Lib.hid (Nat.le_trans (conds_len b.f4) HGG.out.1.2)
            obtain ⟨L, hL⟩ : ∃ L, condsF b.f4 = L := ⟨_, rfl⟩
            rw [hL] at HC1 HLG HLL HGV
            clear hr hL HCD
            go_upto_region 17 with (go_at_call 35; refine HC1.out.mono ?_; rintro rr w5 ⟨AL, cL, rfl, hcL, hCL, hB5⟩; have HCL := Lib.hid hCL; have HB5 := Lib.hid hB5; clear hCL hB5)
            clear HC1 z4
            have HW1 := Lib.hid (within_ok2 m L AL cL w5 HCL.out hcL (by have := HLL.out; omega))
            go_upto_region 18 with (go_at_call 36; refine HW1.out.mono ?_; rintro rr w6 ⟨AW, cW, rfl, hCW, hB6⟩; have HCW := Lib.hid hCW; have HB6 := Lib.hid hB6; clear hCW hB6)
            clear HW1 hcL
            have HBw6 : Hid (Below w.heap.size w w6) := Lib.hid (HBwr.out.trans ((HB5.out.trans (HB6.out.mono HB5.out.size)).mono HBwr.out.size))
            have HG6 := Lib.hid ((HB6.out.block g4 (by have := HB5.out.size; have := blk_lt HG4r.out; omega)).trans ((HB5.out.block g4 (blk_lt HG4r.out)).trans HG4r.out))
            replace HCL := Lib.hid (Kd.C_below HCL.out HB6.out)
            clear HB5 HB6 HBwr HG4r
            obtain ⟨W, hW⟩ : ∃ W, withI m L 0 = W := ⟨_, rfl⟩
            have HWI : Hid (W.drop 0 = withI m (L.drop 0) 0) := Lib.hid (by rw [← hW]; rfl)
            have HWL : Hid (W.length ≤ 1048576) := Lib.hid (by rw [← hW]; have h1 := withI_len m L 0; have h2 := HLL.out; omega)
            rw [hW] at HCW ⊢
            obtain ⟨nw, hnw⟩ : ∃ nw, W.length = nw := ⟨_, rfl⟩
            have HNW := Lib.hid hnw
            rw [hnw] at HCW HWL ⊢
            obtain ⟨nl, hnl⟩ : ∃ nl, L.length = nl := ⟨_, rfl⟩
            have HNL := Lib.hid hnl
            rw [hnl] at HCL HLL ⊢
            clear hW hnw hnl
            obtain ⟨G, hGp⟩ : ∃ G, partsF b st (sel m L) n = G := ⟨_, rfl⟩
            have HGS : Hid (partsF b st (sel m (L.drop 0)) n = G) := Lib.hid hGp
            replace HGV : Hid ((G, 0) = pn) := Lib.hid (by rw [← hGp]; exact HGV.out)
            clear hGp
            go_loopw [13, 79] (fun v13 v79 wr => ∃ (i j : Nat) (z : Int), i ≤ nw ∧ v13 = .int .i64 z ∧ v79 = .int .i64 i ∧ Hid (W.drop i = withI m (L.drop j) j) ∧ Hid (partsF b st (sel m (L.drop j)) z = G) ∧ Hid (Below w6.heap.size w6 wr)) (fun _ v _ => nw - (intOf v).toNat)
            case atStart => exact ⟨0, 0, n, Nat.zero_le _, rfl, rfl, HWI, HGS, Lib.hid (Below.refl _ _)⟩
            case round =>
              obtain ⟨i, j, z, hi, rfl, rfl, HWJ, HGJ, HBr⟩ := hrel
              have hi4 : i ≤ 1048576 := by have := HWL.out; omega
              by_cases hlt : i < nw
              · have hlt' : (i : Int) < nw := by omega
                obtain ⟨aw, rfl, q0⟩ := Kd.at_int (Kd.C_below HCW.out HBr.out) (i : Int) (by omega) hlt'
                rw [show ((i : Int)).toNat = i by omega] at q0
                obtain ⟨q, x, hq, hrd, hqx, hdn, hsn⟩ := withI_next m L (L.drop j) j i W rfl HWJ.out (by rw [HNW.out]; exact hlt)
                rw [hrd] at q0
                have hql : q < nl := by rw [← HNL.out]; exact (List.getElem?_eq_some_iff.1 hqx).1
                obtain ⟨ad, Ax, cx, x', rfl, hx', p0, p1, p2, p3, p4, p5, p6, p7, p8, hcx, hCx⟩ := at_ex (Kd.C_below HCL.out HBr.out) HNL.out q hql
                obtain rfl : x = x' := Option.some.inj (hqx.symm.trans hx')
                have HDN := Lib.hid hdn
                have HSN := Lib.hid hsn
                have hqi : (q : Int) < nl := by omega
                have HXG : Hid (rngF x = true) := Lib.hid (HLG.out x (List.mem_of_getElem? hqx))
                clear hq hrd hqx hdn hsn hx' hql
                have HBwr : Hid (Below w.heap.size w wr) := Lib.hid (HBw6.out.trans (HBr.out.mono HBw6.out.size))
                have HGr := Lib.hid ((HBr.out.block g4 (blk_lt HG6.out)).trans HG6.out)
                have HP1 : Hid (∀ Q : Ending → World → Prop, (∀ e w'', (e = .returned (.tuple #[.int .i64 (partF b st x).1, .int .i64 (partF b st x).2]) ∧ Below wr.drew.heap.size wr.drew w'') → Q e w'') → Calls Tryz.prog 11 #[.agg #[.int .i64 x.f0, .int .i64 x.f1.f0, .int .i64 x.f1.f1, .string x.f1.f2, .int .i64 x.f2, .int .i64 x.f3, .int .i64 x.f4, .string x.f5, .slice Ax x.f6.length cx], .agg #[.slice a.A0 b.f0.length a.c0, .int .i64 b.f1, .slice a.A2 b.f2.length a.c2, .slice a.A3 b.f3.length a.c3, .slice a.A4 b.f4.length a.c4, .slice a.A5 b.f5.length a.c5, .slice a.A6 b.f6.length a.c6, .bool b.f7, .slice a.A8 b.f8.length a.c8, .slice a.A9 b.f9.length a.c9, .bool b.f10], .slice A1 n1 c1] wr.drew Q) := Lib.hid (fun Q hQ => (HPA.out wr.drew (below_drew HBwr.out) x Ax cx HXG.out hcx (Kd.C_below hCx (below_drew (Below.refl _ _)))).mono hQ)
                clear hcx hCx HXG
                go_upto_region 20 with fail
                clear q0
                have bx0 : wr.drew.cell? ⟨g4, 0, none⟩ = some (.slice a.A0 b.f0.length a.c0) := (bkC HGr.out 0).trans rfl; have bx1 : wr.drew.cell? ⟨g4, 1, none⟩ = some (.int .i64 b.f1) := (bkC HGr.out 1).trans rfl; have bx2 : wr.drew.cell? ⟨g4, 2, none⟩ = some (.slice a.A2 b.f2.length a.c2) := (bkC HGr.out 2).trans rfl; have bx3 : wr.drew.cell? ⟨g4, 3, none⟩ = some (.slice a.A3 b.f3.length a.c3) := (bkC HGr.out 3).trans rfl; have bx4 : wr.drew.cell? ⟨g4, 4, none⟩ = some (.slice a.A4 b.f4.length a.c4) := (bkC HGr.out 4).trans rfl; have bx5 : wr.drew.cell? ⟨g4, 5, none⟩ = some (.slice a.A5 b.f5.length a.c5) := (bkC HGr.out 5).trans rfl; have bx6 : wr.drew.cell? ⟨g4, 6, none⟩ = some (.slice a.A6 b.f6.length a.c6) := (bkC HGr.out 6).trans rfl; have bx7 : wr.drew.cell? ⟨g4, 7, none⟩ = some (.bool b.f7) := (bkC HGr.out 7).trans rfl; have bx8 : wr.drew.cell? ⟨g4, 8, none⟩ = some (.slice a.A8 b.f8.length a.c8) := (bkC HGr.out 8).trans rfl; have bx9 : wr.drew.cell? ⟨g4, 9, none⟩ = some (.slice a.A9 b.f9.length a.c9) := (bkC HGr.out 9).trans rfl; have bx10 : wr.drew.cell? ⟨g4, 10, none⟩ = some (.bool b.f10) := (bkC HGr.out 10).trans rfl
                have r0 : wr.drew.cell? (ad.add (q * 9)) = some (.int .i64 x.f0) := p0; have r1 : wr.drew.cell? ⟨(ad.add (q * 9)).block, (ad.add (q * 9)).off + 1, none⟩ = some (.int .i64 x.f1.f0) := p1; have r2 : wr.drew.cell? ⟨(ad.add (q * 9)).block, (ad.add (q * 9)).off + 2, none⟩ = some (.int .i64 x.f1.f1) := p2; have r3 : wr.drew.cell? ⟨(ad.add (q * 9)).block, (ad.add (q * 9)).off + 3, none⟩ = some (.string x.f1.f2) := p3; have r4 : wr.drew.cell? ⟨(ad.add (q * 9)).block, (ad.add (q * 9)).off + 4, none⟩ = some (.int .i64 x.f2) := p4; have r5 : wr.drew.cell? ⟨(ad.add (q * 9)).block, (ad.add (q * 9)).off + 5, none⟩ = some (.int .i64 x.f3) := p5; have r6 : wr.drew.cell? ⟨(ad.add (q * 9)).block, (ad.add (q * 9)).off + 6, none⟩ = some (.int .i64 x.f4) := p6; have r7 : wr.drew.cell? ⟨(ad.add (q * 9)).block, (ad.add (q * 9)).off + 7, none⟩ = some (.string x.f5) := p7; have r8 : wr.drew.cell? ⟨(ad.add (q * 9)).block, (ad.add (q * 9)).off + 8, none⟩ = some (.slice Ax x.f6.length cx) := p8
                generalize hpf : partF b st x = pf at HP1
                have HPF := Lib.hid hpf
                clear hpf p0 p1 p2 p3 p4 p5 p6 p7 p8 HGr
                go_region_held3 (fun w' => w'.cell? ⟨g4, 0, none⟩ = some (.slice a.A0 b.f0.length a.c0) ∧ w'.cell? ⟨g4, 1, none⟩ = some (.int .i64 b.f1) ∧ w'.cell? ⟨g4, 2, none⟩ = some (.slice a.A2 b.f2.length a.c2) ∧ w'.cell? ⟨g4, 3, none⟩ = some (.slice a.A3 b.f3.length a.c3) ∧ w'.cell? ⟨g4, 4, none⟩ = some (.slice a.A4 b.f4.length a.c4) ∧ w'.cell? ⟨g4, 5, none⟩ = some (.slice a.A5 b.f5.length a.c5) ∧ w'.cell? ⟨g4, 6, none⟩ = some (.slice a.A6 b.f6.length a.c6) ∧ w'.cell? ⟨g4, 7, none⟩ = some (.bool b.f7) ∧ w'.cell? ⟨g4, 8, none⟩ = some (.slice a.A8 b.f8.length a.c8) ∧ w'.cell? ⟨g4, 9, none⟩ = some (.slice a.A9 b.f9.length a.c9) ∧ w'.cell? ⟨g4, 10, none⟩ = some (.bool b.f10) ∧ w'.cell? (ad.add (q * 9)) = some (.int .i64 x.f0) ∧ w'.cell? ⟨(ad.add (q * 9)).block, (ad.add (q * 9)).off + 1, none⟩ = some (.int .i64 x.f1.f0) ∧ w'.cell? ⟨(ad.add (q * 9)).block, (ad.add (q * 9)).off + 2, none⟩ = some (.int .i64 x.f1.f1) ∧ w'.cell? ⟨(ad.add (q * 9)).block, (ad.add (q * 9)).off + 3, none⟩ = some (.string x.f1.f2) ∧ w'.cell? ⟨(ad.add (q * 9)).block, (ad.add (q * 9)).off + 4, none⟩ = some (.int .i64 x.f2) ∧ w'.cell? ⟨(ad.add (q * 9)).block, (ad.add (q * 9)).off + 5, none⟩ = some (.int .i64 x.f3) ∧ w'.cell? ⟨(ad.add (q * 9)).block, (ad.add (q * 9)).off + 6, none⟩ = some (.int .i64 x.f4) ∧ w'.cell? ⟨(ad.add (q * 9)).block, (ad.add (q * 9)).off + 7, none⟩ = some (.string x.f5) ∧ w'.cell? ⟨(ad.add (q * 9)).block, (ad.add (q * 9)).off + 8, none⟩ = some (.slice Ax x.f6.length cx)) (go_keep) (first | (go_at_call 11; with_reducible refine HP1.out _ ?_; rintro rr w7 ⟨rfl, hB7⟩; have by0 := pw_cell_below hB7 bx0; have by1 := pw_cell_below hB7 bx1; have by2 := pw_cell_below hB7 bx2; have by3 := pw_cell_below hB7 bx3; have by4 := pw_cell_below hB7 bx4; have by5 := pw_cell_below hB7 bx5; have by6 := pw_cell_below hB7 bx6; have by7 := pw_cell_below hB7 bx7; have by8 := pw_cell_below hB7 bx8; have by9 := pw_cell_below hB7 bx9; have by10 := pw_cell_below hB7 bx10; have t0 := pw_cell_below hB7 r0; have t1 := pw_cell_below hB7 r1; have t2 := pw_cell_below hB7 r2; have t3 := pw_cell_below hB7 r3; have t4 := pw_cell_below hB7 r4; have t5 := pw_cell_below hB7 r5; have t6 := pw_cell_below hB7 r6; have t7 := pw_cell_below hB7 r7; have t8 := pw_cell_below hB7 r8; have HB7 := Lib.hid (below_undrew hB7); clear hB7))
                have HT1 := Lib.hid (hist_Times.calls z pf.1 pf.2 _ w7 (times_f z pf.1 pf.2))
                clear HP1 bx0 bx1 bx2 bx3 bx4 bx5 bx6 bx7 bx8 bx9 bx10 by0 by1 by2 by3 by4 by5 by6 by7 by8 by9 by10 r0 r1 r2 r3 r4 r5 r6 r7 r8 t0 t1 t2 t3 t4 t5 t6 t7 t8
                go_wp2_with (go_at_call 37; refine HT1.out.mono ?_; rintro rr w8 ⟨rfl, hB8⟩; have HB8 : Hid (Below w6.heap.size w6 w8) := Lib.hid (HBr.out.trans ((HB7.out.trans (hB8.mono HB7.out.size)).mono HBr.out.size)); clear hB8)
                go_roundw
                case rel => exact ⟨i + 1, q + 1, _, by omega, rfl, by go_num, HDN, Lib.hid (by have h := HGJ.out; rw [HSN.out, partsF, HPF.out] at h; exact h), HB8⟩
                case measure => simp [intOf]; omega
              · have hlt' : ¬ (i : Int) < nw := by omega
                obtain rfl : nw = i := by omega
                have hz : z = G := by
                  have h := HWJ.out
                  rw [List.drop_of_length_le (by rw [HNW.out]; exact Nat.le_refl _)] at h
                  have h2 := HGJ.out
                  rw [withI_none m (L.drop j) j h.symm] at h2
                  exact h2
                subst hz
                have HBF : Hid (Below w.heap.size w wr) := Lib.hid (HBw6.out.trans (HBr.out.mono HBw6.out.size))
                clear HWJ HGJ hi hi4 hlt
                go_wp2_with fail
                go_ret2
                exact ⟨by rw [← HGV.out]; rfl, HBF.out⟩
      · obtain ⟨j, rfl⟩ : ∃ i, j = i + 1 := ⟨j - 1, by omega⟩
        have e1 : (((j + 1 : Nat) : Int) - 1) = (j : Int) := by omega
        have hjl : (j : Int) < nk := by omega
        obtain ⟨ad, hA, q0, q1⟩ := at_T45 (Kd.C_below HK.out HBw.out) (j : Int) (by omega) (by rw [HNK.out]; exact hjl)
        rw [show ((j : Int)).toNat = j by omega] at q0 q1
        subst hA
        obtain ⟨x, hx⟩ : ∃ x, rd_T45 kn (j : Int) = x := ⟨_, rfl⟩
        rw [hx] at q0 q1
        have hil : j < kn.length := by rw [HNK.out]; omega
        have HDD : Hid (kn.drop j = x :: kn.drop (j + 1)) := Lib.hid (by rw [List.drop_eq_getElem_cons hil, ← hx]; unfold rd_T45; simp [List.getElem?_eq_getElem hil])
        clear hx hil
        rw [e1]
        clear e1
        cases hbb : (x.f0.toList == s.toList) with
        | true =>
          have HKV : Hid ((clipI x.f1, 0) = pn) := Lib.hid (by
            have h := HPK.out
            have h2 : knownF s (kn.drop j) = some (clipI x.f1) := by rw [HDD.out, knownF, HKJ.out]; exact if_pos (beq_iff_eq.mp hbb)
            rw [← List.take_append_drop j kn, knownF_app s _ h2] at h
            exact h)
          have HCL := Lib.hid (clip_ok x.f1 wr)
          clear HKJ HPK HDD
          go_wp2_with (go_at_call 24; refine HCL.out.mono ?_; rintro rr w3 ⟨rfl, hB3⟩; have HB3 : Hid (Below w.heap.size w w3) := Lib.hid (HBw.out.trans (hB3.mono HBw.out.size)); clear hB3)
          go_ret2
          exact ⟨by rw [← HKV.out]; rfl, HB3.out⟩
        | false =>
          have hwj : wrap64 ((j : Int) - 1) = (j : Int) - 1 := wrap64_of (by omega) (by omega)
          go_wp2_with fail
          go_roundw
          case rel => exact ⟨j, by omega, rfl, Lib.hid (by rw [HDD.out, knownF, HKJ.out]; exact if_neg (fun h => by rw [beq_iff_eq.mpr h] at hbb; cases hbb)), by first | exact Lib.hid rfl | exact Lib.hid trivial⟩
          case measure => simp [intOf] <;> omega
  · have hp : ((0 : Int), er) = pn := by have h := HPN.out; rw [if_neg he] at h; exact h
    subst hp
    have hb0 : (er != 0) = true := bne_iff_ne.mpr he
    clear HPN he
    go_wp2_with fail
    go_ret2
    exact ⟨rfl, HBw.out⟩
end Go.Proofs.YtoffpegppdmkdaaGreatDoor.E
namespace Go.Proofs.YtoffpegppdmkdaaGreatDoor.E
set_option linter.unusedSimpArgs false
set_option linter.unusedVariables false
open Go.RowKit Go.Proofs.YtoffpegppdmkdaaGreatDoorW.PrintWords Go.Proofs.YtoffpegppdmkdaaGreatDoorW.PrintLast Go.Proofs.YtoffpegppdmkdaaGreatDoorW.PrintMore
def okP (p : Int × Int) : Prop := 0 ≤ p.1 ∧ p.1 ≤ p.2 ∧ 1 ≤ p.2
theorem clip_mono {a b : Int} (h : a ≤ b) : clipI a ≤ clipI b := by
  rw [clip_eq, clip_eq]; repeat' split
  all_goals omega
theorem clip_in {n : Int} (h0 : 0 ≤ n) (h1 : n ≤ 1000000000000) : clipI n = n := by rw [clip_eq, if_neg (by omega), if_neg (by omega)]
theorem many_mono (p : St → Bool) : ∀ (l : List St) (n m : Int), n ≤ m → 0 ≤ m → m ≤ 1000000000000 → manyI p l n ≤ manyI (fun _ => true) l m
  | [], n, m, h, _, _ => h
  | s :: l, n, m, h, h0, h1 => by
    rw [manyI, manyI, if_pos rfl]
    have hc := clip_0 (clipI m + clipI s.f1)
    split
    · exact many_mono p l _ _ (clip_mono (by have := clip_mono h; omega)) hc.1 hc.2
    · refine many_mono p l _ _ ?_ hc.1 hc.2
      have h3 := clip_mono (show m ≤ clipI m + clipI s.f1 by have := clip_0 s.f1; rw [clip_in h0 h1]; omega)
      rw [clip_in h0 h1] at h3
      unfold addI
      rw [clip_in h0 h1]
      omega
theorem below_le (h : Hi) (v : Va) (too : Bool) : 0 ≤ belowI h.f2 v too ∧ belowI h.f2 v too ≤ manyH h := ⟨(many_0 _ _ _ (by omega) (by omega)).1, many_mono _ _ _ _ (Int.le_refl 0) (by omega) (by omega)⟩
theorem hpart_okP (op : Int) (h : Hi) (v : Va) : okP (hpartF op h v) := by
  have hc := clip_0 h.f0
  have hd := mx_le 1 (clipI h.f0)
  have hm := mx_le 1 (manyH h)
  have hb := below_le h v
  have hb1 := hb (op == 12)
  have hb2 := hb (op == 13)
  have hx := mx_le 0 (manyH h - belowI h.f2 v (op == 13))
  unfold hpartF
  split
  · exact ⟨by show (0 : Int) ≤ 1; decide, hd.1, hd.1⟩
  split
  · exact ⟨by show 0 ≤ mx 1 (clipI h.f0) - 1; omega, by show mx 1 (clipI h.f0) - 1 ≤ mx 1 (clipI h.f0); omega, hd.1⟩
  split
  · exact ⟨hb1.1, by show belowI h.f2 v (op == 12) ≤ mx 1 (manyH h); omega, hm.1⟩
  split
  · split
    · exact ⟨hx.1, by show mx 0 (manyH h - belowI h.f2 v (op == 13)) ≤ manyH h; omega, by show 1 ≤ manyH h; omega⟩
    · exact ⟨by decide, by decide, by decide⟩
  · exact ⟨by decide, by decide, by decide⟩
theorem mn_le (a b : Int) : mn a b ≤ a ∧ mn a b ≤ b ∧ (mn a b = a ∨ mn a b = b) := by unfold mn; split <;> omega
theorem partQ_ok (b : Bl) (st : List Sta) (op : Int) (l r : Ex) : okP (partQ b st op l r) := by
  unfold partQ
  split
  · have h1 := clip_0 (statF b.f0 st l.f2).f0
    have h2 := clip_0 (colF b st l).f1
    have h3 := mn_le (clipI (statF b.f0 st l.f2).f0) (clipI (colF b st l).f1)
    have h4 := mx_le 1 (clipI (statF b.f0 st l.f2).f0)
    exact ⟨by show 0 ≤ mn _ _; omega, by show mn _ _ ≤ mx _ _; omega, h4.1⟩
  split
  · exact ⟨by decide, by decide, by decide⟩
  split
  · exact hpart_okP _ _ _
  split
  · exact hpart_okP _ _ _
  split
  · have h4 := mx_le 1 (clipI (colF b st l).f0)
    have h5 := mx_le (mx 1 (clipI (colF b st l).f0)) (clipI (colF b st r).f0)
    exact ⟨by show (0 : Int) ≤ 1; decide, by show 1 ≤ mx (mx _ _) _; omega, by show 1 ≤ mx (mx _ _) _; omega⟩
  · exact ⟨by decide, by decide, by decide⟩
theorem part_okP (b : Bl) (st : List Sta) (e : Ex) : okP (partF b st e) := by
  unfold partF
  split
  · split
    · exact ⟨by decide, by decide, by decide⟩
    · exact partQ_ok _ _ _ _ _
    · exact partQ_ok _ _ _ _ _
  · exact ⟨by decide, by decide, by decide⟩
theorem times_le {a : Int} {p : Int × Int} (h0 : 0 ≤ a) (h1 : a ≤ 1000000000000) (hp : okP p) : 0 ≤ timesI a p.1 p.2 ∧ timesI a p.1 p.2 ≤ a := by
  refine ⟨(times_0 _ _ _).1, ?_⟩
  obtain ⟨hp0, hp1, hp2⟩ := hp
  have hm := mx_le 1 (clipI p.2)
  have hc := clip_mono hp1
  have hc0 := clip_0 p.1
  have hle : clipI a * clipI p.1 ≤ a * mx 1 (clipI p.2) := by
    rw [clip_in h0 h1]
    exact Int.mul_le_mul_of_nonneg_left (by omega) h0
  have hcl : mulI a p.1 ≤ clipI a * clipI p.1 := by
    have hp := Int.mul_nonneg (clip_0 a).1 hc0.1
    unfold mulI
    rw [clip_eq]
    repeat' split
    all_goals omega
  unfold timesI
  exact Int.ediv_le_of_le_mul (by omega) (by omega)
theorem prod_0 (m : Int) : ∀ (l : List Int) (i : Nat) (n : Int), 0 ≤ n → n ≤ 1000000000000 → 0 ≤ prodF m l i n ∧ prodF m l i n ≤ 1000000000000
  | [], i, n, h0, h1 => ⟨h0, h1⟩
  | x :: l, i, n, h0, h1 => by
    rw [prodF]
    split
    · exact prod_0 m l _ _ (mul_0 _ _).1 (mul_0 _ _).2
    · exact prod_0 m l _ _ h0 h1
theorem parts_le (b : Bl) (st : List Sta) : ∀ (l : List Ex) (n : Int), 0 ≤ n → n ≤ 1000000000000 → 0 ≤ partsF b st l n ∧ partsF b st l n ≤ n
  | [], n, h0, h1 => ⟨h0, Int.le_refl _⟩
  | x :: l, n, h0, h1 => by
    have h := times_le h0 h1 (part_okP b st x)
    have ih := parts_le b st l (timesI n (partF b st x).1 (partF b st x).2) h.1 (by omega)
    rw [partsF]
    omega
def withC (b : Bl) (cs : List Ex) : Bl := ⟨b.f0, b.f1, b.f2, b.f3, cs, b.f5, b.f6, b.f7, b.f8, b.f9, b.f10⟩
theorem of_nil {b : Bl} {m : Int} (h : (ofRes b.f0 b.f1 m b.f4).2 = 0) : (ofRes b.f0 b.f1 m []).2 = 0 := by
  unfold ofRes at h ⊢
  by_cases h2 : offP b.f1 b.f0.length m ∨ b.f4.all rightB = false
  · rw [if_pos h2] at h; cases h
  · rw [if_neg (fun h3 => by
      rcases h3 with h3 | h3
      · exact h2 (.inl h3)
      · cases h3)]
theorem guess_nil (b : Bl) (m : Int) (st : List Sta) : guessF (withC b []) m st = prodF m (baseF b st) 0 1 := by
  have h : ∀ n, baseL (withC b []) st n = baseL b st n := fun n => by
    induction n with
    | zero => rfl
    | succ n ih => rw [baseL, baseL, ih]; rfl
  have h2 : baseF (withC b []) st = baseF b st := by unfold baseF; rw [h]; rfl
  show prodF m (baseF (withC b []) st) 0 1 = _
  rw [h2]
theorem est_nil (b : Bl) (m : Int) (st : List Sta) : estF b m st [] = if (ofRes b.f0 b.f1 m b.f4).2 = 0 then (guessF b m st, 0) else (0, (ofRes b.f0 b.f1 m b.f4).2) := rfl
theorem baseF_with (b : Bl) (cs : List Ex) (st : List Sta) : baseF (withC b cs) st = baseF b st := by
  have h : ∀ n, baseL (withC b cs) st n = baseL b st n := fun n => by
    induction n with
    | zero => rfl
    | succ n ih => rw [baseL, baseL, ih]; rfl
  unfold baseF; rw [h]; rfl
theorem more_plain1 (b : Bl) (m : Int) (st : List Sta) (cs : List Ex) (n k : Int) (h0 : b.f4 = []) (h1 : estF b m st [] = (n, 0)) (h2 : estF (withC b cs) m st [] = (k, 0)) : k ≤ n := by
  rw [est_nil] at h1 h2
  have ho1 : (ofRes b.f0 b.f1 m b.f4).2 = 0 := by
    by_cases h : (ofRes b.f0 b.f1 m b.f4).2 = 0
    · exact h
    · rw [if_neg h] at h1; exact (Prod.mk.inj h1).2
  have ho2 : (ofRes (withC b cs).f0 (withC b cs).f1 m (withC b cs).f4).2 = 0 := by
    by_cases h : (ofRes (withC b cs).f0 (withC b cs).f1 m (withC b cs).f4).2 = 0
    · exact h
    · rw [if_neg h] at h2; exact (Prod.mk.inj h2).2
  rw [if_pos ho1] at h1
  rw [if_pos ho2] at h2
  have e1 := (Prod.mk.inj h1).1
  have e2 := (Prod.mk.inj h2).1
  have hn : n = prodF m (baseF b st) 0 1 := by rw [← e1]; unfold guessF; rw [h0]; rfl
  have hk : k = partsF (withC b cs) st (sel m (condsF cs)) (prodF m (baseF b st) 0 1) := by rw [← e2]; unfold guessF; rw [baseF_with]; rfl
  have hp := prod_0 m (baseF b st) 0 1 (by decide) (by decide)
  have hg := parts_le (withC b cs) st (sel m (condsF cs)) _ hp.1 hp.2
  omega
theorem mul_mono {a b c d : Int} (ha : 0 ≤ a) (h : a ≤ b) (hc : 0 ≤ c) (h2 : c ≤ d) : mulI a c ≤ mulI b d := by
  have h3 := clip_mono h
  have h4 := clip_mono h2
  exact clip_mono (Int.mul_le_mul h3 h4 (clip_0 c).1 (clip_0 b).1)
def LeL : List Int → List Int → Prop
  | [], [] => True
  | x :: l, y :: r => 0 ≤ x ∧ x ≤ y ∧ LeL l r
  | _, _ => False
theorem prod_mono (m : Int) : ∀ (l r : List Int) (i : Nat) (n k : Int), LeL l r → 0 ≤ n → n ≤ k → prodF m l i n ≤ prodF m r i k
  | [], [], i, n, k, _, _, h => h
  | x :: l, y :: r, i, n, k, h, h0, h1 => by
    rw [prodF, prodF]
    split
    · exact prod_mono m l r _ _ _ h.2.2 (mul_0 _ _).1 (mul_mono h0 h1 h.1 h.2.1)
    · exact prod_mono m l r _ _ _ h.2.2 h0 h1
  | [], _ :: _, _, _, _, h, _, _ => h.elim
  | _ :: _, [], _, _, _, h, _, _ => h.elim
theorem LeL_snoc {x y : Int} : ∀ {l r : List Int}, LeL l r → 0 ≤ x → x ≤ y → LeL (l ++ [x]) (r ++ [y])
  | [], [], _, h0, h1 => ⟨h0, h1, trivial⟩
  | a :: l, b :: r, h, h0, h1 => ⟨h.1, h.2.1, LeL_snoc h.2.2 h0 h1⟩
  | [], _ :: _, h, _, _ => h.elim
  | _ :: _, [], h, _, _ => h.elim
def moreS (st : List Sta) (i : Nat) (z : Int) : List Sta := st.set i ⟨z, (st.getD i z51).f1⟩
theorem stat_mono (sz : List Int) (st : List Sta) (i : Nat) (z : Int) (hz : (st.getD i z51).f0 ≤ z) (rel : Int) : clipI (statF sz st rel).f0 ≤ clipI (statF sz (moreS st i z) rel).f0 := by
  refine clip_mono ?_
  unfold statF
  have hl : (moreS st i z).length = st.length := by unfold moreS; rw [List.length_set]
  rw [hl]
  split
  · exact Int.le_refl _
  split
  · exact Int.le_refl _
  · rename_i h1 h2
    unfold rd_T51 moreS
    obtain ⟨j, hj⟩ : ∃ j : Nat, (rd sz rel).toNat = j := ⟨_, rfl⟩
    rw [hj, List.getD_eq_getElem?_getD, List.getD_eq_getElem?_getD, List.getElem?_set]
    by_cases e : i = j
    · subst e
      have hlt : i < st.length := by omega
      rw [if_pos rfl, if_pos hlt]
      rw [List.getD_eq_getElem?_getD] at hz
      exact hz
    · rw [if_neg e]; exact Int.le_refl _
theorem base_mono (b : Bl) (st : List Sta) (i : Nat) (z : Int) (hz : (st.getD i z51).f0 ≤ z) : LeL (baseF b st) (baseF b (moreS st i z)) := by
  have h : ∀ n, LeL (baseL b st n) (baseL b (moreS st i z) n) := fun n => by
    induction n with
    | zero => trivial
    | succ n ih => rw [baseL, baseL]; exact LeL_snoc ih (clip_0 _).1 (stat_mono b.f0 st i z hz _)
  unfold baseF
  split
  · trivial
  · exact h _
theorem more_plain2 (b : Bl) (m : Int) (st : List Sta) (i : Nat) (z : Int) (hz : (st.getD i z51).f0 ≤ z) (h : (ofRes b.f0 b.f1 m b.f4).2 = 0) : ∃ x y, estF (withC b []) m st [] = (x, 0) ∧ estF (withC b []) m (moreS st i z) [] = (y, 0) ∧ x ≤ y := by
  have h0 : (ofRes (withC b []).f0 (withC b []).f1 m (withC b []).f4).2 = 0 := of_nil (b := b) h
  refine ⟨guessF (withC b []) m st, guessF (withC b []) m (moreS st i z), ?_, ?_, ?_⟩
  · rw [est_nil, if_pos h0]
  · rw [est_nil, if_pos h0]
  · rw [guess_nil, guess_nil]
    exact prod_mono m _ _ 0 1 1 (base_mono b st i z hz) (by decide) (Int.le_refl _)
theorem more_C {w : World} {base R n cap : Nat} {ok : Nat → Prop} {st : List Sta} (h : Kd.N k51 51 w base ok (.slice (some ⟨R, 0, none⟩) n cap) st) (i : Nat) (hi : i < n) (z : Int) : Kd.C k51 (w.setCell ⟨R, i * 2, none⟩ (.int .i64 z)) (some ⟨R, 0, none⟩) n (moreS st i z) := by
  obtain ⟨hn, hc, hC⟩ := Kd.N_reads' h
  have hl : (moreS st i z).length = n := by unfold moreS; rw [List.length_set, hn]
  refine ⟨hl, by have := hC.2.1; omega, fun _ => ⟨_, rfl, ?_⟩⟩
  intro j p hp
  have hjl : j < n := by rw [← hl]; exact (List.getElem?_eq_some_iff.1 hp).1
  obtain ⟨c, hcl, hF, hcc, hfr⟩ := Kd.N_elem h z51 (j : Int) (by omega) (by omega)
  rw [Int.toNat_natCast] at hF hcc hfr
  have hF2 : Kd.FK k51 (w.setCell ⟨R, i * 2, none⟩ (.int .i64 z)) _ _ _ := Kd.FK_step hF (fun k hk _ => Below.heap_setCell w ⟨R, i * 2, none⟩ (.int .i64 z) k hk.2)
  obtain ⟨A2, c2, rfl, hc2, hC2⟩ := k51_open (Kd.FK_now hF2)
  have q0 : w.cell? ⟨R, j * 2 + 0, none⟩ = _ := hcc 0 _ rfl
  have q1 : w.cell? ⟨R, j * 2 + 1, none⟩ = _ := hcc 1 _ rfl
  obtain ⟨x, hx⟩ : ∃ x, st.getD j z51 = x := ⟨_, rfl⟩
  rw [hx] at q0 q1 hc2 hC2
  unfold moreS at hp
  rw [List.getElem?_set] at hp
  by_cases e : i = j
  · subst e
    rw [if_pos rfl, if_pos (by omega)] at hp
    obtain rfl := Option.some.inj hp
    rw [hx]
    refine ⟨_, rfl, k51_mk _ ⟨z, x.f1⟩ hc2 hC2, ?_⟩
    intro u v hv
    have hu : u < 2 := by
      have := (List.getElem?_eq_some_iff.1 hv).1; simpa using this
    obtain rfl | rfl : u = 0 ∨ u = 1 := by omega
    all_goals (have hv' := Option.some.inj hv; subst hv'; rw [add_plain])
    · exact World.cell?_setCell_same w _ _ q0
    · exact (World.cell?_setCell_other w ⟨R, i * 2, none⟩ ⟨R, i * 2 + 1, none⟩ _ (by intro h; injection h with _ h2 _; omega)).trans q1
  · rw [if_neg e] at hp
    have hpx : p = x := by rw [← hx, List.getD_eq_getElem?_getD, hp]; rfl
    subst hpx
    refine ⟨_, rfl, k51_mk _ p hc2 hC2, ?_⟩
    intro u v hv
    have hu : u < 2 := by
      have := (List.getElem?_eq_some_iff.1 hv).1; simpa using this
    obtain rfl | rfl : u = 0 ∨ u = 1 := by omega
    all_goals (have hv' := Option.some.inj hv; subst hv'; rw [add_plain])
    · exact (World.cell?_setCell_other w ⟨R, i * 2, none⟩ ⟨R, j * 2 + 0, none⟩ _ (by intro h; injection h with _ h2 _; omega)).trans q0
    · exact (World.cell?_setCell_other w ⟨R, i * 2, none⟩ ⟨R, j * 2 + 1, none⟩ _ (by intro h; injection h with _ h2 _; omega)).trans q1
end Go.Proofs.YtoffpegppdmkdaaGreatDoor.E
namespace Go.Proofs.YtoffpegppdmkdaaGreatDoor.E
open Go.RowKit Go.Proofs.YtoffpegppdmkdaaGreatDoorW.PrintWords Go.Proofs.YtoffpegppdmkdaaGreatDoorW.PrintLast Go.Proofs.YtoffpegppdmkdaaGreatDoorW.PrintMore
set_option linter.unusedVariables false
set_option linter.unusedSimpArgs false
def eqE : Ex := twoE 9 (refE 0 0) (refE 1 0)
def litB (sz : List Int) (n : Int) (cs : List Ex) : Bl := ⟨sz, n, [], [], cs, [], [], false, [], [], false⟩
def litA (A0 : Option Addr) (c0 : Nat) (A4 : Option Addr) (c4 : Nat) : BA := ⟨A0, none, none, A4, none, none, none, none, c0, 0, 0, c4, 0, 0, 0, 0⟩
theorem litR {sz : List Int} {n : Int} {cs : List Ex} {A0 : Option Addr} {c0 : Nat} {A4 : Option Addr} {c4 : Nat} {w : World} (h0 : (Kd.int .i64).C w A0 sz.length sz) (l0 : sz.length ≤ c0) (h4 : Kd.C KX w A4 cs.length cs) (l4 : cs.length ≤ c4) : BR (litB sz n cs) (litA A0 c0 A4 c4) w :=
  ⟨h0, l0, Kd.C_nil _ _, Nat.le_refl _, Kd.C_nil _ _, Nat.le_refl _, h4, l4, Kd.C_nil _ _, Nat.le_refl _, Kd.C_nil _ _, Nat.le_refl _, Kd.C_nil _ _, Nat.le_refl _, Kd.C_nil _ _, Nat.le_refl _⟩
theorem eq_right : rightB eqE = true := by kernel_rfl
theorem less10 : lessT (refE 1 0) (refE 0 0) = false := by
  unfold lessT
  rw [tl_right (by kernel_rfl), tl_right (by kernel_rfl), textF_eq, textF_eq]
  have h0 : Lib.itoa 0 = [48] := itoa_one 0 (by decide)
  have h1 : Lib.itoa 1 = [49] := itoa_one 1 (by decide)
  show decide ((82 :: (Lib.itoa 1 ++ 46 :: Lib.itoa 0)) < (82 :: (Lib.itoa 0 ++ 46 :: Lib.itoa 0))) = false
  rw [h0, h1]
  decide
theorem eq_norm : normF eqE = eqE := by
  unfold eqE
  rw [normF_eq]
  have h1 : normF (refE 1 0) = refE 1 0 := norm_leaf rfl rfl
  have h2 : normF (refE 0 0) = refE 0 0 := norm_leaf rfl rfl
  have e : (twoE 9 (refE 0 0) (refE 1 0)).f6.map normF = [refE 0 0, refE 1 0] := by show [normF (refE 0 0), normF (refE 1 0)] = _; rw [h1, h2]
  rw [e]
  have ht : turnF 9 [refE 0 0, refE 1 0] = (9, [refE 0 0, refE 1 0]) := by
    unfold turnF
    rw [if_neg (by decide), if_pos (by decide), if_neg (by show ¬ lessT (refE 1 0) (refE 0 0) = true; rw [less10]; decide)]
  show (⟨(turnF 9 _).1, _, _, _, _, _, (turnF 9 _).2⟩ : Ex) = _
  rw [ht]; rfl
def st0 : List Sta := [⟨100, [⟨50, 0, []⟩]⟩, ⟨100, [⟨20, 0, []⟩]⟩]
theorem ex_of : (ofRes [0, 1] 2 3 [eqE]).2 = 0 := by
  unfold ofRes
  rw [if_neg]
  rintro (h | h)
  · exact absurd h (by decide)
  · rw [List.all_cons, eq_right] at h; cases h
theorem ex_sel : sel 3 (condsF [eqE]) = [eqE] := by
  have h : condsF [eqE] = [eqE] := by show [normF eqE] = _; rw [eq_norm]
  have hs : inSet 3 eqE = true := by kernel_rfl
  rw [h, sel, List.filter_cons, if_pos hs]; rfl
theorem ex_part (st : List Sta) : partF (litB [0, 1] 2 [eqE]) st eqE = partQ (litB [0, 1] 2 [eqE]) st 9 (refE 0 0) (refE 1 0) := by
  unfold partF
  rw [if_pos eq_right, eq_norm]; rfl
theorem ex_a : estF (litB [0, 1] 2 [eqE]) 3 st0 [] = (200, 0) := by
  unfold estF guessF
  show (if (ofRes [0, 1] 2 3 [eqE]).2 = 0 then _ else _) = _
  rw [if_pos ex_of]
  show (partsF _ st0 (sel 3 (condsF [eqE])) _, (0 : Int)) = _
  rw [ex_sel]
  show (timesI _ (partF _ st0 eqE).1 (partF _ st0 eqE).2, (0 : Int)) = _
  rw [ex_part]
  kernel_rfl
theorem ex_b : estF (litB [0, 1] 2 [eqE]) 3 [] [] = (100, 0) := by
  unfold estF guessF
  show (if (ofRes [0, 1] 2 3 [eqE]).2 = 0 then _ else _) = _
  rw [if_pos ex_of]
  show (partsF _ [] (sel 3 (condsF [eqE])) _, (0 : Int)) = _
  rw [ex_sel]
  show (timesI _ (partF _ [] eqE).1 (partF _ [] eqE).2, (0 : Int)) = _
  rw [ex_part]
  kernel_rfl
theorem eq_rng : rngF eqE = true := by kernel_rfl
theorem ex_G : ofG [0, 1] 3 [eqE] := ⟨⟨fun x hx => by obtain rfl := List.mem_singleton.1 hx; exact eq_rng, by decide⟩, by decide, fun x hx => by
  simp only [List.mem_cons, List.not_mem_nil, or_false] at hx
  rcases hx with rfl | rfl <;> decide⟩
theorem equal_ok (w : World) : Calls Tryz.prog 21 #[] w fun e w' => ∃ A c, e = .returned (.agg (exC eqE A c)) ∧ 2 ≤ c ∧ Kd.C KX w' A 2 [refE 0 0, refE 1 0] ∧ Below w.heap.size w w' := by
  refine (w14_equal.calls _ _ _ _ _ _ _ _ _ w rfl).mono ?_
  rintro e w' ⟨v, rfl, hR, hB⟩
  obtain ⟨A, c, rfl, hc, hC⟩ := Kd.R_reads hR
  exact ⟨A, c, rfl, hc, hC, hB⟩
theorem hist1_C {w : World} {g : Nat} {n m : Int} (h : w.heap[g]? = some (.cells #[.int .i64 n, .int .i64 m, .slice none 0 0] 64 (0, 0))) : Kd.C k64 w (some ⟨g, 0, none⟩) 1 [⟨n, m, []⟩] := by
  refine ⟨rfl, by simp, fun _ => ⟨_, rfl, ?_⟩⟩
  intro j p hp
  match j, hp with
  | 0, hp =>
    obtain rfl := Option.some.inj hp
    refine ⟨_, rfl, k64_mk w _ (Nat.le_refl _) (Kd.C_nil _ _), ?_⟩
    intro i u hu
    have hi : i < 3 := by
      have := (List.getElem?_eq_some_iff.1 hu).1; simpa using this
    obtain rfl | rfl | rfl : i = 0 ∨ i = 1 ∨ i = 2 := by omega
    all_goals (have hu' := Option.some.inj hu; subst hu'; rw [add_plain])
    · exact (bkC h 0).trans rfl
    · exact (bkC h 1).trans rfl
    · exact (bkC h 2).trans rfl
theorem stat2_C {w : World} {g : Nat} {n m : Int} {l1 l2 : List Hi} {A1 A2 : Option Addr} {c1 c2 : Nat} (h : w.heap[g]? = some (.cells #[.int .i64 n, .slice A1 l1.length c1, .int .i64 m, .slice A2 l2.length c2] 51 (0, 0))) (h1 : l1.length ≤ c1) (h2 : l2.length ≤ c2) (hC1 : Kd.C k64 w A1 l1.length l1) (hC2 : Kd.C k64 w A2 l2.length l2) : Kd.C k51 w (some ⟨g, 0, none⟩) 2 [⟨n, l1⟩, ⟨m, l2⟩] := by
  refine ⟨rfl, by simp, fun _ => ⟨_, rfl, ?_⟩⟩
  intro j p hp
  match j, hp with
  | 0, hp =>
    obtain rfl := Option.some.inj hp
    refine ⟨_, rfl, k51_mk w _ h1 hC1, ?_⟩
    intro i u hu
    have hi : i < 2 := by
      have := (List.getElem?_eq_some_iff.1 hu).1; simpa using this
    obtain rfl | rfl : i = 0 ∨ i = 1 := by omega
    all_goals (have hu' := Option.some.inj hu; subst hu'; rw [add_plain])
    · exact (bkC h 0).trans rfl
    · exact (bkC h 1).trans rfl
  | 1, hp =>
    obtain rfl := Option.some.inj hp
    refine ⟨_, rfl, k51_mk w _ h2 hC2, ?_⟩
    intro i u hu
    have hi : i < 2 := by
      have := (List.getElem?_eq_some_iff.1 hu).1; simpa using this
    obtain rfl | rfl : i = 0 ∨ i = 1 := by omega
    all_goals (have hu' := Option.some.inj hu; subst hu'; rw [add_plain])
    · exact (bkC h 2).trans rfl
    · exact (bkC h 3).trans rfl
theorem alloc2 (w : World) (X Y : Obj) : ((w.alloc X).alloc Y).heap[w.heap.size]? = some X ∧ ((w.alloc X).alloc Y).heap[w.heap.size + 1]? = some Y ∧ Below w.heap.size w ((w.alloc X).alloc Y) := by
  have h := heap_alloc_new (w.alloc X) Y
  rw [show (w.alloc X).heap.size = w.heap.size + 1 from by simp] at h
  exact ⟨bkA (heap_alloc_new w X) Y, h, blA (blA (Below.refl _ _) _) _⟩
theorem alloc3 (w : World) (X Y Z : Obj) : (((w.alloc X).alloc Y).alloc Z).heap[w.heap.size]? = some X ∧ (((w.alloc X).alloc Y).alloc Z).heap[w.heap.size + 1]? = some Y ∧ (((w.alloc X).alloc Y).alloc Z).heap[w.heap.size + 2]? = some Z ∧ Below w.heap.size w (((w.alloc X).alloc Y).alloc Z) := by
  have h2 := alloc2 w X Y
  have h := heap_alloc_new ((w.alloc X).alloc Y) Z
  rw [show ((w.alloc X).alloc Y).heap.size = w.heap.size + 2 from by simp] at h
  exact ⟨bkA h2.1 Z, bkA h2.2.1 Z, h, blA h2.2.2 _⟩
set_option maxHeartbeats 4000000 in
set_option maxRecDepth 100000 in
theorem examples_ok (w : World) (hT : TabW w) : Calls Tryz.prog 10 #[] w fun r w' => r = .returned (.bool true) ∧ Below w.heap.size w w' := by
  have HT := Lib.hid hT; clear hT
  go_enter Tryz.func10, Tryz.ntmps10
  go_upto_region 2 with (go_at_call 21; refine (equal_ok _).mono ?_; rintro rr w2 ⟨A, c, rfl, hc, hC, hB2⟩; have HB2 := Lib.hid hB2; have HC := Lib.hid hC; clear hC hB2; unfold exC)
  have ha2 := alloc2 w2 (.cells (exC eqE A c) 26 (0, 0)) (.cells (blC (litB [0, 1] 2 [eqE]) (litA (some ⟨w.heap.size, 0, none⟩) 2 (some ⟨w2.heap.size, 0, none⟩) 1)) 30 (0, 0))
  have hI : w2.heap[w.heap.size]? = some (.cells (([0, 1] : List Int).map (Value.int .i64)).toArray 3 (0, 0)) := (HB2.out.block w.heap.size (blk_lt (heap_alloc_new w _))).trans (heap_alloc_new w _)
  have HI := Lib.hid ((ha2.2.2.block _ (blk_lt hI)).trans hI)
  have HBw2 : Below w.heap.size w w2 := (blA (Below.refl w.heap.size w) _).trans (HB2.out.mono (by simp))
  have HB3 : Hid (Below w.heap.size w ((w2.alloc (.cells (exC eqE A c) 26 (0, 0))).alloc (.cells (blC (litB [0, 1] 2 [eqE]) (litA (some ⟨w.heap.size, 0, none⟩) 2 (some ⟨w2.heap.size, 0, none⟩) 1)) 30 (0, 0)))) := Lib.hid (HBw2.trans (ha2.2.2.mono HBw2.size))
  have HE := Lib.hid ha2.1
  have HG := Lib.hid ha2.2.1
  have HC3 := Lib.hid (Kd.C_below HC.out ha2.2.2)
  clear ha2 hI HBw2 HB2 HC
  change Code.wp _ _ _ _ ((w2.alloc (.cells (exC eqE A c) 26 (0, 0))).alloc (.cells (blC (litB [0, 1] 2 [eqE]) (litA (some ⟨w.heap.size, 0, none⟩) 2 (some ⟨w2.heap.size, 0, none⟩) 1)) 30 (0, 0)))
  generalize ((w2.alloc (.cells (exC eqE A c) 26 (0, 0))).alloc (.cells (blC (litB [0, 1] 2 [eqE]) (litA (some ⟨w.heap.size, 0, none⟩) 2 (some ⟨w2.heap.size, 0, none⟩) 1)) 30 (0, 0))) = w3 at HI HB3 HE HG HC3 ⊢
  obtain ⟨gb, hgb⟩ : ∃ gb, w2.heap.size + 1 = gb := ⟨_, rfl⟩
  rw [hgb] at HG ⊢
  obtain ⟨eb, heb⟩ : ∃ eb, w2.heap.size = eb := ⟨_, rfl⟩
  rw [heb] at HE HG ⊢
  obtain ⟨ib, hib⟩ : ∃ ib, w.heap.size = ib := ⟨_, rfl⟩
  replace HI : Hid (w3.heap[ib]? = some (.cells (([0, 1] : List Int).map (Value.int .i64)).toArray 3 (0, 0))) := Lib.hid (by rw [← hib]; exact HI.out)
  replace HG : Hid (w3.heap[gb]? = some (.cells (blC (litB [0, 1] 2 [eqE]) (litA (some ⟨ib, 0, none⟩) 2 (some ⟨eb, 0, none⟩) 1)) 30 (0, 0))) := Lib.hid (by rw [← hib]; exact HG.out)
  have HIB := Lib.hid hib
  clear hgb heb hib
  go_upto_region 3 with fail
  have ha3 := alloc3 w3 (.cells #[.int .i64 50, .int .i64 0, .slice none 0 0] 64 (0, 0)) (.cells #[.int .i64 20, .int .i64 0, .slice none 0 0] 64 (0, 0)) (.cells #[.int .i64 100, .slice (some ⟨w3.heap.size, 0, none⟩) 1 1, .int .i64 100, .slice (some ⟨w3.heap.size + 1, 0, none⟩) 1 1] 51 (0, 0))
  have HS := Lib.hid (stat2_C (l1 := [⟨50, 0, []⟩]) (l2 := [⟨20, 0, []⟩]) ha3.2.2.1 (Nat.le_refl _) (Nat.le_refl _) (hist1_C ha3.1) (hist1_C ha3.2.1))
  have hB4 := ha3.2.2.2
  have h2 : w3.heap.size + 1 + 1 = w3.heap.size + 2 := by omega
  rw [h2]
  clear ha3 h2
  generalize ((w3.alloc (.cells #[.int .i64 50, .int .i64 0, .slice none 0 0] 64 (0, 0))).alloc (.cells #[.int .i64 20, .int .i64 0, .slice none 0 0] 64 (0, 0))).alloc (.cells #[.int .i64 100, .slice (some ⟨w3.heap.size, 0, none⟩) 1 1, .int .i64 100, .slice (some ⟨w3.heap.size + 1, 0, none⟩) 1 1] 51 (0, 0)) = w4 at HS hB4 ⊢
  generalize w3.heap.size + 2 = sb at HS ⊢
  have HB4 := Lib.hid (HB3.out.trans (hB4.mono HB3.out.size))
  have HR := Lib.hid (fun (W : World) (hW : Below w3.heap.size w3 W) => BR.later (litR (n := 2) (ints_C [0, 1] HI.out (by decide)) (Nat.le_refl 2) (ex1_C HE.out hc (Kd.C_below HC3.out (Below.refl _ _))) (Nat.le_refl 1)) hW)
  have HG4 := Lib.hid ((hB4.block gb (blk_lt HG.out)).trans HG.out)
  have h1 := est_ok (litB [0, 1] 2 [eqE]) (litA (some ⟨ib, 0, none⟩) 2 (some ⟨eb, 0, none⟩) 1) 3 st0 (some ⟨sb, 0, none⟩) 2 [] none 0 w4 (tab_at HT.out HB4.out) ex_G (HR.out w4 hB4) HS.out (Nat.le_refl 2) (Kd.C_nil _ _) (by decide)
  rw [ex_a] at h1
  have H1 := Lib.hid h1
  have H2 := Lib.hid (fun (W : World) (hW : Below w4.heap.size w4 W) => est_ok (litB [0, 1] 2 [eqE]) (litA (some ⟨ib, 0, none⟩) 2 (some ⟨eb, 0, none⟩) 1) 3 [] none 0 [] none 0 W (tab_at HT.out (HB4.out.trans (hW.mono HB4.out.size))) ex_G (HR.out W (hB4.trans (hW.mono hB4.size))) (Kd.C_nil _ _) (Nat.le_refl 0) (Kd.C_nil _ _) (by decide))
  rw [ex_b] at H2
  clear h1 HS HR HI HE HC3 HB3 HG hB4
  have bx0 : w4.cell? ⟨gb, 0, none⟩ = some (.slice (some ⟨ib, 0, none⟩) 2 2) := (bkC HG4.out 0).trans rfl; have bx1 : w4.cell? ⟨gb, 1, none⟩ = some (.int .i64 2) := (bkC HG4.out 1).trans rfl; have bx2 : w4.cell? ⟨gb, 2, none⟩ = some (.slice none 0 0) := (bkC HG4.out 2).trans rfl; have bx3 : w4.cell? ⟨gb, 3, none⟩ = some (.slice none 0 0) := (bkC HG4.out 3).trans rfl; have bx4 : w4.cell? ⟨gb, 4, none⟩ = some (.slice (some ⟨eb, 0, none⟩) 1 1) := (bkC HG4.out 4).trans rfl; have bx5 : w4.cell? ⟨gb, 5, none⟩ = some (.slice none 0 0) := (bkC HG4.out 5).trans rfl; have bx6 : w4.cell? ⟨gb, 6, none⟩ = some (.slice none 0 0) := (bkC HG4.out 6).trans rfl; have bx7 : w4.cell? ⟨gb, 7, none⟩ = some (.bool false) := (bkC HG4.out 7).trans rfl; have bx8 : w4.cell? ⟨gb, 8, none⟩ = some (.slice none 0 0) := (bkC HG4.out 8).trans rfl; have bx9 : w4.cell? ⟨gb, 9, none⟩ = some (.slice none 0 0) := (bkC HG4.out 9).trans rfl; have bx10 : w4.cell? ⟨gb, 10, none⟩ = some (.bool false) := (bkC HG4.out 10).trans rfl
  go_upto_region 4 with (go_at_call 16; refine H1.out.mono ?_; rintro rr w5 ⟨rfl, hB5⟩; have HB5 := Lib.hid hB5; clear hB5)
  clear bx0 bx1 bx2 bx3 bx4 bx5 bx6 bx7 bx8 bx9 bx10 H1
  have HG5 := Lib.hid ((HB5.out.block gb (blk_lt HG4.out)).trans HG4.out)
  have bx0 : w5.cell? ⟨gb, 0, none⟩ = some (.slice (some ⟨ib, 0, none⟩) 2 2) := (bkC HG5.out 0).trans rfl; have bx1 : w5.cell? ⟨gb, 1, none⟩ = some (.int .i64 2) := (bkC HG5.out 1).trans rfl; have bx2 : w5.cell? ⟨gb, 2, none⟩ = some (.slice none 0 0) := (bkC HG5.out 2).trans rfl; have bx3 : w5.cell? ⟨gb, 3, none⟩ = some (.slice none 0 0) := (bkC HG5.out 3).trans rfl; have bx4 : w5.cell? ⟨gb, 4, none⟩ = some (.slice (some ⟨eb, 0, none⟩) 1 1) := (bkC HG5.out 4).trans rfl; have bx5 : w5.cell? ⟨gb, 5, none⟩ = some (.slice none 0 0) := (bkC HG5.out 5).trans rfl; have bx6 : w5.cell? ⟨gb, 6, none⟩ = some (.slice none 0 0) := (bkC HG5.out 6).trans rfl; have bx7 : w5.cell? ⟨gb, 7, none⟩ = some (.bool false) := (bkC HG5.out 7).trans rfl; have bx8 : w5.cell? ⟨gb, 8, none⟩ = some (.slice none 0 0) := (bkC HG5.out 8).trans rfl; have bx9 : w5.cell? ⟨gb, 9, none⟩ = some (.slice none 0 0) := (bkC HG5.out 9).trans rfl; have bx10 : w5.cell? ⟨gb, 10, none⟩ = some (.bool false) := (bkC HG5.out 10).trans rfl
  have H3 := Lib.hid (H2.out w5 HB5.out)
  clear H2
  go_wp2_with (go_at_call 16; refine H3.out.mono ?_; rintro rr w6 ⟨rfl, hB6⟩; have HB6 := Lib.hid (HB4.out.trans ((HB5.out.trans (hB6.mono HB5.out.size)).mono HB4.out.size)); clear hB6)
  go_ret
  exact ⟨rfl, HB6.out⟩
end Go.Proofs.YtoffpegppdmkdaaGreatDoor.E
namespace Go.Proofs.YtoffpegppdmkdaaGreatDoor.E
open Go.RowKit Go.Proofs.YtoffpegppdmkdaaGreatDoorW.PrintWords Go.Proofs.YtoffpegppdmkdaaGreatDoorW.PrintLast Go.Proofs.YtoffpegppdmkdaaGreatDoorW.PrintMore
attribute [local go_sem] max2_int min2_int max_two min_two max_three min_three max_four min_four
set_option linter.unusedVariables false
set_option linter.unusedSimpArgs false
theorem BR.cut {b : Bl} {a : BA} {w : World} (h : BR b a w) (m : Nat) : BR (withC b (b.f4.take m)) a w := by
  refine ⟨h.r0, h.l0, h.r2, h.l2, h.r3, h.l3, ?_, ?_, h.r5, h.l5, h.r6, h.l6, h.r8, h.l8, h.r9, h.l9⟩
  · show Kd.C KX w a.A4 (b.f4.take m).length (b.f4.take m)
    rcases Nat.le_total m b.f4.length with hm | hm
    · exact Kd.C_take h.r4 hm
    · rw [List.take_of_length_le hm]; exact h.r4
  · show (b.f4.take m).length ≤ a.c4
    rw [List.length_take]; have := h.l4; omega
def noC (a : BA) : BA := ⟨a.A0, a.A2, a.A3, none, a.A5, a.A6, a.A8, a.A9, a.c0, a.c2, a.c3, 0, a.c5, a.c6, a.c8, a.c9⟩
theorem BR.nil {b : Bl} {a : BA} {w : World} (h : BR b a w) : BR (withC b []) (noC a) w := ⟨h.r0, h.l0, h.r2, h.l2, h.r3, h.l3, Kd.C_nil _ _, Nat.le_refl _, h.r5, h.l5, h.r6, h.l6, h.r8, h.l8, h.r9, h.l9⟩
def zerosB : Array Value := #[.slice none 0 0, .int .i64 0, .slice none 0 0, .slice none 0 0, .slice none 0 0, .slice none 0 0, .slice none 0 0, .bool false, .slice none 0 0, .slice none 0 0, .bool false]
theorem info_bl (b : Bl) (a : BA) : (Tryz.prog.info? 30).map (·.size) = some (blC b a).size := by
  have h : (Tryz.prog.info? 30).map (·.size) = some 11 := by kernel_rfl
  rw [h]; rfl
theorem one_bl (b : Bl) (a : BA) : (blC b a).all (·.oneCell') = true := by simp [blC, Value.oneCell']
theorem ofG.take {b : Bl} {m : Int} (h : ofG b.f0 m b.f4) (k : Nat) : ofG (withC b (b.f4.take k)).f0 m (withC b (b.f4.take k)).f4 := ⟨⟨fun x hx => h.1.1 x (List.mem_of_mem_take hx), by show (b.f4.take k).length ≤ _; rw [List.length_take]; have := h.1.2; omega⟩, h.2⟩
theorem ofG.none {b : Bl} {m : Int} (h : ofG b.f0 m b.f4) : ofG (withC b []).f0 m (withC b []).f4 := ⟨⟨fun x hx => (by cases hx), Nat.zero_le _⟩, h.2⟩
theorem lit_F {W : World} {lb : Nat} {mo : Ex} {Am : Option Addr} {cm : Nat} {P : Nat → Prop} (hb : W.heap[lb]? = some (.cells (exC mo Am cm) 26 (0, 0))) (hl : mo.f6.length ≤ cm) (hF : Kd.F KX W P Am mo.f6.length mo.f6) : Kd.F KX W (fun q => P q ∨ q = lb) (some ⟨lb, 0, none⟩) 1 [mo] :=
  fun W' hW => ex1_C ((hW lb (.inr rfl) (blk_lt hb)).trans hb) hl (hF W' (fun k hk hlt => hW k (.inl hk) hlt))
theorem below_gn2 {n : Nat} {w W w1 : World} {row : Option Nat} (hb : Below n w W) (hg : W.grownBy w1 row) (hr : ∀ k, row = some k → n ≤ k) (hn : n ≤ W.heap.size) : Below n w w1 :=
  hb.trans ⟨hg.os, hg.tape, hg.output, hg.size, fun i hi => hg.block i (by omega) (fun e => by have := hr i e.symm; omega)⟩
theorem of0_est {b : Bl} {m : Int} {st : List Sta} {n : Int} (h1 : estF b m st [] = (n, 0)) : (ofRes b.f0 b.f1 m b.f4).2 = 0 := by
  rw [est_nil] at h1
  by_cases h : (ofRes b.f0 b.f1 m b.f4).2 = 0
  · exact h
  · rw [if_neg h] at h1; exact (Prod.mk.inj h1).2
theorem ofG.snoc {b : Bl} {m : Int} {mo : Ex} (h : ofG b.f0 m b.f4) (hm : rngF mo = true) (hl : b.f4.length ≤ 11) : ofG (withC b (b.f4 ++ [mo])).f0 m (withC b (b.f4 ++ [mo])).f4 :=
  ⟨⟨fun x hx => by
    rcases List.mem_append.1 hx with hx | hx
    · exact h.1.1 x hx
    · rw [List.mem_singleton.1 hx]; exact hm, by show (b.f4 ++ [mo]).length ≤ _; rw [List.length_append, List.length_singleton]; omega⟩, h.2⟩
theorem le_max2 (x y : Int) : x ≤ (if x < y then y else x) := by split <;> omega
theorem alloc_last (w : World) (o : Obj) : (w.alloc o).heap[w.heap.size]? = some o := heap_alloc_new w o
theorem alloc_lt (w : World) (o : Obj) : w.drew.heap.size < (w.drew.alloc o).heap.size := by simp
theorem own_none {n : Nat} : ∀ k, (Value.slice none 0 0).ownBlock = some k → n ≤ k := fun k hk => by simp [Value.ownBlock] at hk
theorem own_ge {v : Value} {n m : Nat} (h : v.ownBlock = (Value.slice none 0 0).ownBlock ∨ ∃ b, v.ownBlock = some b ∧ n ≤ b) (hm : m ≤ n) : ∀ k, v.ownBlock = some k → m ≤ k := by
  intro k hk
  rcases h with h | ⟨b, h, hb⟩
  · rw [hk] at h; simp [Value.ownBlock] at h
  · rw [hk] at h; injection h with h; omega
theorem own_i {w w6 wA : World} {g14 n : Nat} {v : Value} {xs : List Ex} {ok : Nat → Prop} (h : v.ownBlock = (Value.slice none 0 0).ownBlock ∨ ∃ b, v.ownBlock = some b ∧ n ≤ b) (hn : w6.heap.size < n) (hN : Kd.N KX 26 wA w.heap.size ok v xs) (h1 : w.heap.size ≤ g14) (h2 : g14 < w6.heap.size) (_h3 : w.heap.size ≤ w6.heap.size) : ∀ q, (q < w.heap.size ∨ q = w6.heap.size) → q ≠ g14 ∧ some q ≠ v.ownBlock := by
  intro q hq
  refine ⟨by omega, fun e => ?_⟩
  have h3 := Kd.N_base hN q e.symm
  have h4 := own_ge h (Nat.le_refl _) q e.symm
  omega
theorem own_ii {w w6 wA : World} {g14 : Nat} {v : Value} {xs : List Ex} {ok : Nat → Prop} (hN : Kd.N KX 26 wA w.heap.size ok v xs) (h1 : w.heap.size ≤ g14) (h2 : g14 < w6.heap.size) (h3 : w6.heap.size ≤ wA.heap.size) : ∀ q, (q < w.heap.size ∨ q = wA.heap.size) → q ≠ g14 ∧ some q ≠ v.ownBlock := by
  intro q hq
  refine ⟨by omega, fun e => ?_⟩
  have h3 := Kd.N_base hN q e.symm
  have h4 := Kd.N_lt hN q e.symm
  omega
def putC (a : BA) (A4 : Option Addr) (c4 : Nat) : BA := ⟨a.A0, a.A2, a.A3, A4, a.A5, a.A6, a.A8, a.A9, a.c0, a.c2, a.c3, c4, a.c5, a.c6, a.c8, a.c9⟩
theorem BR.put {b : Bl} {a : BA} {w : World} (h : BR b a w) (cs : List Ex) {A4 : Option Addr} {c4 : Nat} (hC : Kd.C KX w A4 cs.length cs) (hc : cs.length ≤ c4) : BR (withC b cs) (putC a A4 c4) w := ⟨h.r0, h.l0, h.r2, h.l2, h.r3, h.l3, hC, hc, h.r5, h.l5, h.r6, h.l6, h.r8, h.l8, h.r9, h.l9⟩
set_option maxHeartbeats 8000000 in
set_option maxRecDepth 100000 in
theorem more_ok (b : Bl) (a : BA) (m : Int) (st : List Sta) (A1 : Option Addr) (c1 : Nat) (mo : Ex) (Am : Option Addr) (cm : Nat) (which rows : Int) (w : World) (hT : TabW w) (hb : BR b a w) (hG : ofG (b.f0) m (b.f4.take 11)) (hS : Kd.C k51 w A1 st.length st) (hc1 : st.length ≤ c1) (hM : Kd.C KX w Am mo.f6.length mo.f6) (hcm : mo.f6.length ≤ cm) (hMr : rngF mo = true) (hwh : -9223372036854775808 ≤ which ∧ which ≤ 9223372036854775807) (hst : st.length ≤ 4398046511104) :
    Calls Tryz.prog 7 #[.agg (blC b a), .int .i64 m, .slice A1 st.length c1, .agg (exC mo Am cm), .int .i64 which, .int .i64 rows] w fun r w' => r = .returned (.bool true) ∧ Below w.heap.size w w' := by
  have HE := Lib.hid (fun (W : World) (hW : Below w.heap.size w W) (b2 : Bl) (a2 : BA) (s2 : List Sta) (B1 : Option Addr) (d1 : Nat) (h1 : BR b2 a2 W) (h2 : ofG b2.f0 m b2.f4) (h3 : Kd.C k51 W B1 s2.length s2) (h4 : s2.length ≤ d1) => est_ok b2 a2 m s2 B1 d1 [] none 0 W (tab_at hT hW) h2 h1 h3 h4 (Kd.C_nil _ _) (by decide))
  have HGG := Lib.hid hG
  have HS := Lib.hid hS
  have HMF := Lib.hid (Kd.C_F k26_heap hM)
  have HMR := Lib.hid hMr
  obtain ⟨n1, hn1⟩ : ∃ n1, st.length = n1 := ⟨_, rfl⟩
  have HN1 := Lib.hid hn1
  rw [hn1] at hc1 hst ⊢
  unfold exC
  clear hS hn1 hG hM hMr
  have HT := Lib.hid hT
  have HBR0 := Lib.hid (hb.cut 11)
  have HEX := Lib.hid (examples_ok w hT)
  obtain ⟨n, hn⟩ : ∃ n, b.f4.length = n := ⟨_, rfl⟩
  obtain ⟨k, hk⟩ : ∃ k, (b.f4.take 11).length = k := ⟨_, rfl⟩
  have hkn : k = min 11 n := by rw [← hk, List.length_take, hn]
  have hk_ : (if (11 : Int) < (n : Int) then (11 : Int) else (n : Int)) = (k : Int) := by split <;> omega
  have hk0 : (0 : Int) ≤ (k : Int) := by omega
  have hkc : (k : Int) ≤ (a.c4 : Int) := by have h := hb.l4; rw [hn] at h; omega
  have hk2 : k ≤ a.c4 := by omega
  obtain ⟨bc, hbc⟩ : ∃ bc, withC b (b.f4.take 11) = bc := ⟨_, rfl⟩
  have HCE : Hid ((blC b a).setIfInBounds 4 (.slice a.A4 k a.c4) = blC bc a) := Lib.hid (by rw [← hbc, ← hk]; rfl)
  rw [hbc] at HBR0
  have HBC := Lib.hid hbc
  have HKL : Hid (bc.f4.length = k) := Lib.hid (by rw [← hbc]; exact hk)
  clear hb hkn hk hbc hT
  unfold blC
  rw [hn]
  clear hn
  go_enter Tryz.func7, Tryz.ntmps7
  go_upto_region 1 with (first | ((with_reducible refine gate_dst (N := 6) rfl ?_); refine box_event rfl (N := 6) rfl (cs := #[.slice a.A0 b.f0.length a.c0, .int .i64 b.f1, .slice a.A2 b.f2.length a.c2, .slice a.A3 b.f3.length a.c3, .slice a.A4 n a.c4, .slice a.A5 b.f5.length a.c5, .slice a.A6 b.f6.length a.c6, .bool b.f7, .slice a.A8 b.f8.length a.c8, .slice a.A9 b.f9.length a.c9, .bool b.f10]) (t := 30) (by first | rfl | (go_simp; done) | (go_simp; rfl)) ?_; intro g3 hgg w1 hbg3 hBg3;  have hg3w : w.heap.size ≤ g3 := (by omega); have HG := Lib.hid hbg3; have HB1 := Lib.hid hBg3; clear hgg hbg3 hBg3) | ((with_reducible refine gate_dst (N := 9) rfl ?_); refine box_event rfl (N := 9) rfl (cs := exC mo Am cm) (t := 26) (by first | rfl | (go_simp; done) | (go_simp; rfl)) ?_; intro g9 hgg w1b hbg9 hBg9;  have HX9 := Lib.hid hbg9; have HB1b := Lib.hid hBg9; clear hgg hbg9 hBg9))
  have h39 : g3 < w1.heap.size := blk_lt HG.out
  replace HG := Lib.hid ((HB1b.out.block g3 (blk_lt HG.out)).trans HG.out)
  replace HB1 : Hid (Below w.heap.size w w1b) := Lib.hid (HB1.out.trans (HB1b.out.mono HB1.out.size))
  clear HB1b
  go_upto_region 2 with (go_at_call 10; refine (examples_ok w1b (tab_at HT.out HB1.out)).mono ?_; rintro rr w2 ⟨rfl, hB2⟩; have HB2 := Lib.hid hB2; clear hB2)
  replace HG := Lib.hid ((HB2.out.block g3 (blk_lt HG.out)).trans HG.out)
  have HB02 : Hid (Below w.heap.size w w2) := Lib.hid (HB1.out.trans (HB2.out.mono HB1.out.size))
  have z4 : w2.cell? ⟨g3, 4, none⟩ = some (.slice a.A4 n a.c4) := (bkC HG.out 4).trans rfl
  have f4 := bkF HG.out 4
  replace HX9 := Lib.hid ((HB2.out.block g9 (blk_lt HX9.out)).trans HX9.out)
  have h39' : g9 ≠ g3 := by have h := HX9.out; have h2 := HG.out; intro e; subst e; rw [h] at h2; simp at h2
  clear HB1 HB2 HEX h39
  go_upto_region 3 with fail
  have HG3 : Hid ((w2.setCell ⟨g3, 4, none⟩ (.slice a.A4 k a.c4)).heap[g3]? = some (.cells (blC bc a) 30 (0, 0))) := Lib.hid (by have h := blk_set HG.out 4 (.slice a.A4 k a.c4); rw [← HCE.out]; exact h)
  have HB3 : Hid (Below w.heap.size w (w2.setCell ⟨g3, 4, none⟩ (.slice a.A4 k a.c4))) := Lib.hid (HB02.out.setCell (p := ⟨g3, 4, none⟩) hg3w _)
  replace HX9 : Hid ((w2.setCell ⟨g3, 4, none⟩ (.slice a.A4 k a.c4)).heap[g9]? = some (.cells (exC mo Am cm) 26 (0, 0))) := Lib.hid (blk_far HX9.out h39' _)
  generalize w2.setCell ⟨g3, 4, none⟩ (.slice a.A4 k a.c4) = w3 at HG3 HB3 HX9 ⊢
  clear z4 f4 HG HB02 hk_ hk0 hkc hk2 HCE
  have HBR := Lib.hid (fun (W : World) (hW : Below w.heap.size w W) => HBR0.out.later hW)
  have hGc : ofG bc.f0 m bc.f4 := by rw [← HBC.out]; exact HGG.out
  have HGc := Lib.hid hGc
  have HK11 : Hid (k ≤ 11) := Lib.hid (by rw [← HKL.out, ← HBC.out]; show (b.f4.take 11).length ≤ 11; rw [List.length_take]; omega)
  clear hGc HGG HBC
  have bx0 : w3.cell? ⟨g3, 0, none⟩ = some (.slice a.A0 bc.f0.length a.c0) := (bkC HG3.out 0).trans rfl; have bx1 : w3.cell? ⟨g3, 1, none⟩ = some (.int .i64 bc.f1) := (bkC HG3.out 1).trans rfl; have bx2 : w3.cell? ⟨g3, 2, none⟩ = some (.slice a.A2 bc.f2.length a.c2) := (bkC HG3.out 2).trans rfl; have bx3 : w3.cell? ⟨g3, 3, none⟩ = some (.slice a.A3 bc.f3.length a.c3) := (bkC HG3.out 3).trans rfl; have bx4 : w3.cell? ⟨g3, 4, none⟩ = some (.slice a.A4 bc.f4.length a.c4) := (bkC HG3.out 4).trans rfl; have bx5 : w3.cell? ⟨g3, 5, none⟩ = some (.slice a.A5 bc.f5.length a.c5) := (bkC HG3.out 5).trans rfl; have bx6 : w3.cell? ⟨g3, 6, none⟩ = some (.slice a.A6 bc.f6.length a.c6) := (bkC HG3.out 6).trans rfl; have bx7 : w3.cell? ⟨g3, 7, none⟩ = some (.bool bc.f7) := (bkC HG3.out 7).trans rfl; have bx8 : w3.cell? ⟨g3, 8, none⟩ = some (.slice a.A8 bc.f8.length a.c8) := (bkC HG3.out 8).trans rfl; have bx9 : w3.cell? ⟨g3, 9, none⟩ = some (.slice a.A9 bc.f9.length a.c9) := (bkC HG3.out 9).trans rfl; have bx10 : w3.cell? ⟨g3, 10, none⟩ = some (.bool bc.f10) := (bkC HG3.out 10).trans rfl
  go_upto_region 4 with (first | ((with_reducible refine gate_dst (N := 14) rfl ?_); refine box_event rfl (N := 14) rfl (cs := zerosB) (t := 30) (by first | rfl | (go_simp; done) | (go_simp; rfl)) ?_; intro g14 hgg w5 hbg14 hBg14;  have hg14w : w3.heap.size ≤ g14 := (by omega); clear hgg) | ((with_reducible refine gate_store (p := 14) (v := .tmp 35) rfl ?_); refine wpList_store_row rfl 30 (.tmp 14) (.tmp 35) rfl g14 (blC bc a) rfl rfl 30 zerosB hbg14 (info_bl _ _) rfl (one_bl _ _) ?_))
  have hx6 := setRow_at w5 g14 _ zerosB (blC bc a) hbg14
  have hg14g : g3 ≠ g14 := by have := blk_lt HG3.out; omega
  have hg149 : g9 ≠ g14 := by have := blk_lt HX9.out; omega
  have HG14w : Hid (w.heap.size ≤ g14) := Lib.hid (Nat.le_trans HB3.out.size hg14w)
  have HG6 : Hid ((w5.setRow g14 (blC bc a)).heap[g3]? = some (.cells (blC bc a) 30 (0, 0))) := Lib.hid (setRow_far _ (fun e => hg14g e.symm) ((hBg14.block g3 (blk_lt HG3.out)).trans HG3.out) _)
  have HX6 : Hid ((w5.setRow g14 (blC bc a)).heap[g9]? = some (.cells (exC mo Am cm) 26 (0, 0))) := Lib.hid (setRow_far _ (fun e => hg149 e.symm) ((hBg14.block g9 (blk_lt HX9.out)).trans HX9.out) _)
  have HB6 : Hid (Below w.heap.size w (w5.setRow g14 (blC bc a))) := Lib.hid (below_setRow' (HB3.out.trans (hBg14.mono HB3.out.size)) HG14w.out _)
  have HY6 := Lib.hid hx6
  clear hbg14 hBg14 bx0 bx1 bx2 bx3 bx4 bx5 bx6 bx7 bx8 bx9 bx10 hx6 hg14w HG3 HX9 HB3
  generalize w5.setRow g14 (blC bc a) = w6 at HG6 HX6 HB6 HY6 ⊢
  try simp only [Act.put, List.setIfInBounds_toArray, List.set_cons_succ, List.set_cons_zero]
  go_cut [1] from 36 to 42 (fun s wx => s = .int .i64 m ∧ ∃ A2 c2, Hid (wx.heap[g14]? = some (.cells (blC (withC bc (bc.f4 ++ [mo])) (putC a A2 c2)) 30 (0, 0))) ∧ Hid (wx.heap[g3]? = some (.cells (blC bc a) 30 (0, 0))) ∧ Hid ((bc.f4 ++ [mo]).length ≤ c2) ∧ Hid (Kd.C KX wx A2 (bc.f4 ++ [mo]).length (bc.f4 ++ [mo])) ∧ Hid (Below w.heap.size w wx))
  case first =>
    have HFc : Hid (Kd.F KX w (fun q => q < w.heap.size) a.A4 bc.f4.length bc.f4) := Lib.hid (Kd.C_F k26_heap (HBR.out w (Below.refl _ _)).r4)
    have hL11 : bc.f4.length ≤ 11 := by rw [HKL.out]; exact HK11.out
    have hL := Lib.hid hL11
    have x4 : w6.cell? ⟨g3, 4, none⟩ = some (.slice a.A4 bc.f4.length a.c4) := (bkC HG6.out 4).trans rfl
    have e0 : w6.cell? ⟨g9, 0, none⟩ = some (.int .i64 mo.f0) := (bkC HX6.out 0).trans rfl; have e1 : w6.cell? ⟨g9, 1, none⟩ = some (.int .i64 mo.f1.f0) := (bkC HX6.out 1).trans rfl; have e2 : w6.cell? ⟨g9, 2, none⟩ = some (.int .i64 mo.f1.f1) := (bkC HX6.out 2).trans rfl; have e3 : w6.cell? ⟨g9, 3, none⟩ = some (.string mo.f1.f2) := (bkC HX6.out 3).trans rfl; have e4 : w6.cell? ⟨g9, 4, none⟩ = some (.int .i64 mo.f2) := (bkC HX6.out 4).trans rfl; have e5 : w6.cell? ⟨g9, 5, none⟩ = some (.int .i64 mo.f3) := (bkC HX6.out 5).trans rfl; have e6 : w6.cell? ⟨g9, 6, none⟩ = some (.int .i64 mo.f4) := (bkC HX6.out 6).trans rfl; have e7 : w6.cell? ⟨g9, 7, none⟩ = some (.string mo.f5) := (bkC HX6.out 7).trans rfl; have e8 : w6.cell? ⟨g9, 8, none⟩ = some (.slice Am mo.f6.length cm) := (bkC HX6.out 8).trans rfl
    have h14lt := blk_lt HY6.out
    have hcmH := Lib.hid hcm
    have hz14 := Lib.hid h14lt
    have q39 : g14 ≠ g9 := fun e => hg149 e.symm
    have q33 : g14 ≠ g3 := fun e => hg14g e.symm
    clear h14lt hL11
    go_region_held3 (fun w' => w'.cell? ⟨g3, 4, none⟩ = some (.slice a.A4 bc.f4.length a.c4) ∧ w'.cell? ⟨g9, 0, none⟩ = some (.int .i64 mo.f0) ∧ w'.cell? ⟨g9, 1, none⟩ = some (.int .i64 mo.f1.f0) ∧ w'.cell? ⟨g9, 2, none⟩ = some (.int .i64 mo.f1.f1) ∧ w'.cell? ⟨g9, 3, none⟩ = some (.string mo.f1.f2) ∧ w'.cell? ⟨g9, 4, none⟩ = some (.int .i64 mo.f2) ∧ w'.cell? ⟨g9, 5, none⟩ = some (.int .i64 mo.f3) ∧ w'.cell? ⟨g9, 6, none⟩ = some (.int .i64 mo.f4) ∧ w'.cell? ⟨g9, 7, none⟩ = some (.string mo.f5) ∧ w'.cell? ⟨g9, 8, none⟩ = some (.slice Am mo.f6.length cm)) (go_keep) (first
      | (refine Kd.N_append_rows_step KX (w0 := w) w.heap.size (by rfl) (.const (.slice none 0 0)) (.tmp 37) 24 26 (.agg #[(.int .i64 0), (.int .i64 0), (.int .i64 0), (.string ⟨#[]⟩), (.int .i64 0), (.int .i64 0), (.int .i64 0), (.string ⟨#[]⟩), (.slice none 0 0)]) 104 rfl Tryz.underlying24 info26 rfl (by decide) (by omega) (.slice none 0 0) ([] : List Ex) bc.f4 a.A4 bc.f4.length a.c4 (fun q => q ≠ g14) (fun q => q < w.heap.size) rfl rfl (Kd.N_nil _ _ _ _ _) (Kd.F_below HFc.out (below_drew HB6.out)) (fun q hq => ⟨by have := HG14w.out; omega, by simp [Value.ownBlock]⟩) (fun q hq => Nat.ne_of_gt (Nat.lt_of_lt_of_le hz14.out hq)) (below_drew HB6.out) HB6.out.size (by have := hL.out; simp; omega) ?_
         intro v1 wA hN hB hg hat
         rw [List.nil_append] at hN
         have HO := Lib.hid hat; clear hat
         have HBA : Hid (Below w6.heap.size w6 wA) := Lib.hid (below_gn2 (below_drew (Below.refl w6.heap.size w6)) hg own_none (Nat.le_refl _))
         have HNA := Lib.hid hN
         have HBW := Lib.hid hB
         clear hN hB hg
         have xa4 := pw_cell_below HBA.out x4
         have ea0 := pw_cell_below HBA.out e0; have ea1 := pw_cell_below HBA.out e1; have ea2 := pw_cell_below HBA.out e2; have ea3 := pw_cell_below HBA.out e3; have ea4 := pw_cell_below HBA.out e4; have ea5 := pw_cell_below HBA.out e5; have ea6 := pw_cell_below HBA.out e6; have ea7 := pw_cell_below HBA.out e7; have ea8 := pw_cell_below HBA.out e8
         have HLA := Lib.hid True.intro)
      | (refine Kd.N_append_rows_step KX (w0 := w) w.heap.size (by rfl) (.const (.slice none 0 0)) (.tmp 37) 24 26 (.agg #[(.int .i64 0), (.int .i64 0), (.int .i64 0), (.string ⟨#[]⟩), (.int .i64 0), (.int .i64 0), (.int .i64 0), (.string ⟨#[]⟩), (.slice none 0 0)]) 104 rfl Tryz.underlying24 info26 rfl (by decide) (by omega) (.slice none 0 0) ([] : List Ex) bc.f4 a.A4 bc.f4.length a.c4 (fun q => q ≠ g14) (fun q => q < w.heap.size) rfl rfl (Kd.N_nil _ _ _ _ _) (Kd.F_below HFc.out (blA (below_drew HB6.out) _)) (fun q hq => ⟨by have := HG14w.out; omega, by simp [Value.ownBlock]⟩) (fun q hq => Nat.ne_of_gt (Nat.lt_of_lt_of_le hz14.out (Nat.le_trans (blA (below_drew (Below.refl w6.heap.size w6)) _).size hq))) (blA (below_drew HB6.out) _) (blA (below_drew HB6.out) _).size (by have := hL.out; simp; omega) ?_
         intro v1 wA hN hB hg hat
         rw [List.nil_append] at hN
         have HO := Lib.hid hat; clear hat
         have HBA : Hid (Below w6.heap.size w6 wA) := Lib.hid (below_gn2 (blA (below_drew (Below.refl w6.heap.size w6)) _) hg own_none (blA (below_drew (Below.refl w6.heap.size w6)) _).size)
         have HLA : Hid (wA.heap[w6.heap.size]? = some (.cells (exC mo Am cm) 26 (0, 0))) := Lib.hid ((hg.block w6.heap.size (alloc_lt w6 _) (by simp [Value.ownBlock])).trans (alloc_last w6.drew _))
         have HNA := Lib.hid hN
         have HBW := Lib.hid hB
         clear hN hB hg
         have xa4 := pw_cell_below HBA.out x4
         have ea0 := pw_cell_below HBA.out e0; have ea1 := pw_cell_below HBA.out e1; have ea2 := pw_cell_below HBA.out e2; have ea3 := pw_cell_below HBA.out e3; have ea4 := pw_cell_below HBA.out e4; have ea5 := pw_cell_below HBA.out e5; have ea6 := pw_cell_below HBA.out e6; have ea7 := pw_cell_below HBA.out e7; have ea8 := pw_cell_below HBA.out e8)
      | (refine Kd.N_append_rows_step KX (w0 := w) w.heap.size (by rfl) (.tmp 38) (.tmp 40) 24 26 (.agg #[(.int .i64 0), (.int .i64 0), (.int .i64 0), (.string ⟨#[]⟩), (.int .i64 0), (.int .i64 0), (.int .i64 0), (.string ⟨#[]⟩), (.slice none 0 0)]) 104 rfl Tryz.underlying24 info26 rfl (by decide) (by omega) v1 bc.f4 [mo] (some ⟨w6.heap.size, 0, none⟩) 1 1 (fun q => q ≠ g14) (fun q => q < w.heap.size ∨ q = w6.heap.size) rfl rfl HNA.out (lit_F HLA.out hcmH.out (Kd.F_below HMF.out HBW.out)) ?aK (fun q hq => Nat.ne_of_gt (Nat.lt_of_lt_of_le hz14.out (Nat.le_trans HBA.out.size hq))) HBW.out HBW.out.size (by have := hL.out; simp; omega) ?_
         (case aK => exact own_i HO.out (alloc_lt w6 _) HNA.out HG14w.out hz14.out HB6.out.size)
         intro v2 wB hN hB hg hat
         have HBB : Hid (Below w6.heap.size w6 wB) := Lib.hid (below_gn2 HBA.out hg (own_ge HO.out (Nat.le_of_lt (alloc_lt w6 _))) HBA.out.size)
         have HBW2 := Lib.hid hB
         have HN2 := Lib.hid hN
         clear hN hB hg hat
         obtain ⟨A2, c2, rfl, hc2, hC2⟩ := Kd.N_reads HN2.out
         have HC2 := Lib.hid hc2; clear hC2 hc2
         have xb4 := pw_cell_below HBB.out x4
         have eb0 := pw_cell_below HBB.out e0; have eb1 := pw_cell_below HBB.out e1; have eb2 := pw_cell_below HBB.out e2; have eb3 := pw_cell_below HBB.out e3; have eb4 := pw_cell_below HBB.out e4; have eb5 := pw_cell_below HBB.out e5; have eb6 := pw_cell_below HBB.out e6; have eb7 := pw_cell_below HBB.out e7; have eb8 := pw_cell_below HBB.out e8
         have y4 : wB.cell? ⟨g14, 4, none⟩ = some (.slice a.A4 bc.f4.length a.c4) := pw_cell_below HBB.out ((bkC HY6.out 4).trans rfl)
         have f4 := bkF ((HBB.out.block g14 hz14.out).trans HY6.out) 4)
      | (refine Kd.N_append_rows_step KX (w0 := w) w.heap.size (by rfl) (.tmp 38) (.tmp 40) 24 26 (.agg #[(.int .i64 0), (.int .i64 0), (.int .i64 0), (.string ⟨#[]⟩), (.int .i64 0), (.int .i64 0), (.int .i64 0), (.string ⟨#[]⟩), (.slice none 0 0)]) 104 rfl Tryz.underlying24 info26 rfl (by decide) (by omega) v1 bc.f4 [mo] (some ⟨wA.heap.size, 0, none⟩) 1 1 (fun q => q ≠ g14) (fun q => q < w.heap.size ∨ q = wA.heap.size) rfl rfl ?aO ?aR ?aK ?aF ?aB ?aS ?aL ?_
         (case aO => exact Kd.N_alloc HNA.out _)
         (case aR => exact lit_F (alloc_last _ _) hcmH.out (Kd.F_below HMF.out (blA HBW.out _)))
         (case aF => exact (fun q hq => Nat.ne_of_gt (Nat.lt_of_lt_of_le hz14.out (Nat.le_trans (Nat.le_trans HBA.out.size (blA (Below.refl wA.heap.size wA) _).size) hq))))
         (case aB => exact blA HBW.out _)
         (case aS => exact (blA HBW.out _).size)
         (case aL => (have := hL.out; simp; omega))
         (case aK => exact own_ii HNA.out HG14w.out hz14.out HBA.out.size)
         intro v2 wB hN hB hg hat
         have HBB : Hid (Below w6.heap.size w6 wB) := Lib.hid (below_gn2 (blA HBA.out _) hg (own_ge HO.out (Nat.le_refl _)) (blA HBA.out _).size)
         have HBW2 := Lib.hid hB
         have HN2 := Lib.hid hN
         clear hN hB hg hat
         obtain ⟨A2, c2, rfl, hc2, hC2⟩ := Kd.N_reads HN2.out
         have HC2 := Lib.hid hc2; clear hC2 hc2
         have xb4 := pw_cell_below HBB.out x4
         have eb0 := pw_cell_below HBB.out e0; have eb1 := pw_cell_below HBB.out e1; have eb2 := pw_cell_below HBB.out e2; have eb3 := pw_cell_below HBB.out e3; have eb4 := pw_cell_below HBB.out e4; have eb5 := pw_cell_below HBB.out e5; have eb6 := pw_cell_below HBB.out e6; have eb7 := pw_cell_below HBB.out e7; have eb8 := pw_cell_below HBB.out e8
         have y4 : wB.cell? ⟨g14, 4, none⟩ = some (.slice a.A4 bc.f4.length a.c4) := pw_cell_below HBB.out ((bkC HY6.out 4).trans rfl)
         have f4 := bkF ((HBB.out.block g14 hz14.out).trans HY6.out) 4))
    all_goals (
      go_wp2_with fail
      go_meet
      have hlen : (bc.f4 ++ [mo]).length = bc.f4.length + 1 := by rw [List.length_append]; rfl
      rw [← hlen]
      exact ⟨rfl, A2, c2, Lib.hid (blk_set ((HBB.out.block g14 hz14.out).trans HY6.out) 4 _), Lib.hid (blk_far ((HBB.out.block g3 (blk_lt HG6.out)).trans HG6.out) hg14g _), HC2, Lib.hid (Kd.N_reads' (Kd.N_far HN2.out (p := ⟨g14, 4, none⟩) (fun _ h => h) _)).2.2, Lib.hid (HBW2.out.setCell (p := ⟨g14, 4, none⟩) HG14w.out _)⟩)
  case rest =>
    obtain ⟨rfl, A2, c2, HM14, HM3, HML, HMC, HBx⟩ := hcut
    obtain ⟨w7, rfl⟩ : ∃ w7 : World, w7 = wc := ⟨_, rfl⟩
    clear HG6 HX6 HB6 HY6 HG14w
    obtain ⟨n2, f1, h1⟩ : ∃ n2 f1, estF bc m st [] = (n2, f1) := ⟨_, _, rfl⟩
    obtain ⟨b2, hb2⟩ : ∃ b2, withC bc (bc.f4 ++ [mo]) = b2 := ⟨_, rfl⟩
    obtain ⟨a2, ha2⟩ : ∃ a2, putC a A2 c2 = a2 := ⟨_, rfl⟩
    obtain ⟨k2, f2, h2⟩ : ∃ k2 f2, estF b2 m st [] = (k2, f2) := ⟨_, _, rfl⟩
    have HP1 : Hid (bc.f4 = [] → f1 = 0 → f2 = 0 → k2 ≤ n2) := Lib.hid (fun h0 hf hg => by subst hf; subst hg; rw [← hb2] at h2; exact more_plain1 bc m st _ n2 k2 h0 h1 h2)
    have HO1 : Hid (f1 = 0 → (ofRes bc.f0 bc.f1 m bc.f4).2 = 0) := Lib.hid (fun h => by subst h; exact of0_est h1)
    have hE1 := HE.out w7 HBx.out bc a st A1 c1 (HBR.out w7 HBx.out) HGc.out (Kd.C_below HS.out HBx.out) (by rw [HN1.out]; exact hc1)
    rw [h1, HN1.out] at hE1
    have HE1 := Lib.hid hE1
    have HE2 := Lib.hid (fun (W : World) (hW : Below w7.heap.size w7 W) => show Calls Tryz.prog 16 #[.agg (blC b2 a2), .int .i64 m, .slice A1 n1 c1, .slice none 0 0] W fun r w' => r = .returned (.tuple #[.int .i64 k2, .int .i64 f2]) ∧ Below W.heap.size W w' from by
      have hW2 := HBx.out.trans (hW.mono HBx.out.size)
      have h := HE.out W hW2 b2 a2 st A1 c1 (by rw [← hb2, ← ha2]; exact (HBR.out W hW2).put _ (Kd.C_below HMC.out hW) HML.out) (by rw [← hb2]; exact ofG.snoc HGc.out HMR.out (by rw [HKL.out]; exact HK11.out)) (Kd.C_below HS.out hW2) (by rw [HN1.out]; exact hc1)
      rw [h2, HN1.out] at h
      exact h)
    rw [hb2, ha2] at HM14
    clear hE1 h2 hb2 ha2 HML HMC HMR HMF
    have HH1 := Lib.hid h1; clear h1
    have bx0 : w7.cell? ⟨g3, 0, none⟩ = some (.slice a.A0 bc.f0.length a.c0) := (bkC HM3.out 0).trans rfl; have bx1 : w7.cell? ⟨g3, 1, none⟩ = some (.int .i64 bc.f1) := (bkC HM3.out 1).trans rfl; have bx2 : w7.cell? ⟨g3, 2, none⟩ = some (.slice a.A2 bc.f2.length a.c2) := (bkC HM3.out 2).trans rfl; have bx3 : w7.cell? ⟨g3, 3, none⟩ = some (.slice a.A3 bc.f3.length a.c3) := (bkC HM3.out 3).trans rfl; have bx4 : w7.cell? ⟨g3, 4, none⟩ = some (.slice a.A4 bc.f4.length a.c4) := (bkC HM3.out 4).trans rfl; have bx5 : w7.cell? ⟨g3, 5, none⟩ = some (.slice a.A5 bc.f5.length a.c5) := (bkC HM3.out 5).trans rfl; have bx6 : w7.cell? ⟨g3, 6, none⟩ = some (.slice a.A6 bc.f6.length a.c6) := (bkC HM3.out 6).trans rfl; have bx7 : w7.cell? ⟨g3, 7, none⟩ = some (.bool bc.f7) := (bkC HM3.out 7).trans rfl; have bx8 : w7.cell? ⟨g3, 8, none⟩ = some (.slice a.A8 bc.f8.length a.c8) := (bkC HM3.out 8).trans rfl; have bx9 : w7.cell? ⟨g3, 9, none⟩ = some (.slice a.A9 bc.f9.length a.c9) := (bkC HM3.out 9).trans rfl; have bx10 : w7.cell? ⟨g3, 10, none⟩ = some (.bool bc.f10) := (bkC HM3.out 10).trans rfl
    unfold blC at HE1
    go_upto_region 6 with (go_at_call 16; refine HE1.out.mono ?_; rintro rr w8 ⟨rfl, hB8⟩; have HB8 := Lib.hid hB8; clear hB8)
    clear bx0 bx1 bx2 bx3 bx4 bx5 bx6 bx7 bx8 bx9 bx10 HE1
    have HE3 := Lib.hid (HE2.out w8 HB8.out); clear HE2
    have HX8 := Lib.hid ((HB8.out.block g14 (blk_lt HM14.out)).trans HM14.out)
    have HG8 := Lib.hid ((HB8.out.block g3 (blk_lt HM3.out)).trans HM3.out)
    replace HB8 : Hid (Below w.heap.size w w8) := Lib.hid (HBx.out.trans (HB8.out.mono HBx.out.size))
    clear HM14 HM3 HBx
    have bx0 : w8.cell? ⟨g14, 0, none⟩ = some (.slice a2.A0 b2.f0.length a2.c0) := (bkC HX8.out 0).trans rfl; have bx1 : w8.cell? ⟨g14, 1, none⟩ = some (.int .i64 b2.f1) := (bkC HX8.out 1).trans rfl; have bx2 : w8.cell? ⟨g14, 2, none⟩ = some (.slice a2.A2 b2.f2.length a2.c2) := (bkC HX8.out 2).trans rfl; have bx3 : w8.cell? ⟨g14, 3, none⟩ = some (.slice a2.A3 b2.f3.length a2.c3) := (bkC HX8.out 3).trans rfl; have bx4 : w8.cell? ⟨g14, 4, none⟩ = some (.slice a2.A4 b2.f4.length a2.c4) := (bkC HX8.out 4).trans rfl; have bx5 : w8.cell? ⟨g14, 5, none⟩ = some (.slice a2.A5 b2.f5.length a2.c5) := (bkC HX8.out 5).trans rfl; have bx6 : w8.cell? ⟨g14, 6, none⟩ = some (.slice a2.A6 b2.f6.length a2.c6) := (bkC HX8.out 6).trans rfl; have bx7 : w8.cell? ⟨g14, 7, none⟩ = some (.bool b2.f7) := (bkC HX8.out 7).trans rfl; have bx8 : w8.cell? ⟨g14, 8, none⟩ = some (.slice a2.A8 b2.f8.length a2.c8) := (bkC HX8.out 8).trans rfl; have bx9 : w8.cell? ⟨g14, 9, none⟩ = some (.slice a2.A9 b2.f9.length a2.c9) := (bkC HX8.out 9).trans rfl; have bx10 : w8.cell? ⟨g14, 10, none⟩ = some (.bool b2.f10) := (bkC HX8.out 10).trans rfl
    unfold blC at HE3
    go_upto_region 7 with (go_at_call 16; refine HE3.out.mono ?_; rintro rr w9 ⟨rfl, hB9⟩; have HB9 := Lib.hid hB9; clear hB9)
    clear bx0 bx1 bx2 bx3 bx4 bx5 bx6 bx7 bx8 bx9 bx10 HE3 HX8
    have HG9 := Lib.hid ((HB9.out.block g3 (blk_lt HG8.out)).trans HG8.out)
    replace HB9 : Hid (Below w.heap.size w w9) := Lib.hid (HB8.out.trans (HB9.out.mono HB8.out.size))
    clear HG8 HB8
    try simp only [Act.put, List.setIfInBounds_toArray, List.set_cons_succ, List.set_cons_zero]
    go_cut [73] from 57 to 73 (fun s wx => s = .bool false ∧ wx = w9)
    case first =>
      obtain ⟨L, hL⟩ : ∃ L, bc.f4.length = L := ⟨_, rfl⟩
      have x4 : w9.cell? ⟨g3, 4, none⟩ = some (.slice a.A4 L a.c4) := by rw [← hL]; exact (bkC HG9.out 4).trans rfl
      have HLL := Lib.hid hL; clear hL
      by_cases hf1 : f1 = 0
      · subst hf1
        by_cases hf2 : f2 = 0
        · subst hf2
          by_cases h4 : L = 0
          · subst h4
            have hk : k2 ≤ n2 := HP1.out (List.eq_nil_of_length_eq_zero HLL.out) rfl rfl
            have hd : decide (n2 < k2) = false := decide_eq_false (by omega)
            go_wp2_with fail
            go_meet
            exact ⟨rfl, rfl⟩
          · have hz : ((L : Int) == 0) = false := beq_eq_false_iff_ne.mpr (by omega)
            go_wp2_with fail
            go_meet
            exact ⟨rfl, rfl⟩
        · have hz2 : (f2 == 0) = false := beq_eq_false_iff_ne.mpr hf2
          go_wp2_with fail
          go_meet
          exact ⟨rfl, rfl⟩
      · have hz2 : (f1 == 0) = false := beq_eq_false_iff_ne.mpr hf1
        go_wp2_with fail
        go_meet
        exact ⟨rfl, rfl⟩
    case rest =>
      obtain ⟨rfl, hwc⟩ := hcut
      rw [hwc]
      clear hwc HP1
      go_upto_if 75 with fail
      try simp only [Act.put, List.setIfInBounds_toArray, List.set_cons_succ, List.set_cons_zero]
      go_cut [4] from 75 to 78 (fun s wx => (∃ p : Int, s = .int .i64 p ∧ 0 ≤ p ∧ p ≤ 9223372036854775807) ∧ wx = w9)
      case first =>
        obtain ⟨ho1, ho2⟩ := hwh
        by_cases hn : which < 0
        · have hd : decide (which < 0) = true := decide_eq_true hn
          go_wp2_with fail
          go_meet
          exact ⟨⟨_, rfl, by omega, by omega⟩, rfl⟩
        · have hd : decide (which < 0) = false := decide_eq_false hn
          go_wp2_with fail
          go_meet
          exact ⟨⟨_, rfl, by omega, by omega⟩, rfl⟩
      case rest =>
        obtain ⟨⟨p, rfl, hp0, hp1⟩, hwc⟩ := hcut
        rw [hwc]
        clear hwc hwh
        by_cases hf1 : f1 = 0
        · subst hf1
          by_cases hn0 : n1 = 0
          · subst hn0
            go_wp2_with fail
            go_ret
            exact ⟨rfl, HB9.out⟩
          · have hn1 : 1 ≤ n1 := by omega
            have hb1 : ((n1 : Int) == 0) = false := beq_eq_false_iff_ne.mpr (by omega)
            have HFS : Hid (Kd.F k51 w (fun q => q < w.heap.size) A1 n1 st) := Lib.hid (by rw [← HN1.out]; exact Kd.C_F k51_heap HS.out)
            clear hn0
            go_upto_region 14 with ((with_reducible refine gate_builtin (b := .append) (xs := #[.const (.slice none 0 0), .tmp 87]) rfl ?_); at_builtin; refine Kd.N_append_rows k51 (w0 := w) w.heap.size rfl (.const (.slice none 0 0)) (.tmp 87) 31 51 (.agg #[(.int .i64 0), (.slice none 0 0)]) 32 rfl Tryz.underlying31 info51 rfl (by decide) (by omega) (.slice none 0 0) ([] : List Sta) st A1 n1 c1 (fun _ => True) (fun q => q < w.heap.size) rfl rfl (Kd.N_nil _ _ _ _ _) (Kd.F_below HFS.out HB9.out) (fun q hq => ⟨trivial, by simp [Value.ownBlock]⟩) (fun _ _ => trivial) HB9.out HB9.out.size (by simp; omega) ?_; intro v1 w10 hN hB hg hat; have HN10 := Lib.hid hN; have HB10 := Lib.hid hB; have HB910 := Lib.hid (below_gn2 (Below.refl w9.heap.size w9) hg own_none (Nat.le_refl _)); clear hN hB hg hat)
            have h10 := HN10.out
            clear HN10 HFS hb1
            rw [List.nil_append] at h10
            obtain ⟨R, cR, rfl, hRw, hRlt, cls, hRc⟩ := Kd.N_form h10 (by rw [HN1.out]; omega)
            rw [HN1.out] at h10 ⊢
            obtain ⟨i, hi⟩ : ∃ i : Nat, p % (n1 : Int) = i := ⟨(p % (n1 : Int)).toNat, by rw [Int.toNat_of_nonneg (Int.emod_nonneg _ (by omega))]⟩
            have hilt : i < n1 := by have := Int.emod_lt_of_pos p (by omega : (0 : Int) < n1); omega
            have htm : Int.tmod p n1 = i := by rw [Int.tmod_eq_emod_of_nonneg hp0]; exact hi
            have hwq : wrap64 (i : Int) = i := wrap64_of (by omega) (by omega)
            have hnz : (n1 : Int) ≠ 0 := by omega
            have hG10 := (HB910.out.block g3 (blk_lt HG9.out)).trans HG9.out
            have hg3R : g3 ≠ R := by intro e; subst e; rw [hG10] at hRc; simp at hRc
            have HG10 := Lib.hid hG10
            have hCC := Kd.C_below HS.out HB10.out
            have hi0 : (0 : Int) ≤ (i : Int) := Int.natCast_nonneg i
            have hi1 : (i : Int) < (n1 : Int) := Int.ofNat_lt.mpr hilt
            obtain ⟨ad, cc, hA, hcl, hK, hcc⟩ := Kd.C_get hCC z51 (i : Int) hi0 (by rw [HN1.out]; exact hi1)
            rw [Int.toNat_natCast] at hK hcc
            obtain ⟨A3, c3, rfl, -, -⟩ := k51_open hK
            have s0 : w10.cell? (ad.add (i * 2 + 0)) = some (.int .i64 (st.getD i z51).f0) := hcc 0 _ rfl
            rw [Nat.add_zero] at s0
            obtain ⟨x0, hx0⟩ : ∃ x0, (st.getD i z51).f0 = x0 := ⟨_, rfl⟩
            rw [hx0] at s0
            obtain ⟨z, hz⟩ : ∃ z, (if x0 < rows then rows else x0) = z := ⟨_, rfl⟩
            have hzx : x0 ≤ z := by rw [← hz]; exact le_max2 x0 rows
            obtain ⟨x, y, hx, hy, hxy⟩ := more_plain2 bc m st i z (by rw [hx0]; exact hzx) (HO1.out rfl)
            obtain ⟨c, hcl2, hF2, hcc2, hfr2⟩ := Kd.N_elem h10 z51 (i : Int) hi0 hi1
            rw [Int.toNat_natCast] at hF2 hcc2
            obtain ⟨A4, c4, rfl, -, -⟩ := k51_open (Kd.FK_now hF2)
            have r0 : w10.cell? ⟨R, i * 2 + 0, none⟩ = some (.int .i64 (st.getD i z51).f0) := hcc2 0 _ rfl
            rw [Nat.add_zero] at r0
            have rf : w10.frozen? ⟨R, i * 2, none⟩ = false := bkF hRc (i * 2)
            have HN11 := Lib.hid h10
            have HZ := Lib.hid hx; have HY := Lib.hid hy; have hd : decide (x ≤ y) = true := decide_eq_true hxy
            clear hCC hK hcc hcl hcl2 hF2 hcc2 hfr2 h10 hx hy hxy hG10 HG9 HO1 hRc
            subst hA
            go_upto_region 16 with fail
            have HM11 : Hid (Kd.C k51 (w10.setCell ⟨R, i * 2, none⟩ (.int .i64 z)) (some ⟨R, 0, none⟩) n1 (moreS st i z)) := Lib.hid (more_C HN11.out i hilt z)
            have hcR : n1 ≤ cR := (Kd.N_reads' HN11.out).2.1
            have HB11 : Hid (Below w.heap.size w (w10.setCell ⟨R, i * 2, none⟩ (.int .i64 z))) := Lib.hid (HB10.out.setCell (p := ⟨R, i * 2, none⟩) hRw _)
            have HG11 : Hid ((w10.setCell ⟨R, i * 2, none⟩ (.int .i64 z)).heap[g3]? = some (.cells (blC bc a) 30 (0, 0))) := Lib.hid (blk_far HG10.out hg3R _)
            clear HN11 HB10 HG10 HB9 HB910 r0 rf s0 hg3R hRw hRlt
            generalize w10.setCell ⟨R, i * 2, none⟩ (.int .i64 z) = w11 at HM11 HB11 HG11 ⊢
            have bx0 : w11.cell? ⟨g3, 0, none⟩ = some (.slice a.A0 bc.f0.length a.c0) := (bkC HG11.out 0).trans rfl; have bx1 : w11.cell? ⟨g3, 1, none⟩ = some (.int .i64 bc.f1) := (bkC HG11.out 1).trans rfl; have bx2 : w11.cell? ⟨g3, 2, none⟩ = some (.slice a.A2 bc.f2.length a.c2) := (bkC HG11.out 2).trans rfl; have bx3 : w11.cell? ⟨g3, 3, none⟩ = some (.slice a.A3 bc.f3.length a.c3) := (bkC HG11.out 3).trans rfl; have bx4 : w11.cell? ⟨g3, 4, none⟩ = some (.slice a.A4 bc.f4.length a.c4) := (bkC HG11.out 4).trans rfl; have bx5 : w11.cell? ⟨g3, 5, none⟩ = some (.slice a.A5 bc.f5.length a.c5) := (bkC HG11.out 5).trans rfl; have bx6 : w11.cell? ⟨g3, 6, none⟩ = some (.slice a.A6 bc.f6.length a.c6) := (bkC HG11.out 6).trans rfl; have bx7 : w11.cell? ⟨g3, 7, none⟩ = some (.bool bc.f7) := (bkC HG11.out 7).trans rfl; have bx8 : w11.cell? ⟨g3, 8, none⟩ = some (.slice a.A8 bc.f8.length a.c8) := (bkC HG11.out 8).trans rfl; have bx9 : w11.cell? ⟨g3, 9, none⟩ = some (.slice a.A9 bc.f9.length a.c9) := (bkC HG11.out 9).trans rfl; have bx10 : w11.cell? ⟨g3, 10, none⟩ = some (.bool bc.f10) := (bkC HG11.out 10).trans rfl
            go_upto_region 17 with (first | ((with_reducible refine gate_dst (N := 21) rfl ?_); refine box_event rfl (N := 21) rfl (cs := zerosB) (t := 30) (by first | rfl | (go_simp; done) | (go_simp; rfl)) ?_; intro g21 hgg w12 hbg21 hBg21;  have hg21w : w11.heap.size ≤ g21 := (by rw [hgg]; exact Nat.le_refl _); clear hgg) | ((with_reducible refine gate_store (p := 21) (v := .tmp 104) rfl ?_); refine wpList_store_row rfl 30 (.tmp 21) (.tmp 104) rfl g21 (blC bc a) rfl rfl 30 zerosB hbg21 (info_bl _ _) rfl (one_bl _ _) ?_))
            have hx13 := setRow_at w12 g21 _ zerosB (blC bc a) hbg21
            have hB13 : Below w11.heap.size w11 (w12.setRow g21 (blC bc a)) := below_setRow' hBg21 hg21w _
            clear hbg21 hBg21 bx0 bx1 bx2 bx3 bx4 bx5 bx6 bx7 bx8 bx9 bx10
            generalize w12.setRow g21 (blC bc a) = w13 at hx13 hB13 ⊢
            have z4 : w13.cell? ⟨g21, 4, none⟩ = some (.slice a.A4 bc.f4.length a.c4) := (bkC hx13 4).trans rfl
            have f4 := bkF hx13 4
            have HX13 := Lib.hid hx13; have HB13 := Lib.hid hB13; clear hx13 hB13
            go_upto_region 18 with fail
            have HX14 : Hid ((w13.setCell ⟨g21, 4, none⟩ (.slice none 0 0)).heap[g21]? = some (.cells (blC (withC bc []) (noC a)) 30 (0, 0))) := Lib.hid (blk_set HX13.out 4 (.slice none 0 0))
            have HB14 : Hid (Below w11.heap.size w11 (w13.setCell ⟨g21, 4, none⟩ (.slice none 0 0))) := Lib.hid (HB13.out.setCell (p := ⟨g21, 4, none⟩) hg21w _)
            generalize w13.setCell ⟨g21, 4, none⟩ (.slice none 0 0) = w14 at HX14 HB14 ⊢
            clear z4 f4 HX13 HB13 HG11
            have HBw14 : Hid (Below w.heap.size w w14) := Lib.hid (HB11.out.trans (HB14.out.mono HB11.out.size))
            have HM14 : Hid (Kd.C k51 w14 (some ⟨R, 0, none⟩) n1 (moreS st i z)) := Lib.hid (Kd.C_below HM11.out HB14.out)
            clear HM11 HB11 HB14
            obtain ⟨b3, hb3⟩ : ∃ b3, withC bc [] = b3 := ⟨_, rfl⟩
            obtain ⟨a3, ha3⟩ : ∃ a3, noC a = a3 := ⟨_, rfl⟩
            have HG3c : Hid (ofG b3.f0 m b3.f4) := Lib.hid (by rw [← hb3]; exact HGc.out.none)
            have HBR3 : Hid (∀ (W : World), Below w.heap.size w W → BR b3 a3 W) := Lib.hid (fun W hW => by rw [← hb3, ← ha3]; exact (HBR.out W hW).nil)
            rw [hb3] at HZ HY HX14
            rw [ha3] at HX14
            clear hb3 ha3 HGc HBR
            have hE4 := HE.out w14 HBw14.out b3 a3 st (some ad) c1 (HBR3.out w14 HBw14.out) HG3c.out (Kd.C_below HS.out HBw14.out) (by rw [HN1.out]; exact hc1)
            rw [HZ.out, HN1.out] at hE4
            have HE4 := Lib.hid hE4; clear hE4
            have HE5 := Lib.hid (fun (W : World) (hW : Below w14.heap.size w14 W) => show Calls Tryz.prog 16 #[.agg (blC b3 a3), .int .i64 m, .slice (some ⟨R, 0, none⟩) n1 cR, .slice none 0 0] W fun r w' => r = .returned (.tuple #[.int .i64 y, .int .i64 0]) ∧ Below W.heap.size W w' from by
              have hW2 := HBw14.out.trans (hW.mono HBw14.out.size)
              have hl : (moreS st i z).length = n1 := by unfold moreS; rw [List.length_set]; exact HN1.out
              have h := HE.out W hW2 b3 a3 (moreS st i z) (some ⟨R, 0, none⟩) cR (HBR3.out W hW2) HG3c.out (by rw [hl]; exact Kd.C_below HM14.out hW) (by rw [hl]; exact hcR)
              rw [HY.out, hl] at h
              exact h)
            clear HE HY HZ HS HG3c HBR3 HM14 HN1
            have bx0 : w14.cell? ⟨g21, 0, none⟩ = some (.slice a3.A0 b3.f0.length a3.c0) := (bkC HX14.out 0).trans rfl; have bx1 : w14.cell? ⟨g21, 1, none⟩ = some (.int .i64 b3.f1) := (bkC HX14.out 1).trans rfl; have bx2 : w14.cell? ⟨g21, 2, none⟩ = some (.slice a3.A2 b3.f2.length a3.c2) := (bkC HX14.out 2).trans rfl; have bx3 : w14.cell? ⟨g21, 3, none⟩ = some (.slice a3.A3 b3.f3.length a3.c3) := (bkC HX14.out 3).trans rfl; have bx4 : w14.cell? ⟨g21, 4, none⟩ = some (.slice a3.A4 b3.f4.length a3.c4) := (bkC HX14.out 4).trans rfl; have bx5 : w14.cell? ⟨g21, 5, none⟩ = some (.slice a3.A5 b3.f5.length a3.c5) := (bkC HX14.out 5).trans rfl; have bx6 : w14.cell? ⟨g21, 6, none⟩ = some (.slice a3.A6 b3.f6.length a3.c6) := (bkC HX14.out 6).trans rfl; have bx7 : w14.cell? ⟨g21, 7, none⟩ = some (.bool b3.f7) := (bkC HX14.out 7).trans rfl; have bx8 : w14.cell? ⟨g21, 8, none⟩ = some (.slice a3.A8 b3.f8.length a3.c8) := (bkC HX14.out 8).trans rfl; have bx9 : w14.cell? ⟨g21, 9, none⟩ = some (.slice a3.A9 b3.f9.length a3.c9) := (bkC HX14.out 9).trans rfl; have bx10 : w14.cell? ⟨g21, 10, none⟩ = some (.bool b3.f10) := (bkC HX14.out 10).trans rfl
            unfold blC at HE4
            go_upto_region 19 with (go_at_call 16; refine HE4.out.mono ?_; rintro rr w15 ⟨rfl, hB15⟩; have HB15 := Lib.hid hB15; clear hB15)
            clear bx0 bx1 bx2 bx3 bx4 bx5 bx6 bx7 bx8 bx9 bx10 HE4
            have HE6 := Lib.hid (HE5.out w15 HB15.out); clear HE5
            have HX15 := Lib.hid ((HB15.out.block g21 (blk_lt HX14.out)).trans HX14.out)
            replace HB15 : Hid (Below w.heap.size w w15) := Lib.hid (HBw14.out.trans (HB15.out.mono HBw14.out.size))
            clear HX14 HBw14
            have bx0 : w15.cell? ⟨g21, 0, none⟩ = some (.slice a3.A0 b3.f0.length a3.c0) := (bkC HX15.out 0).trans rfl; have bx1 : w15.cell? ⟨g21, 1, none⟩ = some (.int .i64 b3.f1) := (bkC HX15.out 1).trans rfl; have bx2 : w15.cell? ⟨g21, 2, none⟩ = some (.slice a3.A2 b3.f2.length a3.c2) := (bkC HX15.out 2).trans rfl; have bx3 : w15.cell? ⟨g21, 3, none⟩ = some (.slice a3.A3 b3.f3.length a3.c3) := (bkC HX15.out 3).trans rfl; have bx4 : w15.cell? ⟨g21, 4, none⟩ = some (.slice a3.A4 b3.f4.length a3.c4) := (bkC HX15.out 4).trans rfl; have bx5 : w15.cell? ⟨g21, 5, none⟩ = some (.slice a3.A5 b3.f5.length a3.c5) := (bkC HX15.out 5).trans rfl; have bx6 : w15.cell? ⟨g21, 6, none⟩ = some (.slice a3.A6 b3.f6.length a3.c6) := (bkC HX15.out 6).trans rfl; have bx7 : w15.cell? ⟨g21, 7, none⟩ = some (.bool b3.f7) := (bkC HX15.out 7).trans rfl; have bx8 : w15.cell? ⟨g21, 8, none⟩ = some (.slice a3.A8 b3.f8.length a3.c8) := (bkC HX15.out 8).trans rfl; have bx9 : w15.cell? ⟨g21, 9, none⟩ = some (.slice a3.A9 b3.f9.length a3.c9) := (bkC HX15.out 9).trans rfl; have bx10 : w15.cell? ⟨g21, 10, none⟩ = some (.bool b3.f10) := (bkC HX15.out 10).trans rfl
            unfold blC at HE6
            go_upto_region 20 with (go_at_call 16; refine HE6.out.mono ?_; rintro rr w16 ⟨rfl, hB16⟩; have HB16 := Lib.hid (HB15.out.trans (hB16.mono HB15.out.size)); clear hB16)
            clear bx0 bx1 bx2 bx3 bx4 bx5 bx6 bx7 bx8 bx9 bx10 HE6 HX15
            go_wp2_with fail
            go_ret
            exact ⟨rfl, HB16.out⟩
        · have hb1 : (f1 != 0) = true := bne_iff_ne.mpr hf1
          go_wp2_with fail
          go_ret
          exact ⟨rfl, HB9.out⟩
end Go.Proofs.YtoffpegppdmkdaaGreatDoor.E
