/- Contracts and plain lemmas of the functions that the law reaches, part 27. -/
import Derived.Laws.MathBits
import Derived.Laws.Bits64
import Derived.Deep.RegionHeld3
import Derived.Test.YtoffpegppdmkdaaGreatDoorCK4
import Derived.Test.YtoffpegppdmkdaaGreatDoorCK21
import Derived.Test.YtoffpegppdmkdaaGreatDoorCK23
import Derived.Test.YtoffpegppdmkdaaGreatDoorCK25
import Derived.Test.YtoffpegppdmkdaaGreatDoorCK26
namespace Go.Proofs.YtoffpegppdmkdaaGreatDoor.E
set_option linter.unusedSimpArgs false
set_option linter.unusedVariables false
open Go.RowKit Go.Proofs.YtoffpegppdmkdaaGreatDoorW.PrintWords Go.Proofs.YtoffpegppdmkdaaGreatDoorW.PrintLast Go.Proofs.YtoffpegppdmkdaaGreatDoorW.PrintMore
abbrev Kn := S45
def mulI (a b : Int) : Int := clipI (clipI a * clipI b)
theorem mul_f (a b : Int) : hist_Mul.f a b = some (mulI a b) := by
  have ha := clip_0 a; have hb := clip_0 b
  unfold mulI
  show (Option.bind (some (clipI a)) _) = _
  rw [Option.bind_some]
  show (Option.bind (some (clipI b)) _) = _
  rw [Option.bind_some]
  obtain ⟨x, hx⟩ : ∃ x, clipI a = x := ⟨_, rfl⟩
  obtain ⟨y, hy⟩ : ∃ y, clipI b = y := ⟨_, rfl⟩
  rw [hx] at ha ⊢; rw [hy] at hb ⊢; clear hx hy
  have hx1 : IntKind.u64.wrap x = x := by simp only [IntKind.wrap_u64]; omega
  have hy1 : IntKind.u64.wrap y = y := by simp only [IntKind.wrap_u64]; omega
  rw [hx1, hy1]
  have h := mul64_arith x y (by omega) (by omega) (by omega) (by omega)
  have hp0 : 0 ≤ x * y := Int.mul_nonneg (by omega) (by omega)
  have hf : bits_Mul64.f x y = some ((x * y) / 18446744073709551616, (x * y) % 18446744073709551616) := by
    unfold bits_Mul64.f
    rw [and_low32 _ (by omega) (by omega), and_low32 _ (by omega) (by omega)]
    simp only [IntKind.wrap_u64]
    rw [and_low32 _ (Int.emod_nonneg _ (by decide)) (Int.emod_lt_of_pos _ (by decide))]
    rw [h]
  rw [hf, Option.bind_some]
  generalize x * y = p at hp0 ⊢
  by_cases hh : p / 18446744073709551616 = 0
  · rw [if_pos hh]
    have e : p % 18446744073709551616 = p := by omega
    show (Option.bind (some (clipI (p % 18446744073709551616))) _) = _
    have hc := clip_0 p
    rw [e, Option.bind_some, wrap64_of (by omega) (by omega)]
  · rw [if_neg hh]
    have e : clipI p = 1000000000000 := by rw [clip_eq, if_neg (by omega), if_pos (by omega)]
    rw [e]
theorem mul_0 (a b : Int) : 0 ≤ mulI a b ∧ mulI a b ≤ 1000000000000 := clip_0 _
def timesI (a n d : Int) : Int := mulI a n / mx 1 (clipI d)
theorem times_0 (a n d : Int) : 0 ≤ timesI a n d ∧ timesI a n d ≤ 1000000000000 := by
  have h := mul_0 a n
  have hm := mx_le 1 (clipI d)
  unfold timesI
  exact ⟨Int.ediv_nonneg h.1 (by omega), Int.le_trans (Int.ediv_le_self _ h.1) h.2⟩
theorem times_f (a n d : Int) : hist_Times.f a n d = some (timesI a n d) := by
  have h0 := mul_0 a n
  have hm := mx_le 1 (clipI d)
  have ht := times_0 a n d
  unfold hist_Times.f
  rw [mul_f, Option.bind_some]
  show (Option.bind (some (clipI d)) _) = _
  rw [Option.bind_some, if_neg (by omega), Int.tdiv_eq_ediv_of_nonneg h0.1]
  show some (wrap64 (timesI a n d)) = _
  rw [wrap64_of (by omega) (by omega)]
def baseL (b : Bl) (st : List Sta) : Nat → List Int
  | 0 => []
  | n + 1 => baseL b st n ++ [clipI (statF b.f0 st (n : Int)).f0]
theorem baseL_len (b : Bl) (st : List Sta) : ∀ n, (baseL b st n).length = n
  | 0 => rfl
  | n + 1 => by rw [baseL, List.length_append, baseL_len b st n]; rfl
def baseF (b : Bl) (st : List Sta) : List Int := if b.f1 < 1 ∨ 4 < b.f1 ∨ (b.f0.length : Int) < b.f1 then [] else baseL b st b.f1.toNat
theorem base_l0 (b : Bl) (st : List Sta) (n : Nat) (hn : (n : Int) = b.f1) (h4 : n ≤ 4) : ∀ (d j : Nat), j + d = n → Ev (fun k => card_Base.l0 k st (baseL b st j) b.f1 (j : Int) b.f0 b.f1 b.f2 b.f3 b.f4 b.f5 b.f6 b.f7 b.f8 b.f9 b.f10) (baseL b st n)
  | 0, j, hj => by
    refine Ev.const 1 (fun k => ?_)
    rw [card_Base.l0, if_neg (by omega), show j = n by omega]
  | d + 1, j, hj => by
    have ih := base_l0 b st n hn h4 d (j + 1) (by omega)
    refine Ev.steps 1 (fun k => ?_) ih
    rw [card_Base.l0, if_pos (by omega), statF_f, Option.bind_some]
    show (Option.bind (some (clipI (statF b.f0 st (j : Int)).f0)) _) = _
    rw [Option.bind_some, if_pos (by rw [baseL_len]; omega), wrap64_of (x := (j : Int) + 1) (by omega) (by omega)]
    rfl
theorem base_ev (b : Bl) (st : List Sta) : Ev (fun k => card_Base.f k b.f0 b.f1 b.f2 b.f3 b.f4 b.f5 b.f6 b.f7 b.f8 b.f9 b.f10 st) (baseF b st) := by
  unfold card_Base.f baseF
  by_cases h1 : b.f1 < 1
  · simp only [if_pos h1]
    rw [if_pos (.inl h1)]
    exact Ev.const 1 (fun k => by rw [card_Base.j0, if_pos rfl])
  simp only [if_neg h1]
  by_cases h2 : b.f1 > 4
  · simp only [if_pos h2]
    rw [if_pos (.inr (.inl h2))]
    exact Ev.const 1 (fun k => by rw [card_Base.j0, if_pos rfl])
  simp only [if_neg h2]
  by_cases h3 : (b.f0.length : Int) < b.f1
  · rw [if_pos (.inr (.inr h3)), decide_eq_true h3]
    exact Ev.const 1 (fun k => by rw [card_Base.j0, if_pos rfl])
  · rw [if_neg (by omega), decide_eq_false h3]
    refine Ev.steps 1 (fun k => ?_) (base_l0 b st b.f1.toNat (by omega) (by omega) b.f1.toNat 0 (by omega))
    rw [card_Base.j0, if_neg (by decide)]; rfl
def prodF (m : Int) : List Int → Nat → Int → Int
  | [], _, n => n
  | x :: l, i, n => prodF m l (i + 1) (if bitB m i = true then mulI n x else n)
def partsF (b : Bl) (st : List Sta) : List Ex → Int → Int
  | [], n => n
  | x :: l, n => partsF b st l (timesI n (partF b st x).1 (partF b st x).2)
def knownF (s : ByteArray) : List Kn → Option Int
  | [] => none
  | x :: l => match knownF s l with
    | some n => some n
    | none => if x.f0.toList = s.toList then some (clipI x.f1) else none
def guessF (b : Bl) (m : Int) (st : List Sta) : Int := partsF b st (sel m (condsF b.f4)) (prodF m (baseF b st) 0 1)
def estF (b : Bl) (m : Int) (st : List Sta) (kn : List Kn) : Int × Int :=
  if (ofRes b.f0 b.f1 m b.f4).2 = 0 then ((knownF (ofRes b.f0 b.f1 m b.f4).1 kn).getD (guessF b m st), 0) else (0, (ofRes b.f0 b.f1 m b.f4).2)
theorem baseF_len (b : Bl) (st : List Sta) : (baseF b st).length ≤ 4 := by
  unfold baseF
  split
  · simp
  · rw [baseL_len]; omega
theorem knownF_app (s : ByteArray) (l1 : List Kn) {l2 : List Kn} {n : Int} (h : knownF s l2 = some n) : knownF s (l1 ++ l2) = some n := by
  induction l1 with
  | nil => exact h
  | cons x l ih => rw [List.cons_append, knownF, ih]
theorem of_right {b : Bl} {m : Int} {s : ByteArray} (h : ofRes b.f0 b.f1 m b.f4 = (s, 0)) : b.f4.all rightB = true := by
  unfold ofRes at h
  by_cases h2 : offP b.f1 b.f0.length m ∨ b.f4.all rightB = false
  · rw [if_pos h2] at h; cases (Prod.mk.inj h).2
  · cases hh : b.f4.all rightB with
    | true => rfl
    | false => exact absurd (.inr hh) h2
theorem withI_none (m : Int) : ∀ (l : List Ex) (j : Nat), withI m l j = [] → sel m l = []
  | [], _, _ => rfl
  | x :: l, j, h => by
    rw [withI] at h
    by_cases hs : inSet m x = true
    · rw [if_pos hs] at h; cases h
    · rw [if_neg hs] at h
      rw [sel, List.filter_cons, if_neg hs]
      exact withI_none m l (j + 1) h
theorem withI_next (m : Int) (L : List Ex) : ∀ (l : List Ex) (j i : Nat) (W : List Int), L.drop j = l → W.drop i = withI m l j → i < W.length → ∃ (q : Nat) (x : Ex), j ≤ q ∧ rd W (i : Int) = (q : Int) ∧ L[q]? = some x ∧ W.drop (i + 1) = withI m (L.drop (q + 1)) (q + 1) ∧ sel m l = x :: sel m (L.drop (q + 1))
  | [], j, i, W, hj, hi, hl => by
    rw [withI] at hi
    have := List.drop_eq_nil_iff.1 hi
    omega
  | x :: l, j, i, W, hj, hi, hl => by
    have hr : L.drop (j + 1) = l := by rw [← List.drop_drop, hj]; rfl
    rw [withI] at hi
    by_cases hs : inSet m x = true
    · rw [if_pos hs] at hi
      refine ⟨j, x, Nat.le_refl _, ?_, ?_, ?_, ?_⟩
      · have h := congrArg (·[0]?) hi
        simp only [List.getElem?_drop, List.getElem?_cons_zero, Nat.add_zero] at h
        unfold rd
        rw [Int.toNat_natCast, List.getD_eq_getElem?_getD, h]; rfl
      · have h := congrArg (·[0]?) hj
        simpa only [List.getElem?_drop, List.getElem?_cons_zero, Nat.add_zero] using h
      · rw [← List.drop_drop, hi, hr]; rfl
      · rw [sel, List.filter_cons, if_pos hs, hr]; rfl
    · rw [if_neg hs] at hi
      obtain ⟨q, y, h1, h2, h3, h4, h5⟩ := withI_next m L l (j + 1) i W hr hi hl
      refine ⟨q, y, by omega, h2, h3, h4, ?_⟩
      rw [sel, List.filter_cons, if_neg hs]
      exact h5
end Go.Proofs.YtoffpegppdmkdaaGreatDoor.E
namespace Go.Proofs.YtoffpegppdmkdaaGreatDoor.E
open Go.RowKit Go.Proofs.YtoffpegppdmkdaaGreatDoorW.PrintWords Go.Proofs.YtoffpegppdmkdaaGreatDoorW.PrintLast Go.Proofs.YtoffpegppdmkdaaGreatDoorW.PrintMore
set_option linter.unusedVariables false
set_option linter.unusedSimpArgs false
theorem of_ok2 (b : Bl) (a : BA) (m : Int) (w : World) (hT : TabW w) (hG : ofG b.f0 m b.f4) (hb : BR b a w) : Calls Tryz.prog 17 #[.agg #[.slice a.A0 b.f0.length a.c0, .int .i64 b.f1, .slice a.A2 b.f2.length a.c2, .slice a.A3 b.f3.length a.c3, .slice a.A4 b.f4.length a.c4, .slice a.A5 b.f5.length a.c5, .slice a.A6 b.f6.length a.c6, .bool b.f7, .slice a.A8 b.f8.length a.c8, .slice a.A9 b.f9.length a.c9, .bool b.f10], .int .i64 m] w fun e w' => e = .returned (.tuple #[.string (ofRes b.f0 b.f1 m b.f4).1, .int .i64 (ofRes b.f0 b.f1 m b.f4).2]) ∧ Below w.heap.size w w' :=
  sign_Of.calls a.A0 a.c0 b.f0 b.f1 a.A2 a.c2 b.f2 a.A3 a.c3 b.f3 a.A4 a.c4 b.f4 a.A5 a.c5 b.f5 a.A6 a.c6 b.f6 b.f7 a.A8 a.c8 b.f8 a.A9 a.c9 b.f9 b.f10 m _ _ w hb.r0 hb.l0 hb.r2 hb.l2 hb.r3 hb.l3 hb.r4 hb.l4 hb.r5 hb.l5 hb.r6 hb.l6 hb.r8 hb.l8 hb.r9 hb.l9 (by unfold sign_Of.f; rw [if_pos hG]) hT
theorem base_ok (b : Bl) (a : BA) (st : List Sta) (A1 : Option Addr) (c1 : Nat) (w : World) (hb : BR b a w) (hS : Kd.C k51 w A1 st.length st) (hc1 : st.length ≤ c1) : Calls Tryz.prog 14 #[.agg #[.slice a.A0 b.f0.length a.c0, .int .i64 b.f1, .slice a.A2 b.f2.length a.c2, .slice a.A3 b.f3.length a.c3, .slice a.A4 b.f4.length a.c4, .slice a.A5 b.f5.length a.c5, .slice a.A6 b.f6.length a.c6, .bool b.f7, .slice a.A8 b.f8.length a.c8, .slice a.A9 b.f9.length a.c9, .bool b.f10], .slice A1 st.length c1] w fun e w' => ∃ A c, e = .returned (.slice A (baseF b st).length c) ∧ (Kd.int .i64).C w' A (baseF b st).length (baseF b st) ∧ Below w.heap.size w w' := by
  obtain ⟨k, hk⟩ := (base_ev b st).rounds
  refine (card_Base.calls k a.A0 a.c0 b.f0 b.f1 a.A2 a.c2 b.f2 a.A3 a.c3 b.f3 a.A4 a.c4 b.f4 a.A5 a.c5 b.f5 a.A6 a.c6 b.f6 b.f7 a.A8 a.c8 b.f8 a.A9 a.c9 b.f9 b.f10 A1 c1 st _ w hb.r0 hb.l0 hb.r2 hb.l2 hb.r3 hb.l3 hb.r4 hb.l4 hb.r5 hb.l5 hb.r6 hb.l6 hb.r8 hb.l8 hb.r9 hb.l9 hS hc1 hk).mono ?_
  rintro e w' ⟨v, rfl, hR, hB⟩
  obtain ⟨A, c, rfl, hc, hC⟩ := Kd.R_reads hR
  exact ⟨A, c, rfl, hC, hB⟩
theorem conds_ok2 (l : List Ex) (A : Option Addr) (c : Nat) (w : World) (hT : TabW w) (hG : condsG l) (hr : l.all rightB = true) (hC : Kd.C KX w A l.length l) (hc : l.length ≤ c) : Calls Tryz.prog 35 #[.slice A l.length c] w fun e w' => ∃ A2 c2, e = .returned (.tuple #[.slice A2 (condsF l).length c2, .int .i64 0]) ∧ (condsF l).length ≤ c2 ∧ Kd.C KX w' A2 (condsF l).length (condsF l) ∧ Below w.heap.size w w' := by
  refine (sign_Conds.calls A c l (condsF l) 0 w hC hc (by unfold sign_Conds.f condsR; rw [if_pos hG, if_pos hr]) hT).mono ?_
  rintro e w' ⟨v, rfl, hN, hB⟩
  obtain ⟨A2, c2, rfl, hc2, hC2⟩ := Kd.N_reads hN
  exact ⟨A2, c2, rfl, hc2, hC2, hB⟩
theorem within_ok2 (m : Int) (l : List Ex) (A : Option Addr) (c : Nat) (w : World) (hC : Kd.C KX w A l.length l) (hc : l.length ≤ c) (hl : l.length < 17592186044416) : Calls Tryz.prog 36 #[.slice A l.length c, .int .i64 m] w fun e w' => ∃ A2 c2, e = .returned (.slice A2 (withI m l 0).length c2) ∧ (Kd.int .i64).C w' A2 (withI m l 0).length (withI m l 0) ∧ Below w.heap.size w w' := by
  obtain ⟨k, hk⟩ := (within_ev m l hl).rounds
  refine (sign_Within.calls k A c l m _ w hC hc hk).mono ?_
  rintro e w' ⟨v, rfl, hR, hB⟩
  obtain ⟨A2, c2, rfl, hc2, hC2⟩ := Kd.R_reads hR
  exact ⟨A2, c2, rfl, hC2, hB⟩
set_option maxHeartbeats 8000000 in
set_option maxRecDepth 100000 in
theorem est_ok (b : Bl) (a : BA) (m : Int) (st : List Sta) (A1 : Option Addr) (c1 : Nat) (kn : List Kn) (A3 : Option Addr) (c3 : Nat) (w : World) (hT : TabW w) (hG : ofG b.f0 m b.f4) (hb : BR b a w) (hS : Kd.C k51 w A1 st.length st) (hc1 : st.length ≤ c1) (hK : Kd.C k45 w A3 kn.length kn) (hkn : kn.length ≤ 4611686018427387904) :
    Calls Tryz.prog 16 #[.agg (blC b a), .int .i64 m, .slice A1 st.length c1, .slice A3 kn.length c3] w fun r w' => r = .returned (.tuple #[.int .i64 (estF b m st kn).1, .int .i64 (estF b m st kn).2]) ∧ Below w.heap.size w w' := by
  have HOF := Lib.hid (fun (W : World) (hW : Below w.heap.size w W) => of_ok2 b a m W (tab_at hT hW) hG (hb.later hW))
  have HBA := Lib.hid (fun (W : World) (hW : Below w.heap.size w W) => base_ok b a st A1 c1 W (hb.later hW) (Kd.C_below hS hW) hc1)
  have HPA := Lib.hid (fun (W : World) (hW : Below w.heap.size w W) (x : Ex) (A : Option Addr) (c : Nat) (h1 : rngF x = true) (h2 : x.f6.length ≤ c) (h3 : Kd.C KX W A x.f6.length x.f6) => part_ok x A c b a st A1 c1 W (tab_at hT hW) h1 h3 h2 (hb.later hW) (Kd.C_below hS hW) hc1)
  have HCD := Lib.hid (fun (W : World) (hW : Below w.heap.size w W) (hr : b.f4.all rightB = true) => conds_ok2 b.f4 a.A4 a.c4 W (tab_at hT hW) hG.1 hr (Kd.C_below hb.r4 hW) hb.l4)
  have HGG := Lib.hid hG
  obtain ⟨s, er, hs⟩ : ∃ s er, ofRes b.f0 b.f1 m b.f4 = (s, er) := ⟨_, _, rfl⟩
  rw [hs] at HOF
  dsimp only at HOF
  have HSO := Lib.hid hs
  obtain ⟨pn, hpn⟩ : ∃ pn, estF b m st kn = pn := ⟨_, rfl⟩
  rw [hpn]
  have HPN : Hid ((if er = 0 then ((knownF s kn).getD (guessF b m st), 0) else ((0 : Int), er)) = pn) := Lib.hid (by unfold estF at hpn; rw [hs] at hpn; exact hpn)
  obtain ⟨n1, hn1⟩ : ∃ n1, st.length = n1 := ⟨_, rfl⟩
  rw [hn1] at HBA HPA ⊢
  obtain ⟨nk, hnk⟩ : ∃ nk, kn.length = nk := ⟨_, rfl⟩
  rw [hnk] at hkn ⊢
  have HNK := Lib.hid hnk
  have HK := Lib.hid hK
  clear hT hG hb hS hc1 hK hs hpn hn1 hnk
  unfold blC
  unfold exC blC at HPA
  go_enter Tryz.func16, Tryz.ntmps16
  go_upto_region 1 with (first | ((with_reducible refine gate_dst (N := 4) rfl ?_); refine box_event rfl (N := 4) rfl (cs := blC b a) (t := 30) (by first | rfl | (go_simp; done) | (go_simp; rfl)) ?_; intro g4 hgg w1 hbg4 hBg4;  have HG4 := Lib.hid hbg4; have HB := Lib.hid hBg4; clear hgg hbg4 hBg4))
  have bx0 : w1.cell? ⟨g4, 0, none⟩ = some (.slice a.A0 b.f0.length a.c0) := (bkC HG4.out 0).trans rfl; have bx1 : w1.cell? ⟨g4, 1, none⟩ = some (.int .i64 b.f1) := (bkC HG4.out 1).trans rfl; have bx2 : w1.cell? ⟨g4, 2, none⟩ = some (.slice a.A2 b.f2.length a.c2) := (bkC HG4.out 2).trans rfl; have bx3 : w1.cell? ⟨g4, 3, none⟩ = some (.slice a.A3 b.f3.length a.c3) := (bkC HG4.out 3).trans rfl; have bx4 : w1.cell? ⟨g4, 4, none⟩ = some (.slice a.A4 b.f4.length a.c4) := (bkC HG4.out 4).trans rfl; have bx5 : w1.cell? ⟨g4, 5, none⟩ = some (.slice a.A5 b.f5.length a.c5) := (bkC HG4.out 5).trans rfl; have bx6 : w1.cell? ⟨g4, 6, none⟩ = some (.slice a.A6 b.f6.length a.c6) := (bkC HG4.out 6).trans rfl; have bx7 : w1.cell? ⟨g4, 7, none⟩ = some (.bool b.f7) := (bkC HG4.out 7).trans rfl; have bx8 : w1.cell? ⟨g4, 8, none⟩ = some (.slice a.A8 b.f8.length a.c8) := (bkC HG4.out 8).trans rfl; have bx9 : w1.cell? ⟨g4, 9, none⟩ = some (.slice a.A9 b.f9.length a.c9) := (bkC HG4.out 9).trans rfl; have bx10 : w1.cell? ⟨g4, 10, none⟩ = some (.bool b.f10) := (bkC HG4.out 10).trans rfl
  have HO := Lib.hid (HOF.out w1 HB.out)
  clear HOF
  go_upto_region 2 with (go_at_call 17; refine HO.out.mono ?_; rintro rr w2 ⟨rfl, hB2⟩; have HB2 := Lib.hid hB2; clear hB2)
  clear HO bx0 bx1 bx2 bx3 bx4 bx5 bx6 bx7 bx8 bx9 bx10
  have HG42 := Lib.hid ((HB2.out.block g4 (blk_lt HG4.out)).trans HG4.out)
  have HBw : Hid (Below w.heap.size w w2) := Lib.hid (HB.out.trans (HB2.out.mono HB.out.size))
  clear HB2 HG4 HB
  by_cases he : er = 0
  · subst he
    have HPK : Hid (((knownF s kn).getD (guessF b m st), 0) = pn) := Lib.hid (by have h := HPN.out; rw [if_pos rfl] at h; exact h)
    have hwk : wrap64 ((nk : Int) - 1) = (nk : Int) - 1 := wrap64_of (by omega) (by omega)
    go_upto_region 5 with fail
    clear hwk
    go_loopw [12] (fun v12 wr => ∃ j : Nat, j ≤ nk ∧ v12 = .int .i64 ((j : Int) - 1) ∧ Hid (knownF s (kn.drop j) = none) ∧ Hid (wr = w2)) (fun v _ => (intOf v + 1).toNat)
    case atStart => exact ⟨nk, Nat.le_refl _, rfl, Lib.hid (by rw [List.drop_of_length_le (by rw [HNK.out]; exact Nat.le_refl _)]; rfl), Lib.hid rfl⟩
    case round =>
      obtain ⟨j, hj, rfl, HKJ, HWR⟩ := hrel
      obtain rfl := HWR.out
      by_cases hj0 : j = 0
      · subst hj0
        have HKN : Hid (knownF s kn = none) := Lib.hid (by have h := HKJ.out; rw [List.drop_zero] at h; exact h)
        have hneg : ¬ (((0 : Nat) : Int) - 1 ≥ 0) := by omega
        have HGU : Hid ((guessF b m st, 0) = pn) := Lib.hid (by have h := HPK.out; rw [HKN.out] at h; exact h)
        clear HKJ HPK HKN
        have bx0 : wr.cell? ⟨g4, 0, none⟩ = some (.slice a.A0 b.f0.length a.c0) := (bkC HG42.out 0).trans rfl; have bx1 : wr.cell? ⟨g4, 1, none⟩ = some (.int .i64 b.f1) := (bkC HG42.out 1).trans rfl; have bx2 : wr.cell? ⟨g4, 2, none⟩ = some (.slice a.A2 b.f2.length a.c2) := (bkC HG42.out 2).trans rfl; have bx3 : wr.cell? ⟨g4, 3, none⟩ = some (.slice a.A3 b.f3.length a.c3) := (bkC HG42.out 3).trans rfl; have bx4 : wr.cell? ⟨g4, 4, none⟩ = some (.slice a.A4 b.f4.length a.c4) := (bkC HG42.out 4).trans rfl; have bx5 : wr.cell? ⟨g4, 5, none⟩ = some (.slice a.A5 b.f5.length a.c5) := (bkC HG42.out 5).trans rfl; have bx6 : wr.cell? ⟨g4, 6, none⟩ = some (.slice a.A6 b.f6.length a.c6) := (bkC HG42.out 6).trans rfl; have bx7 : wr.cell? ⟨g4, 7, none⟩ = some (.bool b.f7) := (bkC HG42.out 7).trans rfl; have bx8 : wr.cell? ⟨g4, 8, none⟩ = some (.slice a.A8 b.f8.length a.c8) := (bkC HG42.out 8).trans rfl; have bx9 : wr.cell? ⟨g4, 9, none⟩ = some (.slice a.A9 b.f9.length a.c9) := (bkC HG42.out 9).trans rfl; have bx10 : wr.cell? ⟨g4, 10, none⟩ = some (.bool b.f10) := (bkC HG42.out 10).trans rfl
        have HB3 := Lib.hid (HBA.out wr HBw.out)
        clear HBA
        go_upto_region 11 with (go_at_call 14; refine HB3.out.mono ?_; rintro rr w3 ⟨AB, cB, rfl, hCB, hB3⟩; have HCB := Lib.hid hCB; have HB43 := Lib.hid hB3; clear hB3 hCB)
        clear HB3 bx0 bx1 bx2 bx3 bx4 bx5 bx6 bx7 bx8 bx9 bx10
        have HG43 := Lib.hid ((HB43.out.block g4 (blk_lt HG42.out)).trans HG42.out)
        have HBw3 : Hid (Below w.heap.size w w3) := Lib.hid (HBw.out.trans (HB43.out.mono HBw.out.size))
        clear HB43 HG42
        obtain ⟨B, hB⟩ : ∃ B, baseF b st = B := ⟨_, rfl⟩
        rw [hB] at HCB ⊢
        have HBL : Hid (B.length ≤ 4) := Lib.hid (by rw [← hB]; exact baseF_len b st)
        obtain ⟨nb, hnb⟩ : ∃ nb, B.length = nb := ⟨_, rfl⟩
        have HNB := Lib.hid hnb
        rw [hnb] at HCB HBL ⊢
        obtain ⟨R, hR⟩ : ∃ R, prodF m B 0 1 = R := ⟨_, rfl⟩
        have HR := Lib.hid hR
        have HGV : Hid ((partsF b st (sel m (condsF b.f4)) R, 0) = pn) := Lib.hid (by have h := HGU.out; unfold guessF at h; rw [hB, hR] at h; exact h)
        clear hB hnb hR HGU
        go_loopw [13, 55] (fun v13 v55 wr => ∃ (i : Nat) (n : Int), i ≤ nb ∧ v13 = .int .i64 n ∧ v55 = .int .i64 i ∧ Hid (prodF m (B.drop i) i n = R) ∧ Hid (Below w3.heap.size w3 wr)) (fun _ v _ => nb - (intOf v).toNat)
        case atStart => exact ⟨0, 1, Nat.zero_le _, rfl, rfl, HR, Lib.hid (Below.refl _ _)⟩
        case round =>
          obtain ⟨i, n, hi, rfl, rfl, HRI, HBr⟩ := hrel
          have hi4 : i ≤ 4 := by have := HBL.out; omega
          by_cases hlt : i < nb
          · have hlt' : (i : Int) < nb := by omega
            obtain ⟨ad, rfl, q0⟩ := Kd.at_int (Kd.C_below HCB.out HBr.out) (i : Int) (by omega) hlt'
            rw [show ((i : Int)).toNat = i by omega] at q0
            obtain ⟨x, hx⟩ : ∃ x, rd B (i : Int) = x := ⟨_, rfl⟩
            have hil : i < B.length := by rw [HNB.out]; exact hlt
            have HDD : Hid (B.drop i = x :: B.drop (i + 1)) := Lib.hid (by rw [List.drop_eq_getElem_cons hil, ← hx]; unfold rd; simp [List.getElem?_eq_getElem hil])
            rw [hx] at q0
            clear hx hil
            cases hbb : bitB m i with
            | false =>
              have hbit : (Go.bits .and .i64 (m / 2 ^ i) 1 == 1) = false := hbb
              go_wp2_with fail
              go_roundw
              case rel => exact ⟨i + 1, n, by omega, rfl, by go_num, Lib.hid (by have h := HRI.out; rw [HDD.out, prodF, if_neg (by rw [hbb]; decide)] at h; exact h), HBr⟩
              case measure => simp [intOf]; omega
            | true =>
              have hbit : (Go.bits .and .i64 (m / 2 ^ i) 1 == 1) = true := hbb
              have HMU := Lib.hid (fun (W : World) => hist_Mul.calls n x _ W (mul_f n x))
              go_wp2_with (go_at_call 34; refine (HMU.out _).mono ?_; rintro rr w4 ⟨rfl, hB4⟩; have HB4 : Hid (Below w3.heap.size w3 w4) := Lib.hid (HBr.out.trans (hB4.mono HBr.out.size)); clear hB4)
              go_roundw
              case rel => exact ⟨i + 1, _, by omega, rfl, by go_num, Lib.hid (by have h := HRI.out; rw [HDD.out, prodF, if_pos hbb] at h; exact h), HB4⟩
              case measure => simp [intOf]; omega
          · have hlt' : ¬ (i : Int) < nb := by omega
            obtain rfl : nb = i := by omega
            obtain rfl : n = R := by have h := HRI.out; rw [List.drop_of_length_le (by rw [HNB.out]; exact Nat.le_refl _)] at h; exact h
            clear hi hi4 hlt HRI HR HBL HCB
            have HBwr : Hid (Below w.heap.size w wr) := Lib.hid (HBw3.out.trans (HBr.out.mono HBw3.out.size))
            have HG4r := Lib.hid ((HBr.out.block g4 (blk_lt HG43.out)).trans HG43.out)
            clear HBr HG43 HBw3
            have hr : b.f4.all rightB = true := of_right HSO.out
            have z4 : wr.cell? ⟨g4, 4, none⟩ = some (.slice a.A4 b.f4.length a.c4) := (bkC HG4r.out 4).trans rfl
            have HC1 := Lib.hid (HCD.out wr HBwr.out hr)
            have HLG : Hid (∀ x ∈ condsF b.f4, rngF x = true) := Lib.hid (conds_rng (List.all_eq_true.1 hr) HGG.out.1.1)
            have HLL : Hid ((condsF b.f4).length ≤ 1048576) := Lib.hid (Nat.le_trans (conds_len b.f4) HGG.out.1.2)
            obtain ⟨L, hL⟩ : ∃ L, condsF b.f4 = L := ⟨_, rfl⟩
            rw [hL] at HC1 HLG HLL HGV
            clear hr hL HCD
            go_upto_region 17 with (go_at_call 35; refine HC1.out.mono ?_; rintro rr w5 ⟨AL, cL, rfl, hcL, hCL, hB5⟩; have HCL := Lib.hid hCL; have HB5 := Lib.hid hB5; clear hCL hB5)
            clear HC1 z4
            have HW1 := Lib.hid (within_ok2 m L AL cL w5 HCL.out hcL (by have := HLL.out; omega))
            go_upto_region 18 with (go_at_call 36; refine HW1.out.mono ?_; rintro rr w6 ⟨AW, cW, rfl, hCW, hB6⟩; have HCW := Lib.hid hCW; have HB6 := Lib.hid hB6; clear hCW hB6)
            clear HW1 hcL
            have HBw6 : Hid (Below w.heap.size w w6) := Lib.hid (HBwr.out.trans ((HB5.out.trans (HB6.out.mono HB5.out.size)).mono HBwr.out.size))
            have HG6 := Lib.hid ((HB6.out.block g4 (by have := HB5.out.size; have := blk_lt HG4r.out; omega)).trans ((HB5.out.block g4 (blk_lt HG4r.out)).trans HG4r.out))
            replace HCL := Lib.hid (Kd.C_below HCL.out HB6.out)
            clear HB5 HB6 HBwr HG4r
            obtain ⟨W, hW⟩ : ∃ W, withI m L 0 = W := ⟨_, rfl⟩
            have HWI : Hid (W.drop 0 = withI m (L.drop 0) 0) := Lib.hid (by rw [← hW]; rfl)
            have HWL : Hid (W.length ≤ 1048576) := Lib.hid (by rw [← hW]; have h1 := withI_len m L 0; have h2 := HLL.out; omega)
            rw [hW] at HCW ⊢
            obtain ⟨nw, hnw⟩ : ∃ nw, W.length = nw := ⟨_, rfl⟩
            have HNW := Lib.hid hnw
            rw [hnw] at HCW HWL ⊢
            obtain ⟨nl, hnl⟩ : ∃ nl, L.length = nl := ⟨_, rfl⟩
            have HNL := Lib.hid hnl
            rw [hnl] at HCL HLL ⊢
            clear hW hnw hnl
            obtain ⟨G, hGp⟩ : ∃ G, partsF b st (sel m L) n = G := ⟨_, rfl⟩
            have HGS : Hid (partsF b st (sel m (L.drop 0)) n = G) := Lib.hid hGp
            replace HGV : Hid ((G, 0) = pn) := Lib.hid (by rw [← hGp]; exact HGV.out)
            clear hGp
            go_loopw [13, 79] (fun v13 v79 wr => ∃ (i j : Nat) (z : Int), i ≤ nw ∧ v13 = .int .i64 z ∧ v79 = .int .i64 i ∧ Hid (W.drop i = withI m (L.drop j) j) ∧ Hid (partsF b st (sel m (L.drop j)) z = G) ∧ Hid (Below w6.heap.size w6 wr)) (fun _ v _ => nw - (intOf v).toNat)
            case atStart => exact ⟨0, 0, n, Nat.zero_le _, rfl, rfl, HWI, HGS, Lib.hid (Below.refl _ _)⟩
            case round =>
              obtain ⟨i, j, z, hi, rfl, rfl, HWJ, HGJ, HBr⟩ := hrel
              have hi4 : i ≤ 1048576 := by have := HWL.out; omega
              by_cases hlt : i < nw
              · have hlt' : (i : Int) < nw := by omega
                obtain ⟨aw, rfl, q0⟩ := Kd.at_int (Kd.C_below HCW.out HBr.out) (i : Int) (by omega) hlt'
                rw [show ((i : Int)).toNat = i by omega] at q0
                obtain ⟨q, x, hq, hrd, hqx, hdn, hsn⟩ := withI_next m L (L.drop j) j i W rfl HWJ.out (by rw [HNW.out]; exact hlt)
                rw [hrd] at q0
                have hql : q < nl := by rw [← HNL.out]; exact (List.getElem?_eq_some_iff.1 hqx).1
                obtain ⟨ad, Ax, cx, x', rfl, hx', p0, p1, p2, p3, p4, p5, p6, p7, p8, hcx, hCx⟩ := at_ex (Kd.C_below HCL.out HBr.out) HNL.out q hql
                obtain rfl : x = x' := Option.some.inj (hqx.symm.trans hx')
                have HDN := Lib.hid hdn
                have HSN := Lib.hid hsn
                have hqi : (q : Int) < nl := by omega
                have HXG : Hid (rngF x = true) := Lib.hid (HLG.out x (List.mem_of_getElem? hqx))
                clear hq hrd hqx hdn hsn hx' hql
                have HBwr : Hid (Below w.heap.size w wr) := Lib.hid (HBw6.out.trans (HBr.out.mono HBw6.out.size))
                have HGr := Lib.hid ((HBr.out.block g4 (blk_lt HG6.out)).trans HG6.out)
                have HP1 : Hid (∀ Q : Ending → World → Prop, (∀ e w'', (e = .returned (.tuple #[.int .i64 (partF b st x).1, .int .i64 (partF b st x).2]) ∧ Below wr.drew.heap.size wr.drew w'') → Q e w'') → Calls Tryz.prog 11 #[.agg #[.int .i64 x.f0, .int .i64 x.f1.f0, .int .i64 x.f1.f1, .string x.f1.f2, .int .i64 x.f2, .int .i64 x.f3, .int .i64 x.f4, .string x.f5, .slice Ax x.f6.length cx], .agg #[.slice a.A0 b.f0.length a.c0, .int .i64 b.f1, .slice a.A2 b.f2.length a.c2, .slice a.A3 b.f3.length a.c3, .slice a.A4 b.f4.length a.c4, .slice a.A5 b.f5.length a.c5, .slice a.A6 b.f6.length a.c6, .bool b.f7, .slice a.A8 b.f8.length a.c8, .slice a.A9 b.f9.length a.c9, .bool b.f10], .slice A1 n1 c1] wr.drew Q) := Lib.hid (fun Q hQ => (HPA.out wr.drew (below_drew HBwr.out) x Ax cx HXG.out hcx (Kd.C_below hCx (below_drew (Below.refl _ _)))).mono hQ)
                clear hcx hCx HXG
                go_upto_region 20 with fail
                clear q0
                have bx0 : wr.drew.cell? ⟨g4, 0, none⟩ = some (.slice a.A0 b.f0.length a.c0) := (bkC HGr.out 0).trans rfl; have bx1 : wr.drew.cell? ⟨g4, 1, none⟩ = some (.int .i64 b.f1) := (bkC HGr.out 1).trans rfl; have bx2 : wr.drew.cell? ⟨g4, 2, none⟩ = some (.slice a.A2 b.f2.length a.c2) := (bkC HGr.out 2).trans rfl; have bx3 : wr.drew.cell? ⟨g4, 3, none⟩ = some (.slice a.A3 b.f3.length a.c3) := (bkC HGr.out 3).trans rfl; have bx4 : wr.drew.cell? ⟨g4, 4, none⟩ = some (.slice a.A4 b.f4.length a.c4) := (bkC HGr.out 4).trans rfl; have bx5 : wr.drew.cell? ⟨g4, 5, none⟩ = some (.slice a.A5 b.f5.length a.c5) := (bkC HGr.out 5).trans rfl; have bx6 : wr.drew.cell? ⟨g4, 6, none⟩ = some (.slice a.A6 b.f6.length a.c6) := (bkC HGr.out 6).trans rfl; have bx7 : wr.drew.cell? ⟨g4, 7, none⟩ = some (.bool b.f7) := (bkC HGr.out 7).trans rfl; have bx8 : wr.drew.cell? ⟨g4, 8, none⟩ = some (.slice a.A8 b.f8.length a.c8) := (bkC HGr.out 8).trans rfl; have bx9 : wr.drew.cell? ⟨g4, 9, none⟩ = some (.slice a.A9 b.f9.length a.c9) := (bkC HGr.out 9).trans rfl; have bx10 : wr.drew.cell? ⟨g4, 10, none⟩ = some (.bool b.f10) := (bkC HGr.out 10).trans rfl
                have r0 : wr.drew.cell? (ad.add (q * 9)) = some (.int .i64 x.f0) := p0; have r1 : wr.drew.cell? ⟨(ad.add (q * 9)).block, (ad.add (q * 9)).off + 1, none⟩ = some (.int .i64 x.f1.f0) := p1; have r2 : wr.drew.cell? ⟨(ad.add (q * 9)).block, (ad.add (q * 9)).off + 2, none⟩ = some (.int .i64 x.f1.f1) := p2; have r3 : wr.drew.cell? ⟨(ad.add (q * 9)).block, (ad.add (q * 9)).off + 3, none⟩ = some (.string x.f1.f2) := p3; have r4 : wr.drew.cell? ⟨(ad.add (q * 9)).block, (ad.add (q * 9)).off + 4, none⟩ = some (.int .i64 x.f2) := p4; have r5 : wr.drew.cell? ⟨(ad.add (q * 9)).block, (ad.add (q * 9)).off + 5, none⟩ = some (.int .i64 x.f3) := p5; have r6 : wr.drew.cell? ⟨(ad.add (q * 9)).block, (ad.add (q * 9)).off + 6, none⟩ = some (.int .i64 x.f4) := p6; have r7 : wr.drew.cell? ⟨(ad.add (q * 9)).block, (ad.add (q * 9)).off + 7, none⟩ = some (.string x.f5) := p7; have r8 : wr.drew.cell? ⟨(ad.add (q * 9)).block, (ad.add (q * 9)).off + 8, none⟩ = some (.slice Ax x.f6.length cx) := p8
                generalize hpf : partF b st x = pf at HP1
                have HPF := Lib.hid hpf
                clear hpf p0 p1 p2 p3 p4 p5 p6 p7 p8 HGr
                go_region_held3 (fun w' => w'.cell? ⟨g4, 0, none⟩ = some (.slice a.A0 b.f0.length a.c0) ∧ w'.cell? ⟨g4, 1, none⟩ = some (.int .i64 b.f1) ∧ w'.cell? ⟨g4, 2, none⟩ = some (.slice a.A2 b.f2.length a.c2) ∧ w'.cell? ⟨g4, 3, none⟩ = some (.slice a.A3 b.f3.length a.c3) ∧ w'.cell? ⟨g4, 4, none⟩ = some (.slice a.A4 b.f4.length a.c4) ∧ w'.cell? ⟨g4, 5, none⟩ = some (.slice a.A5 b.f5.length a.c5) ∧ w'.cell? ⟨g4, 6, none⟩ = some (.slice a.A6 b.f6.length a.c6) ∧ w'.cell? ⟨g4, 7, none⟩ = some (.bool b.f7) ∧ w'.cell? ⟨g4, 8, none⟩ = some (.slice a.A8 b.f8.length a.c8) ∧ w'.cell? ⟨g4, 9, none⟩ = some (.slice a.A9 b.f9.length a.c9) ∧ w'.cell? ⟨g4, 10, none⟩ = some (.bool b.f10) ∧ w'.cell? (ad.add (q * 9)) = some (.int .i64 x.f0) ∧ w'.cell? ⟨(ad.add (q * 9)).block, (ad.add (q * 9)).off + 1, none⟩ = some (.int .i64 x.f1.f0) ∧ w'.cell? ⟨(ad.add (q * 9)).block, (ad.add (q * 9)).off + 2, none⟩ = some (.int .i64 x.f1.f1) ∧ w'.cell? ⟨(ad.add (q * 9)).block, (ad.add (q * 9)).off + 3, none⟩ = some (.string x.f1.f2) ∧ w'.cell? ⟨(ad.add (q * 9)).block, (ad.add (q * 9)).off + 4, none⟩ = some (.int .i64 x.f2) ∧ w'.cell? ⟨(ad.add (q * 9)).block, (ad.add (q * 9)).off + 5, none⟩ = some (.int .i64 x.f3) ∧ w'.cell? ⟨(ad.add (q * 9)).block, (ad.add (q * 9)).off + 6, none⟩ = some (.int .i64 x.f4) ∧ w'.cell? ⟨(ad.add (q * 9)).block, (ad.add (q * 9)).off + 7, none⟩ = some (.string x.f5) ∧ w'.cell? ⟨(ad.add (q * 9)).block, (ad.add (q * 9)).off + 8, none⟩ = some (.slice Ax x.f6.length cx)) (go_keep) (first | (go_at_call 11; with_reducible refine HP1.out _ ?_; rintro rr w7 ⟨rfl, hB7⟩; have by0 := pw_cell_below hB7 bx0; have by1 := pw_cell_below hB7 bx1; have by2 := pw_cell_below hB7 bx2; have by3 := pw_cell_below hB7 bx3; have by4 := pw_cell_below hB7 bx4; have by5 := pw_cell_below hB7 bx5; have by6 := pw_cell_below hB7 bx6; have by7 := pw_cell_below hB7 bx7; have by8 := pw_cell_below hB7 bx8; have by9 := pw_cell_below hB7 bx9; have by10 := pw_cell_below hB7 bx10; have t0 := pw_cell_below hB7 r0; have t1 := pw_cell_below hB7 r1; have t2 := pw_cell_below hB7 r2; have t3 := pw_cell_below hB7 r3; have t4 := pw_cell_below hB7 r4; have t5 := pw_cell_below hB7 r5; have t6 := pw_cell_below hB7 r6; have t7 := pw_cell_below hB7 r7; have t8 := pw_cell_below hB7 r8; have HB7 := Lib.hid (below_undrew hB7); clear hB7))
                have HT1 := Lib.hid (hist_Times.calls z pf.1 pf.2 _ w7 (times_f z pf.1 pf.2))
                clear HP1 bx0 bx1 bx2 bx3 bx4 bx5 bx6 bx7 bx8 bx9 bx10 by0 by1 by2 by3 by4 by5 by6 by7 by8 by9 by10 r0 r1 r2 r3 r4 r5 r6 r7 r8 t0 t1 t2 t3 t4 t5 t6 t7 t8
                go_wp2_with (go_at_call 37; refine HT1.out.mono ?_; rintro rr w8 ⟨rfl, hB8⟩; have HB8 : Hid (Below w6.heap.size w6 w8) := Lib.hid (HBr.out.trans ((HB7.out.trans (hB8.mono HB7.out.size)).mono HBr.out.size)); clear hB8)
                go_roundw
                case rel => exact ⟨i + 1, q + 1, _, by omega, rfl, by go_num, HDN, Lib.hid (by have h := HGJ.out; rw [HSN.out, partsF, HPF.out] at h; exact h), HB8⟩
                case measure => simp [intOf]; omega
              · have hlt' : ¬ (i : Int) < nw := by omega
                obtain rfl : nw = i := by omega
                have hz : z = G := by
                  have h := HWJ.out
                  rw [List.drop_of_length_le (by rw [HNW.out]; exact Nat.le_refl _)] at h
                  have h2 := HGJ.out
                  rw [withI_none m (L.drop j) j h.symm] at h2
                  exact h2
                subst hz
                have HBF : Hid (Below w.heap.size w wr) := Lib.hid (HBw6.out.trans (HBr.out.mono HBw6.out.size))
                clear HWJ HGJ hi hi4 hlt
                go_wp2_with fail
                go_ret2
                exact ⟨by rw [← HGV.out]; rfl, HBF.out⟩
      · obtain ⟨j, rfl⟩ : ∃ i, j = i + 1 := ⟨j - 1, by omega⟩
        have e1 : (((j + 1 : Nat) : Int) - 1) = (j : Int) := by omega
        have hjl : (j : Int) < nk := by omega
        obtain ⟨ad, hA, q0, q1⟩ := at_T45 (Kd.C_below HK.out HBw.out) (j : Int) (by omega) (by rw [HNK.out]; exact hjl)
        rw [show ((j : Int)).toNat = j by omega] at q0 q1
        subst hA
        obtain ⟨x, hx⟩ : ∃ x, rd_T45 kn (j : Int) = x := ⟨_, rfl⟩
        rw [hx] at q0 q1
        have hil : j < kn.length := by rw [HNK.out]; omega
        have HDD : Hid (kn.drop j = x :: kn.drop (j + 1)) := Lib.hid (by rw [List.drop_eq_getElem_cons hil, ← hx]; unfold rd_T45; simp [List.getElem?_eq_getElem hil])
        clear hx hil
        rw [e1]
        clear e1
        cases hbb : (x.f0.toList == s.toList) with
        | true =>
          have HKV : Hid ((clipI x.f1, 0) = pn) := Lib.hid (by
            have h := HPK.out
            have h2 : knownF s (kn.drop j) = some (clipI x.f1) := by rw [HDD.out, knownF, HKJ.out]; exact if_pos (beq_iff_eq.mp hbb)
            rw [← List.take_append_drop j kn, knownF_app s _ h2] at h
            exact h)
          have HCL := Lib.hid (clip_ok x.f1 wr)
          clear HKJ HPK HDD
          go_wp2_with (go_at_call 24; refine HCL.out.mono ?_; rintro rr w3 ⟨rfl, hB3⟩; have HB3 : Hid (Below w.heap.size w w3) := Lib.hid (HBw.out.trans (hB3.mono HBw.out.size)); clear hB3)
          go_ret2
          exact ⟨by rw [← HKV.out]; rfl, HB3.out⟩
        | false =>
          have hwj : wrap64 ((j : Int) - 1) = (j : Int) - 1 := wrap64_of (by omega) (by omega)
          go_wp2_with fail
          go_roundw
          case rel => exact ⟨j, by omega, rfl, Lib.hid (by rw [HDD.out, knownF, HKJ.out]; exact if_neg (fun h => by rw [beq_iff_eq.mpr h] at hbb; cases hbb)), by first | exact Lib.hid rfl | exact Lib.hid trivial⟩
          case measure => simp [intOf] <;> omega
  · have hp : ((0 : Int), er) = pn := by have h := HPN.out; rw [if_neg he] at h; exact h
    subst hp
    have hb0 : (er != 0) = true := bne_iff_ne.mpr he
    clear HPN he
    go_wp2_with fail
    go_ret2
    exact ⟨rfl, HBw.out⟩
end Go.Proofs.YtoffpegppdmkdaaGreatDoor.E
namespace Go.Proofs.YtoffpegppdmkdaaGreatDoor.E
set_option linter.unusedSimpArgs false
set_option linter.unusedVariables false
open Go.RowKit Go.Proofs.YtoffpegppdmkdaaGreatDoorW.PrintWords Go.Proofs.YtoffpegppdmkdaaGreatDoorW.PrintLast Go.Proofs.YtoffpegppdmkdaaGreatDoorW.PrintMore
def okP (p : Int × Int) : Prop := 0 ≤ p.1 ∧ p.1 ≤ p.2 ∧ 1 ≤ p.2
theorem clip_mono {a b : Int} (h : a ≤ b) : clipI a ≤ clipI b := by
  rw [clip_eq, clip_eq]; repeat' split
  all_goals omega
theorem clip_in {n : Int} (h0 : 0 ≤ n) (h1 : n ≤ 1000000000000) : clipI n = n := by rw [clip_eq, if_neg (by omega), if_neg (by omega)]
theorem many_mono (p : St → Bool) : ∀ (l : List St) (n m : Int), n ≤ m → 0 ≤ m → m ≤ 1000000000000 → manyI p l n ≤ manyI (fun _ => true) l m
  | [], n, m, h, _, _ => h
  | s :: l, n, m, h, h0, h1 => by
    rw [manyI, manyI, if_pos rfl]
    have hc := clip_0 (clipI m + clipI s.f1)
    split
    · exact many_mono p l _ _ (clip_mono (by have := clip_mono h; omega)) hc.1 hc.2
    · refine many_mono p l _ _ ?_ hc.1 hc.2
      have h3 := clip_mono (show m ≤ clipI m + clipI s.f1 by have := clip_0 s.f1; rw [clip_in h0 h1]; omega)
      rw [clip_in h0 h1] at h3
      unfold addI
      rw [clip_in h0 h1]
      omega
theorem below_le (h : Hi) (v : Va) (too : Bool) : 0 ≤ belowI h.f2 v too ∧ belowI h.f2 v too ≤ manyH h := ⟨(many_0 _ _ _ (by omega) (by omega)).1, many_mono _ _ _ _ (Int.le_refl 0) (by omega) (by omega)⟩
theorem hpart_okP (op : Int) (h : Hi) (v : Va) : okP (hpartF op h v) := by
  have hc := clip_0 h.f0
  have hd := mx_le 1 (clipI h.f0)
  have hm := mx_le 1 (manyH h)
  have hb := below_le h v
  have hb1 := hb (op == 12)
  have hb2 := hb (op == 13)
  have hx := mx_le 0 (manyH h - belowI h.f2 v (op == 13))
  unfold hpartF
  split
  · exact ⟨by show (0 : Int) ≤ 1; decide, hd.1, hd.1⟩
  split
  · exact ⟨by show 0 ≤ mx 1 (clipI h.f0) - 1; omega, by show mx 1 (clipI h.f0) - 1 ≤ mx 1 (clipI h.f0); omega, hd.1⟩
  split
  · exact ⟨hb1.1, by show belowI h.f2 v (op == 12) ≤ mx 1 (manyH h); omega, hm.1⟩
  split
  · split
    · exact ⟨hx.1, by show mx 0 (manyH h - belowI h.f2 v (op == 13)) ≤ manyH h; omega, by show 1 ≤ manyH h; omega⟩
    · exact ⟨by decide, by decide, by decide⟩
  · exact ⟨by decide, by decide, by decide⟩
theorem mn_le (a b : Int) : mn a b ≤ a ∧ mn a b ≤ b ∧ (mn a b = a ∨ mn a b = b) := by unfold mn; split <;> omega
theorem partQ_ok (b : Bl) (st : List Sta) (op : Int) (l r : Ex) : okP (partQ b st op l r) := by
  unfold partQ
  split
  · have h1 := clip_0 (statF b.f0 st l.f2).f0
    have h2 := clip_0 (colF b st l).f1
    have h3 := mn_le (clipI (statF b.f0 st l.f2).f0) (clipI (colF b st l).f1)
    have h4 := mx_le 1 (clipI (statF b.f0 st l.f2).f0)
    exact ⟨by show 0 ≤ mn _ _; omega, by show mn _ _ ≤ mx _ _; omega, h4.1⟩
  split
  · exact ⟨by decide, by decide, by decide⟩
  split
  · exact hpart_okP _ _ _
  split
  · exact hpart_okP _ _ _
  split
  · have h4 := mx_le 1 (clipI (colF b st l).f0)
    have h5 := mx_le (mx 1 (clipI (colF b st l).f0)) (clipI (colF b st r).f0)
    exact ⟨by show (0 : Int) ≤ 1; decide, by show 1 ≤ mx (mx _ _) _; omega, by show 1 ≤ mx (mx _ _) _; omega⟩
  · exact ⟨by decide, by decide, by decide⟩
theorem part_okP (b : Bl) (st : List Sta) (e : Ex) : okP (partF b st e) := by
  unfold partF
  split
  · split
    · exact ⟨by decide, by decide, by decide⟩
    · exact partQ_ok _ _ _ _ _
    · exact partQ_ok _ _ _ _ _
  · exact ⟨by decide, by decide, by decide⟩
def withC (b : Bl) (cs : List Ex) : Bl := ⟨b.f0, b.f1, b.f2, b.f3, cs, b.f5, b.f6, b.f7, b.f8, b.f9, b.f10⟩
theorem est_nil (b : Bl) (m : Int) (st : List Sta) : estF b m st [] = if (ofRes b.f0 b.f1 m b.f4).2 = 0 then (guessF b m st, 0) else (0, (ofRes b.f0 b.f1 m b.f4).2) := rfl
theorem head_83 (sz : List Int) (m : Int) : ∀ i, ∃ r, headL sz m i = 83 :: r
  | 0 => ⟨[], rfl⟩
  | i + 1 => by
    obtain ⟨r, hr⟩ := head_83 sz m i
    rw [headL, hr]
    exact ⟨_, rfl⟩
theorem of_83 {sz : List Int} {n m : Int} {cs : List Ex} {s : ByteArray} (h : ofRes sz n m cs = (s, 0)) : s.toList ≠ [63] := by
  unfold ofRes at h
  split at h
  · cases (Prod.mk.inj h).2
  · obtain ⟨r, hr⟩ := head_83 sz m n.toNat
    rw [← (Prod.mk.inj h).1, ByteArray.toList_eq]
    show (ofT sz m n.toNat cs) ≠ _
    unfold ofT
    rw [hr]
    simp
theorem known_at (b : Bl) (m : Int) (st : List Sta) (s t : ByteArray) (many more : Int) (ht : ofRes b.f0 b.f1 m b.f4 = (t, 0)) : estF b m st [⟨s, more⟩, ⟨⟨#[63]⟩, 3⟩, ⟨s, many⟩] = (if s.toList = t.toList then clipI many else (estF b m st []).1, 0) := by
  have hq : ¬ (⟨#[63]⟩ : ByteArray).toList = t.toList := fun e => of_83 ht (by rw [← e, ByteArray.toList_eq])
  rw [est_nil]
  unfold estF
  rw [ht]
  simp only [if_true]
  by_cases h : s.toList = t.toList
  · simp only [knownF, if_pos h]; rfl
  · simp only [knownF, if_neg h, if_neg hq]; rfl
theorem known_ok_ (b : Bl) (m : Int) (st : List Sta) (t : ByteArray) (ht : ofRes b.f0 b.f1 m b.f4 = (t, 0)) : (estF b m st []).2 = 0 := by rw [est_nil, ht]; rfl
end Go.Proofs.YtoffpegppdmkdaaGreatDoor.E
namespace Go.Proofs.YtoffpegppdmkdaaGreatDoor.E
open Go.RowKit Go.Proofs.YtoffpegppdmkdaaGreatDoorW.PrintWords Go.Proofs.YtoffpegppdmkdaaGreatDoorW.PrintLast Go.Proofs.YtoffpegppdmkdaaGreatDoorW.PrintMore
set_option linter.unusedVariables false
set_option linter.unusedSimpArgs false
def eqE : Ex := twoE 9 (refE 0 0) (refE 1 0)
def litB (sz : List Int) (n : Int) (cs : List Ex) : Bl := ⟨sz, n, [], [], cs, [], [], false, [], [], false⟩
def litA (A0 : Option Addr) (c0 : Nat) (A4 : Option Addr) (c4 : Nat) : BA := ⟨A0, none, none, A4, none, none, none, none, c0, 0, 0, c4, 0, 0, 0, 0⟩
theorem litR {sz : List Int} {n : Int} {cs : List Ex} {A0 : Option Addr} {c0 : Nat} {A4 : Option Addr} {c4 : Nat} {w : World} (h0 : (Kd.int .i64).C w A0 sz.length sz) (l0 : sz.length ≤ c0) (h4 : Kd.C KX w A4 cs.length cs) (l4 : cs.length ≤ c4) : BR (litB sz n cs) (litA A0 c0 A4 c4) w :=
  ⟨h0, l0, Kd.C_nil _ _, Nat.le_refl _, Kd.C_nil _ _, Nat.le_refl _, h4, l4, Kd.C_nil _ _, Nat.le_refl _, Kd.C_nil _ _, Nat.le_refl _, Kd.C_nil _ _, Nat.le_refl _, Kd.C_nil _ _, Nat.le_refl _⟩
theorem eq_right : rightB eqE = true := by kernel_rfl
theorem less10 : lessT (refE 1 0) (refE 0 0) = false := by
  unfold lessT
  rw [tl_right (by kernel_rfl), tl_right (by kernel_rfl), textF_eq, textF_eq]
  have h0 : Lib.itoa 0 = [48] := itoa_one 0 (by decide)
  have h1 : Lib.itoa 1 = [49] := itoa_one 1 (by decide)
  show decide ((82 :: (Lib.itoa 1 ++ 46 :: Lib.itoa 0)) < (82 :: (Lib.itoa 0 ++ 46 :: Lib.itoa 0))) = false
  rw [h0, h1]
  decide
theorem eq_norm : normF eqE = eqE := by
  unfold eqE
  rw [normF_eq]
  have h1 : normF (refE 1 0) = refE 1 0 := norm_leaf rfl rfl
  have h2 : normF (refE 0 0) = refE 0 0 := norm_leaf rfl rfl
  have e : (twoE 9 (refE 0 0) (refE 1 0)).f6.map normF = [refE 0 0, refE 1 0] := by show [normF (refE 0 0), normF (refE 1 0)] = _; rw [h1, h2]
  rw [e]
  have ht : turnF 9 [refE 0 0, refE 1 0] = (9, [refE 0 0, refE 1 0]) := by
    unfold turnF
    rw [if_neg (by decide), if_pos (by decide), if_neg (by show ¬ lessT (refE 1 0) (refE 0 0) = true; rw [less10]; decide)]
  show (⟨(turnF 9 _).1, _, _, _, _, _, (turnF 9 _).2⟩ : Ex) = _
  rw [ht]; rfl
def st0 : List Sta := [⟨100, [⟨50, 0, []⟩]⟩, ⟨100, [⟨20, 0, []⟩]⟩]
theorem ex_of : (ofRes [0, 1] 2 3 [eqE]).2 = 0 := by
  unfold ofRes
  rw [if_neg]
  rintro (h | h)
  · exact absurd h (by decide)
  · rw [List.all_cons, eq_right] at h; cases h
theorem ex_sel : sel 3 (condsF [eqE]) = [eqE] := by
  have h : condsF [eqE] = [eqE] := by show [normF eqE] = _; rw [eq_norm]
  have hs : inSet 3 eqE = true := by kernel_rfl
  rw [h, sel, List.filter_cons, if_pos hs]; rfl
theorem ex_part (st : List Sta) : partF (litB [0, 1] 2 [eqE]) st eqE = partQ (litB [0, 1] 2 [eqE]) st 9 (refE 0 0) (refE 1 0) := by
  unfold partF
  rw [if_pos eq_right, eq_norm]; rfl
theorem ex_a : estF (litB [0, 1] 2 [eqE]) 3 st0 [] = (200, 0) := by
  unfold estF guessF
  show (if (ofRes [0, 1] 2 3 [eqE]).2 = 0 then _ else _) = _
  rw [if_pos ex_of]
  show (partsF _ st0 (sel 3 (condsF [eqE])) _, (0 : Int)) = _
  rw [ex_sel]
  show (timesI _ (partF _ st0 eqE).1 (partF _ st0 eqE).2, (0 : Int)) = _
  rw [ex_part]
  kernel_rfl
theorem ex_b : estF (litB [0, 1] 2 [eqE]) 3 [] [] = (100, 0) := by
  unfold estF guessF
  show (if (ofRes [0, 1] 2 3 [eqE]).2 = 0 then _ else _) = _
  rw [if_pos ex_of]
  show (partsF _ [] (sel 3 (condsF [eqE])) _, (0 : Int)) = _
  rw [ex_sel]
  show (timesI _ (partF _ [] eqE).1 (partF _ [] eqE).2, (0 : Int)) = _
  rw [ex_part]
  kernel_rfl
theorem eq_rng : rngF eqE = true := by kernel_rfl
theorem ex_G : ofG [0, 1] 3 [eqE] := ⟨⟨fun x hx => by obtain rfl := List.mem_singleton.1 hx; exact eq_rng, by decide⟩, by decide, fun x hx => by
  simp only [List.mem_cons, List.not_mem_nil, or_false] at hx
  rcases hx with rfl | rfl <;> decide⟩
theorem equal_ok (w : World) : Calls Tryz.prog 21 #[] w fun e w' => ∃ A c, e = .returned (.agg (exC eqE A c)) ∧ 2 ≤ c ∧ Kd.C KX w' A 2 [refE 0 0, refE 1 0] ∧ Below w.heap.size w w' := by
  refine (w14_equal.calls _ _ _ _ _ _ _ _ _ w rfl).mono ?_
  rintro e w' ⟨v, rfl, hR, hB⟩
  obtain ⟨A, c, rfl, hc, hC⟩ := Kd.R_reads hR
  exact ⟨A, c, rfl, hc, hC, hB⟩
theorem hist1_C {w : World} {g : Nat} {n m : Int} (h : w.heap[g]? = some (.cells #[.int .i64 n, .int .i64 m, .slice none 0 0] 64 (0, 0))) : Kd.C k64 w (some ⟨g, 0, none⟩) 1 [⟨n, m, []⟩] := by
  refine ⟨rfl, by simp, fun _ => ⟨_, rfl, ?_⟩⟩
  intro j p hp
  match j, hp with
  | 0, hp =>
    obtain rfl := Option.some.inj hp
    refine ⟨_, rfl, k64_mk w _ (Nat.le_refl _) (Kd.C_nil _ _), ?_⟩
    intro i u hu
    have hi : i < 3 := by
      have := (List.getElem?_eq_some_iff.1 hu).1; simpa using this
    obtain rfl | rfl | rfl : i = 0 ∨ i = 1 ∨ i = 2 := by omega
    all_goals (have hu' := Option.some.inj hu; subst hu'; rw [add_plain])
    · exact (bkC h 0).trans rfl
    · exact (bkC h 1).trans rfl
    · exact (bkC h 2).trans rfl
theorem stat2_C {w : World} {g : Nat} {n m : Int} {l1 l2 : List Hi} {A1 A2 : Option Addr} {c1 c2 : Nat} (h : w.heap[g]? = some (.cells #[.int .i64 n, .slice A1 l1.length c1, .int .i64 m, .slice A2 l2.length c2] 51 (0, 0))) (h1 : l1.length ≤ c1) (h2 : l2.length ≤ c2) (hC1 : Kd.C k64 w A1 l1.length l1) (hC2 : Kd.C k64 w A2 l2.length l2) : Kd.C k51 w (some ⟨g, 0, none⟩) 2 [⟨n, l1⟩, ⟨m, l2⟩] := by
  refine ⟨rfl, by simp, fun _ => ⟨_, rfl, ?_⟩⟩
  intro j p hp
  match j, hp with
  | 0, hp =>
    obtain rfl := Option.some.inj hp
    refine ⟨_, rfl, k51_mk w _ h1 hC1, ?_⟩
    intro i u hu
    have hi : i < 2 := by
      have := (List.getElem?_eq_some_iff.1 hu).1; simpa using this
    obtain rfl | rfl : i = 0 ∨ i = 1 := by omega
    all_goals (have hu' := Option.some.inj hu; subst hu'; rw [add_plain])
    · exact (bkC h 0).trans rfl
    · exact (bkC h 1).trans rfl
  | 1, hp =>
    obtain rfl := Option.some.inj hp
    refine ⟨_, rfl, k51_mk w _ h2 hC2, ?_⟩
    intro i u hu
    have hi : i < 2 := by
      have := (List.getElem?_eq_some_iff.1 hu).1; simpa using this
    obtain rfl | rfl : i = 0 ∨ i = 1 := by omega
    all_goals (have hu' := Option.some.inj hu; subst hu'; rw [add_plain])
    · exact (bkC h 2).trans rfl
    · exact (bkC h 3).trans rfl
theorem alloc2 (w : World) (X Y : Obj) : ((w.alloc X).alloc Y).heap[w.heap.size]? = some X ∧ ((w.alloc X).alloc Y).heap[w.heap.size + 1]? = some Y ∧ Below w.heap.size w ((w.alloc X).alloc Y) := by
  have h := heap_alloc_new (w.alloc X) Y
  rw [show (w.alloc X).heap.size = w.heap.size + 1 from by simp] at h
  exact ⟨bkA (heap_alloc_new w X) Y, h, blA (blA (Below.refl _ _) _) _⟩
theorem alloc3 (w : World) (X Y Z : Obj) : (((w.alloc X).alloc Y).alloc Z).heap[w.heap.size]? = some X ∧ (((w.alloc X).alloc Y).alloc Z).heap[w.heap.size + 1]? = some Y ∧ (((w.alloc X).alloc Y).alloc Z).heap[w.heap.size + 2]? = some Z ∧ Below w.heap.size w (((w.alloc X).alloc Y).alloc Z) := by
  have h2 := alloc2 w X Y
  have h := heap_alloc_new ((w.alloc X).alloc Y) Z
  rw [show ((w.alloc X).alloc Y).heap.size = w.heap.size + 2 from by simp] at h
  exact ⟨bkA h2.1 Z, bkA h2.2.1 Z, h, blA h2.2.2 _⟩
set_option maxHeartbeats 4000000 in
set_option maxRecDepth 100000 in
theorem examples_ok (w : World) (hT : TabW w) : Calls Tryz.prog 10 #[] w fun r w' => r = .returned (.bool true) ∧ Below w.heap.size w w' := by
  have HT := Lib.hid hT; clear hT
  go_enter Tryz.func10, Tryz.ntmps10
  go_upto_region 2 with (go_at_call 21; refine (equal_ok _).mono ?_; rintro rr w2 ⟨A, c, rfl, hc, hC, hB2⟩; have HB2 := Lib.hid hB2; have HC := Lib.hid hC; clear hC hB2; unfold exC)
  have ha2 := alloc2 w2 (.cells (exC eqE A c) 26 (0, 0)) (.cells (blC (litB [0, 1] 2 [eqE]) (litA (some ⟨w.heap.size, 0, none⟩) 2 (some ⟨w2.heap.size, 0, none⟩) 1)) 30 (0, 0))
  have hI : w2.heap[w.heap.size]? = some (.cells (([0, 1] : List Int).map (Value.int .i64)).toArray 3 (0, 0)) := (HB2.out.block w.heap.size (blk_lt (heap_alloc_new w _))).trans (heap_alloc_new w _)
  have HI := Lib.hid ((ha2.2.2.block _ (blk_lt hI)).trans hI)
  have HBw2 : Below w.heap.size w w2 := (blA (Below.refl w.heap.size w) _).trans (HB2.out.mono (by simp))
  have HB3 : Hid (Below w.heap.size w ((w2.alloc (.cells (exC eqE A c) 26 (0, 0))).alloc (.cells (blC (litB [0, 1] 2 [eqE]) (litA (some ⟨w.heap.size, 0, none⟩) 2 (some ⟨w2.heap.size, 0, none⟩) 1)) 30 (0, 0)))) := Lib.hid (HBw2.trans (ha2.2.2.mono HBw2.size))
  have HE := Lib.hid ha2.1
  have HG := Lib.hid ha2.2.1
  have HC3 := Lib.hid (Kd.C_below HC.out ha2.2.2)
  clear ha2 hI HBw2 HB2 HC
  change Code.wp _ _ _ _ ((w2.alloc (.cells (exC eqE A c) 26 (0, 0))).alloc (.cells (blC (litB [0, 1] 2 [eqE]) (litA (some ⟨w.heap.size, 0, none⟩) 2 (some ⟨w2.heap.size, 0, none⟩) 1)) 30 (0, 0)))
  generalize ((w2.alloc (.cells (exC eqE A c) 26 (0, 0))).alloc (.cells (blC (litB [0, 1] 2 [eqE]) (litA (some ⟨w.heap.size, 0, none⟩) 2 (some ⟨w2.heap.size, 0, none⟩) 1)) 30 (0, 0))) = w3 at HI HB3 HE HG HC3 ⊢
  obtain ⟨gb, hgb⟩ : ∃ gb, w2.heap.size + 1 = gb := ⟨_, rfl⟩
  rw [hgb] at HG ⊢
  obtain ⟨eb, heb⟩ : ∃ eb, w2.heap.size = eb := ⟨_, rfl⟩
  rw [heb] at HE HG ⊢
  obtain ⟨ib, hib⟩ : ∃ ib, w.heap.size = ib := ⟨_, rfl⟩
  replace HI : Hid (w3.heap[ib]? = some (.cells (([0, 1] : List Int).map (Value.int .i64)).toArray 3 (0, 0))) := Lib.hid (by rw [← hib]; exact HI.out)
  replace HG : Hid (w3.heap[gb]? = some (.cells (blC (litB [0, 1] 2 [eqE]) (litA (some ⟨ib, 0, none⟩) 2 (some ⟨eb, 0, none⟩) 1)) 30 (0, 0))) := Lib.hid (by rw [← hib]; exact HG.out)
  have HIB := Lib.hid hib
  clear hgb heb hib
  go_upto_region 3 with fail
  have ha3 := alloc3 w3 (.cells #[.int .i64 50, .int .i64 0, .slice none 0 0] 64 (0, 0)) (.cells #[.int .i64 20, .int .i64 0, .slice none 0 0] 64 (0, 0)) (.cells #[.int .i64 100, .slice (some ⟨w3.heap.size, 0, none⟩) 1 1, .int .i64 100, .slice (some ⟨w3.heap.size + 1, 0, none⟩) 1 1] 51 (0, 0))
  have HS := Lib.hid (stat2_C (l1 := [⟨50, 0, []⟩]) (l2 := [⟨20, 0, []⟩]) ha3.2.2.1 (Nat.le_refl _) (Nat.le_refl _) (hist1_C ha3.1) (hist1_C ha3.2.1))
  have hB4 := ha3.2.2.2
  have h2 : w3.heap.size + 1 + 1 = w3.heap.size + 2 := by omega
  rw [h2]
  clear ha3 h2
  generalize ((w3.alloc (.cells #[.int .i64 50, .int .i64 0, .slice none 0 0] 64 (0, 0))).alloc (.cells #[.int .i64 20, .int .i64 0, .slice none 0 0] 64 (0, 0))).alloc (.cells #[.int .i64 100, .slice (some ⟨w3.heap.size, 0, none⟩) 1 1, .int .i64 100, .slice (some ⟨w3.heap.size + 1, 0, none⟩) 1 1] 51 (0, 0)) = w4 at HS hB4 ⊢
  generalize w3.heap.size + 2 = sb at HS ⊢
  have HB4 := Lib.hid (HB3.out.trans (hB4.mono HB3.out.size))
  have HR := Lib.hid (fun (W : World) (hW : Below w3.heap.size w3 W) => BR.later (litR (n := 2) (ints_C [0, 1] HI.out (by decide)) (Nat.le_refl 2) (ex1_C HE.out hc (Kd.C_below HC3.out (Below.refl _ _))) (Nat.le_refl 1)) hW)
  have HG4 := Lib.hid ((hB4.block gb (blk_lt HG.out)).trans HG.out)
  have h1 := est_ok (litB [0, 1] 2 [eqE]) (litA (some ⟨ib, 0, none⟩) 2 (some ⟨eb, 0, none⟩) 1) 3 st0 (some ⟨sb, 0, none⟩) 2 [] none 0 w4 (tab_at HT.out HB4.out) ex_G (HR.out w4 hB4) HS.out (Nat.le_refl 2) (Kd.C_nil _ _) (by decide)
  rw [ex_a] at h1
  have H1 := Lib.hid h1
  have H2 := Lib.hid (fun (W : World) (hW : Below w4.heap.size w4 W) => est_ok (litB [0, 1] 2 [eqE]) (litA (some ⟨ib, 0, none⟩) 2 (some ⟨eb, 0, none⟩) 1) 3 [] none 0 [] none 0 W (tab_at HT.out (HB4.out.trans (hW.mono HB4.out.size))) ex_G (HR.out W (hB4.trans (hW.mono hB4.size))) (Kd.C_nil _ _) (Nat.le_refl 0) (Kd.C_nil _ _) (by decide))
  rw [ex_b] at H2
  clear h1 HS HR HI HE HC3 HB3 HG hB4
  have bx0 : w4.cell? ⟨gb, 0, none⟩ = some (.slice (some ⟨ib, 0, none⟩) 2 2) := (bkC HG4.out 0).trans rfl; have bx1 : w4.cell? ⟨gb, 1, none⟩ = some (.int .i64 2) := (bkC HG4.out 1).trans rfl; have bx2 : w4.cell? ⟨gb, 2, none⟩ = some (.slice none 0 0) := (bkC HG4.out 2).trans rfl; have bx3 : w4.cell? ⟨gb, 3, none⟩ = some (.slice none 0 0) := (bkC HG4.out 3).trans rfl; have bx4 : w4.cell? ⟨gb, 4, none⟩ = some (.slice (some ⟨eb, 0, none⟩) 1 1) := (bkC HG4.out 4).trans rfl; have bx5 : w4.cell? ⟨gb, 5, none⟩ = some (.slice none 0 0) := (bkC HG4.out 5).trans rfl; have bx6 : w4.cell? ⟨gb, 6, none⟩ = some (.slice none 0 0) := (bkC HG4.out 6).trans rfl; have bx7 : w4.cell? ⟨gb, 7, none⟩ = some (.bool false) := (bkC HG4.out 7).trans rfl; have bx8 : w4.cell? ⟨gb, 8, none⟩ = some (.slice none 0 0) := (bkC HG4.out 8).trans rfl; have bx9 : w4.cell? ⟨gb, 9, none⟩ = some (.slice none 0 0) := (bkC HG4.out 9).trans rfl; have bx10 : w4.cell? ⟨gb, 10, none⟩ = some (.bool false) := (bkC HG4.out 10).trans rfl
  go_upto_region 4 with (go_at_call 16; refine H1.out.mono ?_; rintro rr w5 ⟨rfl, hB5⟩; have HB5 := Lib.hid hB5; clear hB5)
  clear bx0 bx1 bx2 bx3 bx4 bx5 bx6 bx7 bx8 bx9 bx10 H1
  have HG5 := Lib.hid ((HB5.out.block gb (blk_lt HG4.out)).trans HG4.out)
  have bx0 : w5.cell? ⟨gb, 0, none⟩ = some (.slice (some ⟨ib, 0, none⟩) 2 2) := (bkC HG5.out 0).trans rfl; have bx1 : w5.cell? ⟨gb, 1, none⟩ = some (.int .i64 2) := (bkC HG5.out 1).trans rfl; have bx2 : w5.cell? ⟨gb, 2, none⟩ = some (.slice none 0 0) := (bkC HG5.out 2).trans rfl; have bx3 : w5.cell? ⟨gb, 3, none⟩ = some (.slice none 0 0) := (bkC HG5.out 3).trans rfl; have bx4 : w5.cell? ⟨gb, 4, none⟩ = some (.slice (some ⟨eb, 0, none⟩) 1 1) := (bkC HG5.out 4).trans rfl; have bx5 : w5.cell? ⟨gb, 5, none⟩ = some (.slice none 0 0) := (bkC HG5.out 5).trans rfl; have bx6 : w5.cell? ⟨gb, 6, none⟩ = some (.slice none 0 0) := (bkC HG5.out 6).trans rfl; have bx7 : w5.cell? ⟨gb, 7, none⟩ = some (.bool false) := (bkC HG5.out 7).trans rfl; have bx8 : w5.cell? ⟨gb, 8, none⟩ = some (.slice none 0 0) := (bkC HG5.out 8).trans rfl; have bx9 : w5.cell? ⟨gb, 9, none⟩ = some (.slice none 0 0) := (bkC HG5.out 9).trans rfl; have bx10 : w5.cell? ⟨gb, 10, none⟩ = some (.bool false) := (bkC HG5.out 10).trans rfl
  have H3 := Lib.hid (H2.out w5 HB5.out)
  clear H2
  go_wp2_with (go_at_call 16; refine H3.out.mono ?_; rintro rr w6 ⟨rfl, hB6⟩; have HB6 := Lib.hid (HB4.out.trans ((HB5.out.trans (hB6.mono HB5.out.size)).mono HB4.out.size)); clear hB6)
  go_ret
  exact ⟨rfl, HB6.out⟩
end Go.Proofs.YtoffpegppdmkdaaGreatDoor.E
namespace Go.Proofs.YtoffpegppdmkdaaGreatDoor.E
open Go.RowKit Go.Proofs.YtoffpegppdmkdaaGreatDoorW.PrintWords Go.Proofs.YtoffpegppdmkdaaGreatDoorW.PrintLast Go.Proofs.YtoffpegppdmkdaaGreatDoorW.PrintMore
attribute [local go_sem] max2_int min2_int max_two min_two max_three min_three max_four min_four
set_option linter.unusedVariables false
set_option linter.unusedSimpArgs false
theorem BR.cut {b : Bl} {a : BA} {w : World} (h : BR b a w) (m : Nat) : BR (withC b (b.f4.take m)) a w := by
  refine ⟨h.r0, h.l0, h.r2, h.l2, h.r3, h.l3, ?_, ?_, h.r5, h.l5, h.r6, h.l6, h.r8, h.l8, h.r9, h.l9⟩
  · show Kd.C KX w a.A4 (b.f4.take m).length (b.f4.take m)
    rcases Nat.le_total m b.f4.length with hm | hm
    · exact Kd.C_take h.r4 hm
    · rw [List.take_of_length_le hm]; exact h.r4
  · show (b.f4.take m).length ≤ a.c4
    rw [List.length_take]; have := h.l4; omega
def noC (a : BA) : BA := ⟨a.A0, a.A2, a.A3, none, a.A5, a.A6, a.A8, a.A9, a.c0, a.c2, a.c3, 0, a.c5, a.c6, a.c8, a.c9⟩
theorem BR.nil {b : Bl} {a : BA} {w : World} (h : BR b a w) : BR (withC b []) (noC a) w := ⟨h.r0, h.l0, h.r2, h.l2, h.r3, h.l3, Kd.C_nil _ _, Nat.le_refl _, h.r5, h.l5, h.r6, h.l6, h.r8, h.l8, h.r9, h.l9⟩
theorem ofG.take {b : Bl} {m : Int} (h : ofG b.f0 m b.f4) (k : Nat) : ofG (withC b (b.f4.take k)).f0 m (withC b (b.f4.take k)).f4 := ⟨⟨fun x hx => h.1.1 x (List.mem_of_mem_take hx), by show (b.f4.take k).length ≤ _; rw [List.length_take]; have := h.1.2; omega⟩, h.2⟩
theorem ofG.none {b : Bl} {m : Int} (h : ofG b.f0 m b.f4) : ofG (withC b []).f0 m (withC b []).f4 := ⟨⟨fun x hx => (by cases hx), Nat.zero_le _⟩, h.2⟩
theorem known3_C {w : World} {g : Nat} {s t u : ByteArray} {n m k : Int} (h : w.heap[g]? = some (.cells #[.string s, .int .i64 n, .string t, .int .i64 m, .string u, .int .i64 k] 45 (0, 0))) : Kd.C k45 w (some ⟨g, 0, none⟩) 3 [⟨s, n⟩, ⟨t, m⟩, ⟨u, k⟩] := by
  refine ⟨rfl, by simp, fun _ => ⟨_, rfl, ?_⟩⟩
  intro j p hp
  match j, hp with
  | 0, hp =>
    obtain rfl := Option.some.inj hp
    refine ⟨_, rfl, k45_mk w _, ?_⟩
    intro i u hu
    have hi : i < 2 := by
      have := (List.getElem?_eq_some_iff.1 hu).1; simpa using this
    obtain rfl | rfl : i = 0 ∨ i = 1 := by omega
    all_goals (have hu' := Option.some.inj hu; subst hu'; rw [add_plain])
    · exact (bkC h 0).trans rfl
    · exact (bkC h 1).trans rfl
  | 1, hp =>
    obtain rfl := Option.some.inj hp
    refine ⟨_, rfl, k45_mk w _, ?_⟩
    intro i u hu
    have hi : i < 2 := by
      have := (List.getElem?_eq_some_iff.1 hu).1; simpa using this
    obtain rfl | rfl : i = 0 ∨ i = 1 := by omega
    all_goals (have hu' := Option.some.inj hu; subst hu'; rw [add_plain])
    · exact (bkC h 2).trans rfl
    · exact (bkC h 3).trans rfl
  | 2, hp =>
    obtain rfl := Option.some.inj hp
    refine ⟨_, rfl, k45_mk w _, ?_⟩
    intro i u hu
    have hi : i < 2 := by
      have := (List.getElem?_eq_some_iff.1 hu).1; simpa using this
    obtain rfl | rfl : i = 0 ∨ i = 1 := by omega
    all_goals (have hu' := Option.some.inj hu; subst hu'; rw [add_plain])
    · exact (bkC h 4).trans rfl
    · exact (bkC h 5).trans rfl
set_option maxHeartbeats 8000000 in
set_option maxRecDepth 100000 in
theorem known_ok2 (b : Bl) (a : BA) (m o : Int) (st : List Sta) (A1 : Option Addr) (c1 : Nat) (many more : Int) (w : World) (hT : TabW w) (hb : BR b a w) (hG : ofG (b.f0) m (b.f4.take 12)) (hO : ofG (b.f0) o (b.f4.take 12)) (hS : Kd.C k51 w A1 st.length st) (hc1 : st.length ≤ c1) :
    Calls Tryz.prog 5 #[.agg (blC b a), .int .i64 m, .int .i64 o, .slice A1 st.length c1, .int .i64 many, .int .i64 more] w fun r w' => r = .returned (.bool true) ∧ Below w.heap.size w w' := by
  have HE := Lib.hid (fun (W : World) (hW : Below w.heap.size w W) (b2 : Bl) (a2 : BA) (q : Int) (kn : List Kn) (A3 : Option Addr) (c3 : Nat) (h1 : BR b2 a2 W) (h2 : ofG b2.f0 q b2.f4) (h3 : Kd.C k45 W A3 kn.length kn) (h4 : kn.length ≤ 4611686018427387904) => est_ok b2 a2 q st A1 c1 kn A3 c3 W (tab_at hT hW) h2 h1 (Kd.C_below hS hW) hc1 h3 h4)
  have HF := Lib.hid (fun (W : World) (hW : Below w.heap.size w W) (b2 : Bl) (a2 : BA) (q : Int) (h1 : BR b2 a2 W) (h2 : ofG b2.f0 q b2.f4) => of_ok2 b2 a2 q W (tab_at hT hW) h2 h1)
  have HGG := Lib.hid hG
  have HOO := Lib.hid hO
  obtain ⟨n1, hn1⟩ : ∃ n1, st.length = n1 := ⟨_, rfl⟩
  rw [hn1] at HE ⊢
  clear hS hc1 hn1 hG hO
  have HT := Lib.hid hT
  have HBR0 := Lib.hid (hb.cut 12)
  have HEX := Lib.hid (examples_ok w hT)
  obtain ⟨n, hn⟩ : ∃ n, b.f4.length = n := ⟨_, rfl⟩
  obtain ⟨k, hk⟩ : ∃ k, (b.f4.take 12).length = k := ⟨_, rfl⟩
  have hkn : k = min 12 n := by rw [← hk, List.length_take, hn]
  have hk_ : (if (12 : Int) < (n : Int) then (12 : Int) else (n : Int)) = (k : Int) := by split <;> omega
  have hk0 : (0 : Int) ≤ (k : Int) := by omega
  have hkc : (k : Int) ≤ (a.c4 : Int) := by have h := hb.l4; rw [hn] at h; omega
  have hk2 : k ≤ a.c4 := by omega
  obtain ⟨bc, hbc⟩ : ∃ bc, withC b (b.f4.take 12) = bc := ⟨_, rfl⟩
  have HCE : Hid ((blC b a).setIfInBounds 4 (.slice a.A4 k a.c4) = blC bc a) := Lib.hid (by rw [← hbc, ← hk]; rfl)
  rw [hbc] at HBR0
  have HBC := Lib.hid hbc
  clear hb hkn hk hbc hT
  unfold blC
  rw [hn]
  clear hn
  go_enter Tryz.func5, Tryz.ntmps5
  go_upto_region 1 with (first | ((with_reducible refine gate_dst (N := 6) rfl ?_); refine box_event rfl (N := 6) rfl (cs := #[.slice a.A0 b.f0.length a.c0, .int .i64 b.f1, .slice a.A2 b.f2.length a.c2, .slice a.A3 b.f3.length a.c3, .slice a.A4 n a.c4, .slice a.A5 b.f5.length a.c5, .slice a.A6 b.f6.length a.c6, .bool b.f7, .slice a.A8 b.f8.length a.c8, .slice a.A9 b.f9.length a.c9, .bool b.f10]) (t := 30) (by first | rfl | (go_simp; done) | (go_simp; rfl)) ?_; intro g3 hgg w1 hbg3 hBg3;  have hg3w : w.heap.size ≤ g3 := (by omega); have HG := Lib.hid hbg3; have HB1 := Lib.hid hBg3; clear hgg hbg3 hBg3))
  go_upto_region 2 with (go_at_call 10; refine (examples_ok w1 (tab_at HT.out HB1.out)).mono ?_; rintro rr w2 ⟨rfl, hB2⟩; have HB2 := Lib.hid hB2; clear hB2)
  replace HG := Lib.hid ((HB2.out.block g3 (blk_lt HG.out)).trans HG.out)
  have HB02 : Hid (Below w.heap.size w w2) := Lib.hid (HB1.out.trans (HB2.out.mono HB1.out.size))
  have z4 : w2.cell? ⟨g3, 4, none⟩ = some (.slice a.A4 n a.c4) := (bkC HG.out 4).trans rfl
  have f4 := bkF HG.out 4
  clear HB1 HB2 HEX
  go_upto_region 3 with fail
  have HG3 : Hid ((w2.setCell ⟨g3, 4, none⟩ (.slice a.A4 k a.c4)).heap[g3]? = some (.cells (blC bc a) 30 (0, 0))) := Lib.hid (by have h := blk_set HG.out 4 (.slice a.A4 k a.c4); rw [← HCE.out]; exact h)
  have HB3 : Hid (Below w.heap.size w (w2.setCell ⟨g3, 4, none⟩ (.slice a.A4 k a.c4))) := Lib.hid (HB02.out.setCell (p := ⟨g3, 4, none⟩) hg3w _)
  generalize w2.setCell ⟨g3, 4, none⟩ (.slice a.A4 k a.c4) = w3 at HG3 HB3 ⊢
  clear z4 f4 HG HB02 hk_ hk0 hkc hk2 HCE
  have HBR := Lib.hid (fun (W : World) (hW : Below w.heap.size w W) => HBR0.out.later hW)
  have HGc : Hid (ofG bc.f0 m bc.f4) := Lib.hid (by rw [← HBC.out]; exact HGG.out)
  have HOc : Hid (ofG bc.f0 o bc.f4) := Lib.hid (by rw [← HBC.out]; exact HOO.out)
  clear HGG HOO HBC
  obtain ⟨s, e, hs⟩ : ∃ s e, ofRes bc.f0 bc.f1 m bc.f4 = (s, e) := ⟨_, _, rfl⟩
  obtain ⟨t, f, ht⟩ : ∃ t f, ofRes bc.f0 bc.f1 o bc.f4 = (t, f) := ⟨_, _, rfl⟩
  have hF1 := HF.out w3 HB3.out bc a m (HBR.out w3 HB3.out) HGc.out
  rw [hs] at hF1
  have HF1 := Lib.hid hF1
  have HF2 := Lib.hid (fun (W : World) (hW : Below w.heap.size w W) => HF.out W hW bc a o (HBR.out W hW) HOc.out)
  rw [ht] at HF2
  have HSO := Lib.hid hs; have HTO := Lib.hid ht
  clear hF1 HF hs ht
  have bx0 : w3.cell? ⟨g3, 0, none⟩ = some (.slice a.A0 bc.f0.length a.c0) := (bkC HG3.out 0).trans rfl; have bx1 : w3.cell? ⟨g3, 1, none⟩ = some (.int .i64 bc.f1) := (bkC HG3.out 1).trans rfl; have bx2 : w3.cell? ⟨g3, 2, none⟩ = some (.slice a.A2 bc.f2.length a.c2) := (bkC HG3.out 2).trans rfl; have bx3 : w3.cell? ⟨g3, 3, none⟩ = some (.slice a.A3 bc.f3.length a.c3) := (bkC HG3.out 3).trans rfl; have bx4 : w3.cell? ⟨g3, 4, none⟩ = some (.slice a.A4 bc.f4.length a.c4) := (bkC HG3.out 4).trans rfl; have bx5 : w3.cell? ⟨g3, 5, none⟩ = some (.slice a.A5 bc.f5.length a.c5) := (bkC HG3.out 5).trans rfl; have bx6 : w3.cell? ⟨g3, 6, none⟩ = some (.slice a.A6 bc.f6.length a.c6) := (bkC HG3.out 6).trans rfl; have bx7 : w3.cell? ⟨g3, 7, none⟩ = some (.bool bc.f7) := (bkC HG3.out 7).trans rfl; have bx8 : w3.cell? ⟨g3, 8, none⟩ = some (.slice a.A8 bc.f8.length a.c8) := (bkC HG3.out 8).trans rfl; have bx9 : w3.cell? ⟨g3, 9, none⟩ = some (.slice a.A9 bc.f9.length a.c9) := (bkC HG3.out 9).trans rfl; have bx10 : w3.cell? ⟨g3, 10, none⟩ = some (.bool bc.f10) := (bkC HG3.out 10).trans rfl
  go_upto_region 4 with (go_at_call 17; refine HF1.out.mono ?_; rintro rr w4 ⟨rfl, hB4⟩; have HB4 := Lib.hid hB4; clear hB4)
  clear bx0 bx1 bx2 bx3 bx4 bx5 bx6 bx7 bx8 bx9 bx10 HF1
  have HG4 := Lib.hid ((HB4.out.block g3 (blk_lt HG3.out)).trans HG3.out)
  replace HB4 : Hid (Below w.heap.size w w4) := Lib.hid (HB3.out.trans (HB4.out.mono HB3.out.size))
  have HF3 := Lib.hid (HF2.out w4 HB4.out)
  clear HG3 HB3 HF2
  have bx0 : w4.cell? ⟨g3, 0, none⟩ = some (.slice a.A0 bc.f0.length a.c0) := (bkC HG4.out 0).trans rfl; have bx1 : w4.cell? ⟨g3, 1, none⟩ = some (.int .i64 bc.f1) := (bkC HG4.out 1).trans rfl; have bx2 : w4.cell? ⟨g3, 2, none⟩ = some (.slice a.A2 bc.f2.length a.c2) := (bkC HG4.out 2).trans rfl; have bx3 : w4.cell? ⟨g3, 3, none⟩ = some (.slice a.A3 bc.f3.length a.c3) := (bkC HG4.out 3).trans rfl; have bx4 : w4.cell? ⟨g3, 4, none⟩ = some (.slice a.A4 bc.f4.length a.c4) := (bkC HG4.out 4).trans rfl; have bx5 : w4.cell? ⟨g3, 5, none⟩ = some (.slice a.A5 bc.f5.length a.c5) := (bkC HG4.out 5).trans rfl; have bx6 : w4.cell? ⟨g3, 6, none⟩ = some (.slice a.A6 bc.f6.length a.c6) := (bkC HG4.out 6).trans rfl; have bx7 : w4.cell? ⟨g3, 7, none⟩ = some (.bool bc.f7) := (bkC HG4.out 7).trans rfl; have bx8 : w4.cell? ⟨g3, 8, none⟩ = some (.slice a.A8 bc.f8.length a.c8) := (bkC HG4.out 8).trans rfl; have bx9 : w4.cell? ⟨g3, 9, none⟩ = some (.slice a.A9 bc.f9.length a.c9) := (bkC HG4.out 9).trans rfl; have bx10 : w4.cell? ⟨g3, 10, none⟩ = some (.bool bc.f10) := (bkC HG4.out 10).trans rfl
  go_upto_region 5 with (go_at_call 17; refine HF3.out.mono ?_; rintro rr w5 ⟨rfl, hB5⟩; have HB5 := Lib.hid hB5; clear hB5)
  clear bx0 bx1 bx2 bx3 bx4 bx5 bx6 bx7 bx8 bx9 bx10 HF3
  have HG5 := Lib.hid ((HB5.out.block g3 (blk_lt HG4.out)).trans HG4.out)
  replace HB5 : Hid (Below w.heap.size w w5) := Lib.hid (HB4.out.trans (HB5.out.mono HB4.out.size))
  clear HG4 HB4
  by_cases he : e = 0
  · subst he
    by_cases hf : f = 0
    · subst hf
      have hk1 := known_at bc m st s s many more HSO.out
      rw [if_pos rfl] at hk1
      have hk2 := known_at bc o st s t many more HTO.out
      obtain ⟨c, hc⟩ : ∃ c, (estF bc o st []).1 = c := ⟨_, rfl⟩
      have hk3 : estF bc o st [] = (c, 0) := by rw [← hc, ← known_ok_ bc o st t HTO.out]
      rw [hc] at hk2
      have hE1 := fun (W : World) (hW : Below w.heap.size w W) (A3 : Option Addr) (h3 : Kd.C k45 W A3 3 [⟨s, more⟩, ⟨⟨#[63]⟩, 3⟩, ⟨s, many⟩]) => HE.out W hW bc a m [⟨s, more⟩, ⟨⟨#[63]⟩, 3⟩, ⟨s, many⟩] A3 3 (HBR.out W hW) HGc.out h3 (by simp)
      have hE2 := fun (W : World) (hW : Below w.heap.size w W) (A3 : Option Addr) (h3 : Kd.C k45 W A3 3 [⟨s, more⟩, ⟨⟨#[63]⟩, 3⟩, ⟨s, many⟩]) => HE.out W hW bc a o [⟨s, more⟩, ⟨⟨#[63]⟩, 3⟩, ⟨s, many⟩] A3 3 (HBR.out W hW) HOc.out h3 (by simp)
      have hE3 := fun (W : World) (hW : Below w.heap.size w W) => HE.out W hW bc a o [] none 0 (HBR.out W hW) HOc.out (Kd.C_nil _ _) (by decide)
      rw [hk1] at hE1; rw [hk2] at hE2; rw [hk3] at hE3
      have HE1 := Lib.hid hE1; have HE2 := Lib.hid hE2; have HE3 := Lib.hid hE3
      clear hk1 hk2 hk3 hc hE1 hE2 hE3 HE HBR HBR0 HGc HOc HSO HTO
      obtain ⟨j1, hj1⟩ : ∃ j, mx many 0 = j := ⟨_, rfl⟩
      have hj2 : mn j1 1000000000000 = clipI many := by rw [← hj1]; rfl
      have hj1_ : (if many < 0 then 0 else many) = j1 := hj1
      obtain ⟨j2, hj3⟩ : ∃ j, clipI many = j := ⟨_, rfl⟩
      have hj2_ : (if 1000000000000 < j1 then 1000000000000 else j1) = j2 := hj2.trans hj3
      rw [hj3] at HE1 HE2
      obtain ⟨av, hav⟩ : ∃ av, (if s.toList = t.toList then j2 else c) = av := ⟨_, rfl⟩
      rw [hav] at HE2
      have HAV := Lib.hid hav
      clear hj1 hj2 hj3 hav
      go_upto_region 8 with fail
      have hkb := heap_alloc_new w5 (.cells #[.string s, .int .i64 more, .string ⟨#[63]⟩, .int .i64 3, .string s, .int .i64 many] 45 (0, 0))
      have hB6 : Below w5.heap.size w5 (w5.alloc (.cells #[.string s, .int .i64 more, .string ⟨#[63]⟩, .int .i64 3, .string s, .int .i64 many] 45 (0, 0))) := blA (Below.refl _ _) _
      generalize w5.alloc (.cells #[.string s, .int .i64 more, .string ⟨#[63]⟩, .int .i64 3, .string s, .int .i64 many] 45 (0, 0)) = w6 at hkb hB6 ⊢
      have HG6 := Lib.hid ((hB6.block g3 (blk_lt HG5.out)).trans HG5.out)
      have HB6 : Hid (Below w.heap.size w w6) := Lib.hid (HB5.out.trans (hB6.mono HB5.out.size))
      obtain ⟨kb, hkbs⟩ : ∃ kb, w5.heap.size = kb := ⟨_, rfl⟩
      rw [hkbs] at hkb ⊢
      have HC6 := Lib.hid (known3_C hkb)
      clear hkb hB6 hkbs HG5 HB5
      have HX1 := Lib.hid (HE1.out w6 HB6.out _ HC6.out)
      have bx0 : w6.cell? ⟨g3, 0, none⟩ = some (.slice a.A0 bc.f0.length a.c0) := (bkC HG6.out 0).trans rfl; have bx1 : w6.cell? ⟨g3, 1, none⟩ = some (.int .i64 bc.f1) := (bkC HG6.out 1).trans rfl; have bx2 : w6.cell? ⟨g3, 2, none⟩ = some (.slice a.A2 bc.f2.length a.c2) := (bkC HG6.out 2).trans rfl; have bx3 : w6.cell? ⟨g3, 3, none⟩ = some (.slice a.A3 bc.f3.length a.c3) := (bkC HG6.out 3).trans rfl; have bx4 : w6.cell? ⟨g3, 4, none⟩ = some (.slice a.A4 bc.f4.length a.c4) := (bkC HG6.out 4).trans rfl; have bx5 : w6.cell? ⟨g3, 5, none⟩ = some (.slice a.A5 bc.f5.length a.c5) := (bkC HG6.out 5).trans rfl; have bx6 : w6.cell? ⟨g3, 6, none⟩ = some (.slice a.A6 bc.f6.length a.c6) := (bkC HG6.out 6).trans rfl; have bx7 : w6.cell? ⟨g3, 7, none⟩ = some (.bool bc.f7) := (bkC HG6.out 7).trans rfl; have bx8 : w6.cell? ⟨g3, 8, none⟩ = some (.slice a.A8 bc.f8.length a.c8) := (bkC HG6.out 8).trans rfl; have bx9 : w6.cell? ⟨g3, 9, none⟩ = some (.slice a.A9 bc.f9.length a.c9) := (bkC HG6.out 9).trans rfl; have bx10 : w6.cell? ⟨g3, 10, none⟩ = some (.bool bc.f10) := (bkC HG6.out 10).trans rfl
      unfold blC at HX1
      go_upto_region 9 with (go_at_call 16; refine HX1.out.mono ?_; rintro rr w7 ⟨rfl, hB7⟩; have HB7 := Lib.hid hB7; clear hB7)
      clear bx0 bx1 bx2 bx3 bx4 bx5 bx6 bx7 bx8 bx9 bx10 HX1 HE1
      have HG7 := Lib.hid ((HB7.out.block g3 (blk_lt HG6.out)).trans HG6.out)
      have HC7 := Lib.hid (Kd.C_below HC6.out HB7.out)
      replace HB7 : Hid (Below w.heap.size w w7) := Lib.hid (HB6.out.trans (HB7.out.mono HB6.out.size))
      have HX2 := Lib.hid (HE2.out w7 HB7.out _ HC7.out)
      clear HG6 HB6 HC6 HC7 HE2
      have bx0 : w7.cell? ⟨g3, 0, none⟩ = some (.slice a.A0 bc.f0.length a.c0) := (bkC HG7.out 0).trans rfl; have bx1 : w7.cell? ⟨g3, 1, none⟩ = some (.int .i64 bc.f1) := (bkC HG7.out 1).trans rfl; have bx2 : w7.cell? ⟨g3, 2, none⟩ = some (.slice a.A2 bc.f2.length a.c2) := (bkC HG7.out 2).trans rfl; have bx3 : w7.cell? ⟨g3, 3, none⟩ = some (.slice a.A3 bc.f3.length a.c3) := (bkC HG7.out 3).trans rfl; have bx4 : w7.cell? ⟨g3, 4, none⟩ = some (.slice a.A4 bc.f4.length a.c4) := (bkC HG7.out 4).trans rfl; have bx5 : w7.cell? ⟨g3, 5, none⟩ = some (.slice a.A5 bc.f5.length a.c5) := (bkC HG7.out 5).trans rfl; have bx6 : w7.cell? ⟨g3, 6, none⟩ = some (.slice a.A6 bc.f6.length a.c6) := (bkC HG7.out 6).trans rfl; have bx7 : w7.cell? ⟨g3, 7, none⟩ = some (.bool bc.f7) := (bkC HG7.out 7).trans rfl; have bx8 : w7.cell? ⟨g3, 8, none⟩ = some (.slice a.A8 bc.f8.length a.c8) := (bkC HG7.out 8).trans rfl; have bx9 : w7.cell? ⟨g3, 9, none⟩ = some (.slice a.A9 bc.f9.length a.c9) := (bkC HG7.out 9).trans rfl; have bx10 : w7.cell? ⟨g3, 10, none⟩ = some (.bool bc.f10) := (bkC HG7.out 10).trans rfl
      unfold blC at HX2
      go_upto_region 10 with (go_at_call 16; refine HX2.out.mono ?_; rintro rr w8 ⟨rfl, hB8⟩; have HB8 := Lib.hid hB8; clear hB8)
      clear bx0 bx1 bx2 bx3 bx4 bx5 bx6 bx7 bx8 bx9 bx10 HX2
      have HG8 := Lib.hid ((HB8.out.block g3 (blk_lt HG7.out)).trans HG7.out)
      replace HB8 : Hid (Below w.heap.size w w8) := Lib.hid (HB7.out.trans (HB8.out.mono HB7.out.size))
      have HX3 := Lib.hid (HE3.out w8 HB8.out)
      clear HG7 HB7 HE3
      have bx0 : w8.cell? ⟨g3, 0, none⟩ = some (.slice a.A0 bc.f0.length a.c0) := (bkC HG8.out 0).trans rfl; have bx1 : w8.cell? ⟨g3, 1, none⟩ = some (.int .i64 bc.f1) := (bkC HG8.out 1).trans rfl; have bx2 : w8.cell? ⟨g3, 2, none⟩ = some (.slice a.A2 bc.f2.length a.c2) := (bkC HG8.out 2).trans rfl; have bx3 : w8.cell? ⟨g3, 3, none⟩ = some (.slice a.A3 bc.f3.length a.c3) := (bkC HG8.out 3).trans rfl; have bx4 : w8.cell? ⟨g3, 4, none⟩ = some (.slice a.A4 bc.f4.length a.c4) := (bkC HG8.out 4).trans rfl; have bx5 : w8.cell? ⟨g3, 5, none⟩ = some (.slice a.A5 bc.f5.length a.c5) := (bkC HG8.out 5).trans rfl; have bx6 : w8.cell? ⟨g3, 6, none⟩ = some (.slice a.A6 bc.f6.length a.c6) := (bkC HG8.out 6).trans rfl; have bx7 : w8.cell? ⟨g3, 7, none⟩ = some (.bool bc.f7) := (bkC HG8.out 7).trans rfl; have bx8 : w8.cell? ⟨g3, 8, none⟩ = some (.slice a.A8 bc.f8.length a.c8) := (bkC HG8.out 8).trans rfl; have bx9 : w8.cell? ⟨g3, 9, none⟩ = some (.slice a.A9 bc.f9.length a.c9) := (bkC HG8.out 9).trans rfl; have bx10 : w8.cell? ⟨g3, 10, none⟩ = some (.bool bc.f10) := (bkC HG8.out 10).trans rfl
      unfold blC at HX3
      go_upto_region 11 with (go_at_call 16; refine HX3.out.mono ?_; rintro rr w9 ⟨rfl, hB9⟩; have HB9 := Lib.hid (HB8.out.trans (hB9.mono HB8.out.size)); clear hB9)
      clear bx0 bx1 bx2 bx3 bx4 bx5 bx6 bx7 bx8 bx9 bx10 HX3 HG8 HB8
      cases hst : (s.toList == t.toList) with
      | true =>
        obtain rfl : j2 = av := (if_pos (beq_iff_eq.mp hst)).symm.trans HAV.out
        have hne : (s.toList != t.toList) = false := by rw [bne, hst]; rfl
        go_wp2_with fail
        go_ret
        exact ⟨rfl, HB9.out⟩
      | false =>
        obtain rfl : c = av := (if_neg (fun h => by rw [beq_iff_eq.mpr h] at hst; cases hst)).symm.trans HAV.out
        have hne : (s.toList != t.toList) = true := by rw [bne, hst]; rfl
        go_wp2_with fail
        go_ret
        exact ⟨rfl, HB9.out⟩
    · have hb0 : (f != 0) = true := bne_iff_ne.mpr hf
      clear hf
      go_wp2_with fail
      go_ret
      exact ⟨rfl, HB5.out⟩
  · have hb0 : (e != 0) = true := bne_iff_ne.mpr he
    clear he
    go_wp2_with fail
    go_ret
    exact ⟨rfl, HB5.out⟩
def allL (b : Bl) (st : List Sta) (kn : List Kn) : Nat → List Int
  | 0 => []
  | n + 1 => allL b st kn n ++ [if n = 0 then 0 else (estF b (n : Int) st kn).1]
theorem allL_len (b : Bl) (st : List Sta) (kn : List Kn) : ∀ n, (allL b st kn n).length = n
  | 0 => rfl
  | n + 1 => by rw [allL, List.length_append, allL_len b st kn n]; rfl
theorem allL_set (b : Bl) (st : List Sta) (kn : List Kn) (i d : Nat) (h0 : i ≠ 0) : (allL b st kn i ++ List.replicate (d + 1) 0).set i (estF b (i : Int) st kn).1 = allL b st kn (i + 1) ++ List.replicate d 0 := by
  rw [List.set_append, if_neg (by rw [allL_len]; omega), allL_len, Nat.sub_self, List.replicate_succ, List.set_cons_zero, allL, if_neg h0, List.append_assoc]; rfl
structure AInv (w : World) (b : Bl) (a : BA) (g3 R cR K : Nat) (l : List Int) (wr : World) : Prop where
  below : Below w.heap.size w wr
  bg : wr.heap[g3]? = some (.cells (blC b a) 30 (0, 0))
  rk : Kd.R (Kd.int .i64) 3 wr w.heap.size (fun q => q = R) (.slice (some ⟨R, 0, none⟩) K cR) l
theorem AInv.later {w : World} {b : Bl} {a : BA} {g3 R cR K : Nat} {l : List Int} {wr w2 : World} (h : AInv w b a g3 R cR K l wr) (hb : Below wr.heap.size wr w2) : AInv w b a g3 R cR K l w2 :=
  ⟨h.below.trans (hb.mono h.below.size), (hb.block g3 (blk_lt h.bg)).trans h.bg, Kd.R_below h.rk hb⟩
theorem AInv.put {w : World} {b : Bl} {a : BA} {g3 R cR K : Nat} {l : List Int} {wr : World} (h : AInv w b a g3 R cR K l wr) (i : Nat) (x : Int) : AInv w b a g3 R cR K (l.set i x) (wr.setCell ⟨R, i, none⟩ (.int .i64 x)) := by
  obtain ⟨c, hR⟩ := Kd.R_typed h.rk R rfl
  have hgR : g3 ≠ R := by intro e; subst e; rw [h.bg] at hR; simp at hR
  have hRw : w.heap.size ≤ R := Kd.R_base h.rk R rfl
  have hput := Kd.R_putn h.rk (i : Int) x
  rw [show ((i : Int)).toNat = i by omega] at hput
  exact ⟨h.below.setCell (p := ⟨R, i, none⟩) hRw _, blk_far h.bg hgR _, hput⟩
set_option maxHeartbeats 8000000 in
set_option maxRecDepth 100000 in
theorem all_ok (b : Bl) (a : BA) (st : List Sta) (A1 : Option Addr) (c1 : Nat) (kn : List Kn) (A3 : Option Addr) (c3 : Nat) (w : World) (hT : TabW w) (hG : ∀ q : Int, q ≤ 16 → ofG b.f0 q b.f4) (hb : BR b a w) (hS : Kd.C k51 w A1 st.length st) (hc1 : st.length ≤ c1) (hK : Kd.C k45 w A3 kn.length kn) (hkn : kn.length ≤ 4611686018427387904) :
    Calls Tryz.prog 20 #[.agg (blC b a), .slice A1 st.length c1, .slice A3 kn.length c3] w fun r w' => ∃ v, r = .returned (.tuple #[v, .int .i64 (ofRes b.f0 b.f1 1 b.f4).2]) ∧ Kd.R (Kd.int .i64) 3 w' w.heap.size (fun _ => True) v (if (ofRes b.f0 b.f1 1 b.f4).2 = 0 then allL b st kn (2 ^ b.f1.toNat) else []) ∧ Below w.heap.size w w' := by
  have HE := Lib.hid (fun (W : World) (hW : Below w.heap.size w W) (q : Int) (hq : q ≤ 16) => est_ok b a q st A1 c1 kn A3 c3 W (tab_at hT hW) (hG q hq) (hb.later hW) (Kd.C_below hS hW) hc1 (Kd.C_below hK hW) hkn)
  have HF := Lib.hid (fun (W : World) (hW : Below w.heap.size w W) => of_ok2 b a 1 W (tab_at hT hW) (hG 1 (by decide)) (hb.later hW))
  obtain ⟨s, e, hs⟩ : ∃ s e, ofRes b.f0 b.f1 1 b.f4 = (s, e) := ⟨_, _, rfl⟩
  rw [hs] at HF ⊢
  have HSO := Lib.hid hs
  dsimp only at HF ⊢
  obtain ⟨n1, hn1⟩ : ∃ n1, st.length = n1 := ⟨_, rfl⟩
  rw [hn1] at HE ⊢
  obtain ⟨nk, hnk⟩ : ∃ nk, kn.length = nk := ⟨_, rfl⟩
  rw [hnk] at HE ⊢
  obtain ⟨LL, hLL⟩ : ∃ LL, (if e = 0 then allL b st kn (2 ^ b.f1.toNat) else []) = LL := ⟨_, rfl⟩
  rw [hLL]
  have HLL := Lib.hid hLL
  clear hT hG hb hS hc1 hK hkn hs hn1 hnk hLL
  unfold blC at HE
  unfold blC
  go_enter Tryz.func20, Tryz.ntmps20
  go_upto_region 1 with (first | ((with_reducible refine gate_dst (N := 3) rfl ?_); refine box_event rfl (N := 3) rfl (cs := blC b a) (t := 30) (by first | rfl | (go_simp; done) | (go_simp; rfl)) ?_; intro g3 hgg w1 hbg3 hBg3;  have hg3w : w.heap.size ≤ g3 := (by omega); have HG := Lib.hid hbg3; have HB1 := Lib.hid hBg3; clear hgg hbg3 hBg3))
  have HF1 := Lib.hid (HF.out w1 HB1.out)
  clear HF
  have bx0 : w1.cell? ⟨g3, 0, none⟩ = some (.slice a.A0 b.f0.length a.c0) := (bkC HG.out 0).trans rfl; have bx1 : w1.cell? ⟨g3, 1, none⟩ = some (.int .i64 b.f1) := (bkC HG.out 1).trans rfl; have bx2 : w1.cell? ⟨g3, 2, none⟩ = some (.slice a.A2 b.f2.length a.c2) := (bkC HG.out 2).trans rfl; have bx3 : w1.cell? ⟨g3, 3, none⟩ = some (.slice a.A3 b.f3.length a.c3) := (bkC HG.out 3).trans rfl; have bx4 : w1.cell? ⟨g3, 4, none⟩ = some (.slice a.A4 b.f4.length a.c4) := (bkC HG.out 4).trans rfl; have bx5 : w1.cell? ⟨g3, 5, none⟩ = some (.slice a.A5 b.f5.length a.c5) := (bkC HG.out 5).trans rfl; have bx6 : w1.cell? ⟨g3, 6, none⟩ = some (.slice a.A6 b.f6.length a.c6) := (bkC HG.out 6).trans rfl; have bx7 : w1.cell? ⟨g3, 7, none⟩ = some (.bool b.f7) := (bkC HG.out 7).trans rfl; have bx8 : w1.cell? ⟨g3, 8, none⟩ = some (.slice a.A8 b.f8.length a.c8) := (bkC HG.out 8).trans rfl; have bx9 : w1.cell? ⟨g3, 9, none⟩ = some (.slice a.A9 b.f9.length a.c9) := (bkC HG.out 9).trans rfl; have bx10 : w1.cell? ⟨g3, 10, none⟩ = some (.bool b.f10) := (bkC HG.out 10).trans rfl
  go_upto_region 2 with (go_at_call 17; refine HF1.out.mono ?_; rintro rr w2 ⟨rfl, hB2⟩; have HB2 := Lib.hid hB2; clear hB2)
  clear bx0 bx1 bx2 bx3 bx4 bx5 bx6 bx7 bx8 bx9 bx10 HF1
  have HG2 := Lib.hid ((HB2.out.block g3 (blk_lt HG.out)).trans HG.out)
  replace HB2 : Hid (Below w.heap.size w w2) := Lib.hid (HB1.out.trans (HB2.out.mono HB1.out.size))
  clear HG HB1
  by_cases he : e = 0
  · subst he
    have hno : ¬ offP b.f1 b.f0.length 1 := by
      intro h
      have h2 := HSO.out
      unfold ofRes at h2
      rw [if_pos (.inl h)] at h2
      cases (Prod.mk.inj h2).2
    have hn14 : 1 ≤ b.f1 ∧ b.f1 ≤ 4 := by unfold offP at hno; omega
    obtain ⟨N, hN⟩ : ∃ N, b.f1 = N := ⟨_, rfl⟩
    rw [hN] at hn14
    obtain ⟨K, hK⟩ : ∃ K : Nat, 2 ^ N.toNat = K := ⟨_, rfl⟩
    have hsh : wrap64 (2 ^ N.toNat) = (K : Int) := by
      have h4 : N = 1 ∨ N = 2 ∨ N = 3 ∨ N = 4 := by omega
      rcases h4 with rfl | rfl | rfl | rfl <;> (subst hK; rw [wrap64_of (by decide) (by decide)]; decide)
    have hK16 : 1 ≤ K ∧ K ≤ 16 := by
      have h4 : N = 1 ∨ N = 2 ∨ N = 3 ∨ N = 4 := by omega
      rcases h4 with rfl | rfl | rfl | rfl <;> (subst hK; decide)
    have z1 : w2.cell? ⟨g3, 1, none⟩ = some (.int .i64 N) := by rw [← hN]; exact (bkC HG2.out 1).trans rfl
    have HKK : Hid (2 ^ b.f1.toNat = K) := Lib.hid (by rw [hN]; exact hK)
    have hN0 : ¬ N < 0 := by omega
    have hk1 := hK16.1; have hk2 := hK16.2
    clear hno hN hK hK16
    have HLK : Hid (allL b st kn K = LL) := Lib.hid (by have h := HLL.out; rw [if_pos rfl, HKK.out] at h; exact h)
    clear HLL HKK HSO
    have hlr : (List.replicate K (0 : Int)).length = K := List.length_replicate
    go_upto_region 5 with ((with_reducible refine gate_dst (N := 23) rfl ?_); refine Kd.R_make (Kd.int .i64) (w0 := w) w.heap.size 3 rfl (N := 23) rfl 27 _ _ rfl (wrap64 (2 ^ N.toNat)) rfl rfl Tryz.underlying27 (.int .i64 0) 8 info3 rfl (by decide) (by decide) 0 (ok := fun _ => True) (okp := fun _ => True) rfl (fun _ _ => trivial) trivial (by omega) (by omega) HB2.out HB2.out.size ?_; intro v6 w6 hR6 hB6 hg6 hat6; rw [hsh] at hR6; obtain ⟨R, cR, hv6, hRb, _, _⟩ := Kd.R_form hR6 (by simp only [List.length_replicate]; omega); have HR6 := Lib.hid hR6; have HB6 := Lib.hid hB6; have HGR6 := Lib.hid hg6; have HV6 := Lib.hid hv6; clear hR6 hB6 hg6 hat6 hv6)
    have HE0 : Hid (AInv w b a g3 R cR K (allL b st kn 0 ++ List.replicate K 0) w6) := Lib.hid (by
      have h := HR6.out
      rw [HV6.out] at h
      simp only [List.length_replicate, Int.toNat_natCast] at h
      refine ⟨HB6.out, ?_, Kd.R_of_own (Kd.own_of_R h) (fun k hk => by simpa [Value.ownBlock] using hk.symm)⟩
      exact ((Below.refl w2.heap.size w2).grown HGR6.out (Nat.le_refl _) (fun k hk => by cases hk)).block g3 (blk_lt HG2.out) |>.trans HG2.out)
    have hv := HV6.out
    simp only [List.length_replicate, Int.toNat_natCast] at hv
    subst hv
    clear HR6 HB6 HGR6 HV6 hlr HG2 HB2 z1 hsh hN0
    go_upto_region 6 with fail
    go_loopw [26] (fun v26 wr => ∃ i : Nat, i ≤ K ∧ v26 = .int .i64 i ∧ Hid (AInv w b a g3 R cR K (allL b st kn i ++ List.replicate (K - i) 0) wr)) (fun v _ => K - (intOf v).toNat)
    case atStart => exact ⟨0, Nat.zero_le _, rfl, HE0⟩
    case round =>
      obtain ⟨i, hi, rfl, HI⟩ := hrel
      by_cases hlt : i < K
      · have hlt' : (i : Int) < (K : Int) := by omega
        obtain ⟨d, hd⟩ : ∃ d, K - i = d + 1 := ⟨K - i - 1, by omega⟩
        have hd2 : K - (i + 1) = d := by omega
        have HD := Lib.hid hd; have HD2 := Lib.hid hd2
        clear hd hd2
        by_cases hi0 : i = 0
        · subst hi0
          have hz : ¬ (((0 : Nat) : Int) > 0) := by omega
          go_wp2_with fail
          go_roundw
          case rel => exact ⟨1, by omega, by go_num, Lib.hid (by
            have h := HI.out
            rw [HD.out] at h
            rw [show K - 1 = d from HD2.out, allL, if_pos rfl]
            exact h)⟩
          case measure => simp [intOf]; omega
        · have hpos : (i : Int) > 0 := by omega
          have hE1 := Lib.hid (HE.out wr HI.out.below (i : Int) (by omega))
          have HIL := Lib.hid (fun (W : World) (h : Below wr.heap.size wr W) => HI.out.later h)
          have HGr := Lib.hid HI.out.bg
          have bx0 : wr.cell? ⟨g3, 0, none⟩ = some (.slice a.A0 b.f0.length a.c0) := (bkC HGr.out 0).trans rfl; have bx1 : wr.cell? ⟨g3, 1, none⟩ = some (.int .i64 b.f1) := (bkC HGr.out 1).trans rfl; have bx2 : wr.cell? ⟨g3, 2, none⟩ = some (.slice a.A2 b.f2.length a.c2) := (bkC HGr.out 2).trans rfl; have bx3 : wr.cell? ⟨g3, 3, none⟩ = some (.slice a.A3 b.f3.length a.c3) := (bkC HGr.out 3).trans rfl; have bx4 : wr.cell? ⟨g3, 4, none⟩ = some (.slice a.A4 b.f4.length a.c4) := (bkC HGr.out 4).trans rfl; have bx5 : wr.cell? ⟨g3, 5, none⟩ = some (.slice a.A5 b.f5.length a.c5) := (bkC HGr.out 5).trans rfl; have bx6 : wr.cell? ⟨g3, 6, none⟩ = some (.slice a.A6 b.f6.length a.c6) := (bkC HGr.out 6).trans rfl; have bx7 : wr.cell? ⟨g3, 7, none⟩ = some (.bool b.f7) := (bkC HGr.out 7).trans rfl; have bx8 : wr.cell? ⟨g3, 8, none⟩ = some (.slice a.A8 b.f8.length a.c8) := (bkC HGr.out 8).trans rfl; have bx9 : wr.cell? ⟨g3, 9, none⟩ = some (.slice a.A9 b.f9.length a.c9) := (bkC HGr.out 9).trans rfl; have bx10 : wr.cell? ⟨g3, 10, none⟩ = some (.bool b.f10) := (bkC HGr.out 10).trans rfl
          have HSET := Lib.hid (allL_set b st kn i d hi0)
          clear hi0
          go_upto_region 10 with (go_at_call 16; refine hE1.out.mono ?_; rintro rr w8 ⟨rfl, hB8⟩; have HI8 := Lib.hid (HIL.out w8 hB8); obtain ⟨hc0, hf0⟩ := Kd.R_celln 0 HI8.out.rk (i : Int) (by omega) hlt'; rw [show ((i : Int)).toNat = i by omega] at hc0 hf0; clear hB8)
          clear bx0 bx1 bx2 bx3 bx4 bx5 bx6 bx7 bx8 bx9 bx10 hc0 hf0 hE1 HGr HIL
          have HI9 : Hid (AInv w b a g3 R cR K (allL b st kn (i + 1) ++ List.replicate (K - (i + 1)) 0) (w8.setCell ⟨R, i, none⟩ (.int .i64 (estF b (i : Int) st kn).1))) := Lib.hid (by
            have h := HI8.out.put i (estF b (i : Int) st kn).1
            rw [HD.out, HSET.out] at h
            rw [HD2.out]
            exact h)
          go_wp2_with fail
          go_roundw
          case rel => exact ⟨i + 1, by omega, by go_num, HI9⟩
          case measure => simp [intOf]; omega
      · have hlt' : ¬ (i : Int) < (K : Int) := by omega
        obtain rfl : K = i := by omega
        have HR9 : Hid (Kd.R (Kd.int .i64) 3 wr w.heap.size (fun _ => True) (.slice (some ⟨R, 0, none⟩) K cR) LL) := Lib.hid (by
          have h := HI.out.rk
          rw [Nat.sub_self, List.replicate_zero, List.append_nil, HLK.out] at h
          exact Kd.R_mono h (fun _ _ => trivial))
        have HB9 := Lib.hid HI.out.below
        clear hi hlt HI
        go_wp2_with fail
        go_ret2
        exact ⟨_, rfl, HR9.out, HB9.out⟩
  · have hb0 : (e != 0) = true := bne_iff_ne.mpr he
    have HIF : Hid (LL = []) := Lib.hid (HLL.out.symm.trans (if_neg he))
    clear he HLL
    go_wp2_with fail
    go_ret2
    exact ⟨_, rfl, by rw [HIF.out]; exact Kd.R_nil _ _ _ _ _, HB2.out⟩
theorem mul_1 {x : Int} (h0 : 0 ≤ x) (h1 : x ≤ 1000000000000) : mulI 1 x = x := by
  unfold mulI
  rw [clip_in h0 h1, show clipI 1 = 1 from rfl, Int.one_mul, clip_in h0 h1]
def stR (one two : Int) : List Sta := [⟨one, []⟩, ⟨two, []⟩]
theorem rows_of : (ofRes [0, 1, 7] 3 1 []).2 = 0 := by
  unfold ofRes
  rw [if_neg (by decide)]
theorem rows_est (one two : Int) (q : Int) (hq : (ofRes [0, 1, 7] 3 q []).2 = 0) : (estF (litB [0, 1, 7] 3 []) q (stR one two) []).1 = prodF q [clipI one, clipI two, 10] 0 1 := by
  rw [est_nil]
  show (if (ofRes [0, 1, 7] 3 q []).2 = 0 then _ else _ : Int × Int).1 = _
  rw [if_pos hq]; rfl
theorem rows_all (one two : Int) : ∃ e5 e6 e7 : Int, allL (litB [0, 1, 7] 3 []) (stR one two) [] 8 = [0, clipI one, clipI two, mulI (clipI one) (clipI two), 10, e5, e6, e7] := by
  have hx := clip_0 one
  have hy := clip_0 two
  have h : ∀ q : Int, 1 ≤ q → q ≤ 7 → (ofRes [0, 1, 7] 3 q []).2 = 0 := fun q h1 h7 => by
    have h2 : q = 1 ∨ q = 2 ∨ q = 3 ∨ q = 4 ∨ q = 5 ∨ q = 6 ∨ q = 7 := by omega
    unfold ofRes
    rcases h2 with rfl | rfl | rfl | rfl | rfl | rfl | rfl <;> rw [if_neg (by decide)]
  have e1 : (estF (litB [0, 1, 7] 3 []) 1 (stR one two) []).1 = clipI one := by
    rw [rows_est one two 1 (h 1 (by decide) (by decide))]
    exact mul_1 hx.1 hx.2
  have e2 : (estF (litB [0, 1, 7] 3 []) 2 (stR one two) []).1 = clipI two := by
    rw [rows_est one two 2 (h 2 (by decide) (by decide))]
    exact mul_1 hy.1 hy.2
  have e3 : (estF (litB [0, 1, 7] 3 []) 3 (stR one two) []).1 = mulI (clipI one) (clipI two) := by
    rw [rows_est one two 3 (h 3 (by decide) (by decide))]
    show mulI (mulI 1 (clipI one)) (clipI two) = _
    rw [mul_1 hx.1 hx.2]
  have e4 : (estF (litB [0, 1, 7] 3 []) 4 (stR one two) []).1 = 10 := by
    rw [rows_est one two 4 (h 4 (by decide) (by decide))]; rfl
  have hl : allL (litB [0, 1, 7] 3 []) (stR one two) [] 8 = [0, (estF (litB [0, 1, 7] 3 []) 1 (stR one two) []).1, (estF (litB [0, 1, 7] 3 []) 2 (stR one two) []).1, (estF (litB [0, 1, 7] 3 []) 3 (stR one two) []).1, (estF (litB [0, 1, 7] 3 []) 4 (stR one two) []).1, (estF (litB [0, 1, 7] 3 []) 5 (stR one two) []).1, (estF (litB [0, 1, 7] 3 []) 6 (stR one two) []).1, (estF (litB [0, 1, 7] 3 []) 7 (stR one two) []).1] := rfl
  exact ⟨_, _, _, by rw [hl, e1, e2, e3, e4]⟩
theorem rows_mul {x y : Int} (hx0 : 0 ≤ x) (hx1 : x ≤ 1000000000000) (hy0 : 0 ≤ y) (hy1 : y ≤ 1000000000000) : (y = 0 → mulI x y = 0) ∧ (0 < y → x ≤ 1000000000000 / y → mulI x y = x * y ∧ x * y ≤ 1000000000000 ∧ 0 ≤ x * y) ∧ (0 < y → ¬ x ≤ 1000000000000 / y → mulI x y = 1000000000000) := by
  unfold mulI
  rw [clip_in hx0 hx1, clip_in hy0 hy1]
  refine ⟨fun h => ?_, fun h1 h2 => ?_, fun h1 h2 => ?_⟩
  · rw [h, Int.mul_zero]; rfl
  · have h3 := (Int.le_ediv_iff_mul_le h1).1 h2
    have h4 := Int.mul_nonneg hx0 hy0
    exact ⟨clip_in h4 h3, h3, h4⟩
  · have h3 : ¬ x * y ≤ 1000000000000 := fun h => h2 ((Int.le_ediv_iff_mul_le h1).2 h)
    rw [clip_eq, if_neg (by omega), if_pos (by omega)]
set_option maxHeartbeats 8000000 in
set_option maxRecDepth 100000 in
theorem rows_ok (one two : Int) (w : World) (hT : TabW w) : Calls Tryz.prog 9 #[.int .i64 one, .int .i64 two] w fun r w' => r = .returned (.bool true) ∧ Below w.heap.size w w' := by
  have HT := Lib.hid hT
  have HEX := Lib.hid (examples_ok w hT)
  clear hT
  go_enter Tryz.func9, Tryz.ntmps9
  go_upto_region 2 with (go_at_call 10; refine HEX.out.mono ?_; rintro rr w1 ⟨rfl, hB1⟩; have HB1 := Lib.hid hB1; clear hB1)
  clear HEX
  go_upto_region 3 with fail
  have ha := alloc2 w1 (.cells (([0, 1, 7] : List Int).map (Value.int .i64)).toArray 3 (0, 0)) (.cells (blC (litB [0, 1, 7] 3 []) (litA (some ⟨w1.heap.size, 0, none⟩) 3 none 0)) 30 (0, 0))
  change Code.wp _ _ _ _ ((w1.alloc (.cells (([0, 1, 7] : List Int).map (Value.int .i64)).toArray 3 (0, 0))).alloc (.cells (blC (litB [0, 1, 7] 3 []) (litA (some ⟨w1.heap.size, 0, none⟩) 3 none 0)) 30 (0, 0)))
  generalize (w1.alloc (.cells (([0, 1, 7] : List Int).map (Value.int .i64)).toArray 3 (0, 0))).alloc (.cells (blC (litB [0, 1, 7] 3 []) (litA (some ⟨w1.heap.size, 0, none⟩) 3 none 0)) 30 (0, 0)) = w3 at ha ⊢
  obtain ⟨gb, hgb⟩ : ∃ gb, w1.heap.size + 1 = gb := ⟨_, rfl⟩
  rw [hgb] at ha ⊢
  have HB3 : Hid (Below w.heap.size w w3) := Lib.hid (HB1.out.trans (ha.2.2.mono HB1.out.size))
  have HI := Lib.hid ha.1
  have HG := Lib.hid ha.2.1
  obtain ⟨ib, hib⟩ : ∃ ib, w1.heap.size = ib := ⟨_, rfl⟩
  rw [hib] at HI HG ⊢
  clear ha hgb hib
  have bx0 : w3.cell? ⟨gb, 0, none⟩ = some (.slice (some ⟨ib, 0, none⟩) 3 3) := (bkC HG.out 0).trans rfl; have bx1 : w3.cell? ⟨gb, 1, none⟩ = some (.int .i64 3) := (bkC HG.out 1).trans rfl; have bx2 : w3.cell? ⟨gb, 2, none⟩ = some (.slice none 0 0) := (bkC HG.out 2).trans rfl; have bx3 : w3.cell? ⟨gb, 3, none⟩ = some (.slice none 0 0) := (bkC HG.out 3).trans rfl; have bx4 : w3.cell? ⟨gb, 4, none⟩ = some (.slice none 0 0) := (bkC HG.out 4).trans rfl; have bx5 : w3.cell? ⟨gb, 5, none⟩ = some (.slice none 0 0) := (bkC HG.out 5).trans rfl; have bx6 : w3.cell? ⟨gb, 6, none⟩ = some (.slice none 0 0) := (bkC HG.out 6).trans rfl; have bx7 : w3.cell? ⟨gb, 7, none⟩ = some (.bool false) := (bkC HG.out 7).trans rfl; have bx8 : w3.cell? ⟨gb, 8, none⟩ = some (.slice none 0 0) := (bkC HG.out 8).trans rfl; have bx9 : w3.cell? ⟨gb, 9, none⟩ = some (.slice none 0 0) := (bkC HG.out 9).trans rfl; have bx10 : w3.cell? ⟨gb, 10, none⟩ = some (.bool false) := (bkC HG.out 10).trans rfl
  have hSB := heap_alloc_new w3 (.cells #[.int .i64 one, .slice none 0 0, .int .i64 two, .slice none 0 0] 51 (0, 0))
  have hS := stat2_C (l1 := []) (l2 := []) hSB (Nat.le_refl _) (Nat.le_refl _) (Kd.C_nil _ _) (Kd.C_nil _ _)
  have hB4 : Below w3.heap.size w3 (w3.alloc (.cells #[.int .i64 one, .slice none 0 0, .int .i64 two, .slice none 0 0] 51 (0, 0))) := blA (Below.refl _ _) _
  have hR := (litR (n := 3) (ints_C [0, 1, 7] HI.out (by decide)) (Nat.le_refl 3) (Kd.C_nil KX w3) (Nat.le_refl 0)).later hB4
  have hA := all_ok (litB [0, 1, 7] 3 []) (litA (some ⟨ib, 0, none⟩) 3 none 0) (stR one two) (some ⟨w3.heap.size, 0, none⟩) 2 [] none 0 _ (tab_at HT.out (HB3.out.trans (hB4.mono HB3.out.size))) (fun q hq => ⟨⟨fun x hx => (by cases hx), Nat.zero_le _⟩, by omega, fun x hx => by
    have hx2 : x ∈ ([0, 1, 7] : List Int) := hx
    simp only [List.mem_cons, List.not_mem_nil, or_false] at hx2
    rcases hx2 with rfl | rfl | rfl <;> decide⟩) hR hS (Nat.le_refl 2) (Kd.C_nil _ _) (by decide)
  obtain ⟨e5, e6, e7, hL⟩ := rows_all one two
  have hof : (ofRes (litB [0, 1, 7] 3 []).f0 (litB [0, 1, 7] 3 []).f1 1 (litB [0, 1, 7] 3 []).f4).2 = 0 := rows_of
  have h8 : (2 : Nat) ^ (litB [0, 1, 7] 3 []).f1.toNat = 8 := rfl
  rw [hof, if_pos rfl, h8, hL] at hA
  have HA := Lib.hid hA
  clear hSB hS hR hA hL hof h8 HI
  unfold blC at HA
  have HB4 : Hid (Below w.heap.size w (w3.alloc (.cells #[.int .i64 one, .slice none 0 0, .int .i64 two, .slice none 0 0] 51 (0, 0)))) := Lib.hid (HB3.out.trans (hB4.mono HB3.out.size))
  clear hB4
  have hx := clip_0 one
  have hy := clip_0 two
  have hm := rows_mul hx.1 hx.2 hy.1 hy.2
  obtain ⟨j1, hj1⟩ : ∃ j, mx one 0 = j := ⟨_, rfl⟩
  obtain ⟨k1, hk1⟩ : ∃ j, mx two 0 = j := ⟨_, rfl⟩
  obtain ⟨x, hx0⟩ : ∃ x, clipI one = x := ⟨_, rfl⟩
  obtain ⟨y, hy0⟩ : ∃ y, clipI two = y := ⟨_, rfl⟩
  have hj1_ : (if one < 0 then 0 else one) = j1 := hj1
  have hk1_ : (if two < 0 then 0 else two) = k1 := hk1
  have hj2_ : (if 1000000000000 < j1 then 1000000000000 else j1) = x := by rw [← hj1, ← hx0]; rfl
  have hk2_ : (if 1000000000000 < k1 then 1000000000000 else k1) = y := by rw [← hk1, ← hy0]; rfl
  rw [hx0, hy0] at HA hm
  rw [hx0] at hx; rw [hy0] at hy
  obtain ⟨p, hp⟩ : ∃ p, mulI x y = p := ⟨_, rfl⟩
  rw [hp] at HA hm
  have HM := Lib.hid hm
  clear hm hj1 hk1 hx0 hy0 hp
  obtain ⟨hx1, hx2⟩ := hx
  obtain ⟨hy1, hy2⟩ := hy
  go_upto_region 4 with (go_at_call 20; refine HA.out.mono ?_; rintro rr w5 ⟨v, rfl, hR5, hB5⟩; obtain ⟨R, cR, hv, _, _, _⟩ := Kd.R_form hR5 (by simp); have HR5 := Lib.hid hR5; have HB5 := Lib.hid (HB4.out.trans (hB5.mono HB4.out.size)); have HV5 := Lib.hid hv; clear hR5 hB5 hv)
  have hv := HV5.out
  subst hv
  obtain ⟨q0, _⟩ := Kd.R_celln 0 HR5.out 0 (by decide) (by simp)
  obtain ⟨q1, _⟩ := Kd.R_celln 0 HR5.out 1 (by decide) (by simp)
  obtain ⟨q2, _⟩ := Kd.R_celln 0 HR5.out 2 (by decide) (by simp)
  obtain ⟨q3, _⟩ := Kd.R_celln 0 HR5.out 3 (by decide) (by simp)
  obtain ⟨q4, _⟩ := Kd.R_celln 0 HR5.out 4 (by decide) (by simp)
  replace q0 : w5.cell? ⟨R, 0, none⟩ = some (.int .i64 0) := q0
  replace q1 : w5.cell? ⟨R, 1, none⟩ = some (.int .i64 x) := q1
  replace q2 : w5.cell? ⟨R, 2, none⟩ = some (.int .i64 y) := q2
  replace q3 : w5.cell? ⟨R, 3, none⟩ = some (.int .i64 p) := q3
  replace q4 : w5.cell? ⟨R, 4, none⟩ = some (.int .i64 10) := q4
  clear HR5 HV5 HA bx0 bx1 bx2 bx3 bx4 bx5 bx6 bx7 bx8 bx9 bx10 HB4
  simp only [List.length_cons, List.length_nil, Nat.zero_add, Nat.reduceAdd]
  by_cases hy0 : y = 0
  · have hp := HM.out.1 hy0
    subst hp; subst hy0
    have hw : wrap64 (x * 0) = 0 := by rw [Int.mul_zero]; exact wrap64_of (by decide) (by decide)
    clear HM
    go_wp2_with fail
    go_ret
    exact ⟨rfl, HB5.out⟩
  · have hyb : (y == 0) = false := beq_eq_false_iff_ne.mpr hy0
    have hyp : 0 < y := by omega
    have htd : Int.tdiv 1000000000000 y = 1000000000000 / y := Int.tdiv_eq_ediv_of_nonneg (by decide)
    have hq0 : 0 ≤ 1000000000000 / y := Int.ediv_nonneg (by decide) hy1
    have hq1 : 1000000000000 / y ≤ 1000000000000 := Int.ediv_le_self _ (by decide)
    obtain ⟨Q, hQ⟩ : ∃ Q, (1000000000000 : Int) / y = Q := ⟨_, rfl⟩
    rw [hQ] at htd hq0 hq1
    have hwq : wrap64 Q = Q := wrap64_of (by omega) (by omega)
    by_cases hle : x ≤ Q
    · obtain ⟨h1, h2, h3⟩ := HM.out.2.1 hyp (by rw [hQ]; exact hle)
      subst h1
      have hw : wrap64 (x * y) = x * y := wrap64_of (by omega) (by omega)
      have hd : decide (x ≤ Q) = true := decide_eq_true hle
      clear HM hQ h2 h3 hq0 hq1 hle hyp hx1 hx2 hy1 hy2
      go_wp2_with fail
      go_ret
      exact ⟨rfl, HB5.out⟩
    · have h1 := HM.out.2.2 hyp (by rw [hQ]; first | exact hle | exact Int.not_le.mp hle)
      have hpb : (p == 1000000000000) = true := beq_iff_eq.mpr h1
      clear h1
      have hd : decide (x ≤ Q) = false := decide_eq_false hle
      clear HM hQ hq0 hq1 hle hyp hx1 hx2 hy1 hy2
      go_wp2_with fail
      go_ret
      exact ⟨rfl, HB5.out⟩
end Go.Proofs.YtoffpegppdmkdaaGreatDoor.E
