/- Contracts and plain lemmas of the functions that the law reaches, part 29. -/
import Derived.Laws.MathBits
import Derived.Laws.Bits64
import Derived.Deep.RegionHeld3
import Derived.Test.YtoffpegppdmkdaaGreatDoorCP3
import Derived.Test.YtoffpegppdmkdaaGreatDoorCP9
import Derived.Test.YtoffpegppdmkdaaGreatDoorCP13
import Derived.Test.YtoffpegppdmkdaaGreatDoorCP21
import Derived.Test.YtoffpegppdmkdaaGreatDoorCP22
import Derived.Test.YtoffpegppdmkdaaGreatDoorCP26
import Derived.Test.YtoffpegppdmkdaaGreatDoorCP27
import Derived.Test.YtoffpegppdmkdaaGreatDoorCP28
namespace Go.Proofs.YtoffpegppdmkdaaGreatDoor.E
set_option linter.unusedSimpArgs false
set_option linter.unusedVariables false
open Go.RowKit Go.Proofs.YtoffpegppdmkdaaGreatDoorW.PrintWords Go.Proofs.YtoffpegppdmkdaaGreatDoorW.PrintLast Go.Proofs.YtoffpegppdmkdaaGreatDoorW.PrintMore
abbrev Kn := S45
def mulI (a b : Int) : Int := clipI (clipI a * clipI b)
theorem mul_f (a b : Int) : hist_Mul.f a b = some (mulI a b) := by
  have ha := clip_0 a; have hb := clip_0 b
  unfold mulI
  show (Option.bind (some (clipI a)) _) = _
  rw [Option.bind_some]
  show (Option.bind (some (clipI b)) _) = _
  rw [Option.bind_some]
  obtain ⟨x, hx⟩ : ∃ x, clipI a = x := ⟨_, rfl⟩
  obtain ⟨y, hy⟩ : ∃ y, clipI b = y := ⟨_, rfl⟩
  rw [hx] at ha ⊢; rw [hy] at hb ⊢; clear hx hy
  have hx1 : IntKind.u64.wrap x = x := by simp only [IntKind.wrap_u64]; omega
  have hy1 : IntKind.u64.wrap y = y := by simp only [IntKind.wrap_u64]; omega
  rw [hx1, hy1]
  have h := mul64_arith x y (by omega) (by omega) (by omega) (by omega)
  have hp0 : 0 ≤ x * y := Int.mul_nonneg (by omega) (by omega)
  have hf : bits_Mul64.f x y = some ((x * y) / 18446744073709551616, (x * y) % 18446744073709551616) := by
    unfold bits_Mul64.f
    rw [and_low32 _ (by omega) (by omega), and_low32 _ (by omega) (by omega)]
    simp only [IntKind.wrap_u64]
    rw [and_low32 _ (Int.emod_nonneg _ (by decide)) (Int.emod_lt_of_pos _ (by decide))]
    rw [h]
  rw [hf, Option.bind_some]
  generalize x * y = p at hp0 ⊢
  by_cases hh : p / 18446744073709551616 = 0
  · rw [if_pos hh]
    have e : p % 18446744073709551616 = p := by omega
    show (Option.bind (some (clipI (p % 18446744073709551616))) _) = _
    have hc := clip_0 p
    rw [e, Option.bind_some, wrap64_of (by omega) (by omega)]
  · rw [if_neg hh]
    have e : clipI p = 1000000000000 := by rw [clip_eq, if_neg (by omega), if_pos (by omega)]
    rw [e]
theorem mul_0 (a b : Int) : 0 ≤ mulI a b ∧ mulI a b ≤ 1000000000000 := clip_0 _
def timesI (a n d : Int) : Int := mulI a n / mx 1 (clipI d)
theorem times_0 (a n d : Int) : 0 ≤ timesI a n d ∧ timesI a n d ≤ 1000000000000 := by
  have h := mul_0 a n
  have hm := mx_le 1 (clipI d)
  unfold timesI
  exact ⟨Int.ediv_nonneg h.1 (by omega), Int.le_trans (Int.ediv_le_self _ h.1) h.2⟩
theorem times_f (a n d : Int) : hist_Times.f a n d = some (timesI a n d) := by
  have h0 := mul_0 a n
  have hm := mx_le 1 (clipI d)
  have ht := times_0 a n d
  unfold hist_Times.f
  rw [mul_f, Option.bind_some]
  show (Option.bind (some (clipI d)) _) = _
  rw [Option.bind_some, if_neg (by omega), Int.tdiv_eq_ediv_of_nonneg h0.1]
  show some (wrap64 (timesI a n d)) = _
  rw [wrap64_of (by omega) (by omega)]
def baseL (b : Bl) (st : List Sta) : Nat → List Int
  | 0 => []
  | n + 1 => baseL b st n ++ [clipI (statF b.f0 st (n : Int)).f0]
theorem baseL_len (b : Bl) (st : List Sta) : ∀ n, (baseL b st n).length = n
  | 0 => rfl
  | n + 1 => by rw [baseL, List.length_append, baseL_len b st n]; rfl
def baseF (b : Bl) (st : List Sta) : List Int := if b.f1 < 1 ∨ 4 < b.f1 ∨ (b.f0.length : Int) < b.f1 then [] else baseL b st b.f1.toNat
def prodF (m : Int) : List Int → Nat → Int → Int
  | [], _, n => n
  | x :: l, i, n => prodF m l (i + 1) (if bitB m i = true then mulI n x else n)
def partsF (b : Bl) (st : List Sta) : List Ex → Int → Int
  | [], n => n
  | x :: l, n => partsF b st l (timesI n (partF b st x).1 (partF b st x).2)
def knownF (s : ByteArray) : List Kn → Option Int
  | [] => none
  | x :: l => match knownF s l with
    | some n => some n
    | none => if x.f0.toList = s.toList then some (clipI x.f1) else none
def guessF (b : Bl) (m : Int) (st : List Sta) : Int := partsF b st (sel m (condsF b.f4)) (prodF m (baseF b st) 0 1)
def estF (b : Bl) (m : Int) (st : List Sta) (kn : List Kn) : Int × Int :=
  if (ofRes b.f0 b.f1 m b.f4).2 = 0 then ((knownF (ofRes b.f0 b.f1 m b.f4).1 kn).getD (guessF b m st), 0) else (0, (ofRes b.f0 b.f1 m b.f4).2)
theorem baseF_len (b : Bl) (st : List Sta) : (baseF b st).length ≤ 4 := by
  unfold baseF
  split
  · simp
  · rw [baseL_len]; omega
theorem knownF_app (s : ByteArray) (l1 : List Kn) {l2 : List Kn} {n : Int} (h : knownF s l2 = some n) : knownF s (l1 ++ l2) = some n := by
  induction l1 with
  | nil => exact h
  | cons x l ih => rw [List.cons_append, knownF, ih]
theorem of_right {b : Bl} {m : Int} {s : ByteArray} (h : ofRes b.f0 b.f1 m b.f4 = (s, 0)) : b.f4.all rightB = true := by
  unfold ofRes at h
  by_cases h2 : offP b.f1 b.f0.length m ∨ b.f4.all rightB = false
  · rw [if_pos h2] at h; cases (Prod.mk.inj h).2
  · cases hh : b.f4.all rightB with
    | true => rfl
    | false => exact absurd (.inr hh) h2
theorem withI_none (m : Int) : ∀ (l : List Ex) (j : Nat), withI m l j = [] → sel m l = []
  | [], _, _ => rfl
  | x :: l, j, h => by
    rw [withI] at h
    by_cases hs : inSet m x = true
    · rw [if_pos hs] at h; cases h
    · rw [if_neg hs] at h
      rw [sel, List.filter_cons, if_neg hs]
      exact withI_none m l (j + 1) h
theorem withI_next (m : Int) (L : List Ex) : ∀ (l : List Ex) (j i : Nat) (W : List Int), L.drop j = l → W.drop i = withI m l j → i < W.length → ∃ (q : Nat) (x : Ex), j ≤ q ∧ rd W (i : Int) = (q : Int) ∧ L[q]? = some x ∧ W.drop (i + 1) = withI m (L.drop (q + 1)) (q + 1) ∧ sel m l = x :: sel m (L.drop (q + 1))
  | [], j, i, W, hj, hi, hl => by
    rw [withI] at hi
    have := List.drop_eq_nil_iff.1 hi
    omega
  | x :: l, j, i, W, hj, hi, hl => by
    have hr : L.drop (j + 1) = l := by rw [← List.drop_drop, hj]; rfl
    rw [withI] at hi
    by_cases hs : inSet m x = true
    · rw [if_pos hs] at hi
      refine ⟨j, x, Nat.le_refl _, ?_, ?_, ?_, ?_⟩
      · have h := congrArg (·[0]?) hi
        simp only [List.getElem?_drop, List.getElem?_cons_zero, Nat.add_zero] at h
        unfold rd
        rw [Int.toNat_natCast, List.getD_eq_getElem?_getD, h]; rfl
      · have h := congrArg (·[0]?) hj
        simpa only [List.getElem?_drop, List.getElem?_cons_zero, Nat.add_zero] using h
      · rw [← List.drop_drop, hi, hr]; rfl
      · rw [sel, List.filter_cons, if_pos hs, hr]; rfl
    · rw [if_neg hs] at hi
      obtain ⟨q, y, h1, h2, h3, h4, h5⟩ := withI_next m L l (j + 1) i W hr hi hl
      refine ⟨q, y, by omega, h2, h3, h4, ?_⟩
      rw [sel, List.filter_cons, if_neg hs]
      exact h5
end Go.Proofs.YtoffpegppdmkdaaGreatDoor.E
namespace Go.Proofs.YtoffpegppdmkdaaGreatDoor.E
open Go.RowKit Go.Proofs.YtoffpegppdmkdaaGreatDoorW.PrintWords Go.Proofs.YtoffpegppdmkdaaGreatDoorW.PrintLast Go.Proofs.YtoffpegppdmkdaaGreatDoorW.PrintMore
set_option linter.unusedVariables false
set_option linter.unusedSimpArgs false
theorem rclip_f (n : Int) : q13_Clip.f n = some (clipI n) := rfl
set_option maxHeartbeats 4000000 in
set_option maxRecDepth 100000 in
theorem rbase_ok (P : Nat → Prop) (b : Bl) (a : BA) (st : List Sta) (A1 : Option Addr) (c1 : Nat) (w : World) (hb : BR b a w) (hS : SV P A1 c1 st w) :
    Calls Tryz.prog 15 #[.agg (blC b a), .slice A1 st.length c1] w fun e w' => ∃ v, e = .returned v ∧ Kd.R (Kd.int .i64) 3 w' w.heap.size (fun _ => True) v (baseF b st) ∧ Below w.heap.size w w' := by
  have HST := Lib.hid (fun (rel : Int) (hr : 0 ≤ rel) (W : World) (hW : Below w.heap.size w W) => rstat_ok P b a st A1 c1 rel W (hb.later hW) ⟨hS.1, Kd.F_below hS.2 hW⟩ hr)
  obtain ⟨out, hout⟩ : ∃ out, baseF b st = out := ⟨_, rfl⟩
  rw [hout]
  unfold baseF at hout
  have HO := Lib.hid hout
  obtain ⟨n1, hn1⟩ : ∃ n1, st.length = n1 := ⟨_, rfl⟩
  obtain ⟨N, hN⟩ : ∃ N, b.f1 = N := ⟨_, rfl⟩
  obtain ⟨n0, hn0⟩ : ∃ n0, b.f0.length = n0 := ⟨_, rfl⟩
  unfold blC at HST
  unfold blC
  rw [hn1, hN, hn0] at HST ⊢
  rw [hN, hn0] at HO
  clear hb hS hout hn1 hN hn0
  go_enter Tryz.func15, Tryz.ntmps15
  go_upto_region 1 with (first | ((with_reducible refine gate_dst (N := 2) rfl ?_); refine box_event rfl (N := 2) rfl (cs := #[.slice a.A0 n0 a.c0, .int .i64 N, .slice a.A2 b.f2.length a.c2, .slice a.A3 b.f3.length a.c3, .slice a.A4 b.f4.length a.c4, .slice a.A5 b.f5.length a.c5, .slice a.A6 b.f6.length a.c6, .bool b.f7, .slice a.A8 b.f8.length a.c8, .slice a.A9 b.f9.length a.c9, .bool b.f10]) (t := 30) (by first | rfl | (go_simp; done) | (go_simp; rfl)) ?_; intro g hgg w1 hbg hBg;  have HG := Lib.hid hbg; have HB1 := Lib.hid hBg; clear hgg hbg hBg))
  have x0 : w1.cell? ⟨g, 0, none⟩ = some (.slice a.A0 n0 a.c0) := (bkC HG.out 0).trans rfl
  have x1 : w1.cell? ⟨g, 1, none⟩ = some (.int .i64 N) := (bkC HG.out 1).trans rfl
  by_cases h1 : N < 1
  · have hd1 : decide (N < 1) = true := decide_eq_true h1
    have ho := HO.out
    rw [if_pos (.inl h1)] at ho
    subst ho
    go_wp2_with fail
    go_ret
    exact ⟨_, rfl, Kd.R_nil _ _ _ _ _, HB1.out⟩
  · by_cases h2 : 4 < N
    · have hd1 : decide (N < 1) = false := decide_eq_false h1
      have hd2 : decide (4 < N) = true := decide_eq_true h2
      have ho := HO.out
      rw [if_pos (.inr (.inl h2))] at ho
      subst ho
      go_wp2_with fail
      go_ret
      exact ⟨_, rfl, Kd.R_nil _ _ _ _ _, HB1.out⟩
    · by_cases h3 : (n0 : Int) < N
      · have hd1 : decide (N < 1) = false := decide_eq_false h1
        have hd2 : decide (4 < N) = false := decide_eq_false h2
        have hd3 : decide ((n0 : Int) < N) = true := decide_eq_true h3
        have ho := HO.out
        rw [if_pos (.inr (.inr h3))] at ho
        subst ho
        go_wp2_with fail
        go_ret
        exact ⟨_, rfl, Kd.R_nil _ _ _ _ _, HB1.out⟩
      · have hd1 : decide (N < 1) = false := decide_eq_false h1
        have hd2 : decide (4 < N) = false := decide_eq_false h2
        have hd3 : decide ((n0 : Int) < N) = false := decide_eq_false h3
        have ho := HO.out
        rw [if_neg (by omega)] at ho
        obtain ⟨M, hM⟩ : ∃ M : Nat, N = (M : Int) := ⟨N.toNat, by omega⟩
        subst hM
        rw [Int.toNat_natCast] at ho
        have HO2 := Lib.hid ho
        clear ho HO
        go_upto_region 5 with fail
        go_loopw [5, 6] (fun v5 v6 wr => ∃ j : Nat, j ≤ M ∧ v6 = .int .i64 j ∧ Hid (Kd.R (Kd.int .i64) 3 wr w.heap.size (fun q => q ≠ g) v5 (baseL b st j)) ∧ Hid (wr.heap[g]? = some (.cells #[.slice a.A0 n0 a.c0, .int .i64 (M : Int), .slice a.A2 b.f2.length a.c2, .slice a.A3 b.f3.length a.c3, .slice a.A4 b.f4.length a.c4, .slice a.A5 b.f5.length a.c5, .slice a.A6 b.f6.length a.c6, .bool b.f7, .slice a.A8 b.f8.length a.c8, .slice a.A9 b.f9.length a.c9, .bool b.f10] 30 (0, 0))) ∧ Hid (Below w.heap.size w wr)) (fun _ i _ => M - (intOf i).toNat)
        case atStart => exact ⟨0, Nat.zero_le _, rfl, Lib.hid (Kd.R_nil _ _ _ _ _), HG, HB1⟩
        case round =>
          obtain ⟨j, hj, rfl, HR, HGr, HBr⟩ := hrel
          have bx0 : wr.cell? ⟨g, 0, none⟩ = some (.slice a.A0 n0 a.c0) := (bkC HGr.out 0).trans rfl; have bx1 : wr.cell? ⟨g, 1, none⟩ = some (.int .i64 (M : Int)) := (bkC HGr.out 1).trans rfl; have bx2 : wr.cell? ⟨g, 2, none⟩ = some (.slice a.A2 b.f2.length a.c2) := (bkC HGr.out 2).trans rfl; have bx3 : wr.cell? ⟨g, 3, none⟩ = some (.slice a.A3 b.f3.length a.c3) := (bkC HGr.out 3).trans rfl; have bx4 : wr.cell? ⟨g, 4, none⟩ = some (.slice a.A4 b.f4.length a.c4) := (bkC HGr.out 4).trans rfl; have bx5 : wr.cell? ⟨g, 5, none⟩ = some (.slice a.A5 b.f5.length a.c5) := (bkC HGr.out 5).trans rfl; have bx6 : wr.cell? ⟨g, 6, none⟩ = some (.slice a.A6 b.f6.length a.c6) := (bkC HGr.out 6).trans rfl; have bx7 : wr.cell? ⟨g, 7, none⟩ = some (.bool b.f7) := (bkC HGr.out 7).trans rfl; have bx8 : wr.cell? ⟨g, 8, none⟩ = some (.slice a.A8 b.f8.length a.c8) := (bkC HGr.out 8).trans rfl; have bx9 : wr.cell? ⟨g, 9, none⟩ = some (.slice a.A9 b.f9.length a.c9) := (bkC HGr.out 9).trans rfl; have bx10 : wr.cell? ⟨g, 10, none⟩ = some (.bool b.f10) := (bkC HGr.out 10).trans rfl
          by_cases hlt : j < M
          · have hlt' : (j : Int) < M := by omega
            obtain ⟨s, hs⟩ : ∃ s, statF b.f0 st (j : Int) = s := ⟨_, rfl⟩
            have HSJ := HST.out (j : Int) (by omega) wr HBr.out
            rw [hs] at HSJ
            have HBL : Hid (baseL b st (j + 1) = baseL b st j ++ [clipI s.f0]) := Lib.hid (by rw [baseL, hs])
            have HJ := Lib.hid HSJ
            clear HSJ hs
            go_wp2_with (first | (go_at_call 30; refine HJ.out.mono ?_; rintro r w3 ⟨A2, c2, rfl, -, -, hB3⟩; have hf0 := fld_stat0 s.f0 A2 s.f1.length c2 w3; have HB3 := Lib.hid hB3; clear hB3) | (go_at_call 29; refine (q13_Clip.calls s.f0 _ w3 (rclip_f s.f0)).mono ?_; rintro r w4 ⟨rfl, hB4⟩; have HB4 := Lib.hid hB4; clear hB4) | ((with_reducible refine gate_builtin (b := .append) (xs := #[.tmp 29, .tmp 36]) rfl ?_); at_builtin; refine Kd.R_append (Kd.int .i64) (w0 := w) w.heap.size rfl (.tmp 29) (.tmp 36) 27 3 (.int .i64 0) 8 rfl Tryz.underlying27 info3 rfl (by decide) (by omega) _ (baseL b st j) (clipI s.f0) [.int .i64 (clipI s.f0)] (fun q => q ≠ g) (fun _ => False) rfl rfl ?aP (fun _ hk => hk.elim) ?aF ?aO ?aB ?aS ?aL ?_; (case aP => exact rfl); (case aF => exact (fun q hq => by have h5 := blk_lt HGr.out; have h6 := HB3.out.size; have h7 := HB4.out.size; omega)); (case aO => exact Kd.R_below HR.out (HB3.out.trans (HB4.out.mono HB3.out.size))); (case aB => exact HBr.out.trans ((HB3.out.trans (HB4.out.mono HB3.out.size)).mono HBr.out.size)); (case aS => exact Nat.le_trans HBr.out.size (Nat.le_trans HB3.out.size HB4.out.size)); (case aL => rw [baseL_len]; omega); intro v1 w5 ho hb2 hg hat; have HR5 := Lib.hid ho; have HB5 := Lib.hid hb2; have HG5 := Lib.hid (blk_grown ((HB3.out.trans (HB4.out.mono HB3.out.size)).block g (blk_lt HGr.out) |>.trans HGr.out) hg (Kd.R_away HR.out (fun _ h => h))); clear ho hb2 hg hat))
            go_roundw
            case rel => exact ⟨j + 1, by omega, by go_num, by rw [HBL.out]; exact HR5, HG5, HB5⟩
            case measure => simp [intOf]; omega
          · have hlt' : ¬ (j : Int) < M := by omega
            obtain rfl : M = j := by omega
            go_wp2_with fail
            go_ret
            exact ⟨_, rfl, by rw [← HO2.out]; exact Kd.R_mono HR.out (fun _ _ => trivial), HBr.out⟩
end Go.Proofs.YtoffpegppdmkdaaGreatDoor.E
namespace Go.Proofs.YtoffpegppdmkdaaGreatDoor.E
open Go.RowKit Go.Proofs.YtoffpegppdmkdaaGreatDoorW.PrintWords Go.Proofs.YtoffpegppdmkdaaGreatDoorW.PrintLast Go.Proofs.YtoffpegppdmkdaaGreatDoorW.PrintMore
attribute [local go_sem] max2_int min2_int max_two min_two max_three min_three max_four min_four
set_option linter.unusedVariables false
set_option linter.unusedSimpArgs false
theorem many_l0 (l : List St) (a b : Int) (hl : l.length ≤ 9223372036854775807) : ∀ (r : List St) (i : Nat) (n : Int), l.drop i = r → ∃ k, q13_Many.l0 k n (i : Int) a b l = some (manyI (fun _ => true) r n)
  | [], i, n, h => by
    have h1 : l.length ≤ i := List.drop_eq_nil_iff.1 h
    exact ⟨1, by rw [q13_Many.l0, if_neg (by omega), manyI]⟩
  | s :: r, i, n, h => by
    have h1 : i < l.length := by
      rcases Nat.lt_or_ge i l.length with h2 | h2
      · exact h2
      · rw [List.drop_of_length_le h2] at h; cases h
    have h2 : l.drop (i + 1) = r := by rw [← List.tail_drop, h]; rfl
    have h3 : rd_T126 l (i : Int) = s := by
      rw [List.drop_eq_getElem_cons h1] at h
      injection h with h _
      unfold rd_T126
      simp [List.getElem?_eq_getElem h1, h]
    obtain ⟨k, hk⟩ := many_l0 l a b hl r (i + 1) (addI n s.f1) h2
    refine ⟨k + 1, ?_⟩
    rw [q13_Many.l0, if_pos (by omega), if_pos (by omega), h3, radd_f, Option.bind_some, wrap64_of (by omega) (by omega)]
    rw [manyI, if_pos rfl]
    exact hk
theorem rmany_f (h : Hi) (hl : h.f2.length ≤ 9223372036854775807) : ∃ k, q13_Many.f k h.f0 h.f1 h.f2 = some (manyH h) := many_l0 h.f2 h.f0 h.f1 hl h.f2 0 0 rfl
set_option maxHeartbeats 4000000 in
set_option maxRecDepth 100000 in
theorem rpart_ok (op : Int) (h : Hi) (A : Option Addr) (c : Nat) (v : Va) (w : World) (hC : Kd.C k126 w A h.f2.length h.f2) (hc : h.f2.length ≤ c) :
    Calls Tryz.prog 32 #[.int .i64 op, .agg (hiC h A c), .agg (vaC v)] w fun e w' => e = .returned (.tuple #[.int .i64 (hpartF op h v).1, .int .i64 (hpartF op h v).2]) ∧ Below w.heap.size w w' := by
  obtain ⟨k, hk⟩ := rmany_f h (by have := hC.2.1; omega)
  obtain ⟨pn, hpn⟩ : ∃ pn, hpartF op h v = pn := ⟨_, rfl⟩
  rw [hpn]
  have HMN := Lib.hid (fun (W : World) (hW : Below w.heap.size w W) => q13_Many.calls k h.f0 h.f1 A c h.f2 _ W (Kd.C_below hC hW) hc hk)
  have HBL0 := Lib.hid (fun (too : Bool) (W : World) (hW : Below w.heap.size w W) => rbelow_ok h.f0 h.f1 h.f2 A c v too W (Kd.C_below hC hW))
  have hcl0 := clip_0 h.f0
  have hm0 : 0 ≤ manyH h ∧ manyH h ≤ 1000000000000 := many_0 (fun _ => true) h.f2 0 (by omega) (by omega)
  have hb0 : ∀ too, 0 ≤ belowI h.f2 v too ∧ belowI h.f2 v too ≤ 1000000000000 := fun too => many_0 _ h.f2 0 (by omega) (by omega)
  obtain ⟨bf, hbf⟩ : ∃ bf : Bool → Int, (fun too => belowI h.f2 v too) = bf := ⟨_, rfl⟩
  have hbe : ∀ too, belowI h.f2 v too = bf too := fun too => congrFun hbf too
  obtain ⟨m, hm⟩ : ∃ m, manyH h = m := ⟨_, rfl⟩
  obtain ⟨cl, hcl⟩ : ∃ cl, clipI h.f0 = cl := ⟨_, rfl⟩
  obtain ⟨d, hd⟩ : ∃ d, mx 1 cl = d := ⟨_, rfl⟩
  have HCP := Lib.hid (fun (W : World) => q13_Clip.calls h.f0 cl W (by rw [rclip_f, hcl]))
  rw [hcl] at hcl0
  rw [hm] at HMN hm0
  have hbx : ∀ too, 0 ≤ bf too ∧ bf too ≤ 1000000000000 := fun too => by rw [← hbe]; exact hb0 too
  have HBL := Lib.hid (fun (too : Bool) (W : World) (hW : Below w.heap.size w W) => by have h := HBL0.out too W hW; rw [hbe too] at h; exact h)
  unfold hpartF at hpn
  rw [hcl, hd, hm] at hpn
  simp only [hbe] at hpn
  have hd_ : (if 1 < cl then cl else 1) = d := hd
  have hdl : 1 ≤ d ∧ d ≤ 1000000000000 := by rw [← hd_]; split <;> omega
  have HPN := Lib.hid hpn
  have HM0 := Lib.hid hm0
  have HBX := Lib.hid hbx
  have HDL := Lib.hid hdl
  clear hk hC hc hbf hbe hm hcl hd hpn HBL0 hb0 hm0 hbx hcl0 hdl
  obtain ⟨n, hn⟩ : ∃ n, h.f2.length = n := ⟨_, rfl⟩
  rw [hn] at HMN HBL
  unfold hiC vaC
  unfold vaC at HBL
  rw [hn]
  clear hn
  go_enter Tryz.func32, Tryz.ntmps32
  go_upto_region 1 with (first | ((with_reducible refine gate_dst (N := 4) rfl ?_); refine box_event rfl (N := 4) rfl (cs := #[.int .i64 h.f0, .int .i64 h.f1, .slice A n c]) (t := 64) (by first | rfl | (go_simp; done) | (go_simp; rfl)) ?_; intro g hgg w1 hbg hBg;  have HG := Lib.hid hbg; have HB1 := Lib.hid hBg; clear hgg hbg hBg) | ((with_reducible refine gate_dst (N := 5) rfl ?_); refine box_event rfl (N := 5) rfl (cs := #[.int .i64 v.f0, .int .i64 v.f1, .string v.f2]) (t := 23) (by first | rfl | (go_simp; done) | (go_simp; rfl)) ?_; intro gv hgg w2 hbgv hBgv;  have HV := Lib.hid hbgv; have HB2 := Lib.hid hBgv; clear hgg hbgv hBgv))
  have HB : Hid (Below w.heap.size w w2) := Lib.hid (HB1.out.trans (HB2.out.mono HB1.out.size))
  have HG2 := Lib.hid ((HB2.out.block g (blk_lt HG.out)).trans HG.out)
  have x0 : w2.cell? ⟨g, 0, none⟩ = some (.int .i64 h.f0) := (bkC HG2.out 0).trans rfl
  have x1 : w2.cell? ⟨g, 1, none⟩ = some (.int .i64 h.f1) := (bkC HG2.out 1).trans rfl
  have x2 : w2.cell? ⟨g, 2, none⟩ = some (.slice A n c) := (bkC HG2.out 2).trans rfl
  have y0 : w2.cell? ⟨gv, 0, none⟩ = some (.int .i64 v.f0) := (bkC HV.out 0).trans rfl
  have y1 : w2.cell? ⟨gv, 1, none⟩ = some (.int .i64 v.f1) := (bkC HV.out 1).trans rfl
  have y2 : w2.cell? ⟨gv, 2, none⟩ = some (.string v.f2) := (bkC HV.out 2).trans rfl
  clear HG HG2 HV HB1 HB2
  go_upto_region 3 with (first | (go_at_call 29; refine (HCP.out _).mono ?_; rintro rr w3 ⟨rfl, hB3⟩; replace x0 := pw_cell_below hB3 x0; replace x1 := pw_cell_below hB3 x1; replace x2 := pw_cell_below hB3 x2; replace y0 := pw_cell_below hB3 y0; replace y1 := pw_cell_below hB3 y1; replace y2 := pw_cell_below hB3 y2; replace HB := Lib.hid (HB.out.trans (Below.mono hB3 HB.out.size)); clear hB3) | (go_at_call 61; refine (HMN.out _ HB.out).mono ?_; rintro rr w4 ⟨rfl, hB4⟩; replace x0 := pw_cell_below hB4 x0; replace x1 := pw_cell_below hB4 x1; replace x2 := pw_cell_below hB4 x2; replace y0 := pw_cell_below hB4 y0; replace y1 := pw_cell_below hB4 y1; replace y2 := pw_cell_below hB4 y2; replace HB := Lib.hid (HB.out.trans (Below.mono hB4 HB.out.size)); clear hB4))
  clear HCP HMN hd_
  by_cases h9 : op = 9
  · subst h9
    have HPE := HPN.out
    rw [if_pos rfl] at HPE
    replace HPE := Lib.hid HPE
    clear HPN
    go_wp2_with fail
    go_ret2; exact ⟨by rw [← HPE.out]; rfl, HB.out⟩
  have e9 : (op == 9) = false := beq_eq_false_iff_ne.mpr h9
  replace HPN := Lib.hid (by have h := HPN.out; rw [if_neg h9] at h; exact h)
  by_cases h10 : op = 10
  · subst h10
    have HPE := HPN.out
    rw [if_pos rfl] at HPE
    have hw : wrap64 (d - 1) = d - 1 := wrap64_of (by have := HDL.out; omega) (by have := HDL.out; omega)
    rw [← hw] at HPE
    replace HPE := Lib.hid HPE
    clear HPN h9 e9 hw
    go_wp2_with fail
    go_ret2; exact ⟨by rw [← HPE.out]; rfl, HB.out⟩
  have e10 : (op == 10) = false := beq_eq_false_iff_ne.mpr h10
  replace HPN := Lib.hid (by have h := HPN.out; rw [if_neg h10] at h; exact h)
  obtain ⟨x1m, hx1m⟩ : ∃ x, mx 1 m = x := ⟨_, rfl⟩
  by_cases h11 : op = 11
  · subst h11
    have HPE := HPN.out
    rw [if_pos (.inl rfl), show ((11 : Int) == 12) = false from rfl, hx1m] at HPE
    replace HPE := Lib.hid HPE
    have hx : (if 1 < m then m else 1) = x1m := hx1m
    replace HBL := Lib.hid (HBL.out false)
    clear HPN h9 h10 e9 e10 hx1m
    go_wp2_with ((go_at_call 62; refine (HBL.out _ HB.out).mono ?_; rintro rr w5 ⟨rfl, hB5⟩; replace x0 := pw_cell_below hB5 x0; replace x1 := pw_cell_below hB5 x1; replace x2 := pw_cell_below hB5 x2; replace y0 := pw_cell_below hB5 y0; replace y1 := pw_cell_below hB5 y1; replace y2 := pw_cell_below hB5 y2; replace HB := Lib.hid (HB.out.trans (Below.mono hB5 HB.out.size)); clear hB5))
    go_ret2; exact ⟨by rw [← HPE.out]; rfl, HB.out⟩
  by_cases h12 : op = 12
  · subst h12
    have HPE := HPN.out
    rw [if_pos (.inr rfl), show ((12 : Int) == 12) = true from rfl, hx1m] at HPE
    replace HPE := Lib.hid HPE
    have hx : (if 1 < m then m else 1) = x1m := hx1m
    replace HBL := Lib.hid (HBL.out true)
    clear HPN h9 h10 h11 e9 e10 hx1m
    go_wp2_with ((go_at_call 62; refine (HBL.out _ HB.out).mono ?_; rintro rr w5 ⟨rfl, hB5⟩; replace x0 := pw_cell_below hB5 x0; replace x1 := pw_cell_below hB5 x1; replace x2 := pw_cell_below hB5 x2; replace y0 := pw_cell_below hB5 y0; replace y1 := pw_cell_below hB5 y1; replace y2 := pw_cell_below hB5 y2; replace HB := Lib.hid (HB.out.trans (Below.mono hB5 HB.out.size)); clear hB5))
    go_ret2; exact ⟨by rw [← HPE.out]; rfl, HB.out⟩
  have e11 : (op == 11) = false := beq_eq_false_iff_ne.mpr h11
  have e12 : (op == 12) = false := beq_eq_false_iff_ne.mpr h12
  replace HPN := Lib.hid (by have h := HPN.out; rw [if_neg (by omega)] at h; exact h)
  clear hx1m
  by_cases h13 : op = 13
  · subst h13
    have HPE := HPN.out
    rw [if_pos (.inl rfl), show ((13 : Int) == 13) = true from rfl] at HPE
    by_cases hm0 : m = 0
    · subst hm0
      rw [if_neg (by decide)] at HPE
      replace HPE := Lib.hid HPE
      clear HPN h9 h10 h11 h12 e9 e10 e11 e12
      go_wp2_with fail
      go_ret2; exact ⟨by rw [← HPE.out]; rfl, HB.out⟩
    · have hb : (m == 0) = false := beq_eq_false_iff_ne.mpr hm0
      rw [if_pos (by have := HM0.out; omega)] at HPE
      have hw : wrap64 (m - bf true) = m - bf true := wrap64_of (by have := HM0.out; have := HBX.out true; omega) (by have := HM0.out; have := HBX.out true; omega)
      obtain ⟨q, hq⟩ : ∃ q, m - bf true = q := ⟨_, rfl⟩
      obtain ⟨z, hz⟩ : ∃ z, mx 0 q = z := ⟨_, rfl⟩
      rw [hq, hz] at HPE
      rw [hq] at hw
      have hw' : wrap64 (m - bf true) = q := by rw [hq]; exact hw
      have hz_ : (if 0 < q then q else 0) = z := hz
      clear hw hq
      replace HPE := Lib.hid HPE
      replace HBL := Lib.hid (HBL.out true)
      generalize bf true = bt at hw' HBL
      clear HPN h9 h10 h11 h12 e9 e10 e11 e12 hm0 hz
      go_wp2_with ((go_at_call 62; refine (HBL.out _ HB.out).mono ?_; rintro rr w5 ⟨rfl, hB5⟩; replace x0 := pw_cell_below hB5 x0; replace x1 := pw_cell_below hB5 x1; replace x2 := pw_cell_below hB5 x2; replace y0 := pw_cell_below hB5 y0; replace y1 := pw_cell_below hB5 y1; replace y2 := pw_cell_below hB5 y2; replace HB := Lib.hid (HB.out.trans (Below.mono hB5 HB.out.size)); clear hB5))
      go_ret2; exact ⟨by rw [← HPE.out]; rfl, HB.out⟩
  by_cases h14 : op = 14
  · subst h14
    have HPE := HPN.out
    rw [if_pos (.inr rfl), show ((14 : Int) == 13) = false from rfl] at HPE
    by_cases hm0 : m = 0
    · subst hm0
      rw [if_neg (by decide)] at HPE
      replace HPE := Lib.hid HPE
      clear HPN h9 h10 h11 h12 h13 e9 e10 e11 e12
      go_wp2_with fail
      go_ret2; exact ⟨by rw [← HPE.out]; rfl, HB.out⟩
    · have hb : (m == 0) = false := beq_eq_false_iff_ne.mpr hm0
      rw [if_pos (by have := HM0.out; omega)] at HPE
      have hw : wrap64 (m - bf false) = m - bf false := wrap64_of (by have := HM0.out; have := HBX.out false; omega) (by have := HM0.out; have := HBX.out false; omega)
      obtain ⟨q, hq⟩ : ∃ q, m - bf false = q := ⟨_, rfl⟩
      obtain ⟨z, hz⟩ : ∃ z, mx 0 q = z := ⟨_, rfl⟩
      rw [hq, hz] at HPE
      rw [hq] at hw
      have hw' : wrap64 (m - bf false) = q := by rw [hq]; exact hw
      have hz_ : (if 0 < q then q else 0) = z := hz
      clear hw hq
      replace HPE := Lib.hid HPE
      replace HBL := Lib.hid (HBL.out false)
      generalize bf false = bt at hw' HBL
      clear HPN h9 h10 h11 h12 h13 e9 e10 e11 e12 hm0 hz
      go_wp2_with ((go_at_call 62; refine (HBL.out _ HB.out).mono ?_; rintro rr w5 ⟨rfl, hB5⟩; replace x0 := pw_cell_below hB5 x0; replace x1 := pw_cell_below hB5 x1; replace x2 := pw_cell_below hB5 x2; replace y0 := pw_cell_below hB5 y0; replace y1 := pw_cell_below hB5 y1; replace y2 := pw_cell_below hB5 y2; replace HB := Lib.hid (HB.out.trans (Below.mono hB5 HB.out.size)); clear hB5))
      go_ret2; exact ⟨by rw [← HPE.out]; rfl, HB.out⟩
  have e13 : (op == 13) = false := beq_eq_false_iff_ne.mpr h13
  have e14 : (op == 14) = false := beq_eq_false_iff_ne.mpr h14
  have HPE := Lib.hid (by have h := HPN.out; rw [if_neg (by omega)] at h; exact h)
  clear HPN h9 h10 h11 h12 h13 h14
  go_wp2_with fail
  go_ret2; exact ⟨by rw [← HPE.out]; rfl, HB.out⟩
@[reducible] def HistAt (A1 : Option Addr) (n c1 : Nat) (b : Bl) (a : BA) (x : Ex) (Ax : Option Addr) (cx : Nat) (hz : Hi) (W : World) : Prop := ∀ Q : Ending → World → Prop, (∀ e_ w'', (∃ D k, e_ = .returned (.agg #[.int .i64 hz.f0, .int .i64 hz.f1, .slice D hz.f2.length k]) ∧ hz.f2.length ≤ k ∧ Kd.C k126 w'' D hz.f2.length hz.f2 ∧ Below W.heap.size W w'') → Q e_ w'') → Calls Tryz.prog 31 #[.agg #[.slice a.A0 b.f0.length a.c0, .int .i64 b.f1, .slice a.A2 b.f2.length a.c2, .slice a.A3 b.f3.length a.c3, .slice a.A4 b.f4.length a.c4, .slice a.A5 b.f5.length a.c5, .slice a.A6 b.f6.length a.c6, .bool b.f7, .slice a.A8 b.f8.length a.c8, .slice a.A9 b.f9.length a.c9, .bool b.f10], .slice A1 n c1, .agg #[.int .i64 x.f0, .int .i64 x.f1.f0, .int .i64 x.f1.f1, .string x.f1.f2, .int .i64 x.f2, .int .i64 x.f3, .int .i64 x.f4, .string x.f5, .slice Ax x.f6.length cx]] W Q
@[reducible] def StatAt (A1 : Option Addr) (n c1 : Nat) (b : Bl) (a : BA) (rel s : Int) (W : World) : Prop := ∀ Q : Ending → World → Prop, (∀ e_ w'', (∃ A2 k c2, e_ = .returned (.agg #[.int .i64 s, .slice A2 k c2]) ∧ Below W.heap.size W w'') → Q e_ w'') → Calls Tryz.prog 30 #[.agg #[.slice a.A0 b.f0.length a.c0, .int .i64 b.f1, .slice a.A2 b.f2.length a.c2, .slice a.A3 b.f3.length a.c3, .slice a.A4 b.f4.length a.c4, .slice a.A5 b.f5.length a.c5, .slice a.A6 b.f6.length a.c6, .bool b.f7, .slice a.A8 b.f8.length a.c8, .slice a.A9 b.f9.length a.c9, .bool b.f10], .slice A1 n c1, .int .i64 rel] W Q
@[reducible] def PartAt (op : Int) (h : Hi) (v : Va) (p1 p2 : Int) (D : Option Addr) (k : Nat) (W : World) : Prop := Calls Tryz.prog 32 #[.int .i64 op, .agg #[.int .i64 h.f0, .int .i64 h.f1, .slice D h.f2.length k], .agg #[.int .i64 v.f0, .int .i64 v.f1, .string v.f2]] W fun e w' => e = .returned (.tuple #[.int .i64 p1, .int .i64 p2]) ∧ Below W.heap.size W w'
set_option maxHeartbeats 4000000 in
set_option maxRecDepth 100000 in
theorem rnorm_ok (e : Ex) (A : Option Addr) (c : Nat) (w : World) (hRg : rngF e = true) (hC : Kd.C KX w A e.f6.length e.f6) (hc : e.f6.length ≤ c) :
    Calls Tryz.prog 28 #[.agg (exC e A c)] w fun r w' => ∃ D k, r = .returned (.tuple #[.agg (exC (normalRes e).1 D k), .bool (rightB e)]) ∧ Kd.C KX w' D (normalRes e).1.f6.length (normalRes e).1.f6 ∧ Below w.heap.size w w' := by
  obtain ⟨k1, hk1⟩ := (refRight_ev e).rounds
  have HRI := Lib.hid (fun (W : World) (hW : Below w.heap.size w W) => q08_Right.calls k1 e.f0 e.f1.f0 e.f1.f1 e.f1.f2 e.f2 e.f3 e.f4 e.f5 A c e.f6 _ W (Kd.C_below hC hW) hc hk1)
  have HNO : Hid (rightB e = true → ∀ W, Below w.heap.size w W → Calls Tryz.prog 60 #[.agg #[.int .i64 e.f0, .int .i64 e.f1.f0, .int .i64 e.f1.f1, .string e.f1.f2, .int .i64 e.f2, .int .i64 e.f3, .int .i64 e.f4, .string e.f5, .slice A e.f6.length c]] W fun r w' => ∃ D k, r = .returned (.agg (exC (normF e) D k)) ∧ Kd.F KX w' (fun b => W.heap.size ≤ b) D (normF e).f6.length (normF e).f6 ∧ Below W.heap.size W w') := Lib.hid (fun hr W hW => (q12_normal.calls 0 e.f0 e.f1.f0 e.f1.f1 e.f1.f2 e.f2 e.f3 e.f4 e.f5 A c e.f6 _ _ _ _ _ _ _ _ _ W (Kd.C_below hC hW) hc (by unfold q12_normal.f; rw [show (⟨e.f0, ⟨e.f1.f0, e.f1.f1, e.f1.f2⟩, e.f2, e.f3, e.f4, e.f5, e.f6⟩ : Ex) = e from by cases e; rfl, if_pos ⟨hr, hRg⟩]; try rfl)).mono (fun r w' => by
    rintro ⟨v, rfl, hN, hB⟩
    obtain ⟨D, k, rfl, hk, hCD⟩ := Kd.N_reads hN
    exact ⟨D, k, rfl, Kd.N_F hN, hB⟩))
  obtain ⟨q, hq⟩ : ∃ q, (normalRes e).1 = q := ⟨_, rfl⟩
  obtain ⟨rt, hrt⟩ : ∃ rt, rightB e = rt := ⟨_, rfl⟩
  rw [hq, hrt]
  rw [hrt] at HRI HNO
  have HQ : Hid ((if rt = true then normF e else zeroX) = q) := Lib.hid (by rw [← hq, ← hrt]; unfold normalRes; split <;> rfl)
  clear hC hc hRg hk1 hq hrt
  unfold exC
  go_enter Tryz.func28, Tryz.ntmps28
  go_upto_region 1 with (first | ((with_reducible refine gate_dst (N := 1) rfl ?_); refine box_event rfl (N := 1) rfl (cs := exC e A c) (t := 26) (by first | rfl | (go_simp; done) | (go_simp; rfl)) ?_; intro g hgg w1 hbg hBg;  have HG := Lib.hid hbg; have HB1 := Lib.hid hBg; clear hgg hbg hBg) | ((with_reducible refine gate_dst (N := 2) rfl ?_); refine box_event rfl (N := 2) rfl (cs := zerosE) (t := 26) (by first | rfl | (go_simp; done) | (go_simp; rfl)) ?_; intro rb hgg w2 hbrb hBrb;  have hrb : w1.heap.size ≤ rb := (by omega); have HR := Lib.hid hbrb; have HB2 := Lib.hid hBrb; clear hgg hbrb hBrb))
  have HB : Hid (Below w.heap.size w w2) := Lib.hid (HB1.out.trans (HB2.out.mono HB1.out.size))
  have hrbw : w.heap.size ≤ rb := Nat.le_trans HB1.out.size hrb
  replace HG := Lib.hid ((HB2.out.block g (blk_lt HG.out)).trans HG.out)
  obtain ⟨hz0, hz1, hz2, hz3, hz4, hz5, hz6, hz7, hz8⟩ := cX HG.out
  clear HB1 HB2 hrb
  go_upto_region 2 with (go_at_call 59; refine (HRI.out _ HB.out).mono ?_; rintro r w3 ⟨rfl, hB3⟩; replace HG := Lib.hid ((hB3.block g (blk_lt HG.out)).trans HG.out); replace HR := Lib.hid ((hB3.block rb (blk_lt HR.out)).trans HR.out); replace HB := Lib.hid (HB.out.trans (hB3.mono HB.out.size)); clear hB3)
  clear HRI hz0 hz1 hz2 hz3 hz4 hz5 hz6 hz7 hz8
  cases rt with
  | false =>
    have hq : zeroX = q := HQ.out
    subst hq
    have HR4 := HR
    clear HNO HQ HG
    go_wp2_with (first | (((with_reducible refine gate_store (p := 2) (v := .tmp 9) rfl ?_); refine wpList_store_row rfl 26 (.tmp 2) (.tmp 9) rfl rb (exC zeroX none 0) rfl rfl 26 zerosE HR4.out (info_ex _ _ _) rfl (one_ex _ _ _) ?_)))
    refine bodyPost_ret (results_ct (p := 2) (u := 3) rfl _ _ rb 26 (exC zeroX none 0) (0, 0) _ rfl (setRow_at _ rb _ _ _ HR4.out) Tryz.underlying26 rfl (info_ex _ _ _)) rfl ?_
    exact ⟨none, 0, rfl, Kd.C_nil _ _, below_setRow' HB.out hrbw _⟩
  | true =>
    have hq : normF e = q := HQ.out
    have HNC := Lib.hid (HNO.out rfl w3 HB.out)
    rw [hq] at HNC
    obtain ⟨hz0, hz1, hz2, hz3, hz4, hz5, hz6, hz7, hz8⟩ := cX HG.out
    clear HNO HQ hq HG
    go_wp2_with (first | (go_at_call 60; refine HNC.out.mono ?_; rintro r w4 ⟨D, k, rfl, hF, hB4⟩; have HF := Lib.hid hF; have HR4 := Lib.hid ((hB4.block rb (blk_lt HR.out)).trans HR.out); have HB4 := Lib.hid (HB.out.trans (hB4.mono HB.out.size)); clear hF hB4) | (((with_reducible refine gate_store (p := 2) (v := .tmp 11) rfl ?_); refine wpList_store_row rfl 26 (.tmp 2) (.tmp 11) rfl rb (exC q D k) rfl rfl 26 zerosE HR4.out (info_ex _ _ _) rfl (one_ex _ _ _) ?_)))
    refine bodyPost_ret (results_ct (p := 2) (u := 3) rfl _ _ rb 26 (exC q D k) (0, 0) _ rfl (setRow_at _ rb _ _ _ HR4.out) Tryz.underlying26 rfl (info_ex _ _ _)) rfl ?_
    exact ⟨D, k, rfl, Kd.F_now (Kd.F_step HF.out (fun i hi hlt => by obtain ⟨o, ho⟩ : ∃ o, w4.heap[i]? = some o := ⟨_, Array.getElem?_eq_getElem hlt⟩; rw [ho]; exact setRow_far _ (by have := blk_lt HR.out; omega) ho _)), below_setRow' HB4.out hrbw _⟩
@[reducible] def TurnAt (op t : Int) (W : World) : Prop := ∀ Q : Ending → World → Prop, (∀ e_ w'', (e_ = .returned (.int .i64 t) ∧ Below W.heap.size W w'') → Q e_ w'') → Calls Tryz.prog 33 #[.int .i64 op] W Q
theorem knownB_eq (x : Ex) : knownB x = ((x.f0 == 1) && (x.f1.f0 != 0)) := by unfold knownB; cases (x.f0 == 1) <;> simp
theorem pq_O {b : Bl} {st : List Sta} {op : Int} {x r : Ex} (h18 : ¬ (op = 18 ∧ x.f0 = 2)) (h : op < 9 ∨ op > 14) : partQ b st op x r = (1, 3) := by unfold partQ; rw [if_neg h18, if_pos h]
theorem pq_A {b : Bl} {st : List Sta} {op : Int} {x r : Ex} (h : ¬ (op < 9 ∨ op > 14)) (h18 : ¬ op = 18) (h2 : x.f0 = 2) (hk : knownB r = true) : partQ b st op x r = hpartF op (colF b st x) r.f1 := by unfold partQ; rw [if_neg (fun e => h18 e.1), if_neg h, if_pos ⟨h2, hk⟩]
theorem pq_B {b : Bl} {st : List Sta} {op : Int} {x r : Ex} (h : ¬ (op < 9 ∨ op > 14)) (h18 : ¬ op = 18) (h2 : ¬ x.f0 = 2) (hk : knownB x = true) (hr : r.f0 = 2) : partQ b st op x r = hpartF (turnO op) (colF b st r) x.f1 := by unfold partQ; rw [if_neg (fun e => h18 e.1), if_neg h, if_neg (fun e => h2 e.1), if_pos ⟨hk, hr⟩]
theorem pq_C {b : Bl} {st : List Sta} {op : Int} {x r : Ex} (h9 : op = 9) (hx : x.f0 = 2) (hr : r.f0 = 2) : partQ b st op x r = (1, mx (mx 1 (clipI (colF b st x).f0)) (clipI (colF b st r).f0)) := by
  unfold partQ
  rw [if_neg (by omega), if_neg (by omega), if_neg (fun e => by have h := e.2; rw [knownB_eq, hr] at h; cases h), if_neg (fun e => by have h := e.1; rw [knownB_eq, hx] at h; cases h), if_pos ⟨h9, hx, hr⟩]
theorem pq_D {b : Bl} {st : List Sta} {op : Int} {x r : Ex} (h : ¬ (op < 9 ∨ op > 14)) (h18 : ¬ op = 18) (hA : ((x.f0 == 2) && ((r.f0 == 1) && (r.f1.f0 != 0))) = false) (hB : (((x.f0 == 1) && (x.f1.f0 != 0)) && (r.f0 == 2)) = false) (hC : ((op == 9) && ((x.f0 == 2) && (r.f0 == 2))) = false) : partQ b st op x r = (1, 3) := by
  unfold partQ
  rw [if_neg (fun e => h18 e.1), if_neg h, if_neg (fun e => by rw [← knownB_eq, e.2, beq_iff_eq.mpr e.1] at hA; cases hA), if_neg (fun e => by rw [← knownB_eq, e.1, beq_iff_eq.mpr e.2] at hB; cases hB), if_neg (fun e => by rw [beq_iff_eq.mpr e.1, beq_iff_eq.mpr e.2.1, beq_iff_eq.mpr e.2.2] at hC; cases hC)]
theorem below_undrew' {w w' : World} (h : Below w.drew.heap.size w.drew w') : Below w.heap.size w w' := ⟨h.os, h.tape, h.output, h.size, h.block⟩
theorem rturned_f (op : Int) : q14_turned.f op = some (turnO op) := by
  unfold q14_turned.f turnO
  split
  · rfl
  · split <;> rfl
theorem rturned_ok (op : Int) (W : World) : Calls Tryz.prog 33 #[.int .i64 op] W fun e w' => e = .returned (.int .i64 (turnO op)) ∧ Below W.heap.size W w' :=
  (q14_turned.calls op _ W (rturned_f op)).mono (fun e w' h => ⟨h.1, h.2.below⟩)
set_option maxHeartbeats 8000000 in
set_option maxRecDepth 100000 in
theorem rpart14_ok (e : Ex) (A8 : Option Addr) (c8 : Nat) (b : Bl) (a : BA) (st : List Sta) (A1 : Option Addr) (c1 : Nat) (w : World) (hRg : rngF e = true) (hC : Kd.C KX w A8 e.f6.length e.f6) (hc8 : e.f6.length ≤ c8) (hb : BR b a w) (hS : Kd.C k51 w A1 st.length st) (hc1 : st.length ≤ c1) :
    Calls Tryz.prog 12 #[.agg (exC e A8 c8), .agg (blC b a), .slice A1 st.length c1] w fun r w' => r = .returned (.tuple #[.int .i64 (partF b st e).1, .int .i64 (partF b st e).2]) ∧ Below w.heap.size w w' := by
  have HSV := SV.of hS hc1
  obtain ⟨n, hn⟩ : ∃ n, st.length = n := ⟨_, rfl⟩
  have HHI : Hid (∀ (W : World), Below w.heap.size w W → ∀ (x : Ex) (A : Option Addr) (c : Nat), 0 ≤ x.f2 → 0 ≤ x.f3 → HistAt A1 n c1 b a x A c (colF b st x) W) := Lib.hid (fun W hW x A c h2 h3 Q hQ => (by
    have h := rhist_ok _ b a st A1 c1 x A c W (hb.later hW) (HSV.later hW) (fun k hk => Nat.lt_of_lt_of_le hk hW.size) h2 h3
    rw [hn] at h
    exact h.mono (fun e_ w'' => by rintro ⟨D, k, rfl, hk, hF, hB⟩; exact hQ _ _ ⟨D, k, rfl, hk, Kd.F_now hF, hB⟩)))
  have HST : Hid (∀ (W : World), Below w.heap.size w W → ∀ rel : Int, 0 ≤ rel → StatAt A1 n c1 b a rel (statF b.f0 st rel).f0 W) := Lib.hid (fun W hW rel h2 Q hQ => (by
    have h := rstat_ok _ b a st A1 c1 rel W (hb.later hW) (HSV.later hW) h2
    rw [hn] at h
    exact h.mono (fun e_ w'' => by rintro ⟨A2, c2, rfl, hk, hF, hB⟩; exact hQ _ _ ⟨A2, _, c2, rfl, hB⟩)))
  have HPA : Hid (∀ (op : Int) (h : Hi) (v : Va) (D : Option Addr) (k : Nat) (W : World), h.f2.length ≤ k → Kd.C k126 W D h.f2.length h.f2 → PartAt op h v (hpartF op h v).1 (hpartF op h v).2 D k W) := Lib.hid (fun op h v D k W hk hCD => rpart_ok op h D k v W hCD hk)
  have HCP := Lib.hid (fun (m : Int) (W : World) => q13_Clip.calls m (clipI m) W (rclip_f m))
  obtain ⟨pn, hpn⟩ : ∃ pn, partF b st e = pn := ⟨_, rfl⟩
  rw [hpn, hn]
  have HPN := Lib.hid hpn
  obtain ⟨y, hye⟩ : ∃ y, (normalRes e).1 = y := ⟨_, rfl⟩
  obtain ⟨ok, hoke⟩ : ∃ ok, rightB e = ok := ⟨_, rfl⟩
  have HNC := Lib.hid (fun (W : World) (hW : Below w.heap.size w W) => rnorm_ok e A8 c8 W hRg (Kd.C_below hC hW) hc8)
  rw [hye, hoke] at HNC
  have HY : Hid (rightB e = true ∧ y = normF e ∧ ok = true ∨ rightB e = false ∧ ok = false) := Lib.hid (by
    rw [← hye, ← hoke]; unfold normalRes
    cases rightB e with
    | true => exact .inl ⟨rfl, rfl, rfl⟩
    | false => exact .inr ⟨rfl, rfl⟩)
  clear hRg hC hc8 hb hS hc1 hn hpn HSV hye hoke
  unfold exC at HNC
  unfold exC blC
  go_enter Tryz.func12, Tryz.ntmps12
  go_upto_region 1 with (first | ((with_reducible refine gate_dst (N := 3) rfl ?_); refine box_event rfl (N := 3) rfl (cs := exC e A8 c8) (t := 26) (by first | rfl | (go_simp; done) | (go_simp; rfl)) ?_; intro g3 hgg w1 hbg3 hBg3;  have HG := Lib.hid hbg3; have HB1 := Lib.hid hBg3; clear hgg hbg3 hBg3) | ((with_reducible refine gate_dst (N := 4) rfl ?_); refine box_event rfl (N := 4) rfl (cs := blC b a) (t := 30) (by first | rfl | (go_simp; done) | (go_simp; rfl)) ?_; intro g4 hgg w2 hbg4 hBg4;  have HG4 := Lib.hid hbg4; have HB2 := Lib.hid hBg4; clear hgg hbg4 hBg4))
  have HB : Hid (Below w.heap.size w w2) := Lib.hid (HB1.out.trans (HB2.out.mono HB1.out.size))
  replace HG := Lib.hid ((HB2.out.block g3 (blk_lt HG.out)).trans HG.out)
  obtain ⟨hz0, hz1, hz2, hz3, hz4, hz5, hz6, hz7, hz8⟩ := cX HG.out
  replace HNC := Lib.hid (HNC.out w2 HB.out)
  clear HB1 HB2
  go_upto_region 2 with (first | (go_at_call 28; refine HNC.out.mono ?_; rintro rr w3 ⟨D, k, rfl, hCD, hB3⟩; have HCD := Lib.hid hCD; have HB3 := Lib.hid hB3; clear hB3 hCD) | ((with_reducible refine gate_dst (N := 8) rfl ?_); refine box_event rfl (N := 8) rfl (cs := #[.int .i64 0, .int .i64 0, .int .i64 0, .string ⟨#[]⟩, .int .i64 0, .int .i64 0, .int .i64 0, .string ⟨#[]⟩, .slice none 0 0]) (t := 26) (by first | rfl | (go_simp; done) | (go_simp; rfl)) ?_; intro g8 hgg w4 hbg8 hBg8;  have hg8w : w3.heap.size ≤ g8 := (by omega); have HG8' := Lib.hid hbg8; have HB4 := Lib.hid hBg8; clear hgg hbg8 hBg8) | ((with_reducible refine gate_store (p := 8) (v := .tmp 17) rfl ?_); refine wpList_store_row rfl 26 (.tmp 8) (.tmp 17) rfl g8 (exC y D k) rfl rfl 26 #[.int .i64 0, .int .i64 0, .int .i64 0, .string ⟨#[]⟩, .int .i64 0, .int .i64 0, .int .i64 0, .string ⟨#[]⟩, .slice none 0 0] HG8'.out (info_ex _ _ _) rfl (one_ex _ _ _) ?_))
  clear HNC hz0 hz1 hz2 hz3 hz4 hz5 hz6 hz7 hz8
  have HBs : Hid (Below w3.heap.size w3 (w4.setRow g8 (exC y D k))) := Lib.hid (below_setRow' HB4.out hg8w _)
  have HG8 : Hid ((w4.setRow g8 (exC y D k)).heap[g8]? = some (.cells (exC y D k) 26 (0, 0))) := Lib.hid (setRow_at w4 g8 _ _ (exC y D k) HG8'.out)
  generalize w4.setRow g8 (exC y D k) = w5 at HBs HG8 ⊢
  have HB5 : Hid (Below w.heap.size w w5) := Lib.hid (HB.out.trans ((HB3.out.trans (HBs.out.mono HB3.out.size)).mono HB.out.size))
  have HF5 : Hid (Kd.C KX w5 D y.f6.length y.f6) := Lib.hid (Kd.C_below HCD.out HBs.out)
  have HGB : Hid (w5.heap[g4]? = some (.cells (blC b a) 30 (0, 0))) := Lib.hid (((HB3.out.trans (HBs.out.mono HB3.out.size)).block g4 (blk_lt HG4.out)).trans HG4.out)
  clear HBs HCD HB4 HB3 HG8' HG4 HG hg8w HB
  cases ok with
  | false =>
    have hp : ((1 : Int), (3 : Int)) = pn := by
      rcases HY.out with ⟨_, _, h⟩ | ⟨h, _⟩
      · cases h
      · rw [← HPN.out]; unfold partF; rw [h, if_neg (by decide)]
    subst hp
    clear HPN HY
    go_wp2_with fail
    go_ret2
    exact ⟨rfl, HB5.out⟩
  | true =>
    have hyr : rightB e = true ∧ y = normF e := by
      rcases HY.out with ⟨h, h2, _⟩ | ⟨_, h⟩
      · exact ⟨h, h2⟩
      · cases h
    have HRY : Hid (Rt y) := Lib.hid (by rw [hyr.2]; exact Rt.of (right_norm hyr.1))
    have HP : Hid ((match y.f6 with | [] => (1, 3) | [x] => partQ b st y.f0 x x | x :: z :: _ => partQ b st y.f0 x z) = pn) := Lib.hid (by have h := HPN.out; unfold partF at h; rw [hyr.1, if_pos rfl, ← hyr.2] at h; exact h)
    have hl0 := (own_true HRY.out.own).2
    have HKID := Lib.hid (fun (x : Ex) (hx : x ∈ y.f6) => HRY.out.kid hx)
    have z0 : w5.cell? ⟨g8, 0, none⟩ = some (.int .i64 y.f0) := (bkC HG8.out 0).trans rfl
    have z8 : w5.cell? ⟨g8, 8, none⟩ = some (.slice D y.f6.length k) := (bkC HG8.out 8).trans rfl
    obtain ⟨op, hop⟩ : ∃ op, y.f0 = op := ⟨_, rfl⟩
    obtain ⟨l, hl⟩ : ∃ l, y.f6 = l := ⟨_, rfl⟩
    rw [hop, hl] at hl0
    rw [hop] at z0
    rw [hl] at z8 HF5 HKID
    rw [hop, hl] at HP
    have HL0 := Lib.hid hl0
    clear hyr HY HPN HRY HG8 hop hl hl0
    by_cases h18 : op = 18
    · subst h18
      obtain ⟨x, rfl⟩ : ∃ x, l = [x] := by
        have h := HL0.out
        rw [show wantsI 18 = 1 from by decide] at h
        exact List.length_eq_one_iff.1 (by omega)
      have HPX : Hid (partQ b st 18 x x = pn) := HP
      have HRX := Lib.hid (HKID.out x (.head _))
      obtain ⟨ad, Ax, cx, x', rfl, hx, p0, p1, p2, p3, p4, p5, p6, p7, p8, hcx, hCx⟩ := at_ex HF5.out rfl 0 (by simp)
      obtain rfl := Option.some.inj hx
      simp only [Nat.zero_mul] at p0 p1 p2 p3 p4 p5 p6 p7 p8
      rw [show ad.add 0 = ad from rfl] at p0 p1 p2 p3 p4 p5 p6 p7 p8
      simp only [List.length_singleton] at z8
      clear hx hCx hcx HP HL0 HKID HF5
      by_cases hx2 : x.f0 = 2
      · have bx2 : (x.f0 == 2) = true := beq_iff_eq.mpr hx2
        have hr3 := HRX.out.rel hx2
        have hp : (mn (clipI (statF b.f0 st x.f2).f0) (clipI (colF b st x).f1), mx 1 (clipI (statF b.f0 st x.f2).f0)) = pn := by have h := HPX.out; unfold partQ at h; rw [if_pos ⟨rfl, hx2⟩] at h; exact h
        have HSA := Lib.hid (HST.out w5.drew (below_drew HB5.out) x.f2 hr3.1)
        have HH := Lib.hid (fun (W : World) (hW : Below w.heap.size w W) => HHI.out W hW x Ax cx hr3.1 hr3.2.2.1)
        generalize (statF b.f0 st x.f2).f0 = s at HSA hp
        generalize colF b st x = hz at HH hp
        obtain ⟨rows, hrows⟩ : ∃ rows, clipI s = rows := ⟨_, rfl⟩
        obtain ⟨nul, hnul⟩ : ∃ nul, clipI hz.f1 = nul := ⟨_, rfl⟩
        obtain ⟨j1, hj1⟩ : ∃ j, mx 1 rows = j := ⟨_, rfl⟩
        obtain ⟨j2, hj2⟩ : ∃ j, mn rows nul = j := ⟨_, rfl⟩
        have HC1 := Lib.hid (HCP.out s); have HC2 := Lib.hid (HCP.out hz.f1)
        rw [hrows, hnul, hj1, hj2] at hp
        rw [hrows] at HC1; rw [hnul] at HC2
        have hj1_ : (if 1 < rows then rows else 1) = j1 := hj1
        have hj2_ : (if rows < nul then rows else nul) = j2 := by rw [← hj2]; unfold mn; (repeat' split) <;> omega
        have HPE := Lib.hid hp
        clear hp hrows hnul hj1 hj2 HPX hx2 hr3 HST HHI HRX
        go_upto_region 5 with fail
        clear z0
        have hfl0 := fld_stat0
        have bx : CBw w5.drew g4 b a := cB HGB.out
        have t8 : w5.drew.cell? ⟨g8, 8, none⟩ = some (.slice (some ad) 1 k) := z8
        have t4 : w5.drew.cell? ⟨ad.block, ad.off + 4, none⟩ = some (.int .i64 x.f2) := p4
        go_region_held3 (fun w' => CBw w' g4 b a ∧ w'.cell? ⟨g8, 8, none⟩ = some (.slice (some ad) 1 k) ∧ w'.cell? ⟨ad.block, ad.off + 4, none⟩ = some (.int .i64 x.f2)) (refine ⟨?_, ?_, ?_⟩ <;> assumption) (first | (go_at_call 30; with_reducible refine HSA.out _ ?_; rintro rr w6 ⟨A2, k2, c2, rfl, hB6⟩; have by_ := bx.mv hB6; have u8 := pw_cell_below hB6 t8; have u4 := pw_cell_below hB6 t4; have HX := HC1.out w6; have HB6 := Lib.hid (below_undrew' hB6); clear hB6) | (go_at_call 29; with_reducible refine HX.mono ?_; rintro rr w7 ⟨rfl, hB7⟩; have bz := by_.mv hB7; have v8 := pw_cell_below hB7 u8; have v4 := pw_cell_below hB7 u4))
        have HB7 : Hid (Below w5.heap.size w5 w7) := Lib.hid (HB6.out.trans (hB7.mono HB6.out.size))
        clear bx by_ bz t8 t4 u8 u4 v8 v4 HSA hB7 HB6 hfl0
        have PA : CAw w7 ad x Ax cx := CAw.mv ⟨p0, p1, p2, p3, p4, p5, p6, p7, p8⟩ HB7.out
        clear p0 p1 p2 p3 p4 p5 p6 p7 p8
        replace z8 := pw_cell_below HB7.out z8
        replace HGB := Lib.hid ((HB7.out.block g4 (blk_lt HGB.out)).trans HGB.out)
        replace HB5 : Hid (Below w.heap.size w w7) := Lib.hid (HB5.out.trans (HB7.out.mono HB5.out.size))
        have HCR := Lib.hid (HH.out w7.drew (below_drew HB5.out))
        go_upto_region 6 with fail
        have hfl1 := fld_hist1
        clear HB7 HH
        have bx : CBw w7.drew g4 b a := cB HGB.out
        have t8 : w7.drew.cell? ⟨g8, 8, none⟩ = some (.slice (some ad) 1 k) := z8
        have tp : CAw w7.drew ad x Ax cx := PA
        go_region_held3 (fun w' => CBw w' g4 b a ∧ w'.cell? ⟨g8, 8, none⟩ = some (.slice (some ad) 1 k) ∧ CAw w' ad x Ax cx) (refine ⟨?_, ?_, ?_⟩ <;> assumption) (first | (go_at_call 31; with_reducible refine HCR.out _ ?_; rintro rr w8 ⟨D2, k2, rfl, hk2, hCD2, hB8⟩; have by_ := bx.mv hB8; have u8 := pw_cell_below hB8 t8; have up := tp.mv hB8; have HX := HC2.out w8; have HB8 := Lib.hid (below_undrew' hB8); clear hB8 hk2 hCD2) | (go_at_call 29; with_reducible refine HX.mono ?_; rintro rr w9 ⟨rfl, hB9⟩; have bz := by_.mv hB9; have v8 := pw_cell_below hB9 u8; have uq := up.mv hB9))
        have HBF : Hid (Below w.heap.size w w9) := Lib.hid (HB5.out.trans ((HB8.out.trans (hB9.mono HB8.out.size)).mono HB5.out.size))
        clear bx by_ bz tp up uq t8 u8 v8 HCR hB9 HB8 hfl1
        go_wp2_with fail
        go_ret2
        exact ⟨by rw [← HPE.out]; rfl, HBF.out⟩
      · have bx2 : (x.f0 == 2) = false := beq_eq_false_iff_ne.mpr hx2
        have hp : ((1 : Int), (3 : Int)) = pn := by have h := HPX.out; unfold partQ at h; rw [if_neg (fun h => hx2 h.2), if_pos (.inr (by decide))] at h; exact h
        subst hp
        clear hx2 HPX HRX
        go_wp2_with fail
        go_ret2
        exact ⟨rfl, HB5.out⟩
    have b18 : (op == 18) = false := beq_eq_false_iff_ne.mpr h18
    have e1 : ∀ x : Ex, ¬ (op = 18 ∧ x.f0 = 2) := fun x h => h18 h.1
    by_cases ho : op < 9 ∨ op > 14
    · have hp : ((1 : Int), (3 : Int)) = pn := by
        have h := HP.out
        match l, h with
        | [], h => exact h
        | [x], h => exact (pq_O (e1 x) ho).symm.trans h
        | x :: z :: _, h => exact (pq_O (e1 x) ho).symm.trans h
      subst hp
      by_cases h9 : op < 9
      · clear HP HL0 HKID e1 ho h18 HF5
        go_wp2_with fail
        go_ret2
        exact ⟨rfl, HB5.out⟩
      · have h14 : op > 14 := by omega
        clear HP HL0 HKID e1 ho h18 HF5
        go_wp2_with fail
        go_ret2
        exact ⟨rfl, HB5.out⟩
    have h9 : ¬ op < 9 := by omega
    have h14 : ¬ op > 14 := by omega
    obtain ⟨x, r, rfl⟩ : ∃ x r, l = [x, r] := by
      have h := HL0.out
      have hw : wantsI op = 2 := by
        have h3 : op = 9 ∨ op = 10 ∨ op = 11 ∨ op = 12 ∨ op = 13 ∨ op = 14 := by omega
        rcases h3 with rfl | rfl | rfl | rfl | rfl | rfl <;> decide
      rw [hw] at h
      rcases l with _ | ⟨x, _ | ⟨r, _ | ⟨z, l⟩⟩⟩
      · simp at h
      · simp at h
      · exact ⟨x, r, rfl⟩
      · simp only [List.length_cons] at h; omega
    have HPX : Hid (partQ b st op x r = pn) := HP
    have HRX := Lib.hid (HKID.out x (.head _))
    have HRR := Lib.hid (HKID.out r (.tail _ (.head _)))
    have HE := Lib.hid (And.intro h18 ho)
    obtain ⟨ad, Ax, cx, x', rfl, hx, p0, p1, p2, p3, p4, p5, p6, p7, p8, hcx, hCx⟩ := at_ex HF5.out rfl 0 (by simp)
    obtain rfl := Option.some.inj hx
    simp only [Nat.zero_mul] at p0 p1 p2 p3 p4 p5 p6 p7 p8
    rw [show ad.add 0 = ad from rfl] at p0 p1 p2 p3 p4 p5 p6 p7 p8
    obtain ⟨_, Ar, cr, r', had, hz, q0, q1, q2, q3, q4, q5, q6, q7, q8, hcz, hCz⟩ := at_ex HF5.out rfl 1 (by simp)
    cases had
    obtain rfl := Option.some.inj hz
    simp only [Nat.one_mul] at q0 q1 q2 q3 q4 q5 q6 q7 q8
    rw [ad_block, ad_off] at q1 q2 q3 q4 q5 q6 q7 q8
    rw [show ad.add 9 = ⟨ad.block, ad.off + 9, none⟩ from rfl] at q0
    simp only [List.length_cons, List.length_nil, Nat.zero_add, Nat.reduceAdd] at z8
    clear hx hCx hcx hz hCz hcz HP HL0 HKID HF5 e1 ho h18
    go_upto_region 11 with (first | ((with_reducible refine gate_dst (N := 12) rfl ?_); refine box_event rfl (N := 12) rfl (cs := #[.int .i64 0, .int .i64 0, .int .i64 0, .string ⟨#[]⟩, .int .i64 0, .int .i64 0, .int .i64 0, .string ⟨#[]⟩, .slice none 0 0]) (t := 26) (by first | rfl | (go_simp; done) | (go_simp; rfl)) ?_; intro lb hgg w6 hblb hBlb;  have hlbw : w5.heap.size ≤ lb := (by omega); have HL' := Lib.hid hblb; have HB6 := Lib.hid hBlb; clear hgg hblb hBlb) | ((with_reducible refine gate_store (p := 12) (v := .tmp 67) rfl ?_); refine wpList_store_row rfl 26 (.tmp 12) (.tmp 67) rfl lb (exC x Ax cx) rfl rfl 26 #[.int .i64 0, .int .i64 0, .int .i64 0, .string ⟨#[]⟩, .int .i64 0, .int .i64 0, .int .i64 0, .string ⟨#[]⟩, .slice none 0 0] HL'.out (info_ex _ _ _) rfl (one_ex _ _ _) ?_))
    have HBs : Hid (Below w5.heap.size w5 (w6.setRow lb (exC x Ax cx))) := Lib.hid (below_setRow' HB6.out hlbw _)
    have HL : Hid ((w6.setRow lb (exC x Ax cx)).heap[lb]? = some (.cells (exC x Ax cx) 26 (0, 0))) := Lib.hid (setRow_at w6 lb _ _ (exC x Ax cx) HL'.out)
    generalize w6.setRow lb (exC x Ax cx) = w7 at HBs HL ⊢
    replace z0 := pw_cell_below HBs.out z0
    replace z8 := pw_cell_below HBs.out z8
    replace q0 := pw_cell_below HBs.out q0; replace q1 := pw_cell_below HBs.out q1; replace q2 := pw_cell_below HBs.out q2; replace q3 := pw_cell_below HBs.out q3; replace q4 := pw_cell_below HBs.out q4; replace q5 := pw_cell_below HBs.out q5; replace q6 := pw_cell_below HBs.out q6; replace q7 := pw_cell_below HBs.out q7; replace q8 := pw_cell_below HBs.out q8
    replace HGB := Lib.hid ((HBs.out.block g4 (blk_lt HGB.out)).trans HGB.out)
    replace HB5 : Hid (Below w.heap.size w w7) := Lib.hid (HB5.out.trans (HBs.out.mono HB5.out.size))
    clear HB6 HL' HBs hlbw p0 p1 p2 p3 p4 p5 p6 p7 p8
    go_upto_region 12 with (first | ((with_reducible refine gate_dst (N := 13) rfl ?_); refine box_event rfl (N := 13) rfl (cs := #[.int .i64 0, .int .i64 0, .int .i64 0, .string ⟨#[]⟩, .int .i64 0, .int .i64 0, .int .i64 0, .string ⟨#[]⟩, .slice none 0 0]) (t := 26) (by first | rfl | (go_simp; done) | (go_simp; rfl)) ?_; intro rb hgg w8 hbrb hBrb;  have hrbw : w7.heap.size ≤ rb := (by omega); have HR' := Lib.hid hbrb; have HB6 := Lib.hid hBrb; clear hgg hbrb hBrb) | ((with_reducible refine gate_store (p := 13) (v := .tmp 71) rfl ?_); refine wpList_store_row rfl 26 (.tmp 13) (.tmp 71) rfl rb (exC r Ar cr) rfl rfl 26 #[.int .i64 0, .int .i64 0, .int .i64 0, .string ⟨#[]⟩, .int .i64 0, .int .i64 0, .int .i64 0, .string ⟨#[]⟩, .slice none 0 0] HR'.out (info_ex _ _ _) rfl (one_ex _ _ _) ?_))
    have HBs : Hid (Below w7.heap.size w7 (w8.setRow rb (exC r Ar cr))) := Lib.hid (below_setRow' HB6.out hrbw _)
    have HR : Hid ((w8.setRow rb (exC r Ar cr)).heap[rb]? = some (.cells (exC r Ar cr) 26 (0, 0))) := Lib.hid (setRow_at w8 rb _ _ (exC r Ar cr) HR'.out)
    generalize w8.setRow rb (exC r Ar cr) = wc at HBs HR ⊢
    replace z0 := pw_cell_below HBs.out z0
    replace HGB := Lib.hid ((HBs.out.block g4 (blk_lt HGB.out)).trans HGB.out)
    replace HL := Lib.hid ((HBs.out.block lb (blk_lt HL.out)).trans HL.out)
    replace HB5 : Hid (Below w.heap.size w wc) := Lib.hid (HB5.out.trans (HBs.out.mono HB5.out.size))
    clear HB6 HR' HBs hrbw q0 q1 q2 q3 q4 q5 q6 q7 q8 z8
    have lx0 : wc.cell? ⟨lb, 0, none⟩ = some (.int .i64 x.f0) := (bkC HL.out 0).trans rfl
    have lx1 : wc.cell? ⟨lb, 1, none⟩ = some (.int .i64 x.f1.f0) := (bkC HL.out 1).trans rfl
    have rx0 : wc.cell? ⟨rb, 0, none⟩ = some (.int .i64 r.f0) := (bkC HR.out 0).trans rfl
    have rx1 : wc.cell? ⟨rb, 1, none⟩ = some (.int .i64 r.f1.f0) := (bkC HR.out 1).trans rfl
    by_cases hx2 : x.f0 = 2
    · have bx2 : (x.f0 == 2) = true := beq_iff_eq.mpr hx2
      have bx1 : (x.f0 == 1) = false := beq_eq_false_iff_ne.mpr (by omega)
      have HX2 := Lib.hid hx2
      clear hx2
      cases br1 : (r.f0 == 1) with
      | true =>
        have br2 : (r.f0 == 2) = false := beq_eq_false_iff_ne.mpr (by have := beq_iff_eq.1 br1; omega)
        cases brv : (r.f1.f0 != 0) with
        | true =>
          have hp : hpartF op (colF b st x) r.f1 = pn := by rw [← HPX.out]; exact (pq_A HE.out.2 HE.out.1 HX2.out (by rw [knownB_eq, br1, brv]; rfl)).symm
          have hr3 := HRX.out.rel HX2.out
          go_upto_region 13 with fail
          clear lx0 lx1 rx0 rx1 br1 brv br2 bx1 bx2 b18 h9 h14
          have HCR := Lib.hid (HHI.out wc.drew (below_drew HB5.out) x Ax cx hr3.1 hr3.2.2.1)
          have HPT := Lib.hid (fun (D : Option Addr) (k : Nat) (W : World) => HPA.out op (colF b st x) r.f1 D k W)
          have HPE := Lib.hid hp
          generalize colF b st x = hz at HCR HPT HPE
          generalize hpartF op hz r.f1 = pp at HPT HPE
          clear hp hr3 HPX HX2 HST HHI HPA HCP HRX HRR HE
          have b0_ : CBw wc.drew g4 b a := cB HGB.out
          have l0_ : CXw wc.drew lb x Ax cx := cX HL.out
          have v0_ : CVw wc.drew rb r := cV HR.out
          have zz0_ : wc.drew.cell? ⟨g8, 0, none⟩ = some (.int .i64 op) := z0
          go_region_held3 (fun w' => w'.cell? ⟨g8, 0, none⟩ = some (.int .i64 op) ∧ CBw w' g4 b a ∧ CXw w' lb x Ax cx ∧ CVw w' rb r) (refine ⟨?_, ?_, ?_, ?_⟩ <;> assumption) (first | (go_at_call 31; with_reducible refine HCR.out _ ?_; rintro rr w9 ⟨D2, k2, rfl, hk2, hCD2, hB9⟩; have b1_ := b0_.mv hB9; have l1_ := l0_.mv hB9; have v1_ := v0_.mv hB9; have zz1_ := pw_cell_below hB9 zz0_; have HX := HPT.out D2 k2 w9 hk2 hCD2; have HB9 := Lib.hid (below_undrew' hB9); clear hB9) | (go_at_call 32; with_reducible refine Calls.mono HX ?_; rintro rr w10 ⟨rfl, hB10⟩; have b2_ := b1_.mv hB10; have l2_ := l1_.mv hB10; have v2_ := v1_.mv hB10; have zz2_ := pw_cell_below hB10 zz1_))
          have HBF : Hid (Below w.heap.size w w10) := Lib.hid (HB5.out.trans ((HB9.out.trans (hB10.mono HB9.out.size)).mono HB5.out.size))
          clear b0_ b1_ b2_ l0_ l1_ l2_ v0_ v1_ v2_ zz0_ zz1_ zz2_
          go_wp2_with fail
          go_ret2
          exact ⟨by rw [← HPE.out]; rfl, HBF.out⟩
        | false =>
          cases b9 : (op == 9) <;> (have hp : ((1 : Int), (3 : Int)) = pn := (by rw [← HPX.out]; exact (pq_D HE.out.2 HE.out.1 (by simp [*]) (by simp [*]) (by simp [*])).symm); subst hp; clear HPX HRX HRR HX2 HE HL HR HST HHI HPA HCP; go_wp2_with fail; go_ret2; exact ⟨rfl, HB5.out⟩)
      | false =>
        cases br2 : (r.f0 == 2) with
        | true =>
          cases b9 : (op == 9) with
          | true =>
            have hp : ((1 : Int), mx (mx 1 (clipI (colF b st x).f0)) (clipI (colF b st r).f0)) = pn := by rw [← HPX.out]; exact (pq_C (beq_iff_eq.1 b9) HX2.out (beq_iff_eq.1 br2)).symm
            have hr3 := HRX.out.rel HX2.out
            have hr4 := HRR.out.rel (beq_iff_eq.1 br2)
            go_upto_region 17 with fail
            clear lx0 lx1 rx0 rx1 br1 br2 bx1 bx2 b18 h9 h14
            have HCR := Lib.hid (HHI.out wc.drew (below_drew HB5.out) x Ax cx hr3.1 hr3.2.2.1)
            have HCZ := Lib.hid (fun (W : World) (hW : Below w.heap.size w W) => HHI.out W hW r Ar cr hr4.1 hr4.2.2.1)
            have HPE := Lib.hid hp
            generalize colF b st x = hz at HCR HPE
            generalize colF b st r = hy at HCZ HPE
            obtain ⟨i1, hi1⟩ : ∃ i, clipI hz.f0 = i := ⟨_, rfl⟩
            obtain ⟨i2, hi2⟩ : ∃ i, clipI hy.f0 = i := ⟨_, rfl⟩
            have HC1 := Lib.hid (HCP.out hz.f0); have HC2 := Lib.hid (HCP.out hy.f0)
            rw [hi1] at HC1; rw [hi2] at HC2
            obtain ⟨j1, hj1⟩ : ∃ j, mx 1 i1 = j := ⟨_, rfl⟩
            obtain ⟨j2, hj2⟩ : ∃ j, mx j1 i2 = j := ⟨_, rfl⟩
            replace HPE : Hid ((1, j2) = pn) := Lib.hid (by have h := HPE.out; rw [hi1, hi2, hj1, hj2] at h; exact h)
            have hj1_ : (if 1 < i1 then i1 else 1) = j1 := hj1
            have hj2_ : (if j1 < i2 then i2 else j1) = j2 := hj2
            have hfl0 := fld_hist0
            clear hp hr3 hr4 HPX HX2 HST HHI HPA HCP HRX HRR HE hi1 hi2 hj1 hj2 b9 z0
            have b0_ : CBw wc.drew g4 b a := cB HGB.out
            have l0_ : CXw wc.drew lb x Ax cx := cX HL.out
            have v0_ : CXw wc.drew rb r Ar cr := cX HR.out
            go_region_held3 (fun w' => CBw w' g4 b a ∧ CXw w' lb x Ax cx ∧ CXw w' rb r Ar cr) (refine ⟨?_, ?_, ?_⟩ <;> assumption) (first | (go_at_call 31; with_reducible refine HCR.out _ ?_; rintro rr w9 ⟨D2, k2, rfl, hk2, hCD2, hB9⟩; have b1_ := b0_.mv hB9; have l1_ := l0_.mv hB9; have v1_ := v0_.mv hB9; have HX := HC1.out w9; have HB9 : Hid (Below w.heap.size w w9) := Lib.hid (HB5.out.trans ((below_undrew' hB9).mono HB5.out.size)); clear hB9 hk2 hCD2) | (go_at_call 29; with_reducible refine Calls.mono HX ?_; rintro rr w10 ⟨rfl, hB10⟩; have b2_ := b1_.mv hB10; have l2_ := l1_.mv hB10; have v2_ := v1_.mv hB10; have HB10 : Hid (Below w.heap.size w w10) := Lib.hid (HB9.out.trans (hB10.mono HB9.out.size)); have HY := HCZ.out w10 HB10.out; clear hB10) | (go_at_call 31; with_reducible refine HY _ ?_; rintro rr w11 ⟨D3, k3, rfl, hk3, hCD3, hB11⟩; have b3_ := b2_.mv hB11; have l3_ := l2_.mv hB11; have v3_ := v2_.mv hB11; have HV := HC2.out w11; have HB11 : Hid (Below w.heap.size w w11) := Lib.hid (HB10.out.trans (hB11.mono HB10.out.size)); clear hB11 hk3 hCD3) | (go_at_call 29; with_reducible refine Calls.mono HV ?_; rintro rr w12 ⟨rfl, hB12⟩; have b4_ := b3_.mv hB12; have l4_ := l3_.mv hB12; have v4_ := v3_.mv hB12))
            have HBF : Hid (Below w.heap.size w w12) := Lib.hid (HB11.out.trans (hB12.mono HB11.out.size))
            clear b0_ b1_ b2_ b3_ b4_ l0_ l1_ l2_ l3_ l4_ v0_ v1_ v2_ v3_ v4_
            go_wp2_with fail
            go_ret2
            exact ⟨by rw [← HPE.out]; rfl, HBF.out⟩
          | false => (have hp : ((1 : Int), (3 : Int)) = pn := (by rw [← HPX.out]; exact (pq_D HE.out.2 HE.out.1 (by simp [*]) (by simp [*]) (by simp [*])).symm); subst hp; clear HPX HRX HRR HX2 HE HL HR HST HHI HPA HCP; go_wp2_with fail; go_ret2; exact ⟨rfl, HB5.out⟩)
        | false => cases b9 : (op == 9) <;> (have hp : ((1 : Int), (3 : Int)) = pn := (by rw [← HPX.out]; exact (pq_D HE.out.2 HE.out.1 (by simp [*]) (by simp [*]) (by simp [*])).symm); subst hp; clear HPX HRX HRR HX2 HE HL HR HST HHI HPA HCP; go_wp2_with fail; go_ret2; exact ⟨rfl, HB5.out⟩)
    · have bx2 : (x.f0 == 2) = false := beq_eq_false_iff_ne.mpr hx2
      have HX2 := Lib.hid hx2
      clear hx2
      cases br2 : (r.f0 == 2) with
      | true =>
        have br1 : (r.f0 == 1) = false := beq_eq_false_iff_ne.mpr (by have := beq_iff_eq.1 br2; omega)
        cases bx1 : (x.f0 == 1) with
        | true =>
          cases bxv : (x.f1.f0 != 0) with
          | true =>
            have hp : hpartF (turnO op) (colF b st r) x.f1 = pn := by rw [← HPX.out]; exact (pq_B HE.out.2 HE.out.1 HX2.out (by rw [knownB_eq, bx1, bxv]; rfl) (beq_iff_eq.1 br2)).symm
            have hr3 := HRR.out.rel (beq_iff_eq.1 br2)
            go_upto_region 15 with fail
            clear lx0 lx1 rx0 rx1 br1 bxv br2 bx1 bx2 b18 h9 h14
            have HTC : Hid (TurnAt op (turnO op) wc.drew) := Lib.hid (fun Q hQ => (rturned_ok op wc.drew).mono hQ)
            have HHZ := Lib.hid (fun (W : World) (hW : Below w.heap.size w W) => HHI.out W hW r Ar cr hr3.1 hr3.2.2.1)
            have HPT := Lib.hid (fun (D : Option Addr) (k : Nat) (W : World) => HPA.out (turnO op) (colF b st r) x.f1 D k W)
            have HPE := Lib.hid hp
            generalize turnO op = top at HTC HPT HPE
            generalize colF b st r = hz at HHZ HPT HPE
            generalize hpartF top hz x.f1 = pp at HPT HPE
            clear hp hr3 HPX HX2 HST HHI HPA HCP HRX HRR HE
            have b0_ : CBw wc.drew g4 b a := cB HGB.out
            have l0_ : CXw wc.drew rb r Ar cr := cX HR.out
            have v0_ : CVw wc.drew lb x := cV HL.out
            have zz0_ : wc.drew.cell? ⟨g8, 0, none⟩ = some (.int .i64 op) := z0
            go_region_held3 (fun w' => w'.cell? ⟨g8, 0, none⟩ = some (.int .i64 op) ∧ CBw w' g4 b a ∧ CXw w' rb r Ar cr ∧ CVw w' lb x) (refine ⟨?_, ?_, ?_, ?_⟩ <;> assumption) (first | (go_at_call 33; with_reducible refine HTC.out _ ?_; rintro rr w9 ⟨rfl, hB9⟩; have b1_ := b0_.mv hB9; have l1_ := l0_.mv hB9; have v1_ := v0_.mv hB9; have zz1_ := pw_cell_below hB9 zz0_; have HB9 : Hid (Below w.heap.size w w9) := Lib.hid (HB5.out.trans ((below_undrew' hB9).mono HB5.out.size)); have HX := HHZ.out w9 HB9.out; clear hB9) | (go_at_call 31; with_reducible refine HX _ ?_; rintro rr w10 ⟨D2, k2, rfl, hk2, hCD2, hB10⟩; have b2_ := b1_.mv hB10; have l2_ := l1_.mv hB10; have v2_ := v1_.mv hB10; have zz2_ := pw_cell_below hB10 zz1_; have HY := HPT.out D2 k2 w10 hk2 hCD2; have HB10 : Hid (Below w.heap.size w w10) := Lib.hid (HB9.out.trans (hB10.mono HB9.out.size)); clear hB10) | (go_at_call 32; with_reducible refine Calls.mono HY ?_; rintro rr w11 ⟨rfl, hB11⟩; have b3_ := b2_.mv hB11; have l3_ := l2_.mv hB11; have v3_ := v2_.mv hB11; have zz3_ := pw_cell_below hB11 zz2_))
            have HBF : Hid (Below w.heap.size w w11) := Lib.hid (HB10.out.trans (hB11.mono HB10.out.size))
            clear b0_ b1_ b2_ b3_ l0_ l1_ l2_ l3_ v0_ v1_ v2_ v3_ zz0_ zz1_ zz2_ zz3_
            go_wp2_with fail
            go_ret2
            exact ⟨by rw [← HPE.out]; rfl, HBF.out⟩
          | false => cases b9 : (op == 9) <;> (have hp : ((1 : Int), (3 : Int)) = pn := (by rw [← HPX.out]; exact (pq_D HE.out.2 HE.out.1 (by simp [*]) (by simp [*]) (by simp [*])).symm); subst hp; clear HPX HRX HRR HX2 HE HL HR HST HHI HPA HCP; go_wp2_with fail; go_ret2; exact ⟨rfl, HB5.out⟩)
        | false => cases b9 : (op == 9) <;> (have hp : ((1 : Int), (3 : Int)) = pn := (by rw [← HPX.out]; exact (pq_D HE.out.2 HE.out.1 (by simp [*]) (by simp [*]) (by simp [*])).symm); subst hp; clear HPX HRX HRR HX2 HE HL HR HST HHI HPA HCP; go_wp2_with fail; go_ret2; exact ⟨rfl, HB5.out⟩)
      | false => cases b9 : (op == 9) <;> (have hp : ((1 : Int), (3 : Int)) = pn := (by rw [← HPX.out]; exact (pq_D HE.out.2 HE.out.1 (by simp [*]) (by simp [*]) (by simp [*])).symm); subst hp; clear HPX HRX HRR HX2 HE HL HR HST HHI HPA HCP; go_wp2_with fail; go_ret2; exact ⟨rfl, HB5.out⟩)
end Go.Proofs.YtoffpegppdmkdaaGreatDoor.E
namespace Go.Proofs.YtoffpegppdmkdaaGreatDoor.E
open Go.RowKit Go.Proofs.YtoffpegppdmkdaaGreatDoorW.PrintWords Go.Proofs.YtoffpegppdmkdaaGreatDoorW.PrintLast Go.Proofs.YtoffpegppdmkdaaGreatDoorW.PrintMore
set_option linter.unusedVariables false
set_option linter.unusedSimpArgs false
set_option maxHeartbeats 4000000 in
set_option maxRecDepth 100000 in
theorem base_okR (P : Nat → Prop) (b : Bl) (a : BA) (st : List Sta) (A1 : Option Addr) (c1 : Nat) (w : World) (hb : BR b a w) (hS : SV P A1 c1 st w) :
    Calls Tryz.prog 14 #[.agg (blC b a), .slice A1 st.length c1] w fun e w' => ∃ v, e = .returned v ∧ Kd.R (Kd.int .i64) 3 w' w.heap.size (fun _ => True) v (baseF b st) ∧ Below w.heap.size w w' := by
  have HST := Lib.hid (fun (rel : Int) (W : World) (hW : Below w.heap.size w W) => stat_ok P b a st A1 c1 rel W (hb.later hW) ⟨hS.1, Kd.F_below hS.2 hW⟩)
  obtain ⟨out, hout⟩ : ∃ out, baseF b st = out := ⟨_, rfl⟩
  rw [hout]
  unfold baseF at hout
  have HO := Lib.hid hout
  obtain ⟨n1, hn1⟩ : ∃ n1, st.length = n1 := ⟨_, rfl⟩
  obtain ⟨N, hN⟩ : ∃ N, b.f1 = N := ⟨_, rfl⟩
  obtain ⟨n0, hn0⟩ : ∃ n0, b.f0.length = n0 := ⟨_, rfl⟩
  unfold blC at HST
  unfold blC
  rw [hn1, hN, hn0] at HST ⊢
  rw [hN, hn0] at HO
  clear hb hS hout hn1 hN hn0
  go_enter Tryz.func14, Tryz.ntmps14
  go_upto_region 1 with (first | ((with_reducible refine gate_dst (N := 2) rfl ?_); refine box_event rfl (N := 2) rfl (cs := #[.slice a.A0 n0 a.c0, .int .i64 N, .slice a.A2 b.f2.length a.c2, .slice a.A3 b.f3.length a.c3, .slice a.A4 b.f4.length a.c4, .slice a.A5 b.f5.length a.c5, .slice a.A6 b.f6.length a.c6, .bool b.f7, .slice a.A8 b.f8.length a.c8, .slice a.A9 b.f9.length a.c9, .bool b.f10]) (t := 30) (by first | rfl | (go_simp; done) | (go_simp; rfl)) ?_; intro g hgg w1 hbg hBg;  have HG := Lib.hid hbg; have HB1 := Lib.hid hBg; clear hgg hbg hBg))
  have x0 : w1.cell? ⟨g, 0, none⟩ = some (.slice a.A0 n0 a.c0) := (bkC HG.out 0).trans rfl
  have x1 : w1.cell? ⟨g, 1, none⟩ = some (.int .i64 N) := (bkC HG.out 1).trans rfl
  by_cases h1 : N < 1
  · have hd1 : decide (N < 1) = true := decide_eq_true h1
    have ho := HO.out
    rw [if_pos (.inl h1)] at ho
    subst ho
    go_wp2_with fail
    go_ret
    exact ⟨_, rfl, Kd.R_nil _ _ _ _ _, HB1.out⟩
  · by_cases h2 : 4 < N
    · have hd1 : decide (N < 1) = false := decide_eq_false h1
      have hd2 : decide (4 < N) = true := decide_eq_true h2
      have ho := HO.out
      rw [if_pos (.inr (.inl h2))] at ho
      subst ho
      go_wp2_with fail
      go_ret
      exact ⟨_, rfl, Kd.R_nil _ _ _ _ _, HB1.out⟩
    · by_cases h3 : (n0 : Int) < N
      · have hd1 : decide (N < 1) = false := decide_eq_false h1
        have hd2 : decide (4 < N) = false := decide_eq_false h2
        have hd3 : decide ((n0 : Int) < N) = true := decide_eq_true h3
        have ho := HO.out
        rw [if_pos (.inr (.inr h3))] at ho
        subst ho
        go_wp2_with fail
        go_ret
        exact ⟨_, rfl, Kd.R_nil _ _ _ _ _, HB1.out⟩
      · have hd1 : decide (N < 1) = false := decide_eq_false h1
        have hd2 : decide (4 < N) = false := decide_eq_false h2
        have hd3 : decide ((n0 : Int) < N) = false := decide_eq_false h3
        have ho := HO.out
        rw [if_neg (by omega)] at ho
        obtain ⟨M, hM⟩ : ∃ M : Nat, N = (M : Int) := ⟨N.toNat, by omega⟩
        subst hM
        rw [Int.toNat_natCast] at ho
        have HO2 := Lib.hid ho
        clear ho HO
        go_upto_region 5 with fail
        go_loopw [5, 25] (fun v5 v6 wr => ∃ j : Nat, j ≤ M ∧ v6 = .int .i64 j ∧ Hid (Kd.R (Kd.int .i64) 3 wr w.heap.size (fun q => q ≠ g) v5 (baseL b st j)) ∧ Hid (wr.heap[g]? = some (.cells #[.slice a.A0 n0 a.c0, .int .i64 (M : Int), .slice a.A2 b.f2.length a.c2, .slice a.A3 b.f3.length a.c3, .slice a.A4 b.f4.length a.c4, .slice a.A5 b.f5.length a.c5, .slice a.A6 b.f6.length a.c6, .bool b.f7, .slice a.A8 b.f8.length a.c8, .slice a.A9 b.f9.length a.c9, .bool b.f10] 30 (0, 0))) ∧ Hid (Below w.heap.size w wr)) (fun _ i _ => M - (intOf i).toNat)
        case atStart => exact ⟨0, Nat.zero_le _, rfl, Lib.hid (Kd.R_nil _ _ _ _ _), HG, HB1⟩
        case round =>
          obtain ⟨j, hj, rfl, HR, HGr, HBr⟩ := hrel
          have bx0 : wr.cell? ⟨g, 0, none⟩ = some (.slice a.A0 n0 a.c0) := (bkC HGr.out 0).trans rfl; have bx1 : wr.cell? ⟨g, 1, none⟩ = some (.int .i64 (M : Int)) := (bkC HGr.out 1).trans rfl; have bx2 : wr.cell? ⟨g, 2, none⟩ = some (.slice a.A2 b.f2.length a.c2) := (bkC HGr.out 2).trans rfl; have bx3 : wr.cell? ⟨g, 3, none⟩ = some (.slice a.A3 b.f3.length a.c3) := (bkC HGr.out 3).trans rfl; have bx4 : wr.cell? ⟨g, 4, none⟩ = some (.slice a.A4 b.f4.length a.c4) := (bkC HGr.out 4).trans rfl; have bx5 : wr.cell? ⟨g, 5, none⟩ = some (.slice a.A5 b.f5.length a.c5) := (bkC HGr.out 5).trans rfl; have bx6 : wr.cell? ⟨g, 6, none⟩ = some (.slice a.A6 b.f6.length a.c6) := (bkC HGr.out 6).trans rfl; have bx7 : wr.cell? ⟨g, 7, none⟩ = some (.bool b.f7) := (bkC HGr.out 7).trans rfl; have bx8 : wr.cell? ⟨g, 8, none⟩ = some (.slice a.A8 b.f8.length a.c8) := (bkC HGr.out 8).trans rfl; have bx9 : wr.cell? ⟨g, 9, none⟩ = some (.slice a.A9 b.f9.length a.c9) := (bkC HGr.out 9).trans rfl; have bx10 : wr.cell? ⟨g, 10, none⟩ = some (.bool b.f10) := (bkC HGr.out 10).trans rfl
          by_cases hlt : j < M
          · have hlt' : (j : Int) < M := by omega
            obtain ⟨s, hs⟩ : ∃ s, statF b.f0 st (j : Int) = s := ⟨_, rfl⟩
            have HSJ := HST.out (j : Int) wr HBr.out
            rw [hs] at HSJ
            have HBL : Hid (baseL b st (j + 1) = baseL b st j ++ [clipI s.f0]) := Lib.hid (by rw [baseL, hs])
            have HJ := Lib.hid HSJ
            clear HSJ hs
            go_wp2_with (first | (go_at_call 25; refine HJ.out.mono ?_; rintro r w3 ⟨A2, c2, rfl, -, -, hB3⟩; have hf0 := fld_stat0 s.f0 A2 s.f1.length c2 w3; have HB3 := Lib.hid hB3; clear hB3) | (go_at_call 24; refine (clip_ok s.f0 w3).mono ?_; rintro r w4 ⟨rfl, hB4⟩; have HB4 := Lib.hid hB4; clear hB4) | ((with_reducible refine gate_builtin (b := .append) (xs := #[.tmp 28, .tmp 35]) rfl ?_); at_builtin; refine Kd.R_append (Kd.int .i64) (w0 := w) w.heap.size rfl (.tmp 28) (.tmp 35) 27 3 (.int .i64 0) 8 rfl Tryz.underlying27 info3 rfl (by decide) (by omega) _ (baseL b st j) (clipI s.f0) [.int .i64 (clipI s.f0)] (fun q => q ≠ g) (fun _ => False) rfl rfl ?aP (fun _ hk => hk.elim) ?aF ?aO ?aB ?aS ?aL ?_; (case aP => exact rfl); (case aF => exact (fun q hq => by have h5 := blk_lt HGr.out; have h6 := HB3.out.size; have h7 := HB4.out.size; omega)); (case aO => exact Kd.R_below HR.out (HB3.out.trans (HB4.out.mono HB3.out.size))); (case aB => exact HBr.out.trans ((HB3.out.trans (HB4.out.mono HB3.out.size)).mono HBr.out.size)); (case aS => exact Nat.le_trans HBr.out.size (Nat.le_trans HB3.out.size HB4.out.size)); (case aL => rw [baseL_len]; omega); intro v1 w5 ho hb2 hg hat; have HR5 := Lib.hid ho; have HB5 := Lib.hid hb2; have HG5 := Lib.hid (blk_grown ((HB3.out.trans (HB4.out.mono HB3.out.size)).block g (blk_lt HGr.out) |>.trans HGr.out) hg (Kd.R_away HR.out (fun _ h => h))); clear ho hb2 hg hat))
            go_roundw
            case rel => exact ⟨j + 1, by omega, by go_num, by rw [HBL.out]; exact HR5, HG5, HB5⟩
            case measure => simp [intOf]; omega
          · have hlt' : ¬ (j : Int) < M := by omega
            obtain rfl : M = j := by omega
            go_wp2_with fail
            go_ret
            exact ⟨_, rfl, by rw [← HO2.out]; exact Kd.R_mono HR.out (fun _ _ => trivial), HBr.out⟩
theorem base_okL (b : Bl) (a : BA) (st : List Sta) (A1 : Option Addr) (c1 : Nat) (w : World) (hb : BR b a w) (hS : Kd.C k51 w A1 st.length st) (hc1 : st.length ≤ c1) : Calls Tryz.prog 14 #[.agg (blC b a), .slice A1 st.length c1] w fun e w' => ∃ A c, e = .returned (.slice A (baseF b st).length c) ∧ (baseF b st).length ≤ c ∧ (Kd.int .i64).C w' A (baseF b st).length (baseF b st) ∧ Below w.heap.size w w' :=
  (base_okR _ b a st A1 c1 w hb (SV.of hS hc1)).mono (by
    rintro e w' ⟨v, rfl, hR, hB⟩
    obtain ⟨A, c, rfl, hc, hC⟩ := Kd.R_reads hR
    exact ⟨A, c, rfl, hc, hC, hB⟩)
theorem of_ok2 (b : Bl) (a : BA) (m : Int) (w : World) (hT : TabW w) (hG : ofG b.f0 m b.f4) (hb : BR b a w) : Calls Tryz.prog 17 #[.agg #[.slice a.A0 b.f0.length a.c0, .int .i64 b.f1, .slice a.A2 b.f2.length a.c2, .slice a.A3 b.f3.length a.c3, .slice a.A4 b.f4.length a.c4, .slice a.A5 b.f5.length a.c5, .slice a.A6 b.f6.length a.c6, .bool b.f7, .slice a.A8 b.f8.length a.c8, .slice a.A9 b.f9.length a.c9, .bool b.f10], .int .i64 m] w fun e w' => e = .returned (.tuple #[.string (ofRes b.f0 b.f1 m b.f4).1, .int .i64 (ofRes b.f0 b.f1 m b.f4).2]) ∧ Below w.heap.size w w' :=
  sign_Of.calls a.A0 a.c0 b.f0 b.f1 a.A2 a.c2 b.f2 a.A3 a.c3 b.f3 a.A4 a.c4 b.f4 a.A5 a.c5 b.f5 a.A6 a.c6 b.f6 b.f7 a.A8 a.c8 b.f8 a.A9 a.c9 b.f9 b.f10 m _ _ w hb.r0 hb.l0 hb.r2 hb.l2 hb.r3 hb.l3 hb.r4 hb.l4 hb.r5 hb.l5 hb.r6 hb.l6 hb.r8 hb.l8 hb.r9 hb.l9 (by unfold sign_Of.f; rw [if_pos hG]) hT
theorem base_ok (b : Bl) (a : BA) (st : List Sta) (A1 : Option Addr) (c1 : Nat) (w : World) (hb : BR b a w) (hS : Kd.C k51 w A1 st.length st) (hc1 : st.length ≤ c1) : Calls Tryz.prog 14 #[.agg #[.slice a.A0 b.f0.length a.c0, .int .i64 b.f1, .slice a.A2 b.f2.length a.c2, .slice a.A3 b.f3.length a.c3, .slice a.A4 b.f4.length a.c4, .slice a.A5 b.f5.length a.c5, .slice a.A6 b.f6.length a.c6, .bool b.f7, .slice a.A8 b.f8.length a.c8, .slice a.A9 b.f9.length a.c9, .bool b.f10], .slice A1 st.length c1] w fun e w' => ∃ A c, e = .returned (.slice A (baseF b st).length c) ∧ (Kd.int .i64).C w' A (baseF b st).length (baseF b st) ∧ Below w.heap.size w w' := by
  exact (base_okL b a st A1 c1 w hb hS hc1).mono (fun e w' => by rintro ⟨A, c, rfl, _, hC, hB⟩; exact ⟨A, c, rfl, hC, hB⟩)
theorem conds_ok2 (l : List Ex) (A : Option Addr) (c : Nat) (w : World) (hT : TabW w) (hG : condsG l) (hr : l.all rightB = true) (hC : Kd.C KX w A l.length l) (hc : l.length ≤ c) : Calls Tryz.prog 35 #[.slice A l.length c] w fun e w' => ∃ A2 c2, e = .returned (.tuple #[.slice A2 (condsF l).length c2, .int .i64 0]) ∧ (condsF l).length ≤ c2 ∧ Kd.C KX w' A2 (condsF l).length (condsF l) ∧ Below w.heap.size w w' := by
  refine (sign_Conds.calls A c l (condsF l) 0 w hC hc (by unfold sign_Conds.f condsR; rw [if_pos hG, if_pos hr]) hT).mono ?_
  rintro e w' ⟨v, rfl, hN, hB⟩
  obtain ⟨A2, c2, rfl, hc2, hC2⟩ := Kd.N_reads hN
  exact ⟨A2, c2, rfl, hc2, hC2, hB⟩
theorem within_ok2 (m : Int) (l : List Ex) (A : Option Addr) (c : Nat) (w : World) (hC : Kd.C KX w A l.length l) (hc : l.length ≤ c) (hl : l.length < 17592186044416) : Calls Tryz.prog 36 #[.slice A l.length c, .int .i64 m] w fun e w' => ∃ A2 c2, e = .returned (.slice A2 (withI m l 0).length c2) ∧ (Kd.int .i64).C w' A2 (withI m l 0).length (withI m l 0) ∧ Below w.heap.size w w' := by
  obtain ⟨k, hk⟩ := (within_ev m l hl).rounds
  refine (sign_Within.calls k A c l m _ w hC hc hk).mono ?_
  rintro e w' ⟨v, rfl, hR, hB⟩
  obtain ⟨A2, c2, rfl, hc2, hC2⟩ := Kd.R_reads hR
  exact ⟨A2, c2, rfl, hC2, hB⟩
set_option maxHeartbeats 8000000 in
set_option maxRecDepth 100000 in
theorem est_ok (b : Bl) (a : BA) (m : Int) (st : List Sta) (A1 : Option Addr) (c1 : Nat) (kn : List Kn) (A3 : Option Addr) (c3 : Nat) (w : World) (hT : TabW w) (hG : ofG b.f0 m b.f4) (hb : BR b a w) (hS : Kd.C k51 w A1 st.length st) (hc1 : st.length ≤ c1) (hK : Kd.C k45 w A3 kn.length kn) (hkn : kn.length ≤ 4611686018427387904) :
    Calls Tryz.prog 16 #[.agg (blC b a), .int .i64 m, .slice A1 st.length c1, .slice A3 kn.length c3] w fun r w' => r = .returned (.tuple #[.int .i64 (estF b m st kn).1, .int .i64 (estF b m st kn).2]) ∧ Below w.heap.size w w' := by
  have HOF := Lib.hid (fun (W : World) (hW : Below w.heap.size w W) => of_ok2 b a m W (tab_at hT hW) hG (hb.later hW))
  have HBA := Lib.hid (fun (W : World) (hW : Below w.heap.size w W) => base_ok b a st A1 c1 W (hb.later hW) (Kd.C_below hS hW) hc1)
  have HPA := Lib.hid (fun (W : World) (hW : Below w.heap.size w W) (x : Ex) (A : Option Addr) (c : Nat) (h1 : rngF x = true) (h2 : x.f6.length ≤ c) (h3 : Kd.C KX W A x.f6.length x.f6) => part_ok x A c b a st A1 c1 W (tab_at hT hW) h1 h3 h2 (hb.later hW) (Kd.C_below hS hW) hc1)
  have HCD := Lib.hid (fun (W : World) (hW : Below w.heap.size w W) (hr : b.f4.all rightB = true) => conds_ok2 b.f4 a.A4 a.c4 W (tab_at hT hW) hG.1 hr (Kd.C_below hb.r4 hW) hb.l4)
  have HGG := Lib.hid hG
  obtain ⟨s, er, hs⟩ : ∃ s er, ofRes b.f0 b.f1 m b.f4 = (s, er) := ⟨_, _, rfl⟩
  rw [hs] at HOF
  dsimp only at HOF
  have HSO := Lib.hid hs
  obtain ⟨pn, hpn⟩ : ∃ pn, estF b m st kn = pn := ⟨_, rfl⟩
  rw [hpn]
  have HPN : Hid ((if er = 0 then ((knownF s kn).getD (guessF b m st), 0) else ((0 : Int), er)) = pn) := Lib.hid (by unfold estF at hpn; rw [hs] at hpn; exact hpn)
  obtain ⟨n1, hn1⟩ : ∃ n1, st.length = n1 := ⟨_, rfl⟩
  rw [hn1] at HBA HPA ⊢
  obtain ⟨nk, hnk⟩ : ∃ nk, kn.length = nk := ⟨_, rfl⟩
  rw [hnk] at hkn ⊢
  have HNK := Lib.hid hnk
  have HK := Lib.hid hK
  clear hT hG hb hS hc1 hK hs hpn hn1 hnk
  unfold blC
  unfold exC blC at HPA
  go_enter Tryz.func16, Tryz.ntmps16
  go_upto_region 1 with (first | ((with_reducible refine gate_dst (N := 4) rfl ?_); refine box_event rfl (N := 4) rfl (cs := blC b a) (t := 30) (by first | rfl | (go_simp; done) | (go_simp; rfl)) ?_; intro g4 hgg w1 hbg4 hBg4;  have HG4 := Lib.hid hbg4; have HB := Lib.hid hBg4; clear hgg hbg4 hBg4))
  have bx0 : w1.cell? ⟨g4, 0, none⟩ = some (.slice a.A0 b.f0.length a.c0) := (bkC HG4.out 0).trans rfl; have bx1 : w1.cell? ⟨g4, 1, none⟩ = some (.int .i64 b.f1) := (bkC HG4.out 1).trans rfl; have bx2 : w1.cell? ⟨g4, 2, none⟩ = some (.slice a.A2 b.f2.length a.c2) := (bkC HG4.out 2).trans rfl; have bx3 : w1.cell? ⟨g4, 3, none⟩ = some (.slice a.A3 b.f3.length a.c3) := (bkC HG4.out 3).trans rfl; have bx4 : w1.cell? ⟨g4, 4, none⟩ = some (.slice a.A4 b.f4.length a.c4) := (bkC HG4.out 4).trans rfl; have bx5 : w1.cell? ⟨g4, 5, none⟩ = some (.slice a.A5 b.f5.length a.c5) := (bkC HG4.out 5).trans rfl; have bx6 : w1.cell? ⟨g4, 6, none⟩ = some (.slice a.A6 b.f6.length a.c6) := (bkC HG4.out 6).trans rfl; have bx7 : w1.cell? ⟨g4, 7, none⟩ = some (.bool b.f7) := (bkC HG4.out 7).trans rfl; have bx8 : w1.cell? ⟨g4, 8, none⟩ = some (.slice a.A8 b.f8.length a.c8) := (bkC HG4.out 8).trans rfl; have bx9 : w1.cell? ⟨g4, 9, none⟩ = some (.slice a.A9 b.f9.length a.c9) := (bkC HG4.out 9).trans rfl; have bx10 : w1.cell? ⟨g4, 10, none⟩ = some (.bool b.f10) := (bkC HG4.out 10).trans rfl
  have HO := Lib.hid (HOF.out w1 HB.out)
  clear HOF
  go_upto_region 2 with (go_at_call 17; refine HO.out.mono ?_; rintro rr w2 ⟨rfl, hB2⟩; have HB2 := Lib.hid hB2; clear hB2)
  clear HO bx0 bx1 bx2 bx3 bx4 bx5 bx6 bx7 bx8 bx9 bx10
  have HG42 := Lib.hid ((HB2.out.block g4 (blk_lt HG4.out)).trans HG4.out)
  have HBw : Hid (Below w.heap.size w w2) := Lib.hid (HB.out.trans (HB2.out.mono HB.out.size))
  clear HB2 HG4 HB
  by_cases he : er = 0
  · subst he
    have HPK : Hid (((knownF s kn).getD (guessF b m st), 0) = pn) := Lib.hid (by have h := HPN.out; rw [if_pos rfl] at h; exact h)
    have hwk : wrap64 ((nk : Int) - 1) = (nk : Int) - 1 := wrap64_of (by omega) (by omega)
    go_upto_region 5 with fail
    clear hwk
    go_loopw [12] (fun v12 wr => ∃ j : Nat, j ≤ nk ∧ v12 = .int .i64 ((j : Int) - 1) ∧ Hid (knownF s (kn.drop j) = none) ∧ Hid (wr = w2)) (fun v _ => (intOf v + 1).toNat)
    case atStart => exact ⟨nk, Nat.le_refl _, rfl, Lib.hid (by rw [List.drop_of_length_le (by rw [HNK.out]; exact Nat.le_refl _)]; rfl), Lib.hid rfl⟩
    case round =>
      obtain ⟨j, hj, rfl, HKJ, HWR⟩ := hrel
      obtain rfl := HWR.out
      by_cases hj0 : j = 0
      · subst hj0
        have HKN : Hid (knownF s kn = none) := Lib.hid (by have h := HKJ.out; rw [List.drop_zero] at h; exact h)
        have hneg : ¬ (((0 : Nat) : Int) - 1 ≥ 0) := by omega
        have HGU : Hid ((guessF b m st, 0) = pn) := Lib.hid (by have h := HPK.out; rw [HKN.out] at h; exact h)
        clear HKJ HPK HKN
        have bx0 : wr.cell? ⟨g4, 0, none⟩ = some (.slice a.A0 b.f0.length a.c0) := (bkC HG42.out 0).trans rfl; have bx1 : wr.cell? ⟨g4, 1, none⟩ = some (.int .i64 b.f1) := (bkC HG42.out 1).trans rfl; have bx2 : wr.cell? ⟨g4, 2, none⟩ = some (.slice a.A2 b.f2.length a.c2) := (bkC HG42.out 2).trans rfl; have bx3 : wr.cell? ⟨g4, 3, none⟩ = some (.slice a.A3 b.f3.length a.c3) := (bkC HG42.out 3).trans rfl; have bx4 : wr.cell? ⟨g4, 4, none⟩ = some (.slice a.A4 b.f4.length a.c4) := (bkC HG42.out 4).trans rfl; have bx5 : wr.cell? ⟨g4, 5, none⟩ = some (.slice a.A5 b.f5.length a.c5) := (bkC HG42.out 5).trans rfl; have bx6 : wr.cell? ⟨g4, 6, none⟩ = some (.slice a.A6 b.f6.length a.c6) := (bkC HG42.out 6).trans rfl; have bx7 : wr.cell? ⟨g4, 7, none⟩ = some (.bool b.f7) := (bkC HG42.out 7).trans rfl; have bx8 : wr.cell? ⟨g4, 8, none⟩ = some (.slice a.A8 b.f8.length a.c8) := (bkC HG42.out 8).trans rfl; have bx9 : wr.cell? ⟨g4, 9, none⟩ = some (.slice a.A9 b.f9.length a.c9) := (bkC HG42.out 9).trans rfl; have bx10 : wr.cell? ⟨g4, 10, none⟩ = some (.bool b.f10) := (bkC HG42.out 10).trans rfl
        have HB3 := Lib.hid (HBA.out wr HBw.out)
        clear HBA
        go_upto_region 11 with (go_at_call 14; refine HB3.out.mono ?_; rintro rr w3 ⟨AB, cB, rfl, hCB, hB3⟩; have HCB := Lib.hid hCB; have HB43 := Lib.hid hB3; clear hB3 hCB)
        clear HB3 bx0 bx1 bx2 bx3 bx4 bx5 bx6 bx7 bx8 bx9 bx10
        have HG43 := Lib.hid ((HB43.out.block g4 (blk_lt HG42.out)).trans HG42.out)
        have HBw3 : Hid (Below w.heap.size w w3) := Lib.hid (HBw.out.trans (HB43.out.mono HBw.out.size))
        clear HB43 HG42
        obtain ⟨B, hB⟩ : ∃ B, baseF b st = B := ⟨_, rfl⟩
        rw [hB] at HCB ⊢
        have HBL : Hid (B.length ≤ 4) := Lib.hid (by rw [← hB]; exact baseF_len b st)
        obtain ⟨nb, hnb⟩ : ∃ nb, B.length = nb := ⟨_, rfl⟩
        have HNB := Lib.hid hnb
        rw [hnb] at HCB HBL ⊢
        obtain ⟨R, hR⟩ : ∃ R, prodF m B 0 1 = R := ⟨_, rfl⟩
        have HR := Lib.hid hR
        have HGV : Hid ((partsF b st (sel m (condsF b.f4)) R, 0) = pn) := Lib.hid (by have h := HGU.out; unfold guessF at h; rw [hB, hR] at h; exact h)
        clear hB hnb hR HGU
        go_loopw [13, 55] (fun v13 v55 wr => ∃ (i : Nat) (n : Int), i ≤ nb ∧ v13 = .int .i64 n ∧ v55 = .int .i64 i ∧ Hid (prodF m (B.drop i) i n = R) ∧ Hid (Below w3.heap.size w3 wr)) (fun _ v _ => nb - (intOf v).toNat)
        case atStart => exact ⟨0, 1, Nat.zero_le _, rfl, rfl, HR, Lib.hid (Below.refl _ _)⟩
        case round =>
          obtain ⟨i, n, hi, rfl, rfl, HRI, HBr⟩ := hrel
          have hi4 : i ≤ 4 := by have := HBL.out; omega
          by_cases hlt : i < nb
          · have hlt' : (i : Int) < nb := by omega
            obtain ⟨ad, rfl, q0⟩ := Kd.at_int (Kd.C_below HCB.out HBr.out) (i : Int) (by omega) hlt'
            rw [show ((i : Int)).toNat = i by omega] at q0
            obtain ⟨x, hx⟩ : ∃ x, rd B (i : Int) = x := ⟨_, rfl⟩
            have hil : i < B.length := by rw [HNB.out]; exact hlt
            have HDD : Hid (B.drop i = x :: B.drop (i + 1)) := Lib.hid (by rw [List.drop_eq_getElem_cons hil, ← hx]; unfold rd; simp [List.getElem?_eq_getElem hil])
            rw [hx] at q0
            clear hx hil
            cases hbb : bitB m i with
            | false =>
              have hbit : (Go.bits .and .i64 (m / 2 ^ i) 1 == 1) = false := hbb
              go_wp2_with fail
              go_roundw
              case rel => exact ⟨i + 1, n, by omega, rfl, by go_num, Lib.hid (by have h := HRI.out; rw [HDD.out, prodF, if_neg (by rw [hbb]; decide)] at h; exact h), HBr⟩
              case measure => simp [intOf]; omega
            | true =>
              have hbit : (Go.bits .and .i64 (m / 2 ^ i) 1 == 1) = true := hbb
              have HMU := Lib.hid (fun (W : World) => hist_Mul.calls n x _ W (mul_f n x))
              go_wp2_with (go_at_call 34; refine (HMU.out _).mono ?_; rintro rr w4 ⟨rfl, hB4⟩; have HB4 : Hid (Below w3.heap.size w3 w4) := Lib.hid (HBr.out.trans (hB4.mono HBr.out.size)); clear hB4)
              go_roundw
              case rel => exact ⟨i + 1, _, by omega, rfl, by go_num, Lib.hid (by have h := HRI.out; rw [HDD.out, prodF, if_pos hbb] at h; exact h), HB4⟩
              case measure => simp [intOf]; omega
          · have hlt' : ¬ (i : Int) < nb := by omega
            obtain rfl : nb = i := by omega
            obtain rfl : n = R := by have h := HRI.out; rw [List.drop_of_length_le (by rw [HNB.out]; exact Nat.le_refl _)] at h; exact h
            clear hi hi4 hlt HRI HR HBL HCB
            have HBwr : Hid (Below w.heap.size w wr) := Lib.hid (HBw3.out.trans (HBr.out.mono HBw3.out.size))
            have HG4r := Lib.hid ((HBr.out.block g4 (blk_lt HG43.out)).trans HG43.out)
            clear HBr HG43 HBw3
            have hr : b.f4.all rightB = true := of_right HSO.out
            have z4 : wr.cell? ⟨g4, 4, none⟩ = some (.slice a.A4 b.f4.length a.c4) := (bkC HG4r.out 4).trans rfl
            have HC1 := Lib.hid (HCD.out wr HBwr.out hr)
            have HLG : Hid (∀ x ∈ condsF b.f4, rngF x = true) := Lib.hid (conds_rng (List.all_eq_true.1 hr) HGG.out.1.1)
            have HLL : Hid ((condsF b.f4).length ≤ 1048576) := Lib.hid (Nat.le_trans (conds_len b.f4) HGG.out.1.2)
            obtain ⟨L, hL⟩ : ∃ L, condsF b.f4 = L := ⟨_, rfl⟩
            rw [hL] at HC1 HLG HLL HGV
            clear hr hL HCD
            go_upto_region 17 with (go_at_call 35; refine HC1.out.mono ?_; rintro rr w5 ⟨AL, cL, rfl, hcL, hCL, hB5⟩; have HCL := Lib.hid hCL; have HB5 := Lib.hid hB5; clear hCL hB5)
            clear HC1 z4
            have HW1 := Lib.hid (within_ok2 m L AL cL w5 HCL.out hcL (by have := HLL.out; omega))
            go_upto_region 18 with (go_at_call 36; refine HW1.out.mono ?_; rintro rr w6 ⟨AW, cW, rfl, hCW, hB6⟩; have HCW := Lib.hid hCW; have HB6 := Lib.hid hB6; clear hCW hB6)
            clear HW1 hcL
            have HBw6 : Hid (Below w.heap.size w w6) := Lib.hid (HBwr.out.trans ((HB5.out.trans (HB6.out.mono HB5.out.size)).mono HBwr.out.size))
            have HG6 := Lib.hid ((HB6.out.block g4 (by have := HB5.out.size; have := blk_lt HG4r.out; omega)).trans ((HB5.out.block g4 (blk_lt HG4r.out)).trans HG4r.out))
            replace HCL := Lib.hid (Kd.C_below HCL.out HB6.out)
            clear HB5 HB6 HBwr HG4r
            obtain ⟨W, hW⟩ : ∃ W, withI m L 0 = W := ⟨_, rfl⟩
            have HWI : Hid (W.drop 0 = withI m (L.drop 0) 0) := Lib.hid (by rw [← hW]; rfl)
            have HWL : Hid (W.length ≤ 1048576) := Lib.hid (by rw [← hW]; have h1 := withI_len m L 0; have h2 := HLL.out; omega)
            rw [hW] at HCW ⊢
            obtain ⟨nw, hnw⟩ : ∃ nw, W.length = nw := ⟨_, rfl⟩
            have HNW := Lib.hid hnw
            rw [hnw] at HCW HWL ⊢
            obtain ⟨nl, hnl⟩ : ∃ nl, L.length = nl := ⟨_, rfl⟩
            have HNL := Lib.hid hnl
            rw [hnl] at HCL HLL ⊢
            clear hW hnw hnl
            obtain ⟨G, hGp⟩ : ∃ G, partsF b st (sel m L) n = G := ⟨_, rfl⟩
            have HGS : Hid (partsF b st (sel m (L.drop 0)) n = G) := Lib.hid hGp
            replace HGV : Hid ((G, 0) = pn) := Lib.hid (by rw [← hGp]; exact HGV.out)
            clear hGp
            go_loopw [13, 79] (fun v13 v79 wr => ∃ (i j : Nat) (z : Int), i ≤ nw ∧ v13 = .int .i64 z ∧ v79 = .int .i64 i ∧ Hid (W.drop i = withI m (L.drop j) j) ∧ Hid (partsF b st (sel m (L.drop j)) z = G) ∧ Hid (Below w6.heap.size w6 wr)) (fun _ v _ => nw - (intOf v).toNat)
            case atStart => exact ⟨0, 0, n, Nat.zero_le _, rfl, rfl, HWI, HGS, Lib.hid (Below.refl _ _)⟩
            case round =>
              obtain ⟨i, j, z, hi, rfl, rfl, HWJ, HGJ, HBr⟩ := hrel
              have hi4 : i ≤ 1048576 := by have := HWL.out; omega
              by_cases hlt : i < nw
              · have hlt' : (i : Int) < nw := by omega
                obtain ⟨aw, rfl, q0⟩ := Kd.at_int (Kd.C_below HCW.out HBr.out) (i : Int) (by omega) hlt'
                rw [show ((i : Int)).toNat = i by omega] at q0
                obtain ⟨q, x, hq, hrd, hqx, hdn, hsn⟩ := withI_next m L (L.drop j) j i W rfl HWJ.out (by rw [HNW.out]; exact hlt)
                rw [hrd] at q0
                have hql : q < nl := by rw [← HNL.out]; exact (List.getElem?_eq_some_iff.1 hqx).1
                obtain ⟨ad, Ax, cx, x', rfl, hx', p0, p1, p2, p3, p4, p5, p6, p7, p8, hcx, hCx⟩ := at_ex (Kd.C_below HCL.out HBr.out) HNL.out q hql
                obtain rfl : x = x' := Option.some.inj (hqx.symm.trans hx')
                have HDN := Lib.hid hdn
                have HSN := Lib.hid hsn
                have hqi : (q : Int) < nl := by omega
                have HXG : Hid (rngF x = true) := Lib.hid (HLG.out x (List.mem_of_getElem? hqx))
                clear hq hrd hqx hdn hsn hx' hql
                have HBwr : Hid (Below w.heap.size w wr) := Lib.hid (HBw6.out.trans (HBr.out.mono HBw6.out.size))
                have HGr := Lib.hid ((HBr.out.block g4 (blk_lt HG6.out)).trans HG6.out)
                have HP1 : Hid (∀ Q : Ending → World → Prop, (∀ e w'', (e = .returned (.tuple #[.int .i64 (partF b st x).1, .int .i64 (partF b st x).2]) ∧ Below wr.drew.heap.size wr.drew w'') → Q e w'') → Calls Tryz.prog 11 #[.agg #[.int .i64 x.f0, .int .i64 x.f1.f0, .int .i64 x.f1.f1, .string x.f1.f2, .int .i64 x.f2, .int .i64 x.f3, .int .i64 x.f4, .string x.f5, .slice Ax x.f6.length cx], .agg #[.slice a.A0 b.f0.length a.c0, .int .i64 b.f1, .slice a.A2 b.f2.length a.c2, .slice a.A3 b.f3.length a.c3, .slice a.A4 b.f4.length a.c4, .slice a.A5 b.f5.length a.c5, .slice a.A6 b.f6.length a.c6, .bool b.f7, .slice a.A8 b.f8.length a.c8, .slice a.A9 b.f9.length a.c9, .bool b.f10], .slice A1 n1 c1] wr.drew Q) := Lib.hid (fun Q hQ => (HPA.out wr.drew (below_drew HBwr.out) x Ax cx HXG.out hcx (Kd.C_below hCx (below_drew (Below.refl _ _)))).mono hQ)
                clear hcx hCx HXG
                go_upto_region 20 with fail
                clear q0
                have bx0 : wr.drew.cell? ⟨g4, 0, none⟩ = some (.slice a.A0 b.f0.length a.c0) := (bkC HGr.out 0).trans rfl; have bx1 : wr.drew.cell? ⟨g4, 1, none⟩ = some (.int .i64 b.f1) := (bkC HGr.out 1).trans rfl; have bx2 : wr.drew.cell? ⟨g4, 2, none⟩ = some (.slice a.A2 b.f2.length a.c2) := (bkC HGr.out 2).trans rfl; have bx3 : wr.drew.cell? ⟨g4, 3, none⟩ = some (.slice a.A3 b.f3.length a.c3) := (bkC HGr.out 3).trans rfl; have bx4 : wr.drew.cell? ⟨g4, 4, none⟩ = some (.slice a.A4 b.f4.length a.c4) := (bkC HGr.out 4).trans rfl; have bx5 : wr.drew.cell? ⟨g4, 5, none⟩ = some (.slice a.A5 b.f5.length a.c5) := (bkC HGr.out 5).trans rfl; have bx6 : wr.drew.cell? ⟨g4, 6, none⟩ = some (.slice a.A6 b.f6.length a.c6) := (bkC HGr.out 6).trans rfl; have bx7 : wr.drew.cell? ⟨g4, 7, none⟩ = some (.bool b.f7) := (bkC HGr.out 7).trans rfl; have bx8 : wr.drew.cell? ⟨g4, 8, none⟩ = some (.slice a.A8 b.f8.length a.c8) := (bkC HGr.out 8).trans rfl; have bx9 : wr.drew.cell? ⟨g4, 9, none⟩ = some (.slice a.A9 b.f9.length a.c9) := (bkC HGr.out 9).trans rfl; have bx10 : wr.drew.cell? ⟨g4, 10, none⟩ = some (.bool b.f10) := (bkC HGr.out 10).trans rfl
                have r0 : wr.drew.cell? (ad.add (q * 9)) = some (.int .i64 x.f0) := p0; have r1 : wr.drew.cell? ⟨(ad.add (q * 9)).block, (ad.add (q * 9)).off + 1, none⟩ = some (.int .i64 x.f1.f0) := p1; have r2 : wr.drew.cell? ⟨(ad.add (q * 9)).block, (ad.add (q * 9)).off + 2, none⟩ = some (.int .i64 x.f1.f1) := p2; have r3 : wr.drew.cell? ⟨(ad.add (q * 9)).block, (ad.add (q * 9)).off + 3, none⟩ = some (.string x.f1.f2) := p3; have r4 : wr.drew.cell? ⟨(ad.add (q * 9)).block, (ad.add (q * 9)).off + 4, none⟩ = some (.int .i64 x.f2) := p4; have r5 : wr.drew.cell? ⟨(ad.add (q * 9)).block, (ad.add (q * 9)).off + 5, none⟩ = some (.int .i64 x.f3) := p5; have r6 : wr.drew.cell? ⟨(ad.add (q * 9)).block, (ad.add (q * 9)).off + 6, none⟩ = some (.int .i64 x.f4) := p6; have r7 : wr.drew.cell? ⟨(ad.add (q * 9)).block, (ad.add (q * 9)).off + 7, none⟩ = some (.string x.f5) := p7; have r8 : wr.drew.cell? ⟨(ad.add (q * 9)).block, (ad.add (q * 9)).off + 8, none⟩ = some (.slice Ax x.f6.length cx) := p8
                generalize hpf : partF b st x = pf at HP1
                have HPF := Lib.hid hpf
                clear hpf p0 p1 p2 p3 p4 p5 p6 p7 p8 HGr
                go_region_held3 (fun w' => w'.cell? ⟨g4, 0, none⟩ = some (.slice a.A0 b.f0.length a.c0) ∧ w'.cell? ⟨g4, 1, none⟩ = some (.int .i64 b.f1) ∧ w'.cell? ⟨g4, 2, none⟩ = some (.slice a.A2 b.f2.length a.c2) ∧ w'.cell? ⟨g4, 3, none⟩ = some (.slice a.A3 b.f3.length a.c3) ∧ w'.cell? ⟨g4, 4, none⟩ = some (.slice a.A4 b.f4.length a.c4) ∧ w'.cell? ⟨g4, 5, none⟩ = some (.slice a.A5 b.f5.length a.c5) ∧ w'.cell? ⟨g4, 6, none⟩ = some (.slice a.A6 b.f6.length a.c6) ∧ w'.cell? ⟨g4, 7, none⟩ = some (.bool b.f7) ∧ w'.cell? ⟨g4, 8, none⟩ = some (.slice a.A8 b.f8.length a.c8) ∧ w'.cell? ⟨g4, 9, none⟩ = some (.slice a.A9 b.f9.length a.c9) ∧ w'.cell? ⟨g4, 10, none⟩ = some (.bool b.f10) ∧ w'.cell? (ad.add (q * 9)) = some (.int .i64 x.f0) ∧ w'.cell? ⟨(ad.add (q * 9)).block, (ad.add (q * 9)).off + 1, none⟩ = some (.int .i64 x.f1.f0) ∧ w'.cell? ⟨(ad.add (q * 9)).block, (ad.add (q * 9)).off + 2, none⟩ = some (.int .i64 x.f1.f1) ∧ w'.cell? ⟨(ad.add (q * 9)).block, (ad.add (q * 9)).off + 3, none⟩ = some (.string x.f1.f2) ∧ w'.cell? ⟨(ad.add (q * 9)).block, (ad.add (q * 9)).off + 4, none⟩ = some (.int .i64 x.f2) ∧ w'.cell? ⟨(ad.add (q * 9)).block, (ad.add (q * 9)).off + 5, none⟩ = some (.int .i64 x.f3) ∧ w'.cell? ⟨(ad.add (q * 9)).block, (ad.add (q * 9)).off + 6, none⟩ = some (.int .i64 x.f4) ∧ w'.cell? ⟨(ad.add (q * 9)).block, (ad.add (q * 9)).off + 7, none⟩ = some (.string x.f5) ∧ w'.cell? ⟨(ad.add (q * 9)).block, (ad.add (q * 9)).off + 8, none⟩ = some (.slice Ax x.f6.length cx)) (go_keep) (first | (go_at_call 11; with_reducible refine HP1.out _ ?_; rintro rr w7 ⟨rfl, hB7⟩; have by0 := pw_cell_below hB7 bx0; have by1 := pw_cell_below hB7 bx1; have by2 := pw_cell_below hB7 bx2; have by3 := pw_cell_below hB7 bx3; have by4 := pw_cell_below hB7 bx4; have by5 := pw_cell_below hB7 bx5; have by6 := pw_cell_below hB7 bx6; have by7 := pw_cell_below hB7 bx7; have by8 := pw_cell_below hB7 bx8; have by9 := pw_cell_below hB7 bx9; have by10 := pw_cell_below hB7 bx10; have t0 := pw_cell_below hB7 r0; have t1 := pw_cell_below hB7 r1; have t2 := pw_cell_below hB7 r2; have t3 := pw_cell_below hB7 r3; have t4 := pw_cell_below hB7 r4; have t5 := pw_cell_below hB7 r5; have t6 := pw_cell_below hB7 r6; have t7 := pw_cell_below hB7 r7; have t8 := pw_cell_below hB7 r8; have HB7 := Lib.hid (below_undrew hB7); clear hB7))
                have HT1 := Lib.hid (hist_Times.calls z pf.1 pf.2 _ w7 (times_f z pf.1 pf.2))
                clear HP1 bx0 bx1 bx2 bx3 bx4 bx5 bx6 bx7 bx8 bx9 bx10 by0 by1 by2 by3 by4 by5 by6 by7 by8 by9 by10 r0 r1 r2 r3 r4 r5 r6 r7 r8 t0 t1 t2 t3 t4 t5 t6 t7 t8
                go_wp2_with (go_at_call 37; refine HT1.out.mono ?_; rintro rr w8 ⟨rfl, hB8⟩; have HB8 : Hid (Below w6.heap.size w6 w8) := Lib.hid (HBr.out.trans ((HB7.out.trans (hB8.mono HB7.out.size)).mono HBr.out.size)); clear hB8)
                go_roundw
                case rel => exact ⟨i + 1, q + 1, _, by omega, rfl, by go_num, HDN, Lib.hid (by have h := HGJ.out; rw [HSN.out, partsF, HPF.out] at h; exact h), HB8⟩
                case measure => simp [intOf]; omega
              · have hlt' : ¬ (i : Int) < nw := by omega
                obtain rfl : nw = i := by omega
                have hz : z = G := by
                  have h := HWJ.out
                  rw [List.drop_of_length_le (by rw [HNW.out]; exact Nat.le_refl _)] at h
                  have h2 := HGJ.out
                  rw [withI_none m (L.drop j) j h.symm] at h2
                  exact h2
                subst hz
                have HBF : Hid (Below w.heap.size w wr) := Lib.hid (HBw6.out.trans (HBr.out.mono HBw6.out.size))
                clear HWJ HGJ hi hi4 hlt
                go_wp2_with fail
                go_ret2
                exact ⟨by rw [← HGV.out]; rfl, HBF.out⟩
      · obtain ⟨j, rfl⟩ : ∃ i, j = i + 1 := ⟨j - 1, by omega⟩
        have e1 : (((j + 1 : Nat) : Int) - 1) = (j : Int) := by omega
        have hjl : (j : Int) < nk := by omega
        obtain ⟨ad, hA, q0, q1⟩ := at_T45 (Kd.C_below HK.out HBw.out) (j : Int) (by omega) (by rw [HNK.out]; exact hjl)
        rw [show ((j : Int)).toNat = j by omega] at q0 q1
        subst hA
        obtain ⟨x, hx⟩ : ∃ x, rd_T45 kn (j : Int) = x := ⟨_, rfl⟩
        rw [hx] at q0 q1
        have hil : j < kn.length := by rw [HNK.out]; omega
        have HDD : Hid (kn.drop j = x :: kn.drop (j + 1)) := Lib.hid (by rw [List.drop_eq_getElem_cons hil, ← hx]; unfold rd_T45; simp [List.getElem?_eq_getElem hil])
        clear hx hil
        rw [e1]
        clear e1
        cases hbb : (x.f0.toList == s.toList) with
        | true =>
          have HKV : Hid ((clipI x.f1, 0) = pn) := Lib.hid (by
            have h := HPK.out
            have h2 : knownF s (kn.drop j) = some (clipI x.f1) := by rw [HDD.out, knownF, HKJ.out]; exact if_pos (beq_iff_eq.mp hbb)
            rw [← List.take_append_drop j kn, knownF_app s _ h2] at h
            exact h)
          have HCL := Lib.hid (clip_ok x.f1 wr)
          clear HKJ HPK HDD
          go_wp2_with (go_at_call 24; refine HCL.out.mono ?_; rintro rr w3 ⟨rfl, hB3⟩; have HB3 : Hid (Below w.heap.size w w3) := Lib.hid (HBw.out.trans (hB3.mono HBw.out.size)); clear hB3)
          go_ret2
          exact ⟨by rw [← HKV.out]; rfl, HB3.out⟩
        | false =>
          have hwj : wrap64 ((j : Int) - 1) = (j : Int) - 1 := wrap64_of (by omega) (by omega)
          go_wp2_with fail
          go_roundw
          case rel => exact ⟨j, by omega, rfl, Lib.hid (by rw [HDD.out, knownF, HKJ.out]; exact if_neg (fun h => by rw [beq_iff_eq.mpr h] at hbb; cases hbb)), by first | exact Lib.hid rfl | exact Lib.hid trivial⟩
          case measure => simp [intOf] <;> omega
  · have hp : ((0 : Int), er) = pn := by have h := HPN.out; rw [if_neg he] at h; exact h
    subst hp
    have hb0 : (er != 0) = true := bne_iff_ne.mpr he
    clear HPN he
    go_wp2_with fail
    go_ret2
    exact ⟨rfl, HBw.out⟩
end Go.Proofs.YtoffpegppdmkdaaGreatDoor.E
