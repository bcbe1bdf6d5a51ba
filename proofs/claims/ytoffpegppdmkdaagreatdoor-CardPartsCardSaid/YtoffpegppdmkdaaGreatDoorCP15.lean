/- Contracts and plain lemmas of the functions that the law reaches, part 15. -/
import Derived.Lib.ItoaLen
import Derived.Deep.RegionHeld3
import Derived.Test.YtoffpegppdmkdaaGreatDoorCP3
import Derived.Test.YtoffpegppdmkdaaGreatDoorCP8
import Derived.Test.YtoffpegppdmkdaaGreatDoorCP9
import Derived.Test.YtoffpegppdmkdaaGreatDoorCP11
import Derived.Test.YtoffpegppdmkdaaGreatDoorCP12
import Derived.Test.YtoffpegppdmkdaaGreatDoorCP14
namespace Go.Proofs.YtoffpegppdmkdaaGreatDoor.E
open Go.RowKit Go.Proofs.YtoffpegppdmkdaaGreatDoorW.PrintWords Go.Proofs.YtoffpegppdmkdaaGreatDoorW.PrintLast Go.Proofs.YtoffpegppdmkdaaGreatDoorW.PrintMore
theorem textL_bound (l : List Ex) (h : ∀ x ∈ l, ∀ d m m', rngF x = true → cnt x d m = some m' → m ≤ 200 → m + 1 ≤ m' ∧ m' ≤ 200 ∧ (textF x).length ≤ 200 * (m' - m)) : ∀ d m m', rngL l = true → cntL l d m = some m' → m ≤ 200 → m ≤ m' ∧ m' ≤ 200 ∧ (textL l).length ≤ 200 * (m' - m) + l.length := by
  induction l with
  | nil => intro d m m' _ hc hm; simp [cntL] at hc; subst hc; simp [textL, hm]
  | cons x l ih =>
    intro d m m' hr hc hm
    simp only [rngL, Bool.and_eq_true] at hr
    rw [cntL] at hc
    obtain ⟨q, h1, h2⟩ := Option.bind_eq_some_iff.1 hc
    obtain ⟨a1, a2, a3⟩ := h x (.head _) d m q hr.1 h1 hm
    obtain ⟨b1, b2, b3⟩ := ih (fun y hy => h y (.tail _ hy)) d q m' hr.2 h2 a2
    simp only [textL, List.length_cons, List.length_append]
    refine ⟨by omega, b2, by omega⟩
theorem itoa_le (n : Int) (h0 : -9223372036854775808 ≤ n) (h1 : n ≤ 9223372036854775807) : (Lib.itoa n).length ≤ 21 := Lib.itoa_length_le n h0 h1
theorem textF_bound : ∀ (N : Nat) (e : Ex), SizeOf.sizeOf e < N → ∀ d m m', rngF e = true → cnt e d m = some m' → m ≤ 200 → m + 1 ≤ m' ∧ m' ≤ 200 ∧ (textF e).length ≤ 200 * (m' - m) := by
  intro N
  induction N with
  | zero => intro e h; omega
  | succ N ih =>
    intro e h d m m' hr hc hm
    have hRt : Rt e := ⟨d, m, m', hc⟩
    rw [rngF_eq, Bool.and_eq_true] at hr
    have hrn := of_decide_eq_true hr.1
    rw [cnt_eq] at hc
    split at hc
    · cases hc
    · split at hc
      · cases hc
      · split at hc
        · have hk := textL_bound e.f6 (fun x hx => ih x (by
            have h1 := List.sizeOf_lt_of_mem hx
            have h2 : SizeOf.sizeOf e.f6 < SizeOf.sizeOf e := by cases e; simp; omega
            omega)) (d + 1) (m + 1) m' hr.2 hc (by omega)
          have hl := hRt.len
          have hop := hRt.op
          refine ⟨by omega, by omega, ?_⟩
          have hi0 := itoa_le e.f0 (by omega) (by omega)
          have hiN := itoa_le e.f1.f1 hrn.1 hrn.2
          rw [textF_eq]
          split
          · rename_i h1
            split
            · simp; omega
            · split
              · simp only [List.length_cons]; omega
              · split
                · simp only [List.length_cons]; omega
                · rename_i k0 k1 k2
                  have hs := right_size (hRt.val h1) k0 k1 k2
                  have hi := itoa_le e.f1.f2.size (by omega) (by omega)
                  have hds : e.f1.f2.data.toList.length = e.f1.f2.size := by rw [Array.length_toList]; rfl
                  simp only [List.length_cons, List.length_append, hds]; omega
          · split
            · rename_i h2
              obtain ⟨r1, r2, r3, r4⟩ := hRt.rel h2
              have i1 := itoa_le e.f2 (by omega) (by omega)
              have i2 := itoa_le e.f3 (by omega) (by omega)
              simp only [List.length_cons, List.length_append]; omega
            · split
              · rename_i h3
                obtain ⟨r1, r2⟩ := hRt.par h3
                have i1 := itoa_le e.f4 (by omega) (by omega)
                simp only [List.length_cons]; omega
              · simp only [List.length_cons, List.length_append, List.length_nil]; omega
        · cases hc
theorem text_short {e : Ex} (h : rightB e = true) (hr : rngF e = true) : (textF e).length ≤ 40000 := by
  unfold rightB at h
  obtain ⟨r, hc⟩ := Option.isSome_iff_exists.1 h
  have := textF_bound _ e (Nat.lt_succ_self _) 1 0 r hr hc (by omega)
  omega
def textRes (e : Ex) : ByteArray × Int := if rightB e = true then (⟨(textF e).toArray⟩, 0) else (⟨#[]⟩, 1)
set_option maxHeartbeats 1000000 in
set_option maxRecDepth 100000 in
theorem Text_ok (e : Ex) (A : Option Addr) (c : Nat) (w : World) (hT : TabW w) (hRg : rngF e = true) (hC : Kd.C k26 w A e.f6.length e.f6) (hc : e.f6.length ≤ c) :
    Calls Tryz.prog 78 #[.agg (exC e A c)] w fun r w' => r = .returned (.tuple #[.string (textRes e).1, .int .i64 (textRes e).2]) ∧ Below w.heap.size w w' := by
  have HC := Lib.hid hC; have HT := Lib.hid hT; have HRG := Lib.hid hRg
  clear hC hT hRg
  obtain ⟨q, hq⟩ : ∃ q, textRes e = q := ⟨_, rfl⟩
  rw [hq]
  have HBV := Lib.hid hq.symm; clear hq
  unfold exC
  go_enter Tryz.func78, Tryz.ntmps78
  go_upto_region 1 with (first | ((with_reducible refine gate_dst (N := 1) rfl ?_); refine box_event rfl (N := 1) rfl (cs := exC e A c) (t := 26) (by first | rfl | (go_simp; done) | (go_simp; rfl)) ?_; intro g hgg w1 hbg hBg;  clear hgg))
  obtain ⟨hz0, hz1, hz2, hz3, hz4, hz5, hz6, hz7, hz8⟩ := bkC9 hbg
  have HCR := Lib.hid (right_ok e A c w1 (Kd.C_below HC.out hBg) hc)
  unfold exC at HCR
  go_wp2_with fail
  refine HCR.out.mono ?_
  obtain ⟨rb, hrb⟩ : ∃ rb, rightB e = rb := ⟨_, rfl⟩
  rw [hrb]
  have HRB := Lib.hid hrb; clear hrb
  rintro r w2 ⟨rfl, hB2⟩
  have HBB := Lib.hid (hBg.trans (hB2.mono hBg.size))
  clear hz0 hz1 hz2 hz3 hz4 hz5 hz6 hz7 hz8
  have hg2 := (hB2.block g (blk_lt hbg)).trans hbg
  clear hbg hBg hB2
  cases rb with
  | false =>
    have HQ2 : Hid (q = (⟨#[]⟩, 1)) := by have := HBV.out; show _ = _; rw [this]; unfold textRes; rw [HRB.out]; rfl
    go_wp2_with fail
    go_ret2
    exact ⟨by rw [HQ2.out]; rfl, HBB.out⟩
  | true =>
    have HQ2 : Hid (q = (⟨(textF e).toArray⟩, 0)) := by have := HBV.out; show _ = _; rw [this]; unfold textRes; rw [HRB.out]; rfl
    go_upto_region 4 with (first | ((with_reducible refine gate_dst (N := 4) rfl ?_); refine box_event rfl (N := 4) rfl (cs := #[.pointer none, .slice none 0 0]) (t := 83) (by first | rfl | (go_simp; done) | (go_simp; rfl)) ?_; intro b hgg w3 hbb hBb;  have hwb : w.heap.size ≤ b := (by have := HBB.out.size; omega); have hgb : some g ≠ some b := (by have := blk_lt hg2; intro h; cases h; omega); clear hgg))
    have hbd : BdIs w.heap.size b (Lib.byteCells []) w3 := .inl ⟨hwb, _, hbb, own_nil _ _ _ _, by simp [Value.ownBlock]⟩
    have hB3 : Below w.heap.size w w3 := HBB.out.trans (hBb.mono HBB.out.size)
    have hg3 := (hBb.block g (blk_lt hg2)).trans hg2
    obtain ⟨hz0, hz1, hz2, hz3, hz4, hz5, hz6, hz7, hz8⟩ := bkC9 hg3
    have HPUT := Lib.hid (put_ok w b _ e (Nat.lt_succ_self _) A c [] w3 (Rt.of HRB.out) HRG.out HT.out hB3 hbd (by have := text_short HRB.out HRG.out; simp only [List.length_nil]; omega) hc HC.out)
    unfold exC at HPUT
    have HB3 := Lib.hid hB3
    clear hbd hB3 hbb hBb
    go_upto_region 5 with (go_at_call 103; refine HPUT.out.mono ?_; rintro r w4 ⟨rfl, hb4, hB4, hO4⟩)
    have HST := Lib.hid (Tryz.Builder_String_any w.heap.size b (textF e) w4 (.inr hb4) (HB3.out.trans hB4).size)
    have HB4 := Lib.hid (HB3.out.trans hB4)
    clear hb4 hB4 hO4 hz0 hz1 hz2 hz3 hz4 hz5 hz6 hz7 hz8
    go_wp2_with (go_at_call 44; refine HST.out.mono ?_; rintro r w5 ⟨rfl, hB5⟩)
    go_ret2
    exact ⟨by rw [HQ2.out]; rfl, HB4.out.trans hB5⟩
theorem tab_at {w w' : World} (h : TabW w) (hb : Below w.heap.size w w') : TabW w' := Lib.tabBelow_of_tabIs h w' hb
end Go.Proofs.YtoffpegppdmkdaaGreatDoor.E
namespace Go.Proofs.YtoffpegppdmkdaaGreatDoor.E
set_option linter.unusedSimpArgs false
set_option linter.unusedVariables false
open Go.RowKit Go.Proofs.YtoffpegppdmkdaaGreatDoorW.PrintWords Go.Proofs.YtoffpegppdmkdaaGreatDoorW.PrintLast Go.Proofs.YtoffpegppdmkdaaGreatDoorW.PrintMore
def isD (c : UInt8) : Bool := (decide (48 ≤ c) && decide (c ≤ 57)) || c == 45
theorem dig_isD (k : Nat) (h : k < 10) : isD (UInt8.ofNat (48 + k)) = true := by
  obtain rfl | rfl | rfl | rfl | rfl | rfl | rfl | rfl | rfl | rfl : k = 0 ∨ k = 1 ∨ k = 2 ∨ k = 3 ∨ k = 4 ∨ k = 5 ∨ k = 6 ∨ k = 7 ∨ k = 8 ∨ k = 9 := by omega
  all_goals decide
theorem dec_isD (u : Nat) : ∀ c ∈ Lib.decDigits u, isD c = true := by
  induction u using Nat.strongRecOn with
  | _ u ih =>
    intro c hc
    rw [Lib.decDigits] at hc
    split at hc
    · obtain rfl := List.mem_singleton.1 hc
      exact dig_isD u (by omega)
    · rcases List.mem_append.1 hc with hc | hc
      · exact ih (u / 10) (by omega) c hc
      · obtain rfl := List.mem_singleton.1 hc
        exact dig_isD (u % 10) (by omega)
theorem itoa_isD (n : Int) : ∀ c ∈ Lib.itoa n, isD c = true := by
  intro c hc
  unfold Lib.itoa at hc
  split at hc
  · rcases List.mem_cons.1 hc with rfl | hc
    · decide
    · exact dec_isD _ c hc
  · exact dec_isD _ c hc
def nd (r : List UInt8) : Prop := ∀ c l, r = c :: l → isD c = false
theorem nd_cons {c : UInt8} {l : List UInt8} (h : isD c = false) : nd (c :: l) := by
  intro c' l' e; cases e; exact h
theorem nd_nil : nd [] := by intro c l e; cases e
theorem span_eq : ∀ (a b r s : List UInt8), (∀ c ∈ a, isD c = true) → (∀ c ∈ b, isD c = true) → nd r → nd s → a ++ r = b ++ s → a = b ∧ r = s
  | [], [], r, s, _, _, _, _, h => ⟨rfl, h⟩
  | [], y :: b, r, s, _, hb, hr, _, h => by
    have := hr y (b ++ s) h
    rw [hb y (.head _)] at this; cases this
  | x :: a, [], r, s, ha, _, _, hs, h => by
    have := hs x (a ++ r) h.symm
    rw [ha x (.head _)] at this; cases this
  | x :: a, y :: b, r, s, ha, hb, hr, hs, h => by
    simp only [List.cons_append, List.cons.injEq] at h
    obtain ⟨h1, h2⟩ := span_eq a b r s (fun c hc => ha c (.tail _ hc)) (fun c hc => hb c (.tail _ hc)) hr hs h.2
    exact ⟨by rw [h.1, h1], h2⟩
def valD (l : List UInt8) : Nat := l.foldl (fun a c => 10 * a + (c.toNat - 48)) 0
theorem dec_val (u : Nat) : valD (Lib.decDigits u) = u := by
  induction u using Nat.strongRecOn with
  | _ u ih =>
    have hd : ∀ k : Nat, k < 10 → (UInt8.ofNat (48 + k)).toNat - 48 = k := by
      intro k hk
      rw [UInt8.toNat_ofNat']
      omega
    rw [Lib.decDigits]
    split
    · simp only [valD, List.foldl_cons, List.foldl_nil]
      rw [hd u (by omega)]; omega
    · rw [valD, List.foldl_append]
      have h := ih (u / 10) (by omega)
      rw [valD] at h
      rw [h]
      simp only [List.foldl_cons, List.foldl_nil]
      rw [hd (u % 10) (by omega)]; omega
theorem dec_no45 (u : Nat) (l : List UInt8) : Lib.decDigits u ≠ 45 :: l := by
  have h : ∀ c ∈ Lib.decDigits u, c ≠ 45 := by
    induction u using Nat.strongRecOn with
    | _ u ih =>
      have hd : ∀ k : Nat, k < 10 → UInt8.ofNat (48 + k) ≠ 45 := by
        intro k hk
        obtain rfl | rfl | rfl | rfl | rfl | rfl | rfl | rfl | rfl | rfl : k = 0 ∨ k = 1 ∨ k = 2 ∨ k = 3 ∨ k = 4 ∨ k = 5 ∨ k = 6 ∨ k = 7 ∨ k = 8 ∨ k = 9 := by omega
        all_goals decide
      intro c hc
      rw [Lib.decDigits] at hc
      split at hc
      · obtain rfl := List.mem_singleton.1 hc
        exact hd u (by omega)
      · rcases List.mem_append.1 hc with hc | hc
        · exact ih (u / 10) (by omega) c hc
        · obtain rfl := List.mem_singleton.1 hc
          exact hd (u % 10) (by omega)
  intro e
  exact h 45 (by rw [e]; exact .head _) rfl
theorem itoa_inj {m n : Int} (h : Lib.itoa m = Lib.itoa n) : m = n := by
  unfold Lib.itoa at h
  split at h <;> split at h
  · injection h with _ h
    have := congrArg valD h
    rw [dec_val, dec_val] at this
    omega
  · exact absurd h.symm (dec_no45 _ _)
  · exact absurd h (dec_no45 _ _)
  · have := congrArg valD h
    rw [dec_val, dec_val] at this
    omega
theorem itoa_app {m n : Int} {r s : List UInt8} (hr : nd r) (hs : nd s) (h : Lib.itoa m ++ r = Lib.itoa n ++ s) : m = n ∧ r = s := by
  obtain ⟨h1, h2⟩ := span_eq _ _ _ _ (itoa_isD m) (itoa_isD n) hr hs h
  exact ⟨itoa_inj h1, h2⟩
def sameV' (a b : Va) : Bool := a.f0 == b.f0 && (a.f1 == b.f1 && (a.f2.toList == b.f2.toList))
mutual
/-- The same, part by part. -/
def sameE : Ex → Ex → Bool
  | ⟨f0, f1, f2, f3, f4, _, f6⟩, b => (f0 == b.f0 && (sameV' f1 b.f1 && (f2 == b.f2 && (f3 == b.f3 && (f4 == b.f4 && f6.length == b.f6.length))))) && sameL f6 b.f6
def sameL : List Ex → List Ex → Bool
  | [], _ => true
  | x :: xs, l => match l with
    | [] => true
    | y :: ys => sameE x y && sameL xs ys
end
theorem sameE_eq (a b : Ex) : sameE a b = ((a.f0 == b.f0 && (sameV' a.f1 b.f1 && (a.f2 == b.f2 && (a.f3 == b.f3 && (a.f4 == b.f4 && a.f6.length == b.f6.length))))) && sameL a.f6 b.f6) := by
  cases a; rw [sameE]
theorem ba_of {a b : ByteArray} (h : a.toList = b.toList) : a = b := by
  rw [ByteArray.toList_eq, ByteArray.toList_eq] at h
  cases a; cases b; congr 1; exact Array.toList_inj.1 h
mutual
theorem same_text : (a : Ex) → ∀ b, sameE a b = true → textF a = textF b
  | ⟨f0, f1, f2, f3, f4, f5, f6⟩, b, h => by
    rw [sameE_eq] at h
    simp only [Bool.and_eq_true, beq_iff_eq, sameV'] at h
    obtain ⟨⟨h0, ⟨v0, v1, v2⟩, h2, h3, h4, h5⟩, hl⟩ := h
    have hv := ba_of v2
    have ht := same_textL f6 b.f6 h5 hl
    rw [textF_eq, textF_eq b]
    simp only []
    rw [h0, v0, v1, hv, h2, h3, h4, ht]
theorem same_textL : (l : List Ex) → ∀ m, l.length = m.length → sameL l m = true → textL l = textL m
  | [], m, hl, _ => by
    have : m = [] := List.eq_nil_of_length_eq_zero hl.symm
    rw [this]
  | x :: xs, [], hl, _ => by simp at hl
  | x :: xs, y :: ys, hl, h => by
    rw [sameL] at h
    simp only [Bool.and_eq_true] at h
    rw [textL, textL, same_text x y h.1, same_textL xs ys (by simpa using hl) h.2]
end
theorem right0 {v : Va} (h : rightV v = true) (h0 : v.f0 = 0) : v.f1 = 0 ∧ v.f2.toList = [] := by
  have hs := right_some v
  rw [h] at hs
  unfold value_Right.f at hs
  rw [if_pos h0] at hs
  simp at hs
  exact ⟨hs.2.1, by simpa using hs.2.2⟩
theorem right12 {v : Va} (h : rightV v = true) (h0 : v.f0 = 1 ∨ v.f0 = 2) : v.f2.toList = [] := by
  have hs := right_some v
  rw [h] at hs
  unfold value_Right.f at hs
  rcases h0 with h0 | h0
  · rw [if_neg (by omega), if_pos h0] at hs; simpa using hs
  · rw [if_neg (by omega), if_neg (by omega), if_pos h0] at hs
    split at hs
    · simpa using hs
    · simp at hs
theorem right3 {v : Va} (h : rightV v = true) (h0 : ¬ v.f0 = 0) (h1 : ¬ v.f0 = 1) (h2 : ¬ v.f0 = 2) : v.f0 = 3 ∧ v.f1 = 0 := by
  have hs := right_some v
  rw [h] at hs
  unfold value_Right.f at hs
  rw [if_neg h0, if_neg h1, if_neg h2] at hs
  split at hs
  · rename_i h3
    split at hs
    · rename_i h4; exact ⟨h3, h4⟩
    · simp at hs
  · simp at hs
def Sh (e : Ex) : Prop :=
  (e.f2 = 0 ∧ e.f3 = 0 ∧ e.f4 = 0 ∧ e.f0 = 1 ∧ e.f6.length = 0 ∧ ((e.f1.f0 = 0 ∧ e.f1.f1 = 0 ∧ e.f1.f2.toList = [] ∧ textF e = [78]) ∨ (e.f1.f0 = 1 ∧ e.f1.f2.toList = [] ∧ textF e = 73 :: Lib.itoa e.f1.f1) ∨ (e.f1.f0 = 2 ∧ e.f1.f2.toList = [] ∧ textF e = 66 :: Lib.itoa e.f1.f1) ∨ (e.f1.f0 = 3 ∧ e.f1.f1 = 0 ∧ textF e = 84 :: (Lib.itoa e.f1.f2.size ++ 58 :: e.f1.f2.toList)))) ∨
  (e.f1.f0 = 0 ∧ e.f1.f1 = 0 ∧ e.f1.f2.toList = [] ∧ ((e.f0 = 2 ∧ e.f4 = 0 ∧ e.f6.length = 0 ∧ textF e = 82 :: (Lib.itoa e.f2 ++ 46 :: Lib.itoa e.f3)) ∨ (e.f0 = 3 ∧ e.f2 = 0 ∧ e.f3 = 0 ∧ e.f6.length = 0 ∧ textF e = 80 :: Lib.itoa e.f4) ∨ (e.f2 = 0 ∧ e.f3 = 0 ∧ e.f4 = 0 ∧ textF e = 40 :: (Lib.itoa e.f0 ++ (textL e.f6 ++ [41])))))
theorem sh_of {e : Ex} (h : ownB e = true) : Sh e := by
  obtain ⟨_, hw, h1⟩ := (own_iff e).1 h
  have ht := textF_eq e
  split at h1
  · rename_i h0
    rw [if_pos h0] at ht
    obtain ⟨hv, h2, h3, h4⟩ := h1
    have hl : e.f6.length = 0 := by rw [h0] at hw; have : wantsI 1 = 0 := by decide
                                    omega
    refine .inl ⟨h2, h3, h4, h0, hl, ?_⟩
    by_cases k0 : e.f1.f0 = 0
    · rw [if_pos k0] at ht
      obtain ⟨a, b⟩ := right0 hv k0
      exact .inl ⟨k0, a, b, ht⟩
    · rw [if_neg k0] at ht
      by_cases k1 : e.f1.f0 = 1
      · rw [if_pos k1] at ht
        exact .inr (.inl ⟨k1, right12 hv (.inl k1), ht⟩)
      · rw [if_neg k1] at ht
        by_cases k2 : e.f1.f0 = 2
        · rw [if_pos k2] at ht
          exact .inr (.inr (.inl ⟨k2, right12 hv (.inr k2), ht⟩))
        · rw [if_neg k2] at ht
          obtain ⟨a, b⟩ := right3 hv k0 k1 k2
          exact .inr (.inr (.inr ⟨a, b, by rw [ht, ByteArray.toList_eq]⟩))
  · rename_i h0
    rw [if_neg h0] at ht
    split at h1
    · rename_i h2
      rw [if_pos h2] at ht
      obtain ⟨_, _, _, _, h4, v0, v1, v2⟩ := h1
      have hl : e.f6.length = 0 := by rw [h2] at hw; have : wantsI 2 = 0 := by decide
                                      omega
      exact .inr ⟨v0, v1, v2, .inl ⟨h2, h4, hl, ht⟩⟩
    · rename_i h2
      rw [if_neg h2] at ht
      split at h1
      · rename_i h3
        rw [if_pos h3] at ht
        obtain ⟨_, _, h4, h5, v0, v1, v2⟩ := h1
        have hl : e.f6.length = 0 := by rw [h3] at hw; have : wantsI 3 = 0 := by decide
                                        omega
        exact .inr ⟨v0, v1, v2, .inr (.inl ⟨h3, h4, h5, hl, ht⟩)⟩
      · rename_i h3
        rw [if_neg h3] at ht
        obtain ⟨h4, h5, h6, v0, v1, v2⟩ := h1
        exact .inr ⟨v0, v1, v2, .inr (.inr ⟨h4, h5, h6, ht⟩)⟩
theorem nd_kids (l : List Ex) (r : List UInt8) : nd (textL l ++ 41 :: r) := by
  cases l with
  | nil => rw [textL]; exact nd_cons (by decide)
  | cons x l => rw [textL]; exact nd_cons (by decide)
theorem same_of {a b : Ex} (h0 : a.f0 = b.f0) (v0 : a.f1.f0 = b.f1.f0) (v1 : a.f1.f1 = b.f1.f1) (v2 : a.f1.f2.toList = b.f1.f2.toList) (h2 : a.f2 = b.f2) (h3 : a.f3 = b.f3) (h4 : a.f4 = b.f4) (hl : a.f6.length = b.f6.length) (hs : sameL a.f6 b.f6 = true) : sameE a b = true := by
  rw [sameE_eq]
  simp only [Bool.and_eq_true, beq_iff_eq, sameV']
  exact ⟨⟨h0, ⟨v0, v1, v2⟩, h2, h3, h4, hl⟩, hs⟩
theorem sameL_nil {l m : List Ex} (h : l.length = 0) : sameL l m = true := by
  have : l = [] := List.eq_nil_of_length_eq_zero h
  rw [this, sameL]
mutual
theorem text_inj : (a : Ex) → (∃ p, meas a = some p) → ∀ (b : Ex) (r s : List UInt8), (∃ p, meas b = some p) → nd r → nd s → textF a ++ r = textF b ++ s → sameE a b = true ∧ r = s
  | ⟨f0, f1, f2, f3, f4, f5, f6⟩, ⟨p, hp⟩, b, r, s, ⟨q, hq⟩, hr, hs, h => by
    have hsb := sh_of (meas_own hq).1
    obtain ⟨hoa, hma⟩ := meas_own hp
    obtain ⟨_, hmb⟩ := meas_own hq
    have hsa := sh_of hoa
    rcases hsa with ⟨a2, a3, a4, a0, al, ⟨av0, av1, av2, ta⟩ | ⟨av0, av2, ta⟩ | ⟨av0, av2, ta⟩ | ⟨av0, av1, ta⟩⟩ | ⟨av0, av1, av2, ⟨a0, a4, al, ta⟩ | ⟨a0, a2, a3, al, ta⟩ | ⟨a2, a3, a4, ta⟩⟩ <;>
    rcases hsb with ⟨b2, b3, b4, b0, bl, ⟨bv0, bv1, bv2, tb⟩ | ⟨bv0, bv2, tb⟩ | ⟨bv0, bv2, tb⟩ | ⟨bv0, bv1, tb⟩⟩ | ⟨bv0, bv1, bv2, ⟨b0, b4, bl, tb⟩ | ⟨b0, b2, b3, bl, tb⟩ | ⟨b2, b3, b4, tb⟩⟩ <;>
    rw [ta, tb] at h <;> simp only [List.cons_append, List.cons.injEq, List.nil_append, List.append_assoc] at h
    all_goals first
      | (exfalso; revert h; decide)
      | (have h1 := h.1; exfalso; revert h1; decide)
      | skip
    · exact ⟨same_of (a0.trans b0.symm) (av0.trans bv0.symm) (av1.trans bv1.symm) (av2.trans bv2.symm) (a2.trans b2.symm) (a3.trans b3.symm) (a4.trans b4.symm) (al.trans bl.symm) (sameL_nil al), h.2⟩
    · obtain ⟨e1, e2⟩ := itoa_app hr hs h.2
      exact ⟨same_of (a0.trans b0.symm) (av0.trans bv0.symm) e1 (av2.trans bv2.symm) (a2.trans b2.symm) (a3.trans b3.symm) (a4.trans b4.symm) (al.trans bl.symm) (sameL_nil al), e2⟩
    · obtain ⟨e1, e2⟩ := itoa_app hr hs h.2
      exact ⟨same_of (a0.trans b0.symm) (av0.trans bv0.symm) e1 (av2.trans bv2.symm) (a2.trans b2.symm) (a3.trans b3.symm) (a4.trans b4.symm) (al.trans bl.symm) (sameL_nil al), e2⟩
    · obtain ⟨e1, e2⟩ := itoa_app (nd_cons (by decide)) (nd_cons (by decide)) h.2
      simp only [List.cons.injEq, true_and] at e2
      have hz : ∀ x : ByteArray, x.toList.length = x.size := fun x => by rw [ByteArray.toList_eq, Array.length_toList]; rfl
      obtain ⟨e3, e4⟩ := List.append_inj e2 (by rw [hz, hz]; omega)
      exact ⟨same_of (a0.trans b0.symm) (av0.trans bv0.symm) (av1.trans bv1.symm) e3 (a2.trans b2.symm) (a3.trans b3.symm) (a4.trans b4.symm) (al.trans bl.symm) (sameL_nil al), e4⟩
    · obtain ⟨e1, e2⟩ := itoa_app (nd_cons (by decide)) (nd_cons (by decide)) h.2
      simp only [List.cons.injEq, true_and] at e2
      obtain ⟨e3, e4⟩ := itoa_app hr hs e2
      exact ⟨same_of (a0.trans b0.symm) (av0.trans bv0.symm) (av1.trans bv1.symm) (av2.trans bv2.symm) e1 e3 (a4.trans b4.symm) (al.trans bl.symm) (sameL_nil al), e4⟩
    · obtain ⟨e1, e2⟩ := itoa_app hr hs h.2
      exact ⟨same_of (a0.trans b0.symm) (av0.trans bv0.symm) (av1.trans bv1.symm) (av2.trans bv2.symm) (a2.trans b2.symm) (a3.trans b3.symm) e1 (al.trans bl.symm) (sameL_nil al), e2⟩
    · obtain ⟨e1, e2⟩ := itoa_app (nd_kids _ _) (nd_kids _ _) h.2
      obtain ⟨e3, e4, e5⟩ := text_injL f6 hma b.f6 r s hmb e2
      exact ⟨same_of e1 (av0.trans bv0.symm) (av1.trans bv1.symm) (av2.trans bv2.symm) (a2.trans b2.symm) (a3.trans b3.symm) (a4.trans b4.symm) e3 e4, e5⟩
theorem text_injL : (l : List Ex) → (∃ p, measL l = some p) → ∀ (m : List Ex) (r s : List UInt8), (∃ p, measL m = some p) → textL l ++ 41 :: r = textL m ++ 41 :: s → l.length = m.length ∧ sameL l m = true ∧ r = s
  | [], _, [], r, s, _, h => by
    rw [textL] at h
    simp only [List.nil_append, List.cons.injEq, true_and] at h
    exact ⟨rfl, sameL_nil rfl, h⟩
  | [], _, y :: ys, r, s, _, h => by
    rw [textL, textL] at h
    simp only [List.nil_append, List.cons_append, List.cons.injEq] at h
    exact absurd h.1 (by decide)
  | x :: xs, _, [], r, s, _, h => by
    rw [textL, textL] at h
    simp only [List.nil_append, List.cons_append, List.cons.injEq] at h
    exact absurd h.1 (by decide)
  | x :: xs, ⟨p, hp⟩, y :: ys, r, s, ⟨q, hq⟩, h => by
    obtain ⟨px, pxs⟩ := measL_cons hp
    obtain ⟨qy, qys⟩ := measL_cons hq
    rw [textL, textL] at h
    simp only [List.cons_append, List.cons.injEq, true_and, List.append_assoc] at h
    obtain ⟨e1, e2⟩ := text_inj x px y _ _ qy (nd_kids xs r) (nd_kids ys s) h
    obtain ⟨e3, e4, e5⟩ := text_injL xs pxs ys r s qys e2
    exact ⟨by simp [e3], by rw [sameL, e1, e4]; rfl, e5⟩
end
theorem text_same {a b : Ex} (ha : ∃ p, meas a = some p) (hb : ∃ p, meas b = some p) : sameE a b = ((textF a) == (textF b)) := by
  rw [Bool.eq_iff_iff, beq_iff_eq]
  refine ⟨same_text a b, fun h => ?_⟩
  exact (text_inj a ha b [] [] hb nd_nil nd_nil (by rw [h])).1
end Go.Proofs.YtoffpegppdmkdaaGreatDoor.E
namespace Go.Proofs.YtoffpegppdmkdaaGreatDoor.E
open Go.RowKit Go.Proofs.YtoffpegppdmkdaaGreatDoorW.PrintWords Go.Proofs.YtoffpegppdmkdaaGreatDoorW.PrintLast Go.Proofs.YtoffpegppdmkdaaGreatDoorW.PrintMore
set_option linter.unusedVariables false
set_option linter.unusedSimpArgs false
def bitB (m : Int) (i : Nat) : Bool := Go.bits .and .i64 (m / 2 ^ i) 1 == 1
def cntB (m : Int) : Nat → Nat
  | 0 => 0
  | i + 1 => cntB m i + if bitB m i = true then 1 else 0
theorem cntB_le (m : Int) : ∀ i, cntB m i ≤ i
  | 0 => Nat.le_refl _
  | i + 1 => by have := cntB_le m i; rw [cntB]; split <;> omega
def headL (sz : List Int) (m : Int) : Nat → List UInt8
  | 0 => [83]
  | i + 1 => headL sz m i ++ if bitB m i = true then Lib.itoa (rd sz i) ++ [32] else []
theorem headL_le (sz : List Int) (m : Int) (h : ∀ i : Nat, i < sz.length → -9223372036854775808 ≤ rd sz i ∧ rd sz i ≤ 9223372036854775807) : ∀ i, i ≤ sz.length → (headL sz m i).length ≤ 1 + 22 * i
  | 0, _ => by simp [headL]
  | i + 1, hi => by
    have h1 := headL_le sz m h i (by omega)
    have h2 := itoa_le (rd sz i) (h i (by omega)).1 (h i (by omega)).2
    rw [headL]
    split
    · simp only [List.length_append, List.length_cons, List.length_nil]; omega
    · simp only [List.length_append, List.length_nil]; omega
def rsF (m : Int) (K : Nat) : Nat → List Int
  | 0 => List.replicate K 0
  | i + 1 => (rsF m K i).set i (cntB m i : Int)
theorem rsF_len (m : Int) (K : Nat) : ∀ i, (rsF m K i).length = K
  | 0 => by simp [rsF]
  | i + 1 => by rw [rsF, List.length_set]; exact rsF_len m K i
theorem rsF_get (m : Int) (K : Nat) : ∀ (i j : Nat), j < K → (rsF m K i).getD j 0 = if j < i then (cntB m j : Int) else 0
  | 0, j, hj => by simp [rsF, List.getElem?_replicate, hj]
  | i + 1, j, hj => by
    have h := rsF_get m K i j hj
    have hl := rsF_len m K i
    rw [rsF, List.getD_eq_getElem?_getD, List.getElem?_set]
    by_cases e : i = j
    · subst e
      rw [if_pos rfl, if_pos (by omega), if_pos (by omega)]; rfl
    · rw [if_neg e, ← List.getD_eq_getElem?_getD, h]
      by_cases h2 : j < i
      · rw [if_pos h2, if_pos (by omega)]
      · rw [if_neg h2, if_neg (by omega)]
def tailL : List Ex → List UInt8
  | [] => []
  | x :: l => textF x ++ 59 :: tailL l
theorem tailL_snoc (l : List Ex) (x : Ex) : tailL (l ++ [x]) = tailL l ++ (textF x ++ [59]) := by
  induction l with
  | nil => simp [tailL]
  | cons y l ih => simp [tailL, ih]
theorem tailL_le (l : List Ex) (h : ∀ x ∈ l, rightB x = true ∧ rngF x = true) : (tailL l).length ≤ 40001 * l.length := by
  induction l with
  | nil => simp [tailL]
  | cons y l ih =>
    have h1 := ih (fun x hx => h x (.tail _ hx))
    have h2 := text_short (h y (.head _)).1 (h y (.head _)).2
    simp only [tailL, List.length_append, List.length_cons]
    omega
theorem bd_set {B b : Nat} {bs : List Value} {w : World} (h : BdIs B b bs w) {R : Nat} {c : Array Value} {fz : Nat × Nat} (hR : w.heap[R]? = some (.cells c 3 fz)) (i : Nat) (u : Value) : BdIs B b bs (w.setCell ⟨R, i, none⟩ u) := by
  have one : ∀ p, Lib.BuilderAt 83 5 B b p bs w → Lib.BuilderAt 83 5 B b p bs (w.setCell ⟨R, i, none⟩ u) := by
    rintro p ⟨hB, v, hb, ho, hne⟩
    have hRb : b ≠ R := by
      intro e; subst e; rw [hb] at hR; simp at hR
    refine ⟨hB, v, blk_far hb hRb u, own_setCell ho (fun e => ?_) u, hne⟩
    obtain ⟨c2, fz2, h2⟩ := ownsRow_kind ho R e.symm
    rw [hR] at h2; simp at h2
  exact h.imp (one _) (one _)
structure SEnv (w0 : World) (g b pb R cR K : Nat) (cs : Array Value) (rs : List Int) (bs : List UInt8) (w : World) : Prop where
  below : Below w0.heap.size w0 w
  bg : w.heap[g]? = some (.cells cs 30 (0, 0))
  bp : w.heap[pb]? = some (.cells #[.slice (some ⟨R, 0, none⟩) K cR] 27 (0, 0))
  bd : BdIs w0.heap.size b (Lib.byteCells bs) w
  rk : Kd.R (Kd.int .i64) 3 w w0.heap.size (fun q => q = R) (.slice (some ⟨R, 0, none⟩) K cR) rs
  hg : w0.heap.size ≤ g
  hp : w0.heap.size ≤ pb
theorem SEnv.row {w0 w : World} {g b pb R cR K : Nat} {cs : Array Value} {rs : List Int} {bs : List UInt8} (h : SEnv w0 g b pb R cR K cs rs bs w) : ∃ c, w.heap[R]? = some (.cells c 3 (0, 0)) := Kd.R_typed h.rk R rfl
theorem SEnv.bb {w0 w : World} {g b pb R cR K : Nat} {cs : Array Value} {rs : List Int} {bs : List UInt8} (h : SEnv w0 g b pb R cR K cs rs bs w) : ∃ p v, w.heap[b]? = some (.cells #[p, v] 83 (0, 0)) := by
  rcases h.bd with ⟨_, v, hb, _⟩ | ⟨_, v, hb, _⟩
  · exact ⟨_, v, hb⟩
  · exact ⟨_, v, hb⟩
theorem SEnv.later {w0 w w' : World} {g b pb R cR K : Nat} {cs : Array Value} {rs : List Int} {bs : List UInt8} (h : SEnv w0 g b pb R cR K cs rs bs w) (hb : Below w.heap.size w w') : SEnv w0 g b pb R cR K cs rs bs w' :=
  ⟨h.below.trans (hb.mono h.below.size), (hb.block g (blk_lt h.bg)).trans h.bg, (hb.block pb (blk_lt h.bp)).trans h.bp, bdIs_later h.bd hb, Kd.R_below h.rk hb, h.hg, h.hp⟩
theorem SEnv.put {w0 w : World} {g b pb R cR K : Nat} {cs : Array Value} {rs : List Int} {bs : List UInt8} (h : SEnv w0 g b pb R cR K cs rs bs w) (i : Nat) (x : Int) : SEnv w0 g b pb R cR K cs (rs.set i x) bs (w.setCell ⟨R, i, none⟩ (.int .i64 x)) := by
  obtain ⟨c, hR⟩ := h.row
  have hgR : g ≠ R := by intro e; subst e; rw [h.bg] at hR; simp at hR
  have hpR : pb ≠ R := by intro e; subst e; rw [h.bp] at hR; simp at hR
  have hRw : w0.heap.size ≤ R := Kd.R_base h.rk R rfl
  have hput := Kd.R_putn h.rk (i : Int) x
  rw [show ((i : Int)).toNat = i by omega] at hput
  exact ⟨h.below.setCell (p := ⟨R, i, none⟩) hRw _, blk_far h.bg hgR _, blk_far h.bp hpR _, bd_set h.bd hR i _, hput, h.hg, h.hp⟩
theorem SEnv.next {w0 w w' : World} {g b pb R cR K : Nat} {cs : Array Value} {rs : List Int} {bs bs' : List UInt8} (h : SEnv w0 g b pb R cR K cs rs bs w) (h1 : BdAt w0.heap.size b (Lib.byteCells bs') w') (h2 : Below w0.heap.size w w') (h3 : Oth b w w') : SEnv w0 g b pb R cR K cs rs bs' w' := by
  obtain ⟨c, hR⟩ := h.row
  obtain ⟨p, v, hb⟩ := h.bb
  have hgb : some g ≠ some b := by intro e; cases e; rw [h.bg] at hb; simp at hb
  have hpb : some pb ≠ some b := by intro e; cases e; rw [h.bp] at hb; simp at hb
  have hRb : some R ≠ some b := by intro e; cases e; rw [hR] at hb; simp at hb
  have hR2 := h3 R _ hR hRb (by intro c fz h; cases h)
  exact ⟨h.below.trans h2, h3 g _ h.bg hgb (by intro c fz h; cases h), h3 pb _ h.bp hpb (by intro c fz h; cases h), .inr h1, Kd.R_step h.rk (fun k hk _ => by subst hk; rw [hR2, hR]), h.hg, h.hp⟩
theorem SEnv.wr {w0 w : World} {g b pb R cR K : Nat} {cs : Array Value} {rs : List Int} {bs : List UInt8} (h : SEnv w0 g b pb R cR K cs rs bs w) (s : ByteArray) (hl : bs.length + s.size ≤ 140737488355328) :
    Calls Tryz.prog 38 #[.pointer (some ⟨b, 0, none⟩), .string s] w fun r w' => r = .returned (.tuple #[.int .i64 s.size, .nilIface]) ∧ SEnv w0 g b pb R cR K cs rs (bs ++ s.data.toList) w' :=
  (write_ok w0.heap.size b (Lib.byteCells bs) s w h.bd (by rw [byteCells_length]; exact hl) h.below.size).mono (by
    rintro r w' ⟨rfl, h1, h2, h3⟩
    have h1' : BdAt w0.heap.size b (Lib.byteCells (bs ++ s.data.toList)) w' := by rw [byteCells_append]; exact h1
    exact ⟨rfl, h.next h1' h2 h3⟩)
end Go.Proofs.YtoffpegppdmkdaaGreatDoor.E
namespace Go.Proofs.YtoffpegppdmkdaaGreatDoor.E
open Go.RowKit Go.Proofs.YtoffpegppdmkdaaGreatDoorW.PrintWords Go.Proofs.YtoffpegppdmkdaaGreatDoorW.PrintLast Go.Proofs.YtoffpegppdmkdaaGreatDoorW.PrintMore
mutual
/-- Are all its numbers whole numbers of the machine's? -/
def prN : Ex → Bool
  | ⟨f0, f1, f2, f3, f4, _, f6⟩ => decide ((-9223372036854775808 ≤ f0 ∧ f0 ≤ 9223372036854775807) ∧ (-9223372036854775808 ≤ f1.f1 ∧ f1.f1 ≤ 9223372036854775807) ∧ (-9223372036854775808 ≤ f2 ∧ f2 ≤ 9223372036854775807) ∧ (-9223372036854775808 ≤ f3 ∧ f3 ≤ 9223372036854775807) ∧ (-9223372036854775808 ≤ f4 ∧ f4 ≤ 9223372036854775807)) && prL f6
def prL : List Ex → Bool
  | [] => true
  | x :: xs => prN x && prL xs
end
theorem prN_eq (e : Ex) : prN e = (decide ((-9223372036854775808 ≤ e.f0 ∧ e.f0 ≤ 9223372036854775807) ∧ (-9223372036854775808 ≤ e.f1.f1 ∧ e.f1.f1 ≤ 9223372036854775807) ∧ (-9223372036854775808 ≤ e.f2 ∧ e.f2 ≤ 9223372036854775807) ∧ (-9223372036854775808 ≤ e.f3 ∧ e.f3 ≤ 9223372036854775807) ∧ (-9223372036854775808 ≤ e.f4 ∧ e.f4 ≤ 9223372036854775807)) && prL e.f6) := by cases e; rw [prN]
theorem prL_mem {l : List Ex} (h : prL l = true) {x : Ex} (hx : x ∈ l) : prN x = true := by
  induction l with
  | nil => cases hx
  | cons y l ih =>
    simp only [prL, Bool.and_eq_true] at h
    cases hx with
    | head => exact h.1
    | tail _ hx => exact ih h.2 hx
def prB (e : Ex) : Bool := prN e && decide ((textF e).length ≤ 1099511627776)
def textS (e : Ex) : ByteArray := ⟨(textF e).toArray⟩
theorem dig_some (n : Int) (h0 : -9223372036854775808 ≤ n) (h1 : n ≤ 9223372036854775807) : ∃ d : ByteArray, d.data.toList = Lib.itoa n ∧ d.size ≤ 21 ∧ d.size = (Lib.itoa n).length ∧ ∀ w : World,
    Calls Tryz.prog 79 #[.int .i64 n] w fun e w' => e = .returned (.string d) ∧ Below w.heap.size w w' :=
  ⟨⟨(Lib.itoa n).toArray⟩, ba_mk _, by rw [ba_size]; exact itoa_le n h0 h1, ba_size _, fun w => digits_ok n h0 h1 w⟩
theorem tx_eq {a : ByteArray} {l : List UInt8} (h : a.data.toList = l) : a = ⟨l.toArray⟩ := ba_ext (by rw [h, ba_mk])
theorem ret_str {a b : ByteArray} (h : a = b) : Ending.returned (.string a) = .returned (.string b) := by rw [h]
theorem sz_list (a : ByteArray) : a.size = a.data.toList.length := by rw [Array.length_toList]; rfl
theorem textL_len (l : List Ex) : l.length ≤ (textL l).length := by
  induction l with
  | nil => simp [textL]
  | cons x l ih => simp only [textL, List.length_cons, List.length_append]; omega
def PrintOk (e : Ex) : Prop := ∀ (A : Option Addr) (c : Nat) (w : World), prN e = true → (textF e).length ≤ 1099511627776 → e.f6.length ≤ c → Kd.C k26 w A e.f6.length e.f6 →
  Calls Tryz.prog 81 #[.agg (exC e A c)] w fun r w' => r = .returned (.string (textS e)) ∧ Below w.heap.size w w'
set_option maxHeartbeats 4000000 in
set_option maxRecDepth 100000 in
theorem print_step (e : Ex) (ih : ∀ x ∈ e.f6, PrintOk x) : PrintOk e := by
  intro A c w hN hlen hc hC
  have IH := Lib.hid ih; have HC := Lib.hid hC; have HN := Lib.hid hN; have HLEN := Lib.hid hlen
  obtain ⟨⟨n01, n02⟩, ⟨n11, n12⟩, ⟨n21, n22⟩, ⟨n31, n32⟩, n41, n42⟩ : (-9223372036854775808 ≤ e.f0 ∧ e.f0 ≤ 9223372036854775807) ∧ (-9223372036854775808 ≤ e.f1.f1 ∧ e.f1.f1 ≤ 9223372036854775807) ∧ (-9223372036854775808 ≤ e.f2 ∧ e.f2 ≤ 9223372036854775807) ∧ (-9223372036854775808 ≤ e.f3 ∧ e.f3 ≤ 9223372036854775807) ∧ (-9223372036854775808 ≤ e.f4 ∧ e.f4 ≤ 9223372036854775807) := by
    rw [prN_eq, Bool.and_eq_true] at hN; exact of_decide_eq_true hN.1
  clear ih hC hN hlen
  obtain ⟨tx, htx⟩ : ∃ tx, textF e = tx := ⟨_, rfl⟩
  have HTS : Hid (textS e = ⟨tx.toArray⟩) := by show _ = _; rw [textS, htx]
  have HLX : Hid (tx.length ≤ 1099511627776) := by rw [← htx]; exact HLEN
  rw [textF_eq] at htx
  have HTX := Lib.hid htx; clear htx
  unfold exC
  go_enter Tryz.func81, Tryz.ntmps81
  go_upto_region 1 with (first | ((with_reducible refine gate_dst (N := 1) rfl ?_); refine box_event rfl (N := 1) rfl (cs := exC e A c) (t := 26) (by first | rfl | (go_simp; done) | (go_simp; rfl)) ?_; intro g hgg w1 hbg hBg;  clear hgg))
  obtain ⟨hz0, hz1, hz2, hz3, hz4, hz5, hz6, hz7, hz8⟩ := bkC9 hbg
  have BG := Lib.hid hbg; have HB := Lib.hid hBg
  clear hbg hBg
  by_cases h1 : e.f0 = 1
  · have HTX2 := Lib.hid (HTX.out.symm.trans (if_pos h1))
    replace h1 : (e.f0 == 1) = true := beq_iff_eq.mpr h1
    by_cases k0 : e.f1.f0 = 0
    · have HTX3 : Hid (tx = [78]) := HTX2.out.trans (if_pos k0)
      replace k0 : (e.f1.f0 == 0) = true := beq_iff_eq.mpr k0
      go_wp2_with fail
      go_ret
      exact ⟨ret_str (by rw [HTS.out, HTX3.out]), HB.out⟩
    · have HTX3 := Lib.hid (HTX2.out.trans (if_neg k0))
      replace k0 : (e.f1.f0 == 0) = false := beq_eq_false_iff_ne.mpr k0
      by_cases k1 : e.f1.f0 = 1
      · have HTX4 : Hid (tx = 73 :: Lib.itoa e.f1.f1) := HTX3.out.trans (if_pos k1)
        replace k1 : (e.f1.f0 == 1) = true := beq_iff_eq.mpr k1
        obtain ⟨d, hd, hs, hs2, hcall⟩ := dig_some e.f1.f1 n11 n12
        have HD := Lib.hid hd; have HCALL := Lib.hid hcall; clear hd hcall hs2
        have hz : ¬ 9223372036854775807 < 1 + d.size := by omega
        go_wp2_with (go_at_call 79; refine (HCALL.out _).mono ?_; rintro r w2 ⟨rfl, hB2⟩)
        go_ret
        exact ⟨ret_str (by rw [HTS.out, HTX4.out]; exact tx_eq (by rw [Joins.data_append, HD.out]; rfl)), HB.out.trans (hB2.mono HB.out.size)⟩
      · have K1 := Lib.hid k1
        by_cases k2 : e.f1.f0 = 2
        · have HTX4 : Hid (tx = 66 :: Lib.itoa e.f1.f1) := HTX3.out.trans ((if_neg k1).trans (if_pos k2))
          replace k1 : (e.f1.f0 == 1) = false := beq_eq_false_iff_ne.mpr k1
          replace k2 : (e.f1.f0 == 2) = true := beq_iff_eq.mpr k2
          obtain ⟨d, hd, hs, hs2, hcall⟩ := dig_some e.f1.f1 n11 n12
          have HD := Lib.hid hd; have HCALL := Lib.hid hcall; clear hd hcall hs2
          have hz : ¬ 9223372036854775807 < 1 + d.size := by omega
          go_wp2_with (go_at_call 79; refine (HCALL.out _).mono ?_; rintro r w2 ⟨rfl, hB2⟩)
          go_ret
          exact ⟨ret_str (by rw [HTS.out, HTX4.out]; exact tx_eq (by rw [Joins.data_append, HD.out]; rfl)), HB.out.trans (hB2.mono HB.out.size)⟩
        · have HTX4 : Hid (tx = 84 :: (Lib.itoa e.f1.f2.size ++ 58 :: e.f1.f2.data.toList)) := HTX3.out.trans ((if_neg k1).trans (if_neg k2))
          replace k1 : (e.f1.f0 == 1) = false := beq_eq_false_iff_ne.mpr k1
          replace k2 : (e.f1.f0 == 2) = false := beq_eq_false_iff_ne.mpr k2
          have hsz : e.f1.f2.size ≤ 1099511627776 := by
            have h := HLX.out; rw [HTX4.out] at h; rw [sz_list]; simp only [List.length_cons, List.length_append] at h; omega
          obtain ⟨d, hd, hs, hs2, hcall⟩ := dig_some e.f1.f2.size (by omega) (by omega)
          have HD := Lib.hid hd; have HCALL := Lib.hid hcall; clear hd hcall hs2
          have hz : ¬ 9223372036854775807 < 1 + d.size := by omega
          have hz2 : ¬ 9223372036854775807 < 1 + d.size + 1 := by omega
          have hz3 : ¬ 9223372036854775807 < 1 + d.size + 1 + e.f1.f2.size := by omega
          go_upto_region 10 with fail
          go_region_held3 (fun w' => w'.cell? ⟨g, 3, none⟩ = some (.string e.f1.f2)) (go_keep) (first | (go_at_call 79; refine (HCALL.out _).mono ?_; rintro r w2 ⟨rfl, hB2⟩; have hz3' : w2.cell? ⟨g, 3, none⟩ = some (.string e.f1.f2) := (bkC ((hB2.block g (blk_lt BG.out)).trans BG.out) 3).trans rfl))
          go_wp2_with fail
          go_ret
          exact ⟨ret_str (by rw [HTS.out, HTX4.out]; exact tx_eq (by rw [Joins.data_append, Joins.data_append, Joins.data_append, HD.out]; simp)), HB.out.trans ((⟨hB2.os, hB2.tape, hB2.output, hB2.size, hB2.block⟩ : Below w1.heap.size w1 w2).mono HB.out.size)⟩
  · have HTX2 := Lib.hid (HTX.out.symm.trans (if_neg h1))
    replace h1 : (e.f0 == 1) = false := beq_eq_false_iff_ne.mpr h1
    by_cases h2 : e.f0 = 2
    · have HTX3 : Hid (tx = 82 :: (Lib.itoa e.f2 ++ 46 :: Lib.itoa e.f3)) := HTX2.out.trans (if_pos h2)
      replace h2 : (e.f0 == 2) = true := beq_iff_eq.mpr h2
      obtain ⟨d, hd, hs, hs2, hcall⟩ := dig_some e.f2 n21 n22
      have HD := Lib.hid hd; have HCALL := Lib.hid hcall; clear hd hcall hs2
      obtain ⟨d2, hd, ht, hs2, hcall⟩ := dig_some e.f3 n31 n32
      have HD2 := Lib.hid hd; have HCALL2 := Lib.hid hcall; clear hd hcall hs2
      have hz : ¬ 9223372036854775807 < 1 + d.size := by omega
      have hz2' : ¬ 9223372036854775807 < 1 + d.size + 1 := by omega
      have hz3' : ¬ 9223372036854775807 < 1 + d.size + 1 + d2.size := by omega
      go_upto_region 12 with fail
      go_region_held3 (fun w' => w'.cell? ⟨g, 4, none⟩ = some (.int .i64 e.f2) ∧ w'.cell? ⟨g, 5, none⟩ = some (.int .i64 e.f3)) (go_keep) (first | (go_at_call 79; (with_reducible refine (HCALL.out _).mono ?_); rintro r w2 ⟨rfl, hB2⟩; have BG2 := Lib.hid ((hB2.block g (blk_lt BG.out)).trans BG.out); have hy4 : w2.cell? ⟨g, 4, none⟩ = some (.int .i64 e.f2) := (bkC BG2.out 4).trans rfl; have hy5 : w2.cell? ⟨g, 5, none⟩ = some (.int .i64 e.f3) := (bkC BG2.out 5).trans rfl) | (go_at_call 79; (with_reducible refine (HCALL2.out _).mono ?_); rintro r w3 ⟨rfl, hB3⟩; have BG3 := Lib.hid ((hB3.block g (blk_lt BG2.out)).trans BG2.out); have hx4 : w3.cell? ⟨g, 4, none⟩ = some (.int .i64 e.f2) := (bkC BG3.out 4).trans rfl; have hx5 : w3.cell? ⟨g, 5, none⟩ = some (.int .i64 e.f3) := (bkC BG3.out 5).trans rfl))
      go_wp2_with fail
      go_ret
      exact ⟨ret_str (by rw [HTS.out, HTX3.out]; exact tx_eq (by rw [Joins.data_append, Joins.data_append, Joins.data_append, HD.out, HD2.out]; simp)), HB.out.trans (((⟨hB2.os, hB2.tape, hB2.output, hB2.size, hB2.block⟩ : Below w1.heap.size w1 w2).trans (hB3.mono hB2.size)).mono HB.out.size)⟩
    · have HTX3 := Lib.hid (HTX2.out.trans (if_neg h2))
      replace h2 : (e.f0 == 2) = false := beq_eq_false_iff_ne.mpr h2
      by_cases h3 : e.f0 = 3
      · have HTX4 : Hid (tx = 80 :: Lib.itoa e.f4) := HTX3.out.trans (if_pos h3)
        replace h3 : (e.f0 == 3) = true := beq_iff_eq.mpr h3
        obtain ⟨d, hd, hs, hs2, hcall⟩ := dig_some e.f4 n41 n42
        have HD := Lib.hid hd; have HCALL := Lib.hid hcall; clear hd hcall hs2
        have hz : ¬ 9223372036854775807 < 1 + d.size := by omega
        go_wp2_with (go_at_call 79; refine (HCALL.out _).mono ?_; rintro r w2 ⟨rfl, hB2⟩)
        go_ret
        exact ⟨ret_str (by rw [HTS.out, HTX4.out]; exact tx_eq (by rw [Joins.data_append, HD.out]; rfl)), HB.out.trans (hB2.mono HB.out.size)⟩
      · have HTX4 : Hid (tx = 40 :: (Lib.itoa e.f0 ++ (textL e.f6 ++ [41]))) := HTX3.out.trans (if_neg h3)
        replace h3 : (e.f0 == 3) = false := beq_eq_false_iff_ne.mpr h3
        obtain ⟨d, hd, hs, hs2, hcall⟩ := dig_some e.f0 n01 n02
        have HD := Lib.hid hd; have HCALL := Lib.hid hcall; clear hd hcall
        have HS2 := Lib.hid hs2; clear hs2
        have hz : ¬ 9223372036854775807 < 1 + d.size := by omega
        go_upto_region 16 with (go_at_call 79; refine (HCALL.out _).mono ?_; rintro r w2 ⟨rfl, hB2⟩)
        have BG2 := Lib.hid ((hB2.block g (blk_lt BG.out)).trans BG.out)
        have HB2 := Lib.hid (HB.out.trans (hB2.mono HB.out.size))
        clear hz0 hz1 hz2 hz3 hz4 hz5 hz6 hz7 hz8 hB2
        obtain ⟨hz0, hz1, hz2, hz3, hz4, hz5, hz6, hz7, hz8⟩ := bkC9 BG2.out
        obtain ⟨n, hn⟩ : ∃ n, e.f6.length = n := ⟨_, rfl⟩
        have HNN := Lib.hid hn
        have HLT : Hid ((textL e.f6).length ≤ 1099511627776) := by
          have h := HLX.out; rw [HTX4.out] at h; show _ ≤ _; simp only [List.length_cons, List.length_append] at h; omega
        have hn2 : n ≤ 1099511627776 := by rw [← hn]; exact Nat.le_trans (textL_len _) HLT.out
        simp only [hn]
        go_wp2_with fail
        go_loopw [3, 4] (fun v3 v4 wr => ∃ (k : Nat) (o : ByteArray), k ≤ n ∧ v3 = .string o ∧ v4 = .int .i64 k ∧ Hid (o.data.toList = 40 :: (Lib.itoa e.f0 ++ textL (e.f6.take k)) ∧ Below w2.heap.size w2 wr)) (fun _ i _ => n - (intOf i).toNat)
        case atStart => exact ⟨0, _, Nat.zero_le _, rfl, rfl, Lib.hid ⟨by rw [Joins.data_append, HD.out]; simp [textL], Below.refl _ _⟩⟩
        case round =>
          obtain ⟨k, o, hk, rfl, rfl, HK⟩ := hrel
          clear hz0 hz1 hz2 hz3 hz4 hz5 hz6 hz7 hz8
          have BGr := Lib.hid ((HK.out.2.block g (blk_lt BG2.out)).trans BG2.out)
          obtain ⟨hz0, hz1, hz2, hz3, hz4, hz5, hz6, hz7, hz8⟩ := bkC9 BGr.out
          have ho : o.size ≤ 2199023255600 := by
            have h2 := HK.out.1
            have h3 := textL_le e.f6 k
            have h4 := HLT.out
            rw [sz_list, h2]
            have h5 := HS2.out
            simp only [List.length_cons, List.length_append]
            omega
          by_cases hlt : k < n
          · have hlt' : (k : Int) < n := by omega
            rw [hn] at HC
            obtain ⟨ad, A8, c8, x, rfl, HE, h0, h1, h2, h3, h4, h5, h6, h7, h8, hc8, hC8⟩ := at_ex (Kd.C_below HC.out HB2.out) hn k hlt
            replace HE := Lib.hid HE
            have HC8 := Lib.hid hC8; clear hC8
            replace h0 := pw_cell_below HK.out.2 h0; replace h1 := pw_cell_below HK.out.2 h1; replace h2 := pw_cell_below HK.out.2 h2; replace h3 := pw_cell_below HK.out.2 h3; replace h4 := pw_cell_below HK.out.2 h4; replace h5 := pw_cell_below HK.out.2 h5; replace h6 := pw_cell_below HK.out.2 h6; replace h7 := pw_cell_below HK.out.2 h7; replace h8 := pw_cell_below HK.out.2 h8
            have hi : k < e.f6.length := by omega
            have hxi : e.f6[k] = x := by have h := HE.out; rw [List.getElem?_eq_some_iff] at h; exact h.2
            have hx : x ∈ e.f6 := hxi ▸ List.getElem_mem hi
            have HTK : Hid (textL (e.f6.take (k + 1)) = textL (e.f6.take k) ++ 32 :: textF x) := by
              show _ = _
              rw [List.take_succ_eq_append_getElem hi, textL_snoc, hxi]
            have hlx : (textF x).length ≤ 1099511627776 := by
              have h1 := textL_le e.f6 (k + 1)
              rw [HTK.out] at h1
              have h2 := HLT.out
              simp only [List.length_append, List.length_cons] at h1
              omega
            have hnx : prN x = true := by
              have h := HN.out
              rw [prN_eq, Bool.and_eq_true] at h
              exact prL_mem h.2 hx
            have HCALL3 := Lib.hid (IH.out x hx A8 c8 wr hnx hlx hc8 (Kd.C_below HC8.out HK.out.2))
            unfold exC at HCALL3
            obtain ⟨s, hs'⟩ : ∃ s, textS x = s := ⟨_, rfl⟩
            have HSX : Hid (s.data.toList = textF x) := by rw [← hs']; exact Lib.hid (ba_mk _)
            have hss : s.size ≤ 1099511627776 := by rw [sz_list, HSX.out]; exact hlx
            rw [hs'] at HCALL3
            clear hx hxi hi HE hnx hlx hs'
            have hy : ¬ 9223372036854775807 < o.size + 1 := by omega
            have hy2 : ¬ 9223372036854775807 < o.size + 1 + s.size := by omega
            go_wp2_with (go_at_call 81; refine HCALL3.out.mono ?_; rintro r w6 ⟨rfl, hB6⟩)
            go_roundw
            case rel => exact ⟨k + 1, _, by omega, rfl, by go_num, Lib.hid ⟨by rw [Joins.data_append, Joins.data_append, HK.out.1, HSX.out, HTK.out]; simp, HK.out.2.trans (hB6.mono HK.out.2.size)⟩⟩
            case measure => simp [intOf]; omega
          · have hlt' : ¬ (k : Int) < n := by omega
            obtain rfl : n = k := by omega
            have hy : ¬ 9223372036854775807 < o.size + 1 := by omega
            go_wp2_with fail
            go_ret
            exact ⟨ret_str (by rw [HTS.out, HTX4.out]; exact tx_eq (by rw [Joins.data_append, HK.out.1, ← HNN.out, List.take_length]; simp)), HB2.out.trans (HK.out.2.mono HB2.out.size)⟩
theorem print_ok : ∀ (N : Nat) (e : Ex), SizeOf.sizeOf e < N → PrintOk e := by
  intro N
  induction N with
  | zero => intro e h; omega
  | succ N ih =>
    intro e h
    refine print_step e fun x hx => ih x ?_
    have h1 := List.sizeOf_lt_of_mem hx
    have h2 : SizeOf.sizeOf e.f6 < SizeOf.sizeOf e := by cases e; simp; omega
    omega
def q08_Print.f (a0_0 : Int) (a0_1 : Int) (a0_2 : Int) (a0_3 : ByteArray) (a0_4 : Int) (a0_5 : Int) (a0_6 : Int) (a0_7 : ByteArray) (l0_8 : List Ex) : Option ByteArray := if prB ⟨a0_0, ⟨a0_1, a0_2, a0_3⟩, a0_4, a0_5, a0_6, a0_7, l0_8⟩ = true then some (textS ⟨a0_0, ⟨a0_1, a0_2, a0_3⟩, a0_4, a0_5, a0_6, a0_7, l0_8⟩) else none
theorem q08_Print.calls (a0_0 : Int) (a0_1 : Int) (a0_2 : Int) (a0_3 : ByteArray) (a0_4 : Int) (a0_5 : Int) (a0_6 : Int) (a0_7 : ByteArray) (A0_8 : Option Addr) (c0_8 : Nat) (l0_8 : List Ex) (r : ByteArray) (w : World) (hr0_8 : Kd.C k26 w A0_8 l0_8.length l0_8) (hc0_8 : l0_8.length ≤ c0_8) (h : q08_Print.f a0_0 a0_1 a0_2 a0_3 a0_4 a0_5 a0_6 a0_7 l0_8 = some r) :
    Calls Tryz.prog 81 #[.agg #[.int .i64 a0_0, .int .i64 a0_1, .int .i64 a0_2, .string a0_3, .int .i64 a0_4, .int .i64 a0_5, .int .i64 a0_6, .string a0_7, .slice A0_8 l0_8.length c0_8]] w fun e w' => e = .returned (.string r) ∧ Below w.heap.size w w' := by
  unfold q08_Print.f at h
  by_cases hr : prB ⟨a0_0, ⟨a0_1, a0_2, a0_3⟩, a0_4, a0_5, a0_6, a0_7, l0_8⟩ = true
  · rw [if_pos hr] at h
    obtain rfl := Option.some.inj h
    unfold prB at hr
    rw [Bool.and_eq_true, decide_eq_true_eq] at hr
    exact print_ok _ ⟨a0_0, ⟨a0_1, a0_2, a0_3⟩, a0_4, a0_5, a0_6, a0_7, l0_8⟩ (Nat.lt_succ_self _) A0_8 c0_8 w hr.1 hr.2 hc0_8 hr0_8
  · rw [if_neg hr] at h
    cases h
end Go.Proofs.YtoffpegppdmkdaaGreatDoor.E
namespace Go.Proofs.YtoffpegppdmkdaaGreatDoor.E
set_option linter.unusedSimpArgs false
set_option linter.unusedVariables false
open Go.RowKit Go.Proofs.YtoffpegppdmkdaaGreatDoorW.PrintWords Go.Proofs.YtoffpegppdmkdaaGreatDoorW.PrintLast Go.Proofs.YtoffpegppdmkdaaGreatDoorW.PrintMore
mutual
theorem prN_of : (e : Ex) → Rt e → rngF e = true → prN e = true
  | ⟨f0, f1, f2, f3, f4, f5, f6⟩, h, hg => by
    rw [prN, Bool.and_eq_true, decide_eq_true_eq]
    rw [rngF, Bool.and_eq_true, decide_eq_true_eq] at hg
    have ho := h.op
    obtain ⟨_, _, h1⟩ := (own_iff _).1 h.own
    simp only [] at ho h1
    refine ⟨⟨by omega, hg.1, ?_⟩, prL_of f6 (fun x hx => h.kid hx) hg.2⟩
    split at h1
    · omega
    · split at h1
      · omega
      · split at h1
        · omega
        · omega
theorem prL_of : (l : List Ex) → (∀ x ∈ l, Rt x) → rngL l = true → prL l = true
  | [], _, _ => by rw [prL]
  | x :: xs, h, hg => by
    rw [rngL, Bool.and_eq_true] at hg
    rw [prL, prN_of x (h x (.head _)) hg.1, prL_of xs (fun y hy => h y (.tail _ hy)) hg.2]; rfl
end
theorem prB_of {e : Ex} (hr : rightB e = true) (hg : rngF e = true) : prB e = true := by
  unfold prB
  rw [prN_of e (Rt.of hr) hg, Bool.true_and, decide_eq_true_eq]
  have := text_short hr hg
  omega
theorem print_f {e : Ex} (h : prB e = true) : q08_Print.f e.f0 e.f1.f0 e.f1.f1 e.f1.f2 e.f2 e.f3 e.f4 e.f5 e.f6 = some (textS e) := by
  have he : (⟨e.f0, ⟨e.f1.f0, e.f1.f1, e.f1.f2⟩, e.f2, e.f3, e.f4, e.f5, e.f6⟩ : Ex) = e := by cases e; rfl
  unfold q08_Print.f
  rw [he, if_pos h]
end Go.Proofs.YtoffpegppdmkdaaGreatDoor.E
