/- Contracts and plain lemmas of the functions that the law reaches, part 21. -/
import Derived.Lib.ItoaLen
import Derived.Test.YtkboodfnegedaaaDoorZV19
namespace Go.Proofs.YtkboodfnegedaaaDoor.E
open Go.RowKit Go.Proofs.YtkboodfnegedaaaDoorW.PrintWords Go.Proofs.YtkboodfnegedaaaDoorW.PrintLast Go.Proofs.YtkboodfnegedaaaDoorW.PrintMore
theorem textL_bound (l : List Ex) (h : ∀ x ∈ l, ∀ d m m', rngF x = true → cnt x d m = some m' → m ≤ 200 → m + 1 ≤ m' ∧ m' ≤ 200 ∧ (textF x).length ≤ 200 * (m' - m)) : ∀ d m m', rngL l = true → cntL l d m = some m' → m ≤ 200 → m ≤ m' ∧ m' ≤ 200 ∧ (textL l).length ≤ 200 * (m' - m) + l.length := by
  induction l with
  | nil => intro d m m' _ hc hm; simp [cntL] at hc; subst hc; simp [textL, hm]
  | cons x l ih =>
    intro d m m' hr hc hm
    simp only [rngL, Bool.and_eq_true] at hr
    rw [cntL] at hc
    obtain ⟨q, h1, h2⟩ := Option.bind_eq_some_iff.1 hc
    obtain ⟨a1, a2, a3⟩ := h x (.head _) d m q hr.1 h1 hm
    obtain ⟨b1, b2, b3⟩ := ih (fun y hy => h y (.tail _ hy)) d q m' hr.2 h2 a2
    simp only [textL, List.length_cons, List.length_append]
    refine ⟨by omega, b2, by omega⟩
theorem itoa_le (n : Int) (h0 : -9223372036854775808 ≤ n) (h1 : n ≤ 9223372036854775807) : (Lib.itoa n).length ≤ 21 := Lib.itoa_length_le n h0 h1
theorem textF_bound : ∀ (N : Nat) (e : Ex), SizeOf.sizeOf e < N → ∀ d m m', rngF e = true → cnt e d m = some m' → m ≤ 200 → m + 1 ≤ m' ∧ m' ≤ 200 ∧ (textF e).length ≤ 200 * (m' - m) := by
  intro N
  induction N with
  | zero => intro e h; omega
  | succ N ih =>
    intro e h d m m' hr hc hm
    have hRt : Rt e := ⟨d, m, m', hc⟩
    rw [rngF_eq, Bool.and_eq_true] at hr
    have hrn := of_decide_eq_true hr.1
    rw [cnt_eq] at hc
    split at hc
    · cases hc
    · split at hc
      · cases hc
      · split at hc
        · have hk := textL_bound e.f6 (fun x hx => ih x (by
            have h1 := List.sizeOf_lt_of_mem hx
            have h2 : SizeOf.sizeOf e.f6 < SizeOf.sizeOf e := by cases e; simp; omega
            omega)) (d + 1) (m + 1) m' hr.2 hc (by omega)
          have hl := hRt.len
          have hop := hRt.op
          refine ⟨by omega, by omega, ?_⟩
          have hi0 := itoa_le e.f0 (by omega) (by omega)
          have hiN := itoa_le e.f1.f1 hrn.1 hrn.2
          rw [textF_eq]
          split
          · rename_i h1
            split
            · simp; omega
            · split
              · simp only [List.length_cons]; omega
              · split
                · simp only [List.length_cons]; omega
                · rename_i k0 k1 k2
                  have hs := right_size (hRt.val h1) k0 k1 k2
                  have hi := itoa_le e.f1.f2.size (by omega) (by omega)
                  have hds : e.f1.f2.data.toList.length = e.f1.f2.size := by rw [Array.length_toList]; rfl
                  simp only [List.length_cons, List.length_append, hds]; omega
          · split
            · rename_i h2
              obtain ⟨r1, r2, r3, r4⟩ := hRt.rel h2
              have i1 := itoa_le e.f2 (by omega) (by omega)
              have i2 := itoa_le e.f3 (by omega) (by omega)
              simp only [List.length_cons, List.length_append]; omega
            · split
              · rename_i h3
                obtain ⟨r1, r2⟩ := hRt.par h3
                have i1 := itoa_le e.f4 (by omega) (by omega)
                simp only [List.length_cons]; omega
              · simp only [List.length_cons, List.length_append, List.length_nil]; omega
        · cases hc
theorem text_short {e : Ex} (h : rightB e = true) (hr : rngF e = true) : (textF e).length ≤ 40000 := by
  unfold rightB at h
  obtain ⟨r, hc⟩ := Option.isSome_iff_exists.1 h
  have := textF_bound _ e (Nat.lt_succ_self _) 1 0 r hr hc (by omega)
  omega
def textRes (e : Ex) : ByteArray × Int := if rightB e = true then (⟨(textF e).toArray⟩, 0) else (⟨#[]⟩, 1)
set_option maxHeartbeats 1000000 in
set_option maxRecDepth 100000 in
theorem Text_ok (e : Ex) (A : Option Addr) (c : Nat) (w : World) (hT : TabW w) (hRg : rngF e = true) (hC : Kd.C k26 w A e.f6.length e.f6) (hc : e.f6.length ≤ c) :
    Calls Tryd.prog 24 #[.agg (exC e A c)] w fun r w' => r = .returned (.tuple #[.string (textRes e).1, .int .i64 (textRes e).2]) ∧ Below w.heap.size w w' := by
  have HC := Lib.hid hC; have HT := Lib.hid hT; have HRG := Lib.hid hRg
  clear hC hT hRg
  obtain ⟨q, hq⟩ : ∃ q, textRes e = q := ⟨_, rfl⟩
  rw [hq]
  have HBV := Lib.hid hq.symm; clear hq
  unfold exC
  go_enter Tryd.func24, Tryd.ntmps24
  go_upto_region 1 with (first | ((with_reducible refine gate_dst (N := 1) rfl ?_); refine box_event rfl (N := 1) rfl (cs := exC e A c) (t := 26) (by first | rfl | (go_simp; done) | (go_simp; rfl)) ?_; intro g hgg w1 hbg hBg;  clear hgg))
  obtain ⟨hz0, hz1, hz2, hz3, hz4, hz5, hz6, hz7, hz8⟩ := bkC9 hbg
  have HCR := Lib.hid (right_ok e A c w1 (Kd.C_below HC.out hBg) hc)
  unfold exC at HCR
  go_wp2_with fail
  refine HCR.out.mono ?_
  obtain ⟨rb, hrb⟩ : ∃ rb, rightB e = rb := ⟨_, rfl⟩
  rw [hrb]
  have HRB := Lib.hid hrb; clear hrb
  rintro r w2 ⟨rfl, hB2⟩
  have HBB := Lib.hid (hBg.trans (hB2.mono hBg.size))
  clear hz0 hz1 hz2 hz3 hz4 hz5 hz6 hz7 hz8
  have hg2 := (hB2.block g (blk_lt hbg)).trans hbg
  clear hbg hBg hB2
  cases rb with
  | false =>
    have HQ2 : Hid (q = (⟨#[]⟩, 1)) := by have := HBV.out; show _ = _; rw [this]; unfold textRes; rw [HRB.out]; rfl
    go_wp2_with fail
    go_ret2
    exact ⟨by rw [HQ2.out]; rfl, HBB.out⟩
  | true =>
    have HQ2 : Hid (q = (⟨(textF e).toArray⟩, 0)) := by have := HBV.out; show _ = _; rw [this]; unfold textRes; rw [HRB.out]; rfl
    go_upto_region 4 with (first | ((with_reducible refine gate_dst (N := 4) rfl ?_); refine box_event rfl (N := 4) rfl (cs := #[.pointer none, .slice none 0 0]) (t := 71) (by first | rfl | (go_simp; done) | (go_simp; rfl)) ?_; intro b hgg w3 hbb hBb;  have hwb : w.heap.size ≤ b := (by have := HBB.out.size; omega); have hgb : some g ≠ some b := (by have := blk_lt hg2; intro h; cases h; omega); clear hgg))
    have hbd : BdIs w.heap.size b (Lib.byteCells []) w3 := .inl ⟨hwb, _, hbb, own_nil _ _ _ _, by simp [Value.ownBlock]⟩
    have hB3 : Below w.heap.size w w3 := HBB.out.trans (hBb.mono HBB.out.size)
    have hg3 := (hBb.block g (blk_lt hg2)).trans hg2
    obtain ⟨hz0, hz1, hz2, hz3, hz4, hz5, hz6, hz7, hz8⟩ := bkC9 hg3
    have HPUT := Lib.hid (put_ok w b _ e (Nat.lt_succ_self _) A c [] w3 (Rt.of HRB.out) HRG.out HT.out hB3 hbd (by have := text_short HRB.out HRG.out; simp only [List.length_nil]; omega) hc HC.out)
    unfold exC at HPUT
    have HB3 := Lib.hid hB3
    clear hbd hB3 hbb hBb
    go_upto_region 5 with (go_at_call 53; refine HPUT.out.mono ?_; rintro r w4 ⟨rfl, hb4, hB4, hO4⟩)
    have HST := Lib.hid (Tryd.Builder_String_any w.heap.size b (textF e) w4 (.inr hb4) (HB3.out.trans hB4).size)
    have HB4 := Lib.hid (HB3.out.trans hB4)
    clear hb4 hB4 hO4 hz0 hz1 hz2 hz3 hz4 hz5 hz6 hz7 hz8
    go_wp2_with (go_at_call 54; refine HST.out.mono ?_; rintro r w5 ⟨rfl, hB5⟩)
    go_ret2
    exact ⟨by rw [HQ2.out]; rfl, HB4.out.trans hB5⟩
theorem tab_at {w w' : World} (h : TabW w) (hb : Below w.heap.size w w') : TabW w' := Lib.tabBelow_of_tabIs h w' hb
end Go.Proofs.YtkboodfnegedaaaDoor.E
