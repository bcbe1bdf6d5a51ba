/- Contracts and plain lemmas of the functions that the law reaches, part 22. -/
import Derived.Deep.RegionHeld3
import Derived.Test.YtoffpegppdmkdaaGreatDoorCP3
import Derived.Test.YtoffpegppdmkdaaGreatDoorCP9
import Derived.Test.YtoffpegppdmkdaaGreatDoorCP11
import Derived.Test.YtoffpegppdmkdaaGreatDoorCP17
import Derived.Test.YtoffpegppdmkdaaGreatDoorCP20
import Derived.Test.YtoffpegppdmkdaaGreatDoorCP21
namespace Go.Proofs.YtoffpegppdmkdaaGreatDoor.E
open Go.RowKit Go.Proofs.YtoffpegppdmkdaaGreatDoorW.PrintWords Go.Proofs.YtoffpegppdmkdaaGreatDoorW.PrintLast Go.Proofs.YtoffpegppdmkdaaGreatDoorW.PrintMore
set_option linter.unusedVariables false
set_option linter.unusedSimpArgs false
abbrev Hi := S64
abbrev Sta := S51
abbrev Bl := S30
def hiC (h : Hi) (A : Option Addr) (c : Nat) : Array Value := #[.int .i64 h.f0, .int .i64 h.f1, .slice A h.f2.length c]
def zhi : Hi := ⟨0, 0, []⟩
theorem info_hi (h : Hi) (A : Option Addr) (c : Nat) : (Tryz.prog.info? 64).map (·.size) = some (hiC h A c).size := by
  have h2 : (Tryz.prog.info? 64).map (·.size) = some 3 := by kernel_rfl
  rw [h2]; rfl
theorem one_hi (h : Hi) (A : Option Addr) (c : Nat) : (hiC h A c).all (·.oneCell') = true := by simp [hiC, Value.oneCell']
structure BA where
  A0 : Option Addr
  A2 : Option Addr
  A3 : Option Addr
  A4 : Option Addr
  A5 : Option Addr
  A6 : Option Addr
  A8 : Option Addr
  A9 : Option Addr
  c0 : Nat
  c2 : Nat
  c3 : Nat
  c4 : Nat
  c5 : Nat
  c6 : Nat
  c8 : Nat
  c9 : Nat
def blC (b : Bl) (a : BA) : Array Value := #[.slice a.A0 b.f0.length a.c0, .int .i64 b.f1, .slice a.A2 b.f2.length a.c2, .slice a.A3 b.f3.length a.c3, .slice a.A4 b.f4.length a.c4, .slice a.A5 b.f5.length a.c5, .slice a.A6 b.f6.length a.c6, .bool b.f7, .slice a.A8 b.f8.length a.c8, .slice a.A9 b.f9.length a.c9, .bool b.f10]
structure BR (b : Bl) (a : BA) (w : World) : Prop where
  r0 : Kd.C (Kd.int .i64) w a.A0 b.f0.length b.f0
  l0 : b.f0.length ≤ a.c0
  r2 : Kd.C (Kd.int .i64) w a.A2 b.f2.length b.f2
  l2 : b.f2.length ≤ a.c2
  r3 : Kd.C KX w a.A3 b.f3.length b.f3
  l3 : b.f3.length ≤ a.c3
  r4 : Kd.C KX w a.A4 b.f4.length b.f4
  l4 : b.f4.length ≤ a.c4
  r5 : Kd.C KX w a.A5 b.f5.length b.f5
  l5 : b.f5.length ≤ a.c5
  r6 : Kd.C KX w a.A6 b.f6.length b.f6
  l6 : b.f6.length ≤ a.c6
  r8 : Kd.C KX w a.A8 b.f8.length b.f8
  l8 : b.f8.length ≤ a.c8
  r9 : Kd.C k187 w a.A9 b.f9.length b.f9
  l9 : b.f9.length ≤ a.c9
theorem BR.later {b : Bl} {a : BA} {w w' : World} (h : BR b a w) (hb : Below w.heap.size w w') : BR b a w' :=
  ⟨Kd.C_below h.r0 hb, h.l0, Kd.C_below h.r2 hb, h.l2, Kd.C_below h.r3 hb, h.l3, Kd.C_below h.r4 hb, h.l4, Kd.C_below h.r5 hb, h.l5, Kd.C_below h.r6 hb, h.l6, Kd.C_below h.r8 hb, h.l8, Kd.C_below h.r9 hb, h.l9⟩
def statF (sz : List Int) (st : List Sta) (rel : Int) : Sta :=
  if rel < 0 ∨ (sz.length : Int) ≤ rel then ⟨10, []⟩ else if rd sz rel < 0 ∨ (st.length : Int) ≤ rd sz rel then ⟨10, []⟩ else rd_T51 st (rd sz rel)
theorem statF_f (b : Bl) (st : List Sta) (rel : Int) : card_stat.f b.f0 b.f1 b.f2 b.f3 b.f4 b.f5 b.f6 b.f7 b.f8 b.f9 b.f10 st rel = some ((statF b.f0 st rel).f0, (statF b.f0 st rel).f1) := by
  have hs : ∀ t : Int, api_Stat.f st t 10 [] = some (if t < 0 ∨ (st.length : Int) ≤ t then ((⟨10, []⟩ : Sta).f0, (⟨10, []⟩ : Sta).f1) else ((rd_T51 st t).f0, (rd_T51 st t).f1)) := by
    intro t
    unfold api_Stat.f
    by_cases h1 : t < 0
    · rw [if_pos h1, if_pos (.inl h1)]
    · rw [if_neg h1]
      by_cases h2 : t ≥ (st.length : Int)
      · rw [if_pos h2, if_pos (.inr h2)]
      · rw [if_neg h2, if_pos (by omega), if_pos (by omega), if_neg (by omega)]
  unfold card_stat.f card_at_int.f statF
  by_cases h1 : rel < 0
  · rw [if_pos h1, if_pos (.inl h1), Option.bind_some, hs, if_pos (.inl (by decide))]; rfl
  · rw [if_neg h1]
    by_cases h2 : rel ≥ (b.f0.length : Int)
    · rw [if_pos h2, if_pos (.inr h2), Option.bind_some, hs, if_pos (.inl (by decide))]; rfl
    · rw [if_neg h2, if_pos (by omega), if_pos (by omega), if_neg (by omega), Option.bind_some, hs]
      split <;> rfl
def SV (P : Nat → Prop) (A1 : Option Addr) (c1 : Nat) (st : List Sta) (w : World) : Prop := st.length ≤ c1 ∧ Kd.F k51 w P A1 st.length st
theorem SV.of {w : World} {st : List Sta} {A1 : Option Addr} {c1 : Nat} (h : Kd.C k51 w A1 st.length st) (hc : st.length ≤ c1) : SV (fun k => k < w.heap.size) A1 c1 st w := ⟨hc, Kd.C_F k51_heap h⟩
theorem SV.later {P : Nat → Prop} {w w' : World} {st : List Sta} {A1 : Option Addr} {c1 : Nat} (h : SV P A1 c1 st w) (hb : Below w.heap.size w w') : SV P A1 c1 st w' := ⟨h.1, Kd.F_below h.2 hb⟩
theorem stat_ok (P : Nat → Prop) (b : Bl) (a : BA) (st : List Sta) (A1 : Option Addr) (c1 : Nat) (rel : Int) (w : World) (hb : BR b a w) (hS : SV P A1 c1 st w) :
    Calls Tryz.prog 25 #[.agg (blC b a), .slice A1 st.length c1, .int .i64 rel] w fun e w' => ∃ A2 c2, e = .returned (.agg #[.int .i64 (statF b.f0 st rel).f0, .slice A2 (statF b.f0 st rel).f1.length c2]) ∧ (statF b.f0 st rel).f1.length ≤ c2 ∧ Kd.F k64 w' (fun k => P k ∨ w.heap.size ≤ k) A2 (statF b.f0 st rel).f1.length (statF b.f0 st rel).f1 ∧ Below w.heap.size w w' :=
  (card_stat.calls a.A0 a.c0 b.f0 b.f1 a.A2 a.c2 b.f2 a.A3 a.c3 b.f3 a.A4 a.c4 b.f4 a.A5 a.c5 b.f5 a.A6 a.c6 b.f6 b.f7 a.A8 a.c8 b.f8 a.A9 a.c9 b.f9 b.f10 P A1 c1 st rel _ _ w hb.r0 hb.l0 hb.r2 hb.l2 hb.r3 hb.l3 hb.r4 hb.l4 hb.r5 hb.l5 hb.r6 hb.l6 hb.r8 hb.l8 hb.r9 hb.l9 (Kd.V_mk hS.1 hS.2) (statF_f b st rel)).mono (by
    rintro e w' ⟨v, rfl, hV, hB⟩
    obtain ⟨A2, c2, rfl⟩ := Kd.V_slice hV
    have h := Kd.V_at hV
    exact ⟨A2, c2, rfl, h.2.1, h.2.2, hB⟩)
theorem at_F {w : World} {ok : Nat → Prop} {A : Option Addr} {n : Nat} {xs : List Hi} (h : Kd.F k64 w ok A n xs) (i : Int) (h0 : 0 ≤ i) (h1 : i < n) : ∃ ad A2 c2, A = some ad ∧ w.cell? (ad.add (i.toNat * 3)) = some (.int .i64 (rd_T64 xs i).f0) ∧ w.cell? ⟨(ad.add (i.toNat * 3)).block, (ad.add (i.toNat * 3)).off + 1, none⟩ = some (.int .i64 (rd_T64 xs i).f1) ∧ w.cell? ⟨(ad.add (i.toNat * 3)).block, (ad.add (i.toNat * 3)).off + 2, none⟩ = some (.slice A2 (rd_T64 xs i).f2.length c2) ∧ (rd_T64 xs i).f2.length ≤ c2 ∧ Kd.F k126 w ok A2 (rd_T64 xs i).f2.length (rd_T64 xs i).f2 := by
  obtain ⟨ad, c, e, _, hK, hc0, _⟩ := Kd.F_get h z64 i h0 h1
  have hc : ∀ j u, c[j]? = some u → w.cell? (ad.add (i.toNat * 3 + j)) = some u := hc0
  obtain ⟨A2, c2, rfl, l2, g2⟩ := k64_openF hK
  exact ⟨ad, A2, c2, e, hc 0 _ rfl, by rw [← add_field _ _ 1 (by omega)]; exact hc 1 _ rfl, by rw [← add_field _ _ 2 (by omega)]; exact hc 2 _ rfl, l2, g2⟩
def histF (l : List Hi) (i : Int) : Hi := if i < 0 ∨ (l.length : Int) ≤ i then zhi else rd_T64 l i
set_option maxHeartbeats 4000000 in
set_option maxRecDepth 100000 in
theorem athist_ok (ok : Nat → Prop) (l : List Hi) (i : Int) (A : Option Addr) (c : Nat) (w : World) (hC : Kd.F k64 w ok A l.length l) :
    Calls Tryz.prog 56 #[.slice A l.length c, .int .i64 i, .agg #[.int .i64 0, .int .i64 0, .slice none 0 0]] w fun e w' => ∃ D k, e = .returned (.agg #[.int .i64 (histF l i).f0, .int .i64 (histF l i).f1, .slice D (histF l i).f2.length k]) ∧ (histF l i).f2.length ≤ k ∧ Kd.F k126 w' ok D (histF l i).f2.length (histF l i).f2 ∧ Below w.heap.size w w' := by
  obtain ⟨hz, hhz⟩ : ∃ hz, histF l i = hz := ⟨_, rfl⟩
  rw [hhz]
  obtain ⟨n, hn⟩ : ∃ n, l.length = n := ⟨_, rfl⟩
  have HZ : Hid (if i < 0 ∨ (n : Int) ≤ i then zhi = hz else rd_T64 l i = hz) := Lib.hid (by unfold histF at hhz; rw [hn] at hhz; split <;> rename_i h <;> first | (rw [if_pos h] at hhz; exact hhz) | (rw [if_neg h] at hhz; exact hhz))
  rw [hn] at hC ⊢
  have HC := Lib.hid hC; clear hC hhz hn
  go_enter Tryz.func56, Tryz.ntmps56
  go_upto_region 1 with (first | ((with_reducible refine gate_dst (N := 5) rfl ?_); refine box_event rfl (N := 5) rfl (cs := hiC zhi none 0) (t := 64) (by first | rfl | (go_simp; done) | (go_simp; rfl)) ?_; intro g hgg w1 hbg hBg;  have HG := Lib.hid hbg; have HB1 := Lib.hid hBg; clear hgg hbg hBg) | ((with_reducible refine gate_dst (N := 6) rfl ?_); refine box_event rfl (N := 6) rfl (cs := hiC zhi none 0) (t := 64) (by first | rfl | (go_simp; done) | (go_simp; rfl)) ?_; intro rb hgg w2 hbrb hBrb;  have hrb : w1.heap.size ≤ rb := (by omega); have HR3 := Lib.hid hbrb; have HB2 := Lib.hid hBrb; clear hgg hbrb hBrb))
  have HB : Hid (Below w.heap.size w w2) := Lib.hid (HB1.out.trans (HB2.out.mono HB1.out.size))
  have hrbw : w.heap.size ≤ rb := by have := HB1.out.size; omega
  have hg2 := (HB2.out.block g (blk_lt HG.out)).trans HG.out
  clear HB1 HB2 HG
  by_cases hin : i < 0 ∨ (n : Int) ≤ i
  · have h := HZ.out
    rw [if_pos hin] at h
    obtain ⟨D, hD⟩ : ∃ D : Option Addr, none = D := ⟨_, rfl⟩
    obtain ⟨k, hk⟩ : ∃ k : Nat, 0 = k := ⟨_, rfl⟩
    have z0 : w2.cell? ⟨g, 0, none⟩ = some (.int .i64 hz.f0) := by rw [← h]; exact (bkC hg2 0).trans rfl
    have z1 : w2.cell? ⟨g, 1, none⟩ = some (.int .i64 hz.f1) := by rw [← h]; exact (bkC hg2 1).trans rfl
    have z2 : w2.cell? ⟨g, 2, none⟩ = some (.slice D hz.f2.length k) := by rw [← h, ← hD, ← hk]; exact (bkC hg2 2).trans rfl
    have HX : Hid (hz.f2.length ≤ k ∧ Kd.F k126 w ok D hz.f2.length hz.f2) := Lib.hid (by rw [← h, ← hD, ← hk]; exact ⟨Nat.le_refl _, Kd.F_nil _ _ _⟩)
    clear hg2 h hD hk
    by_cases h1 : i < 0
    · go_wp2_with (((with_reducible refine gate_store (p := 6) (v := .tmp 15) rfl ?_); refine wpList_store_row rfl 64 (.tmp 6) (.tmp 15) rfl rb (hiC hz D k) rfl rfl 64 (hiC zhi none 0) HR3.out (info_hi _ _ _) rfl (one_hi _ _ _) ?_)); refine bodyPost_ret (results_cell_row rfl _ _ rb 64 (hiC hz D k) (0, 0) _ rfl (setRow_at _ rb _ _ _ HR3.out) Tryz.underlying64 rfl (info_hi _ _ _)) rfl ?_; exact ⟨D, k, rfl, HX.out.1, Kd.F_below HX.out.2 (below_setRow' HB.out hrbw _), below_setRow' HB.out hrbw _⟩
    · have h2 : (n : Int) ≤ i := by omega
      go_wp2_with (((with_reducible refine gate_store (p := 6) (v := .tmp 15) rfl ?_); refine wpList_store_row rfl 64 (.tmp 6) (.tmp 15) rfl rb (hiC hz D k) rfl rfl 64 (hiC zhi none 0) HR3.out (info_hi _ _ _) rfl (one_hi _ _ _) ?_)); refine bodyPost_ret (results_cell_row rfl _ _ rb 64 (hiC hz D k) (0, 0) _ rfl (setRow_at _ rb _ _ _ HR3.out) Tryz.underlying64 rfl (info_hi _ _ _)) rfl ?_; exact ⟨D, k, rfl, HX.out.1, Kd.F_below HX.out.2 (below_setRow' HB.out hrbw _), below_setRow' HB.out hrbw _⟩
  · have h := HZ.out
    rw [if_neg hin] at h
    have h1 : ¬ i < 0 := by omega
    have h2 : ¬ (n : Int) ≤ i := by omega
    have h3 : 0 ≤ i := by omega
    have h4 : i < (n : Int) := by omega
    obtain ⟨ad, D, k, rfl, q0, q1, q2, hk, hC2⟩ := at_F HC.out i h3 h4
    rw [h] at q0 q1 q2 hk hC2
    replace q0 := pw_cell_below HB.out q0; replace q1 := pw_cell_below HB.out q1; replace q2 := pw_cell_below HB.out q2
    have HX := Lib.hid (And.intro hk hC2)
    clear hC2 h hin hg2 hk
    go_wp2_with (((with_reducible refine gate_store (p := 6) (v := .tmp 19) rfl ?_); refine wpList_store_row rfl 64 (.tmp 6) (.tmp 19) rfl rb (hiC hz D k) rfl rfl 64 (hiC zhi none 0) HR3.out (info_hi _ _ _) rfl (one_hi _ _ _) ?_)); refine bodyPost_ret (results_cell_row rfl _ _ rb 64 (hiC hz D k) (0, 0) _ rfl (setRow_at _ rb _ _ _ HR3.out) Tryz.underlying64 rfl (info_hi _ _ _)) rfl ?_; exact ⟨D, k, rfl, HX.out.1, Kd.F_below HX.out.2 (below_setRow' HB.out hrbw _), below_setRow' HB.out hrbw _⟩
def saC (s : Sta) (A : Option Addr) (c : Nat) : Array Value := #[.int .i64 s.f0, .slice A s.f1.length c]
theorem info_sa (s : Sta) (A : Option Addr) (c : Nat) : (Tryz.prog.info? 51).map (·.size) = some (saC s A c).size := by
  have h2 : (Tryz.prog.info? 51).map (·.size) = some 2 := by kernel_rfl
  rw [h2]; rfl
theorem one_sa (s : Sta) (A : Option Addr) (c : Nat) : (saC s A c).all (·.oneCell') = true := by simp [saC, Value.oneCell']
theorem at_S {w : World} {ok : Nat → Prop} {A : Option Addr} {n : Nat} {xs : List Sta} (h : Kd.F k51 w ok A n xs) (i : Int) (h0 : 0 ≤ i) (h1 : i < n) : ∃ ad A2 c2, A = some ad ∧ w.cell? (ad.add (i.toNat * 2)) = some (.int .i64 (rd_T51 xs i).f0) ∧ w.cell? ⟨(ad.add (i.toNat * 2)).block, (ad.add (i.toNat * 2)).off + 1, none⟩ = some (.slice A2 (rd_T51 xs i).f1.length c2) ∧ (rd_T51 xs i).f1.length ≤ c2 ∧ Kd.F k64 w ok A2 (rd_T51 xs i).f1.length (rd_T51 xs i).f1 := by
  obtain ⟨ad, c, e, _, hK, hc0, _⟩ := Kd.F_get h z51 i h0 h1
  have hc : ∀ j u, c[j]? = some u → w.cell? (ad.add (i.toNat * 2 + j)) = some u := hc0
  obtain ⟨A2, c2, rfl, l2, g2⟩ := k51_openF hK
  exact ⟨ad, A2, c2, e, hc 0 _ rfl, by rw [← add_field _ _ 1 (by omega)]; exact hc 1 _ rfl, l2, g2⟩
set_option maxHeartbeats 4000000 in
set_option maxRecDepth 100000 in
theorem rstat_ok (P : Nat → Prop) (b : Bl) (a : BA) (st : List Sta) (A1 : Option Addr) (c1 : Nat) (rel : Int) (w : World) (hb : BR b a w) (hS : SV P A1 c1 st w) (hr : 0 ≤ rel) :
    Calls Tryz.prog 30 #[.agg (blC b a), .slice A1 st.length c1, .int .i64 rel] w fun e w' => ∃ A2 c2, e = .returned (.agg #[.int .i64 (statF b.f0 st rel).f0, .slice A2 (statF b.f0 st rel).f1.length c2]) ∧ (statF b.f0 st rel).f1.length ≤ c2 ∧ Kd.F k64 w' P A2 (statF b.f0 st rel).f1.length (statF b.f0 st rel).f1 ∧ Below w.heap.size w w' := by
  obtain ⟨s, hs⟩ : ∃ s, statF b.f0 st rel = s := ⟨_, rfl⟩
  obtain ⟨z0, hz0⟩ : ∃ z0 : Sta, (⟨0, []⟩ : Sta) = z0 := ⟨_, rfl⟩
  rw [hs]
  have HC0 := Lib.hid hb.r0
  have HSV := Lib.hid hS.2
  unfold statF at hs
  have HZ := Lib.hid hs
  obtain ⟨n, hn⟩ : ∃ n, b.f0.length = n := ⟨_, rfl⟩
  obtain ⟨n1, hn1⟩ : ∃ n1, st.length = n1 := ⟨_, rfl⟩
  have HN := Lib.hid hn; have HN1 := Lib.hid hn1
  unfold blC
  rw [hn, hn1]
  have HZ0 := Lib.hid hz0
  clear hb hS hs hn hn1 hz0
  go_enter Tryz.func30, Tryz.ntmps30
  go_upto_region 1 with (first | ((with_reducible refine gate_dst (N := 3) rfl ?_); refine box_event rfl (N := 3) rfl (cs := #[.slice a.A0 n a.c0, .int .i64 b.f1, .slice a.A2 b.f2.length a.c2, .slice a.A3 b.f3.length a.c3, .slice a.A4 b.f4.length a.c4, .slice a.A5 b.f5.length a.c5, .slice a.A6 b.f6.length a.c6, .bool b.f7, .slice a.A8 b.f8.length a.c8, .slice a.A9 b.f9.length a.c9, .bool b.f10]) (t := 30) (by first | rfl | (go_simp; done) | (go_simp; rfl)) ?_; intro g hgg w1 hbg hBg;  have HG := Lib.hid hbg; have HB1 := Lib.hid hBg; clear hgg hbg hBg) | ((with_reducible refine gate_dst (N := 6) rfl ?_); refine box_event rfl (N := 6) rfl (cs := #[.int .i64 0, .slice none 0 0]) (t := 51) (by first | rfl | (go_simp; done) | (go_simp; rfl)) ?_; intro rb hgg w2 hbrb hBrb;  have hrb : w1.heap.size ≤ rb := (by omega); have HR3' := Lib.hid hbrb; have HB2 := Lib.hid hBrb; clear hgg hbrb hBrb))
  have HR3 : Hid (w2.heap[rb]? = some (.cells (saC z0 none 0) 51 (0, 0))) := Lib.hid (by rw [← HZ0.out]; exact HR3'.out)
  have HB : Hid (Below w.heap.size w w2) := Lib.hid (HB1.out.trans (HB2.out.mono HB1.out.size))
  have hrbw : w.heap.size ≤ rb := by have := HB1.out.size; omega
  have x0 : w2.cell? ⟨g, 0, none⟩ = some (.slice a.A0 n a.c0) := (bkC ((HB2.out.block g (blk_lt HG.out)).trans HG.out) 0).trans rfl
  clear HB1 HB2 HG HR3' hrb HZ0
  have HX0 : ⟨10, []⟩ = s → Hid (s.f1.length ≤ 0 ∧ Kd.F k64 w P none s.f1.length s.f1) := fun h => Lib.hid (by rw [← h]; exact ⟨Nat.le_refl _, Kd.F_nil _ _ _⟩)
  by_cases h1 : rel < (n : Int)
  · obtain ⟨ad, hA, hx⟩ := Kd.at_int (Kd.C_below HC0.out HB.out) rel hr (by rw [HN.out]; exact h1)
    have hz := HZ.out
    rw [HN.out, if_neg (by omega), HN1.out] at hz
    obtain ⟨t, ht⟩ : ∃ t, rd b.f0 rel = t := ⟨_, rfl⟩
    rw [ht] at hx hz
    rw [hA] at x0 ⊢
    clear ht HZ HC0
    by_cases h2 : 0 ≤ t
    · by_cases h3 : t < (n1 : Int)
      · rw [if_neg (by omega)] at hz
        obtain ⟨ad2, D, k, hA1, q0, q1, hk, hF⟩ := at_S HSV.out t h2 (by rw [HN1.out]; exact h3)
        rw [hz] at q0 q1 hk hF
        rw [hA1]
        replace q0 := pw_cell_below HB.out q0; replace q1 := pw_cell_below HB.out q1
        have HX := Lib.hid (And.intro hk hF)
        have hd2 : decide (0 ≤ t) = true := decide_eq_true h2
        clear hF hz hk HX0 hA hA1
        go_wp2_with (((with_reducible refine gate_store (p := 6) (v := .tmp 37) rfl ?_); refine wpList_store_row rfl 51 (.tmp 6) (.tmp 37) rfl rb (saC s D k) rfl rfl 51 (saC z0 none 0) HR3.out (info_sa _ _ _) rfl (one_sa _ _ _) ?_)); refine bodyPost_ret (results_cell_row rfl _ _ rb 51 (saC s D k) (0, 0) _ rfl (setRow_at _ rb _ _ _ HR3.out) Tryz.underlying51 rfl (info_sa _ _ _)) rfl ?_; first | exact ⟨D, k, rfl, HX.out.1, Kd.F_below HX.out.2 (below_setRow' HB.out hrbw _), below_setRow' HB.out hrbw _⟩ | exact ⟨D, ⟨k, rfl⟩, Kd.F_below HX.out.2 (below_setRow' HB.out hrbw _), below_setRow' HB.out hrbw _⟩
      · rw [if_pos (by omega)] at hz
        have HX := HX0 hz
        subst hz
        have hd2 : decide (0 ≤ t) = true := decide_eq_true h2
        have hd3 : decide (t < (n1 : Int)) = false := decide_eq_false h3
        clear HX0 hA
        go_wp2_with (((with_reducible refine gate_store (p := 6) (v := .tmp 38) rfl ?_); refine wpList_store_row rfl 51 (.tmp 6) (.tmp 38) rfl rb (saC (⟨10, []⟩ : Sta) none 0) rfl rfl 51 (saC z0 none 0) HR3.out (info_sa _ _ _) rfl (one_sa _ _ _) ?_)); refine bodyPost_ret (results_cell_row rfl _ _ rb 51 (saC (⟨10, []⟩ : Sta) none 0) (0, 0) _ rfl (setRow_at _ rb _ _ _ HR3.out) Tryz.underlying51 rfl (info_sa _ _ _)) rfl ?_; first | exact ⟨none, 0, rfl, HX.out.1, Kd.F_below HX.out.2 (below_setRow' HB.out hrbw _), below_setRow' HB.out hrbw _⟩ | exact ⟨none, ⟨0, rfl⟩, Kd.F_below HX.out.2 (below_setRow' HB.out hrbw _), below_setRow' HB.out hrbw _⟩
    · rw [if_pos (by omega)] at hz
      have HX := HX0 hz
      subst hz
      have hd2 : decide (0 ≤ t) = false := decide_eq_false h2
      clear HX0 hA
      go_wp2_with (((with_reducible refine gate_store (p := 6) (v := .tmp 38) rfl ?_); refine wpList_store_row rfl 51 (.tmp 6) (.tmp 38) rfl rb (saC (⟨10, []⟩ : Sta) none 0) rfl rfl 51 (saC z0 none 0) HR3.out (info_sa _ _ _) rfl (one_sa _ _ _) ?_)); refine bodyPost_ret (results_cell_row rfl _ _ rb 51 (saC (⟨10, []⟩ : Sta) none 0) (0, 0) _ rfl (setRow_at _ rb _ _ _ HR3.out) Tryz.underlying51 rfl (info_sa _ _ _)) rfl ?_; first | exact ⟨none, 0, rfl, HX.out.1, Kd.F_below HX.out.2 (below_setRow' HB.out hrbw _), below_setRow' HB.out hrbw _⟩ | exact ⟨none, ⟨0, rfl⟩, Kd.F_below HX.out.2 (below_setRow' HB.out hrbw _), below_setRow' HB.out hrbw _⟩
  · have hz := HZ.out
    rw [HN.out, if_pos (by omega)] at hz
    have HX := HX0 hz
    subst hz
    have hd1 : decide (rel < (n : Int)) = false := decide_eq_false h1
    clear HX0 HZ HC0
    go_wp2_with (((with_reducible refine gate_store (p := 6) (v := .tmp 38) rfl ?_); refine wpList_store_row rfl 51 (.tmp 6) (.tmp 38) rfl rb (saC (⟨10, []⟩ : Sta) none 0) rfl rfl 51 (saC z0 none 0) HR3.out (info_sa _ _ _) rfl (one_sa _ _ _) ?_)); refine bodyPost_ret (results_cell_row rfl _ _ rb 51 (saC (⟨10, []⟩ : Sta) none 0) (0, 0) _ rfl (setRow_at _ rb _ _ _ HR3.out) Tryz.underlying51 rfl (info_sa _ _ _)) rfl ?_; first | exact ⟨none, 0, rfl, HX.out.1, Kd.F_below HX.out.2 (below_setRow' HB.out hrbw _), below_setRow' HB.out hrbw _⟩ | exact ⟨none, ⟨0, rfl⟩, Kd.F_below HX.out.2 (below_setRow' HB.out hrbw _), below_setRow' HB.out hrbw _⟩
set_option maxHeartbeats 4000000 in
set_option maxRecDepth 100000 in
theorem rhist_ok (P : Nat → Prop) (b : Bl) (a : BA) (st : List Sta) (A1 : Option Addr) (c1 : Nat) (e : Ex) (Ae : Option Addr) (ce : Nat) (w : World) (hb : BR b a w) (hS : SV P A1 c1 st w) (hP : ∀ k, P k → k < w.heap.size) (h2 : 0 ≤ e.f2) (h3 : 0 ≤ e.f3) :
    Calls Tryz.prog 31 #[.agg (blC b a), .slice A1 st.length c1, .agg (exC e Ae ce)] w fun r w' => ∃ D k, r = .returned (.agg #[.int .i64 (histF (statF b.f0 st e.f2).f1 e.f3).f0, .int .i64 (histF (statF b.f0 st e.f2).f1 e.f3).f1, .slice D (histF (statF b.f0 st e.f2).f1 e.f3).f2.length k]) ∧ (histF (statF b.f0 st e.f2).f1 e.f3).f2.length ≤ k ∧ Kd.F k126 w' P D (histF (statF b.f0 st e.f2).f1 e.f3).f2.length (histF (statF b.f0 st e.f2).f1 e.f3).f2 ∧ Below w.heap.size w w' := by
  have HST := Lib.hid (fun (W : World) (hW : Below w.heap.size w W) => rstat_ok P b a st A1 c1 e.f2 W (hb.later hW) ⟨hS.1, Kd.F_below hS.2 hW⟩ h2)
  obtain ⟨s, hs⟩ : ∃ s, statF b.f0 st e.f2 = s := ⟨_, rfl⟩
  obtain ⟨z0, hz0⟩ : ∃ z0 : Sta, (⟨0, []⟩ : Sta) = z0 := ⟨_, rfl⟩
  rw [hs] at HST ⊢
  obtain ⟨hz, hhz⟩ : ∃ hz, histF s.f1 e.f3 = hz := ⟨_, rfl⟩
  rw [hhz]
  obtain ⟨n1, hn1⟩ : ∃ n1, st.length = n1 := ⟨_, rfl⟩
  rw [hn1] at HST ⊢
  unfold histF at hhz
  have HZ := Lib.hid hhz
  have HZ0 := Lib.hid hz0
  have HP := Lib.hid hP
  clear hb hS hs hhz hn1 hz0 hP
  unfold blC at HST
  unfold blC exC
  go_enter Tryz.func31, Tryz.ntmps31
  go_upto_region 1 with (first | ((with_reducible refine gate_dst (N := 3) rfl ?_); refine box_event rfl (N := 3) rfl (cs := #[.slice a.A0 b.f0.length a.c0, .int .i64 b.f1, .slice a.A2 b.f2.length a.c2, .slice a.A3 b.f3.length a.c3, .slice a.A4 b.f4.length a.c4, .slice a.A5 b.f5.length a.c5, .slice a.A6 b.f6.length a.c6, .bool b.f7, .slice a.A8 b.f8.length a.c8, .slice a.A9 b.f9.length a.c9, .bool b.f10]) (t := 30) (by first | rfl | (go_simp; done) | (go_simp; rfl)) ?_; intro g3 hgg w1 hbg3 hBg3;  have HG3 := Lib.hid hbg3; have HB1 := Lib.hid hBg3; clear hgg hbg3 hBg3) | ((with_reducible refine gate_dst (N := 5) rfl ?_); refine box_event rfl (N := 5) rfl (cs := exC e Ae ce) (t := 26) (by first | rfl | (go_simp; done) | (go_simp; rfl)) ?_; intro g5 hgg w2 hbg5 hBg5;  have HG5 := Lib.hid hbg5; have HB2 := Lib.hid hBg5; clear hgg hbg5 hBg5) | ((with_reducible refine gate_dst (N := 6) rfl ?_); refine box_event rfl (N := 6) rfl (cs := hiC zhi none 0) (t := 64) (by first | rfl | (go_simp; done) | (go_simp; rfl)) ?_; intro rb hgg w3 hbrb hBrb;  have hrb : w2.heap.size ≤ rb := (by omega); have HR3 := Lib.hid hbrb; have HB3 := Lib.hid hBrb; clear hgg hbrb hBrb))
  replace HG3 := Lib.hid ((HB3.out.block g3 (Nat.lt_of_lt_of_le (blk_lt HG3.out) HB2.out.size)).trans ((HB2.out.block g3 (blk_lt HG3.out)).trans HG3.out))
  replace HG5 := Lib.hid ((HB3.out.block g5 (blk_lt HG5.out)).trans HG5.out)
  have hrbw : w.heap.size ≤ rb := Nat.le_trans HB1.out.size (Nat.le_trans HB2.out.size hrb)
  have HB : Hid (Below w.heap.size w w3) := Lib.hid (HB1.out.trans ((HB2.out.trans (HB3.out.mono HB2.out.size)).mono HB1.out.size))
  clear HB1 HB2 hrb
  have HST3 := Lib.hid (HST.out w3 HB.out)
  have bx0 : w3.cell? ⟨g3, 0, none⟩ = some (.slice a.A0 b.f0.length a.c0) := (bkC HG3.out 0).trans rfl; have bx1 : w3.cell? ⟨g3, 1, none⟩ = some (.int .i64 b.f1) := (bkC HG3.out 1).trans rfl; have bx2 : w3.cell? ⟨g3, 2, none⟩ = some (.slice a.A2 b.f2.length a.c2) := (bkC HG3.out 2).trans rfl; have bx3 : w3.cell? ⟨g3, 3, none⟩ = some (.slice a.A3 b.f3.length a.c3) := (bkC HG3.out 3).trans rfl; have bx4 : w3.cell? ⟨g3, 4, none⟩ = some (.slice a.A4 b.f4.length a.c4) := (bkC HG3.out 4).trans rfl; have bx5 : w3.cell? ⟨g3, 5, none⟩ = some (.slice a.A5 b.f5.length a.c5) := (bkC HG3.out 5).trans rfl; have bx6 : w3.cell? ⟨g3, 6, none⟩ = some (.slice a.A6 b.f6.length a.c6) := (bkC HG3.out 6).trans rfl; have bx7 : w3.cell? ⟨g3, 7, none⟩ = some (.bool b.f7) := (bkC HG3.out 7).trans rfl; have bx8 : w3.cell? ⟨g3, 8, none⟩ = some (.slice a.A8 b.f8.length a.c8) := (bkC HG3.out 8).trans rfl; have bx9 : w3.cell? ⟨g3, 9, none⟩ = some (.slice a.A9 b.f9.length a.c9) := (bkC HG3.out 9).trans rfl; have bx10 : w3.cell? ⟨g3, 10, none⟩ = some (.bool b.f10) := (bkC HG3.out 10).trans rfl
  have y4 : w3.cell? ⟨g5, 4, none⟩ = some (.int .i64 e.f2) := (bkC HG5.out 4).trans rfl
  go_upto_region 2 with (first | (go_at_call 30; refine HST3.out.mono ?_; rintro rr w4 ⟨A2, c2, rfl, hc2, hF4, hB4⟩; have HC2 := Lib.hid hc2; have HF4 := Lib.hid hF4; have HB4 := Lib.hid hB4; clear hc2 hF4 hB4) | ((with_reducible refine gate_dst (N := 7) rfl ?_); refine box_event rfl (N := 7) rfl (cs := #[.int .i64 0, .slice none 0 0]) (t := 51) (by first | rfl | (go_simp; done) | (go_simp; rfl)) ?_; intro g7 hgg w5 hbg7 hBg7;  have hg7w : w4.heap.size ≤ g7 := (by omega); have HG7' := Lib.hid hbg7; have HB5 := Lib.hid hBg7; clear hgg hbg7 hBg7) | ((with_reducible refine gate_store (p := 7) (v := .tmp 12) rfl ?_); refine wpList_store_row rfl 51 (.tmp 7) (.tmp 12) rfl g7 (saC s A2 c2) rfl rfl 51 #[.int .i64 0, .slice none 0 0] HG7'.out (info_sa _ _ _) rfl (one_sa _ _ _) ?_))
  have HB6' : Hid (Below w4.heap.size w4 (w5.setRow g7 (saC s A2 c2))) := Lib.hid (below_setRow' HB5.out hg7w _)
  have HG7 : Hid ((w5.setRow g7 (saC s A2 c2)).heap[g7]? = some (.cells (saC s A2 c2) 51 (0, 0))) := Lib.hid (setRow_at w5 g7 _ _ (saC s A2 c2) HG7'.out)
  generalize w5.setRow g7 (saC s A2 c2) = w6 at HB6' HG7 ⊢
  have HB46 := HB4.out.trans (HB6'.out.mono HB4.out.size)
  have HR6 : Hid (w6.heap[rb]? = some (.cells (hiC zhi none 0) 64 (0, 0))) := Lib.hid ((HB46.block rb (blk_lt HR3.out)).trans HR3.out)
  have y5 : w6.cell? ⟨g5, 5, none⟩ = some (.int .i64 e.f3) := pw_cell_below HB46 ((bkC HG5.out 5).trans rfl)
  have HB6 : Hid (Below w.heap.size w w6) := Lib.hid (HB.out.trans (HB46.mono HB.out.size))
  have HF6 := Lib.hid (Kd.F_below HF4.out HB6'.out)
  have z1 : w6.cell? ⟨g7, 1, none⟩ = some (.slice A2 s.f1.length c2) := (bkC HG7.out 1).trans rfl
  clear HB46 HB6' HG7 HG7' HF4 HB4 HB5 HB HG3 HG5 HR3 HST HST3 y4 bx0 bx1 bx2 bx3 bx4 bx5 bx6 bx7 bx8 bx9 bx10 hg7w HZ0
  by_cases h1 : e.f3 < (s.f1.length : Int)
  · have hzz := HZ.out
    rw [if_neg (by omega)] at hzz
    obtain ⟨ad, D, k, hA, q0, q1, q2, hk, hF⟩ := at_F HF6.out e.f3 h3 h1
    rw [hzz] at q0 q1 q2 hk hF
    subst hA
    have HX := Lib.hid (And.intro hk hF)
    clear hF hk hzz HF6 HZ
    go_wp2_with (((with_reducible refine gate_store (p := 6) (v := .tmp 24) rfl ?_); refine wpList_store_row rfl 64 (.tmp 6) (.tmp 24) rfl rb (hiC hz D k) rfl rfl 64 (hiC zhi none 0) HR6.out (info_hi _ _ _) rfl (one_hi _ _ _) ?_)); refine bodyPost_ret (results_cell_row rfl _ _ rb 64 (hiC hz D k) (0, 0) _ rfl (setRow_at _ rb _ _ _ HR6.out) Tryz.underlying64 rfl (info_hi _ _ _)) rfl ?_; first | exact ⟨D, k, rfl, HX.out.1, Kd.F_step HX.out.2 (fun q hq _ => ((below_setRow' HB6.out hrbw _).block q (HP.out q hq)).trans (HB6.out.block q (HP.out q hq)).symm), below_setRow' HB6.out hrbw _⟩ | exact ⟨D, ⟨k, rfl⟩, Kd.F_nil _ _ _, below_setRow' HB6.out hrbw _⟩
  · have hzz := HZ.out
    rw [if_pos (by omega)] at hzz
    subst hzz
    have HX : Hid (zhi.f2.length ≤ 0 ∧ Kd.F k126 w6 P none zhi.f2.length zhi.f2) := Lib.hid ⟨Nat.le_refl _, Kd.F_nil _ _ _⟩
    have hd1 : decide (e.f3 < (s.f1.length : Int)) = false := decide_eq_false h1
    clear HF6 HZ
    go_wp2_with (((with_reducible refine gate_store (p := 6) (v := .tmp 25) rfl ?_); refine wpList_store_row rfl 64 (.tmp 6) (.tmp 25) rfl rb (hiC zhi none 0) rfl rfl 64 (hiC zhi none 0) HR6.out (info_hi _ _ _) rfl (one_hi _ _ _) ?_)); refine bodyPost_ret (results_cell_row rfl _ _ rb 64 (hiC zhi none 0) (0, 0) _ rfl (setRow_at _ rb _ _ _ HR6.out) Tryz.underlying64 rfl (info_hi _ _ _)) rfl ?_; first | exact ⟨none, 0, rfl, HX.out.1, Kd.F_step HX.out.2 (fun q hq _ => ((below_setRow' HB6.out hrbw _).block q (HP.out q hq)).trans (HB6.out.block q (HP.out q hq)).symm), below_setRow' HB6.out hrbw _⟩ | exact ⟨none, ⟨0, rfl⟩, Kd.F_nil _ _ _, below_setRow' HB6.out hrbw _⟩
theorem less_irr (l : List UInt8) : Op.bytesLess l l = false := by
  induction l with
  | nil => rfl
  | cons a l ih => simp [Op.bytesLess, ih]
theorem rcmp_f (a b : Va) : q01_Compare.f a.f0 a.f1 a.f2 b.f0 b.f1 b.f2 = some (cmpV a b) := by
  unfold q01_Compare.f q01_sign.f cmpV
  by_cases h0 : a.f0 = b.f0
  · have e0 : cmpI a.f0 b.f0 = 0 := by unfold cmpI; rw [h0]; simp
    rw [if_pos h0, e0, if_neg (show ¬ ((0 : Int) ≠ 0) by decide)]
    by_cases h1 : a.f1 = b.f1
    · have e1 : cmpI a.f1 b.f1 = 0 := by unfold cmpI; rw [h1]; simp
      rw [if_pos h1, e1, if_neg (show ¬ ((0 : Int) ≠ 0) by decide)]
      by_cases h2 : a.f2.toList = b.f2.toList
      · rw [if_pos h2]
        unfold cmpS
        rw [h2, less_irr, if_neg (show ¬ (false = true) by decide), if_pos (by simp)]
      · rw [if_neg h2]
        unfold cmpS
        by_cases h3 : Op.bytesLess a.f2.toList b.f2.toList = true
        · rw [if_pos h3, if_pos h3]; rfl
        · rw [if_neg h3, if_neg h3, if_neg (by simpa using h2)]; rfl
    · rw [if_neg h1]
      by_cases h3 : a.f1 < b.f1
      · have e1 : cmpI a.f1 b.f1 = -1 := by unfold cmpI; rw [if_pos h3]
        rw [if_pos (decide_eq_true h3), e1, if_pos (show (-1 : Int) ≠ 0 by decide)]; rfl
      · have e1 : cmpI a.f1 b.f1 = 1 := by unfold cmpI; rw [if_neg h3, if_pos (by omega)]
        rw [if_neg (by simpa using h3), e1, if_pos (show (1 : Int) ≠ 0 by decide)]; rfl
  · rw [if_neg h0]
    by_cases h3 : a.f0 < b.f0
    · have e1 : cmpI a.f0 b.f0 = -1 := by unfold cmpI; rw [if_pos h3]
      rw [if_pos (decide_eq_true h3), e1, if_pos (show (-1 : Int) ≠ 0 by decide)]; rfl
    · have e1 : cmpI a.f0 b.f0 = 1 := by unfold cmpI; rw [if_neg h3, if_pos (by omega)]
      rw [if_neg (by simpa using h3), e1, if_pos (show (1 : Int) ≠ 0 by decide)]; rfl
theorem radd_f (a b : Int) : q13_Add.f a b = some (addI a b) := by
  have ha := clip_0 a; have hb := clip_0 b
  show some (clipI (wrap64 (clipI a + clipI b))) = _
  rw [wrap64_of (by omega) (by omega)]; rfl
theorem below_b (c : Int) (too : Bool) : decide (c ≤ if too = true then 0 else -1) = (decide (c < 0) || (too && (c == 0))) := by
  cases too
  · simp; omega
  · simp only [if_true, Bool.true_and]
    by_cases h : c ≤ 0
    · by_cases h2 : c = 0
      · subst h2; rfl
      · have h3 : c < 0 := by omega
        simp [h, h3]
    · have h3 : ¬ c < 0 := by omega
      have h4 : ¬ c = 0 := by omega
      simp [h, h3, h4]
set_option maxHeartbeats 4000000 in
set_option maxRecDepth 100000 in
theorem rbelow_ok (d m : Int) (l : List St) (A : Option Addr) (c : Nat) (v : Va) (too : Bool) (w : World) (hC : Kd.C k126 w A l.length l) :
    Calls Tryz.prog 62 #[.agg #[.int .i64 d, .int .i64 m, .slice A l.length c], .agg (vaC v), .bool too] w fun e w' => e = .returned (.int .i64 (belowI l v too)) ∧ Below w.heap.size w w' := by
  have hn63 : l.length ≤ 9223372036854775807 := by have := hC.2.1; omega
  obtain ⟨n, hn⟩ : ∃ n, l.length = n := ⟨_, rfl⟩
  rw [hn] at hC hn63 ⊢
  obtain ⟨p, hp⟩ : ∃ p : St → Bool, (fun s => decide (cmpV s.f0 v ≤ if too = true then 0 else -1)) = p := ⟨_, rfl⟩
  obtain ⟨R, hR⟩ : ∃ R, belowI l v too = R := ⟨_, rfl⟩
  rw [hR]
  unfold belowI at hR
  rw [hp] at hR
  have HPV : Hid (∀ s : St, p s = (decide (cmpV s.f0 v < 0) || (too && (cmpV s.f0 v == 0)))) := Lib.hid (fun s => by rw [← hp]; exact below_b _ _)
  have HN := Lib.hid hn; have HC := Lib.hid hC; have HR := Lib.hid hR; clear hn hC hR hp
  unfold vaC
  go_enter Tryz.func62, Tryz.ntmps62
  go_upto_region 1 with (first | ((with_reducible refine gate_dst (N := 3) rfl ?_); refine box_event rfl (N := 3) rfl (cs := #[.int .i64 d, .int .i64 m, .slice A n c]) (t := 64) (by first | rfl | (go_simp; done) | (go_simp; rfl)) ?_; intro g hgg w1 hbg hBg;  have HG := Lib.hid hbg; have HB1 := Lib.hid hBg; clear hgg hbg hBg) | ((with_reducible refine gate_dst (N := 4) rfl ?_); refine box_event rfl (N := 4) rfl (cs := vaC v) (t := 23) (by first | rfl | (go_simp; done) | (go_simp; rfl)) ?_; intro gv hgg w2 hbgv hBgv;  have HV := Lib.hid hbgv; have HB2 := Lib.hid hBgv; clear hgg hbgv hBgv))
  have HG2 := Lib.hid ((HB2.out.block g (blk_lt HG.out)).trans HG.out)
  have HB0 : Hid (Below w.heap.size w w2) := Lib.hid (HB1.out.trans (HB2.out.mono HB1.out.size))
  clear HG HB1 HB2
  go_upto_region 3 with fail
  go_loopw [7, 8] (fun v7 v8 wr => ∃ (k : Nat) (a : Int), k ≤ n ∧ v7 = .int .i64 a ∧ v8 = .int .i64 k ∧ Hid (manyI p (l.drop k) a = R) ∧ Hid (Below w2.heap.size w2 wr)) (fun _ i _ => n - (intOf i).toNat)
  case atStart => exact ⟨0, 0, Nat.zero_le _, rfl, rfl, HR, Lib.hid (Below.refl _ _)⟩
  case round =>
    obtain ⟨k, a, hk, rfl, rfl, HA, HB⟩ := hrel
    have x2 : wr.cell? ⟨g, 2, none⟩ = some (.slice A n c) := pw_cell_below HB.out ((bkC HG2.out 2).trans rfl)
    have HBw : Hid (Below w.heap.size w wr) := Lib.hid (HB0.out.trans (HB.out.mono HB0.out.size))
    by_cases hlt : k < n
    · have hlt' : (k : Int) < n := by omega
      obtain ⟨ad, rfl, q0, q1, q2, q3⟩ := at_T126 (Kd.C_below HC.out HBw.out) (k : Int) (by omega) hlt'
      rw [show ((k : Int)).toNat = k by omega] at q0 q1 q2 q3
      have hkl : k < l.length := by rw [HN.out]; exact hlt
      obtain ⟨s, hs⟩ : ∃ s, rd_T126 l (k : Int) = s := ⟨_, rfl⟩
      have HD : Hid (l.drop k = s :: l.drop (k + 1)) := Lib.hid (by
        rw [List.drop_eq_getElem_cons hkl, ← hs]
        unfold rd_T126
        simp [List.getElem?_eq_getElem hkl])
      rw [hs] at q0 q1 q2 q3
      clear hs hkl
      have v0 : wr.cell? ⟨gv, 0, none⟩ = some (.int .i64 v.f0) := pw_cell_below HB.out ((bkC HV.out 0).trans rfl)
      have v1 : wr.cell? ⟨gv, 1, none⟩ = some (.int .i64 v.f1) := pw_cell_below HB.out ((bkC HV.out 1).trans rfl)
      have v2 : wr.cell? ⟨gv, 2, none⟩ = some (.string v.f2) := pw_cell_below HB.out ((bkC HV.out 2).trans rfl)
      obtain ⟨cc, hcc⟩ : ∃ cc, cmpV s.f0 v = cc := ⟨_, rfl⟩
      have HPS : Hid (p s = (decide (cc < 0) || (too && (cc == 0)))) := Lib.hid (by rw [← hcc]; exact HPV.out s)
      have HCR : Hid (∀ Q : Ending → World → Prop, (∀ e w'', (e = .returned (.int .i64 cc) ∧ Below wr.drew.heap.size wr.drew w'') → Q e w'') → Calls Tryz.prog 94 #[.agg #[.int .i64 s.f0.f0, .int .i64 s.f0.f1, .string s.f0.f2], .agg #[.int .i64 v.f0, .int .i64 v.f1, .string v.f2]] wr.drew Q) := Lib.hid (fun Q hQ => (q01_Compare.calls _ _ _ _ _ _ _ wr.drew (by rw [← hcc]; exact rcmp_f s.f0 v)).mono hQ)
      clear hcc
      go_upto_region 5 with fail
      have r2 : wr.drew.cell? ⟨g, 2, none⟩ = _ := x2
      have r3 : wr.drew.cell? ⟨gv, 0, none⟩ = _ := v0
      have r4 : wr.drew.cell? ⟨gv, 1, none⟩ = _ := v1
      have r5 : wr.drew.cell? ⟨gv, 2, none⟩ = _ := v2
      have r6 : wr.drew.cell? (ad.add (k * 4)) = _ := q0
      have r7 : wr.drew.cell? ⟨(ad.add (k * 4)).block, (ad.add (k * 4)).off + 1, none⟩ = _ := q1
      have r8 : wr.drew.cell? ⟨(ad.add (k * 4)).block, (ad.add (k * 4)).off + 2, none⟩ = _ := q2
      have r9 : wr.drew.cell? ⟨(ad.add (k * 4)).block, (ad.add (k * 4)).off + 3, none⟩ = _ := q3
      clear x2 v0 v1 v2 q0 q1 q2 q3
      go_region_held3 (fun w' => w'.cell? ⟨g, 2, none⟩ = some (.slice (some ad) n c) ∧ w'.cell? ⟨gv, 0, none⟩ = some (.int .i64 v.f0) ∧ w'.cell? ⟨gv, 1, none⟩ = some (.int .i64 v.f1) ∧ w'.cell? ⟨gv, 2, none⟩ = some (.string v.f2) ∧ w'.cell? (ad.add (k * 4)) = some (.int .i64 s.f0.f0) ∧ w'.cell? ⟨(ad.add (k * 4)).block, (ad.add (k * 4)).off + 1, none⟩ = some (.int .i64 s.f0.f1) ∧ w'.cell? ⟨(ad.add (k * 4)).block, (ad.add (k * 4)).off + 2, none⟩ = some (.string s.f0.f2)) (go_keep) (first | (go_at_call 94; with_reducible refine HCR.out _ ?_; rintro rr w3 ⟨rfl, hB3⟩; have t2 := pw_cell_below hB3 r2; have t3 := pw_cell_below hB3 r3; have t4 := pw_cell_below hB3 r4; have t5 := pw_cell_below hB3 r5; have t6 := pw_cell_below hB3 r6; have t7 := pw_cell_below hB3 r7; have t8 := pw_cell_below hB3 r8; have t9 := pw_cell_below hB3 r9))
      have HB3 : Hid (Below w2.heap.size w2 w3) := Lib.hid (HB.out.trans ((⟨hB3.os, hB3.tape, hB3.output, hB3.size, hB3.block⟩ : Below wr.heap.size wr w3).mono HB.out.size))
      clear hB3 r2 r3 r4 r5 r6 r7 r8 r9 HCR t3 t4 t5 t6 t7 t8 HB HBw
      by_cases h1 : cc < 0
      · have hd1 : decide (cc < 0) = true := decide_eq_true h1
        have HPT : Hid (p s = true) := Lib.hid (by rw [HPS.out, hd1]; rfl)
        have HAD := Lib.hid (q13_Add.calls a s.f1 _ w3 (radd_f a s.f1)); go_wp2_with (go_at_call 93; refine HAD.out.mono ?_; rintro rr w6 ⟨rfl, hB6⟩; have HB6 : Hid (Below w2.heap.size w2 w6) := Lib.hid (HB3.out.trans (Below.mono hB6 HB3.out.size)); clear hB6); go_roundw; (case rel => exact ⟨k + 1, _, by omega, rfl, by go_num, (by have h := HA.out; rw [HD.out, manyI, HPT.out, if_pos rfl] at h; exact Lib.hid h), HB6⟩); (case measure => (simp [intOf]; omega))
      · have hd1 : decide (cc < 0) = false := decide_eq_false h1
        cases too with
        | false =>
          have HPT : Hid (p s = false) := Lib.hid (by rw [HPS.out, hd1]; rfl)
          go_wp2_with fail; go_roundw; (case rel => exact ⟨k + 1, a, by omega, rfl, by go_num, (by have h := HA.out; rw [HD.out, manyI, HPT.out, if_neg (by decide)] at h; exact Lib.hid h), HB3⟩); (case measure => (simp [intOf]; omega))
        | true =>
          by_cases h2 : cc = 0
          · have hd2 : (cc == 0) = true := beq_iff_eq.mpr h2
            have HPT : Hid (p s = true) := Lib.hid (by rw [HPS.out, hd1, hd2]; rfl)
            have HAD := Lib.hid (q13_Add.calls a s.f1 _ w3 (radd_f a s.f1)); go_wp2_with (go_at_call 93; refine HAD.out.mono ?_; rintro rr w6 ⟨rfl, hB6⟩; have HB6 : Hid (Below w2.heap.size w2 w6) := Lib.hid (HB3.out.trans (Below.mono hB6 HB3.out.size)); clear hB6); go_roundw; (case rel => exact ⟨k + 1, _, by omega, rfl, by go_num, (by have h := HA.out; rw [HD.out, manyI, HPT.out, if_pos rfl] at h; exact Lib.hid h), HB6⟩); (case measure => (simp [intOf]; omega))
          · have hd2 : (cc == 0) = false := beq_eq_false_iff_ne.mpr h2
            have HPT : Hid (p s = false) := Lib.hid (by rw [HPS.out, hd1, hd2]; rfl)
            go_wp2_with fail; go_roundw; (case rel => exact ⟨k + 1, a, by omega, rfl, by go_num, (by have h := HA.out; rw [HD.out, manyI, HPT.out, if_neg (by decide)] at h; exact Lib.hid h), HB3⟩); (case measure => (simp [intOf]; omega))
    · have hlt' : ¬ (k : Int) < n := by omega
      obtain rfl : n = k := by omega
      go_wp2_with fail
      go_ret
      have h := HA.out
      rw [List.drop_of_length_le (by rw [HN.out]; exact Nat.le_refl _), manyI] at h
      subst h
      exact ⟨rfl, HBw.out⟩
def colF (b : Bl) (st : List Sta) (e : Ex) : Hi := histF (statF b.f0 st e.f2).f1 e.f3
set_option maxHeartbeats 4000000 in
set_option maxRecDepth 100000 in
theorem column_ok (ex : Ex) (A8 : Option Addr) (c8 : Nat) (b : Bl) (a : BA) (st : List Sta) (A1 : Option Addr) (c1 : Nat) (w : World) (hb : BR b a w) (P : Nat → Prop) (hP : ∀ k, P k → k < w.heap.size) (hS : SV P A1 c1 st w) :
    Calls Tryz.prog 26 #[.agg (exC ex A8 c8), .agg (blC b a), .slice A1 st.length c1] w fun e w' => ∃ D k, e = .returned (.agg #[.int .i64 (colF b st ex).f0, .int .i64 (colF b st ex).f1, .slice D (colF b st ex).f2.length k]) ∧ (colF b st ex).f2.length ≤ k ∧ Kd.C k126 w' D (colF b st ex).f2.length (colF b st ex).f2 ∧ Below w.heap.size w w' := by
  have HSA := Lib.hid (fun (W : World) (hW : Below w.heap.size w W) => stat_ok P b a st A1 c1 ex.f2 W (hb.later hW) (hS.later hW))
  obtain ⟨hs, hhs⟩ : ∃ hs, (statF b.f0 st ex.f2).f1 = hs := ⟨_, rfl⟩
  have e1 : colF b st ex = histF hs ex.f3 := by unfold colF; rw [hhs]
  rw [e1]
  rw [hhs] at HSA
  have HAT := Lib.hid (fun (W : World) (ok : Nat → Prop) (A2 : Option Addr) (c2 : Nat) (h : Kd.F k64 W ok A2 hs.length hs) => athist_ok ok hs ex.f3 A2 c2 W h)
  generalize (statF b.f0 st ex.f2).f0 = rows at HSA
  generalize histF hs ex.f3 = hz at HAT ⊢
  obtain ⟨n, hn⟩ : ∃ n, st.length = n := ⟨_, rfl⟩
  rw [hn] at HSA ⊢
  obtain ⟨nh, hnh⟩ : ∃ nh, hs.length = nh := ⟨_, rfl⟩
  rw [hnh] at HSA HAT
  have HP := Lib.hid hP
  clear hb hS hhs e1 hn hnh hP
  unfold blC at HSA
  unfold exC blC
  go_enter Tryz.func26, Tryz.ntmps26
  go_upto_region 1 with (first | ((with_reducible refine gate_dst (N := 3) rfl ?_); refine box_event rfl (N := 3) rfl (cs := exC ex A8 c8) (t := 26) (by first | rfl | (go_simp; done) | (go_simp; rfl)) ?_; intro g3 hgg w1 hbg3 hBg3;  have HG := Lib.hid hbg3; have HB1 := Lib.hid hBg3; clear hgg hbg3 hBg3) | ((with_reducible refine gate_dst (N := 4) rfl ?_); refine box_event rfl (N := 4) rfl (cs := blC b a) (t := 30) (by first | rfl | (go_simp; done) | (go_simp; rfl)) ?_; intro g4 hgg w2 hbg4 hBg4;  have HG4 := Lib.hid hbg4; have HB2 := Lib.hid hBg4; clear hgg hbg4 hBg4) | ((with_reducible refine gate_dst (N := 6) rfl ?_); refine box_event rfl (N := 6) rfl (cs := hiC zhi none 0) (t := 64) (by first | rfl | (go_simp; done) | (go_simp; rfl)) ?_; intro rb hgg w3 hbrb hBrb;  have hrb : w2.heap.size ≤ rb := (by omega); have HR3 := Lib.hid hbrb; have HB3 := Lib.hid hBrb; clear hgg hbrb hBrb))
  have hw12 : w1.heap.size ≤ w2.heap.size := HB2.out.size
  have hrw : w.heap.size ≤ rb := by have := HB1.out.size; omega
  have n4 : g4 ≠ rb := by have := blk_lt HG4.out; omega
  have n3 : g3 ≠ rb := by have := blk_lt HG.out; omega
  have n4b : rb ≠ g4 := n4.symm
  have n3b : rb ≠ g3 := n3.symm
  have HB03 : Hid (Below w.heap.size w w3) := Lib.hid (HB1.out.trans ((HB2.out.trans (HB3.out.mono HB2.out.size)).mono HB1.out.size))
  replace HG := Lib.hid ((HB3.out.block g3 (by have := blk_lt HG.out; omega)).trans ((HB2.out.block g3 (blk_lt HG.out)).trans HG.out))
  replace HG4 := Lib.hid ((HB3.out.block g4 (blk_lt HG4.out)).trans HG4.out)
  clear HB1 HB2 HB3 hw12
  have r0 : w3.drew.cell? ⟨g4, 0, none⟩ = some (.slice a.A0 b.f0.length a.c0) := (bkC HG4.out 0).trans rfl
  have r1 : w3.drew.cell? ⟨g4, 1, none⟩ = some (.int .i64 b.f1) := (bkC HG4.out 1).trans rfl
  have r2 : w3.drew.cell? ⟨g4, 2, none⟩ = some (.slice a.A2 b.f2.length a.c2) := (bkC HG4.out 2).trans rfl
  have r3 : w3.drew.cell? ⟨g4, 3, none⟩ = some (.slice a.A3 b.f3.length a.c3) := (bkC HG4.out 3).trans rfl
  have r4 : w3.drew.cell? ⟨g4, 4, none⟩ = some (.slice a.A4 b.f4.length a.c4) := (bkC HG4.out 4).trans rfl
  have r5 : w3.drew.cell? ⟨g4, 5, none⟩ = some (.slice a.A5 b.f5.length a.c5) := (bkC HG4.out 5).trans rfl
  have r6 : w3.drew.cell? ⟨g4, 6, none⟩ = some (.slice a.A6 b.f6.length a.c6) := (bkC HG4.out 6).trans rfl
  have r7 : w3.drew.cell? ⟨g4, 7, none⟩ = some (.bool b.f7) := (bkC HG4.out 7).trans rfl
  have r8 : w3.drew.cell? ⟨g4, 8, none⟩ = some (.slice a.A8 b.f8.length a.c8) := (bkC HG4.out 8).trans rfl
  have r9 : w3.drew.cell? ⟨g4, 9, none⟩ = some (.slice a.A9 b.f9.length a.c9) := (bkC HG4.out 9).trans rfl
  have r10 : w3.drew.cell? ⟨g4, 10, none⟩ = some (.bool b.f10) := (bkC HG4.out 10).trans rfl
  have q4 : w3.drew.cell? ⟨g3, 4, none⟩ = some (.int .i64 ex.f2) := (bkC HG.out 4).trans rfl
  have q5 : w3.drew.cell? ⟨g3, 5, none⟩ = some (.int .i64 ex.f3) := (bkC HG.out 5).trans rfl
  have HRd : Hid (w3.drew.heap[rb]? = some (.cells (hiC zhi none 0) 64 (0, 0))) := Lib.hid HR3.out
  have HSR : Hid (∀ Q : Ending → World → Prop, (∀ e w'', (∃ A2 c2, e = .returned (.agg #[.int .i64 rows, .slice A2 nh c2]) ∧ nh ≤ c2 ∧ Kd.F k64 w'' (fun k => P k ∨ w3.drew.heap.size ≤ k) A2 nh hs ∧ Below w3.drew.heap.size w3.drew w'') → Q e w'') → Calls Tryz.prog 25 #[.agg #[.slice a.A0 b.f0.length a.c0, .int .i64 b.f1, .slice a.A2 b.f2.length a.c2, .slice a.A3 b.f3.length a.c3, .slice a.A4 b.f4.length a.c4, .slice a.A5 b.f5.length a.c5, .slice a.A6 b.f6.length a.c6, .bool b.f7, .slice a.A8 b.f8.length a.c8, .slice a.A9 b.f9.length a.c9, .bool b.f10], .slice A1 n c1, .int .i64 ex.f2] w3.drew Q) := Lib.hid (fun Q hQ => (HSA.out w3.drew (below_drew HB03.out)).mono hQ)
  have hfl1 := fld_stat1
  clear HSA HG HG4 HR3
  go_region_held3 (fun w' => w'.cell? ⟨g4, 0, none⟩ = some (.slice a.A0 b.f0.length a.c0) ∧ w'.cell? ⟨g4, 1, none⟩ = some (.int .i64 b.f1) ∧ w'.cell? ⟨g4, 2, none⟩ = some (.slice a.A2 b.f2.length a.c2) ∧ w'.cell? ⟨g4, 3, none⟩ = some (.slice a.A3 b.f3.length a.c3) ∧ w'.cell? ⟨g4, 4, none⟩ = some (.slice a.A4 b.f4.length a.c4) ∧ w'.cell? ⟨g4, 5, none⟩ = some (.slice a.A5 b.f5.length a.c5) ∧ w'.cell? ⟨g4, 6, none⟩ = some (.slice a.A6 b.f6.length a.c6) ∧ w'.cell? ⟨g4, 7, none⟩ = some (.bool b.f7) ∧ w'.cell? ⟨g4, 8, none⟩ = some (.slice a.A8 b.f8.length a.c8) ∧ w'.cell? ⟨g4, 9, none⟩ = some (.slice a.A9 b.f9.length a.c9) ∧ w'.cell? ⟨g4, 10, none⟩ = some (.bool b.f10) ∧ w'.cell? ⟨g3, 4, none⟩ = some (.int .i64 ex.f2) ∧ w'.cell? ⟨g3, 5, none⟩ = some (.int .i64 ex.f3)) (go_keep) (first
    | (go_at_call 25; with_reducible refine HSR.out _ ?_; rintro rr w4 ⟨A2, c2, rfl, hc2, hC2, hB4⟩; have t0 := pw_cell_below hB4 r0; have t1 := pw_cell_below hB4 r1; have t2 := pw_cell_below hB4 r2; have t3 := pw_cell_below hB4 r3; have t4 := pw_cell_below hB4 r4; have t5 := pw_cell_below hB4 r5; have t6 := pw_cell_below hB4 r6; have t7 := pw_cell_below hB4 r7; have t8 := pw_cell_below hB4 r8; have t9 := pw_cell_below hB4 r9; have t10 := pw_cell_below hB4 r10; have tq4 := pw_cell_below hB4 q4; have tq5 := pw_cell_below hB4 q5; have hr4 := (hB4.block rb (blk_lt HRd.out)).trans HRd.out; have HX := HAT.out w4 _ A2 c2 hC2; have HB4 := Lib.hid hB4; clear hB4)
    | (go_at_call 56; with_reducible refine HX.mono ?_; rintro rr w5 ⟨D, k, rfl, hk, hCD, hB5⟩; have u0 := pw_cell_below hB5 t0; have u1 := pw_cell_below hB5 t1; have u2 := pw_cell_below hB5 t2; have u3 := pw_cell_below hB5 t3; have u4 := pw_cell_below hB5 t4; have u5 := pw_cell_below hB5 t5; have u6 := pw_cell_below hB5 t6; have u7 := pw_cell_below hB5 t7; have u8 := pw_cell_below hB5 t8; have u9 := pw_cell_below hB5 t9; have u10 := pw_cell_below hB5 t10; have uq4 := pw_cell_below hB5 tq4; have uq5 := pw_cell_below hB5 tq5; have hr5 := (hB5.block rb (blk_lt hr4)).trans hr4; obtain ⟨y0, y1, y2⟩ := bkC3 hr5; have f0 := bkF hr5 0; have f1 := bkF hr5 1; have f2 := bkF hr5 2))
  have hB5w : Below w.heap.size w w5 := HB03.out.trans ((⟨HB4.out.os, HB4.out.tape, HB4.out.output, HB4.out.size, HB4.out.block⟩ : Below w3.heap.size w3 w4).trans (hB5.mono HB4.out.size) |>.mono HB03.out.size)
  have hrs : rb < w3.heap.size := blk_lt HRd.out
  have hrs2 : w3.drew.heap.size = w3.heap.size := rfl
  have HQ : Hid (∀ k, (P k ∨ w3.drew.heap.size ≤ k) → k ≠ rb) := Lib.hid (fun k hk => by
    rcases hk with h | h
    · have := HP.out k h; omega
    · omega)
  have HF := Lib.hid (Kd.F_far (p := ⟨rb, 2, none⟩) (Kd.F_far (p := ⟨rb, 1, none⟩) (Kd.F_far (p := ⟨rb, 0, none⟩) hCD (fun k hk => HQ.out k hk) (.int .i64 hz.f0)) (fun k hk => HQ.out k hk) (.int .i64 hz.f1)) (fun k hk => HQ.out k hk) (.slice D hz.f2.length k))
  go_wp2_with fail
  refine bodyPost_ret (results_cell_row rfl _ _ rb 64 (hiC hz D k) (0, 0) _ rfl (blk_set (blk_set (blk_set hr5 0 _) 1 _) 2 _) Tryz.underlying64 rfl (info_hi _ _ _)) rfl ?_
  exact ⟨D, k, rfl, hk, Kd.F_now HF.out, ((hB5w.setCell (p := ⟨rb, 0, none⟩) hrw _).setCell (p := ⟨rb, 1, none⟩) hrw _).setCell (p := ⟨rb, 2, none⟩) hrw _⟩
end Go.Proofs.YtoffpegppdmkdaaGreatDoor.E
