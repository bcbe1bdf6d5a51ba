/- Contracts and plain lemmas of the functions that the law reaches, part 27. -/
import Derived.Deep.RegionHeld3
import Derived.Test.YtoffpegppdmkdaaGreatDoorCP10
import Derived.Test.YtoffpegppdmkdaaGreatDoorCP17
import Derived.Test.YtoffpegppdmkdaaGreatDoorCP22
import Derived.Test.YtoffpegppdmkdaaGreatDoorCP26
namespace Go.Proofs.YtoffpegppdmkdaaGreatDoor.E
open Go.RowKit Go.Proofs.YtoffpegppdmkdaaGreatDoorW.PrintWords Go.Proofs.YtoffpegppdmkdaaGreatDoorW.PrintLast Go.Proofs.YtoffpegppdmkdaaGreatDoorW.PrintMore
set_option linter.unusedVariables false
set_option linter.unusedSimpArgs false
theorem mx_le (a b : Int) : a ≤ mx a b ∧ b ≤ mx a b ∧ (mx a b = a ∨ mx a b = b) := by unfold mx; split <;> omega
theorem many_0 (p : St → Bool) : ∀ (l : List St) (n : Int), 0 ≤ n → n ≤ 1000000000000 → 0 ≤ manyI p l n ∧ manyI p l n ≤ 1000000000000
  | [], n, h0, h1 => ⟨h0, h1⟩
  | s :: l, n, h0, h1 => by
    rw [manyI]
    split
    · have h := clip_0 (clipI n + clipI s.f1)
      exact many_0 p l _ h.1 h.2
    · exact many_0 p l n h0 h1
def manyH (h : Hi) : Int := manyI (fun _ => true) h.f2 0
def hpartF (op : Int) (h : Hi) (v : Va) : Int × Int :=
  if op = 9 then (1, mx 1 (clipI h.f0)) else if op = 10 then (mx 1 (clipI h.f0) - 1, mx 1 (clipI h.f0)) else if op = 11 ∨ op = 12 then (belowI h.f2 v (op == 12), mx 1 (manyH h))
  else if op = 13 ∨ op = 14 then (if manyH h > 0 then (mx 0 (manyH h - belowI h.f2 v (op == 13)), manyH h) else (1, 1)) else (1, 3)
theorem hpart_f (op : Int) (h : Hi) (v : Va) : hist_Part.f 2 op h.f0 h.f1 h.f2 v.f0 v.f1 v.f2 = some (hpartF op h v) := by
  have hc := clip_0 h.f0
  have hd := mx_le 1 (clipI h.f0)
  have hm := many_0 (fun _ => true) h.f2 0 (by omega) (by omega)
  have hb := fun too => many_0 (fun s => decide (cmpV s.f0 v ≤ if too = true then 0 else -1)) h.f2 0 (by omega) (by omega)
  have hw1 : wrap64 (mx 1 (clipI h.f0) - 1) = mx 1 (clipI h.f0) - 1 := wrap64_of (by omega) (by omega)
  have hw2 : ∀ too, wrap64 (manyH h - belowI h.f2 v too) = manyH h - belowI h.f2 v too := fun too => by
    have h1 := hb too
    have e1 : belowI h.f2 v too = manyI (fun s => decide (cmpV s.f0 v ≤ if too = true then 0 else -1)) h.f2 0 := rfl
    have e2 : manyH h = manyI (fun _ => true) h.f2 0 := rfl
    exact wrap64_of (by omega) (by omega)
  unfold hist_Part.f hpartF
  show (Option.bind (some (clipI h.f0)) _) = _
  rw [Option.bind_some]
  show (Option.bind (some (manyH h)) _) = _
  rw [Option.bind_some]
  by_cases h9 : op = 9
  · rw [if_pos h9, if_pos h9]
  rw [if_neg h9, if_neg h9]
  by_cases h10 : op = 10
  · rw [if_pos h10, if_pos h10, hw1]
  rw [if_neg h10, if_neg h10]
  by_cases h11 : op = 11
  · subst h11; rfl
  by_cases h12 : op = 12
  · subst h12; rfl
  rw [if_neg h11, if_neg (show ¬ (op = 11 ∨ op = 12) by omega)]
  have e12 : (op == 12) = false := beq_eq_false_iff_ne.mpr h12
  rw [e12, hist_Part.j0, if_neg (by decide)]
  by_cases h13 : op = 13
  · subst h13
    rw [if_pos rfl, if_pos (.inl rfl), show ((13 : Int) == 13) = true from rfl, hist_Part.j1, if_pos rfl]
    by_cases hm0 : manyH h > 0
    · rw [if_pos hm0, if_pos hm0]
      show some (mx 0 (wrap64 (manyH h - belowI h.f2 ⟨v.f0, v.f1, v.f2⟩ true)), manyH h) = _
      rw [show (⟨v.f0, v.f1, v.f2⟩ : Va) = v from by cases v; rfl, hw2]
    · rw [if_neg hm0, if_neg hm0]
  · rw [if_neg h13]
    by_cases h14 : op = 14
    · subst h14
      rw [if_pos (.inr rfl), show ((14 : Int) == 14) = true from rfl, hist_Part.j1, if_pos rfl]
      by_cases hm0 : manyH h > 0
      · rw [if_pos hm0, if_pos hm0]
        show some (mx 0 (wrap64 (manyH h - belowI h.f2 ⟨v.f0, v.f1, v.f2⟩ false)), manyH h) = _
        rw [show (⟨v.f0, v.f1, v.f2⟩ : Va) = v from by cases v; rfl, hw2]; rfl
      · rw [if_neg hm0, if_neg hm0]
    · rw [if_neg (show ¬ (op = 13 ∨ op = 14) by omega), show (op == 14) = false from beq_eq_false_iff_ne.mpr h14, hist_Part.j1, if_neg (by decide)]
theorem hpart_ok (op : Int) (h : Hi) (A : Option Addr) (c : Nat) (v : Va) (w : World) (hC : Kd.C k126 w A h.f2.length h.f2) (hc : h.f2.length ≤ c) :
    Calls Tryz.prog 27 #[.int .i64 op, .agg (hiC h A c), .agg (vaC v)] w fun e w' => e = .returned (.tuple #[.int .i64 (hpartF op h v).1, .int .i64 (hpartF op h v).2]) ∧ Below w.heap.size w w' :=
  hist_Part.calls 2 op h.f0 h.f1 A c h.f2 v.f0 v.f1 v.f2 _ _ w hC hc (hpart_f op h v)
theorem clip_ok (n : Int) (w : World) : Calls Tryz.prog 24 #[.int .i64 n] w fun e w' => e = .returned (.int .i64 (clipI n)) ∧ Below w.heap.size w w' := hist_Clip.calls n _ w rfl
def knownB (x : Ex) : Bool := if (x.f0 == 1) = true then (x.f1.f0 != 0) else false
set_option maxHeartbeats 1000000 in
set_option maxRecDepth 100000 in
theorem known_ok (e : Ex) (A : Option Addr) (c : Nat) (w : World) : Calls Tryz.prog 23 #[.agg (exC e A c)] w fun r w' => r = .returned (.bool (knownB e)) ∧ Below w.heap.size w w' := by
  obtain ⟨b, hb⟩ : ∃ b, knownB e = b := ⟨_, rfl⟩
  rw [hb]
  unfold exC
  go_enter Tryz.func23, Tryz.ntmps23
  go_upto_region 1 with (first | ((with_reducible refine gate_dst (N := 1) rfl ?_); refine box_event rfl (N := 1) rfl (cs := exC e A c) (t := 26) (by first | rfl | (go_simp; done) | (go_simp; rfl)) ?_; intro g hgg w1 hbg hBg;  have HG := Lib.hid hbg; have HB1 := Lib.hid hBg; clear hgg hbg hBg))
  have z0 : w1.cell? ⟨g, 0, none⟩ = some (.int .i64 e.f0) := (bkC HG.out 0).trans rfl
  have z1 : w1.cell? ⟨g, 1, none⟩ = some (.int .i64 e.f1.f0) := (bkC HG.out 1).trans rfl
  unfold knownB at hb
  cases h1 : (e.f0 == 1) with
  | true =>
    rw [h1, if_pos rfl] at hb
    go_wp2_with fail
    go_ret
    exact ⟨rfl, HB1.out⟩
  | false =>
    rw [h1, if_neg (by decide)] at hb
    subst hb
    go_wp2_with fail
    go_ret
    exact ⟨rfl, HB1.out⟩
def turnO (op : Int) : Int := if op = 11 then 13 else if op = 12 then 14 else op
def partQ (b : Bl) (st : List Sta) (op : Int) (l r : Ex) : Int × Int :=
  if op = 18 ∧ l.f0 = 2 then (mn (clipI (statF b.f0 st l.f2).f0) (clipI (colF b st l).f1), mx 1 (clipI (statF b.f0 st l.f2).f0))
  else if op < 9 ∨ op > 14 then (1, 3)
  else if l.f0 = 2 ∧ knownB r = true then hpartF op (colF b st l) r.f1
  else if knownB l = true ∧ r.f0 = 2 then hpartF (turnO op) (colF b st r) l.f1
  else if op = 9 ∧ l.f0 = 2 ∧ r.f0 = 2 then (1, mx (mx 1 (clipI (colF b st l).f0)) (clipI (colF b st r).f0))
  else (1, 3)
def partF (b : Bl) (st : List Sta) (e : Ex) : Int × Int :=
  if rightB e = true then (match (normF e).f6 with | [] => (1, 3) | [x] => partQ b st (normF e).f0 x x | x :: y :: _ => partQ b st (normF e).f0 x y) else (1, 3)
@[reducible] def CBw (w : World) (g : Nat) (b : Bl) (a : BA) : Prop := w.cell? ⟨g, 0, none⟩ = some (.slice a.A0 b.f0.length a.c0) ∧ w.cell? ⟨g, 1, none⟩ = some (.int .i64 b.f1) ∧ w.cell? ⟨g, 2, none⟩ = some (.slice a.A2 b.f2.length a.c2) ∧ w.cell? ⟨g, 3, none⟩ = some (.slice a.A3 b.f3.length a.c3) ∧ w.cell? ⟨g, 4, none⟩ = some (.slice a.A4 b.f4.length a.c4) ∧ w.cell? ⟨g, 5, none⟩ = some (.slice a.A5 b.f5.length a.c5) ∧ w.cell? ⟨g, 6, none⟩ = some (.slice a.A6 b.f6.length a.c6) ∧ w.cell? ⟨g, 7, none⟩ = some (.bool b.f7) ∧ w.cell? ⟨g, 8, none⟩ = some (.slice a.A8 b.f8.length a.c8) ∧ w.cell? ⟨g, 9, none⟩ = some (.slice a.A9 b.f9.length a.c9) ∧ w.cell? ⟨g, 10, none⟩ = some (.bool b.f10)
@[reducible] def CXw (w : World) (g : Nat) (x : Ex) (A : Option Addr) (c : Nat) : Prop := w.cell? ⟨g, 0, none⟩ = some (.int .i64 x.f0) ∧ w.cell? ⟨g, 1, none⟩ = some (.int .i64 x.f1.f0) ∧ w.cell? ⟨g, 2, none⟩ = some (.int .i64 x.f1.f1) ∧ w.cell? ⟨g, 3, none⟩ = some (.string x.f1.f2) ∧ w.cell? ⟨g, 4, none⟩ = some (.int .i64 x.f2) ∧ w.cell? ⟨g, 5, none⟩ = some (.int .i64 x.f3) ∧ w.cell? ⟨g, 6, none⟩ = some (.int .i64 x.f4) ∧ w.cell? ⟨g, 7, none⟩ = some (.string x.f5) ∧ w.cell? ⟨g, 8, none⟩ = some (.slice A x.f6.length c)
@[reducible] def CVw (w : World) (g : Nat) (x : Ex) : Prop := w.cell? ⟨g, 1, none⟩ = some (.int .i64 x.f1.f0) ∧ w.cell? ⟨g, 2, none⟩ = some (.int .i64 x.f1.f1) ∧ w.cell? ⟨g, 3, none⟩ = some (.string x.f1.f2)
theorem cB {w : World} {g : Nat} {b : Bl} {a : BA} (h : w.heap[g]? = some (.cells (blC b a) 30 (0, 0))) : CBw w g b a := ⟨(bkC h 0).trans rfl, (bkC h 1).trans rfl, (bkC h 2).trans rfl, (bkC h 3).trans rfl, (bkC h 4).trans rfl, (bkC h 5).trans rfl, (bkC h 6).trans rfl, (bkC h 7).trans rfl, (bkC h 8).trans rfl, (bkC h 9).trans rfl, (bkC h 10).trans rfl⟩
theorem cX {w : World} {g : Nat} {x : Ex} {A : Option Addr} {c : Nat} (h : w.heap[g]? = some (.cells (exC x A c) 26 (0, 0))) : CXw w g x A c := ⟨(bkC h 0).trans rfl, (bkC h 1).trans rfl, (bkC h 2).trans rfl, (bkC h 3).trans rfl, (bkC h 4).trans rfl, (bkC h 5).trans rfl, (bkC h 6).trans rfl, (bkC h 7).trans rfl, (bkC h 8).trans rfl⟩
theorem cV {w : World} {g : Nat} {x : Ex} {A : Option Addr} {c : Nat} (h : w.heap[g]? = some (.cells (exC x A c) 26 (0, 0))) : CVw w g x := ⟨(bkC h 1).trans rfl, (bkC h 2).trans rfl, (bkC h 3).trans rfl⟩
theorem CBw.mv {w w' : World} {g : Nat} {b : Bl} {a : BA} (k : CBw w g b a) (h : Below w.heap.size w w') : CBw w' g b a := by obtain ⟨c0, c1, c2, c3, c4, c5, c6, c7, c8, c9, c10⟩ := k; exact ⟨pw_cell_below h c0, pw_cell_below h c1, pw_cell_below h c2, pw_cell_below h c3, pw_cell_below h c4, pw_cell_below h c5, pw_cell_below h c6, pw_cell_below h c7, pw_cell_below h c8, pw_cell_below h c9, pw_cell_below h c10⟩
theorem CXw.mv {w w' : World} {g : Nat} {x : Ex} {A : Option Addr} {c : Nat} (k : CXw w g x A c) (h : Below w.heap.size w w') : CXw w' g x A c := by obtain ⟨c0, c1, c2, c3, c4, c5, c6, c7, c8⟩ := k; exact ⟨pw_cell_below h c0, pw_cell_below h c1, pw_cell_below h c2, pw_cell_below h c3, pw_cell_below h c4, pw_cell_below h c5, pw_cell_below h c6, pw_cell_below h c7, pw_cell_below h c8⟩
theorem CVw.mv {w w' : World} {g : Nat} {x : Ex} (k : CVw w g x) (h : Below w.heap.size w w') : CVw w' g x := by obtain ⟨c0, c1, c2⟩ := k; exact ⟨pw_cell_below h c0, pw_cell_below h c1, pw_cell_below h c2⟩
@[reducible] def CAw (w : World) (ad : Addr) (x : Ex) (A : Option Addr) (c : Nat) : Prop := w.cell? ad = some (.int .i64 x.f0) ∧ w.cell? ⟨ad.block, ad.off + 1, none⟩ = some (.int .i64 x.f1.f0) ∧ w.cell? ⟨ad.block, ad.off + 2, none⟩ = some (.int .i64 x.f1.f1) ∧ w.cell? ⟨ad.block, ad.off + 3, none⟩ = some (.string x.f1.f2) ∧ w.cell? ⟨ad.block, ad.off + 4, none⟩ = some (.int .i64 x.f2) ∧ w.cell? ⟨ad.block, ad.off + 5, none⟩ = some (.int .i64 x.f3) ∧ w.cell? ⟨ad.block, ad.off + 6, none⟩ = some (.int .i64 x.f4) ∧ w.cell? ⟨ad.block, ad.off + 7, none⟩ = some (.string x.f5) ∧ w.cell? ⟨ad.block, ad.off + 8, none⟩ = some (.slice A x.f6.length c)
theorem CAw.mv {w w' : World} {ad : Addr} {x : Ex} {A : Option Addr} {c : Nat} (k : CAw w ad x A c) (h : Below w.heap.size w w') : CAw w' ad x A c := by obtain ⟨c0, c1, c2, c3, c4, c5, c6, c7, c8⟩ := k; exact ⟨pw_cell_below h c0, pw_cell_below h c1, pw_cell_below h c2, pw_cell_below h c3, pw_cell_below h c4, pw_cell_below h c5, pw_cell_below h c6, pw_cell_below h c7, pw_cell_below h c8⟩
end Go.Proofs.YtoffpegppdmkdaaGreatDoor.E
namespace Go.Proofs.YtoffpegppdmkdaaGreatDoor.E
open Go.RowKit Go.Proofs.YtoffpegppdmkdaaGreatDoorW.PrintWords Go.Proofs.YtoffpegppdmkdaaGreatDoorW.PrintLast Go.Proofs.YtoffpegppdmkdaaGreatDoorW.PrintMore
attribute [local go_sem] max2_int min2_int max_two min_two max_three min_three max_four min_four
set_option linter.unusedVariables false
set_option linter.unusedSimpArgs false
@[reducible] def ColAt (A1 : Option Addr) (n c1 : Nat) (b : Bl) (a : BA) (x : Ex) (Ax : Option Addr) (cx : Nat) (hz : Hi) (W : World) : Prop := ∀ Q : Ending → World → Prop, (∀ e_ w'', (∃ D k, e_ = .returned (.agg #[.int .i64 hz.f0, .int .i64 hz.f1, .slice D hz.f2.length k]) ∧ hz.f2.length ≤ k ∧ Kd.C k126 w'' D hz.f2.length hz.f2 ∧ Below W.heap.size W w'') → Q e_ w'') → Calls Tryz.prog 26 #[.agg #[.int .i64 x.f0, .int .i64 x.f1.f0, .int .i64 x.f1.f1, .string x.f1.f2, .int .i64 x.f2, .int .i64 x.f3, .int .i64 x.f4, .string x.f5, .slice Ax x.f6.length cx], .agg #[.slice a.A0 b.f0.length a.c0, .int .i64 b.f1, .slice a.A2 b.f2.length a.c2, .slice a.A3 b.f3.length a.c3, .slice a.A4 b.f4.length a.c4, .slice a.A5 b.f5.length a.c5, .slice a.A6 b.f6.length a.c6, .bool b.f7, .slice a.A8 b.f8.length a.c8, .slice a.A9 b.f9.length a.c9, .bool b.f10], .slice A1 n c1] W Q
theorem below_undrew {w w' : World} (h : Below w.drew.heap.size w.drew w') : Below w.heap.size w w' := ⟨h.os, h.tape, h.output, h.size, h.block⟩
theorem two_new (w : World) (X Y : Obj) : ((w.alloc X).alloc Y).drew.heap[w.heap.size]? = some X ∧ ((w.alloc X).alloc Y).drew.heap[w.heap.size + 1]? = some Y ∧ Below w.heap.size w ((w.alloc X).alloc Y).drew := by
  have h := heap_alloc_new (w.alloc X) Y
  rw [show (w.alloc X).heap.size = w.heap.size + 1 from by simp] at h
  exact ⟨bkA (heap_alloc_new w X) Y, h, below_drew (blA (blA (Below.refl _ _) _) _)⟩
set_option maxHeartbeats 8000000 in
set_option maxRecDepth 100000 in
theorem part_ok (e : Ex) (A8 : Option Addr) (c8 : Nat) (b : Bl) (a : BA) (st : List Sta) (A1 : Option Addr) (c1 : Nat) (w : World) (hT : TabW w) (hRg : rngF e = true) (hC : Kd.C KX w A8 e.f6.length e.f6) (hc8 : e.f6.length ≤ c8) (hb : BR b a w) (hS : Kd.C k51 w A1 st.length st) (hc1 : st.length ≤ c1) :
    Calls Tryz.prog 11 #[.agg (exC e A8 c8), .agg (blC b a), .slice A1 st.length c1] w fun r w' => r = .returned (.tuple #[.int .i64 (partF b st e).1, .int .i64 (partF b st e).2]) ∧ Below w.heap.size w w' := by
  have HNO := Lib.hid (fun (W : World) (hW : Below w.heap.size w W) => Normal_ok e A8 c8 W (tab_at hT hW) hRg (Kd.C_below hC hW) hc8)
  have HST := Lib.hid (fun (W : World) (hW : Below w.heap.size w W) (rel : Int) => stat_ok _ b a st A1 c1 rel W (hb.later hW) ((SV.of hS hc1).later hW))
  have HCO := Lib.hid (fun (W : World) (hW : Below w.heap.size w W) (x : Ex) (A : Option Addr) (c : Nat) => column_ok x A c b a st A1 c1 W (hb.later hW) _ (fun k hk => Nat.lt_of_lt_of_le hk hW.size) ((SV.of hS hc1).later hW))
  obtain ⟨pn, hpn⟩ : ∃ pn, partF b st e = pn := ⟨_, rfl⟩
  rw [hpn]
  have HPN := Lib.hid hpn
  obtain ⟨n, hn⟩ : ∃ n, st.length = n := ⟨_, rfl⟩
  rw [hn] at HST HCO ⊢
  clear hT hRg hC hc8 hb hS hc1 hn hpn
  unfold exC blC
  unfold exC at HNO
  go_enter Tryz.func11, Tryz.ntmps11
  go_upto_region 1 with (first | ((with_reducible refine gate_dst (N := 3) rfl ?_); refine box_event rfl (N := 3) rfl (cs := exC e A8 c8) (t := 26) (by first | rfl | (go_simp; done) | (go_simp; rfl)) ?_; intro g3 hgg w1 hbg3 hBg3;  have hg3w : w.heap.size ≤ g3 := (by omega); have HG := Lib.hid hbg3; have HB1 := Lib.hid hBg3; clear hgg hbg3 hBg3) | ((with_reducible refine gate_dst (N := 4) rfl ?_); refine box_event rfl (N := 4) rfl (cs := blC b a) (t := 30) (by first | rfl | (go_simp; done) | (go_simp; rfl)) ?_; intro g4 hgg w2 hbg4 hBg4;  have hg4w : w1.heap.size ≤ g4 := (by omega); have HG4 := Lib.hid hbg4; have HB2 := Lib.hid hBg4; clear hgg hbg4 hBg4))
  have HB : Hid (Below w.heap.size w w2) := Lib.hid (HB1.out.trans (HB2.out.mono HB1.out.size))
  have hg3w0 : w.heap.size ≤ g3 := hg3w
  have h34 : g3 < g4 := by have := blk_lt HG.out; omega
  replace HG := Lib.hid ((HB2.out.block g3 (blk_lt HG.out)).trans HG.out)
  have hz0 : w2.cell? ⟨g3, 0, none⟩ = some (.int .i64 e.f0) := (bkC HG.out 0).trans rfl; have hz1 : w2.cell? ⟨g3, 1, none⟩ = some (.int .i64 e.f1.f0) := (bkC HG.out 1).trans rfl; have hz2 : w2.cell? ⟨g3, 2, none⟩ = some (.int .i64 e.f1.f1) := (bkC HG.out 2).trans rfl; have hz3 : w2.cell? ⟨g3, 3, none⟩ = some (.string e.f1.f2) := (bkC HG.out 3).trans rfl; have hz4 : w2.cell? ⟨g3, 4, none⟩ = some (.int .i64 e.f2) := (bkC HG.out 4).trans rfl; have hz5 : w2.cell? ⟨g3, 5, none⟩ = some (.int .i64 e.f3) := (bkC HG.out 5).trans rfl; have hz6 : w2.cell? ⟨g3, 6, none⟩ = some (.int .i64 e.f4) := (bkC HG.out 6).trans rfl; have hz7 : w2.cell? ⟨g3, 7, none⟩ = some (.string e.f5) := (bkC HG.out 7).trans rfl; have hz8 : w2.cell? ⟨g3, 8, none⟩ = some (.slice A8 e.f6.length c8) := (bkC HG.out 8).trans rfl
  have HNC := Lib.hid (HNO.out w2 HB.out)
  clear HNO HB1 HB2
  cases hr : rightB e with
  | false =>
    obtain ⟨y, hy⟩ : ∃ y, zeroX = y := ⟨_, rfl⟩
    have hq : normalRes e = (y, 1) := by unfold normalRes; rw [hr, if_neg (by decide), hy]
    rw [hq] at HNC
    dsimp only at HNC
    have hp : pn = (1, 3) := by have h := HPN.out; unfold partF at h; rw [hr, if_neg (by decide)] at h; exact h.symm
    subst hp
    clear hq hy HPN hr
    go_upto_region 2 with (first | (go_at_call 22; refine HNC.out.mono ?_; rintro rr w3 ⟨D, k, rfl, hk, hF, hB3⟩; have HF := Lib.hid hF; have HB3 := Lib.hid hB3; have hg33 := (hB3.block g3 (blk_lt HG.out)).trans HG.out; have hg3w : w.heap.size ≤ g3 := hg3w0; clear hF hB3) | ((with_reducible refine gate_store (p := 3) (v := .tmp 17) rfl ?_); refine wpList_store_row rfl 26 (.tmp 3) (.tmp 17) rfl g3 (exC y D k) rfl rfl 26 (exC e A8 c8) hg33 (info_ex _ _ _) rfl (one_ex _ _ _) ?_))
    clear hz0 hz1 hz2 hz3 hz4 hz5 hz6 hz7 hz8
    have HB4 : Hid (Below w.heap.size w (w3.setRow g3 (exC y D k))) := Lib.hid (below_setRow' (HB.out.trans (HB3.out.mono HB.out.size)) hg3w _)
    generalize w3.setRow g3 (exC y D k) = w4 at HB4 ⊢
    go_wp2_with fail
    go_ret2
    exact ⟨rfl, HB4.out⟩
  | true =>
    obtain ⟨y, hy⟩ : ∃ y, normF e = y := ⟨_, rfl⟩
    have hq : normalRes e = (y, 0) := by unfold normalRes; rw [hr, if_pos rfl, hy]
    rw [hq] at HNC
    dsimp only at HNC
    have HYR : Hid (y.f6.length ≤ 2) := Lib.hid (by rw [← hy]; exact (Rt.of (right_norm hr)).len)
    have HP : Hid ((match y.f6 with | [] => (1, 3) | [x] => partQ b st y.f0 x x | x :: z :: _ => partQ b st y.f0 x z) = pn) := Lib.hid (by have h := HPN.out; unfold partF at h; rw [hr, if_pos rfl, hy] at h; exact h)
    clear hq hy HPN hr
    go_upto_region 2 with (first | (go_at_call 22; refine HNC.out.mono ?_; rintro rr w3 ⟨D, k, rfl, hk, hF, hB3⟩; have HF := Lib.hid hF; have HB3 := Lib.hid hB3; have hg33 := (hB3.block g3 (blk_lt HG.out)).trans HG.out; have hg3w : w.heap.size ≤ g3 := hg3w0; clear hF hB3) | ((with_reducible refine gate_store (p := 3) (v := .tmp 17) rfl ?_); refine wpList_store_row rfl 26 (.tmp 3) (.tmp 17) rfl g3 (exC y D k) rfl rfl 26 (exC e A8 c8) hg33 (info_ex _ _ _) rfl (one_ex _ _ _) ?_))
    clear hz0 hz1 hz2 hz3 hz4 hz5 hz6 hz7 hz8
    have HB4 : Hid (Below w.heap.size w (w3.setRow g3 (exC y D k))) := Lib.hid (below_setRow' (HB.out.trans (HB3.out.mono HB.out.size)) hg3w _)
    have HG44 : Hid ((w3.setRow g3 (exC y D k)).heap[g4]? = some (.cells (blC b a) 30 (0, 0))) := Lib.hid (setRow_far _ (by omega) ((HB3.out.block g4 (blk_lt HG4.out)).trans HG4.out) _)
    have HG34 : Hid ((w3.setRow g3 (exC y D k)).heap[g3]? = some (.cells (exC y D k) 26 (0, 0))) := Lib.hid (setRow_at _ g3 _ _ _ ((HB3.out.block g3 (blk_lt HG.out)).trans HG.out))
    have HF4 : Hid (Kd.C KX (w3.setRow g3 (exC y D k)) D y.f6.length y.f6) := Lib.hid (Kd.F_now (Kd.F_step HF.out (fun q hq _ => by
      have := blk_lt HG.out
      cases hh : w3.heap[q]? with
      | none => unfold World.setRow; show (Array.modify _ _ _)[q]? = _; rw [Array.getElem?_modify, if_neg (by omega)]; exact hh
      | some o => exact setRow_far _ (by omega) hh _)))
    generalize w3.setRow g3 (exC y D k) = w4 at HB4 HG44 HG34 HF4 ⊢
    clear HF HB3 HG HG4 HB
    have z0 : w4.cell? ⟨g3, 0, none⟩ = some (.int .i64 y.f0) := (bkC HG34.out 0).trans rfl
    have z8 : w4.cell? ⟨g3, 8, none⟩ = some (.slice D y.f6.length k) := (bkC HG34.out 8).trans rfl
    obtain ⟨l, hl⟩ : ∃ l, y.f6 = l := ⟨_, rfl⟩
    rw [hl] at HF4 HYR HP z8
    clear hl HG34
    cases l with
    | nil =>
      have hp : (1, 3) = pn := HP.out
      subst hp
      clear HP HF4 HYR
      simp only [List.length_nil] at z8
      go_wp2_with fail
      go_ret2
      exact ⟨rfl, HB4.out⟩
    | cons x l2 =>
      obtain ⟨ad, Ax, cx, x', rfl, hx, p0, p1, p2, p3, p4, p5, p6, p7, p8, hcx, hCx⟩ := at_ex HF4.out rfl 0 (by simp)
      obtain rfl := Option.some.inj hx
      simp only [Nat.zero_mul] at p0 p1 p2 p3 p4 p5 p6 p7 p8
      rw [show ad.add 0 = ad from rfl] at p0 p1 p2 p3 p4 p5 p6 p7 p8
      clear hx hCx hcx
      obtain ⟨r, hr⟩ : ∃ r, (match l2 with | [] => x | z :: _ => z) = r := ⟨_, rfl⟩
      have HPX : Hid (partQ b st y.f0 x r = pn) := Lib.hid (by rw [← hr]; have h := HP.out; cases l2 <;> exact h)
      have HR := Lib.hid hr
      obtain ⟨m, hm⟩ : ∃ m, (x :: l2).length = m := ⟨_, rfl⟩
      have hmb : ((m : Int) == 0) = false := by rw [← hm, List.length_cons]; exact beq_eq_false_iff_ne.mpr (by omega)
      rw [hm] at z8
      have HM := Lib.hid hm
      clear HP hr hm
      go_upto_region 4 with fail
      go_cut [9, 10] from 27 to 38 (fun s9 s10 wx => ∃ lb rb Ar cr, s9 = .pointer (some ⟨lb, 0, none⟩) ∧ s10 = .pointer (some ⟨rb, 0, none⟩) ∧ Hid (wx.heap[lb]? = some (.cells (exC x Ax cx) 26 (0, 0))) ∧ Hid (wx.heap[rb]? = some (.cells (exC r Ar cr) 26 (0, 0))) ∧ Hid (Below w4.heap.size w4 wx))
      case first =>
        have hlt3 : g3 < w4.heap.size := cellq_lt z8
        have hlta : ad.block < w4.heap.size := cellq_lt p0
        have hw0 : IntKind.i64.wrap 0 = 0 := rfl
        have hw1 : IntKind.i64.wrap 1 = 1 := rfl
        cases l2 with
        | nil =>
          obtain rfl : x = r := HR.out
          obtain rfl : 1 = m := HM.out
          clear HR HM HF4 hmb HYR
          go_region
          all_goals (go_wp2_with fail; go_meet)
          · exact ⟨_, _, Ax, cx, rfl, rfl, Lib.hid (two_new _ _ _).1, Lib.hid (two_new _ _ _).2.1, Lib.hid (two_new _ _ _).2.2⟩
          · exact ⟨_, _, Ax, cx, rfl, rfl, Lib.hid (two_new _ _ _).2.1, Lib.hid (two_new _ _ _).1, Lib.hid (two_new _ _ _).2.2⟩
        | cons z l3 =>
          obtain rfl : z = r := HR.out
          obtain rfl : l3 = [] := by
            have h := HYR.out
            cases l3 with
            | nil => rfl
            | cons => simp at h
          obtain rfl : 2 = m := HM.out
          obtain ⟨_, Az, cz, z', had, hz, q0, q1, q2, q3, q4, q5, q6, q7, q8, hcz, hCz⟩ := at_ex HF4.out rfl 1 (by simp)
          cases had
          obtain rfl := Option.some.inj hz
          simp only [Nat.one_mul] at q0 q1 q2 q3 q4 q5 q6 q7 q8
          rw [ad_block, ad_off] at q1 q2 q3 q4 q5 q6 q7 q8
          rw [show ad.add 9 = ⟨ad.block, ad.off + 9, none⟩ from rfl] at q0
          clear HR HM HF4 hmb HYR hz hCz hcz
          go_region_held3 (fun w' => w'.cell? ⟨g3, 8, none⟩ = some (.slice (some ad) 2 k) ∧ w'.cell? ad = some (.int .i64 x.f0) ∧ w'.cell? ⟨ad.block, ad.off + 1, none⟩ = some (.int .i64 x.f1.f0) ∧ w'.cell? ⟨ad.block, ad.off + 2, none⟩ = some (.int .i64 x.f1.f1) ∧ w'.cell? ⟨ad.block, ad.off + 3, none⟩ = some (.string x.f1.f2) ∧ w'.cell? ⟨ad.block, ad.off + 4, none⟩ = some (.int .i64 x.f2) ∧ w'.cell? ⟨ad.block, ad.off + 5, none⟩ = some (.int .i64 x.f3) ∧ w'.cell? ⟨ad.block, ad.off + 6, none⟩ = some (.int .i64 x.f4) ∧ w'.cell? ⟨ad.block, ad.off + 7, none⟩ = some (.string x.f5) ∧ w'.cell? ⟨ad.block, ad.off + 8, none⟩ = some (.slice Ax x.f6.length cx) ∧ w'.cell? ⟨ad.block, ad.off + 9, none⟩ = some (.int .i64 z.f0) ∧ w'.cell? ⟨ad.block, ad.off + 9 + 1, none⟩ = some (.int .i64 z.f1.f0) ∧ w'.cell? ⟨ad.block, ad.off + 9 + 2, none⟩ = some (.int .i64 z.f1.f1) ∧ w'.cell? ⟨ad.block, ad.off + 9 + 3, none⟩ = some (.string z.f1.f2) ∧ w'.cell? ⟨ad.block, ad.off + 9 + 4, none⟩ = some (.int .i64 z.f2) ∧ w'.cell? ⟨ad.block, ad.off + 9 + 5, none⟩ = some (.int .i64 z.f3) ∧ w'.cell? ⟨ad.block, ad.off + 9 + 6, none⟩ = some (.int .i64 z.f4) ∧ w'.cell? ⟨ad.block, ad.off + 9 + 7, none⟩ = some (.string z.f5) ∧ w'.cell? ⟨ad.block, ad.off + 9 + 8, none⟩ = some (.slice Az z.f6.length cz)) (go_keep) (first | fail)
          all_goals (go_wp2_with fail; go_meet)
          · exact ⟨_, _, Az, cz, rfl, rfl, Lib.hid (two_new _ _ _).1, Lib.hid (two_new _ _ _).2.1, Lib.hid (two_new _ _ _).2.2⟩
          · exact ⟨_, _, Az, cz, rfl, rfl, Lib.hid (two_new _ _ _).2.1, Lib.hid (two_new _ _ _).1, Lib.hid (two_new _ _ _).2.2⟩
      case rest =>
        obtain ⟨lb, rb, Ar, cr, rfl, rfl, HL, HRB, HBc⟩ := hcut
        have HBw : Hid (Below w.heap.size w wc) := Lib.hid (HB4.out.trans (HBc.out.mono HB4.out.size))
        have HGB := Lib.hid ((HBc.out.block g4 (blk_lt HG44.out)).trans HG44.out)
        have zy : wc.cell? ⟨g3, 0, none⟩ = some (.int .i64 y.f0) := pw_cell_below HBc.out z0
        clear HB4 HBc HG44 p0 p1 p2 p3 p4 p5 p6 p7 p8 z0 z8 hmb HM HR HF4 HYR hg33 hk hg3w hg3w0 h34 hg4w
        unfold blC at HST
        unfold exC blC at HCO
        obtain ⟨op, hop⟩ : ∃ op, y.f0 = op := ⟨_, rfl⟩
        rw [hop] at HPX zy
        clear hop
        go_upto_region 6 with fail
        have lx0 : wc.cell? ⟨lb, 0, none⟩ = some (.int .i64 x.f0) := (bkC HL.out 0).trans rfl
        have rx0 : wc.cell? ⟨rb, 0, none⟩ = some (.int .i64 r.f0) := (bkC HRB.out 0).trans rfl
        by_cases h18 : op = 18
        · subst h18
          by_cases hx2 : x.f0 = 2
          · have bx2 : (x.f0 == 2) = true := beq_iff_eq.mpr hx2
            have hp : (mn (clipI (statF b.f0 st x.f2).f0) (clipI (colF b st x).f1), mx 1 (clipI (statF b.f0 st x.f2).f0)) = pn := by have h := HPX.out; unfold partQ at h; rw [if_pos ⟨rfl, hx2⟩] at h; exact h
            clear HPX hx2
            have HS1 := Lib.hid (HST.out wc HBw.out x.f2)
            obtain ⟨rows, hrows⟩ : ∃ rows, (statF b.f0 st x.f2).f0 = rows := ⟨_, rfl⟩
            rw [hrows] at HS1 hp
            clear hrows
            obtain ⟨hs, hhs⟩ : ∃ hs, (statF b.f0 st x.f2).f1 = hs := ⟨_, rfl⟩
            rw [hhs] at HS1
            clear hhs
            obtain ⟨bx0, bx1, bx2, bx3, bx4, bx5, bx6, bx7, bx8, bx9, bx10⟩ := cB HGB.out
            have lx4 : wc.cell? ⟨lb, 4, none⟩ = some (.int .i64 x.f2) := (bkC HL.out 4).trans rfl
            have hfl0 := fld_stat0
            go_upto_region 8 with (first | (go_at_call 25; refine HS1.out.mono ?_; rintro rr w5 ⟨A2, c2, rfl, hc2, hF2, hB5⟩; have HB5 := Lib.hid hB5; have HK := Lib.hid (clip_ok rows w5); clear hc2 hF2 hB5) | (go_at_call 24; refine HK.out.mono ?_; rintro rr w6 ⟨rfl, hB6⟩; have HB6 := Lib.hid (HB5.out.trans (hB6.mono HB5.out.size)); clear hB6))
            clear HS1 hfl0 lx4 lx0 rx0 HK HB5 bx0 bx1 bx2 bx3 bx4 bx5 bx6 bx7 bx8 bx9 bx10
            have HL6 := Lib.hid ((HB6.out.block lb (blk_lt HL.out)).trans HL.out)
            have HG6 := Lib.hid ((HB6.out.block g4 (blk_lt HGB.out)).trans HGB.out)
            have HBw6 : Hid (Below w.heap.size w w6) := Lib.hid (HBw.out.trans (HB6.out.mono HBw.out.size))
            obtain ⟨bx0, bx1, bx2, bx3, bx4, bx5, bx6, bx7, bx8, bx9, bx10⟩ := cB HG6.out
            obtain ⟨lx0, lx1, lx2, lx3, lx4, lx5, lx6, lx7, lx8⟩ := cX HL6.out
            have HC1 := Lib.hid (HCO.out w6 HBw6.out x Ax cx)
            obtain ⟨hz, hhz⟩ : ∃ hz, colF b st x = hz := ⟨_, rfl⟩
            rw [hhz] at HC1 hp
            obtain ⟨j1, hj1⟩ : ∃ j, mx 1 (clipI rows) = j := ⟨_, rfl⟩
            obtain ⟨j2, hj2⟩ : ∃ j, mn (clipI rows) (clipI hz.f1) = j := ⟨_, rfl⟩
            rw [hj1, hj2] at hp
            have hj1_ : (if 1 < clipI rows then clipI rows else 1) = j1 := hj1
            have hj2_ : (if clipI hz.f1 < clipI rows then clipI hz.f1 else clipI rows) = j2 := hj2
            clear hj1 hj2
            have HPE := Lib.hid hp
            have hfl1 := fld_hist1
            clear hp hhz HL6 HG6 HL HGB HB6 HBw zy
            go_wp2_with (first | (go_at_call 26; refine HC1.out.mono ?_; rintro rr w7 ⟨D, k, rfl, hk, hCD, hB7⟩; have HB7 := Lib.hid hB7; have HK := Lib.hid (clip_ok hz.f1 w7); clear hk hCD hB7) | (go_at_call 24; refine HK.out.mono ?_; rintro rr w8 ⟨rfl, hB8⟩; have HB8 := Lib.hid (HBw6.out.trans ((HB7.out.trans (hB8.mono HB7.out.size)).mono HBw6.out.size)); clear hB8))
            go_ret2
            exact ⟨by rw [← HPE.out]; rfl, HB8.out⟩
          · have bx2 : (x.f0 == 2) = false := beq_eq_false_iff_ne.mpr hx2
            have hp : ((1 : Int), (3 : Int)) = pn := by have h := HPX.out; unfold partQ at h; rw [if_neg (fun h => hx2 h.2), if_pos (.inr (by decide))] at h; exact h
            subst hp
            clear HPX
            clear hx2
            go_wp2_with fail
            go_ret2
            exact ⟨rfl, HBw.out⟩
        have b18 : (op == 18) = false := beq_eq_false_iff_ne.mpr h18
        have e1 : ¬ (op = 18 ∧ x.f0 = 2) := fun h => h18 h.1
        by_cases h9 : op < 9
        · have hp : ((1 : Int), (3 : Int)) = pn := by have h := HPX.out; unfold partQ at h; rw [if_neg e1, if_pos (.inl h9)] at h; exact h
          subst hp
          clear HPX
          clear e1 h18
          go_wp2_with fail
          go_ret2
          exact ⟨rfl, HBw.out⟩
        by_cases h14 : op > 14
        · have hp : ((1 : Int), (3 : Int)) = pn := by have h := HPX.out; unfold partQ at h; rw [if_neg e1, if_pos (.inr h14)] at h; exact h
          subst hp
          clear HPX
          clear e1 h18
          go_wp2_with fail
          go_ret2
          exact ⟨rfl, HBw.out⟩
        have e2 : ¬ (op < 9 ∨ op > 14) := by omega
        have HPY : Hid ((if x.f0 = 2 ∧ knownB r = true then hpartF op (colF b st x) r.f1 else if knownB x = true ∧ r.f0 = 2 then hpartF (turnO op) (colF b st r) x.f1 else if op = 9 ∧ x.f0 = 2 ∧ r.f0 = 2 then (1, mx (mx 1 (clipI (colF b st x).f0)) (clipI (colF b st r).f0)) else (1, 3)) = pn) := Lib.hid (by have h := HPX.out; unfold partQ at h; rw [if_neg e1, if_neg e2] at h; exact h)
        clear HPX e1 e2 h18
        have HKX := Lib.hid (known_ok x Ax cx)
        have HKR := Lib.hid (known_ok r Ar cr)
        unfold exC at HKX HKR
        by_cases hx2 : x.f0 = 2
        · have bx2 : (x.f0 == 2) = true := beq_iff_eq.mpr hx2
          have hkx : knownB x = false := by unfold knownB; rw [if_neg (by rw [hx2]; decide)]
          obtain ⟨-, rx1, rx2, rx3, rx4, rx5, rx6, rx7, rx8⟩ := cX HRB.out
          have HK1 := Lib.hid (HKR.out wc)
          cases hkr : knownB r with
          | true =>
            have hp : hpartF op (colF b st x) r.f1 = pn := by have h := HPY.out; rw [if_pos ⟨hx2, hkr⟩] at h; exact h
            rw [hkr] at HK1
            have HPE := Lib.hid hp
            clear hp HPY hkr hkx hx2 HKX HKR
            go_upto_region 12 with (go_at_call 23; refine HK1.out.mono ?_; rintro rr w5 ⟨rfl, hB5⟩; have HB5 := Lib.hid hB5; clear hB5)
            clear HK1 lx0 rx0 rx1 rx2 rx3 rx4 rx5 rx6 rx7 rx8
            have HL5 := Lib.hid ((HB5.out.block lb (blk_lt HL.out)).trans HL.out)
            have HR5 := Lib.hid ((HB5.out.block rb (blk_lt HRB.out)).trans HRB.out)
            have HG5 := Lib.hid ((HB5.out.block g4 (blk_lt HGB.out)).trans HGB.out)
            replace zy := pw_cell_below HB5.out zy
            replace HBw : Hid (Below w.heap.size w w5) := Lib.hid (HBw.out.trans (HB5.out.mono HBw.out.size))
            clear HL HRB HGB HB5
            have HCR : Hid (ColAt A1 n c1 b a x Ax cx (colF b st x) w5.drew) := Lib.hid (fun Q hQ => (HCO.out w5.drew (below_drew HBw.out) x Ax cx).mono hQ)
            have q3 : w5.drew.cell? ⟨g3, 0, none⟩ = some (.int .i64 op) := zy
            have bq : CBw w5.drew g4 b a := cB HG5.out
            have lq : CXw w5.drew lb x Ax cx := cX HL5.out
            have vq : CVw w5.drew rb r := cV HR5.out
            have HPT := Lib.hid (fun (D : Option Addr) (k : Nat) (W : World) (h1 : (colF b st x).f2.length ≤ k) (h2 : Kd.C k126 W D (colF b st x).f2.length (colF b st x).f2) => hpart_ok op (colF b st x) D k r.f1 W h2 h1)
            generalize colF b st x = hz at HCR HPT HPE
            generalize hpartF op hz r.f1 = pp at HPT HPE
            unfold hiC vaC at HPT
            clear HST HCO HL5 HR5 HG5 zy
            go_region_held3 (fun w' => w'.cell? ⟨g3, 0, none⟩ = some (.int .i64 op) ∧ CBw w' g4 b a ∧ CXw w' lb x Ax cx ∧ CVw w' rb r) (refine ⟨?_, ?_, ?_, ?_⟩ <;> assumption) (first | (go_at_call 26; with_reducible refine HCR.out _ ?_; rintro rr w6 ⟨D, k, rfl, hk, hCD, hB6⟩; have bq2 := bq.mv hB6; have lq2 := lq.mv hB6; have vq2 := vq.mv hB6; have q3b := pw_cell_below hB6 q3; have HX := HPT.out D k w6 hk hCD; have HB6 := Lib.hid hB6; clear hB6) | (go_at_call 27; with_reducible refine HX.mono ?_; rintro rr w7 ⟨rfl, hB7⟩; have bq3 := bq2.mv hB7; have lq3 := lq2.mv hB7; have vq3 := vq2.mv hB7; have q3c := pw_cell_below hB7 q3b))
            have HBF : Hid (Below w.heap.size w w7) := Lib.hid (HBw.out.trans ((⟨HB6.out.os, HB6.out.tape, HB6.out.output, HB6.out.size, HB6.out.block⟩ : Below w5.heap.size w5 w6).trans (hB7.mono HB6.out.size) |>.mono HBw.out.size))
            clear bq bq2 bq3 lq lq2 lq3 vq vq2 vq3 q3 q3b q3c
            go_wp2_with fail
            go_ret2
            exact ⟨by rw [← HPE.out]; rfl, HBF.out⟩
          | false =>
            rw [hkr] at HK1
            have HK2 := Lib.hid (HKX.out)
            rw [hkx] at HK2
            have HE3 := Lib.hid (And.intro hx2 (And.intro hkx hkr)); clear hx2 hkx hkr
            go_upto_region 13 with (go_at_call 23; refine HK1.out.mono ?_; rintro rr w5 ⟨rfl, hB5⟩; have HB5 := Lib.hid hB5; clear hB5)
            clear HK1 rx0 rx1 rx2 rx3 rx4 rx5 rx6 rx7 rx8 lx0
            have HL5 := Lib.hid ((HB5.out.block lb (blk_lt HL.out)).trans HL.out)
            have HR5 := Lib.hid ((HB5.out.block rb (blk_lt HRB.out)).trans HRB.out)
            have HG5 := Lib.hid ((HB5.out.block g4 (blk_lt HGB.out)).trans HGB.out)
            replace zy := pw_cell_below HB5.out zy
            replace HBw : Hid (Below w.heap.size w w5) := Lib.hid (HBw.out.trans (HB5.out.mono HBw.out.size))
            clear HL HRB HGB HB5
            obtain ⟨lx0, lx1, lx2, lx3, lx4, lx5, lx6, lx7, lx8⟩ := cX HL5.out
            have HK3 := Lib.hid (HK2.out w5)
            clear HK2 HKX HKR
            go_upto_region 21 with (go_at_call 23; refine HK3.out.mono ?_; rintro rr w6 ⟨rfl, hB6⟩; have HB6 := Lib.hid hB6; clear hB6)
            clear HK3 lx0 lx1 lx2 lx3 lx4 lx5 lx6 lx7 lx8
            have HL6 := Lib.hid ((HB6.out.block lb (blk_lt HL5.out)).trans HL5.out)
            have HR6 := Lib.hid ((HB6.out.block rb (blk_lt HR5.out)).trans HR5.out)
            have HG6 := Lib.hid ((HB6.out.block g4 (blk_lt HG5.out)).trans HG5.out)
            replace zy := pw_cell_below HB6.out zy
            replace HBw : Hid (Below w.heap.size w w6) := Lib.hid (HBw.out.trans (HB6.out.mono HBw.out.size))
            clear HL5 HR5 HG5 HB6
            have lx0 : w6.cell? ⟨lb, 0, none⟩ = some (.int .i64 x.f0) := (bkC HL6.out 0).trans rfl
            have rx0 : w6.cell? ⟨rb, 0, none⟩ = some (.int .i64 r.f0) := (bkC HR6.out 0).trans rfl
            have hx2 := HE3.out.1; have hkx := HE3.out.2.1; have hkr := HE3.out.2.2; clear HE3
            by_cases hop : op = 9 ∧ r.f0 = 2
            · have bop : (op == 9) = true := beq_iff_eq.mpr hop.1
              have br2 : (r.f0 == 2) = true := beq_iff_eq.mpr hop.2
              have hp : ((1 : Int), mx (mx 1 (clipI (colF b st x).f0)) (clipI (colF b st r).f0)) = pn := by have h := HPY.out; rw [if_neg (fun h => by rw [hkr] at h; cases h.2), if_neg (fun h => by rw [hkx] at h; cases h.1), if_pos ⟨hop.1, hx2, hop.2⟩] at h; exact h
              have HPE := Lib.hid hp
              clear hp HPY hop hkr hkx hx2
              go_upto_region 22 with fail
              clear lx0 rx0 zy
              have HCR : Hid (ColAt A1 n c1 b a x Ax cx (colF b st x) w6.drew) := Lib.hid (fun Q hQ => (HCO.out w6.drew (below_drew HBw.out) x Ax cx).mono hQ)
              have HCZ := Lib.hid (fun (W : World) (hW : Below w.heap.size w W) => HCO.out W hW r Ar cr)
              have bx : CBw w6.drew g4 b a := cB HG6.out
              have lx : CXw w6.drew lb x Ax cx := cX HL6.out
              have rx : CXw w6.drew rb r Ar cr := cX HR6.out
              generalize colF b st x = hz at HCR HPE
              generalize colF b st r = hy at HCZ HPE
              obtain ⟨j1, hj1⟩ : ∃ j, mx 1 (clipI hz.f0) = j := ⟨_, rfl⟩
              obtain ⟨j2, hj2⟩ : ∃ j, mx j1 (clipI hy.f0) = j := ⟨_, rfl⟩
              replace HPE : Hid ((1, j2) = pn) := Lib.hid (by have h := HPE.out; rw [hj1, hj2] at h; exact h)
              have hj1_ : (if 1 < clipI hz.f0 then clipI hz.f0 else 1) = j1 := hj1
              have hj2_ : (if j1 < clipI hy.f0 then clipI hy.f0 else j1) = j2 := hj2
              clear hj1 hj2
              have hfl0 := fld_hist0
              clear HST HCO HL6 HR6 HG6
              go_region_held3 (fun w' => CBw w' g4 b a ∧ CXw w' lb x Ax cx ∧ CXw w' rb r Ar cr) (refine ⟨?_, ?_, ?_⟩ <;> assumption) (first | (go_at_call 26; with_reducible refine HCR.out _ ?_; rintro rr w7 ⟨D, k, rfl, hk, hCD, hB7⟩; have bxa := bx.mv hB7; have lxa := lx.mv hB7; have rxa := rx.mv hB7; have HX := clip_ok hz.f0 w7; have HB7 := Lib.hid (below_undrew hB7); clear hB7 hk hCD) | (go_at_call 24; with_reducible refine HX.mono ?_; rintro rr w8 ⟨rfl, hB8⟩; have bxb := bxa.mv hB8; have lxb := lxa.mv hB8; have rxb := rxa.mv hB8; have HB8 : Hid (Below w.heap.size w w8) := Lib.hid (HBw.out.trans ((HB7.out.trans (hB8.mono HB7.out.size)).mono HBw.out.size)); have HY := HCZ.out w8 HB8.out; clear hB8) | (go_at_call 26; with_reducible refine HY.mono ?_; rintro rr w9 ⟨D2, k2, rfl, hk2, hCD2, hB9⟩; have bxc := bxb.mv hB9; have lxc := lxb.mv hB9; have rxc := rxb.mv hB9; have HV := clip_ok hy.f0 w9; have HB9 : Hid (Below w.heap.size w w9) := Lib.hid (HB8.out.trans (hB9.mono HB8.out.size)); clear hB9 hk2 hCD2) | (go_at_call 24; with_reducible refine HV.mono ?_; rintro rr w10 ⟨rfl, hB10⟩; have bxd := bxc.mv hB10; have lxd := lxc.mv hB10; have rxd := rxc.mv hB10; have HB10 : Hid (Below w.heap.size w w10) := Lib.hid (HB9.out.trans (hB10.mono HB9.out.size)); clear hB10))
              clear bx bxa bxb bxc bxd lx lxa lxb lxc lxd rx rxa rxb rxc rxd hfl0
              go_wp2_with fail
              go_ret2
              exact ⟨by rw [← HPE.out]; rfl, HB10.out⟩
            · have hp : ((1 : Int), (3 : Int)) = pn := by have h := HPY.out; rw [if_neg (fun h => by rw [hkr] at h; cases h.2), if_neg (fun h => by rw [hkx] at h; cases h.1), if_neg (fun h => hop ⟨h.1, h.2.2⟩)] at h; exact h
              subst hp
              by_cases hop9 : op = 9
              · have bop : (op == 9) = true := beq_iff_eq.mpr hop9
                have br2 : (r.f0 == 2) = false := beq_eq_false_iff_ne.mpr (fun h => hop ⟨hop9, h⟩)
                clear HPY hop hkr hkx hx2 hop9
                go_wp2_with fail
                go_ret2
                exact ⟨rfl, HBw.out⟩
              · have bop : (op == 9) = false := beq_eq_false_iff_ne.mpr hop9
                clear HPY hop hkr hkx hx2 hop9
                go_wp2_with fail
                go_ret2
                exact ⟨rfl, HBw.out⟩
        · have bx2 : (x.f0 == 2) = false := beq_eq_false_iff_ne.mpr hx2
          have HK3 := Lib.hid (HKX.out wc)
          clear HKX HKR
          obtain ⟨-, lx1, lx2, lx3, lx4, lx5, lx6, lx7, lx8⟩ := cX HL.out
          by_cases hkr : knownB x = true ∧ r.f0 = 2
          · have br2 : (r.f0 == 2) = true := beq_iff_eq.mpr hkr.2
            have hp : hpartF (turnO op) (colF b st r) x.f1 = pn := by have h := HPY.out; rw [if_neg (fun h => hx2 h.1), if_pos hkr] at h; exact h
            rw [hkr.1] at HK3
            clear HPY hkr hx2
            go_upto_region 15 with (go_at_call 23; refine HK3.out.mono ?_; rintro rr w5 ⟨rfl, hB5⟩; have HB5 := Lib.hid hB5; clear hB5; replace zy := pw_cell_below HB5.out zy; replace rx0 := pw_cell_below HB5.out rx0)
            clear HK3 rx0 lx0 lx1 lx2 lx3 lx4 lx5 lx6 lx7 lx8
            have HL5 := Lib.hid ((HB5.out.block lb (blk_lt HL.out)).trans HL.out)
            have HR5 := Lib.hid ((HB5.out.block rb (blk_lt HRB.out)).trans HRB.out)
            have HG5 := Lib.hid ((HB5.out.block g4 (blk_lt HGB.out)).trans HGB.out)
            replace HBw : Hid (Below w.heap.size w w5) := Lib.hid (HBw.out.trans (HB5.out.mono HBw.out.size))
            clear HL HRB HGB HB5 bx2 b18
            by_cases h11 : op = 11
            · subst h11
              have HCR : Hid (ColAt A1 n c1 b a r Ar cr (colF b st r) w5.drew) := Lib.hid (fun Q hQ => (HCO.out w5.drew (below_drew HBw.out) r Ar cr).mono hQ)
              have bq : CBw w5.drew g4 b a := cB HG5.out
              have lq : CXw w5.drew rb r Ar cr := cX HR5.out
              have vq : CVw w5.drew lb x := cV HL5.out
              have q3 : w5.drew.cell? ⟨g3, 0, none⟩ = some (.int .i64 11) := zy
              have HPT := Lib.hid (fun (D : Option Addr) (k : Nat) (W : World) (h1 : (colF b st r).f2.length ≤ k) (h2 : Kd.C k126 W D (colF b st r).f2.length (colF b st r).f2) => hpart_ok (turnO 11) (colF b st r) D k x.f1 W h2 h1)
              rw [show turnO 11 = 13 from rfl] at HPT hp
              have HPE := Lib.hid hp; clear hp
              generalize colF b st r = hz at HCR HPT HPE
              generalize hpartF 13 hz x.f1 = pp at HPT HPE
              unfold hiC vaC at HPT
              clear HST HCO HL5 HR5 HG5 zy
              go_upto_region 20 with fail
              go_region_held3 (fun w' => w'.cell? ⟨g3, 0, none⟩ = some (.int .i64 11) ∧ CBw w' g4 b a ∧ CXw w' rb r Ar cr ∧ CVw w' lb x) (refine ⟨?_, ?_, ?_, ?_⟩ <;> assumption) (first | (go_at_call 26; with_reducible refine HCR.out _ ?_; rintro rr w6 ⟨D, k, rfl, hk, hCD, hB6⟩; have bq2 := bq.mv hB6; have lq2 := lq.mv hB6; have vq2 := vq.mv hB6; have q3b := pw_cell_below hB6 q3; have HX := HPT.out D k w6 hk hCD; have HB6 := Lib.hid hB6; clear hB6) | (go_at_call 27; with_reducible refine HX.mono ?_; rintro rr w7 ⟨rfl, hB7⟩; have bq3 := bq2.mv hB7; have lq3 := lq2.mv hB7; have vq3 := vq2.mv hB7; have q3c := pw_cell_below hB7 q3b))
              have HBF : Hid (Below w.heap.size w w7) := Lib.hid (HBw.out.trans ((⟨HB6.out.os, HB6.out.tape, HB6.out.output, HB6.out.size, HB6.out.block⟩ : Below w5.heap.size w5 w6).trans (hB7.mono HB6.out.size) |>.mono HBw.out.size))
              clear bq bq2 bq3 lq lq2 lq3 vq vq2 vq3 q3 q3b q3c
              go_wp2_with fail
              go_ret2
              exact ⟨by rw [← HPE.out]; rfl, HBF.out⟩
            by_cases h12 : op = 12
            · subst h12
              have HCR : Hid (ColAt A1 n c1 b a r Ar cr (colF b st r) w5.drew) := Lib.hid (fun Q hQ => (HCO.out w5.drew (below_drew HBw.out) r Ar cr).mono hQ)
              have bq : CBw w5.drew g4 b a := cB HG5.out
              have lq : CXw w5.drew rb r Ar cr := cX HR5.out
              have vq : CVw w5.drew lb x := cV HL5.out
              have q3 : w5.drew.cell? ⟨g3, 0, none⟩ = some (.int .i64 12) := zy
              have HPT := Lib.hid (fun (D : Option Addr) (k : Nat) (W : World) (h1 : (colF b st r).f2.length ≤ k) (h2 : Kd.C k126 W D (colF b st r).f2.length (colF b st r).f2) => hpart_ok (turnO 12) (colF b st r) D k x.f1 W h2 h1)
              rw [show turnO 12 = 14 from rfl] at HPT hp
              have HPE := Lib.hid hp; clear hp
              generalize colF b st r = hz at HCR HPT HPE
              generalize hpartF 14 hz x.f1 = pp at HPT HPE
              unfold hiC vaC at HPT
              clear HST HCO HL5 HR5 HG5 zy
              go_upto_region 20 with fail
              go_region_held3 (fun w' => w'.cell? ⟨g3, 0, none⟩ = some (.int .i64 12) ∧ CBw w' g4 b a ∧ CXw w' rb r Ar cr ∧ CVw w' lb x) (refine ⟨?_, ?_, ?_, ?_⟩ <;> assumption) (first | (go_at_call 26; with_reducible refine HCR.out _ ?_; rintro rr w6 ⟨D, k, rfl, hk, hCD, hB6⟩; have bq2 := bq.mv hB6; have lq2 := lq.mv hB6; have vq2 := vq.mv hB6; have q3b := pw_cell_below hB6 q3; have HX := HPT.out D k w6 hk hCD; have HB6 := Lib.hid hB6; clear hB6) | (go_at_call 27; with_reducible refine HX.mono ?_; rintro rr w7 ⟨rfl, hB7⟩; have bq3 := bq2.mv hB7; have lq3 := lq2.mv hB7; have vq3 := vq2.mv hB7; have q3c := pw_cell_below hB7 q3b))
              have HBF : Hid (Below w.heap.size w w7) := Lib.hid (HBw.out.trans ((⟨HB6.out.os, HB6.out.tape, HB6.out.output, HB6.out.size, HB6.out.block⟩ : Below w5.heap.size w5 w6).trans (hB7.mono HB6.out.size) |>.mono HBw.out.size))
              clear bq bq2 bq3 lq lq2 lq3 vq vq2 vq3 q3 q3b q3c
              go_wp2_with fail
              go_ret2
              exact ⟨by rw [← HPE.out]; rfl, HBF.out⟩
            have b11 : (op == 11) = false := beq_eq_false_iff_ne.mpr h11
            have b12 : (op == 12) = false := beq_eq_false_iff_ne.mpr h12
            have ht : turnO op = op := by unfold turnO; rw [if_neg h11, if_neg h12]
            rw [ht] at hp
            clear h11 h12 h9 h14
            have HCR : Hid (ColAt A1 n c1 b a r Ar cr (colF b st r) w5.drew) := Lib.hid (fun Q hQ => (HCO.out w5.drew (below_drew HBw.out) r Ar cr).mono hQ)
            have bq : CBw w5.drew g4 b a := cB HG5.out
            have lq : CXw w5.drew rb r Ar cr := cX HR5.out
            have vq : CVw w5.drew lb x := cV HL5.out
            have q3 : w5.drew.cell? ⟨g3, 0, none⟩ = some (.int .i64 op) := zy
            have HPT := Lib.hid (fun (D : Option Addr) (k : Nat) (W : World) (h1 : (colF b st r).f2.length ≤ k) (h2 : Kd.C k126 W D (colF b st r).f2.length (colF b st r).f2) => hpart_ok (turnO op) (colF b st r) D k x.f1 W h2 h1)
            rw [ht] at HPT; clear ht
            have HPE := Lib.hid hp; clear hp
            generalize colF b st r = hz at HCR HPT HPE
            generalize hpartF op hz x.f1 = pp at HPT HPE
            unfold hiC vaC at HPT
            clear HST HCO HL5 HR5 HG5 zy
            go_upto_region 20 with fail
            go_region_held3 (fun w' => w'.cell? ⟨g3, 0, none⟩ = some (.int .i64 op) ∧ CBw w' g4 b a ∧ CXw w' rb r Ar cr ∧ CVw w' lb x) (refine ⟨?_, ?_, ?_, ?_⟩ <;> assumption) (first | (go_at_call 26; with_reducible refine HCR.out _ ?_; rintro rr w6 ⟨D, k, rfl, hk, hCD, hB6⟩; have bq2 := bq.mv hB6; have lq2 := lq.mv hB6; have vq2 := vq.mv hB6; have q3b := pw_cell_below hB6 q3; have HX := HPT.out D k w6 hk hCD; have HB6 := Lib.hid hB6; clear hB6) | (go_at_call 27; with_reducible refine HX.mono ?_; rintro rr w7 ⟨rfl, hB7⟩; have bq3 := bq2.mv hB7; have lq3 := lq2.mv hB7; have vq3 := vq2.mv hB7; have q3c := pw_cell_below hB7 q3b))
            have HBF : Hid (Below w.heap.size w w7) := Lib.hid (HBw.out.trans ((⟨HB6.out.os, HB6.out.tape, HB6.out.output, HB6.out.size, HB6.out.block⟩ : Below w5.heap.size w5 w6).trans (hB7.mono HB6.out.size) |>.mono HBw.out.size))
            clear bq bq2 bq3 lq lq2 lq3 vq vq2 vq3 q3 q3b q3c
            go_wp2_with fail
            go_ret2
            exact ⟨by rw [← HPE.out]; rfl, HBF.out⟩
          · have hp : ((1 : Int), (3 : Int)) = pn := by have h := HPY.out; rw [if_neg (fun h => hx2 h.1), if_neg hkr, if_neg (fun h => hx2 h.2.1)] at h; exact h
            subst hp
            obtain ⟨kx, hkx⟩ : ∃ kx, knownB x = kx := ⟨_, rfl⟩
            rw [hkx] at HK3
            cases kx with
            | true =>
              have br2 : (r.f0 == 2) = false := beq_eq_false_iff_ne.mpr (fun h => hkr ⟨hkx, h⟩)
              clear HPY hkr hkx hx2
              by_cases hop9 : op = 9
              · have bop : (op == 9) = true := beq_iff_eq.mpr hop9
                clear hop9
                go_wp2_with (go_at_call 23; refine HK3.out.mono ?_; rintro rr w5 ⟨rfl, hB5⟩; have HB5 := Lib.hid (HBw.out.trans (hB5.mono HBw.out.size)); replace zy := pw_cell_below hB5 zy; replace rx0 := pw_cell_below hB5 rx0; replace lx0 := pw_cell_below hB5 lx0; clear hB5)
                go_ret2
                exact ⟨rfl, HB5.out⟩
              · have bop : (op == 9) = false := beq_eq_false_iff_ne.mpr hop9
                clear hop9
                go_wp2_with (go_at_call 23; refine HK3.out.mono ?_; rintro rr w5 ⟨rfl, hB5⟩; have HB5 := Lib.hid (HBw.out.trans (hB5.mono HBw.out.size)); replace zy := pw_cell_below hB5 zy; replace rx0 := pw_cell_below hB5 rx0; replace lx0 := pw_cell_below hB5 lx0; clear hB5)
                go_ret2
                exact ⟨rfl, HB5.out⟩
            | false =>
              clear HPY hkr hkx hx2
              by_cases hop9 : op = 9
              · have bop : (op == 9) = true := beq_iff_eq.mpr hop9
                clear hop9
                go_wp2_with (go_at_call 23; refine HK3.out.mono ?_; rintro rr w5 ⟨rfl, hB5⟩; have HB5 := Lib.hid (HBw.out.trans (hB5.mono HBw.out.size)); replace zy := pw_cell_below hB5 zy; replace rx0 := pw_cell_below hB5 rx0; replace lx0 := pw_cell_below hB5 lx0; clear hB5)
                go_ret2
                exact ⟨rfl, HB5.out⟩
              · have bop : (op == 9) = false := beq_eq_false_iff_ne.mpr hop9
                clear hop9
                go_wp2_with (go_at_call 23; refine HK3.out.mono ?_; rintro rr w5 ⟨rfl, hB5⟩; have HB5 := Lib.hid (HBw.out.trans (hB5.mono HBw.out.size)); replace zy := pw_cell_below hB5 zy; replace rx0 := pw_cell_below hB5 rx0; replace lx0 := pw_cell_below hB5 lx0; clear hB5)
                go_ret2
                exact ⟨rfl, HB5.out⟩
end Go.Proofs.YtoffpegppdmkdaaGreatDoor.E
