/- Contracts and plain lemmas of the functions that the law reaches, part 12. -/
import Derived.Lib.SmallJoins
import Derived.Test.YtoffpegppdmkdaaGreatDoorCP8
import Derived.Test.YtoffpegppdmkdaaGreatDoorCP10
import Derived.Test.YtoffpegppdmkdaaGreatDoorCP11
namespace Go.Proofs.YtoffpegppdmkdaaGreatDoor.E
open Go.RowKit Go.Proofs.YtoffpegppdmkdaaGreatDoorW.PrintWords Go.Proofs.YtoffpegppdmkdaaGreatDoorW.PrintLast Go.Proofs.YtoffpegppdmkdaaGreatDoorW.PrintMore
mutual
/-- An expression's text. -/
def textF : Ex → List UInt8
  | ⟨f0, f1, f2, f3, f4, _, f6⟩ =>
    if f0 = 1 then (if f1.f0 = 0 then [78] else if f1.f0 = 1 then 73 :: Lib.itoa f1.f1 else if f1.f0 = 2 then 66 :: Lib.itoa f1.f1 else 84 :: (Lib.itoa f1.f2.size ++ 58 :: f1.f2.data.toList))
    else if f0 = 2 then 82 :: (Lib.itoa f2 ++ 46 :: Lib.itoa f3) else if f0 = 3 then 80 :: Lib.itoa f4 else 40 :: (Lib.itoa f0 ++ (textL f6 ++ [41]))
def textL : List Ex → List UInt8
  | [] => []
  | x :: xs => 32 :: (textF x ++ textL xs)
end
theorem textF_eq (e : Ex) : textF e = if e.f0 = 1 then (if e.f1.f0 = 0 then [78] else if e.f1.f0 = 1 then 73 :: Lib.itoa e.f1.f1 else if e.f1.f0 = 2 then 66 :: Lib.itoa e.f1.f1 else 84 :: (Lib.itoa e.f1.f2.size ++ 58 :: e.f1.f2.data.toList))
    else if e.f0 = 2 then 82 :: (Lib.itoa e.f2 ++ 46 :: Lib.itoa e.f3) else if e.f0 = 3 then 80 :: Lib.itoa e.f4 else 40 :: (Lib.itoa e.f0 ++ (textL e.f6 ++ [41])) := by
  cases e; rw [textF]
theorem textL_snoc (l : List Ex) (x : Ex) : textL (l ++ [x]) = textL l ++ 32 :: textF x := by
  induction l with
  | nil => simp [textL]
  | cons y l ih => simp [textL, ih]
theorem textL_le (l : List Ex) (k : Nat) : (textL (l.take k)).length ≤ (textL l).length := by
  induction l generalizing k with
  | nil => simp
  | cons y l ih =>
    cases k with
    | zero => simp [textL]
    | succ k => simp only [List.take_succ_cons, textL, List.length_cons, List.length_append]; have := ih k; omega
mutual
/-- Are its numbers whole numbers of the machine's? -/
def rngF : Ex → Bool
  | ⟨_, f1, _, _, _, _, f6⟩ => decide (-9223372036854775808 ≤ f1.f1 ∧ f1.f1 ≤ 9223372036854775807) && rngL f6
def rngL : List Ex → Bool
  | [] => true
  | x :: xs => rngF x && rngL xs
end
theorem rngF_eq (e : Ex) : rngF e = (decide (-9223372036854775808 ≤ e.f1.f1 ∧ e.f1.f1 ≤ 9223372036854775807) && rngL e.f6) := by cases e; rw [rngF]
theorem rngL_mem {l : List Ex} (h : rngL l = true) {x : Ex} (hx : x ∈ l) : rngF x = true := by
  induction l with
  | nil => cases hx
  | cons y l ih =>
    simp only [rngL, Bool.and_eq_true] at h
    cases hx with
    | head => exact h.1
    | tail _ hx => exact ih h.2 hx
theorem Rt.op {e : Ex} (h : Rt e) : 1 ≤ e.f0 ∧ e.f0 ≤ 18 := by
  have h1 := (own_true h.own).2
  unfold wantsI at h1
  split at h1
  · omega
  · split at h1
    · omega
    · omega
theorem Rt.val {e : Ex} (h : Rt e) (h2 : e.f0 = 1) : rightV e.f1 = true := by
  have h := h.own
  unfold ownB expr_own.f expr_wants.f at h
  simp only [Option.bind_some] at h
  split at h
  · by_cases hl : (e.f6.length : Int) = wantsI e.f0
    · rw [bne_eq_false_iff_eq.mpr hl] at h
      simp only [expr_own.j0, h2, right_some] at h
      simp at h
      cases hr : rightV e.f1 with
      | true => rfl
      | false => rw [hr] at h; simp at h
    · rw [bne_iff_ne.mpr hl] at h
      simp [expr_own.j0] at h
  · simp [expr_own.j0] at h
theorem right_size {v : Va} (h : rightV v = true) (h0 : ¬ v.f0 = 0) (h1 : ¬ v.f0 = 1) (h2 : ¬ v.f0 = 2) : v.f2.size ≤ 40 := by
  have hs := right_some v
  rw [h] at hs
  unfold value_Right.f at hs
  rw [if_neg h0, if_neg h1, if_neg h2] at hs
  repeat' split at hs
  all_goals (simp at hs)
  exact_mod_cast hs
structure PEnv (w0 : World) (b g2 g : Nat) (e : Ex) (A : Option Addr) (c : Nat) (bs : List UInt8) (w : World) : Prop where
  below : Below w0.heap.size w0 w
  bd : BdIs w0.heap.size b (Lib.byteCells bs) w
  b2 : w.heap[g2]? = some (.cells #[.pointer (some ⟨b, 0, none⟩)] 80 (0, 0))
  bg : w.heap[g]? = some (.cells (exC e A c) 26 (0, 0))
  ne2 : some g2 ≠ some b
  neg : some g ≠ some b
theorem PEnv.later {w0 w w' : World} {b g2 g : Nat} {e : Ex} {A : Option Addr} {c : Nat} {bs : List UInt8} (h : PEnv w0 b g2 g e A c bs w) (hb : Below w.heap.size w w') : PEnv w0 b g2 g e A c bs w' :=
  ⟨h.below.trans (hb.mono h.below.size), bdIs_later h.bd hb, (hb.block g2 (blk_lt h.b2)).trans h.b2, (hb.block g (blk_lt h.bg)).trans h.bg, h.ne2, h.neg⟩
theorem PEnv.next {w0 w w' : World} {b g2 g : Nat} {e : Ex} {A : Option Addr} {c : Nat} {bs bs' : List UInt8} (h : PEnv w0 b g2 g e A c bs w) (h1 : BdAt w0.heap.size b (Lib.byteCells bs') w') (h2 : Below w0.heap.size w w') (h3 : Oth b w w') : PEnv w0 b g2 g e A c bs' w' :=
  ⟨h.below.trans h2, .inr h1, h3 g2 _ h.b2 h.ne2 (by intro c fz h; cases h), h3 g _ h.bg h.neg (by intro c fz h; cases h), h.ne2, h.neg⟩
theorem byteCells_append (l m : List UInt8) : Lib.byteCells (l ++ m) = Lib.byteCells l ++ Lib.byteCells m := by simp [Lib.byteCells]
theorem byteCells_length (l : List UInt8) : (Lib.byteCells l).length = l.length := by simp [Lib.byteCells]
def PutQ (w0 : World) (b : Nat) (bs : List UInt8) (w : World) (r : Ending) (w' : World) : Prop := r = .returned (.tuple #[]) ∧ BdAt w0.heap.size b (Lib.byteCells bs) w' ∧ Below w0.heap.size w w' ∧ Oth b w w'
theorem PEnv.wr {w0 w : World} {b g2 g : Nat} {e : Ex} {A : Option Addr} {c : Nat} {bs : List UInt8} (h : PEnv w0 b g2 g e A c bs w) (l : List UInt8) (hl : bs.length + l.length ≤ 140737488355328) :
    Calls Tryz.prog 38 #[.pointer (some ⟨b, 0, none⟩), .string ⟨l.toArray⟩] w fun r w' => r = .returned (.tuple #[.int .i64 l.length, .nilIface]) ∧ PEnv w0 b g2 g e A c (bs ++ l) w' ∧ Below w0.heap.size w w' ∧ Oth b w w' ∧ BdAt w0.heap.size b (Lib.byteCells (bs ++ l)) w' :=
  (write_ok w0.heap.size b (Lib.byteCells bs) ⟨l.toArray⟩ w h.bd (by rw [byteCells_length]; exact hl) h.below.size).mono (by
    rintro r w' ⟨rfl, h1, h2, h3⟩
    have h1' : BdAt w0.heap.size b (Lib.byteCells (bs ++ l)) w' := by rw [byteCells_append]; exact h1
    exact ⟨rfl, h.next h1' h2 h3, h2, h3, h1'⟩)
theorem PEnv.nu {w0 w : World} {b g2 g : Nat} {e : Ex} {A : Option Addr} {c : Nat} {bs : List UInt8} (h : PEnv w0 b g2 g e A c bs w) (hT : TabW w0) (n : Int) (h0 : -9223372036854775808 ≤ n) (h1 : n ≤ 9223372036854775807) (hl : bs.length + (Lib.itoa n).length ≤ 140737488355328) :
    Calls Tryz.prog 130 #[.int .i64 n, .pointer (some ⟨g2, 0, none⟩)] w fun r w' => r = .returned (.tuple #[]) ∧ PEnv w0 b g2 g e A c (bs ++ Lib.itoa n) w' ∧ Below w0.heap.size w w' ∧ Oth b w w' ∧ BdAt w0.heap.size b (Lib.byteCells (bs ++ Lib.itoa n)) w' :=
  (num_ok w0.heap.size b g2 (Lib.byteCells bs) n w (Lib.tabBelow_of_tabIs hT w h.below) h0 h1 h.bd (by rw [byteCells_length]; exact hl) h.below.size h.b2).mono (by
    rintro r w' ⟨rfl, h1, h2, h3⟩
    have h1' : BdAt w0.heap.size b (Lib.byteCells (bs ++ Lib.itoa n)) w' := by rw [byteCells_append]; exact h1
    exact ⟨rfl, h.next h1' h2 h3, h2, h3, h1'⟩)
def PutOk (w0 : World) (b : Nat) (e : Ex) : Prop := ∀ (A : Option Addr) (c : Nat) (bs : List UInt8) (w : World), Rt e → rngF e = true → TabW w0 → Below w0.heap.size w0 w → BdIs w0.heap.size b (Lib.byteCells bs) w → bs.length + (textF e).length ≤ 140737488355328 → e.f6.length ≤ c → Kd.C k26 w0 A e.f6.length e.f6 →
  Calls Tryz.prog 103 #[.pointer (some ⟨b, 0, none⟩), .agg (exC e A c)] w (PutQ w0 b (bs ++ textF e) w)
set_option maxHeartbeats 4000000 in
set_option maxRecDepth 100000 in
theorem put_step (w0 : World) (b : Nat) (e : Ex) (ih : ∀ x ∈ e.f6, PutOk w0 b x) : PutOk w0 b e := by
  intro A c bs w hRt hRg hT hB hbd hlen hc hC
  have IH := Lib.hid ih; have HC := Lib.hid hC; have HT := Lib.hid hT; have HRT := Lib.hid hRt; have HRG := Lib.hid hRg; have HB := Lib.hid hB
  obtain ⟨bv, hbb⟩ : ∃ x : Obj, w.heap[b]? = some x ∧ ∀ y, x ≠ .cells #[y] 80 (0, 0) := by
    rcases hbd with ⟨_, v, hb, _⟩ | ⟨_, v, hb, _⟩ <;> exact ⟨_, hb, by intro y h; simp at h⟩
  have HBD := Lib.hid hbd
  have HBL : Hid (b < w.heap.size) := blk_lt hbb.1
  clear ih hC hT hRt hRg hB hbd hbb
  obtain ⟨tx, htx⟩ : ∃ tx, textF e = tx := ⟨_, rfl⟩
  rw [htx] at hlen ⊢
  rw [textF_eq] at htx
  have HTX := Lib.hid htx; clear htx
  have HLEN := Lib.hid hlen; clear hlen
  unfold exC
  go_enter Tryz.func103, Tryz.ntmps103
  go_upto_region 2 with (first | ((with_reducible refine gate_dst (N := 2) rfl ?_); refine box_event rfl (N := 2) rfl (cs := #[.pointer (some ⟨b, 0, none⟩)]) (t := 80) (by first | rfl | (go_simp; done) | (go_simp; rfl)) ?_; intro g2 hgg w1 hbg2 hBg2;  have hn2 : some g2 ≠ some b := (by have := HBL.out; intro h; cases h; omega); clear hgg) | ((with_reducible refine gate_dst (N := 3) rfl ?_); refine box_event rfl (N := 3) rfl (cs := exC e A c) (t := 26) (by first | rfl | (go_simp; done) | (go_simp; rfl)) ?_; intro g hgg w2 hbg hBg;  have hng : some g ≠ some b := (by have := HBL.out; have := hBg2.size; intro h; cases h; omega); clear hgg))
  have HO2 : Hid (Oth b w w2) := (oth_of hBg2).trans (oth_of hBg)
  have HW2 : Hid (Below w0.heap.size w w2) := (hBg2.trans (hBg.mono hBg2.size)).mono HB.out.size
  have HP2 : Hid (PEnv w0 b g2 g e A c bs w2) := ⟨HB.out.trans HW2.out, bdIs_later HBD.out (hBg2.trans (hBg.mono hBg2.size)), (hBg.block g2 (blk_lt hbg2)).trans hbg2, hbg, hn2, hng⟩
  clear hbg2 hBg2 hbg hBg
  obtain ⟨hz0, hz1, hz2, hz3, hz4, hz5, hz6, hz7, hz8⟩ := bkC9 HP2.out.bg
  have hp2 : w2.cell? ⟨g2, 0, none⟩ = some (.pointer (some ⟨b, 0, none⟩)) := (bkC HP2.out.b2 0).trans rfl
  have hrb := HRT.out.op
  by_cases h1 : e.f0 = 1
  · have HTX2 := Lib.hid (HTX.out.symm.trans (if_pos h1))
    have hright := HRT.out.val h1
    replace h1 : (e.f0 == 1) = true := beq_iff_eq.mpr h1
    have hrg : -9223372036854775808 ≤ e.f1.f1 ∧ e.f1.f1 ≤ 9223372036854775807 := by
      have h := HRG.out
      rw [rngF_eq, Bool.and_eq_true] at h
      exact of_decide_eq_true h.1
    have HRN := Lib.hid hrg; clear hrg
    go_upto_region 14 with (first | ((with_reducible refine gate_dst (N := 5) rfl ?_); refine box_event rfl (N := 5) rfl (cs := vaC zeroV) (t := 23) (by first | rfl | (go_simp; done) | (go_simp; rfl)) ?_; intro vb hgg w3 hbvb hBvb;  obtain ⟨hc0, hc1, hc2⟩ := bkC3 hbvb; have hf0 := bkF hbvb 0; have hf1 := bkF hbvb 1; have hf2 := bkF hbvb 2; have hvr : w2.heap.size ≤ vb := (by omega); clear hgg))
    have hv4 := va_put hbvb e.f1
    have HB4 : Hid (Below w2.heap.size w2 (((w3.setCell ⟨vb, 0, none⟩ (.int .i64 e.f1.f0)).setCell ⟨vb, 1, none⟩ (.int .i64 e.f1.f1)).setCell ⟨vb, 2, none⟩ (.string e.f1.f2))) := va_below hBvb hvr e.f1
    clear hc0 hc1 hc2 hf0 hf1 hf2 hbvb hBvb hz0 hz1 hz2 hz3 hz4 hz5 hz6 hz7 hz8 hp2
    generalize ((w3.setCell ⟨vb, 0, none⟩ (.int .i64 e.f1.f0)).setCell ⟨vb, 1, none⟩ (.int .i64 e.f1.f1)).setCell ⟨vb, 2, none⟩ (.string e.f1.f2) = w4 at hv4 HB4 ⊢
    have HP4 := Lib.hid (HP2.out.later HB4.out)
    have HO4 : Hid (Oth b w w4) := HO2.out.trans (oth_of HB4.out)
    have HW4 : Hid (Below w0.heap.size w w4) := HW2.out.trans (HB4.out.mono HP2.out.below.size)
    have hvb : some vb ≠ some b := by have := HBL.out; have := HW2.out.size; intro h; cases h; omega
    have hd0 : w4.cell? ⟨vb, 0, none⟩ = some (.int .i64 e.f1.f0) := ((bkC hv4 0).trans rfl)
    have hp4 : w4.cell? ⟨g2, 0, none⟩ = some (.pointer (some ⟨b, 0, none⟩)) := (bkC HP4.out.b2 0).trans rfl
    by_cases k0 : e.f1.f0 = 0
    · have HTX3 : Hid (tx = [78]) := HTX2.out.trans (if_pos k0)
      have HWR := Lib.hid (HP4.out.wr [78] (by have := HLEN.out; rw [HTX3.out] at this; exact this))
      replace k0 : (e.f1.f0 == 0) = true := beq_iff_eq.mpr k0
      go_wp2_with (go_at_call 38; refine HWR.out.mono ?_; rintro r w5 ⟨rfl, hP5, hB5, hO5, hb5⟩; have hp5 : w5.cell? ⟨g2, 0, none⟩ = some (.pointer (some ⟨b, 0, none⟩)) := ((bkC hP5.b2 0).trans rfl))
      go_end0
      exact ⟨rfl, by rw [HTX3.out]; exact hb5, HW4.out.trans hB5, HO4.out.trans hO5⟩
    · have HTX3 := Lib.hid (HTX2.out.trans (if_neg k0))
      have k0n := Lib.hid k0
      replace k0 : (e.f1.f0 == 0) = false := beq_eq_false_iff_ne.mpr k0
      by_cases k1 : e.f1.f0 = 1
      · have HTX4 : Hid (tx = 73 :: Lib.itoa e.f1.f1) := HTX3.out.trans (if_pos k1)
        have hln : bs.length + (1 + (Lib.itoa e.f1.f1).length) ≤ 140737488355328 := by have := HLEN.out; rw [HTX4.out, List.length_cons] at this; omega
        have HWR := Lib.hid (HP4.out.wr [73] (by simp only [List.length_cons, List.length_nil]; omega))
        have HLN := Lib.hid hln; clear hln
        replace k1 : (e.f1.f0 == 1) = true := beq_iff_eq.mpr k1
        go_upto_region 22 with (go_at_call 38; refine HWR.out.mono ?_; rintro r w5 ⟨rfl, hP5, hB5, hO5, hb5⟩; have hp5 : w5.cell? ⟨g2, 0, none⟩ = some (.pointer (some ⟨b, 0, none⟩)) := ((bkC hP5.b2 0).trans rfl))
        have hv5 := hO5 vb _ hv4 hvb (by intro c fz h; cases h); have hd1 : w5.cell? ⟨vb, 1, none⟩ = some (.int .i64 e.f1.f1) := ((bkC hv5 1).trans rfl); have hd2 : w5.cell? ⟨vb, 2, none⟩ = some (.string e.f1.f2) := ((bkC hv5 2).trans rfl)
        have HNU := Lib.hid (hP5.nu HT.out e.f1.f1 HRN.out.1 HRN.out.2 (by have := HLN.out; simp only [List.length_append, List.length_cons, List.length_nil]; omega))
        go_wp2_with (refine HNU.out.mono ?_; rintro r w6 ⟨rfl, hP6, hB6, hO6, hb6⟩; have hp6 : w6.cell? ⟨g2, 0, none⟩ = some (.pointer (some ⟨b, 0, none⟩)) := ((bkC hP6.b2 0).trans rfl))
        go_end0
        exact ⟨rfl, by rw [HTX4.out, show bs ++ 73 :: Lib.itoa e.f1.f1 = bs ++ [73] ++ Lib.itoa e.f1.f1 by simp]; exact hb6, HW4.out.trans (hB5.trans hB6), HO4.out.trans (hO5.trans hO6)⟩
      · have k1n := Lib.hid k1
        by_cases k2 : e.f1.f0 = 2
        · have HTX4 : Hid (tx = 66 :: Lib.itoa e.f1.f1) := HTX3.out.trans ((if_neg k1).trans (if_pos k2))
          have hln : bs.length + (1 + (Lib.itoa e.f1.f1).length) ≤ 140737488355328 := by have := HLEN.out; rw [HTX4.out, List.length_cons] at this; omega
          have HWR := Lib.hid (HP4.out.wr [66] (by simp only [List.length_cons, List.length_nil]; omega))
          have HLN := Lib.hid hln; clear hln
          replace k1 : (e.f1.f0 == 1) = false := beq_eq_false_iff_ne.mpr k1
          replace k2 : (e.f1.f0 == 2) = true := beq_iff_eq.mpr k2
          go_upto_region 25 with (go_at_call 38; refine HWR.out.mono ?_; rintro r w5 ⟨rfl, hP5, hB5, hO5, hb5⟩; have hp5 : w5.cell? ⟨g2, 0, none⟩ = some (.pointer (some ⟨b, 0, none⟩)) := ((bkC hP5.b2 0).trans rfl))
          have hv5 := hO5 vb _ hv4 hvb (by intro c fz h; cases h); have hd1 : w5.cell? ⟨vb, 1, none⟩ = some (.int .i64 e.f1.f1) := ((bkC hv5 1).trans rfl); have hd2 : w5.cell? ⟨vb, 2, none⟩ = some (.string e.f1.f2) := ((bkC hv5 2).trans rfl)
          have HNU := Lib.hid (hP5.nu HT.out e.f1.f1 HRN.out.1 HRN.out.2 (by have := HLN.out; simp only [List.length_append, List.length_cons, List.length_nil]; omega))
          go_wp2_with (refine HNU.out.mono ?_; rintro r w6 ⟨rfl, hP6, hB6, hO6, hb6⟩; have hp6 : w6.cell? ⟨g2, 0, none⟩ = some (.pointer (some ⟨b, 0, none⟩)) := ((bkC hP6.b2 0).trans rfl))
          go_end0
          exact ⟨rfl, by rw [HTX4.out, show bs ++ 66 :: Lib.itoa e.f1.f1 = bs ++ [66] ++ Lib.itoa e.f1.f1 by simp]; exact hb6, HW4.out.trans (hB5.trans hB6), HO4.out.trans (hO5.trans hO6)⟩
        · have HTX4 : Hid (tx = 84 :: (Lib.itoa e.f1.f2.size ++ 58 :: e.f1.f2.data.toList)) := HTX3.out.trans ((if_neg k1).trans (if_neg k2))
          have hs40 : e.f1.f2.size ≤ 40 := right_size hright k0n.out k1n.out k2
          have hds : e.f1.f2.data.toList.length = e.f1.f2.size := by rw [Array.length_toList]; rfl
          have hln : bs.length + (1 + (Lib.itoa e.f1.f2.size).length + 1 + e.f1.f2.size) ≤ 140737488355328 := by have := HLEN.out; rw [HTX4.out] at this; simp only [List.length_cons, List.length_append, hds] at this; omega
          have HWR := Lib.hid (HP4.out.wr [84] (by simp only [List.length_cons, List.length_nil]; omega))
          have HDS := Lib.hid hds; clear hds
          have HLN := Lib.hid hln; clear hln
          replace k1 : (e.f1.f0 == 1) = false := beq_eq_false_iff_ne.mpr k1
          replace k2 : (e.f1.f0 == 2) = false := beq_eq_false_iff_ne.mpr k2
          clear hright
          go_upto_region 16 with (go_at_call 38; refine HWR.out.mono ?_; rintro r w5 ⟨rfl, hP5, hB5, hO5, hb5⟩; have hp5 : w5.cell? ⟨g2, 0, none⟩ = some (.pointer (some ⟨b, 0, none⟩)) := ((bkC hP5.b2 0).trans rfl))
          have hv5 := hO5 vb _ hv4 hvb (by intro c fz h; cases h); have hd1 : w5.cell? ⟨vb, 1, none⟩ = some (.int .i64 e.f1.f1) := ((bkC hv5 1).trans rfl); have hd2 : w5.cell? ⟨vb, 2, none⟩ = some (.string e.f1.f2) := ((bkC hv5 2).trans rfl)
          have HNU := Lib.hid (hP5.nu HT.out e.f1.f2.size (by omega) (by omega) (by have := HLN.out; simp only [List.length_append, List.length_cons, List.length_nil]; omega))
          go_upto_region 17 with (refine HNU.out.mono ?_; rintro r w6 ⟨rfl, hP6, hB6, hO6, hb6⟩; have hp6 : w6.cell? ⟨g2, 0, none⟩ = some (.pointer (some ⟨b, 0, none⟩)) := ((bkC hP6.b2 0).trans rfl))
          have hv6 := hO6 vb _ hv5 hvb (by intro c fz h; cases h); have hd1 : w6.cell? ⟨vb, 1, none⟩ = some (.int .i64 e.f1.f1) := ((bkC hv6 1).trans rfl); have hd2 : w6.cell? ⟨vb, 2, none⟩ = some (.string e.f1.f2) := ((bkC hv6 2).trans rfl)
          have hcc : (⟨(58 :: e.f1.f2.data.toList).toArray⟩ : ByteArray) = ⟨#[58]⟩ ++ e.f1.f2 := by
            have h := Joins.bytes_eta (⟨#[58]⟩ ++ e.f1.f2)
            rw [Joins.data_append] at h
            exact h
          have HW2' := hP6.wr (58 :: e.f1.f2.data.toList) (by have := HLN.out; have := HDS.out; simp only [List.length_append, List.length_cons, List.length_nil]; omega)
          rw [hcc] at HW2'
          have HWS := Lib.hid HW2'
          clear HW2' hcc
          have hsz : ¬ 9223372036854775807 < 1 + e.f1.f2.size := by omega
          have hsz2 : ¬ 9223372036854775807 < e.f1.f2.size + 1 := by omega
          go_wp2_with (go_at_call 38; refine HWS.out.mono ?_; rintro r w7 ⟨rfl, hP7, hB7, hO7, hb7⟩; have hp7 : w7.cell? ⟨g2, 0, none⟩ = some (.pointer (some ⟨b, 0, none⟩)) := ((bkC hP7.b2 0).trans rfl))
          go_end0
          exact ⟨rfl, by rw [HTX4.out, show bs ++ 84 :: (Lib.itoa e.f1.f2.size ++ 58 :: e.f1.f2.data.toList) = bs ++ [84] ++ Lib.itoa e.f1.f2.size ++ 58 :: e.f1.f2.data.toList by simp]; exact hb7, HW4.out.trans (hB5.trans (hB6.trans hB7)), HO4.out.trans (hO5.trans (hO6.trans hO7))⟩
  · have HTX2 := Lib.hid (HTX.out.symm.trans (if_neg h1))
    replace h1 : (e.f0 == 1) = false := beq_eq_false_iff_ne.mpr h1
    by_cases h2 : e.f0 = 2
    · obtain ⟨r1, r2, r3, r4⟩ := HRT.out.rel h2
      have HTX3 : Hid (tx = 82 :: (Lib.itoa e.f2 ++ 46 :: Lib.itoa e.f3)) := HTX2.out.trans (if_pos h2)
      have hln : bs.length + (1 + (Lib.itoa e.f2).length + 1 + (Lib.itoa e.f3).length) ≤ 140737488355328 := by have := HLEN.out; rw [HTX3.out] at this; simp only [List.length_cons, List.length_append] at this; omega
      have HWR := Lib.hid (HP2.out.wr [82] (by simp only [List.length_cons, List.length_nil]; omega))
      have HLN := Lib.hid hln; clear hln
      replace h2 : (e.f0 == 2) = true := beq_iff_eq.mpr h2
      go_upto_region 28 with (go_at_call 38; refine HWR.out.mono ?_; rintro r w5 ⟨rfl, hP5, hB5, hO5, hb5⟩; have hp5 : w5.cell? ⟨g2, 0, none⟩ = some (.pointer (some ⟨b, 0, none⟩)) := ((bkC hP5.b2 0).trans rfl))
      clear hz0 hz1 hz2 hz3 hz4 hz5 hz6 hz7 hz8
      obtain ⟨hz0, hz1, hz2, hz3, hz4, hz5, hz6, hz7, hz8⟩ := bkC9 hP5.bg
      have HNU := Lib.hid (hP5.nu HT.out e.f2 (by omega) (by omega) (by have := HLN.out; simp only [List.length_append, List.length_cons, List.length_nil]; omega))
      go_upto_region 29 with (refine HNU.out.mono ?_; rintro r w6 ⟨rfl, hP6, hB6, hO6, hb6⟩; have hp6 : w6.cell? ⟨g2, 0, none⟩ = some (.pointer (some ⟨b, 0, none⟩)) := ((bkC hP6.b2 0).trans rfl))
      have HWR2 := Lib.hid (hP6.wr [46] (by have := HLN.out; simp only [List.length_append, List.length_cons, List.length_nil]; omega))
      go_upto_region 30 with (go_at_call 38; refine HWR2.out.mono ?_; rintro r w7 ⟨rfl, hP7, hB7, hO7, hb7⟩; have hp7 : w7.cell? ⟨g2, 0, none⟩ = some (.pointer (some ⟨b, 0, none⟩)) := ((bkC hP7.b2 0).trans rfl))
      clear hz0 hz1 hz2 hz3 hz4 hz5 hz6 hz7 hz8
      obtain ⟨hz0, hz1, hz2, hz3, hz4, hz5, hz6, hz7, hz8⟩ := bkC9 hP7.bg
      have HNU2 := Lib.hid (hP7.nu HT.out e.f3 (by omega) (by omega) (by have := HLN.out; simp only [List.length_append, List.length_cons, List.length_nil]; omega))
      go_wp2_with (refine HNU2.out.mono ?_; rintro r w8 ⟨rfl, hP8, hB8, hO8, hb8⟩; have hp8 : w8.cell? ⟨g2, 0, none⟩ = some (.pointer (some ⟨b, 0, none⟩)) := ((bkC hP8.b2 0).trans rfl))
      go_end0
      exact ⟨rfl, by rw [HTX3.out, show bs ++ 82 :: (Lib.itoa e.f2 ++ 46 :: Lib.itoa e.f3) = bs ++ [82] ++ Lib.itoa e.f2 ++ [46] ++ Lib.itoa e.f3 by simp]; exact hb8, HW2.out.trans (hB5.trans (hB6.trans (hB7.trans hB8))), HO2.out.trans (hO5.trans (hO6.trans (hO7.trans hO8)))⟩
    · have HTX3 := Lib.hid (HTX2.out.trans (if_neg h2))
      replace h2 : (e.f0 == 2) = false := beq_eq_false_iff_ne.mpr h2
      by_cases h3 : e.f0 = 3
      · obtain ⟨r1, r2⟩ := HRT.out.par h3
        have HTX4 : Hid (tx = 80 :: Lib.itoa e.f4) := HTX3.out.trans (if_pos h3)
        have hln : bs.length + (1 + (Lib.itoa e.f4).length) ≤ 140737488355328 := by have := HLEN.out; rw [HTX4.out] at this; simp only [List.length_cons] at this; omega
        have HWR := Lib.hid (HP2.out.wr [80] (by simp only [List.length_cons, List.length_nil]; omega))
        have HLN := Lib.hid hln; clear hln
        replace h3 : (e.f0 == 3) = true := beq_iff_eq.mpr h3
        go_upto_region 33 with (go_at_call 38; refine HWR.out.mono ?_; rintro r w5 ⟨rfl, hP5, hB5, hO5, hb5⟩; have hp5 : w5.cell? ⟨g2, 0, none⟩ = some (.pointer (some ⟨b, 0, none⟩)) := ((bkC hP5.b2 0).trans rfl))
        clear hz0 hz1 hz2 hz3 hz4 hz5 hz6 hz7 hz8
        obtain ⟨hz0, hz1, hz2, hz3, hz4, hz5, hz6, hz7, hz8⟩ := bkC9 hP5.bg
        have HNU := Lib.hid (hP5.nu HT.out e.f4 (by omega) (by omega) (by have := HLN.out; simp only [List.length_append, List.length_cons, List.length_nil]; omega))
        go_wp2_with (refine HNU.out.mono ?_; rintro r w6 ⟨rfl, hP6, hB6, hO6, hb6⟩; have hp6 : w6.cell? ⟨g2, 0, none⟩ = some (.pointer (some ⟨b, 0, none⟩)) := ((bkC hP6.b2 0).trans rfl))
        go_end0
        exact ⟨rfl, by rw [HTX4.out, show bs ++ 80 :: Lib.itoa e.f4 = bs ++ [80] ++ Lib.itoa e.f4 by simp]; exact hb6, HW2.out.trans (hB5.trans hB6), HO2.out.trans (hO5.trans hO6)⟩
      · have HTX4 : Hid (tx = 40 :: (Lib.itoa e.f0 ++ (textL e.f6 ++ [41]))) := HTX3.out.trans (if_neg h3)
        replace h3 : (e.f0 == 3) = false := beq_eq_false_iff_ne.mpr h3
        have hln : bs.length + (1 + (Lib.itoa e.f0).length + (textL e.f6).length + 1) ≤ 140737488355328 := by have := HLEN.out; rw [HTX4.out] at this; simp only [List.length_cons, List.length_append, List.length_nil] at this; omega
        have HWR := Lib.hid (HP2.out.wr [40] (by simp only [List.length_cons, List.length_nil]; omega))
        have HLN := Lib.hid hln; clear hln
        go_upto_region 4 with (go_at_call 38; refine HWR.out.mono ?_; rintro r w5 ⟨rfl, hP5, hB5, hO5, hb5⟩; have hp5 : w5.cell? ⟨g2, 0, none⟩ = some (.pointer (some ⟨b, 0, none⟩)) := ((bkC hP5.b2 0).trans rfl))
        clear hz0 hz1 hz2 hz3 hz4 hz5 hz6 hz7 hz8
        obtain ⟨hz0, hz1, hz2, hz3, hz4, hz5, hz6, hz7, hz8⟩ := bkC9 hP5.bg
        have HNU := Lib.hid (hP5.nu HT.out e.f0 (by omega) (by omega) (by have := HLN.out; simp only [List.length_append, List.length_cons, List.length_nil]; omega))
        go_upto_region 5 with (refine HNU.out.mono ?_; rintro r w6 ⟨rfl, hP6, hB6, hO6, hb6⟩; have hp6 : w6.cell? ⟨g2, 0, none⟩ = some (.pointer (some ⟨b, 0, none⟩)) := ((bkC hP6.b2 0).trans rfl))
        clear hz0 hz1 hz2 hz3 hz4 hz5 hz6 hz7 hz8
        obtain ⟨hz0, hz1, hz2, hz3, hz4, hz5, hz6, hz7, hz8⟩ := bkC9 hP6.bg
        have HLL : Hid (e.f6.length ≤ 2) := HRT.out.len
        obtain ⟨n, hn⟩ : ∃ n, e.f6.length = n := ⟨_, rfl⟩
        have HN := Lib.hid hn
        have hn2 : n ≤ 2 := by have h : e.f6.length ≤ 2 := HLL.out; omega
        obtain ⟨hd, hhd⟩ : ∃ hd, bs ++ [40] ++ Lib.itoa e.f0 = hd := ⟨_, rfl⟩
        rw [hhd] at hP6
        have HHD := Lib.hid hhd; clear hhd
        have HP6 := Lib.hid hP6
        have HW6 := Lib.hid (HW2.out.trans (hB5.trans hB6))
        have HO6 := Lib.hid (HO2.out.trans (hO5.trans hO6))
        clear hP5 hB5 hO5 hb5 hp5 hP6 hB6 hO6 hb6 hp2
        simp only [hn]
        go_wp2_with fail
        go_loopw [20] (fun v20 wr => ∃ (k : Nat), k ≤ n ∧ v20 = .int .i64 k ∧ Hid (PEnv w0 b g2 g e A c (hd ++ textL (e.f6.take k)) wr ∧ Below w0.heap.size w wr ∧ Oth b w wr)) (fun i _ => n - (intOf i).toNat)
        case atStart => exact ⟨0, Nat.zero_le _, rfl, Lib.hid ⟨by simpa [textL] using HP6.out, HW6.out, HO6.out⟩⟩
        case round =>
          obtain ⟨k, hk, rfl, HK⟩ := hrel
          clear hz0 hz1 hz2 hz3 hz4 hz5 hz6 hz7 hz8 hp6
          have hpr : wr.cell? ⟨g2, 0, none⟩ = some (.pointer (some ⟨b, 0, none⟩)) := (bkC HK.out.1.b2 0).trans rfl
          by_cases hlt : k < n
          · have hlt' : (k : Int) < n := by omega
            rw [hn] at HC
            obtain ⟨ad, A8, c8, x, rfl, HE, h0, h1, h2, h3, h4, h5, h6, h7, h8, hc8, hC8⟩ := at_ex HC.out hn k hlt
            replace HE := Lib.hid HE
            have HC8 := Lib.hid hC8; clear hC8
            replace h0 := pw_cell_below HK.out.1.below h0; replace h1 := pw_cell_below HK.out.1.below h1; replace h2 := pw_cell_below HK.out.1.below h2; replace h3 := pw_cell_below HK.out.1.below h3; replace h4 := pw_cell_below HK.out.1.below h4; replace h5 := pw_cell_below HK.out.1.below h5; replace h6 := pw_cell_below HK.out.1.below h6; replace h7 := pw_cell_below HK.out.1.below h7; replace h8 := pw_cell_below HK.out.1.below h8
            go_upto_region 8 with (first | ((with_reducible refine gate_dst (N := 7) rfl ?_); refine box_event rfl (N := 7) rfl (cs := zerosE) (t := 26) (by first | rfl | (go_simp; done) | (go_simp; rfl)) ?_; intro xb hgg w7 hbxb hBxb;  have hxr : wr.heap.size ≤ xb := (by omega); clear hgg) | ((with_reducible refine gate_store (p := 7) (v := .tmp 23) rfl ?_); refine wpList_store_row rfl 26 (.tmp 7) (.tmp 23) rfl xb (exC x A8 c8) rfl rfl 26 zerosE hbxb (info_ex _ _ _) rfl (one_ex _ _ _) ?_))
            have hi : k < e.f6.length := by omega
            have hxi : e.f6[k] = x := by have h := HE.out; rw [List.getElem?_eq_some_iff] at h; exact h.2
            have hx : x ∈ e.f6 := hxi ▸ List.getElem_mem hi
            have HTK : Hid (textL (e.f6.take (k + 1)) = textL (e.f6.take k) ++ 32 :: textF x) := by
              show _ = _
              rw [List.take_succ_eq_append_getElem hi, textL_snoc, hxi]
            have hlk : hd.length + (textL (e.f6.take k)).length + 1 + (textF x).length + 1 ≤ 140737488355328 := by
              have h1 := textL_le e.f6 (k + 1)
              rw [HTK.out] at h1
              have h2 := HLN.out
              have h3 := congrArg List.length HHD.out
              simp only [List.length_append, List.length_cons, List.length_nil] at h1 h3
              omega
            have HLK := Lib.hid hlk; clear hlk
            have HRX := Lib.hid (HRT.out.kid hx)
            have HGX : Hid (rngF x = true) := by
              have h := HRG.out
              rw [rngF_eq, Bool.and_eq_true] at h
              exact Lib.hid (rngL_mem h.2 hx)
            have IHX := Lib.hid (IH.out x hx)
            clear hx hxi hi HE
            clear h0 h1 h2 h3 h4 h5 h6 h7 h8
            have hx8 := setRow_at w7 xb _ zerosE (exC x A8 c8) hbxb
            have hB8 : Below wr.heap.size wr (w7.setRow xb (exC x A8 c8)) := below_setRow' hBxb hxr _
            have hxb : some xb ≠ some b := by have := HBL.out; have := HK.out.2.1.size; intro h; cases h; omega
            clear hbxb hBxb
            generalize w7.setRow xb (exC x A8 c8) = w8 at hx8 hB8 ⊢
            have HP8 := Lib.hid (HK.out.1.later hB8)
            have HW8 := Lib.hid (HK.out.2.1.trans (hB8.mono HK.out.1.below.size))
            have HO8 : Hid (Oth b w w8) := HK.out.2.2.trans (oth_of hB8)
            have HWR3 := Lib.hid (HP8.out.wr [32] (by have := HLK.out; simp only [List.length_append, List.length_cons, List.length_nil]; omega))
            have hp8 : w8.cell? ⟨g2, 0, none⟩ = some (.pointer (some ⟨b, 0, none⟩)) := (bkC HP8.out.b2 0).trans rfl
            clear hpr HK hB8
            go_upto_region 9 with (go_at_call 38; refine HWR3.out.mono ?_; rintro r w9 ⟨rfl, hP9, hB9, hO9, hb9⟩; have hp9 : w9.cell? ⟨g2, 0, none⟩ = some (.pointer (some ⟨b, 0, none⟩)) := ((bkC hP9.b2 0).trans rfl))
            have hx9 := hO9 xb _ hx8 hxb (by intro c fz h; cases h)
            obtain ⟨hz0, hz1, hz2, hz3, hz4, hz5, hz6, hz7, hz8⟩ := bkC9 hx9
            have HCALL := Lib.hid (IHX.out A8 c8 (hd ++ textL (e.f6.take k) ++ [32]) w9 HRX.out HGX.out HT.out hP9.below hP9.bd (by have := HLK.out; simp only [List.length_append, List.length_cons, List.length_nil]; omega) hc8 HC8.out)
            unfold exC at HCALL
            clear hp8 hx8
            go_wp2_with (go_at_call 103; refine HCALL.out.mono ?_; rintro r w10 ⟨rfl, hb10, hB10, hO10⟩)
            go_roundw
            case rel => exact ⟨k + 1, by omega, by go_num, Lib.hid ⟨by rw [HTK.out, show hd ++ (textL (e.f6.take k) ++ 32 :: textF x) = hd ++ textL (e.f6.take k) ++ [32] ++ textF x by simp]; exact hP9.next hb10 hB10 hO10, HW8.out.trans (hB9.trans hB10), HO8.out.trans (hO9.trans hO10)⟩⟩
            case measure => simp [intOf]; omega
          · have hlt' : ¬ (k : Int) < n := by omega
            obtain rfl : n = k := by omega
            have HK2 : Hid (PEnv w0 b g2 g e A c (hd ++ textL e.f6) wr) := by
              have h := HK.out.1
              rw [← HN.out, List.take_length] at h
              exact Lib.hid h
            have HWR3 := Lib.hid (HK2.out.wr [41] (by have h2 := HLN.out; have h3 := congrArg List.length HHD.out; simp only [List.length_append, List.length_cons, List.length_nil] at h3 ⊢; omega))
            go_wp2_with (go_at_call 38; refine HWR3.out.mono ?_; rintro r w9 ⟨rfl, hP9, hB9, hO9, hb9⟩; have hp9 : w9.cell? ⟨g2, 0, none⟩ = some (.pointer (some ⟨b, 0, none⟩)) := ((bkC hP9.b2 0).trans rfl))
            go_end0
            exact ⟨rfl, by rw [HTX4.out, show bs ++ 40 :: (Lib.itoa e.f0 ++ (textL e.f6 ++ [41])) = bs ++ [40] ++ Lib.itoa e.f0 ++ textL e.f6 ++ [41] by simp, HHD.out]; exact hb9, HK.out.2.1.trans hB9, HK.out.2.2.trans hO9⟩
theorem put_ok (w0 : World) (b : Nat) : ∀ (N : Nat) (e : Ex), SizeOf.sizeOf e < N → PutOk w0 b e := by
  intro N
  induction N with
  | zero => intro e h; omega
  | succ N ih =>
    intro e h
    refine put_step w0 b e fun x hx => ih x ?_
    have h1 := List.sizeOf_lt_of_mem hx
    have h2 : SizeOf.sizeOf e.f6 < SizeOf.sizeOf e := by cases e; simp; omega
    omega
end Go.Proofs.YtoffpegppdmkdaaGreatDoor.E
