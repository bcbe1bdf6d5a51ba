/- Contracts and plain lemmas of the functions that the law reaches, part 28. -/
import Derived.Test.YtoffpegppdmkdaaGreatDoorCP15
import Derived.Test.YtoffpegppdmkdaaGreatDoorCP26
namespace Go.Proofs.YtoffpegppdmkdaaGreatDoor.E
open Go.RowKit Go.Proofs.YtoffpegppdmkdaaGreatDoorW.PrintWords Go.Proofs.YtoffpegppdmkdaaGreatDoorW.PrintLast Go.Proofs.YtoffpegppdmkdaaGreatDoorW.PrintMore
set_option linter.unusedVariables false
set_option linter.unusedSimpArgs false
def nrT6 : Bool × List (List Nat × List Nat) := (true, [([], []), ([0], [0]), ([], []), ([2], [2]), ([], []), ([3, 4], [3, 4]), ([5], [5]), ([6], [6]), ([7], [7]), ([1, 8, 7], [1, 8]), ([0, 1, 2, 3, 4, 5, 6, 7, 8, 9], []), ([10, 9, 9, 0, 1, 2, 3, 4, 5, 6, 7, 8, 9], [9, 10])])
def nrB6 : List Nat := [0, 1, 0, 4, 0, 28, 60, 124, 252, 511, 1023, 2047]
theorem nrtab6 : rtab .any (opsOf Tryz.f60 6) = nrT6 := by kernel_rfl
theorem nrbits6 : waitsOk nrT6.2 nrB6 = true := by kernel_rfl
def nrT21 : Bool × List (List Nat × List Nat) := (true, [([], []), ([0], [0]), ([1], [1]), ([2], [2]), ([3], [3]), ([], []), ([5], [5]), ([6], [6]), ([7], [7]), ([8, 4], [8]), ([4, 9], [4, 9]), ([10, 9, 0, 1, 2, 3, 4, 5, 6, 7, 8, 9, 10], [10])])
def nrB21 : List Nat := [0, 1, 3, 7, 15, 0, 32, 96, 224, 511, 1023, 2047]
theorem nrtab21 : rtab .any (opsOf Tryz.f60 21) = nrT21 := by kernel_rfl
theorem nrbits21 : waitsOk nrT21.2 nrB21 = true := by kernel_rfl
def nrT23 : Bool × List (List Nat × List Nat) := (true, [([], []), ([0], [0]), ([1], [1]), ([2], [2]), ([], []), ([4], [4]), ([5], [5]), ([6], [6]), ([3, 7], [3, 7]), ([0, 1, 2, 3, 4, 5, 6, 7, 8], []), ([9, 8, 0, 1, 2, 3, 4, 5, 6, 7, 8], [8, 9])])
def nrB23 : List Nat := [0, 1, 3, 7, 0, 16, 48, 112, 255, 511, 1023]
theorem nrtab23 : rtab .any (opsOf Tryz.f60 23) = nrT23 := by kernel_rfl
theorem nrbits23 : waitsOk nrT23.2 nrB23 = true := by kernel_rfl
theorem below_grownN {w w1 : World} (h : w.grownBy w1 none) : Below w.heap.size w w1 := ⟨h.os, h.tape, h.output, h.size, fun i hi => h.block i hi (by simp)⟩
theorem less_lt : ∀ a b : List UInt8, Op.bytesLess a b = decide (a < b)
  | [], [] => by rw [Op.bytesLess]; exact (decide_eq_false (l_irrefl _)).symm
  | [], y :: b => by rw [Op.bytesLess]; exact (decide_eq_true (List.nil_lt_cons y b)).symm
  | x :: a, [] => by rw [Op.bytesLess]; exact (decide_eq_false (List.not_lt_nil _)).symm
  | x :: a, y :: b => by
    rw [Op.bytesLess, less_lt a b, Bool.eq_iff_iff]
    simp only [Bool.or_eq_true, Bool.and_eq_true, decide_eq_true_eq, beq_iff_eq]
    rw [List.cons_lt_cons_iff]
def setO (op : Int) (e : Ex) (xs : List Ex) : Ex := ⟨op, e.f1, e.f2, e.f3, e.f4, e.f5, xs⟩
def H2 (o : Nat) (vo : Value) (lb : Nat) (a : Ex) (Aa : Option Addr) (ca : Nat) (b : Ex) (Ab : Option Addr) (cb : Nat) (w' : World) : Prop := w'.cell? ⟨o, 8, none⟩ = some vo ∧ w'.cell? ⟨lb, 0, none⟩ = some (.int .i64 a.f0) ∧ w'.cell? ⟨lb, 1, none⟩ = some (.int .i64 a.f1.f0) ∧ w'.cell? ⟨lb, 2, none⟩ = some (.int .i64 a.f1.f1) ∧ w'.cell? ⟨lb, 3, none⟩ = some (.string a.f1.f2) ∧ w'.cell? ⟨lb, 4, none⟩ = some (.int .i64 a.f2) ∧ w'.cell? ⟨lb, 5, none⟩ = some (.int .i64 a.f3) ∧ w'.cell? ⟨lb, 6, none⟩ = some (.int .i64 a.f4) ∧ w'.cell? ⟨lb, 7, none⟩ = some (.string a.f5) ∧ w'.cell? ⟨lb, 8, none⟩ = some (.slice Aa a.f6.length ca) ∧ w'.cell? ⟨lb, 9, none⟩ = some (.int .i64 b.f0) ∧ w'.cell? ⟨lb, 10, none⟩ = some (.int .i64 b.f1.f0) ∧ w'.cell? ⟨lb, 11, none⟩ = some (.int .i64 b.f1.f1) ∧ w'.cell? ⟨lb, 12, none⟩ = some (.string b.f1.f2) ∧ w'.cell? ⟨lb, 13, none⟩ = some (.int .i64 b.f2) ∧ w'.cell? ⟨lb, 14, none⟩ = some (.int .i64 b.f3) ∧ w'.cell? ⟨lb, 15, none⟩ = some (.int .i64 b.f4) ∧ w'.cell? ⟨lb, 16, none⟩ = some (.string b.f5) ∧ w'.cell? ⟨lb, 17, none⟩ = some (.slice Ab b.f6.length cb)
theorem H2.below {o : Nat} {vo : Value} {lb : Nat} {a : Ex} {Aa : Option Addr} {ca : Nat} {b : Ex} {Ab : Option Addr} {cb : Nat} {w w1 : World} (h : H2 o vo lb a Aa ca b Ab cb w) (hb : Below w.heap.size w w1) : H2 o vo lb a Aa ca b Ab cb w1 := by
  obtain ⟨s0, s1, s2, s3, s4, s5, s6, s7, s8, s9, s10, s11, s12, s13, s14, s15, s16, s17, s18⟩ := h
  exact ⟨pw_cell_below hb s0, pw_cell_below hb s1, pw_cell_below hb s2, pw_cell_below hb s3, pw_cell_below hb s4, pw_cell_below hb s5, pw_cell_below hb s6, pw_cell_below hb s7, pw_cell_below hb s8, pw_cell_below hb s9, pw_cell_below hb s10, pw_cell_below hb s11, pw_cell_below hb s12, pw_cell_below hb s13, pw_cell_below hb s14, pw_cell_below hb s15, pw_cell_below hb s16, pw_cell_below hb s17, pw_cell_below hb s18⟩
structure CE (W : World) (g rb o : Nat) (e : Ex) (P : Option Addr) (p : Nat) (xs : List Ex) (b : Bool) (wc : World) : Prop where
  below : Below W.heap.size W wc
  br : wc.heap[rb]? = some (.cells zerosE 26 (0, 0))
  bo : wc.heap[o]? = some (.cells (exC (setO (turnF e.f0 xs).1 e xs) P p) 26 (0, 0))
  no : (b = false → (turnF e.f0 xs).2 = xs)
  yes : (b = true → ∃ x y, xs = [x, y] ∧ (turnF e.f0 xs).2 = [y, x])
  nn : Kd.N KX TX wc W.heap.size (fun k => W.heap.size ≤ k ∧ k ≠ g ∧ k ≠ rb ∧ k ≠ o) (.slice P xs.length p) xs
theorem swap_pair {op : Int} {x y : Ex} (h : turnV op ≠ 0) (h2 : turnV op ≠ op) : turnF op [x, y] = (turnV op, [y, x]) := by unfold turnF; rw [if_neg h, if_neg h2]; rfl
theorem own_pair {op : Int} {x y : Ex} (h : turnV op ≠ 0) (h2 : turnV op = op) : turnF op [x, y] = (op, if lessT y x = true then [y, x] else [x, y]) := by
  unfold turnF; rw [if_neg h, if_pos h2]
  show (if lessT y x = true then (op, [y, x]) else (op, [x, y])) = _
  split <;> rfl
theorem less_text {a b : Ex} (ha : rightB a = true) (hb : rightB b = true) : Op.bytesLess (textS a).toList (textS b).toList = lessT a b := by
  have e : ∀ c : Ex, (textS c).toList = textF c := fun c => by unfold textS; rw [ByteArray.toList_eq]
  rw [less_lt, e, e]
  unfold lessT
  rw [tl_right ha, tl_right hb]
structure RE (W : World) (g rb o : Nat) (e : Ex) (A : Option Addr) (c : Nat) (xs : List Ex) (wr : World) : Prop where
  below : Below W.heap.size W wr
  bg : wr.heap[g]? = some (.cells (exC e A c) 26 (0, 0))
  br : wr.heap[rb]? = some (.cells zerosE 26 (0, 0))
  ex : ∃ P n p, wr.heap[o]? = some (.cells #[.int .i64 e.f0, .int .i64 e.f1.f0, .int .i64 e.f1.f1, .string e.f1.f2, .int .i64 e.f2, .int .i64 e.f3, .int .i64 e.f4, .string e.f5, .slice P n p] 26 (0, 0)) ∧ n = xs.length ∧ Kd.N KX TX wr W.heap.size (fun k => W.heap.size ≤ k ∧ k ≠ g ∧ k ≠ rb ∧ k ≠ o) (.slice P n p) xs
def NRef (x : Ex) : Prop := ∀ (A : Option Addr) (c : Nat) (W : World), rightB x = true → rngF x = true → x.f6.length ≤ c → Kd.C KX W A x.f6.length x.f6 →
  Calls Tryz.prog 60 #[.agg (exC x A c)] W fun r w' => ∃ v, r = .returned (.agg #[.int .i64 (normF x).f0, .int .i64 (normF x).f1.f0, .int .i64 (normF x).f1.f1, .string (normF x).f1.f2, .int .i64 (normF x).f2, .int .i64 (normF x).f3, .int .i64 (normF x).f4, .string (normF x).f5, v]) ∧ Kd.N KX TX w' W.heap.size (fun k => W.heap.size ≤ k) v (normF x).f6 ∧ Below W.heap.size W w'
set_option maxHeartbeats 8000000 in
set_option maxRecDepth 100000 in
theorem nref_step (e : Ex) (ih : ∀ x ∈ e.f6, NRef x) : NRef e := by
  intro A c W hr hg hc hC
  have hRt := Rt.of hr
  have hl2 := hRt.len
  have hrl : rngL e.f6 = true := by rw [rngF_eq] at hg; simp only [Bool.and_eq_true] at hg; exact hg.2
  have HIH : Hid (∀ x ∈ e.f6, NRef x ∧ rightB x = true ∧ rngF x = true) := Lib.hid (fun x hx => ⟨ih x hx, right_kid hr hx, rngL_mem hrl hx⟩)
  obtain ⟨n, hn⟩ : ∃ n, e.f6.length = n := ⟨_, rfl⟩
  have HC := Lib.hid hC
  have HR := Lib.hid hr
  clear hC ih hrl hg hr hRt
  rw [hn] at hl2
  have HNn := Lib.hid hn; clear hn
  unfold exC
  go_enter Tryz.func60, Tryz.ntmps60
  go_upto_region 1 with (first | ((with_reducible refine gate_dst (N := 1) rfl ?_); refine box_event rfl (N := 1) rfl (cs := exC e A c) (t := 26) (by first | rfl | (go_simp; done) | (go_simp; rfl)) ?_; intro g hgg w1 hbg hBg;  have hgw : W.heap.size ≤ g := (by omega); have HG := Lib.hid hbg; have HB1 := Lib.hid hBg; clear hgg hbg hBg) | ((with_reducible refine gate_dst (N := 2) rfl ?_); refine box_event rfl (N := 2) rfl (cs := zerosE) (t := 26) (by first | rfl | (go_simp; done) | (go_simp; rfl)) ?_; intro rb hgg w2 hbrb hBrb;  have hrw : w1.heap.size ≤ rb := (by omega); have HR2 := Lib.hid hbrb; have HB2 := Lib.hid hBrb; clear hgg hbrb hBrb))
  have hgr : g < rb := by have := blk_lt HG.out; omega
  have HG2 := Lib.hid ((HB2.out.block g (blk_lt HG.out)).trans HG.out)
  have HB02 := Lib.hid (HB1.out.trans (HB2.out.mono HB1.out.size))
  clear HG HB1 HB2
  obtain ⟨hz0, hz1, hz2, hz3, hz4, hz5, hz6, hz7, hz8⟩ := bkC9 HG2.out
  go_upto_region 2 with (first | ((with_reducible refine gate_dst (N := 3) rfl ?_); refine box_event rfl (N := 3) rfl (cs := zerosE) (t := 26) (by first | rfl | (go_simp; done) | (go_simp; rfl)) ?_; intro o hgg w3 hbo hBo;  have how : w2.heap.size ≤ o := (by omega); clear hgg) | ((with_reducible refine gate_store (p := 3) (v := .tmp 6) rfl ?_); refine wpList_store_row rfl 26 (.tmp 3) (.tmp 6) rfl o (exC e A c) rfl rfl 26 zerosE hbo (info_ex _ _ _) rfl (one_ex _ _ _) ?_))
  have hro : rb < o := by have := blk_lt HR2.out; omega
  have ho4 := setRow_at w3 o _ zerosE (exC e A c) hbo
  have hB24 : Below w2.heap.size w2 (w3.setRow o (exC e A c)) := below_setRow' hBo how _
  clear hbo hBo
  generalize w3.setRow o (exC e A c) = w4 at ho4 hB24 ⊢
  have HG4 := Lib.hid ((hB24.block g (blk_lt HG2.out)).trans HG2.out)
  have HR4 := Lib.hid ((hB24.block rb (blk_lt HR2.out)).trans HR2.out)
  have HB4 := Lib.hid (HB02.out.trans (hB24.mono HB02.out.size))
  have HO4 := Lib.hid ho4
  clear ho4 hB24 HG2 HR2 HB02 hz0 hz1 hz2 hz3 hz4 hz5 hz6 hz7 hz8
  have hz8 : w4.cell? ⟨o, 8, none⟩ = some (.slice A e.f6.length c) := (bkC HO4.out 8).trans rfl
  have hzf := bkF HO4.out 8
  go_upto_region 4 with fail
  have hgo : W.heap.size ≤ o := by omega
  have hgrW : W.heap.size ≤ rb := by omega
  have HRE : Hid (RE W g rb o e A c (([] : List Ex).map normF) (w4.setCell ⟨o, 8, none⟩ (.slice none 0 0))) := Lib.hid ⟨HB4.out.setCell (p := ⟨o, 8, none⟩) hgo _, blk_far HG4.out (show g ≠ (⟨o, 8, none⟩ : Addr).block from by show g ≠ o; omega) _, blk_far HR4.out (show rb ≠ (⟨o, 8, none⟩ : Addr).block from by show rb ≠ o; omega) _, none, 0, 0, blk_set HO4.out 8 _, rfl, Kd.N_nil _ _ _ _ _⟩
  generalize w4.setCell ⟨o, 8, none⟩ (.slice none 0 0) = w5 at HRE ⊢
  clear hz8 hzf HG4 HR4 HB4 HO4 how hrw
  rw [HNn.out] at hc
  go_loopw [4] (fun v4 wr => ∃ j : Nat, j ≤ n ∧ v4 = .int .i64 j ∧ Hid (RE W g rb o e A c ((e.f6.take j).map normF) wr)) (fun i _ => n - (intOf i).toNat)
  case atStart => exact ⟨0, Nat.zero_le _, rfl, HRE⟩
  case round =>
    obtain ⟨j, hj, rfl, HJ⟩ := hrel
    have hz8 : wr.cell? ⟨g, 8, none⟩ = some (.slice A n c) := (bkC HJ.out.bg 8).trans (by unfold exC; rw [HNn.out]; rfl)
    by_cases hlt : j < n
    · have hlt' : (j : Int) < n := by omega
      obtain ⟨ad, A8, c8, x, rfl, HE, h0, h1, h2, h3, h4, h5, h6, h7, h8, hc8, hC8⟩ := at_ex HC.out rfl j (by rw [HNn.out]; exact hlt)
      have hmem : x ∈ e.f6 := List.mem_of_getElem? HE
      obtain ⟨hin, hir, hig⟩ := HIH.out x hmem
      replace HE := Lib.hid HE
      have HIN := Lib.hid (fun (w2 : World) (hB : Below W.heap.size W w2) => hin A8 c8 w2 hir hig hc8 (Kd.C_below hC8 hB))
      clear hmem hin hir hig hC8 hc8
      go_upto_region 6 with fail
      have HGd : Hid (wr.drew.heap[g]? = some (.cells (exC e (some ad) c) 26 (0, 0))) := Lib.hid HJ.out.bg
      have HRd : Hid (wr.drew.heap[rb]? = some (.cells zerosE 26 (0, 0))) := Lib.hid HJ.out.br
      obtain ⟨P, m, p, hod, hm, hNd⟩ := HJ.out.ex
      have HOd : Hid (wr.drew.heap[o]? = some (.cells #[.int .i64 e.f0, .int .i64 e.f1.f0, .int .i64 e.f1.f1, .string e.f1.f2, .int .i64 e.f2, .int .i64 e.f3, .int .i64 e.f4, .string e.f5, .slice P m p] 26 (0, 0))) := Lib.hid hod
      obtain ⟨xs, hxs⟩ : ∃ xs, (e.f6.take j).map normF = xs := ⟨_, rfl⟩
      rw [hxs] at hm hNd
      subst hm
      have hxl : xs.length ≤ 2 := by rw [← hxs, List.length_map, List.length_take]; omega
      have HXS := Lib.hid hxs
      have HNd : Hid (Kd.N KX TX wr.drew W.heap.size (fun k => W.heap.size ≤ k ∧ k ≠ g ∧ k ≠ rb ∧ k ≠ o) (.slice P xs.length p) xs) := Lib.hid (Kd.N_drew hNd)
      have HBd : Hid (Below W.heap.size W wr.drew) := Lib.hid (below_drew HJ.out.below)
      clear hod hNd hxs
      have HCL := HIN.out wr.drew HBd.out
      obtain ⟨y, hy⟩ : ∃ y, normF x = y := ⟨_, rfl⟩
      rw [hy] at HCL
      have HY := Lib.hid hy
      have HCL := Lib.hid HCL
      have gd : g < wr.drew.heap.size := blk_lt HGd.out
      have rd' : rb < wr.drew.heap.size := blk_lt HRd.out
      have od : o < wr.drew.heap.size := blk_lt HOd.out
      have hWd : W.heap.size ≤ wr.drew.heap.size := HBd.out.size
      clear hy HIN
      unfold exC at HCL
      refine start_ (n := 12) (S := fun w' => w'.cell? ⟨o, 8, none⟩ = some (.slice P xs.length p) ∧ w'.cell? ⟨g, 8, none⟩ = some (.slice (some ad) n c) ∧ w'.cell? (ad.add (j * 9)) = some (.int .i64 x.f0) ∧ w'.cell? ⟨(ad.add (j * 9)).block, (ad.add (j * 9)).off + 1, none⟩ = some (.int .i64 x.f1.f0) ∧ w'.cell? ⟨(ad.add (j * 9)).block, (ad.add (j * 9)).off + 2, none⟩ = some (.int .i64 x.f1.f1) ∧ w'.cell? ⟨(ad.add (j * 9)).block, (ad.add (j * 9)).off + 3, none⟩ = some (.string x.f1.f2) ∧ w'.cell? ⟨(ad.add (j * 9)).block, (ad.add (j * 9)).off + 4, none⟩ = some (.int .i64 x.f2) ∧ w'.cell? ⟨(ad.add (j * 9)).block, (ad.add (j * 9)).off + 5, none⟩ = some (.int .i64 x.f3) ∧ w'.cell? ⟨(ad.add (j * 9)).block, (ad.add (j * 9)).off + 6, none⟩ = some (.int .i64 x.f4) ∧ w'.cell? ⟨(ad.add (j * 9)).block, (ad.add (j * 9)).off + 7, none⟩ = some (.string x.f5) ∧ w'.cell? ⟨(ad.add (j * 9)).block, (ad.add (j * 9)).off + 8, none⟩ = some (.slice A8 x.f6.length c8)) (ds := [11]) #[false, false, false, false, false, false, false, false, false, false, false, false] (by kernel_rfl) rfl rfl ⟨(bkC HOd.out 8).trans rfl, hz8, pw_cell_below HBd.out h0, pw_cell_below HBd.out h1, pw_cell_below HBd.out h2, pw_cell_below HBd.out h3, pw_cell_below HBd.out h4, pw_cell_below HBd.out h5, pw_cell_below HBd.out h6, pw_cell_below HBd.out h7, pw_cell_below HBd.out h8⟩ (fun hHeld => ?_); refine with_tabW nrtab6 nrbits6 (fun HT_ HW_ => ?_)
      generalize wr.drew = wd at HGd HRd HOd HNd HBd HCL gd rd' od hWd hHeld ⊢
      refine pure_ (i := 0) (N := some 15) (v := ?_) (a' := ?_) #[true, false, false, false, false, false, false, false, false, false, false, false] rfl rfl (any_of HT_.out (by kernel_rfl)) (fun _ _ _ h => h) (Or.inl ⟨by rfl, ?_⟩) ?_ ?_
      rotate_left
      · intro w'
        go_simp
        with_reducible rfl
      rotate_left
      · simp only [Act.put, List.setIfInBounds_toArray, List.set_cons_zero, List.set_cons_succ, i64_w, i32_w]
        rfl
      refine pure_ (i := 2) (N := some 17) (v := ?_) (a' := ?_) #[true, false, true, false, false, false, false, false, false, false, false, false] rfl rfl (any_of HT_.out (by kernel_rfl)) (fun _ _ _ h => h) (Or.inl ⟨by rfl, ?_⟩) ?_ ?_
      rotate_left
      · intro w'
        go_simp
        with_reducible rfl
      rotate_left
      · simp only [Act.put, List.setIfInBounds_toArray, List.set_cons_zero, List.set_cons_succ, i64_w, i32_w]
        rfl
      refine pure_ (i := 4) (N := some 19) (v := ?_) (a' := ?_) #[true, false, true, false, true, false, false, false, false, false, false, false] rfl rfl (any_of HT_.out (by kernel_rfl)) (fun _ _ _ h => h) (Or.inl ⟨by rfl, ?_⟩) ?_ ?_
      rotate_left
      · intro w'
        go_simp
        with_reducible rfl
      rotate_left
      · simp only [Act.put, List.setIfInBounds_toArray, List.set_cons_zero, List.set_cons_succ, i64_w, i32_w]
        rfl
      refine take_ (i := 1) (N := some 16) (v := ?_) (a' := ?_) #[true, true, true, false, true, false, false, false, false, false, false, false] rfl rfl (take_ofW HT_.out HW_.out (by kernel_rfl)) (fun _ _ _ h => h) (Or.inl ⟨by rfl, ?_⟩) hHeld ?_ ?_
      rotate_left
      · rintro w' ⟨s0, s1, s2, s3, s4, s5, s6, s7, s8, s9, s10⟩
        go_simp
        with_reducible rfl
      rotate_left
      · simp only [Act.put, List.setIfInBounds_toArray, List.set_cons_zero, List.set_cons_succ, i64_w, i32_w]
        rfl
      refine take_ (i := 3) (N := some 18) (v := ?_) (a' := ?_) #[true, true, true, true, true, false, false, false, false, false, false, false] rfl rfl (take_ofW HT_.out HW_.out (by kernel_rfl)) (fun _ _ _ h => h) (Or.inl ⟨by rfl, ?_⟩) hHeld ?_ ?_
      rotate_left
      · rintro w' ⟨s0, s1, s2, s3, s4, s5, s6, s7, s8, s9, s10⟩
        go_simp
        with_reducible rfl
      rotate_left
      · simp only [Act.put, List.setIfInBounds_toArray, List.set_cons_zero, List.set_cons_succ, i64_w, i32_w]
        rfl
      refine pure_ (i := 5) (N := some 20) (v := ?_) (a' := ?_) #[true, true, true, true, true, true, false, false, false, false, false, false] rfl rfl (any_of HT_.out (by kernel_rfl)) (fun _ _ _ h => h) (Or.inl ⟨by rfl, ?_⟩) ?_ ?_
      rotate_left
      · intro w'
        go_simp
        with_reducible rfl
      rotate_left
      · simp only [Act.put, List.setIfInBounds_toArray, List.set_cons_zero, List.set_cons_succ, i64_w, i32_w]
        rfl
      refine take_ (i := 6) (N := some 21) (v := ?_) (a' := ?_) #[true, true, true, true, true, true, true, false, false, false, false, false] rfl rfl (take_ofW HT_.out HW_.out (by kernel_rfl)) (fun _ _ _ h => h) (Or.inl ⟨by rfl, ?_⟩) hHeld ?_ ?_
      rotate_left
      · rintro w' ⟨s0, s1, s2, s3, s4, s5, s6, s7, s8, s9, s10⟩
        go_simp
        with_reducible rfl
      rotate_left
      · simp only [Act.put, List.setIfInBounds_toArray, List.set_cons_zero, List.set_cons_succ, i64_w, i32_w]
        rfl
      refine one_ (i := 7) (N := some 22) #[true, true, true, true, true, true, true, true, false, false, false, false] rfl rfl (one_of HT_.out (by kernel_rfl)) (by decide) (fun K hK => ?_)
      refine goes_ Tryz.func60 (by kernel_rfl) rfl #[.agg #[.int .i64 x.f0, .int .i64 x.f1.f0, .int .i64 x.f1.f1, .string x.f1.f2, .int .i64 x.f2, .int .i64 x.f3, .int .i64 x.f4, .string x.f5, .slice A8 x.f6.length c8]] (by rfl) rfl rfl (by (try simp only [List.map_toArray, List.map_cons, List.map_nil]); first | done | rfl) ?_
      refine HCL.out.mono ?_
      rintro rr w18 ⟨v, rfl, hN18, hB18⟩
      obtain ⟨D, kk, rfl, hkk, -⟩ := Kd.N_reads hN18
      refine ⟨_, rfl, ?_⟩
      have HN18 := Lib.hid hN18; have HB18 := Lib.hid hB18; clear hN18 hB18; have h18 : wd.heap.size ≤ w18.heap.size := HB18.out.size
      refine hK.out _ _ ⟨pw_cell_below HB18.out hHeld.1, pw_cell_below HB18.out hHeld.2.1, pw_cell_below HB18.out hHeld.2.2.1, pw_cell_below HB18.out hHeld.2.2.2.1, pw_cell_below HB18.out hHeld.2.2.2.2.1, pw_cell_below HB18.out hHeld.2.2.2.2.2.1, pw_cell_below HB18.out hHeld.2.2.2.2.2.2.1, pw_cell_below HB18.out hHeld.2.2.2.2.2.2.2.1, pw_cell_below HB18.out hHeld.2.2.2.2.2.2.2.2.1, pw_cell_below HB18.out hHeld.2.2.2.2.2.2.2.2.2.1, pw_cell_below HB18.out hHeld.2.2.2.2.2.2.2.2.2.2⟩ (fun hHeld => ?_)
      clear hK K
      refine norm_ (a' := ?_) ?_ ?_
      rotate_left
      · show Act.put _ (some 22) _ = _
        simp only [Act.put, List.setIfInBounds_toArray, List.set_cons_zero, List.set_cons_succ, i64_w, i32_w]
        rfl
      refine one_ (i := 8) (N := some 23) #[true, true, true, true, true, true, true, true, true, false, false, false] rfl rfl (one_of HT_.out (by kernel_rfl)) (by decide) (fun K hK => ?_)
      refine value_ (w1 := ?_) (v := ?_) (by rfl) rfl ?_ ?_
      rotate_left 2
      · go_simp
        constructor
        · rfl
        · rfl
      have HA_ := Lib.hid (blA (Below.refl w18.heap.size w18) (.cells #[.int .i64 y.f0, .int .i64 y.f1.f0, .int .i64 y.f1.f1, .string y.f1.f2, .int .i64 y.f2, .int .i64 y.f3, .int .i64 y.f4, .string y.f5, .slice D y.f6.length kk] 26 (0, 0)))
      refine hK.out _ _ ⟨pw_cell_below HA_.out hHeld.1, pw_cell_below HA_.out hHeld.2.1, pw_cell_below HA_.out hHeld.2.2.1, pw_cell_below HA_.out hHeld.2.2.2.1, pw_cell_below HA_.out hHeld.2.2.2.2.1, pw_cell_below HA_.out hHeld.2.2.2.2.2.1, pw_cell_below HA_.out hHeld.2.2.2.2.2.2.1, pw_cell_below HA_.out hHeld.2.2.2.2.2.2.2.1, pw_cell_below HA_.out hHeld.2.2.2.2.2.2.2.2.1, pw_cell_below HA_.out hHeld.2.2.2.2.2.2.2.2.2.1, pw_cell_below HA_.out hHeld.2.2.2.2.2.2.2.2.2.2⟩ (fun hHeld => ?_)
      clear hK K
      refine norm_ (a' := ?_) ?_ ?_
      rotate_left
      · show Act.put _ (some 23) _ = _
        simp only [Act.put, List.setIfInBounds_toArray, List.set_cons_zero, List.set_cons_succ, i64_w, i32_w]
        rfl
      clear HA_
      refine one_ (i := 9) (N := some 24) #[true, true, true, true, true, true, true, true, true, true, false, false] rfl rfl (one_of HT_.out (by kernel_rfl)) (by decide) (fun K hK => ?_)
      have HFK := Lib.hid (k26_mkF w18 _ y hkk (Kd.F_mono (Kd.F_bound (Kd.N_F HN18.out)) (fun b hb => (hb : wd.heap.size ≤ b ∧ b < w18.heap.size))))
      refine Kd.N_append_step KX (w0 := W) W.heap.size (by rfl) (.tmp 16) (.tmp 23) 24 26 (.agg #[(.int .i64 0), (.int .i64 0), (.int .i64 0), (.string ⟨#[]⟩), (.int .i64 0), (.int .i64 0), (.int .i64 0), (.string ⟨#[]⟩), (.slice none 0 0)]) 104 rfl Tryz.underlying24 info26 rfl (by decide) (by omega) (.slice P xs.length p) xs y [.int .i64 y.f0, .int .i64 y.f1.f0, .int .i64 y.f1.f1, .string y.f1.f2, .int .i64 y.f2, .int .i64 y.f3, .int .i64 y.f4, .string y.f5, .slice D y.f6.length kk] (fun k => W.heap.size ≤ k ∧ k ≠ g ∧ k ≠ rb ∧ k ≠ o) (fun b => wd.heap.size ≤ b ∧ b < w18.heap.size) rfl rfl HFK.out ?aK ?aF ?aO ?aB ?aS ?aL ?_
      (case aK => exact (fun b hb => ⟨⟨by have := hWd; omega, by omega, by omega, by omega⟩, fun he => by have h1 := Kd.N_lt HNd.out b he.symm; omega⟩))
      (case aF => exact (fun b hb => ⟨by omega, by omega, by omega, by omega⟩))
      (case aO => exact Kd.N_below HNd.out HB18.out)
      (case aB => exact HBd.out.trans (HB18.out.mono hWd))
      (case aS => omega)
      (case aL => omega)
      intro v1 w19 ho hb hg hat
      obtain ⟨P2, p2, rfl⟩ := Kd.N_slice ho
      have HOg : some g ≠ (Value.slice P xs.length p).ownBlock := Kd.N_away HNd.out (fun k hk => hk.2.1)
      have HOr : some rb ≠ (Value.slice P xs.length p).ownBlock := Kd.N_away HNd.out (fun k hk => hk.2.2.1)
      have HOo : some o ≠ (Value.slice P xs.length p).ownBlock := Kd.N_away HNd.out (fun k hk => hk.2.2.2)
      have HG19 := Lib.hid (blk_grown (blk_below HGd.out HB18.out) hg HOg)
      have HR19 := Lib.hid (blk_grown (blk_below HRd.out HB18.out) hg HOr)
      have HO19 := Lib.hid (blk_grown (blk_below HOd.out HB18.out) hg HOo)
      have HN19 := Lib.hid ho; have HB19 := Lib.hid hb; clear ho hb hg hat
      refine hK.out _ _ ⟨(bkC HO19.out 8).trans rfl, (bkC HG19.out 8).trans (by unfold exC; rw [HNn.out]; rfl), pw_cell_below HB19.out h0, pw_cell_below HB19.out h1, pw_cell_below HB19.out h2, pw_cell_below HB19.out h3, pw_cell_below HB19.out h4, pw_cell_below HB19.out h5, pw_cell_below HB19.out h6, pw_cell_below HB19.out h7, pw_cell_below HB19.out h8⟩ (fun hHeld => ?_)
      clear hK K
      refine norm_ (a' := ?_) ?_ ?_
      rotate_left
      · show Act.put _ (some 24) _ = _
        simp only [Act.put, List.setIfInBounds_toArray, List.set_cons_zero, List.set_cons_succ, i64_w, i32_w]
        rfl
      refine pure_ (i := 10) (N := some 25) (v := ?_) (a' := ?_) #[true, true, true, true, true, true, true, true, true, true, true, false] rfl rfl (any_of HT_.out (by kernel_rfl)) (fun _ _ _ h => h) (Or.inl ⟨by rfl, ?_⟩) ?_ ?_
      rotate_left
      · intro w'
        go_simp
        with_reducible rfl
      rotate_left
      · simp only [Act.put, List.setIfInBounds_toArray, List.set_cons_zero, List.set_cons_succ, i64_w, i32_w]
        rfl
      refine last_ (i := 11) (N := none) #[true, true, true, true, true, true, true, true, true, true, true, true] rfl rfl (one_of HT_.out (by kernel_rfl)) (by decide) (fun K hK => ?_)
      have hs22 : w19.cell? ⟨o, 8, none⟩ = some (.slice P xs.length p) := (bkC HO19.out 8).trans rfl
      have hfs22 := bkF HO19.out 8
      refine skip_ (w1 := ?_) (by rfl) rfl ?_ ?_
      rotate_left
      · go_simp
        rfl
      refine hK.out _ _ ?_
      clear hK K hHeld hs22 hfs22
      refine done_ (done_of HT_.out (by kernel_rfl)) ?_
      clear HT_ HW_ h0 h1 h2 h3 h4 h5 h6 h7 h8
      have HRE2 : Hid (RE W g rb o e (some ad) c (xs ++ [y]) (w19.setCell ⟨o, 8, none⟩ (.slice P2 (xs ++ [y]).length p2))) := Lib.hid ⟨HB19.out.setCell (p := ⟨o, 8, none⟩) hgo _, blk_far HG19.out (show g ≠ (⟨o, 8, none⟩ : Addr).block from by show g ≠ o; omega) _, blk_far HR19.out (show rb ≠ (⟨o, 8, none⟩ : Addr).block from by show rb ≠ o; omega) _, P2, _, p2, blk_set HO19.out 8 _, rfl, Kd.N_far HN19.out (p := ⟨o, 8, none⟩) (fun k hk => hk.2.2.2) _⟩
      go_wp2_with fail
      go_roundw
      case rel =>
        refine ⟨j + 1, by omega, by go_num, ?_⟩
        have h2 : e.f6.take (j + 1) = e.f6.take j ++ [x] := by rw [List.take_add_one, HE.out]; rfl
        rw [h2, List.map_append, HXS.out]
        have h3 : [x].map normF = [y] := by rw [← HY.out]; rfl
        rw [h3]
        have h5 := HRE2
        rw [show (xs ++ [y]).length = xs.length + 1 from by simp] at h5
        exact h5
      case measure => simp [intOf]; omega
    · have hlt' : ¬ (j : Int) < n := by omega
      obtain rfl : n = j := by omega
      have htk : e.f6.take n = e.f6 := List.take_of_length_le (by rw [HNn.out]; exact Nat.le_refl _)
      rw [htk] at HJ
      clear htk
      obtain ⟨P, m, p, hod, hm, hNd⟩ := HJ.out.ex
      obtain ⟨xs, hxs⟩ : ∃ xs, e.f6.map normF = xs := ⟨_, rfl⟩
      rw [hxs] at hm hNd
      subst hm
      have HXR : Hid (∀ z ∈ xs, rightB z = true ∧ prB z = true) := Lib.hid (fun z hz => by
        rw [← hxs] at hz
        obtain ⟨u, hu, rfl⟩ := List.mem_map.1 hz
        have h := HIH.out u hu
        exact ⟨right_norm h.2.1, prB_of (right_norm h.2.1) (norm_rng h.2.2)⟩)
      have HNF : Hid (normF e = setO (turnF e.f0 xs).1 e (turnF e.f0 xs).2) := Lib.hid (by rw [normF_eq, hxs]; rfl)
      have HTW : Hid (turnV e.f0 ≠ 0 → ∃ x y, xs = [x, y]) := Lib.hid (fun h => by
        have h1 := turnV_two (Rt.of HR.out) h
        exact list_two (by rw [← hxs, List.length_map]; exact h1))
      have HNd := Lib.hid hNd; have HOd := Lib.hid hod; have HRd := Lib.hid HJ.out.br; have HBd := Lib.hid HJ.out.below
      clear hod hNd hxs HIH HC HJ
      have hz0 : wr.cell? ⟨o, 0, none⟩ = some (.int .i64 e.f0) := (bkC HOd.out 0).trans rfl
      go_upto_block 2 with fail
      go_cut [5] from 28 to 51 (fun v5 wc => ∃ b : Bool, v5 = .bool b ∧ Hid (CE W g rb o e P p xs b wc))
      case first =>
        clear hz8
        by_cases hz : turnV e.f0 = 0
        · have ht : turnF e.f0 xs = (e.f0, xs) := by unfold turnF; rw [if_pos hz]
          have hall : ∀ k : Int, k = 13 ∨ k = 14 ∨ k = 4 ∨ k = 6 ∨ k = 9 ∨ k = 10 ∨ k = 15 ∨ k = 16 → (e.f0 == k) = false := by
            intro k hk
            rw [beq_eq_false_iff_ne]
            intro h1
            rw [h1] at hz
            rcases hk with rfl | rfl | rfl | rfl | rfl | rfl | rfl | rfl <;> exact absurd hz (by decide)
          have b13 := hall 13 (by decide); have b14 := hall 14 (by decide); have b4 := hall 4 (by decide); have b6 := hall 6 (by decide); have b9 := hall 9 (by decide); have b10 := hall 10 (by decide); have b15 := hall 15 (by decide); have b16 := hall 16 (by decide)
          have HCE : Hid (CE W g rb o e P p xs false wr) := Lib.hid ⟨HBd.out, HRd.out, by rw [ht]; exact HOd.out, fun _ => by rw [ht], (fun h => by cases h), HNd.out⟩
          clear hall hz ht
          go_wp2_with fail
          go_meet
          exact ⟨false, rfl, HCE⟩
        · obtain ⟨x, y, rfl⟩ := HTW.out hz
          rcases turnV_op e.f0 hz with ⟨h0, hv⟩ | ⟨h0, hv⟩ | ⟨h0, h2⟩
          · have ht := swap_pair (x := x) (y := y) hz (by rw [hv, h0]; decide); rw [hv] at ht; have hf0 := bkF HOd.out 0; have HCE : Hid (CE W g rb o e P p [x, y] true (wr.setCell ⟨o, 0, none⟩ (.int .i64 11))) := Lib.hid ⟨HBd.out.setCell (p := ⟨o, 0, none⟩) hgo _, blk_far HRd.out (show rb ≠ (⟨o, 0, none⟩ : Addr).block from (by show rb ≠ o; omega)) _, (by rw [ht]; exact blk_set HOd.out 0 _), (fun h => by cases h), (fun _ => ⟨x, y, rfl, by rw [ht]⟩), Kd.N_far HNd.out (p := ⟨o, 0, none⟩) (fun k hk => hk.2.2.2) _⟩
            have b13 : (e.f0 == 13) = true := beq_iff_eq.mpr h0
            clear h0 hv hz ht
            go_wp2_with fail
            go_meet
            exact ⟨true, rfl, HCE⟩
          · have ht := swap_pair (x := x) (y := y) hz (by rw [hv, h0]; decide); rw [hv] at ht; have hf0 := bkF HOd.out 0; have HCE : Hid (CE W g rb o e P p [x, y] true (wr.setCell ⟨o, 0, none⟩ (.int .i64 12))) := Lib.hid ⟨HBd.out.setCell (p := ⟨o, 0, none⟩) hgo _, blk_far HRd.out (show rb ≠ (⟨o, 0, none⟩ : Addr).block from (by show rb ≠ o; omega)) _, (by rw [ht]; exact blk_set HOd.out 0 _), (fun h => by cases h), (fun _ => ⟨x, y, rfl, by rw [ht]⟩), Kd.N_far HNd.out (p := ⟨o, 0, none⟩) (fun k hk => hk.2.2.2) _⟩
            have b13 : (e.f0 == 13) = false := by rw [h0]; rfl
            have b14 : (e.f0 == 14) = true := beq_iff_eq.mpr h0
            clear h0 hv hz ht
            go_wp2_with fail
            go_meet
            exact ⟨true, rfl, HCE⟩
          · have ht := own_pair (x := x) (y := y) hz h2
            obtain ⟨hxr, hxp⟩ := HXR.out x (by simp)
            obtain ⟨hyr, hyp⟩ := HXR.out y (by simp)
            have HLS := Lib.hid (less_text hyr hxr)
            obtain ⟨lb, cap, hsl, hlb, hlbs, _⟩ := Kd.N_form HNd.out (by simp)
            obtain ⟨rfl, rfl⟩ : P = some ⟨lb, 0, none⟩ ∧ p = cap := by injection hsl with e1 _ e3; exact ⟨e1, e3⟩
            have hC5 := (Kd.N_reads' HNd.out).2.2
            obtain ⟨ad, Ax, cx, x', had, HE, s0, s1, s2, s3, s4, s5, s6, s7, s8, hcx, hCx⟩ := at_ex hC5 rfl 0 (by simp)
            obtain rfl : x = x' := Option.some.inj HE
            obtain rfl := Option.some.inj had
            clear HE had
            obtain ⟨ad, Ay, cy, y', had, HE, t0, t1, t2, t3, t4, t5, t6, t7, t8, hcy, hCy⟩ := at_ex hC5 rfl 1 (by simp)
            obtain rfl : y = y' := Option.some.inj HE
            obtain rfl := Option.some.inj had
            have HH : Hid (H2 o (.slice (some ⟨lb, 0, none⟩) 2 p) lb x Ax cx y Ay cy wr.drew) := Lib.hid ⟨(bkC HOd.out 8).trans rfl, s0, s1, s2, s3, s4, s5, s6, s7, s8, t0, t1, t2, t3, t4, t5, t6, t7, t8⟩
            have HPX : Hid (∀ W2, Below wr.heap.size wr W2 → Calls Tryz.prog 81 #[.agg #[.int .i64 x.f0, .int .i64 x.f1.f0, .int .i64 x.f1.f1, .string x.f1.f2, .int .i64 x.f2, .int .i64 x.f3, .int .i64 x.f4, .string x.f5, .slice Ax x.f6.length cx]] W2 fun r w' => r = .returned (.string (textS x)) ∧ Below W2.heap.size W2 w') := Lib.hid (fun W2 hW => q08_Print.calls x.f0 x.f1.f0 x.f1.f1 x.f1.f2 x.f2 x.f3 x.f4 x.f5 Ax cx x.f6 _ W2 (Kd.C_below hCx hW) hcx (print_f hxp))
            have HPY : Hid (∀ W2, Below wr.heap.size wr W2 → Calls Tryz.prog 81 #[.agg #[.int .i64 y.f0, .int .i64 y.f1.f0, .int .i64 y.f1.f1, .string y.f1.f2, .int .i64 y.f2, .int .i64 y.f3, .int .i64 y.f4, .string y.f5, .slice Ay y.f6.length cy]] W2 fun r w' => r = .returned (.string (textS y)) ∧ Below W2.heap.size W2 w') := Lib.hid (fun W2 hW => q08_Print.calls y.f0 y.f1.f0 y.f1.f1 y.f1.f2 y.f2 y.f3 y.f4 y.f5 Ay cy y.f6 _ W2 (Kd.C_below hCy hW) hcy (print_f hyp))
            have HBc := Lib.hid (below_drew (Below.refl wr.heap.size wr))
            have HCE : Hid (∀ wc, Below wr.heap.size wr wc → CE W g rb o e (some ⟨lb, 0, none⟩) p [x, y] (lessT y x) wc) := Lib.hid (fun wc hB => ⟨HBd.out.trans (hB.mono HBd.out.size), blk_below HRd.out hB, by rw [ht]; exact blk_below HOd.out hB, (fun h => by rw [ht, h]; rfl), (fun h => ⟨x, y, rfl, by rw [ht, h]; rfl⟩), Kd.N_below HNd.out hB⟩)
            clear hC5 hCx hCy hcx hcy hxp hyp hxr hyr s0 s1 s2 s3 s4 s5 s6 s7 s8 t0 t1 t2 t3 t4 t5 t6 t7 t8 HE had hsl ht hz h2
            generalize textS x = tx at HPX HLS
            generalize textS y = ty at HPY HLS
            rcases h0 with h0 | h0 | h0 | h0 | h0 | h0
            have b13 : (e.f0 == 13) = false := (by rw [h0]; rfl); have b14 : (e.f0 == 14) = false := (by rw [h0]; rfl); have b4 : (e.f0 == 4) = true := (by rw [h0]; rfl); have b6 : (e.f0 == 6) = false := (by rw [h0]; rfl); have b9 : (e.f0 == 9) = false := (by rw [h0]; rfl); have b10 : (e.f0 == 10) = false := (by rw [h0]; rfl); have b15 : (e.f0 == 15) = false := (by rw [h0]; rfl); have b16 : (e.f0 == 16) = false := (by rw [h0]; rfl); clear h0
            rotate_left
            have b13 : (e.f0 == 13) = false := (by rw [h0]; rfl); have b14 : (e.f0 == 14) = false := (by rw [h0]; rfl); have b4 : (e.f0 == 4) = false := (by rw [h0]; rfl); have b6 : (e.f0 == 6) = true := (by rw [h0]; rfl); have b9 : (e.f0 == 9) = false := (by rw [h0]; rfl); have b10 : (e.f0 == 10) = false := (by rw [h0]; rfl); have b15 : (e.f0 == 15) = false := (by rw [h0]; rfl); have b16 : (e.f0 == 16) = false := (by rw [h0]; rfl); clear h0
            rotate_left
            have b13 : (e.f0 == 13) = false := (by rw [h0]; rfl); have b14 : (e.f0 == 14) = false := (by rw [h0]; rfl); have b4 : (e.f0 == 4) = false := (by rw [h0]; rfl); have b6 : (e.f0 == 6) = false := (by rw [h0]; rfl); have b9 : (e.f0 == 9) = true := (by rw [h0]; rfl); have b10 : (e.f0 == 10) = false := (by rw [h0]; rfl); have b15 : (e.f0 == 15) = false := (by rw [h0]; rfl); have b16 : (e.f0 == 16) = false := (by rw [h0]; rfl); clear h0
            rotate_left
            have b13 : (e.f0 == 13) = false := (by rw [h0]; rfl); have b14 : (e.f0 == 14) = false := (by rw [h0]; rfl); have b4 : (e.f0 == 4) = false := (by rw [h0]; rfl); have b6 : (e.f0 == 6) = false := (by rw [h0]; rfl); have b9 : (e.f0 == 9) = false := (by rw [h0]; rfl); have b10 : (e.f0 == 10) = true := (by rw [h0]; rfl); have b15 : (e.f0 == 15) = false := (by rw [h0]; rfl); have b16 : (e.f0 == 16) = false := (by rw [h0]; rfl); clear h0
            rotate_left
            have b13 : (e.f0 == 13) = false := (by rw [h0]; rfl); have b14 : (e.f0 == 14) = false := (by rw [h0]; rfl); have b4 : (e.f0 == 4) = false := (by rw [h0]; rfl); have b6 : (e.f0 == 6) = false := (by rw [h0]; rfl); have b9 : (e.f0 == 9) = false := (by rw [h0]; rfl); have b10 : (e.f0 == 10) = false := (by rw [h0]; rfl); have b15 : (e.f0 == 15) = true := (by rw [h0]; rfl); have b16 : (e.f0 == 16) = false := (by rw [h0]; rfl); clear h0
            rotate_left
            have b13 : (e.f0 == 13) = false := (by rw [h0]; rfl); have b14 : (e.f0 == 14) = false := (by rw [h0]; rfl); have b4 : (e.f0 == 4) = false := (by rw [h0]; rfl); have b6 : (e.f0 == 6) = false := (by rw [h0]; rfl); have b9 : (e.f0 == 9) = false := (by rw [h0]; rfl); have b10 : (e.f0 == 10) = false := (by rw [h0]; rfl); have b15 : (e.f0 == 15) = false := (by rw [h0]; rfl); have b16 : (e.f0 == 16) = true := (by rw [h0]; rfl); clear h0
            rotate_left
            all_goals (
              go_upto_region 21 with fail
              clear b13 b14 b4 b6 b9 b10 b15 b16
              refine start_ (n := 12) (S := H2 o (.slice (some ⟨lb, 0, none⟩) 2 p) lb x Ax cx y Ay cy) (ds := []) #[false, false, false, false, false, false, false, false, false, false, false, false] (by kernel_rfl) rfl rfl HH.out (fun hHeld => ?_)
              refine with_tabW nrtab21 nrbits21 (fun HT_ HW_ => ?_)
              generalize wr.drew = wd at HBc hHeld ⊢
              refine pure_ (i := 0) (N := some 41) (v := ?_) (a' := ?_) #[true, false, false, false, false, false, false, false, false, false, false, false] rfl rfl (any_of HT_.out (by kernel_rfl)) (fun _ _ _ h => h) (Or.inl ⟨by rfl, ?_⟩) ?_ ?_
              rotate_left
              · intro w'
                go_simp
                with_reducible rfl
              rotate_left
              · simp only [Act.put, List.setIfInBounds_toArray, List.set_cons_zero, List.set_cons_succ, i64_w, i32_w]
                rfl
              refine pure_ (i := 5) (N := some 46) (v := ?_) (a' := ?_) #[true, false, false, false, false, true, false, false, false, false, false, false] rfl rfl (any_of HT_.out (by kernel_rfl)) (fun _ _ _ h => h) (Or.inl ⟨by rfl, ?_⟩) ?_ ?_
              rotate_left
              · intro w'
                go_simp
                with_reducible rfl
              rotate_left
              · simp only [Act.put, List.setIfInBounds_toArray, List.set_cons_zero, List.set_cons_succ, i64_w, i32_w]
                rfl
              refine take_ (i := 1) (N := some 42) (v := ?_) (a' := ?_) #[true, true, false, false, false, true, false, false, false, false, false, false] rfl rfl (take_ofW HT_.out HW_.out (by kernel_rfl)) (fun _ _ _ h => h) (Or.inl ⟨by rfl, ?_⟩) hHeld ?_ ?_
              rotate_left
              · rintro w' ⟨s0, s1, s2, s3, s4, s5, s6, s7, s8, s9, s10, s11, s12, s13, s14, s15, s16, s17, s18⟩
                go_simp
                with_reducible rfl
              rotate_left
              · simp only [Act.put, List.setIfInBounds_toArray, List.set_cons_zero, List.set_cons_succ, i64_w, i32_w]
                rfl
              refine pure_ (i := 2) (N := some 43) (v := ?_) (a' := ?_) #[true, true, true, false, false, true, false, false, false, false, false, false] rfl rfl (any_of HT_.out (by kernel_rfl)) (fun _ _ _ h => h) (Or.inl ⟨by rfl, ?_⟩) ?_ ?_
              rotate_left
              · intro w'
                go_simp
                with_reducible rfl
              rotate_left
              · simp only [Act.put, List.setIfInBounds_toArray, List.set_cons_zero, List.set_cons_succ, i64_w, i32_w]
                rfl
              refine take_ (i := 3) (N := some 44) (v := ?_) (a' := ?_) #[true, true, true, true, false, true, false, false, false, false, false, false] rfl rfl (take_ofW HT_.out HW_.out (by kernel_rfl)) (fun _ _ _ h => h) (Or.inl ⟨by rfl, ?_⟩) hHeld ?_ ?_
              rotate_left
              · rintro w' ⟨s0, s1, s2, s3, s4, s5, s6, s7, s8, s9, s10, s11, s12, s13, s14, s15, s16, s17, s18⟩
                go_simp
                with_reducible rfl
              rotate_left
              · simp only [Act.put, List.setIfInBounds_toArray, List.set_cons_zero, List.set_cons_succ, i64_w, i32_w]
                rfl
              refine take_ (i := 6) (N := some 47) (v := ?_) (a' := ?_) #[true, true, true, true, false, true, true, false, false, false, false, false] rfl rfl (take_ofW HT_.out HW_.out (by kernel_rfl)) (fun _ _ _ h => h) (Or.inl ⟨by rfl, ?_⟩) hHeld ?_ ?_
              rotate_left
              · rintro w' ⟨s0, s1, s2, s3, s4, s5, s6, s7, s8, s9, s10, s11, s12, s13, s14, s15, s16, s17, s18⟩
                go_simp
                with_reducible rfl
              rotate_left
              · simp only [Act.put, List.setIfInBounds_toArray, List.set_cons_zero, List.set_cons_succ, i64_w, i32_w]
                rfl
              refine pure_ (i := 7) (N := some 48) (v := ?_) (a' := ?_) #[true, true, true, true, false, true, true, true, false, false, false, false] rfl rfl (any_of HT_.out (by kernel_rfl)) (fun _ _ _ h => h) (Or.inl ⟨by rfl, ?_⟩) ?_ ?_
              rotate_left
              · intro w'
                go_simp
                with_reducible rfl
              rotate_left
              · simp only [Act.put, List.setIfInBounds_toArray, List.set_cons_zero, List.set_cons_succ, i64_w, i32_w]
                rfl
              refine take_ (i := 8) (N := some 49) (v := ?_) (a' := ?_) #[true, true, true, true, false, true, true, true, true, false, false, false] rfl rfl (take_ofW HT_.out HW_.out (by kernel_rfl)) (fun _ _ _ h => h) (Or.inl ⟨by rfl, ?_⟩) hHeld ?_ ?_
              rotate_left
              · rintro w' ⟨s0, s1, s2, s3, s4, s5, s6, s7, s8, s9, s10, s11, s12, s13, s14, s15, s16, s17, s18⟩
                go_simp
                with_reducible rfl
              rotate_left
              · simp only [Act.put, List.setIfInBounds_toArray, List.set_cons_zero, List.set_cons_succ, i64_w, i32_w]
                rfl
              refine one_ (i := 4) (N := some 45) #[true, true, true, true, true, true, true, true, true, false, false, false] rfl rfl (one_of HT_.out (by kernel_rfl)) (by decide) (fun K hK => ?_)
              refine goes_ Tryz.func81 (by kernel_rfl) rfl #[.agg #[.int .i64 y.f0, .int .i64 y.f1.f0, .int .i64 y.f1.f1, .string y.f1.f2, .int .i64 y.f2, .int .i64 y.f3, .int .i64 y.f4, .string y.f5, .slice Ay y.f6.length cy]] (by rfl) rfl rfl (by (try simp only [List.map_toArray, List.map_cons, List.map_nil]); first | done | rfl) ?_
              refine (HPY.out _ HBc.out).mono ?_
              rintro rr w45 ⟨rfl, hB45⟩
              refine ⟨_, rfl, ?_⟩
              refine hK.out _ _ (hHeld.below hB45) (fun hHeld => ?_)
              clear hK K
              refine norm_ (a' := ?_) ?_ ?_
              rotate_left
              · show Act.put _ (some 45) _ = _
                simp only [Act.put, List.setIfInBounds_toArray, List.set_cons_zero, List.set_cons_succ, i64_w, i32_w]
                rfl
              have HBc := Lib.hid (HBc.out.trans (hB45.mono HBc.out.size))
              clear hB45
              refine one_ (i := 9) (N := some 50) #[true, true, true, true, true, true, true, true, true, true, false, false] rfl rfl (one_of HT_.out (by kernel_rfl)) (by decide) (fun K hK => ?_)
              refine goes_ Tryz.func81 (by kernel_rfl) rfl #[.agg #[.int .i64 x.f0, .int .i64 x.f1.f0, .int .i64 x.f1.f1, .string x.f1.f2, .int .i64 x.f2, .int .i64 x.f3, .int .i64 x.f4, .string x.f5, .slice Ax x.f6.length cx]] (by rfl) rfl rfl (by (try simp only [List.map_toArray, List.map_cons, List.map_nil]); first | done | rfl) ?_
              refine (HPX.out _ HBc.out).mono ?_
              rintro rr w50 ⟨rfl, hB50⟩
              refine ⟨_, rfl, ?_⟩
              refine hK.out _ _ (hHeld.below hB50) (fun hHeld => ?_)
              clear hK K
              refine norm_ (a' := ?_) ?_ ?_
              rotate_left
              · show Act.put _ (some 50) _ = _
                simp only [Act.put, List.setIfInBounds_toArray, List.set_cons_zero, List.set_cons_succ, i64_w, i32_w]
                rfl
              have HBc := Lib.hid (HBc.out.trans (hB50.mono HBc.out.size))
              clear hB50
              refine pure_ (i := 10) (N := some 51) (v := ?_) (a' := ?_) #[true, true, true, true, true, true, true, true, true, true, true, false] rfl rfl (any_of HT_.out (by kernel_rfl)) (fun _ _ _ h => h) (Or.inl ⟨by rfl, ?_⟩) ?_ ?_
              rotate_left
              · intro w'
                go_simp
                with_reducible rfl
              rotate_left
              · simp only [Act.put, List.setIfInBounds_toArray, List.set_cons_zero, List.set_cons_succ, i64_w, i32_w]
                rfl
              refine pure_ (i := 11) (N := some 5) (v := ?_) (a' := ?_) #[true, true, true, true, true, true, true, true, true, true, true, true] rfl rfl (any_of HT_.out (by kernel_rfl)) (fun _ _ _ h => h) (Or.inl ⟨by rfl, ?_⟩) ?_ ?_
              rotate_left
              · intro w'
                go_simp
                with_reducible rfl
              rotate_left
              · simp only [Act.put, List.setIfInBounds_toArray, List.set_cons_zero, List.set_cons_succ, i64_w, i32_w]
                rfl
              refine done_ (done_of HT_.out (by kernel_rfl)) ?_
              clear HT_ HW_ hHeld
              go_wp2_with fail
              go_meet
              exact ⟨lessT y x, by rw [← HLS.out], Lib.hid (HCE.out _ HBc.out)⟩)
      case rest =>
        obtain ⟨b, rfl, HCE⟩ := hcut
        clear HOd HRd HBd HNd hz0 hz8 HXR HTW
        have HBd := Lib.hid HCE.out.below
        have HRd := Lib.hid HCE.out.br
        have HOd := Lib.hid HCE.out.bo
        have HNd := Lib.hid HCE.out.nn
        obtain ⟨op, hop⟩ : ∃ op, (turnF e.f0 xs).1 = op := ⟨_, rfl⟩
        rw [hop] at HOd HNF
        clear hop
        cases b with
        | false =>
          have hno := HCE.out.no rfl
          rw [hno] at HNF
          clear hno HCE
          obtain ⟨e6, he6⟩ : ∃ e6, setO op e xs = e6 := ⟨_, rfl⟩
          rw [he6] at HOd HNF
          have HN6 : Hid (Kd.N KX TX wc W.heap.size (fun k => W.heap.size ≤ k ∧ k ≠ g ∧ k ≠ rb ∧ k ≠ o) (.slice P e6.f6.length p) e6.f6) := Lib.hid (by rw [← he6]; exact HNd.out)
          clear he6 HNd
          obtain ⟨hz0, hz1, hz2, hz3, hz4, hz5, hz6, hz7, hz8⟩ := bkC9 HOd.out
          have hy0 : wc.cell? ⟨rb, 0, none⟩ = some (.int .i64 0) := (bkC HRd.out 0).trans rfl; have hf0 := bkF HRd.out 0; have hy1 : wc.cell? ⟨rb, 1, none⟩ = some (.int .i64 0) := (bkC HRd.out 1).trans rfl; have hf1 := bkF HRd.out 1; have hy2 : wc.cell? ⟨rb, 2, none⟩ = some (.int .i64 0) := (bkC HRd.out 2).trans rfl; have hf2 := bkF HRd.out 2; have hy3 : wc.cell? ⟨rb, 3, none⟩ = some (.string ⟨#[]⟩) := (bkC HRd.out 3).trans rfl; have hf3 := bkF HRd.out 3; have hy4 : wc.cell? ⟨rb, 4, none⟩ = some (.int .i64 0) := (bkC HRd.out 4).trans rfl; have hf4 := bkF HRd.out 4; have hy5 : wc.cell? ⟨rb, 5, none⟩ = some (.int .i64 0) := (bkC HRd.out 5).trans rfl; have hf5 := bkF HRd.out 5; have hy6 : wc.cell? ⟨rb, 6, none⟩ = some (.int .i64 0) := (bkC HRd.out 6).trans rfl; have hf6 := bkF HRd.out 6; have hy7 : wc.cell? ⟨rb, 7, none⟩ = some (.string ⟨#[]⟩) := (bkC HRd.out 7).trans rfl; have hf7 := bkF HRd.out 7; have hy8 : wc.cell? ⟨rb, 8, none⟩ = some (.slice none 0 0) := (bkC HRd.out 8).trans rfl; have hf8 := bkF HRd.out 8
          go_wp2_with fail
          rw [HNF.out]
          refine bodyPost_ret (results_cell_row rfl _ _ rb 26 (exC e6 P p) (0, 0) _ rfl (ex_put0 HRd.out e6 P p) Tryz.underlying26 rfl (info_ex _ _ _)) rfl ?_; exact ⟨_, rfl, Kd.N_mono (Kd.N_step HN6.out (fun k hk hlt => ex_heap hk.2.2.1 e6 P p)) (fun k hk => hk.1), ex_below HBd.out hgrW e6 P p⟩
        | true =>
          obtain ⟨x, y, rfl, hsw⟩ := HCE.out.yes rfl
          rw [hsw] at HNF
          clear hsw HCE
          obtain ⟨lb, cap, hsl, hlb, hlbs, _⟩ := Kd.N_form HNd.out (by simp)
          obtain ⟨rfl, rfl⟩ : P = some ⟨lb, 0, none⟩ ∧ p = cap := by injection hsl with e1 _ e3; exact ⟨e1, e3⟩
          clear hsl
          obtain ⟨cx9, hq1, hMx, hcx9⟩ := Kd.N_get HNd.out z26 0 (by omega) (by simp)
          obtain ⟨Ax, cx, rfl, hcx, hFx⟩ := k26_openF hMx
          obtain ⟨cy9, hq2, hMy, hcy9⟩ := Kd.N_get HNd.out z26 1 (by omega) (by simp)
          obtain ⟨Ay, cy, rfl, hcy, hFy⟩ := k26_openF hMy
          have HH : Hid (H2 o (.slice (some ⟨lb, 0, none⟩) 2 p) lb x Ax cx y Ay cy wc.drew) := Lib.hid ⟨(bkC HOd.out 8).trans rfl, hcx9 0 _ rfl, hcx9 1 _ rfl, hcx9 2 _ rfl, hcx9 3 _ rfl, hcx9 4 _ rfl, hcx9 5 _ rfl, hcx9 6 _ rfl, hcx9 7 _ rfl, hcx9 8 _ rfl, hcy9 0 _ rfl, hcy9 1 _ rfl, hcy9 2 _ rfl, hcy9 3 _ rfl, hcy9 4 _ rfl, hcy9 5 _ rfl, hcy9 6 _ rfl, hcy9 7 _ rfl, hcy9 8 _ rfl⟩
          have HFX : Hid (Kd.F KX wc.drew (fun k => W.heap.size ≤ k ∧ k ≠ g ∧ k ≠ rb ∧ k ≠ o) Ax x.f6.length x.f6) := Lib.hid (Kd.F_mono (Kd.F_step hFx (fun k hk hlt => rfl)) (fun k hk => hk.1))
          have HFY : Hid (Kd.F KX wc.drew (fun k => W.heap.size ≤ k ∧ k ≠ g ∧ k ≠ rb ∧ k ≠ o) Ay y.f6.length y.f6) := Lib.hid (Kd.F_mono (Kd.F_step hFy (fun k hk hlt => rfl)) (fun k hk => hk.1))
          have HBd : Hid (Below W.heap.size W wc.drew) := Lib.hid (below_drew HBd.out)
          have HRd : Hid (wc.drew.heap[rb]? = some (.cells zerosE 26 (0, 0))) := Lib.hid HRd.out
          have HOd : Hid (wc.drew.heap[o]? = some (.cells (exC (setO op e [x, y]) (some ⟨lb, 0, none⟩) p) 26 (0, 0))) := Lib.hid HOd.out
          clear hq1 hq2 hMx hMy hcx9 hcy9 hFx hFy HNd hlb hlbs
          have god : o < wc.drew.heap.size := blk_lt HOd.out
          have grd : rb < wc.drew.heap.size := blk_lt HRd.out
          go_upto_region 23 with fail
          refine start_ (n := 11) (S := H2 o (.slice (some ⟨lb, 0, none⟩) 2 p) lb x Ax cx y Ay cy) (ds := [10]) #[false, false, false, false, false, false, false, false, false, false, false] (by kernel_rfl) rfl rfl HH.out (fun hHeld => ?_)
          refine with_tabW nrtab23 nrbits23 (fun HT_ HW_ => ?_)
          generalize wc.drew = wd at HBd HRd HOd HFX HFY god grd hHeld ⊢
          refine pure_ (i := 0) (N := some 53) (v := ?_) (a' := ?_) #[true, false, false, false, false, false, false, false, false, false, false] rfl rfl (any_of HT_.out (by kernel_rfl)) (fun _ _ _ h => h) (Or.inl ⟨by rfl, ?_⟩) ?_ ?_
          rotate_left
          · intro w'
            go_simp
            with_reducible rfl
          rotate_left
          · simp only [Act.put, List.setIfInBounds_toArray, List.set_cons_zero, List.set_cons_succ, i64_w, i32_w]
            rfl
          refine pure_ (i := 4) (N := some 57) (v := ?_) (a' := ?_) #[true, false, false, false, true, false, false, false, false, false, false] rfl rfl (any_of HT_.out (by kernel_rfl)) (fun _ _ _ h => h) (Or.inl ⟨by rfl, ?_⟩) ?_ ?_
          rotate_left
          · intro w'
            go_simp
            with_reducible rfl
          rotate_left
          · simp only [Act.put, List.setIfInBounds_toArray, List.set_cons_zero, List.set_cons_succ, i64_w, i32_w]
            rfl
          refine take_ (i := 1) (N := some 54) (v := ?_) (a' := ?_) #[true, true, false, false, true, false, false, false, false, false, false] rfl rfl (take_ofW HT_.out HW_.out (by kernel_rfl)) (fun _ _ _ h => h) (Or.inl ⟨by rfl, ?_⟩) hHeld ?_ ?_
          rotate_left
          · rintro w' ⟨s0, s1, s2, s3, s4, s5, s6, s7, s8, s9, s10, s11, s12, s13, s14, s15, s16, s17, s18⟩
            go_simp
            with_reducible rfl
          rotate_left
          · simp only [Act.put, List.setIfInBounds_toArray, List.set_cons_zero, List.set_cons_succ, i64_w, i32_w]
            rfl
          refine pure_ (i := 2) (N := some 55) (v := ?_) (a' := ?_) #[true, true, true, false, true, false, false, false, false, false, false] rfl rfl (any_of HT_.out (by kernel_rfl)) (fun _ _ _ h => h) (Or.inl ⟨by rfl, ?_⟩) ?_ ?_
          rotate_left
          · intro w'
            go_simp
            with_reducible rfl
          rotate_left
          · simp only [Act.put, List.setIfInBounds_toArray, List.set_cons_zero, List.set_cons_succ, i64_w, i32_w]
            rfl
          refine take_ (i := 3) (N := some 56) (v := ?_) (a' := ?_) #[true, true, true, true, true, false, false, false, false, false, false] rfl rfl (take_ofW HT_.out HW_.out (by kernel_rfl)) (fun _ _ _ h => h) (Or.inl ⟨by rfl, ?_⟩) hHeld ?_ ?_
          rotate_left
          · rintro w' ⟨s0, s1, s2, s3, s4, s5, s6, s7, s8, s9, s10, s11, s12, s13, s14, s15, s16, s17, s18⟩
            go_simp
            with_reducible rfl
          rotate_left
          · simp only [Act.put, List.setIfInBounds_toArray, List.set_cons_zero, List.set_cons_succ, i64_w, i32_w]
            rfl
          refine take_ (i := 5) (N := some 58) (v := ?_) (a' := ?_) #[true, true, true, true, true, true, false, false, false, false, false] rfl rfl (take_ofW HT_.out HW_.out (by kernel_rfl)) (fun _ _ _ h => h) (Or.inl ⟨by rfl, ?_⟩) hHeld ?_ ?_
          rotate_left
          · rintro w' ⟨s0, s1, s2, s3, s4, s5, s6, s7, s8, s9, s10, s11, s12, s13, s14, s15, s16, s17, s18⟩
            go_simp
            with_reducible rfl
          rotate_left
          · simp only [Act.put, List.setIfInBounds_toArray, List.set_cons_zero, List.set_cons_succ, i64_w, i32_w]
            rfl
          refine pure_ (i := 6) (N := some 59) (v := ?_) (a' := ?_) #[true, true, true, true, true, true, true, false, false, false, false] rfl rfl (any_of HT_.out (by kernel_rfl)) (fun _ _ _ h => h) (Or.inl ⟨by rfl, ?_⟩) ?_ ?_
          rotate_left
          · intro w'
            go_simp
            with_reducible rfl
          rotate_left
          · simp only [Act.put, List.setIfInBounds_toArray, List.set_cons_zero, List.set_cons_succ, i64_w, i32_w]
            rfl
          refine take_ (i := 7) (N := some 60) (v := ?_) (a' := ?_) #[true, true, true, true, true, true, true, true, false, false, false] rfl rfl (take_ofW HT_.out HW_.out (by kernel_rfl)) (fun _ _ _ h => h) (Or.inl ⟨by rfl, ?_⟩) hHeld ?_ ?_
          rotate_left
          · rintro w' ⟨s0, s1, s2, s3, s4, s5, s6, s7, s8, s9, s10, s11, s12, s13, s14, s15, s16, s17, s18⟩
            go_simp
            with_reducible rfl
          rotate_left
          · simp only [Act.put, List.setIfInBounds_toArray, List.set_cons_zero, List.set_cons_succ, i64_w, i32_w]
            rfl
          refine one_ (i := 8) (N := some 61) #[true, true, true, true, true, true, true, true, true, false, false] rfl rfl (one_of HT_.out (by kernel_rfl)) (by decide) (fun K hK => ?_)
          refine Kd.N_lit_step KX (w0 := W) W.heap.size 26 (by rfl) (N' := 61) rfl (xs := [y, x]) (inner := [.int .i64 y.f0, .int .i64 y.f1.f0, .int .i64 y.f1.f1, .string y.f1.f2, .int .i64 y.f2, .int .i64 y.f3, .int .i64 y.f4, .string y.f5, .slice Ay y.f6.length cy, .int .i64 x.f0, .int .i64 x.f1.f0, .int .i64 x.f1.f1, .string x.f1.f2, .int .i64 x.f2, .int .i64 x.f3, .int .i64 x.f4, .string x.f5, .slice Ax x.f6.length cx]) (ok := (fun k => W.heap.size ≤ k ∧ k ≠ g ∧ k ≠ rb ∧ k ≠ o)) (okp := (fun k => W.heap.size ≤ k ∧ k ≠ g ∧ k ≠ rb ∧ k ≠ o)) ?hr (Reps.c9 (show Kd.FK KX _ _ y [.int .i64 y.f0, .int .i64 y.f1.f0, .int .i64 y.f1.f1, .string y.f1.f2, .int .i64 y.f2, .int .i64 y.f3, .int .i64 y.f4, .string y.f5, .slice Ay y.f6.length cy] from k26_mkF _ _ y hcy HFY.out) (Reps.c9 (show Kd.FK KX _ _ x [.int .i64 x.f0, .int .i64 x.f1.f0, .int .i64 x.f1.f1, .string x.f1.f2, .int .i64 x.f2, .int .i64 x.f3, .int .i64 x.f4, .string x.f5, .slice Ax x.f6.length cx] from k26_mkF _ _ x hcx HFX.out) (Reps.none _ _))) (fun _ h => h) ?hf HBd.out HBd.out.size (by simp) ?_
          (case hr => first | (go_simp; done) | (go_simp; rfl))
          (case hf => exact ⟨HBd.out.size, by omega, by omega, by omega⟩)
          intro v1 w61 ho hb hg hat
          obtain ⟨P2, p2, rfl⟩ := Kd.N_slice ho
          have HO61 := Lib.hid (blk_grown HOd.out hg (by simp))
          have HR61 := Lib.hid (blk_grown HRd.out hg (by simp))
          have HN61 := Lib.hid ho; have HB61 := Lib.hid hb
          refine hK.out _ _ (hHeld.below (below_grownN hg)) (fun hHeld => ?_)
          clear ho hb hat hg
          clear hK K
          refine norm_ (a' := ?_) ?_ ?_
          rotate_left
          · show Act.put _ (some 61) _ = _
            simp only [Act.put, List.setIfInBounds_toArray, List.set_cons_zero, List.set_cons_succ, i64_w, i32_w]
            rfl
          refine pure_ (i := 9) (N := some 62) (v := ?_) (a' := ?_) #[true, true, true, true, true, true, true, true, true, true, false] rfl rfl (any_of HT_.out (by kernel_rfl)) (fun _ _ _ h => h) (Or.inl ⟨by rfl, ?_⟩) ?_ ?_
          rotate_left
          · intro w'
            go_simp
            with_reducible rfl
          rotate_left
          · simp only [Act.put, List.setIfInBounds_toArray, List.set_cons_zero, List.set_cons_succ, i64_w, i32_w]
            rfl
          refine last_ (i := 10) (N := none) #[true, true, true, true, true, true, true, true, true, true, true] rfl rfl (one_of HT_.out (by kernel_rfl)) (by decide) (fun K hK => ?_)
          have hs22 : w61.cell? ⟨o, 8, none⟩ = some (.slice (some ⟨lb, 0, none⟩) [x, y].length p) := (bkC HO61.out 8).trans rfl
          have hfs22 := bkF HO61.out 8
          refine skip_ (w1 := ?_) (by rfl) rfl ?_ ?_
          rotate_left
          · go_simp
            rfl
          refine hK.out _ _ ?_
          clear hK K hHeld hs22 hfs22
          refine done_ (done_of HT_.out (by kernel_rfl)) ?_
          clear HT_ HW_
          obtain ⟨e6, he6⟩ : ∃ e6, setO op e [y, x] = e6 := ⟨_, rfl⟩
          rw [he6] at HNF
          have HO6 : Hid ((w61.setCell ⟨o, 8, none⟩ (.slice P2 2 p2)).heap[o]? = some (.cells (exC e6 P2 p2) 26 (0, 0))) := Lib.hid (by
            refine (blk_set HO61.out 8 (.slice P2 2 p2)).trans (congrArg (fun a => some (Obj.cells a 26 (0, 0))) ?_)
            rw [← he6]; rfl)
          have HN6 : Hid (Kd.N KX TX (w61.setCell ⟨o, 8, none⟩ (.slice P2 2 p2)) W.heap.size (fun k => W.heap.size ≤ k ∧ k ≠ g ∧ k ≠ rb ∧ k ≠ o) (.slice P2 e6.f6.length p2) e6.f6) := Lib.hid (by rw [← he6]; exact Kd.N_far HN61.out (p := ⟨o, 8, none⟩) (fun k hk => hk.2.2.2) _)
          have HR6 : Hid ((w61.setCell ⟨o, 8, none⟩ (.slice P2 2 p2)).heap[rb]? = some (.cells zerosE 26 (0, 0))) := Lib.hid (blk_far HR61.out (show rb ≠ (⟨o, 8, none⟩ : Addr).block from by show rb ≠ o; omega) _)
          have HB6 : Hid (Below W.heap.size W (w61.setCell ⟨o, 8, none⟩ (.slice P2 2 p2))) := Lib.hid (HB61.out.setCell (p := ⟨o, 8, none⟩) hgo _)
          try simp only [List.length_cons, List.length_nil, Nat.reduceAdd]
          generalize w61.setCell ⟨o, 8, none⟩ (.slice P2 2 p2) = w6 at HO6 HN6 HR6 HB6 ⊢
          clear he6 HO61 HN61 HR61 HB61 HFX HFY HOd HRd HBd HH
          obtain ⟨hz0, hz1, hz2, hz3, hz4, hz5, hz6, hz7, hz8⟩ := bkC9 HO6.out
          have hy0 : w6.cell? ⟨rb, 0, none⟩ = some (.int .i64 0) := (bkC HR6.out 0).trans rfl; have hf0 := bkF HR6.out 0; have hy1 : w6.cell? ⟨rb, 1, none⟩ = some (.int .i64 0) := (bkC HR6.out 1).trans rfl; have hf1 := bkF HR6.out 1; have hy2 : w6.cell? ⟨rb, 2, none⟩ = some (.int .i64 0) := (bkC HR6.out 2).trans rfl; have hf2 := bkF HR6.out 2; have hy3 : w6.cell? ⟨rb, 3, none⟩ = some (.string ⟨#[]⟩) := (bkC HR6.out 3).trans rfl; have hf3 := bkF HR6.out 3; have hy4 : w6.cell? ⟨rb, 4, none⟩ = some (.int .i64 0) := (bkC HR6.out 4).trans rfl; have hf4 := bkF HR6.out 4; have hy5 : w6.cell? ⟨rb, 5, none⟩ = some (.int .i64 0) := (bkC HR6.out 5).trans rfl; have hf5 := bkF HR6.out 5; have hy6 : w6.cell? ⟨rb, 6, none⟩ = some (.int .i64 0) := (bkC HR6.out 6).trans rfl; have hf6 := bkF HR6.out 6; have hy7 : w6.cell? ⟨rb, 7, none⟩ = some (.string ⟨#[]⟩) := (bkC HR6.out 7).trans rfl; have hf7 := bkF HR6.out 7; have hy8 : w6.cell? ⟨rb, 8, none⟩ = some (.slice none 0 0) := (bkC HR6.out 8).trans rfl; have hf8 := bkF HR6.out 8
          go_wp2_with fail
          rw [HNF.out]
          refine bodyPost_ret (results_cell_row rfl _ _ rb 26 (exC e6 P2 p2) (0, 0) _ rfl (ex_put0 HR6.out e6 P2 p2) Tryz.underlying26 rfl (info_ex _ _ _)) rfl ?_; exact ⟨_, rfl, Kd.N_mono (Kd.N_step HN6.out (fun k hk hlt => ex_heap hk.2.2.1 e6 P2 p2)) (fun k hk => hk.1), ex_below HB6.out hgrW e6 P2 p2⟩
theorem nref_ok : ∀ (N : Nat) (e : Ex), SizeOf.sizeOf e < N → NRef e
  | 0, e, h => by omega
  | N + 1, e, h => nref_step e fun x hx => nref_ok N x (by
    have h1 := List.sizeOf_lt_of_mem hx
    have h2 : SizeOf.sizeOf e.f6 < SizeOf.sizeOf e := by cases e; simp; omega
    omega)
def flat (e : Ex) : Int × Int × Int × ByteArray × Int × Int × Int × ByteArray × List Ex := (e.f0, e.f1.f0, e.f1.f1, e.f1.f2, e.f2, e.f3, e.f4, e.f5, e.f6)
def q12_normal.f (k : Nat) (a0_0 : Int) (a0_1 : Int) (a0_2 : Int) (a0_3 : ByteArray) (a0_4 : Int) (a0_5 : Int) (a0_6 : Int) (a0_7 : ByteArray) (l0_8 : List Ex) : Option (Int × Int × Int × ByteArray × Int × Int × Int × ByteArray × List Ex) := if rightB ⟨a0_0, ⟨a0_1, a0_2, a0_3⟩, a0_4, a0_5, a0_6, a0_7, l0_8⟩ = true ∧ rngF ⟨a0_0, ⟨a0_1, a0_2, a0_3⟩, a0_4, a0_5, a0_6, a0_7, l0_8⟩ = true then some (flat (normF ⟨a0_0, ⟨a0_1, a0_2, a0_3⟩, a0_4, a0_5, a0_6, a0_7, l0_8⟩)) else none
theorem q12_normal.calls (k : Nat) (a0_0 : Int) (a0_1 : Int) (a0_2 : Int) (a0_3 : ByteArray) (a0_4 : Int) (a0_5 : Int) (a0_6 : Int) (a0_7 : ByteArray) (A0_8 : Option Addr) (c0_8 : Nat) (l0_8 : List Ex) (r1 : Int) (r2 : Int) (r3 : Int) (r4 : ByteArray) (r5 : Int) (r6 : Int) (r7 : Int) (r8 : ByteArray) (r9 : List Ex) (w : World) (hr0_8 : Kd.C KX w A0_8 l0_8.length l0_8) (hc0_8 : l0_8.length ≤ c0_8) (h : q12_normal.f k a0_0 a0_1 a0_2 a0_3 a0_4 a0_5 a0_6 a0_7 l0_8 = some (r1, r2, r3, r4, r5, r6, r7, r8, r9)) :
    Calls Tryz.prog 60 #[.agg #[.int .i64 a0_0, .int .i64 a0_1, .int .i64 a0_2, .string a0_3, .int .i64 a0_4, .int .i64 a0_5, .int .i64 a0_6, .string a0_7, .slice A0_8 l0_8.length c0_8]] w fun e w' => ∃ v8_ : Value, e = .returned (.agg #[.int .i64 r1, .int .i64 r2, .int .i64 r3, .string r4, .int .i64 r5, .int .i64 r6, .int .i64 r7, .string r8, v8_]) ∧ Kd.N KX TX w' w.heap.size (fun k_ => (w.heap.size ≤ k_)) v8_ r9 ∧ Below w.heap.size w w' := by
  unfold q12_normal.f at h
  by_cases hr : rightB ⟨a0_0, ⟨a0_1, a0_2, a0_3⟩, a0_4, a0_5, a0_6, a0_7, l0_8⟩ = true ∧ rngF ⟨a0_0, ⟨a0_1, a0_2, a0_3⟩, a0_4, a0_5, a0_6, a0_7, l0_8⟩ = true
  · rw [if_pos hr] at h
    have h1 := nref_ok _ ⟨a0_0, ⟨a0_1, a0_2, a0_3⟩, a0_4, a0_5, a0_6, a0_7, l0_8⟩ (Nat.lt_succ_self _) A0_8 c0_8 w hr.1 hr.2 hc0_8 hr0_8
    obtain ⟨y, hy⟩ : ∃ y, normF ⟨a0_0, ⟨a0_1, a0_2, a0_3⟩, a0_4, a0_5, a0_6, a0_7, l0_8⟩ = y := ⟨_, rfl⟩
    rw [hy] at h h1
    unfold flat at h
    simp only [Option.some.injEq, Prod.mk.injEq] at h
    obtain ⟨rfl, rfl, rfl, rfl, rfl, rfl, rfl, rfl, rfl⟩ := h
    exact h1
  · rw [if_neg hr] at h; cases h
def condsR (l : List Ex) : List Ex × Int := if l.all rightB = true then (condsF l, 0) else ([], 1)
def condsG (l : List Ex) : Prop := (∀ x ∈ l, rngF x = true) ∧ l.length ≤ 1048576
instance (l : List Ex) : Decidable (condsG l) := by unfold condsG; infer_instance
def sign_Conds.f (l0 : List Ex) : Option (List Ex × Int) := if condsG l0 then some (condsR l0) else none
theorem sign_Conds.calls (A0 : Option Addr) (c0 : Nat) (l0 : List Ex) (r1 : List Ex) (r2 : Int) (w : World) (hr0 : Kd.C KX w A0 l0.length l0) (hc0 : l0.length ≤ c0) (h : sign_Conds.f l0 = some (r1, r2)) (hT : TabW w) :
    Calls Tryz.prog 35 #[.slice A0 l0.length c0] w fun e w' => ∃ v0_ : Value, e = .returned (.tuple #[v0_, .int .i64 r2]) ∧ Kd.N KX TX w' w.heap.size (fun k_ => (w.heap.size ≤ k_)) v0_ r1 ∧ Below w.heap.size w w' := by
  unfold sign_Conds.f at h
  by_cases hg : condsG l0
  · rw [if_pos hg] at h
    have h2 := Option.some.inj h
    refine (Conds_ok l0 A0 c0 w hT hg.1 hr0 (by have := hg.2; omega)).mono ?_
    rintro r w' (⟨hb, rfl, hB⟩ | ⟨hb, v, ys, hs, rfl, hN, hB⟩)
    · unfold condsR at h2
      rw [hb, if_neg (by decide)] at h2
      obtain ⟨rfl, rfl⟩ := Prod.mk.inj h2
      exact ⟨_, rfl, Kd.N_nil _ _ _ _ _, hB⟩
    · unfold condsR at h2
      rw [hb, if_pos rfl] at h2
      obtain ⟨rfl, rfl⟩ := Prod.mk.inj h2
      rw [comp_conds (List.all_eq_true.1 hb) hs] at hN
      exact ⟨v, rfl, hN, hB⟩
  · rw [if_neg hg] at h; cases h
def in64A (l : List Int) : Prop := ∀ x ∈ l, -9223372036854775808 ≤ x ∧ x ≤ 9223372036854775807
def ofG (sz : List Int) (m : Int) (cs : List Ex) : Prop := condsG cs ∧ m < 2 ^ 63 ∧ in64A sz
instance (sz : List Int) (m : Int) (cs : List Ex) : Decidable (ofG sz m cs) := by unfold ofG in64A; infer_instance
def sign_Of.f (l0_0 : List Int) (a0_1 : Int) (l0_2 : List Int) (l0_3 l0_4 l0_5 l0_6 : List Ex) (a0_7 : Bool) (l0_8 : List Ex) (l0_9 : List (S187)) (a0_10 : Bool) (a1 : Int) : Option (ByteArray × Int) := if ofG l0_0 a1 l0_4 then some (ofRes l0_0 a0_1 a1 l0_4) else none
theorem sign_Of.calls (A0_0 : Option Addr) (c0_0 : Nat) (l0_0 : List Int) (a0_1 : Int) (A0_2 : Option Addr) (c0_2 : Nat) (l0_2 : List Int) (A0_3 : Option Addr) (c0_3 : Nat) (l0_3 : List Ex) (A0_4 : Option Addr) (c0_4 : Nat) (l0_4 : List Ex) (A0_5 : Option Addr) (c0_5 : Nat) (l0_5 : List Ex) (A0_6 : Option Addr) (c0_6 : Nat) (l0_6 : List Ex) (a0_7 : Bool) (A0_8 : Option Addr) (c0_8 : Nat) (l0_8 : List Ex) (A0_9 : Option Addr) (c0_9 : Nat) (l0_9 : List (S187)) (a0_10 : Bool) (a1 : Int) (r1 : ByteArray) (r2 : Int) (w : World)
    (hr0_0 : Kd.C (Kd.int .i64) w A0_0 l0_0.length l0_0) (hc0_0 : l0_0.length ≤ c0_0) (hr0_2 : Kd.C (Kd.int .i64) w A0_2 l0_2.length l0_2) (hc0_2 : l0_2.length ≤ c0_2) (hr0_3 : Kd.C KX w A0_3 l0_3.length l0_3) (hc0_3 : l0_3.length ≤ c0_3) (hr0_4 : Kd.C KX w A0_4 l0_4.length l0_4) (hc0_4 : l0_4.length ≤ c0_4) (hr0_5 : Kd.C KX w A0_5 l0_5.length l0_5) (hc0_5 : l0_5.length ≤ c0_5) (hr0_6 : Kd.C KX w A0_6 l0_6.length l0_6) (hc0_6 : l0_6.length ≤ c0_6) (hr0_8 : Kd.C KX w A0_8 l0_8.length l0_8) (hc0_8 : l0_8.length ≤ c0_8) (hr0_9 : Kd.C k187 w A0_9 l0_9.length l0_9) (hc0_9 : l0_9.length ≤ c0_9)
    (h : sign_Of.f l0_0 a0_1 l0_2 l0_3 l0_4 l0_5 l0_6 a0_7 l0_8 l0_9 a0_10 a1 = some (r1, r2)) (hT : TabW w) :
    Calls Tryz.prog 17 #[.agg #[.slice A0_0 l0_0.length c0_0, .int .i64 a0_1, .slice A0_2 l0_2.length c0_2, .slice A0_3 l0_3.length c0_3, .slice A0_4 l0_4.length c0_4, .slice A0_5 l0_5.length c0_5, .slice A0_6 l0_6.length c0_6, .bool a0_7, .slice A0_8 l0_8.length c0_8, .slice A0_9 l0_9.length c0_9, .bool a0_10], .int .i64 a1] w fun e w' => e = .returned (.tuple #[.string r1, .int .i64 r2]) ∧ Below w.heap.size w w' := by
  unfold sign_Of.f at h
  by_cases hg : ofG l0_0 a1 l0_4
  · rw [if_pos hg] at h
    have h2 := Option.some.inj h
    have h3 := Of_ok l0_0 l0_2 a0_1 a1 l0_3 l0_4 l0_5 l0_6 l0_8 (List.replicate l0_9.length z26) A0_0 A0_2 A0_3 A0_4 A0_5 A0_6 A0_8 A0_9 c0_0 c0_2 c0_3 c0_4 c0_5 c0_6 c0_8 c0_9 a0_7 a0_10 w hg.2.1 hT hg.1.1 hr0_4 hg.1.2 hc0_4 (fun i hi => by
      have e : rd l0_0 (i : Int) = l0_0[i] := by unfold rd; simp [List.getElem?_eq_getElem hi]
      rw [e]; exact hg.2.2 _ (List.getElem_mem hi)) hr0_0
    rw [List.length_replicate, h2] at h3
    exact h3
  · rw [if_neg hg] at h; cases h
end Go.Proofs.YtoffpegppdmkdaaGreatDoor.E
