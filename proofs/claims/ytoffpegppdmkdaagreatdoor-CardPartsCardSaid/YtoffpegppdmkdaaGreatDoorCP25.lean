/- Contracts and plain lemmas of the functions that the law reaches, part 25. -/
import Derived.Lib.SliceRun
import Derived.Test.YtoffpegppdmkdaaGreatDoorCP23
import Derived.Test.YtoffpegppdmkdaaGreatDoorCP24
namespace Go.Proofs.YtoffpegppdmkdaaGreatDoor.E
open Go.RowKit Go.Proofs.YtoffpegppdmkdaaGreatDoorW.PrintWords Go.Proofs.YtoffpegppdmkdaaGreatDoorW.PrintLast Go.Proofs.YtoffpegppdmkdaaGreatDoorW.PrintMore
set_option linter.unusedVariables false
set_option linter.unusedSimpArgs false
theorem setCells_at : ∀ (zs : List Value) (w : World) (g o : Nat) (cur : Array Value) (t : TypeId), w.heap[g]? = some (.cells cur t (0, 0)) →
    ∃ cur', (w.setCells g o zs).heap[g]? = some (.cells cur' t (0, 0)) ∧ cur'.size = cur.size ∧ ∀ j, j < o → cur'[j]? = cur[j]?
  | [], w, g, o, cur, t, h => ⟨cur, h, rfl, fun _ _ => rfl⟩
  | z :: zs, w, g, o, cur, t, h => by
    obtain ⟨c, hc, hs, hj⟩ := setCells_at zs (w.setCell ⟨g, o, none⟩ z) g (o + 1) _ t (blk_set h o z)
    refine ⟨c, hc, by rw [hs, Array.size_setIfInBounds], fun j hjo => ?_⟩
    rw [hj j (by omega), Array.getElem?_setIfInBounds_ne (by omega)]
theorem setCells_off : ∀ (zs : List Value) (w : World) (g o k : Nat), k ≠ g → (w.setCells g o zs).heap[k]? = w.heap[k]?
  | [], _, _, _, _, _ => rfl
  | z :: zs, w, g, o, k, h => (setCells_off zs (w.setCell ⟨g, o, none⟩ z) g (o + 1) k h).trans (Below.heap_setCell w ⟨g, o, none⟩ z k h)
theorem setCells_below {B : Nat} {w0 : World} {g : Nat} (hg : B ≤ g) : ∀ (zs : List Value) (w : World) (o : Nat), Below B w0 w → Below B w0 (w.setCells g o zs)
  | [], _, _, h => h
  | z :: zs, w, o, h => setCells_below hg zs (w.setCell ⟨g, o, none⟩ z) (o + 1) (h.setCell (p := ⟨g, o, none⟩) hg z)
theorem N_clear {w : World} {base : Nat} {ok : Nat → Prop} {g n cap : Nat} {xs : List Ex} (h : Kd.N KX TX w base ok (.slice (some ⟨g, 0, none⟩) n cap) xs) (k : Nat) (hk : k ≤ xs.length) (zs : List Value) :
    Kd.N KX TX (w.setCells g (k * 9) zs) base ok (.slice (some ⟨g, 0, none⟩) k cap) (xs.take k) := by
  obtain ⟨h0, rows, hl, ⟨hR1, inner, ho, hr⟩, hf⟩ := Kd.N_take h hk
  obtain ⟨hil, ho⟩ := ho
  rcases ho with ⟨he, _⟩ | ⟨g', cap', cur, he, hg, hh, hn, hm, hs, ht⟩
  · cases he
  have he0 := he
  injection he with h1 h2 h3
  injection h1 with h1
  injection h1 with h1 _ _
  subst h1 h3
  obtain ⟨c, hc, hcs, hcj⟩ := setCells_at zs w g (k * 9) cur _ hh
  refine ⟨h0, rows, hl, ⟨hR1, inner, ⟨hil, .inr ⟨g, cap, c, he0, hg, hc, hn, hm, by rw [hcs]; exact hs, ?_⟩⟩, hr⟩, fun j x cs hx hcx => Kd.FK_step (hf j x cs hx hcx) (fun b hb _ => setCells_off zs w g (k * 9) b (fun he => hb.2 (by rw [he]; rfl)))⟩
  rw [← ht]
  apply List.ext_getElem?
  intro t
  simp only [List.getElem?_take, Array.getElem?_toList]
  have hk9 : rows.length = k := h2.symm
  split
  · rename_i hlt
    exact hcj t (by rw [← hk9]; exact hlt)
  · rfl
section
variable {P : Program}
theorem run_clear_rows (w : World) (t e ty : TypeId) (z : Value) (ht : P.underlying t = some (.slice e)) (hv : ∀ w, (zeroValue e).run P w = .ok z w) (h1 : ∀ v ∈ z.cells, v.oneCell' = true) (hz0 : 0 < z.cells.size) (b o n c : Nat) (hn : 0 < n)
    (hc : ∀ j, j < n * z.cells.size → (w.cell? ⟨b, o + j, none⟩).isSome = true) (hf : ∀ j, j < n * z.cells.size → w.frozen? ⟨b, o + j, none⟩ = false) :
    (Builtin.clear_ #[t] ty #[.slice (some ⟨b, o, none⟩) n c]).run P w = .ok (.tuple #[]) (w.setCells b o (Builtin.zeroCells z.cells n).toList) := by
  have hlen : (Builtin.zeroCells z.cells n).toList.length = n * z.cells.size := by simp [Builtin.zeroCells]
  have hst := run_storeCells_cells (P := P) b o (Builtin.zeroCells z.cells n).toList 0 w (by rw [hlen]; simpa using hc) (by rw [hlen]; simpa using hf) (by
    intro v hv'
    simp only [Builtin.zeroCells, Array.toList_map, List.mem_map] at hv'
    obtain ⟨i, _, rfl⟩ := hv'
    have hi : i % z.cells.size < z.cells.size := Nat.mod_lt _ hz0
    rw [getElem!_pos z.cells _ hi]
    exact h1 _ (Array.getElem_mem hi))
  simp only [Nat.add_zero] at hst
  obtain ⟨m, rfl⟩ : ∃ m, n = m + 1 := ⟨n - 1, by omega⟩
  simp [Builtin.clear_, run_underlying ht, hv, hst]
end
theorem hcfSame : ∀ (args : Array Value) (W : World), (callFunc 73 args).run Tryz.prog W = .ok (.enter 73 args) W := fun args W => by go_simp
theorem at_exI {w : World} {A : Option Addr} {n : Nat} {xs : List Ex} (h : Kd.C KX w A n xs) (hn : xs.length = n) (k : Int) (h0 : 0 ≤ k) (hk : k < n) :
    ∃ ad A8 c8 e, A = some ad ∧ xs[k.toNat]? = some e ∧ (w.cell? (ad.add (k.toNat * 9)) = some (.int .i64 e.f0) ∧ w.cell? ⟨(ad.add (k.toNat * 9)).block, (ad.add (k.toNat * 9)).off + 1, none⟩ = some (.int .i64 e.f1.f0) ∧ w.cell? ⟨(ad.add (k.toNat * 9)).block, (ad.add (k.toNat * 9)).off + 2, none⟩ = some (.int .i64 e.f1.f1) ∧ w.cell? ⟨(ad.add (k.toNat * 9)).block, (ad.add (k.toNat * 9)).off + 3, none⟩ = some (.string e.f1.f2) ∧ w.cell? ⟨(ad.add (k.toNat * 9)).block, (ad.add (k.toNat * 9)).off + 4, none⟩ = some (.int .i64 e.f2) ∧ w.cell? ⟨(ad.add (k.toNat * 9)).block, (ad.add (k.toNat * 9)).off + 5, none⟩ = some (.int .i64 e.f3) ∧ w.cell? ⟨(ad.add (k.toNat * 9)).block, (ad.add (k.toNat * 9)).off + 6, none⟩ = some (.int .i64 e.f4) ∧ w.cell? ⟨(ad.add (k.toNat * 9)).block, (ad.add (k.toNat * 9)).off + 7, none⟩ = some (.string e.f5) ∧ w.cell? ⟨(ad.add (k.toNat * 9)).block, (ad.add (k.toNat * 9)).off + 8, none⟩ = some (.slice A8 e.f6.length c8)) ∧ e.f6.length ≤ c8 ∧ KX.C w A8 e.f6.length e.f6 := by
  obtain ⟨ad, A8, c8, e, hA, he, h0', h1, h2, h3, h4, h5, h6, h7, h8, hc, hC⟩ := at_ex h hn k.toNat (by omega)
  exact ⟨ad, A8, c8, e, hA, he, ⟨h0', h1, h2, h3, h4, h5, h6, h7, h8⟩, hc, hC⟩
theorem at_N {W : World} {base : Nat} {ok : Nat → Prop} {g n cap : Nat} {ys : List Ex} (h : Kd.N KX TX W base ok (.slice (some ⟨g, 0, none⟩) n cap) ys) (a : Addr) (k : Nat) (ha : a = ⟨g, k * 9, none⟩) (j : Nat) (hj : k + j < n) :
    ∃ A8 c8 e, ys[k + j]? = some e ∧ (W.cell? (a.add (j * 9)) = some (.int .i64 e.f0) ∧ W.cell? ⟨(a.add (j * 9)).block, (a.add (j * 9)).off + 1, none⟩ = some (.int .i64 e.f1.f0) ∧ W.cell? ⟨(a.add (j * 9)).block, (a.add (j * 9)).off + 2, none⟩ = some (.int .i64 e.f1.f1) ∧ W.cell? ⟨(a.add (j * 9)).block, (a.add (j * 9)).off + 3, none⟩ = some (.string e.f1.f2) ∧ W.cell? ⟨(a.add (j * 9)).block, (a.add (j * 9)).off + 4, none⟩ = some (.int .i64 e.f2) ∧ W.cell? ⟨(a.add (j * 9)).block, (a.add (j * 9)).off + 5, none⟩ = some (.int .i64 e.f3) ∧ W.cell? ⟨(a.add (j * 9)).block, (a.add (j * 9)).off + 6, none⟩ = some (.int .i64 e.f4) ∧ W.cell? ⟨(a.add (j * 9)).block, (a.add (j * 9)).off + 7, none⟩ = some (.string e.f5) ∧ W.cell? ⟨(a.add (j * 9)).block, (a.add (j * 9)).off + 8, none⟩ = some (.slice A8 e.f6.length c8)) ∧ e.f6.length ≤ c8 ∧ KX.C W A8 e.f6.length e.f6 ∧ Kd.FK KX W (fun b => ok b ∧ b ≠ g) e [.int .i64 e.f0, .int .i64 e.f1.f0, .int .i64 e.f1.f1, .string e.f1.f2, .int .i64 e.f2, .int .i64 e.f3, .int .i64 e.f4, .string e.f5, .slice A8 e.f6.length c8] := by
  subst ha
  have hn := (Kd.N_reads' h).1
  obtain ⟨c, hcl, hF, hcc, _⟩ := Kd.N_elem h z26 ((k + j : Nat) : Int) (by omega) (by omega)
  obtain ⟨A8, c8, rfl, l8, g8⟩ := k26_openF hF
  have hi : (((k + j : Nat) : Int)).toNat = k + j := by omega
  rw [hi] at hcc hF g8 l8
  have hy : ys[k + j]? = some (ys.getD (k + j) z26) := by
    rw [List.getD_eq_getElem?_getD, List.getElem?_eq_getElem (by omega)]; rfl
  have e0 : ∀ t, (k + j) * KX.sz + t = k * 9 + j * 9 + t := fun t => by show (k + j) * 9 + t = _; omega
  refine ⟨A8, c8, _, hy, ⟨?_, ?_, ?_, ?_, ?_, ?_, ?_, ?_, ?_⟩, l8, Kd.F_now g8, hF⟩
  · have h2 := hcc 0 _ rfl; rw [e0] at h2; rw [add_at]; exact h2
  · have h2 := hcc 1 _ rfl; rw [e0] at h2; rw [add_at]; exact h2
  · have h2 := hcc 2 _ rfl; rw [e0] at h2; rw [add_at]; exact h2
  · have h2 := hcc 3 _ rfl; rw [e0] at h2; rw [add_at]; exact h2
  · have h2 := hcc 4 _ rfl; rw [e0] at h2; rw [add_at]; exact h2
  · have h2 := hcc 5 _ rfl; rw [e0] at h2; rw [add_at]; exact h2
  · have h2 := hcc 6 _ rfl; rw [e0] at h2; rw [add_at]; exact h2
  · have h2 := hcc 7 _ rfl; rw [e0] at h2; rw [add_at]; exact h2
  · have h2 := hcc 8 _ rfl; rw [e0] at h2; rw [add_at]; exact h2
theorem N_block {w : World} {base : Nat} {ok : Nat → Prop} {g n cap : Nat} {xs : List Ex} (h : Kd.N KX TX w base ok (.slice (some ⟨g, 0, none⟩) n cap) xs) :
    ∃ cur : Array Value, w.heap[g]? = some (.cells cur TX (0, 0)) ∧ n * 9 ≤ cur.size := by
  obtain ⟨h0, rows, hl, ⟨hR1, inner, ho, hr⟩, hf⟩ := h
  obtain ⟨hil, ho⟩ := ho
  rcases ho with ⟨he, _⟩ | ⟨g', cap', cur, he, hg, hh, hn, hm, hs, ht⟩
  · cases he
  injection he with h1 h2 h3
  injection h1 with h1
  injection h1 with h1 _ _
  subst h1 h3
  refine ⟨cur, hh, ?_⟩
  have h9 := Nat.mul_le_mul_right 9 hn
  rw [← h2] at h9
  exact Nat.le_trans h9 (Nat.le_of_eq hs.symm)
theorem zero_run (w : World) : (zeroValue 26).run Tryz.prog w = .ok (.agg zerosE) w := by go_simp; rfl
theorem clear_run {w : World} {base : Nat} {ok : Nat → Prop} {g n cap : Nat} {xs : List Ex} (h : Kd.N KX TX w base ok (.slice (some ⟨g, 0, none⟩) n cap) xs) (k c : Nat) (hk : k < n) :
    (Builtin.clear_ #[24] 0 #[.slice (some ⟨g, k * 9, none⟩) (n - k) c]).run Tryz.prog w = .ok (.tuple #[]) (w.setCells g (k * 9) (Builtin.zeroCells (zerosE : Array Value) (n - k)).toList) := by
  obtain ⟨cur, hh, hs⟩ := N_block h
  have hz : (Value.agg zerosE).cells = zerosE := rfl
  have h9 : (Value.agg zerosE).cells.size = 9 := rfl
  have hr := run_clear_rows (P := Tryz.prog) w 24 26 0 (.agg zerosE) Tryz.underlying24 zero_run (by rw [hz]; intro v hv; simp [zerosE] at hv; rcases hv with rfl | rfl | rfl | rfl | rfl <;> rfl) (by rw [h9]; decide) g (k * 9) (n - k) c (by omega)
    (fun j hj => by
      rw [h9] at hj
      rw [bkC hh, Option.isSome_iff_exists]
      exact ⟨_, Array.getElem?_eq_getElem (by omega)⟩)
    (fun j hj => bkF hh _)
  exact hr
set_option maxHeartbeats 2000000 in
set_option maxRecDepth 100000 in
theorem compact_ok {w0 w : World} {base : Nat} {ok : Nat → Prop} {g n cap : Nat} {xs : List Ex} (hT : TabW w0) (hB : Below w0.heap.size w0 w) (hb : w0.heap.size ≤ base) (hrg : ∀ x ∈ xs, rngF x = true) (hsz : n ≤ 4611686018427387904)
    (hN : Kd.N KX TX w base ok (.slice (some ⟨g, 0, none⟩) n cap) xs) :
    Calls Tryz.prog 72 #[.slice (some ⟨g, 0, none⟩) n cap, .func (.func 73) #[] #[]] w fun e w' => ∃ v, e = .returned v ∧ Kd.N KX TX w' base ok v (compF xs) ∧ Below w0.heap.size w0 w' := by
  have hln : xs.length = n := (Kd.N_reads' hN).1.symm
  obtain ⟨ad, had⟩ : ∃ ad, (⟨g, 0, none⟩ : Addr) = ad := ⟨_, rfl⟩
  have HAD := Lib.hid had; have HN := Lib.hid hN; have HT := Lib.hid hT; have HB := Lib.hid hB; have HLN := Lib.hid hln; have HRG := Lib.hid hrg
  rw [had] at HN ⊢
  clear hT hB hrg hN hln had
  have HS : Hid (∀ (e d : Ex) (A D : Option Addr) (c k : Nat) (W : World), e ∈ xs → d ∈ xs → Below w0.heap.size w0 W → e.f6.length ≤ c → d.f6.length ≤ k → KX.C W A e.f6.length e.f6 → KX.C W D d.f6.length d.f6 → Calls Tryz.prog 73 #[.agg #[.int .i64 e.f0, .int .i64 e.f1.f0, .int .i64 e.f1.f1, .string e.f1.f2, .int .i64 e.f2, .int .i64 e.f3, .int .i64 e.f4, .string e.f5, .slice A e.f6.length c], .agg #[.int .i64 d.f0, .int .i64 d.f1.f0, .int .i64 d.f1.f1, .string d.f1.f2, .int .i64 d.f2, .int .i64 d.f3, .int .i64 d.f4, .string d.f5, .slice D d.f6.length k]] W fun r w' => r = .returned (.bool (sameT e d)) ∧ Below W.heap.size W w') := Lib.hid (fun e d A D c k W he hd hW hc hk hC hD => same_ok e d A D c k W (tab_at HT.out hW) (HRG.out e he) (HRG.out d hd) hC hc hD hk)
  go_enter Tryz.func72, Tryz.ntmps72
  by_cases h2 : (n : Int) < 2
  · go_wp2_with fail
    go_ret
    refine ⟨_, rfl, ?_, HB.out⟩
    have h := HN.out
    have hx := HLN.out
    match xs, hx, h with
    | [], _, h => exact h
    | [x], _, h => rw [compF_one]; exact h
    | _ :: _ :: _, hx, _ => simp at hx; omega
  go_upto_region 4 with fail
  go_loopw [5] (fun v5 wr => ∃ k : Int, 1 ≤ k ∧ k ≤ n ∧ v5 = .int .i64 k ∧ Hid (compF (xs.take k.toNat) = xs.take k.toNat) ∧ Hid (Kd.N KX TX wr base ok (.slice (some ad) n cap) xs) ∧ Hid (Below w0.heap.size w0 wr)) (fun i _ => n - (intOf i).toNat)
  case atStart =>
    refine ⟨1, by omega, by omega, rfl, Lib.hid ?_, HN, HB⟩
    have hx := HLN.out
    match xs, hx with
    | [], hx => simp at hx; omega
    | x :: l, _ => exact compF_one x
  case round =>
    obtain ⟨k, hk1, hkn, rfl, HK, HN1, HB1⟩ := hrel
    by_cases hlt : k < n
    · have hw1 : IntKind.i64.wrap (k + 1) = k + 1 := IntWalk.i64_in _ (by omega)
      have hw2 : IntKind.i64.wrap (k - 1) = k - 1 := IntWalk.i64_in _ (by omega)
      have hk0 : 0 ≤ k := by omega
      have hkm : 0 ≤ k - 1 := by omega
      have hkl : k - 1 < n := by omega
      obtain ⟨a1, A1, c1, e1, ha1, he1, hc1, hl1, hC1⟩ := at_exI (Kd.N_reads' HN1.out).2.2 rfl k hk0 (by rw [HLN.out]; exact hlt)
      obtain rfl := Option.some.inj ha1
      obtain ⟨a2, A2, c2, e2, ha2, he2, hc2, hl2, hC2⟩ := at_exI (Kd.N_reads' HN1.out).2.2 rfl (k - 1) hkm (by rw [HLN.out]; exact hkl)
      obtain rfl := Option.some.inj ha2
      rw [show (k - 1).toNat = k.toNat - 1 by omega] at hc2 he2
      have HE1 := Lib.hid he1; have HE2 := Lib.hid he2
      have HTR : Hid (∀ R : Ending → World → Prop, (∀ r w'', r = .returned (.bool (sameT e1 e2)) ∧ Below wr.drew.heap.size wr.drew w'' → R r w'') → Calls Tryz.prog 73 #[.agg #[.int .i64 e1.f0, .int .i64 e1.f1.f0, .int .i64 e1.f1.f1, .string e1.f1.f2, .int .i64 e1.f2, .int .i64 e1.f3, .int .i64 e1.f4, .string e1.f5, .slice A1 e1.f6.length c1], .agg #[.int .i64 e2.f0, .int .i64 e2.f1.f0, .int .i64 e2.f1.f1, .string e2.f1.f2, .int .i64 e2.f2, .int .i64 e2.f3, .int .i64 e2.f4, .string e2.f5, .slice A2 e2.f6.length c2]] wr.drew R) := Lib.hid (fun R hR => (HS.out e1 e2 A1 A2 c1 c2 wr.drew (List.mem_of_getElem? he1) (List.mem_of_getElem? he2) (below_drew HB1.out) hl1 hl2 (Kd.C_drew hC1) (Kd.C_drew hC2)).mono hR)
      have hcf : ∀ (args : Array Value) (W : World), (callFunc 73 args).run Tryz.prog W = .ok (.enter 73 args) W := hcfSame
      obtain ⟨sv, hsv⟩ : ∃ sv, sameT e1 e2 = sv := ⟨_, rfl⟩
      rw [hsv] at HTR
      have HSV := Lib.hid hsv
      clear ha1 ha2 he1 he2 hC1 hC2 hsv
      have hd1 : wr.drew.cell? (ad.add (k.toNat * 9)) = some (.int .i64 e1.f0) ∧ wr.drew.cell? ⟨(ad.add (k.toNat * 9)).block, (ad.add (k.toNat * 9)).off + 1, none⟩ = some (.int .i64 e1.f1.f0) ∧ wr.drew.cell? ⟨(ad.add (k.toNat * 9)).block, (ad.add (k.toNat * 9)).off + 2, none⟩ = some (.int .i64 e1.f1.f1) ∧ wr.drew.cell? ⟨(ad.add (k.toNat * 9)).block, (ad.add (k.toNat * 9)).off + 3, none⟩ = some (.string e1.f1.f2) ∧ wr.drew.cell? ⟨(ad.add (k.toNat * 9)).block, (ad.add (k.toNat * 9)).off + 4, none⟩ = some (.int .i64 e1.f2) ∧ wr.drew.cell? ⟨(ad.add (k.toNat * 9)).block, (ad.add (k.toNat * 9)).off + 5, none⟩ = some (.int .i64 e1.f3) ∧ wr.drew.cell? ⟨(ad.add (k.toNat * 9)).block, (ad.add (k.toNat * 9)).off + 6, none⟩ = some (.int .i64 e1.f4) ∧ wr.drew.cell? ⟨(ad.add (k.toNat * 9)).block, (ad.add (k.toNat * 9)).off + 7, none⟩ = some (.string e1.f5) ∧ wr.drew.cell? ⟨(ad.add (k.toNat * 9)).block, (ad.add (k.toNat * 9)).off + 8, none⟩ = some (.slice A1 e1.f6.length c1) := hc1
      have hd2 : wr.drew.cell? (ad.add ((k.toNat - 1) * 9)) = some (.int .i64 e2.f0) ∧ wr.drew.cell? ⟨(ad.add ((k.toNat - 1) * 9)).block, (ad.add ((k.toNat - 1) * 9)).off + 1, none⟩ = some (.int .i64 e2.f1.f0) ∧ wr.drew.cell? ⟨(ad.add ((k.toNat - 1) * 9)).block, (ad.add ((k.toNat - 1) * 9)).off + 2, none⟩ = some (.int .i64 e2.f1.f1) ∧ wr.drew.cell? ⟨(ad.add ((k.toNat - 1) * 9)).block, (ad.add ((k.toNat - 1) * 9)).off + 3, none⟩ = some (.string e2.f1.f2) ∧ wr.drew.cell? ⟨(ad.add ((k.toNat - 1) * 9)).block, (ad.add ((k.toNat - 1) * 9)).off + 4, none⟩ = some (.int .i64 e2.f2) ∧ wr.drew.cell? ⟨(ad.add ((k.toNat - 1) * 9)).block, (ad.add ((k.toNat - 1) * 9)).off + 5, none⟩ = some (.int .i64 e2.f3) ∧ wr.drew.cell? ⟨(ad.add ((k.toNat - 1) * 9)).block, (ad.add ((k.toNat - 1) * 9)).off + 6, none⟩ = some (.int .i64 e2.f4) ∧ wr.drew.cell? ⟨(ad.add ((k.toNat - 1) * 9)).block, (ad.add ((k.toNat - 1) * 9)).off + 7, none⟩ = some (.string e2.f5) ∧ wr.drew.cell? ⟨(ad.add ((k.toNat - 1) * 9)).block, (ad.add ((k.toNat - 1) * 9)).off + 8, none⟩ = some (.slice A2 e2.f6.length c2) := hc2
      go_upto_region 6 with fail
      obtain ⟨p0, p1, p2, p3, p4, p5, p6, p7, p8⟩ := hc1
      obtain ⟨q0, q1, q2, q3, q4, q5, q6, q7, q8⟩ := hc2
      obtain ⟨r0, r1, r2, r3, r4, r5, r6, r7, r8⟩ := hd1
      obtain ⟨s0, s1, s2, s3, s4, s5, s6, s7, s8⟩ := hd2
      go_region_held3 (fun w' => (w'.cell? (ad.add (k.toNat * 9)) = some (.int .i64 e1.f0) ∧ w'.cell? ⟨(ad.add (k.toNat * 9)).block, (ad.add (k.toNat * 9)).off + 1, none⟩ = some (.int .i64 e1.f1.f0) ∧ w'.cell? ⟨(ad.add (k.toNat * 9)).block, (ad.add (k.toNat * 9)).off + 2, none⟩ = some (.int .i64 e1.f1.f1) ∧ w'.cell? ⟨(ad.add (k.toNat * 9)).block, (ad.add (k.toNat * 9)).off + 3, none⟩ = some (.string e1.f1.f2) ∧ w'.cell? ⟨(ad.add (k.toNat * 9)).block, (ad.add (k.toNat * 9)).off + 4, none⟩ = some (.int .i64 e1.f2) ∧ w'.cell? ⟨(ad.add (k.toNat * 9)).block, (ad.add (k.toNat * 9)).off + 5, none⟩ = some (.int .i64 e1.f3) ∧ w'.cell? ⟨(ad.add (k.toNat * 9)).block, (ad.add (k.toNat * 9)).off + 6, none⟩ = some (.int .i64 e1.f4) ∧ w'.cell? ⟨(ad.add (k.toNat * 9)).block, (ad.add (k.toNat * 9)).off + 7, none⟩ = some (.string e1.f5) ∧ w'.cell? ⟨(ad.add (k.toNat * 9)).block, (ad.add (k.toNat * 9)).off + 8, none⟩ = some (.slice A1 e1.f6.length c1)) ∧ w'.cell? (ad.add ((k.toNat - 1) * 9)) = some (.int .i64 e2.f0) ∧ w'.cell? ⟨(ad.add ((k.toNat - 1) * 9)).block, (ad.add ((k.toNat - 1) * 9)).off + 1, none⟩ = some (.int .i64 e2.f1.f0) ∧ w'.cell? ⟨(ad.add ((k.toNat - 1) * 9)).block, (ad.add ((k.toNat - 1) * 9)).off + 2, none⟩ = some (.int .i64 e2.f1.f1) ∧ w'.cell? ⟨(ad.add ((k.toNat - 1) * 9)).block, (ad.add ((k.toNat - 1) * 9)).off + 3, none⟩ = some (.string e2.f1.f2) ∧ w'.cell? ⟨(ad.add ((k.toNat - 1) * 9)).block, (ad.add ((k.toNat - 1) * 9)).off + 4, none⟩ = some (.int .i64 e2.f2) ∧ w'.cell? ⟨(ad.add ((k.toNat - 1) * 9)).block, (ad.add ((k.toNat - 1) * 9)).off + 5, none⟩ = some (.int .i64 e2.f3) ∧ w'.cell? ⟨(ad.add ((k.toNat - 1) * 9)).block, (ad.add ((k.toNat - 1) * 9)).off + 6, none⟩ = some (.int .i64 e2.f4) ∧ w'.cell? ⟨(ad.add ((k.toNat - 1) * 9)).block, (ad.add ((k.toNat - 1) * 9)).off + 7, none⟩ = some (.string e2.f5) ∧ w'.cell? ⟨(ad.add ((k.toNat - 1) * 9)).block, (ad.add ((k.toNat - 1) * 9)).off + 8, none⟩ = some (.slice A2 e2.f6.length c2)) (go_keep) (first
        | (with_reducible refine HTR.out _ ?_; rintro r w3 ⟨rfl, hB3⟩; have t0 := pw_cell_below hB3 r0; have t1 := pw_cell_below hB3 r1; have t2 := pw_cell_below hB3 r2; have t3 := pw_cell_below hB3 r3; have t4 := pw_cell_below hB3 r4; have t5 := pw_cell_below hB3 r5; have t6 := pw_cell_below hB3 r6; have t7 := pw_cell_below hB3 r7; have t8 := pw_cell_below hB3 r8; have u0 := pw_cell_below hB3 s0; have u1 := pw_cell_below hB3 s1; have u2 := pw_cell_below hB3 s2; have u3 := pw_cell_below hB3 s3; have u4 := pw_cell_below hB3 s4; have u5 := pw_cell_below hB3 s5; have u6 := pw_cell_below hB3 s6; have u7 := pw_cell_below hB3 s7; have u8 := pw_cell_below hB3 s8)
        | (go_at_call 73; with_reducible refine HTR.out _ ?_; rintro r w3 ⟨rfl, hB3⟩; have t0 := pw_cell_below hB3 r0; have t1 := pw_cell_below hB3 r1; have t2 := pw_cell_below hB3 r2; have t3 := pw_cell_below hB3 r3; have t4 := pw_cell_below hB3 r4; have t5 := pw_cell_below hB3 r5; have t6 := pw_cell_below hB3 r6; have t7 := pw_cell_below hB3 r7; have t8 := pw_cell_below hB3 r8; have u0 := pw_cell_below hB3 s0; have u1 := pw_cell_below hB3 s1; have u2 := pw_cell_below hB3 s2; have u3 := pw_cell_below hB3 s3; have u4 := pw_cell_below hB3 s4; have u5 := pw_cell_below hB3 s5; have u6 := pw_cell_below hB3 s6; have u7 := pw_cell_below hB3 s7; have u8 := pw_cell_below hB3 s8))
      clear p0 p1 p2 p3 p4 p5 p6 p7 p8 q0 q1 q2 q3 q4 q5 q6 q7 q8
      clear r0 r1 r2 r3 r4 r5 r6 r7 r8 s0 s1 s2 s3 s4 s5 s6 s7 s8 t0 t1 t2 t3 t4 t5 t6 t7 t8 u0 u1 u2 u3 u4 u5 u6 u7 u8 HTR hcf
      have HB3 : Hid (Below w0.heap.size w0 w3) := Lib.hid (HB1.out.trans ((⟨hB3.os, hB3.tape, hB3.output, hB3.size, hB3.block⟩ : Below wr.heap.size wr w3).mono HB1.out.size))
      have HN3 : Hid (Kd.N KX TX w3 base ok (.slice (some ad) n cap) xs) := Lib.hid (Kd.N_below HN1.out ⟨hB3.os, hB3.tape, hB3.output, hB3.size, hB3.block⟩)
      clear hB3 HB1 HN1
      have hkx : k.toNat < xs.length := by rw [HLN.out]; omega
      have hsn := compF_snoc xs k.toNat (by omega) hkx
      have hx1 : xs[k.toNat] = e1 := by have h := HE1.out; rw [List.getElem?_eq_getElem hkx] at h; exact Option.some.inj h
      have hx2 : xs[k.toNat - 1] = e2 := by have h := HE2.out; rw [List.getElem?_eq_getElem (by omega)] at h; exact Option.some.inj h
      rw [hx1, hx2, HSV.out, HK.out] at hsn
      have HSN := Lib.hid hsn
      clear hsn hx1 hx2 hkx
      cases sv
      · go_wp2_with fail
        go_roundw
        case rel =>
          refine ⟨k + 1, by omega, by omega, by go_num, Lib.hid ?_, HN3, HB3⟩
          have h := HSN.out
          rw [if_neg (by decide)] at h
          rw [show (k + 1).toNat = k.toNat + 1 by omega, h, List.take_add_one, HE1.out]
          rfl
        case measure => simp [intOf]; omega
      · have hcap : n ≤ cap := (Kd.N_reads' HN3.out).2.1
        have hck : ¬ cap = k.toNat := by omega
        go_upto_region 9 with fail
        obtain ⟨a2, ha2⟩ : ∃ a2, ad.add (k.toNat * 9) = a2 := ⟨_, rfl⟩
        obtain ⟨m, hm⟩ : ∃ m, n - k.toNat = m := ⟨_, rfl⟩
        rw [ha2, hm]
        have HA2 : Hid (a2 = ⟨g, k.toNat * 9, none⟩) := Lib.hid (by rw [← ha2, ← HAD.out, add_at, Nat.zero_add])
        have HMK : Hid ((m : Int) = n - k) := Lib.hid (by omega)
        have HSN2 : Hid (xs.take k.toNat = compF (xs.take (k.toNat + 1))) := Lib.hid (by rw [HSN.out, if_pos trivial, List.append_nil])
        clear ha2 hm HSN HK HE1 HE2 HSV hw1 hw2
        go_loopw [5, 7] (fun v5 v7 wr => ∃ (k2 j : Int) (ys : List Ex), 1 ≤ k2 ∧ k2 ≤ k + j - 1 ∧ 1 ≤ j ∧ j ≤ m ∧ v5 = .int .i64 k2 ∧ v7 = .int .i64 j ∧ Hid (ys.length = n) ∧ Hid (ys.take k2.toNat = compF (xs.take (k.toNat + j.toNat))) ∧ Hid (ys.drop (k.toNat + j.toNat - 1) = xs.drop (k.toNat + j.toNat - 1)) ∧ Hid (Kd.N KX TX wr base ok (.slice (some ⟨g, 0, none⟩) n cap) ys) ∧ Hid (Below w0.heap.size w0 wr)) (fun _ j _ => m - (intOf j).toNat)
        case atStart =>
          have hmk := HMK.out
          exact ⟨k, 1, xs, by omega, by omega, by omega, by omega, rfl, rfl, HLN, HSN2, Lib.hid rfl, Lib.hid (by rw [HAD.out]; exact HN3.out), HB3⟩
        case round =>
          obtain ⟨k2, j, ys, hk21, hk2j, hj1, hjm, rfl, rfl, HYL, HYT, HYD, HNY, HBY⟩ := hrel
          have hmk := HMK.out
          by_cases hjl : j < m
          · have hw1 : IntKind.i64.wrap (j + 1) = j + 1 := IntWalk.i64_in _ (by omega)
            have hw2 : IntKind.i64.wrap (j - 1) = j - 1 := IntWalk.i64_in _ (by omega)
            have hw3 : IntKind.i64.wrap (k2 + 1) = k2 + 1 := IntWalk.i64_in _ (by omega)
            have hk0 : 0 ≤ j := by omega
            have hkm : 0 ≤ j - 1 := by omega
            have hkl : j - 1 < m := by omega
            have h20 : 0 ≤ k2 := by omega
            have h2n : k2 < n := by omega
            obtain ⟨A1, c1, e1, he1, hc1, hl1, hC1, hF1⟩ := at_N HNY.out a2 k.toNat HA2.out j.toNat (by omega)
            obtain ⟨A2, c2, e2, he2, hc2, hl2, hC2, _⟩ := at_N HNY.out a2 k.toNat HA2.out (j.toNat - 1) (by omega)
            have hx1 : xs[k.toNat + j.toNat]? = some e1 := by
              have h := congrArg (fun l => l[1]?) HYD.out
              simp only [List.getElem?_drop] at h
              rw [show k.toNat + j.toNat - 1 + 1 = k.toNat + j.toNat by omega, he1] at h
              exact h.symm
            have hx2 : xs[k.toNat + j.toNat - 1]? = some e2 := by
              have h := congrArg (fun l => l[0]?) HYD.out
              simp only [List.getElem?_drop, Nat.add_zero] at h
              rw [← h, ← he2]; congr 1; omega
            have HTR : Hid (∀ R : Ending → World → Prop, (∀ r w'', r = .returned (.bool (sameT e1 e2)) ∧ Below wr.drew.heap.size wr.drew w'' → R r w'') → Calls Tryz.prog 73 #[.agg #[.int .i64 e1.f0, .int .i64 e1.f1.f0, .int .i64 e1.f1.f1, .string e1.f1.f2, .int .i64 e1.f2, .int .i64 e1.f3, .int .i64 e1.f4, .string e1.f5, .slice A1 e1.f6.length c1], .agg #[.int .i64 e2.f0, .int .i64 e2.f1.f0, .int .i64 e2.f1.f1, .string e2.f1.f2, .int .i64 e2.f2, .int .i64 e2.f3, .int .i64 e2.f4, .string e2.f5, .slice A2 e2.f6.length c2]] wr.drew R) := Lib.hid (fun R hR => (HS.out e1 e2 A1 A2 c1 c2 wr.drew (List.mem_of_getElem? hx1) (List.mem_of_getElem? hx2) (below_drew HBY.out) hl1 hl2 (Kd.C_drew hC1) (Kd.C_drew hC2)).mono hR)
            obtain ⟨sv, hsv⟩ : ∃ sv, sameT e1 e2 = sv := ⟨_, rfl⟩
            rw [hsv] at HTR
            have HX1 := Lib.hid hx1
            have HF1 := Lib.hid hF1
            have HCM : Hid (compF (xs.take (k.toNat + j.toNat + 1)) = ys.take k2.toNat ++ (if sv = true then [] else [e1])) := Lib.hid (by
              have hkx : k.toNat + j.toNat < xs.length := by rw [HLN.out]; omega
              have hsn := compF_snoc xs (k.toNat + j.toNat) (by omega) hkx
              have h1 : xs[k.toNat + j.toNat] = e1 := by rw [List.getElem?_eq_getElem hkx] at hx1; exact Option.some.inj hx1
              have h2 : xs[k.toNat + j.toNat - 1] = e2 := by rw [List.getElem?_eq_getElem (by omega)] at hx2; exact Option.some.inj hx2
              rw [h1, h2, hsv, ← HYT.out] at hsn
              exact hsn)
            clear he1 he2 hC1 hC2 hsv hx1 hx2 hF1
            clear hmk
            have hd1 : wr.drew.cell? (a2.add (j.toNat * 9)) = some (.int .i64 e1.f0) ∧ wr.drew.cell? ⟨(a2.add (j.toNat * 9)).block, (a2.add (j.toNat * 9)).off + 1, none⟩ = some (.int .i64 e1.f1.f0) ∧ wr.drew.cell? ⟨(a2.add (j.toNat * 9)).block, (a2.add (j.toNat * 9)).off + 2, none⟩ = some (.int .i64 e1.f1.f1) ∧ wr.drew.cell? ⟨(a2.add (j.toNat * 9)).block, (a2.add (j.toNat * 9)).off + 3, none⟩ = some (.string e1.f1.f2) ∧ wr.drew.cell? ⟨(a2.add (j.toNat * 9)).block, (a2.add (j.toNat * 9)).off + 4, none⟩ = some (.int .i64 e1.f2) ∧ wr.drew.cell? ⟨(a2.add (j.toNat * 9)).block, (a2.add (j.toNat * 9)).off + 5, none⟩ = some (.int .i64 e1.f3) ∧ wr.drew.cell? ⟨(a2.add (j.toNat * 9)).block, (a2.add (j.toNat * 9)).off + 6, none⟩ = some (.int .i64 e1.f4) ∧ wr.drew.cell? ⟨(a2.add (j.toNat * 9)).block, (a2.add (j.toNat * 9)).off + 7, none⟩ = some (.string e1.f5) ∧ wr.drew.cell? ⟨(a2.add (j.toNat * 9)).block, (a2.add (j.toNat * 9)).off + 8, none⟩ = some (.slice A1 e1.f6.length c1) := hc1
            have hd2 : wr.drew.cell? (a2.add ((j.toNat - 1) * 9)) = some (.int .i64 e2.f0) ∧ wr.drew.cell? ⟨(a2.add ((j.toNat - 1) * 9)).block, (a2.add ((j.toNat - 1) * 9)).off + 1, none⟩ = some (.int .i64 e2.f1.f0) ∧ wr.drew.cell? ⟨(a2.add ((j.toNat - 1) * 9)).block, (a2.add ((j.toNat - 1) * 9)).off + 2, none⟩ = some (.int .i64 e2.f1.f1) ∧ wr.drew.cell? ⟨(a2.add ((j.toNat - 1) * 9)).block, (a2.add ((j.toNat - 1) * 9)).off + 3, none⟩ = some (.string e2.f1.f2) ∧ wr.drew.cell? ⟨(a2.add ((j.toNat - 1) * 9)).block, (a2.add ((j.toNat - 1) * 9)).off + 4, none⟩ = some (.int .i64 e2.f2) ∧ wr.drew.cell? ⟨(a2.add ((j.toNat - 1) * 9)).block, (a2.add ((j.toNat - 1) * 9)).off + 5, none⟩ = some (.int .i64 e2.f3) ∧ wr.drew.cell? ⟨(a2.add ((j.toNat - 1) * 9)).block, (a2.add ((j.toNat - 1) * 9)).off + 6, none⟩ = some (.int .i64 e2.f4) ∧ wr.drew.cell? ⟨(a2.add ((j.toNat - 1) * 9)).block, (a2.add ((j.toNat - 1) * 9)).off + 7, none⟩ = some (.string e2.f5) ∧ wr.drew.cell? ⟨(a2.add ((j.toNat - 1) * 9)).block, (a2.add ((j.toNat - 1) * 9)).off + 8, none⟩ = some (.slice A2 e2.f6.length c2) := hc2
            go_upto_region 11 with fail
            obtain ⟨p0, p1, p2, p3, p4, p5, p6, p7, p8⟩ := hc1
            obtain ⟨q0, q1, q2, q3, q4, q5, q6, q7, q8⟩ := hc2
            obtain ⟨r0, r1, r2, r3, r4, r5, r6, r7, r8⟩ := hd1
            obtain ⟨s0, s1, s2, s3, s4, s5, s6, s7, s8⟩ := hd2
            go_region_held3 (fun w' => (w'.cell? (a2.add (j.toNat * 9)) = some (.int .i64 e1.f0) ∧ w'.cell? ⟨(a2.add (j.toNat * 9)).block, (a2.add (j.toNat * 9)).off + 1, none⟩ = some (.int .i64 e1.f1.f0) ∧ w'.cell? ⟨(a2.add (j.toNat * 9)).block, (a2.add (j.toNat * 9)).off + 2, none⟩ = some (.int .i64 e1.f1.f1) ∧ w'.cell? ⟨(a2.add (j.toNat * 9)).block, (a2.add (j.toNat * 9)).off + 3, none⟩ = some (.string e1.f1.f2) ∧ w'.cell? ⟨(a2.add (j.toNat * 9)).block, (a2.add (j.toNat * 9)).off + 4, none⟩ = some (.int .i64 e1.f2) ∧ w'.cell? ⟨(a2.add (j.toNat * 9)).block, (a2.add (j.toNat * 9)).off + 5, none⟩ = some (.int .i64 e1.f3) ∧ w'.cell? ⟨(a2.add (j.toNat * 9)).block, (a2.add (j.toNat * 9)).off + 6, none⟩ = some (.int .i64 e1.f4) ∧ w'.cell? ⟨(a2.add (j.toNat * 9)).block, (a2.add (j.toNat * 9)).off + 7, none⟩ = some (.string e1.f5) ∧ w'.cell? ⟨(a2.add (j.toNat * 9)).block, (a2.add (j.toNat * 9)).off + 8, none⟩ = some (.slice A1 e1.f6.length c1)) ∧ w'.cell? (a2.add ((j.toNat - 1) * 9)) = some (.int .i64 e2.f0) ∧ w'.cell? ⟨(a2.add ((j.toNat - 1) * 9)).block, (a2.add ((j.toNat - 1) * 9)).off + 1, none⟩ = some (.int .i64 e2.f1.f0) ∧ w'.cell? ⟨(a2.add ((j.toNat - 1) * 9)).block, (a2.add ((j.toNat - 1) * 9)).off + 2, none⟩ = some (.int .i64 e2.f1.f1) ∧ w'.cell? ⟨(a2.add ((j.toNat - 1) * 9)).block, (a2.add ((j.toNat - 1) * 9)).off + 3, none⟩ = some (.string e2.f1.f2) ∧ w'.cell? ⟨(a2.add ((j.toNat - 1) * 9)).block, (a2.add ((j.toNat - 1) * 9)).off + 4, none⟩ = some (.int .i64 e2.f2) ∧ w'.cell? ⟨(a2.add ((j.toNat - 1) * 9)).block, (a2.add ((j.toNat - 1) * 9)).off + 5, none⟩ = some (.int .i64 e2.f3) ∧ w'.cell? ⟨(a2.add ((j.toNat - 1) * 9)).block, (a2.add ((j.toNat - 1) * 9)).off + 6, none⟩ = some (.int .i64 e2.f4) ∧ w'.cell? ⟨(a2.add ((j.toNat - 1) * 9)).block, (a2.add ((j.toNat - 1) * 9)).off + 7, none⟩ = some (.string e2.f5) ∧ w'.cell? ⟨(a2.add ((j.toNat - 1) * 9)).block, (a2.add ((j.toNat - 1) * 9)).off + 8, none⟩ = some (.slice A2 e2.f6.length c2)) (go_keep) (first
              | (with_reducible refine HTR.out _ ?_; rintro r w5 ⟨rfl, hB5⟩; have t0 := pw_cell_below hB5 r0; have t1 := pw_cell_below hB5 r1; have t2 := pw_cell_below hB5 r2; have t3 := pw_cell_below hB5 r3; have t4 := pw_cell_below hB5 r4; have t5 := pw_cell_below hB5 r5; have t6 := pw_cell_below hB5 r6; have t7 := pw_cell_below hB5 r7; have t8 := pw_cell_below hB5 r8; have u0 := pw_cell_below hB5 s0; have u1 := pw_cell_below hB5 s1; have u2 := pw_cell_below hB5 s2; have u3 := pw_cell_below hB5 s3; have u4 := pw_cell_below hB5 s4; have u5 := pw_cell_below hB5 s5; have u6 := pw_cell_below hB5 s6; have u7 := pw_cell_below hB5 s7; have u8 := pw_cell_below hB5 s8)
              | (go_at_call 73; with_reducible refine HTR.out _ ?_; rintro r w5 ⟨rfl, hB5⟩; have t0 := pw_cell_below hB5 r0; have t1 := pw_cell_below hB5 r1; have t2 := pw_cell_below hB5 r2; have t3 := pw_cell_below hB5 r3; have t4 := pw_cell_below hB5 r4; have t5 := pw_cell_below hB5 r5; have t6 := pw_cell_below hB5 r6; have t7 := pw_cell_below hB5 r7; have t8 := pw_cell_below hB5 r8; have u0 := pw_cell_below hB5 s0; have u1 := pw_cell_below hB5 s1; have u2 := pw_cell_below hB5 s2; have u3 := pw_cell_below hB5 s3; have u4 := pw_cell_below hB5 s4; have u5 := pw_cell_below hB5 s5; have u6 := pw_cell_below hB5 s6; have u7 := pw_cell_below hB5 s7; have u8 := pw_cell_below hB5 s8))
            have hbb : Below wr.heap.size wr w5 := ⟨hB5.os, hB5.tape, hB5.output, hB5.size, hB5.block⟩
            have HB5 : Hid (Below w0.heap.size w0 w5) := Lib.hid (HBY.out.trans (hbb.mono HBY.out.size))
            have HN5 : Hid (Kd.N KX TX w5 base ok (.slice (some ⟨g, 0, none⟩) n cap) ys) := Lib.hid (Kd.N_below HNY.out hbb)
            have HF5 : Hid (Kd.FK KX w5 (fun b => ok b ∧ b ≠ g) e1 [.int .i64 e1.f0, .int .i64 e1.f1.f0, .int .i64 e1.f1.f1, .string e1.f1.f2, .int .i64 e1.f2, .int .i64 e1.f3, .int .i64 e1.f4, .string e1.f5, .slice A1 e1.f6.length c1]) := Lib.hid (Kd.FK_below HF1.out hbb)
            clear hB5 hbb HTR HBY HNY HF1 p0 p1 p2 p3 p4 p5 p6 p7 p8 q0 q1 q2 q3 q4 q5 q6 q7 q8 r0 r1 r2 r3 r4 r5 r6 r7 r8 s0 s1 s2 s3 s4 s5 s6 s7 s8 u0 u1 u2 u3 u4 u5 u6 u7 u8
            cases sv
            · obtain ⟨c, hcl, _, hcc, hfr⟩ := Kd.N_elem HN5.out z26 k2 h20 h2n
              have HCC := Lib.hid (And.intro hcl hcc)
              have HAO : Hid (ad.add (k2.toNat * 9) = ⟨g, k2.toNat * 9, none⟩) := Lib.hid (by rw [← HAD.out, add_at, Nat.zero_add])
              clear hcl hcc hfr
              have HM1 : Hid (Kd.FK KX w5 (fun b => ok b ∧ b ≠ g) e1 (c.take 0 ++ [.int .i64 e1.f0, .int .i64 e1.f1.f0, .int .i64 e1.f1.f1, .string e1.f1.f2, .int .i64 e1.f2, .int .i64 e1.f3, .int .i64 e1.f4, .string e1.f5, .slice A1 e1.f6.length c1] ++ c.drop (0 + ([.int .i64 e1.f0, .int .i64 e1.f1.f0, .int .i64 e1.f1.f1, .string e1.f1.f2, .int .i64 e1.f2, .int .i64 e1.f3, .int .i64 e1.f4, .string e1.f5, .slice A1 e1.f6.length c1] : List Value).length))) := Lib.hid (by
                rw [List.drop_of_length_le (by rw [HCC.out.1]; exact Nat.le_refl _), List.append_nil]; exact HF5.out)
              go_upto_region 13 with ((with_reducible refine gate_ (.store 26 (.tmp 56) (.tmp 55)) rfl ?_); refine Kd.N_store (α := Ex) (P := Tryz.prog) KX (e := TX) (w0 := w5) (W := w5) (g := g) (n := n) (cap := cap) (o' := k2.toNat * 9) base rfl rfl 26 (.tmp 56) (.tmp 55) rfl k2 0 ys e1 (.agg #[.int .i64 e1.f0, .int .i64 e1.f1.f0, .int .i64 e1.f1.f1, .string e1.f1.f2, .int .i64 e1.f2, .int .i64 e1.f3, .int .i64 e1.f4, .string e1.f5, .slice A1 e1.f6.length c1]) [.int .i64 e1.f0, .int .i64 e1.f1.f0, .int .i64 e1.f1.f1, .string e1.f1.f2, .int .i64 e1.f2, .int .i64 e1.f3, .int .i64 e1.f4, .string e1.f5, .slice A1 e1.f6.length c1] c ok (fun b => ok b ∧ b ≠ g) (congrArg (fun x => Value.pointer (some x)) HAO.out) rfl rfl rfl rfl (KX.K_one (Kd.FK_now HF5.out)) HN5.out h20 h2n HCC.out.1 HCC.out.2 (Nat.le_refl 9) HM1.out (fun _ hk => hk) (Below.refl base w5) ?_; intro w6 hN6 hB6 hg6)
              have HN6 := Lib.hid hN6
              have HB6 : Hid (Below w0.heap.size w0 w6) := Lib.hid (HB5.out.trans (hB6.mono hb))
              clear hN6 hB6 hg6 HM1 HCC HAO
              go_wp2_with fail
              go_roundw
              case rel =>
                have hmk := HMK.out
                refine ⟨k2 + 1, j + 1, ys.set k2.toNat e1, by omega, by omega, by omega, by omega, by go_num, by go_num, Lib.hid (by rw [List.length_set]; exact HYL.out), Lib.hid ?_, Lib.hid ?_, HN6, HB6⟩
                · have h := HCM.out
                  rw [if_neg (by decide)] at h
                  have hl : k2.toNat < ys.length := by rw [HYL.out]; omega
                  rw [show k.toNat + (j + 1).toNat = k.toNat + j.toNat + 1 by omega, h, show (k2 + 1).toNat = k2.toNat + 1 by omega, List.take_add_one, List.getElem?_set_self hl, List.take_set_of_le (Nat.le_refl _)]
                  rfl
                · have h := congrArg (List.drop 1) HYD.out
                  rw [List.drop_drop, List.drop_drop] at h
                  rw [show k.toNat + (j + 1).toNat - 1 = k.toNat + j.toNat - 1 + 1 by omega, List.drop_set_of_lt (by omega)]; exact h
              case measure => simp [intOf]; omega
            · go_wp2_with fail
              go_roundw
              case rel =>
                have hmk := HMK.out
                refine ⟨k2, j + 1, ys, hk21, by omega, by omega, by omega, rfl, by go_num, HYL, Lib.hid ?_, Lib.hid ?_, HN5, HB5⟩
                · have h := HCM.out
                  rw [if_pos rfl, List.append_nil] at h
                  rw [← h]; congr 2; omega
                · have h := congrArg (List.drop 1) HYD.out
                  rw [List.drop_drop, List.drop_drop] at h
                  rw [show k.toNat + (j + 1).toNat - 1 = k.toNat + j.toNat - 1 + 1 by omega]; exact h
              case measure => simp [intOf]; omega
          · obtain rfl : j = m := by omega
            have h2n : k2 < n := by omega
            have h20 : 0 ≤ k2 := by omega
            have hkc : ¬ cap = k2.toNat := by omega
            have hfin : ys.take k2.toNat = compF xs := by
              have h := HYT.out
              rw [show k.toNat + (m : Int).toNat = xs.length by rw [HLN.out]; omega, List.take_length] at h
              exact h
            have hNC := N_clear HNY.out k2.toNat (by rw [HYL.out]; omega) (Builtin.zeroCells (zerosE : Array Value) (n - k2.toNat)).toList
            rw [hfin] at hNC
            have hBC := setCells_below (B := w0.heap.size) (w0 := w0) (g := g) (Nat.le_trans hb (Kd.N_base HNY.out g rfl)) (Builtin.zeroCells (zerosE : Array Value) (n - k2.toNat)).toList wr (k2.toNat * 9) HBY.out
            have hAO : (ad.add (k2.toNat * 9)) = ⟨g, k2.toNat * 9, none⟩ := by rw [← HAD.out, add_at, Nat.zero_add]
            have hcl : (Builtin.clear_ #[24] 0 #[.slice (some (ad.add (k2.toNat * 9))) (n - k2.toNat) (cap - k2.toNat)]).run Tryz.prog wr = .ok (.tuple #[]) (wr.setCells g (k2.toNat * 9) (Builtin.zeroCells (zerosE : Array Value) (n - k2.toNat)).toList) := by
              rw [hAO]
              exact clear_run HNY.out k2.toNat _ (by omega)
            generalize wr.setCells g (k2.toNat * 9) (Builtin.zeroCells (zerosE : Array Value) (n - k2.toNat)).toList = w9 at hNC hBC hcl
            have HNC := Lib.hid hNC
            have HBC := Lib.hid hBC
            clear hNC hBC hmk hAO hfin
            go_wp2_with fail
            go_ret
            refine ⟨_, rfl, ?_, HBC.out⟩
            rw [← HAD.out]
            exact HNC.out
    · obtain rfl : k = n := by omega
      go_wp2_with fail
      go_ret
      refine ⟨_, rfl, ?_, HB1.out⟩
      have h := HK.out
      rw [show ((n : Int)).toNat = n by omega, List.take_of_length_le (by rw [HLN.out]; exact Nat.le_refl _)] at h
      rw [h]; exact HN1.out
end Go.Proofs.YtoffpegppdmkdaaGreatDoor.E
