/- The walk of LexCase. -/
import Derived.Test.YtniapbinamnmpaaDoorLp6
import Derived.Test.YtniapbinamnmpaaDoorLx9
import Derived.Test.YtniapbinamnmpaaDoorLp0
namespace Go.Proofs.YtniapbinamnmpaaDoor.L
set_option linter.unusedSimpArgs false
set_option linter.unusedVariables false
open Go.RowKit Go.Proofs.YtniapbinamnmpaaDoorW.PrintWords Go.Proofs.YtniapbinamnmpaaDoorW.PrintLast Go.Proofs.YtniapbinamnmpaaDoorW.PrintMore
attribute [local go_sem high] eqA32

/-- The bytes at a block. -/
structure CInv (w1 : World) (g n : Nat) (l : List UInt8) (W : World) : Prop where
  bl : Below w1.heap.size w1 W
  gw : w1.heap.size ≤ g
  len : l.length = n
  row : ∃ cs : Array Value, W.heap[g]? = some (.cells cs 5 (cs.size, cs.size + 1)) ∧ ∀ j, j < n → cs[j]? = some (.int .u8 (l.getD j 0).toNat)
theorem CInv.cell {w1 W : World} {g n : Nat} {l : List UInt8} (h : CInv w1 g n l W) {j : Nat} (hj : j < n) : W.cell? ⟨g, j, none⟩ = some (.int .u8 (l.getD j 0).toNat) := by
  obtain ⟨cs, h1, h2⟩ := h.row
  rw [cell_of_row W g j cs _ _ h1, h2 j hj]
theorem CInv.frozen {w1 W : World} {g n : Nat} {l : List UInt8} (h : CInv w1 g n l W) {j : Nat} (hj : j < n) : W.frozen? ⟨g, j, none⟩ = false := by
  obtain ⟨cs, h1, h2⟩ := h.row
  have := (Array.getElem?_eq_some_iff.1 (h2 j hj)).1
  simp [World.frozen?, h1]; omega
theorem CInv.set {w1 W : World} {g n : Nat} {l : List UInt8} (h : CInv w1 g n l W) {j : Nat} (hj : j < n) (c : UInt8) : CInv w1 g n (l.set j c) (W.setCell ⟨g, j, none⟩ (.int .u8 c.toNat)) := by
  obtain ⟨cs, h1, h2⟩ := h.row
  have hjl : j < l.length := by rw [h.len]; exact hj
  refine ⟨h.bl.setCell (p := ⟨g, j, none⟩) h.gw _, h.gw, by simp [h.len], cs.setIfInBounds j (.int .u8 c.toNat), ?_, fun i hi => ?_⟩
  · simp [World.setCell, Array.getElem?_modify, h1]
  · by_cases hij : i = j
    · subst hij
      have hcs := (Array.getElem?_eq_some_iff.1 (h2 i hi)).1
      simp [hjl, hcs]
    · rw [Array.getElem?_setIfInBounds_ne (fun e => hij e.symm), h2 i hi]
      simp [List.getElem?_set, Ne.symm hij]
theorem CInv.later {w1 W W' : World} {g n : Nat} {l : List UInt8} (h : CInv w1 g n l W) (hb : Below W.heap.size W W') : CInv w1 g n l W' := by
  obtain ⟨cs, h1, h2⟩ := h.row
  exact ⟨h.bl.trans (hb.mono h.bl.size), h.gw, h.len, cs, (hb.block g (blk_lt h1)).trans h1, h2⟩
theorem CInv.reads {w1 W : World} {g n : Nat} {l : List UInt8} (h : CInv w1 g n l W) (hn : n ≤ 9223372036854775807) : ReadsInt W .u8 (some ⟨g, 0, none⟩) n (intsOf l) := by
  refine ⟨by rw [intsOf_len, h.len], hn, fun _ => ⟨_, rfl, fun j hj => ?_⟩⟩
  have hjl : j < l.length := by rw [h.len]; exact hj
  have e : (Addr.add ⟨g, 0, none⟩ j) = ⟨g, j, none⟩ := by simp [Addr.add]; omega
  rw [e, h.cell hj]
  simp [intsOf, hjl]
/-- The text, its first k bytes made great. -/
def upK (l : List UInt8) (k : Nat) : List UInt8 := (l.take k).map upB ++ l.drop k
theorem upK_get (l : List UInt8) (k : Nat) (c : UInt8) (h : l[k]? = some c) : (upK l k).getD k 0 = c := by
  have hk := (List.getElem?_eq_some_iff.1 h).1
  unfold upK
  rw [List.getD_eq_getElem?_getD, List.getElem?_append_right (by simp; omega), List.length_map, List.length_take, Nat.min_eq_left (by omega), Nat.sub_self, List.getElem?_drop, Nat.add_zero, h]; rfl
theorem upK_next (l : List UInt8) (k : Nat) (c : UInt8) (h : l[k]? = some c) : upK l (k + 1) = (upK l k).set k (upB c) := by
  obtain ⟨hk, hc⟩ := List.getElem?_eq_some_iff.1 h
  unfold upK
  rw [List.take_succ_eq_append_getElem hk, List.map_append, List.append_assoc, List.set_append_right _ _ (by simp; omega), List.length_map, List.length_take, Nat.min_eq_left (by omega), Nat.sub_self, List.drop_eq_getElem_cons hk, hc]
  rfl
theorem upK_same (l : List UInt8) (k : Nat) (c : UInt8) (h : l[k]? = some c) (hu : upB c = c) : upK l (k + 1) = upK l k := by
  rw [upK_next l k c h, hu]
  obtain ⟨hk, hc⟩ := List.getElem?_eq_some_iff.1 h
  refine List.ext_getElem? (fun i => ?_)
  by_cases hi : i = k
  · subst hi
    have h1 := upK_get l i c h
    have h2 : i < (upK l i).length := by unfold upK; simp; omega
    rw [List.getD_eq_getElem?_getD, List.getElem?_eq_getElem h2] at h1
    simp only [Option.getD_some] at h1
    rw [List.getElem?_set_self h2, List.getElem?_eq_getElem h2, h1]
  · rw [List.getElem?_set_ne (Ne.symm hi)]
theorem upK_all (l : List UInt8) : upK l l.length = l.map upB := by unfold upK; simp
theorem upK_none (l : List UInt8) : upK l 0 = l := by unfold upK; simp

set_option maxHeartbeats 8000000 in
set_option maxRecDepth 100000 in
theorem case_ok (s : ByteArray) (w : World) (hs : s.size ≤ 140737488351232) (hT : TabA w) :
    Calls Tryd.prog 8 #[.string s] w fun e w' => e = .returned (.bool true) ∧ Below w.heap.size w w' := by
  obtain ⟨n, hn⟩ : ∃ n, s.size = n := ⟨_, rfl⟩
  obtain ⟨l, hl⟩ : ∃ l, s.data.toList = l := ⟨_, rfl⟩
  have hln : l.length = n := by rw [← hl, ← sz_list, hn]
  obtain ⟨⟨r, er, p⟩, hq⟩ : ∃ q, lexL s = q := ⟨_, rfl⟩
  have hn5 : n ≤ 140737488351232 := by omega
  have HT := Lib.hid hT; have HL := Lib.hid hl; have HLN := Lib.hid hln; have HQ := Lib.hid hq
  have HEX := Lib.hid (weathercocklaw07_examples.calls true w ex_true hT)
  clear hT hl hln hq
  go_enter Tryd.func8, Tryd.ntmps8
  go_upto_region 2 with (go_at_call 9; refine HEX.out.mono ?_; rintro e_ w1 ⟨rfl, hb1⟩)
  have hcv := Lib.run_convert_string_bytes (P := Tryd.prog) w1 9 36 5 s Tryd.underlying9 Tryd.underlying36 Tryd.underlying5
  obtain ⟨cap, hcap⟩ : ∃ c, grownCap w1 s.size 0 5 = c := ⟨_, rfl⟩
  rw [hcap] at hcv
  have HC0 : Hid (CInv w1 w1.heap.size n (upK l 0) (Lib.bytesWorld w1 5 s)) := by
    refine Lib.hid ⟨⟨rfl, rfl, rfl, by rw [Lib.bytesWorld_size]; omega, fun k hk => Lib.bytesWorld_at_old w1 _ s k hk⟩, Nat.le_refl _, by rw [upK_none]; exact HLN.out, _, Lib.bytesWorld_at_new w1 _ s, fun j hj => ?_⟩
    have h1 := Lib.bytesWorld_cell w1 5 s j (by omega)
    rw [cell_of_row _ _ j _ _ _ (Lib.bytesWorld_at_new w1 _ s)] at h1
    rw [h1, upK_none, HL.out]
  obtain ⟨w2, hw2⟩ : ∃ x, Lib.bytesWorld w1 5 s = x := ⟨_, rfl⟩
  rw [hw2] at hcv HC0
  have HB1 := Lib.hid hb1
  clear hw2 hcap hb1
  obtain ⟨g, hg⟩ : ∃ g, w1.heap.size = g := ⟨_, rfl⟩
  rw [hg] at hcv
  have HG := Lib.hid hg
  replace HC0 : Hid (CInv w1 g n (upK l 0) w2) := by have h := HC0.out; rw [hg] at h; exact Lib.hid h
  clear hg
  go_upto_region 4 with fail
  clear hcv
  go_loopw [5] (fun v5 wr => ∃ k : Nat, k ≤ n ∧ v5 = .int .i64 k ∧ Hid (CInv w1 g n (upK l k) wr) ∧ Hid (∀ c ∈ l.take k, ¬ c = 39)) (fun i _ => n - (intOf i).toNat)
  case atStart => exact ⟨0, Nat.zero_le _, rfl, HC0, Lib.hid (by simp)⟩
  case round =>
    clear HC0
    obtain ⟨k, hk, rfl, HC, HF⟩ := hrel
    by_cases hlt : k < n
    · have hlt' : (k : Int) < n := by omega
      have hkl : k < l.length := by rw [HLN.out]; exact hlt
      obtain ⟨c, hc⟩ : ∃ c, l[k]? = some c := ⟨_, List.getElem?_eq_getElem hkl⟩
      have hcell := HC.out.cell hlt
      rw [upK_get l k c hc] at hcell
      have hfr := HC.out.frozen hlt
      have HCK := Lib.hid hc
      have hw1 : IntKind.i64.wrap ((k : Int) + 1) = (k : Int) + 1 := IntWalk.i64_in _ (by omega)
      have HF2 : ¬ c = 39 → Hid (∀ d ∈ l.take (k + 1), ¬ d = 39) := fun h => Lib.hid (fun d hd => by
        rw [List.take_succ_eq_append_getElem hkl] at hd
        rcases List.mem_append.1 hd with h1 | h1
        · exact HF.out d h1
        · have h2 := (List.getElem?_eq_some_iff.1 HCK.out).2
          rw [List.mem_singleton.1 h1, h2]; exact h)
      obtain ⟨x, hx⟩ : ∃ x : Nat, c.toNat = x := ⟨_, rfl⟩
      rw [hx] at hcell
      have HX := Lib.hid hx
      have hx2 : x < 256 := by rw [← hx]; exact c.toNat_lt
      clear hc hx hkl
      by_cases h39 : x = 39
      · have b39 : ((x : Int) == 39) = true := beq_iff_eq.mpr (by omega)
        clear h39
        go_wp2_with fail
        go_ret
        exact ⟨rfl, HB1.out.trans (HC.out.bl.mono HB1.out.size)⟩
      · have b39 : ((x : Int) == 39) = false := beq_eq_false_iff_ne.mpr (by omega)
        have HF3 := HF2 (fun h => h39 (by rw [← HX.out, h]; rfl))
        clear h39 HF2
        by_cases hup : 97 ≤ x ∧ x ≤ 122
        · have h1 : (97 : Int) ≤ (x : Int) := by omega
          have h2 : (x : Int) ≤ 122 := by omega
          have hu : Hid (upB c = c - 32) := Lib.hid (by unfold upB; rw [HX.out, if_pos hup])
          have ht : (c - 32).toNat = x - 32 := by
            have h3 : (32 : UInt8) ≤ c := by rw [UInt8.le_iff_toNat_le, HX.out]; show 32 ≤ x; omega
            rw [UInt8.toNat_sub_of_le _ _ h3, HX.out]; rfl
          have HS : Hid (CInv w1 g n (upK l (k + 1)) (wr.setCell ⟨g, k, none⟩ (.int .u8 ((x - 32 : Nat) : Int)))) := by
            have h3 := HC.out.set hlt (c - 32)
            rw [ht] at h3
            rw [upK_next l k c HCK.out, hu.out]; exact Lib.hid h3
          have hw8 : IntKind.u8.wrap ((x : Int) - 32) = ((x - 32 : Nat) : Int) := by rw [show (x : Int) - 32 = ((x - 32 : Nat) : Int) by omega]; exact IntWalk.u8_in _ (by omega)
          clear hup ht
          go_wp2_with fail
          go_roundw
          case rel => exact ⟨k + 1, by omega, by go_num, HS, HF3⟩
          case measure => simp [intOf]; omega
        · have hu : Hid (upB c = c) := Lib.hid (by unfold upB; rw [HX.out, if_neg hup])
          have HS : Hid (CInv w1 g n (upK l (k + 1)) wr) := by rw [upK_same l k c HCK.out hu.out]; exact HC
          by_cases h1 : 97 ≤ x
          · have h1' : (97 : Int) ≤ (x : Int) := by omega
            have h2 : ¬ (x : Int) ≤ 122 := by omega
            clear hup h1
            go_wp2_with fail
            go_roundw
            case rel => exact ⟨k + 1, by omega, by go_num, HS, HF3⟩
            case measure => simp [intOf]; omega
          · have h1' : ¬ (97 : Int) ≤ (x : Int) := by omega
            clear hup h1
            go_wp2_with fail
            go_roundw
            case rel => exact ⟨k + 1, by omega, by go_num, HS, HF3⟩
            case measure => simp [intOf]; omega
    · obtain rfl : n = k := by omega
      have hlt' : ¬ (n : Int) < n := by omega
      have HF4 : Hid (∀ c ∈ l, ¬ c = 39) := by have h := HF.out; rw [← HLN.out, List.take_length] at h; exact Lib.hid h
      have HC4 : Hid (CInv w1 g n (l.map upB) wr) := by have h := HC.out; rw [show n = l.length from HLN.out.symm, upK_all, HLN.out] at h; exact Lib.hid h
      have HBW := Lib.hid (HB1.out.trans (HC.out.bl.mono HB1.out.size))
      have HL1 := Lib.hid (lex_Lex.calls s r er p wr (by rw [← HQ.out]; rfl) (tab_at HT.out HBW.out))
      clear HF HC
      go_upto_region 11 with (go_at_call 11; refine HL1.out.mono ?_; rintro e_ w6 ⟨v6, rfl, ho6, hb6⟩; have HO6 := Lib.hid ho6; have HB6 := Lib.hid hb6; clear ho6 hb6)
      have hcv := string_of_reads (P := Tryd.prog) (c := cap) Tryd.underlying36 Tryd.underlying5 Tryd.underlying9 ((HC4.out.later HB6.out).reads (by omega))
      rw [strOf_ints] at hcv
      obtain ⟨s2, hs2⟩ : ∃ x : ByteArray, ⟨(l.map upB).toArray⟩ = x := ⟨_, rfl⟩
      have HB7 := Lib.hid (HBW.out.trans (HB6.out.mono HBW.out.size))
      have HL2 := Lib.hid (lex_Lex.calls s2 r er p w6 (by rw [← HQ.out, ← lexL_map s l HL.out HF4.out, hs2]; rfl) (tab_at HT.out HB7.out))
      rw [hs2] at hcv
      clear hs2
      go_upto_region 12 with (go_at_call 11; refine HL2.out.mono ?_; rintro e_ w7 ⟨v9, rfl, ho9, hb9⟩; have HO9 := Lib.hid ho9; have HB9 := Lib.hid hb9; clear ho9 hb9)
      clear hcv
      have HO7 := Lib.hid (Kd.R_below HO6.out HB9.out)
      obtain ⟨A6, c6, rfl, -, -⟩ := Kd.R_reads HO6.out
      obtain ⟨A9, c9, rfl, -, -⟩ := Kd.R_reads HO9.out
      have HB10 := Lib.hid (HB7.out.trans (HB9.out.mono HB7.out.size))
      clear HO6 HL1 HL2 HC4
      obtain ⟨m, hm⟩ : ∃ m, r.length = m := ⟨_, rfl⟩
      have hm4 : m ≤ 400 := by rw [← hm]; exact lexL_len s HQ.out
      simp only [hm]
      go_wp2_with fail
      go_loopw [12] (fun v12 wq => ∃ x : Int, 0 ≤ x ∧ x ≤ m ∧ v12 = .int .i64 x ∧ Hid (Below w7.heap.size w7 wq)) (fun i _ => m - (intOf i).toNat)
      case atStart => exact ⟨0, by omega, by omega, rfl, Lib.hid (by repeat (first | exact Below.refl _ _ | apply below_alloc | apply pw_below_drewN | apply below_drew1))⟩
      case round =>
        obtain ⟨x, hk0, hk2, rfl, HBQ⟩ := hrel
        by_cases hlt3 : x < (m : Int)
        · have hwk : IntKind.i64.wrap (x + 1) = x + 1 := IntWalk.i64_in _ (by omega)
          have hC6 := (Kd.R_reads' (Kd.R_below HO7.out HBQ.out)).2.2
          have hC9 := (Kd.R_reads' (Kd.R_below HO9.out HBQ.out)).2.2
          obtain ⟨ad6, rfl, hx0, hx1, hx2, hx3⟩ := at_T32 hC6 x hk0 (by omega)
          obtain ⟨ad9, rfl, hz0, hz1, hz2, hz3⟩ := at_T32 hC9 x hk0 (by omega)
          obtain ⟨t, ht⟩ : ∃ t, rd_T32 r x = t := ⟨_, rfl⟩
          rw [ht] at hx0 hx1 hx2 hx3 hz0 hz1 hz2 hz3
          clear ht hC6 hC9
          have hxn0 := fun (n_ : Nat) => (show (wr.drewN n_).cell? _ = some _ from hx0)
          have hxn1 := fun (n_ : Nat) => (show (wr.drewN n_).cell? _ = some _ from hx1)
          have hxn2 := fun (n_ : Nat) => (show (wr.drewN n_).cell? _ = some _ from hx2)
          have hxn3 := fun (n_ : Nat) => (show (wr.drewN n_).cell? _ = some _ from hx3)
          have hzn0 := fun (n_ : Nat) => (show (wr.drewN n_).cell? _ = some _ from hz0)
          have hzn1 := fun (n_ : Nat) => (show (wr.drewN n_).cell? _ = some _ from hz1)
          have hzn2 := fun (n_ : Nat) => (show (wr.drewN n_).cell? _ = some _ from hz2)
          have hzn3 := fun (n_ : Nat) => (show (wr.drewN n_).cell? _ = some _ from hz3)
          go_wp2_with fail
          repeat (go_quiet (fail); try go_wp2_with fail)
          go_roundw
          case rel => exact ⟨x + 1, by omega, by omega, by first | rfl | go_num, Lib.hid (by repeat (first | exact HBQ.out | apply below_alloc | apply pw_below_drewN | apply below_drew1))⟩
          case measure => simp [intOf]; omega
        · have hxm : x = (m : Int) := by omega
          subst hxm
          go_wp2_with fail
          go_ret
          exact ⟨rfl, HB10.out.trans (HBQ.out.mono HB10.out.size)⟩
end Go.Proofs.YtniapbinamnmpaaDoor.L
