/- Contracts and plain lemmas of the functions that the law reaches, part 5. -/
import Derived.Lib.SmallJoins
import Derived.Test.YtniapbinamnmpaaDoorM3
import Derived.Test.YtniapbinamnmpaaDoorM4
namespace Go.Proofs.YtniapbinamnmpaaDoor.L
set_option linter.unusedVariables false
open Go.RowKit Go.Proofs.YtniapbinamnmpaaDoorW.PrintWords Go.Proofs.YtniapbinamnmpaaDoorW.PrintLast Go.Proofs.YtniapbinamnmpaaDoorW.PrintMore
theorem ba_ext {a b : ByteArray} (h : a.data.toList = b.data.toList) : a = b := by
  rw [← Joins.bytes_eta a, ← Joins.bytes_eta b, h]
theorem ba_mk (l : List UInt8) : (⟨l.toArray⟩ : ByteArray).data.toList = l := by simp
theorem ba_eq {a : ByteArray} {l : List UInt8} (h : a.data.toList = l) : a = ⟨l.toArray⟩ := ba_ext (by rw [h, ba_mk])
theorem ba_size (l : List UInt8) : (⟨l.toArray⟩ : ByteArray).size = l.length := by simp [ByteArray.size]
theorem sz_list (a : ByteArray) : a.size = a.data.toList.length := by rw [Array.length_toList]; rfl
theorem ret_str {a b : ByteArray} (h : a = b) : Ending.returned (.string a) = .returned (.string b) := by rw [h]
def upC (c : UInt8) : Bool := decide (65 ≤ c.toNat) && decide (c.toNat ≤ 90)
def lowC (c : UInt8) : UInt8 := if upC c = true then c + 32 else c
def lowL (l : List UInt8) : List UInt8 := l.map lowC
theorem lowL_len (l : List UInt8) : (lowL l).length = l.length := by simp [lowL]
theorem lowL_id {l : List UInt8} (h : l.any upC = false) : lowL l = l := by
  unfold lowL
  induction l with
  | nil => rfl
  | cons c l ih =>
    simp only [List.any_cons, Bool.or_eq_false_iff] at h
    rw [List.map_cons, ih h.2, lowC, if_neg (by rw [h.1]; simp)]
theorem any_snoc (s : ByteArray) (k : Nat) (hk : k < s.size) : (s.data.toList.take (k + 1)).any upC = ((s.data.toList.take k).any upC || upC s[k]) := by
  have h : s.data.toList.take (k + 1) = s.data.toList.take k ++ [s[k]] := by
    rw [List.take_succ_eq_append_getElem (by simpa using hk)]; rfl
  rw [h, List.any_append]; simp
theorem low_join (s : ByteArray) (p k : Nat) (hpk : p ≤ k) (hk : k ≤ s.size) (h : ((s.data.toList.take k).drop p).any upC = false) : lowL (s.data.toList.take p) ++ (s.extract p k).data.toList = lowL (s.data.toList.take k) := by
  have e : (s.extract p k).data.toList = (s.data.toList.take k).drop p := by
    rw [Lib.extract_data, List.drop_take]
  rw [e]
  conv => lhs; rw [← lowL_id h]
  unfold lowL
  rw [← List.map_append]
  congr 1
  have := List.take_append_drop p (s.data.toList.take k)
  rw [List.take_take, Nat.min_eq_left hpk] at this
  exact this
theorem drop_snoc (s : ByteArray) (p k : Nat) (hpk : p ≤ k) (hk : k < s.size) (h : ((s.data.toList.take k).drop p).any upC = false) (hu : upC s[k] = false) : ((s.data.toList.take (k + 1)).drop p).any upC = false := by
  have hk' : k < s.data.toList.length := by rw [← sz_list]; exact hk
  have e : s.data.toList.take (k + 1) = s.data.toList.take k ++ [s[k]] := by
    rw [List.take_succ_eq_append_getElem (by simpa using hk)]; rfl
  rw [e, List.drop_append_of_le_length (by rw [List.length_take]; omega), List.any_append, h]
  simp [hu]
theorem low_snoc (s : ByteArray) (k : Nat) (hk : k < s.size) : lowL (s.data.toList.take (k + 1)) = lowL (s.data.toList.take k) ++ [lowC s[k]] := by
  have h : s.data.toList.take (k + 1) = s.data.toList.take k ++ [s[k]] := by
    rw [List.take_succ_eq_append_getElem (by simpa using hk)]; rfl
  rw [h]; simp [lowL]
abbrev BdAt (B b : Nat) (l : List UInt8) (w : World) : Prop := Lib.BuilderAt 57 5 B b (.pointer (some ⟨b, 0, none⟩)) (Lib.byteCells l) w
theorem byteCells_append (l m : List UInt8) : Lib.byteCells (l ++ m) = Lib.byteCells l ++ Lib.byteCells m := by simp [Lib.byteCells]
theorem byteCells_length (l : List UInt8) : (Lib.byteCells l).length = l.length := by simp [Lib.byteCells]
theorem put_str (B b : Nat) (l : List UInt8) (s : ByteArray) (w : World) (h : BdAt B b l w) (hlen : l.length + s.size ≤ 140737488355328) (hBw : B ≤ w.heap.size) :
    Calls Tryd.prog 30 #[.pointer (some ⟨b, 0, none⟩), .string s] w fun e w' => e = .returned (.tuple #[.int .i64 s.size, .nilIface]) ∧ BdAt B b (l ++ s.data.toList) w' ∧ Below B w w' :=
  (write_ok B b (Lib.byteCells l) s w (.inr h) (by rw [byteCells_length]; exact hlen) hBw).mono (by
    rintro e w' ⟨rfl, h1, h2, _⟩
    exact ⟨rfl, by unfold BdAt; rw [byteCells_append]; exact h1, h2⟩)
theorem put_byte (B b : Nat) (l : List UInt8) (c : UInt8) (w : World) (h : BdAt B b l w) (hlen : l.length + 1 ≤ 140737488355328) (hBw : B ≤ w.heap.size) :
    Calls Tryd.prog 31 #[.pointer (some ⟨b, 0, none⟩), .int .u8 c.toNat] w fun e w' => e = .returned .nilIface ∧ BdAt B b (l ++ [c]) w' ∧ Below B w w' :=
  (byte_ok B b (Lib.byteCells l) c.toNat w (.inr h) (by rw [byteCells_length]; exact hlen) hBw).mono (by
    rintro e w' ⟨rfl, h1, h2⟩
    exact ⟨rfl, by unfold BdAt; rw [byteCells_append]; exact h1, h2⟩)
set_option maxHeartbeats 2000000 in
set_option maxRecDepth 100000 in
theorem lower_ok (s : ByteArray) (w : World) (hs : s.size ≤ 100000) (ha : ∀ (k : Nat) (h : k < s.size), s[k].toNat < 128) :
    Calls Tryd.prog 19 #[.string s] w fun e w' => e = .returned (.string ⟨(lowL s.data.toList).toArray⟩) ∧ Below w.heap.size w w' := by
  obtain ⟨n, hn⟩ : ∃ n, s.size = n := ⟨_, rfl⟩
  have hn1 : n ≤ 100000 := by omega
  have HA := Lib.hid ha; have HN := Lib.hid hn
  clear ha hs
  go_enter Tryd.func19, Tryd.ntmps19
  go_wp2_with fail
  go_loopw [3, 4, 5, 6] (fun v3 v4 v5 _ wr => ∃ (k : Nat) (hu : Bool), k ≤ n ∧ v3 = .bool true ∧ v4 = .bool hu ∧ v5 = .int .i64 k ∧ Hid (hu = (s.data.toList.take k).any upC) ∧ Hid (wr = w)) (fun _ _ i _ _ => n - (intOf i).toNat)
  case atStart => exact ⟨0, false, Nat.zero_le _, rfl, rfl, rfl, by simp [Hid], Lib.hid rfl⟩
  case round =>
    obtain ⟨k, hu, hk, rfl, rfl, rfl, HU, HW⟩ := hrel
    have hW := HW.out
    subst hW
    by_cases hlt : k < n
    · have hks : k < s.size := by omega
      have hlt' : (k : Int) < n := by omega
      obtain ⟨c, hc⟩ : ∃ c, s[k] = c := ⟨_, rfl⟩
      have h128 : c.toNat < 128 := by rw [← hc]; exact HA.out k hks
      have HS := Lib.hid (any_snoc s k hks)
      rw [hc] at HS
      have HUC : Hid (upC c = (decide (65 ≤ c.toNat) && decide (c.toNat ≤ 90))) := Lib.hid rfl
      by_cases hh : hu = true
      · subst hh
        go_wp2_with fail
        go_roundw
        case rel => exact ⟨k + 1, true, by omega, rfl, rfl, by go_num, by show _ = _; rw [HS.out, ← HU.out]; rfl, Lib.hid trivial⟩
        case measure => simp [intOf]; omega
      · obtain rfl : hu = false := Bool.eq_false_iff.mpr hh
        by_cases h65 : 65 ≤ c.toNat
        · have i65 : (65 : Int) ≤ (c.toNat : Int) := by omega
          have d65 : decide ((65 : Int) ≤ (c.toNat : Int)) = true := decide_eq_true i65
          by_cases h90 : c.toNat ≤ 90
          · have i90 : (c.toNat : Int) ≤ 90 := by omega
            have d90 : decide ((c.toNat : Int) ≤ 90) = true := decide_eq_true i90
            have HQ : Hid (upC c = true) := by rw [HUC.out, decide_eq_true h65, decide_eq_true h90]; exact Lib.hid rfl
            go_wp2_with fail
            go_roundw
            case rel => exact ⟨k + 1, true, by omega, rfl, rfl, by go_num, by show _ = _; rw [HS.out, ← HU.out, HQ.out]; rfl, Lib.hid trivial⟩
            case measure => simp [intOf]; omega
          · have i90 : ¬ (c.toNat : Int) ≤ 90 := by omega
            have d90 : decide ((c.toNat : Int) ≤ 90) = false := decide_eq_false i90
            have HQ : Hid (upC c = false) := by rw [HUC.out, decide_eq_false h90, Bool.and_false]; exact Lib.hid rfl
            go_wp2_with fail
            go_roundw
            case rel => exact ⟨k + 1, false, by omega, rfl, rfl, by go_num, by show _ = _; rw [HS.out, ← HU.out, HQ.out]; rfl, Lib.hid trivial⟩
            case measure => simp [intOf]; omega
        · have i65 : ¬ (65 : Int) ≤ (c.toNat : Int) := by omega
          have d65 : decide ((65 : Int) ≤ (c.toNat : Int)) = false := decide_eq_false i65
          have HQ : Hid (upC c = false) := by rw [HUC.out, decide_eq_false h65, Bool.false_and]; exact Lib.hid rfl
          go_wp2_with fail
          go_roundw
          case rel => exact ⟨k + 1, false, by omega, rfl, rfl, by go_num, by show _ = _; rw [HS.out, ← HU.out, HQ.out]; rfl, Lib.hid trivial⟩
          case measure => simp [intOf]; omega
    · obtain rfl : n = k := by omega
      have HU2 : Hid (hu = s.data.toList.any upC) := by
        have h := HU.out
        rw [List.take_of_length_le (by rw [← sz_list, HN.out]; omega)] at h
        exact h
      cases hu with
      | false =>
        go_wp2_with fail
        go_ret
        exact ⟨ret_str (ba_eq (by rw [lowL_id HU2.out.symm])), Below.refl _ _⟩
      | true =>
        clear HU HU2
        obtain ⟨w, rfl⟩ : ∃ wo : World, wo = wr := ⟨_, rfl⟩
        go_upto_region 14 with (first | ((with_reducible refine gate_dst (N := 7) rfl ?_); refine box_event rfl (N := 7) rfl (cs := #[.pointer none, .slice none 0 0]) (t := 57) (by first | rfl | (go_simp; done) | (go_simp; rfl)) ?_; intro b hgg w2 hbb hBb;  have hwb : w.heap.size ≤ b := (by omega); clear hgg))
        have HGR := Lib.hid (Tryd.Builder_Grow_fresh w.heap.size b n w2 hwb hbb hBb.size (by omega))
        have HB2 := Lib.hid hBb
        clear hbb hBb
        go_upto_region 15 with (go_at_call 29; refine HGR.out.mono ?_; rintro e w3 ⟨rfl, hb3, hB3⟩)
        have HB3 := Lib.hid (HB2.out.trans hB3); have HD3 : Hid (BdAt w.heap.size b [] w3) := hb3
        clear hB3 hb3 HGR HB2
        go_wp2_with fail
        go_loopw [8, 9, 10] (fun v8 v9 _ wr => ∃ (k p : Nat), p ≤ k ∧ k ≤ n ∧ v8 = .int .i64 p ∧ v9 = .int .i64 k ∧ Hid (BdAt w.heap.size b (lowL (s.data.toList.take p)) wr) ∧ Hid (Below w.heap.size w wr) ∧ Hid (((s.data.toList.take k).drop p).any upC = false)) (fun _ i _ _ => n - (intOf i).toNat)
        case atStart => exact ⟨0, 0, Nat.le_refl _, Nat.zero_le _, rfl, rfl, HD3, HB3, by simp [Hid]⟩
        case round =>
          clear HD3 HB3
          obtain ⟨k, p, hpk, hk2, rfl, rfl, HD, HB, HF⟩ := hrel
          by_cases hlt2 : k < n
          · have hks : k < s.size := by omega
            have hlt' : (k : Int) < n := by omega
            obtain ⟨c, hc⟩ : ∃ c, s[k] = c := ⟨_, rfl⟩
            have h128 : c.toNat < 128 := by rw [← hc]; exact HA.out k hks
            have HLS := Lib.hid (low_snoc s k hks); have HDS := Lib.hid (drop_snoc s p k hpk hks HF.out)
            rw [hc] at HLS HDS
            have hll : (lowL (s.data.toList.take p)).length ≤ 100000 := by rw [lowL_len, List.length_take]; omega
            have HLL := Lib.hid hll; clear hll
            by_cases hup : 65 ≤ c.toNat ∧ c.toNat ≤ 90
            · have i65 : (65 : Int) ≤ (c.toNat : Int) := by omega
              have d65 : decide ((65 : Int) ≤ (c.toNat : Int)) = true := decide_eq_true i65
              have i90 : (c.toNat : Int) ≤ 90 := by omega
              have d90 : decide ((c.toNat : Int) ≤ 90) = true := decide_eq_true i90
              have HQ : Hid (upC c = true) := by unfold upC; rw [decide_eq_true hup.1, decide_eq_true hup.2]; exact Lib.hid rfl
              have HC32 : Hid (((c.toNat : Int) + 32) = ((lowC c).toNat : Int)) := by
                have e : lowC c = c + 32 := by unfold lowC; rw [if_pos HQ.out]
                rw [e, UInt8.toNat_add]; show _ = _; simp; omega
              have hj := low_join s p k hpk (by omega) HF.out
              have HJ := Lib.hid hj; clear hj
              have HE : Hid (((s.data.toList.take (k + 1)).drop (k + 1)).any upC = false) := by
                rw [List.drop_of_length_le (by rw [List.length_take]; omega)]; exact Lib.hid rfl
              clear hup
              by_cases hpl : p < k
              · have hpl' : (p : Int) < (k : Int) := by omega
                have hp0 : (0 : Int) ≤ (p : Int) := by omega
                have hpi : (p : Int) ≤ (k : Int) := by omega
                have hki : (k : Int) ≤ (n : Int) := by omega
                have hsz : (s.extract p k).size ≤ 100000 := by rw [ByteArray.size_extract]; omega
                have HPS := Lib.hid (put_str w.heap.size b _ (s.extract p k) wr HD.out (by have := HLL.out; omega) HB.out.size)
                rw [HJ.out] at HPS
                clear hsz
                go_upto_region 23 with (go_at_call 30; refine HPS.out.mono ?_; rintro e w5 ⟨rfl, hd5, hB5⟩)
                have hkl : (lowL (s.data.toList.take k)).length ≤ 100000 := by rw [lowL_len, List.length_take]; omega
                have HPB := Lib.hid (put_byte w.heap.size b _ (lowC c) w5 hd5 (by omega) (HB.out.trans hB5).size)
                rw [← HLS.out, ← HC32.out] at HPB
                have HB5 := Lib.hid (HB.out.trans hB5)
                clear hd5 hB5 hkl HPS
                go_wp2_with (go_at_call 31; refine HPB.out.mono ?_; rintro e w6 ⟨rfl, hd6, hB6⟩)
                go_roundw
                case rel => exact ⟨k + 1, k + 1, Nat.le_refl _, by omega, by go_num, by go_num, hd6, HB5.out.trans hB6, HE.out⟩
                case measure => simp [intOf]; omega
              · obtain rfl : p = k := by omega
                have HPB := Lib.hid (put_byte w.heap.size b _ (lowC c) wr HD.out (by have := HLL.out; omega) HB.out.size)
                rw [← HLS.out, ← HC32.out] at HPB
                go_wp2_with (go_at_call 31; refine HPB.out.mono ?_; rintro e w6 ⟨rfl, hd6, hB6⟩)
                go_roundw
                case rel => exact ⟨p + 1, p + 1, Nat.le_refl _, by omega, by go_num, by go_num, hd6, HB.out.trans hB6, HE.out⟩
                case measure => simp [intOf]; omega
            · have HQ : Hid (upC c = false) := by
                unfold upC
                by_cases h65 : 65 ≤ c.toNat
                · rw [decide_eq_false (show ¬ c.toNat ≤ 90 from fun h => hup ⟨h65, h⟩), Bool.and_false]; exact Lib.hid rfl
                · rw [decide_eq_false h65, Bool.false_and]; exact Lib.hid rfl
              have HDF := Lib.hid (HDS.out HQ.out)
              by_cases h65 : 65 ≤ c.toNat
              · have i65 : (65 : Int) ≤ (c.toNat : Int) := by omega
                have d65 : decide ((65 : Int) ≤ (c.toNat : Int)) = true := decide_eq_true i65
                have i90 : ¬ (c.toNat : Int) ≤ 90 := by omega
                have d90 : decide ((c.toNat : Int) ≤ 90) = false := decide_eq_false i90
                clear hup
                go_wp2_with fail
                go_roundw
                case rel => exact ⟨k + 1, p, by omega, by omega, rfl, by go_num, HD.out, HB.out, HDF.out⟩
                case measure => simp [intOf]; omega
              · have i65 : ¬ (65 : Int) ≤ (c.toNat : Int) := by omega
                have d65 : decide ((65 : Int) ≤ (c.toNat : Int)) = false := decide_eq_false i65
                clear hup
                go_wp2_with fail
                go_roundw
                case rel => exact ⟨k + 1, p, by omega, by omega, rfl, by go_num, HD.out, HB.out, HDF.out⟩
                case measure => simp [intOf]; omega
          · obtain rfl : n = k := by omega
            have hj := low_join s p n hpk (by omega) HF.out
            have hall : s.data.toList.take n = s.data.toList := List.take_of_length_le (by rw [← sz_list, HN.out]; omega)
            rw [hall] at hj
            have HJ := Lib.hid hj; clear hj
            have hll : (lowL (s.data.toList.take p)).length ≤ 100000 := by rw [lowL_len, List.length_take]; omega
            have HLL := Lib.hid hll; clear hll
            by_cases hpl : p < n
            · have hpl' : (p : Int) < (n : Int) := by omega
              have hp0 : (0 : Int) ≤ (p : Int) := by omega
              have hpi : (p : Int) ≤ (n : Int) := by omega
              have hsz : (s.extract p n).size ≤ 100000 := by rw [ByteArray.size_extract]; omega
              have HPS := Lib.hid (put_str w.heap.size b _ (s.extract p n) wr HD.out (by have := HLL.out; omega) HB.out.size)
              rw [HJ.out] at HPS
              clear hsz
              go_upto_region 27 with (go_at_call 30; refine HPS.out.mono ?_; rintro e w5 ⟨rfl, hd5, hB5⟩)
              have HST := Lib.hid (Tryd.Builder_String_any w.heap.size b (lowL s.data.toList) w5 (.inr hd5) (HB.out.trans hB5).size)
              have HB5 := Lib.hid (HB.out.trans hB5)
              clear hd5 hB5
              go_wp2_with (go_at_call 32; refine HST.out.mono ?_; rintro r w6 ⟨rfl, hB6⟩)
              go_ret
              exact ⟨rfl, HB5.out.trans hB6⟩
            · obtain rfl : p = n := by omega
              have hd := HD.out
              rw [hall] at hd
              have HST := Lib.hid (Tryd.Builder_String_any w.heap.size b (lowL s.data.toList) wr (.inr hd) HB.out.size)
              clear hd hall
              go_wp2_with (go_at_call 32; refine HST.out.mono ?_; rintro r w6 ⟨rfl, hB6⟩)
              go_ret
              exact ⟨rfl, HB.out.trans hB6⟩
end Go.Proofs.YtniapbinamnmpaaDoor.L
