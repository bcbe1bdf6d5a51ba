/- Contracts of lex.number, lex.span and what it asks. -/
import Derived.Test.YtniapbinamnmpaaDoorLw
import Derived.Test.YtniapbinamnmpaaDoorLx2
import Derived.Test.YtniapbinamnmpaaDoorLx3
import Derived.IntWalk
namespace Go.Proofs.YtniapbinamnmpaaDoor.L
set_option linter.unusedVariables false
open Go.RowKit Go.Proofs.YtniapbinamnmpaaDoorW.PrintWords Go.Proofs.YtniapbinamnmpaaDoorW.PrintLast Go.Proofs.YtniapbinamnmpaaDoorW.PrintMore

def letB (c : UInt8) : Bool := (decide (65 ≤ c.toNat) && decide (c.toNat ≤ 90)) || (decide (97 ≤ c.toNat) && decide (c.toNat ≤ 122))
def digB (c : UInt8) : Bool := decide (48 ≤ c.toNat) && decide (c.toNat ≤ 57)
def wrdB (c : UInt8) : Bool := letB c || digB c || c == 95
/-- A number's digits, reckoned; none: it is too great. -/
def numL : Int → List UInt8 → Option Int
  | n, [] => some n
  | n, c :: l => if (9223372036854775807 - ((c.toNat : Int) - 48)) / 10 < n then none else numL (10 * n + ((c.toNat : Int) - 48)) l
theorem numL_bound : ∀ (l : List UInt8) (n v : Int), (∀ c ∈ l, digB c = true) → 0 ≤ n → n ≤ 9223372036854775807 → numL n l = some v → 0 ≤ v ∧ v ≤ 9223372036854775807
  | [], n, v, _, h0, h1, h => by rw [numL] at h; cases h; exact ⟨h0, h1⟩
  | c :: l, n, v, hd, h0, h1, h => by
    rw [numL] at h
    split at h
    · cases h
    · have hc := hd c (.head _)
      unfold digB at hc
      rw [Bool.and_eq_true, decide_eq_true_eq, decide_eq_true_eq] at hc
      exact numL_bound l _ v (fun x hx => hd x (.tail _ hx)) (by omega) (by omega) h
def numR (l : List UInt8) : Int × Bool := match numL 0 l with | some v => (v, true) | none => (0, false)

set_option maxHeartbeats 1000000 in
set_option maxRecDepth 100000 in
theorem number_ok (s : ByteArray) (w : World) (hs : s.size ≤ 100000) (hd : ∀ c ∈ s.data.toList, digB c = true) :
    Calls Tryd.prog 20 #[.string s] w fun e w' => e = .returned (.tuple #[.int .i64 (numR s.data.toList).1, .bool (numR s.data.toList).2]) ∧ Below w.heap.size w w' := by
  have hcv := Lib.run_convert_string_bytes (P := Tryd.prog) w 9 36 5 s Tryd.underlying9 Tryd.underlying36 Tryd.underlying5
  obtain ⟨cap, hcap⟩ : ∃ c, grownCap w s.size 0 5 = c := ⟨_, rfl⟩
  rw [hcap] at hcv
  obtain ⟨w1, hw1⟩ : ∃ x, Lib.bytesWorld w 5 s = x := ⟨_, rfl⟩
  rw [hw1] at hcv
  have hcell : ∀ j, j < s.size → w1.cell? ⟨w.heap.size, j, none⟩ = some (.int .u8 (s.data.toList.getD j 0).toNat) := fun j hj => by rw [← hw1]; exact Lib.bytesWorld_cell w _ s j hj
  have hb1 : Below w.heap.size w w1 := by
    rw [← hw1]
    exact ⟨rfl, rfl, rfl, by rw [Lib.bytesWorld_size]; omega, fun k hk => Lib.bytesWorld_at_old w _ s k hk⟩
  obtain ⟨n, hn⟩ : ∃ n, s.size = n := ⟨_, rfl⟩
  obtain ⟨l, hl⟩ : ∃ l, s.data.toList = l := ⟨_, rfl⟩
  have hln : l.length = n := by rw [← hl, ← sz_list, hn]
  rw [hl] at hcell hd ⊢
  rw [hn] at hcv hcell hs
  have HCELL := Lib.hid hcell; have HB := Lib.hid hb1; have HLN := Lib.hid hln; have HD := Lib.hid hd
  obtain ⟨r, hr⟩ : ∃ r, numR l = r := ⟨_, rfl⟩
  rw [hr]
  have HR := Lib.hid hr
  clear hcell hb1 hw1 hcap hln hd hl hn hr
  go_enter Tryd.func20, Tryd.ntmps20
  go_wp2_with fail
  clear hcv
  go_loopw [4, 6, 7, 11] (fun v4 _ _ v11 wr => ∃ (k : Nat) (m : Int), k ≤ n ∧ v11 = .int .i64 k ∧ v4 = .int .i64 m ∧ 0 ≤ m ∧ m ≤ 9223372036854775807 ∧ Hid (numL 0 l = numL m (l.drop k)) ∧ Hid (wr = w1)) (fun _ _ _ i _ => n - (intOf i).toNat)
  case atStart => exact ⟨0, 0, Nat.zero_le _, rfl, rfl, by omega, by omega, Lib.hid rfl, Lib.hid rfl⟩
  case round =>
    obtain ⟨k, m, hk, rfl, rfl, hm0, hm1, HN, HW⟩ := hrel
    have hW := HW.out
    subst hW
    by_cases hlt : k < n
    · have hlt' : (k : Int) < n := by omega
      have hkl : k < l.length := by rw [HLN.out]; exact hlt
      obtain ⟨c, hc⟩ : ∃ c, l[k] = c := ⟨_, rfl⟩
      have hcd : digB c = true := HD.out c (hc ▸ List.getElem_mem hkl)
      unfold digB at hcd
      rw [Bool.and_eq_true, decide_eq_true_eq, decide_eq_true_eq] at hcd
      have hcl := HCELL.out k hlt
      have hgd : l.getD k 0 = c := by simp [hkl, hc]
      rw [hgd] at hcl
      have hdr : l.drop k = c :: l.drop (k + 1) := by rw [List.drop_eq_getElem_cons hkl, hc]
      have hstep : numL 0 l = if (9223372036854775807 - ((c.toNat : Int) - 48)) / 10 < m then none else numL (10 * m + ((c.toNat : Int) - 48)) (l.drop (k + 1)) := by rw [HN.out, hdr, numL]
      have HST := Lib.hid hstep
      obtain ⟨x, hx⟩ : ∃ x : Nat, c.toNat = x := ⟨_, rfl⟩
      rw [hx] at hcl hcd HST
      obtain ⟨hc1, hc2⟩ := hcd
      clear hstep hdr hgd hc hx hkl
      have hi1 : (48 : Int) ≤ (x : Int) := by omega
      have hi2 : (x : Int) ≤ 57 := by omega
      by_cases hov : (9223372036854775807 - ((x : Int) - 48)) / 10 < m
      · have HE : Hid (r = (0, false)) := by rw [← HR.out]; unfold numR; rw [HST.out, if_pos hov]; exact Lib.hid rfl
        go_wp2_with fail
        go_ret2
        exact ⟨by rw [HE.out]; rfl, HB.out⟩
      · have HE : Hid (numL 0 l = numL (10 * m + ((x : Int) - 48)) (l.drop (k + 1))) := by rw [HST.out, if_neg hov]; exact Lib.hid rfl
        have hb1 : 10 * m + ((x : Int) - 48) ≤ 9223372036854775807 := by omega
        have hb0 : 0 ≤ 10 * m + ((x : Int) - 48) := by omega
        have hm10 : 10 * m ≤ 9223372036854775807 := by omega
        go_wp2_with fail
        go_roundw
        case rel => exact ⟨k + 1, _, by omega, by go_num, rfl, hb0, hb1, HE.out, Lib.hid trivial⟩
        case measure => simp [intOf]; omega
    · obtain rfl : n = k := by omega
      have HE : Hid (r = (m, true)) := by
        rw [← HR.out]; unfold numR
        rw [HN.out, List.drop_of_length_le (by rw [HLN.out]; omega), numL]; exact Lib.hid rfl
      go_wp2_with fail
      go_ret2
      exact ⟨by rw [HE.out]; rfl, HB.out⟩

def spanL (p : UInt8 → Bool) (l : List UInt8) : Nat := (l.takeWhile p).length
theorem span_stop (p : UInt8 → Bool) : ∀ (d : List UInt8) (k : Nat), k ≤ d.length → (d.take k).all p = true → (k = d.length ∨ ∃ c, d[k]? = some c ∧ p c = false) → spanL p d = k
  | [], k, hk, _, _ => by simp at hk; subst hk; rfl
  | x :: d, 0, _, _, h => by
    rcases h with h | ⟨c, h, hc⟩
    · simp at h
    · simp at h; subst h
      unfold spanL; simp [hc]
  | x :: d, k + 1, hk, ha, h => by
    simp only [List.take_succ_cons, List.all_cons, Bool.and_eq_true] at ha
    have := span_stop p d k (by simpa using hk) ha.2 (by
      rcases h with h | ⟨c, h, hc⟩
      · exact .inl (by simpa using h)
      · exact .inr ⟨c, by simpa using h, hc⟩)
    unfold spanL at this ⊢
    simp [ha.1, this]
theorem span_le (p : UInt8 → Bool) (l : List UInt8) : spanL p l ≤ l.length := by unfold spanL; exact (List.takeWhile_sublist p).length_le
theorem byte_at (s : ByteArray) (l : List UInt8) (hl : s.data.toList = l) (j : Nat) (hj : j < s.size) : s[j] = l.getD j 0 := by
  subst hl
  have : j < s.data.toList.length := by rw [← sz_list]; exact hj
  rw [List.getD_eq_getElem?_getD, List.getElem?_eq_getElem this]; rfl
set_option maxHeartbeats 1000000 in
set_option maxRecDepth 100000 in
theorem span_ok (fid : Nat) (p : UInt8 → Bool) (hcf : ∀ (args : Array Value) (W : World), (callFunc fid args).run Tryd.prog W = .ok (.enter fid args) W) (hp : ∀ (c : UInt8) (W : World), Calls Tryd.prog fid #[.int .u8 c.toNat] W fun e w' => e = .returned (.bool (p c)) ∧ Drawn0 W w')
    (s : ByteArray) (i : Nat) (w : World) (hs : s.size ≤ 100000) (hi : i ≤ s.size) :
    Calls Tryd.prog 16 #[.string s, .int .i64 i, .func (.func fid) #[] #[]] w fun e w' => e = .returned (.int .i64 (spanL p (s.data.toList.drop i))) ∧ Below w.heap.size w w' := by
  obtain ⟨n, hn⟩ : ∃ n, s.size = n := ⟨_, rfl⟩
  obtain ⟨l, hl⟩ : ∃ l, s.data.toList = l := ⟨_, rfl⟩
  have hln : l.length = n := by rw [← hl, ← sz_list, hn]
  rw [hl]
  obtain ⟨r, hr⟩ : ∃ r, spanL p (l.drop i) = r := ⟨_, rfl⟩
  rw [hr]
  have HLN := Lib.hid hln; have HP := Lib.hid hp; have HL := Lib.hid hl; have HR := Lib.hid hr; have HNN := Lib.hid hn
  have hn5 : n ≤ 100000 := by omega
  have hin : i ≤ n := by omega
  clear hln hp hl hr hs hi
  go_enter Tryd.func16, Tryd.ntmps16
  go_wp2_with fail
  go_loopw [7] (fun v7 wr => ∃ k : Nat, i + k ≤ n ∧ v7 = .int .i64 k ∧ Hid (((l.drop i).take k).all p = true) ∧ Hid (Below w.heap.size w wr)) (fun v7 _ => n - (intOf v7).toNat)
  case atStart => exact ⟨0, by omega, rfl, Lib.hid (by simp), Below.refl _ _⟩
  case round =>
    obtain ⟨k, hk, rfl, HA, HB⟩ := hrel
    by_cases hlt : i + k < n
    · have hlt' : (i : Int) + k < n := by omega
      have hik : (0 : Int) ≤ (i : Int) + k := by omega
      have hit : ((i : Int) + k).toNat = i + k := by omega
      have hw1 : IntKind.i64.wrap ((i : Int) + k) = (i : Int) + k := IntWalk.i64_in _ (by omega)
      have hls : i + k < s.size := by omega
      obtain ⟨c, hc⟩ : ∃ c, s[i + k] = c := ⟨_, rfl⟩
      have HGET : Hid ((l.drop i)[k]? = some c) := by
        have h1 := byte_at s l HL.out (i + k) hls
        rw [hc] at h1
        show _ = _
        rw [List.getElem?_drop, h1, List.getElem?_eq_getElem (by rw [HLN.out]; exact hlt)]
        simp [show i + k < l.length by rw [HLN.out]; exact hlt]
      have HC := Lib.hid (HP.out c wr)
      have HSN : Hid (((l.drop i).take (k + 1)).all p = (((l.drop i).take k).all p && p c)) := by
        have hkd : k < (l.drop i).length := (List.getElem?_eq_some_iff.1 HGET.out).1
        have hg := (List.getElem?_eq_some_iff.1 HGET.out).2
        show _ = _
        rw [List.take_succ_eq_append_getElem hkd, List.all_append, hg]; simp
      obtain ⟨b, hb⟩ : ∃ b, p c = b := ⟨_, rfl⟩
      rw [hb] at HC HSN
      have HPC := Lib.hid hb
      clear hb
      go_wp2_with fail
      refine HC.out.mono ?_
      rintro r2 w2 ⟨rfl, hd2⟩
      have HB2 := Lib.hid (HB.out.trans (hd2.below.mono HB.out.size))
      clear hd2
      cases b with
      | true =>
        go_wp2_with fail
        go_roundw
        case rel => exact ⟨k + 1, by omega, by go_num, Lib.hid (by rw [HSN.out, HA.out]; rfl), HB2.out⟩
        case measure => simp [intOf]; omega
      | false =>
        have HE : Hid (r = k) := by
          rw [← HR.out]
          exact Lib.hid (span_stop p (l.drop i) k (by rw [List.length_drop, HLN.out]; omega) HA.out (.inr ⟨c, HGET.out, HPC.out⟩))
        go_wp2_with fail
        go_ret
        exact ⟨by rw [HE.out]; rfl, HB2.out⟩
    · have hlt' : ¬ (i : Int) + k < n := by omega
      have hw1 : IntKind.i64.wrap ((i : Int) + k) = (i : Int) + k := IntWalk.i64_in _ (by omega)
      have HE : Hid (r = k) := by
        rw [← HR.out]
        exact Lib.hid (span_stop p (l.drop i) k (by rw [List.length_drop, HLN.out]; omega) HA.out (.inl (by rw [List.length_drop, HLN.out]; omega)))
      go_wp2_with fail
      go_ret
      exact ⟨by rw [HE.out]; rfl, HB.out⟩

theorem drawn_trans {u v w : World} (h : Drawn0 u v) (k : Drawn0 v w) : Drawn0 u w := by
  obtain ⟨⟨n, rfl⟩⟩ := h
  obtain ⟨⟨m, rfl⟩⟩ := k
  exact ⟨⟨n + m, by rw [World.drewN_drewN]⟩⟩
theorem letter_dec : ∀ n : Fin 256, lex_letter.f (n.val : Int) = some (letB (UInt8.ofNat n.val)) := by decide +kernel
theorem u8_fin (c : UInt8) (P : UInt8 → Prop) (h : ∀ n : Fin 256, P (UInt8.ofNat n.val)) : P c := by
  have := h ⟨c.toNat, c.toNat_lt⟩
  simpa using this
theorem letter_ok (c : UInt8) (w : World) : Calls Tryd.prog 15 #[.int .u8 c.toNat] w fun e w' => e = .returned (.bool (letB c)) ∧ Drawn0 w w' := by
  have h := letter_dec ⟨c.toNat, c.toNat_lt⟩
  simp only [UInt8.ofNat_toNat] at h
  exact lex_letter.calls _ _ w h
theorem digit_ok (c : UInt8) (w : World) : Calls Tryd.prog 18 #[.int .u8 c.toNat] w fun e w' => e = .returned (.bool (digB c)) ∧ Drawn0 w w' := by
  refine lex_digit.calls _ _ w ?_
  unfold lex_digit.f digB
  by_cases h : (c.toNat : Int) ≥ 48
  · rw [if_pos h, decide_eq_true (show 48 ≤ c.toNat by omega), Bool.true_and]
    congr 1
    rw [Bool.eq_iff_iff, decide_eq_true_eq, decide_eq_true_eq]; omega
  · rw [if_neg h, decide_eq_false (show ¬ 48 ≤ c.toNat by omega), Bool.false_and]
theorem hcf17 : ∀ (args : Array Value) (W : World), (callFunc 17 args).run Tryd.prog W = .ok (.enter 17 args) W := fun args W => by go_simp
theorem hcf18 : ∀ (args : Array Value) (W : World), (callFunc 18 args).run Tryd.prog W = .ok (.enter 18 args) W := fun args W => by go_simp
set_option maxRecDepth 100000 in
theorem word_ok (c : UInt8) (w : World) : Calls Tryd.prog 17 #[.int .u8 c.toNat] w fun e w' => e = .returned (.bool (wrdB c)) ∧ Drawn0 w w' := by
  have HL := Lib.hid (fun W => letter_ok c W); have HD := Lib.hid (fun W => digit_ok c W)
  have HW : Hid (wrdB c = (letB c || digB c || c == 95)) := Lib.hid rfl
  have HE : Hid ((c == 95) = (((c.toNat : Int) == 95))) := by
    show _ = _
    rw [Bool.eq_iff_iff, beq_iff_eq, beq_iff_eq]
    constructor
    · rintro rfl; rfl
    · intro h; have : c.toNat = 95 := by omega
      exact UInt8.toNat_inj.1 this
  obtain ⟨b1, h1⟩ : ∃ b, letB c = b := ⟨_, rfl⟩
  obtain ⟨b2, h2⟩ : ∃ b, digB c = b := ⟨_, rfl⟩
  rw [h1] at HL HW; rw [h2] at HD HW
  clear h1 h2
  rw [HE.out] at HW
  obtain ⟨b3, h3⟩ : ∃ b, ((c.toNat : Int) == 95) = b := ⟨_, rfl⟩
  rw [h3] at HW
  clear HE
  rw [HW.out]
  cases b1 <;> cases b2
  all_goals
    go_enter Tryd.func17, Tryd.ntmps17
    go_wp2_with (first | (go_at_call 15; refine (HL.out _).mono ?_; rintro r w2 ⟨rfl, hd2⟩) | (go_at_call 18; refine (HD.out _).mono ?_; rintro r w3 ⟨rfl, hd3⟩))
    go_ret
    refine ⟨by first | rfl | simp, ?_⟩
    first | exact drawn_trans hd2 hd3 | exact hd2
end Go.Proofs.YtniapbinamnmpaaDoor.L
