/- Contracts and plain lemmas of the functions that the law reaches, part 7. -/
import Derived.IntWalk
import Derived.Deep.RegionHeld3
import Derived.Test.YtniapbinamnmpaaDoorM2
import Derived.Test.YtniapbinamnmpaaDoorM6
namespace Go.Proofs.YtniapbinamnmpaaDoor.L
set_option linter.unusedVariables false
open Go.RowKit Go.Proofs.YtniapbinamnmpaaDoorW.PrintWords Go.Proofs.YtniapbinamnmpaaDoorW.PrintLast Go.Proofs.YtniapbinamnmpaaDoorW.PrintMore
def letB (c : UInt8) : Bool := (decide (65 ≤ c.toNat) && decide (c.toNat ≤ 90)) || (decide (97 ≤ c.toNat) && decide (c.toNat ≤ 122))
def digB (c : UInt8) : Bool := decide (48 ≤ c.toNat) && decide (c.toNat ≤ 57)
def wrdB (c : UInt8) : Bool := letB c || digB c || c == 95
def numL : Int → List UInt8 → Option Int
  | n, [] => some n
  | n, c :: l => if (9223372036854775807 - ((c.toNat : Int) - 48)) / 10 < n then none else numL (10 * n + ((c.toNat : Int) - 48)) l
theorem numL_bound : ∀ (l : List UInt8) (n v : Int), (∀ c ∈ l, digB c = true) → 0 ≤ n → n ≤ 9223372036854775807 → numL n l = some v → 0 ≤ v ∧ v ≤ 9223372036854775807
  | [], n, v, _, h0, h1, h => by rw [numL] at h; cases h; exact ⟨h0, h1⟩
  | c :: l, n, v, hd, h0, h1, h => by
    rw [numL] at h
    split at h
    · cases h
    · have hc := hd c (.head _)
      unfold digB at hc
      rw [Bool.and_eq_true, decide_eq_true_eq, decide_eq_true_eq] at hc
      exact numL_bound l _ v (fun x hx => hd x (.tail _ hx)) (by omega) (by omega) h
def numR (l : List UInt8) : Int × Bool := match numL 0 l with | some v => (v, true) | none => (0, false)
set_option maxHeartbeats 1000000 in
set_option maxRecDepth 100000 in
theorem number_ok (s : ByteArray) (w : World) (hs : s.size ≤ 100000) (hd : ∀ c ∈ s.data.toList, digB c = true) :
    Calls Tryd.prog 20 #[.string s] w fun e w' => e = .returned (.tuple #[.int .i64 (numR s.data.toList).1, .bool (numR s.data.toList).2]) ∧ Below w.heap.size w w' := by
  have hcv := Lib.run_convert_string_bytes (P := Tryd.prog) w 9 36 5 s Tryd.underlying9 Tryd.underlying36 Tryd.underlying5
  obtain ⟨cap, hcap⟩ : ∃ c, grownCap w s.size 0 5 = c := ⟨_, rfl⟩
  rw [hcap] at hcv
  obtain ⟨w1, hw1⟩ : ∃ x, Lib.bytesWorld w 5 s = x := ⟨_, rfl⟩
  rw [hw1] at hcv
  have hcell : ∀ j, j < s.size → w1.cell? ⟨w.heap.size, j, none⟩ = some (.int .u8 (s.data.toList.getD j 0).toNat) := fun j hj => by rw [← hw1]; exact Lib.bytesWorld_cell w _ s j hj
  have hb1 : Below w.heap.size w w1 := by
    rw [← hw1]
    exact ⟨rfl, rfl, rfl, by rw [Lib.bytesWorld_size]; omega, fun k hk => Lib.bytesWorld_at_old w _ s k hk⟩
  obtain ⟨n, hn⟩ : ∃ n, s.size = n := ⟨_, rfl⟩
  obtain ⟨l, hl⟩ : ∃ l, s.data.toList = l := ⟨_, rfl⟩
  have hln : l.length = n := by rw [← hl, ← sz_list, hn]
  rw [hl] at hcell hd ⊢
  rw [hn] at hcv hcell hs
  have HCELL := Lib.hid hcell; have HB := Lib.hid hb1; have HLN := Lib.hid hln; have HD := Lib.hid hd
  obtain ⟨r, hr⟩ : ∃ r, numR l = r := ⟨_, rfl⟩
  rw [hr]
  have HR := Lib.hid hr
  clear hcell hb1 hw1 hcap hln hd hl hn hr
  go_enter Tryd.func20, Tryd.ntmps20
  go_wp2_with fail
  clear hcv
  go_loopw [4, 6, 7, 11] (fun v4 _ _ v11 wr => ∃ (k : Nat) (m : Int), k ≤ n ∧ v11 = .int .i64 k ∧ v4 = .int .i64 m ∧ 0 ≤ m ∧ m ≤ 9223372036854775807 ∧ Hid (numL 0 l = numL m (l.drop k)) ∧ Hid (wr = w1)) (fun _ _ _ i _ => n - (intOf i).toNat)
  case atStart => exact ⟨0, 0, Nat.zero_le _, rfl, rfl, by omega, by omega, Lib.hid rfl, Lib.hid rfl⟩
  case round =>
    obtain ⟨k, m, hk, rfl, rfl, hm0, hm1, HN, HW⟩ := hrel
    have hW := HW.out
    subst hW
    by_cases hlt : k < n
    · have hlt' : (k : Int) < n := by omega
      have hkl : k < l.length := by rw [HLN.out]; exact hlt
      obtain ⟨c, hc⟩ : ∃ c, l[k] = c := ⟨_, rfl⟩
      have hcd : digB c = true := HD.out c (hc ▸ List.getElem_mem hkl)
      unfold digB at hcd
      rw [Bool.and_eq_true, decide_eq_true_eq, decide_eq_true_eq] at hcd
      have hcl := HCELL.out k hlt
      have hgd : l.getD k 0 = c := by simp [hkl, hc]
      rw [hgd] at hcl
      have hdr : l.drop k = c :: l.drop (k + 1) := by rw [List.drop_eq_getElem_cons hkl, hc]
      have hstep : numL 0 l = if (9223372036854775807 - ((c.toNat : Int) - 48)) / 10 < m then none else numL (10 * m + ((c.toNat : Int) - 48)) (l.drop (k + 1)) := by rw [HN.out, hdr, numL]
      have HST := Lib.hid hstep
      obtain ⟨x, hx⟩ : ∃ x : Nat, c.toNat = x := ⟨_, rfl⟩
      rw [hx] at hcl hcd HST
      obtain ⟨hc1, hc2⟩ := hcd
      clear hstep hdr hgd hc hx hkl
      have hi1 : (48 : Int) ≤ (x : Int) := by omega
      have hi2 : (x : Int) ≤ 57 := by omega
      by_cases hov : (9223372036854775807 - ((x : Int) - 48)) / 10 < m
      · have HE : Hid (r = (0, false)) := by rw [← HR.out]; unfold numR; rw [HST.out, if_pos hov]; exact Lib.hid rfl
        go_wp2_with fail
        go_ret2
        exact ⟨by rw [HE.out]; rfl, HB.out⟩
      · have HE : Hid (numL 0 l = numL (10 * m + ((x : Int) - 48)) (l.drop (k + 1))) := by rw [HST.out, if_neg hov]; exact Lib.hid rfl
        have hb1 : 10 * m + ((x : Int) - 48) ≤ 9223372036854775807 := by omega
        have hb0 : 0 ≤ 10 * m + ((x : Int) - 48) := by omega
        have hm10 : 10 * m ≤ 9223372036854775807 := by omega
        go_wp2_with fail
        go_roundw
        case rel => exact ⟨k + 1, _, by omega, by go_num, rfl, hb0, hb1, HE.out, Lib.hid trivial⟩
        case measure => simp [intOf]; omega
    · obtain rfl : n = k := by omega
      have HE : Hid (r = (m, true)) := by
        rw [← HR.out]; unfold numR
        rw [HN.out, List.drop_of_length_le (by rw [HLN.out]; omega), numL]; exact Lib.hid rfl
      go_wp2_with fail
      go_ret2
      exact ⟨by rw [HE.out]; rfl, HB.out⟩
def spanL (p : UInt8 → Bool) (l : List UInt8) : Nat := (l.takeWhile p).length
theorem span_stop (p : UInt8 → Bool) : ∀ (d : List UInt8) (k : Nat), k ≤ d.length → (d.take k).all p = true → (k = d.length ∨ ∃ c, d[k]? = some c ∧ p c = false) → spanL p d = k
  | [], k, hk, _, _ => by simp at hk; subst hk; rfl
  | x :: d, 0, _, _, h => by
    rcases h with h | ⟨c, h, hc⟩
    · simp at h
    · simp at h; subst h
      unfold spanL; simp [hc]
  | x :: d, k + 1, hk, ha, h => by
    simp only [List.take_succ_cons, List.all_cons, Bool.and_eq_true] at ha
    have := span_stop p d k (by simpa using hk) ha.2 (by
      rcases h with h | ⟨c, h, hc⟩
      · exact .inl (by simpa using h)
      · exact .inr ⟨c, by simpa using h, hc⟩)
    unfold spanL at this ⊢
    simp [ha.1, this]
theorem span_le (p : UInt8 → Bool) (l : List UInt8) : spanL p l ≤ l.length := by unfold spanL; exact (List.takeWhile_sublist p).length_le
theorem byte_at (s : ByteArray) (l : List UInt8) (hl : s.data.toList = l) (j : Nat) (hj : j < s.size) : s[j] = l.getD j 0 := by
  subst hl
  have : j < s.data.toList.length := by rw [← sz_list]; exact hj
  rw [List.getD_eq_getElem?_getD, List.getElem?_eq_getElem this]; rfl
set_option maxHeartbeats 1000000 in
set_option maxRecDepth 100000 in
theorem span_ok (fid : Nat) (p : UInt8 → Bool) (hcf : ∀ (args : Array Value) (W : World), (callFunc fid args).run Tryd.prog W = .ok (.enter fid args) W) (hp : ∀ (c : UInt8) (W : World), Calls Tryd.prog fid #[.int .u8 c.toNat] W fun e w' => e = .returned (.bool (p c)) ∧ Drawn0 W w')
    (s : ByteArray) (i : Nat) (w : World) (hs : s.size ≤ 100000) (hi : i ≤ s.size) :
    Calls Tryd.prog 16 #[.string s, .int .i64 i, .func (.func fid) #[] #[]] w fun e w' => e = .returned (.int .i64 (spanL p (s.data.toList.drop i))) ∧ Below w.heap.size w w' := by
  obtain ⟨n, hn⟩ : ∃ n, s.size = n := ⟨_, rfl⟩
  obtain ⟨l, hl⟩ : ∃ l, s.data.toList = l := ⟨_, rfl⟩
  have hln : l.length = n := by rw [← hl, ← sz_list, hn]
  rw [hl]
  obtain ⟨r, hr⟩ : ∃ r, spanL p (l.drop i) = r := ⟨_, rfl⟩
  rw [hr]
  have HLN := Lib.hid hln; have HP := Lib.hid hp; have HL := Lib.hid hl; have HR := Lib.hid hr; have HNN := Lib.hid hn
  have hn5 : n ≤ 100000 := by omega
  have hin : i ≤ n := by omega
  clear hln hp hl hr hs hi
  go_enter Tryd.func16, Tryd.ntmps16
  go_wp2_with fail
  go_loopw [7] (fun v7 wr => ∃ k : Nat, i + k ≤ n ∧ v7 = .int .i64 k ∧ Hid (((l.drop i).take k).all p = true) ∧ Hid (Below w.heap.size w wr)) (fun v7 _ => n - (intOf v7).toNat)
  case atStart => exact ⟨0, by omega, rfl, Lib.hid (by simp), Below.refl _ _⟩
  case round =>
    obtain ⟨k, hk, rfl, HA, HB⟩ := hrel
    by_cases hlt : i + k < n
    · have hlt' : (i : Int) + k < n := by omega
      have hik : (0 : Int) ≤ (i : Int) + k := by omega
      have hit : ((i : Int) + k).toNat = i + k := by omega
      have hw1 : IntKind.i64.wrap ((i : Int) + k) = (i : Int) + k := IntWalk.i64_in _ (by omega)
      have hls : i + k < s.size := by omega
      obtain ⟨c, hc⟩ : ∃ c, s[i + k] = c := ⟨_, rfl⟩
      have HGET : Hid ((l.drop i)[k]? = some c) := by
        have h1 := byte_at s l HL.out (i + k) hls
        rw [hc] at h1
        show _ = _
        rw [List.getElem?_drop, h1, List.getElem?_eq_getElem (by rw [HLN.out]; exact hlt)]
        simp [show i + k < l.length by rw [HLN.out]; exact hlt]
      have HC := Lib.hid (HP.out c wr)
      have HSN : Hid (((l.drop i).take (k + 1)).all p = (((l.drop i).take k).all p && p c)) := by
        have hkd : k < (l.drop i).length := (List.getElem?_eq_some_iff.1 HGET.out).1
        have hg := (List.getElem?_eq_some_iff.1 HGET.out).2
        show _ = _
        rw [List.take_succ_eq_append_getElem hkd, List.all_append, hg]; simp
      obtain ⟨b, hb⟩ : ∃ b, p c = b := ⟨_, rfl⟩
      rw [hb] at HC HSN
      have HPC := Lib.hid hb
      clear hb
      go_wp2_with fail
      refine HC.out.mono ?_
      rintro r2 w2 ⟨rfl, hd2⟩
      have HB2 := Lib.hid (HB.out.trans (hd2.below.mono HB.out.size))
      clear hd2
      cases b with
      | true =>
        go_wp2_with fail
        go_roundw
        case rel => exact ⟨k + 1, by omega, by go_num, Lib.hid (by rw [HSN.out, HA.out]; rfl), HB2.out⟩
        case measure => simp [intOf]; omega
      | false =>
        have HE : Hid (r = k) := by
          rw [← HR.out]
          exact Lib.hid (span_stop p (l.drop i) k (by rw [List.length_drop, HLN.out]; omega) HA.out (.inr ⟨c, HGET.out, HPC.out⟩))
        go_wp2_with fail
        go_ret
        exact ⟨by rw [HE.out]; rfl, HB2.out⟩
    · have hlt' : ¬ (i : Int) + k < n := by omega
      have hw1 : IntKind.i64.wrap ((i : Int) + k) = (i : Int) + k := IntWalk.i64_in _ (by omega)
      have HE : Hid (r = k) := by
        rw [← HR.out]
        exact Lib.hid (span_stop p (l.drop i) k (by rw [List.length_drop, HLN.out]; omega) HA.out (.inl (by rw [List.length_drop, HLN.out]; omega)))
      go_wp2_with fail
      go_ret
      exact ⟨by rw [HE.out]; rfl, HB.out⟩
theorem drawn_trans {u v w : World} (h : Drawn0 u v) (k : Drawn0 v w) : Drawn0 u w := by
  obtain ⟨⟨n, rfl⟩⟩ := h
  obtain ⟨⟨m, rfl⟩⟩ := k
  exact ⟨⟨n + m, by rw [World.drewN_drewN]⟩⟩
theorem letter_dec : ∀ n : Fin 256, lex_letter.f (n.val : Int) = some (letB (UInt8.ofNat n.val)) := by decide +kernel
theorem letter_ok (c : UInt8) (w : World) : Calls Tryd.prog 15 #[.int .u8 c.toNat] w fun e w' => e = .returned (.bool (letB c)) ∧ Drawn0 w w' := by
  have h := letter_dec ⟨c.toNat, c.toNat_lt⟩
  simp only [UInt8.ofNat_toNat] at h
  exact lex_letter.calls _ _ w h
theorem digit_ok (c : UInt8) (w : World) : Calls Tryd.prog 18 #[.int .u8 c.toNat] w fun e w' => e = .returned (.bool (digB c)) ∧ Drawn0 w w' := by
  refine lex_digit.calls _ _ w ?_
  unfold lex_digit.f digB
  by_cases h : (c.toNat : Int) ≥ 48
  · rw [if_pos h, decide_eq_true (show 48 ≤ c.toNat by omega), Bool.true_and]
    congr 1
    rw [Bool.eq_iff_iff, decide_eq_true_eq, decide_eq_true_eq]; omega
  · rw [if_neg h, decide_eq_false (show ¬ 48 ≤ c.toNat by omega), Bool.false_and]
theorem hcf17 : ∀ (args : Array Value) (W : World), (callFunc 17 args).run Tryd.prog W = .ok (.enter 17 args) W := fun args W => by go_simp
theorem hcf18 : ∀ (args : Array Value) (W : World), (callFunc 18 args).run Tryd.prog W = .ok (.enter 18 args) W := fun args W => by go_simp
set_option maxRecDepth 100000 in
theorem word_ok (c : UInt8) (w : World) : Calls Tryd.prog 17 #[.int .u8 c.toNat] w fun e w' => e = .returned (.bool (wrdB c)) ∧ Drawn0 w w' := by
  have HL := Lib.hid (fun W => letter_ok c W); have HD := Lib.hid (fun W => digit_ok c W)
  have HW : Hid (wrdB c = (letB c || digB c || c == 95)) := Lib.hid rfl
  have HE : Hid ((c == 95) = (((c.toNat : Int) == 95))) := by
    show _ = _
    rw [Bool.eq_iff_iff, beq_iff_eq, beq_iff_eq]
    constructor
    · rintro rfl; rfl
    · intro h; have : c.toNat = 95 := by omega
      exact UInt8.toNat_inj.1 this
  obtain ⟨b1, h1⟩ : ∃ b, letB c = b := ⟨_, rfl⟩
  obtain ⟨b2, h2⟩ : ∃ b, digB c = b := ⟨_, rfl⟩
  rw [h1] at HL HW; rw [h2] at HD HW
  clear h1 h2
  rw [HE.out] at HW
  obtain ⟨b3, h3⟩ : ∃ b, ((c.toNat : Int) == 95) = b := ⟨_, rfl⟩
  rw [h3] at HW
  clear HE
  rw [HW.out]
  cases b1 <;> cases b2
  all_goals
    go_enter Tryd.func17, Tryd.ntmps17
    go_wp2_with (first | (go_at_call 15; refine (HL.out _).mono ?_; rintro r w2 ⟨rfl, hd2⟩) | (go_at_call 18; refine (HD.out _).mono ?_; rintro r w3 ⟨rfl, hd3⟩))
    go_ret
    refine ⟨by first | rfl | simp, ?_⟩
    first | exact drawn_trans hd2 hd3 | exact hd2
end Go.Proofs.YtniapbinamnmpaaDoor.L
namespace Go.Proofs.YtniapbinamnmpaaDoor.L
set_option linter.unusedVariables false
set_option linter.unusedSimpArgs false
open Go.RowKit Go.Proofs.YtniapbinamnmpaaDoorW.PrintWords Go.Proofs.YtniapbinamnmpaaDoorW.PrintLast Go.Proofs.YtniapbinamnmpaaDoorW.PrintMore
theorem wrap64_of {x : Int} (h0 : -9223372036854775808 ≤ x) (h1 : x ≤ 9223372036854775807) : wrap64 x = x := by
  unfold wrap64; omega
theorem Ev.const {α : Type} {g : Nat → Option α} {r : α} (c : Nat) (h : ∀ k, g (k + c) = some r) : Ev g r := ⟨c, fun k hk => by
  obtain ⟨m, rfl⟩ : ∃ m, k = m + c := ⟨k - c, by omega⟩
  exact h m⟩
theorem Ev.steps {α : Type} {g f : Nat → Option α} {r : α} (c : Nat) (h : ∀ k, g (k + c) = f k) (k : Ev f r) : Ev g r := by
  obtain ⟨K, hK⟩ := k
  exact ⟨K + c, fun k hk => by
    obtain ⟨m, rfl⟩ : ∃ m, k = m + c := ⟨k - c, by omega⟩
    rw [h]; exact hK m (by omega)⟩
def quotL : List UInt8 → Option (List UInt8 × Nat)
  | [] => none
  | [c] => if c = 39 then some ([], 1) else none
  | c :: d :: l => if c = 39 then (if d = 39 then (quotL l).map (fun p => (39 :: p.1, p.2 + 2)) else some ([], 1)) else (quotL (d :: l)).map (fun p => (c :: p.1, p.2 + 1))
def quotR (acc l : List UInt8) (j : Nat) : ByteArray × Int × Bool := match quotL l with | none => (⟨#[]⟩, 0, false) | some p => (⟨(acc ++ p.1).toArray⟩, ((j + p.2 : Nat) : Int), true)
def intsOf (l : List UInt8) : List Int := l.map fun c => (c.toNat : Int)
theorem strOf_ints (l : List UInt8) : strOfNums (intsOf l) = ⟨l.toArray⟩ := by
  unfold strOfNums intsOf
  congr 2
  rw [List.map_map]
  conv => rhs; rw [← List.map_id l]
  apply List.map_congr_left
  intro c _
  simp
theorem intsOf_snoc (l : List UInt8) (c : UInt8) : intsOf l ++ [(c.toNat : Int)] = intsOf (l ++ [c]) := by simp [intsOf]
theorem intsOf_len (l : List UInt8) : (intsOf l).length = l.length := by simp [intsOf]
theorem bt_list (s : ByteArray) (l : List UInt8) (hl : s.data.toList = l) (j : Nat) (c : UInt8) (r : List UInt8) (h : l.drop j = c :: r) : bt s (j : Int) = (c.toNat : Int) := by
  have hj : j < l.length := by
    have := congrArg List.length h
    simp at this; omega
  have hjs : j < s.size := by rw [sz_list, hl]; exact hj
  unfold bt
  rw [dif_pos (show ((j : Int)).toNat < s.size by omega)]
  have h2 := List.drop_eq_getElem_cons hj
  rw [h] at h2
  injection h2 with h3 h4
  have h5 := byte_at s l hl j hjs
  rw [List.getD_eq_getElem?_getD, List.getElem?_eq_getElem hj] at h5
  have h6 : s[((j : Int)).toNat] = s[j] := rfl
  rw [h6, h5, h3]; rfl
theorem drop_next {l r : List UInt8} {c : UInt8} {j : Nat} (h : l.drop j = c :: r) : l.drop (j + 1) = r := by
  rw [← List.drop_drop, h]; rfl
theorem drop_lt {l r : List UInt8} {c : UInt8} {j : Nat} (h : l.drop j = c :: r) : j < l.length := by
  have := congrArg List.length h
  simp at this; omega
theorem quot_l0 (s : ByteArray) (l : List UInt8) (hl : s.data.toList = l) (hs : l.length ≤ 100000) : ∀ (d j : Nat) (acc : List UInt8), l.length - j ≤ d → acc.length ≤ j → j ≤ l.length + 1 →
    Ev (fun k => lex_quoted.l0 k s (intsOf acc) (j : Int)) (quotR acc (l.drop j) j) := by
  have hsz : s.size = l.length := by rw [sz_list, hl]
  intro d
  induction d with
  | zero =>
    intro j acc hd ha hj
    refine Ev.const 1 (fun k => ?_)
    rw [lex_quoted.l0, if_neg (by omega), List.drop_of_length_le (by omega)]
    rfl
  | succ d ih =>
    intro j acc hd ha hj
    cases hc : l.drop j with
    | nil =>
      have hle : l.length ≤ j := List.drop_eq_nil_iff.1 hc
      refine Ev.const 1 (fun k => ?_)
      rw [lex_quoted.l0, if_neg (by omega)]
      rfl
    | cons c r =>
      have hjl := drop_lt hc
      have hb := bt_list s l hl j c r hc
      have HW : Hid (wrap64 ((j : Int) + 1) = ((j + 1 : Nat) : Int)) := Lib.hid (wrap64_of (by omega) (by omega))
      have hnx := drop_next hc
      by_cases h39 : c = 39
      · subst h39
        have hb39 : bt s (j : Int) = 39 := by rw [hb]; rfl
        cases r with
        | nil =>
          have hle : l.length ≤ j + 1 := List.drop_eq_nil_iff.1 hnx
          refine Ev.const 1 (fun k => ?_)
          rw [lex_quoted.l0, if_pos (by omega), if_pos (by omega), if_pos hb39, HW.out, if_pos (by omega), strOf_ints]
          simp [quotR, quotL]
        | cons e r =>
          have hjl2 := drop_lt hnx
          have hb2 := bt_list s l hl (j + 1) e r hnx
          have HW2 : Hid (wrap64 (((j + 1 : Nat) : Int) + 1) = ((j + 2 : Nat) : Int)) := Lib.hid (by rw [wrap64_of (by omega) (by omega)]; omega)
          by_cases he : e = 39
          · subst he
            have hb239 : bt s ((j + 1 : Nat) : Int) = 39 := by rw [hb2]; rfl
            have hnx2 : l.drop (j + 2) = r := drop_next hnx
            refine Ev.steps 1 (f := fun k => lex_quoted.l0 k s (intsOf (acc ++ [39])) ((j + 2 : Nat) : Int)) (fun k => ?_) ?_
            · rw [lex_quoted.l0, if_pos (by omega), if_pos (by omega), if_pos hb39, HW.out, if_neg (by omega), if_pos (by omega), if_pos (by omega), if_pos hb239, if_pos (by rw [intsOf_len]; omega), HW2.out, hb239, ← intsOf_snoc]; rfl
            · have := ih (j + 2) (acc ++ [39]) (by omega) (by simp; omega) (by omega)
              rw [hnx2] at this
              have e1 : quotR (acc ++ [39]) r (j + 2) = quotR acc (39 :: 39 :: r) j := by
                unfold quotR
                rw [quotL, if_pos rfl, if_pos rfl]
                cases quotL r with
                | none => rfl
                | some p => simp only [Option.map_some, List.append_assoc]; congr 3; omega
              rw [e1] at this
              exact this
          · have hbe : ¬ bt s ((j + 1 : Nat) : Int) = 39 := by
              rw [hb2]; intro h
              exact he (UInt8.toNat_inj.1 (by show e.toNat = 39; omega))
            refine Ev.const 1 (fun k => ?_)
            rw [lex_quoted.l0, if_pos (by omega), if_pos (by omega), if_pos hb39, HW.out, if_neg (by omega), if_pos (by omega), if_pos (by omega), if_neg hbe, strOf_ints]
            unfold quotR
            rw [quotL, if_pos rfl, if_neg he]
            simp
      · have hbc : ¬ bt s (j : Int) = 39 := by
          rw [hb]; intro h
          exact h39 (UInt8.toNat_inj.1 (by show c.toNat = 39; omega))
        refine Ev.steps 1 (f := fun k => lex_quoted.l0 k s (intsOf (acc ++ [c])) ((j + 1 : Nat) : Int)) (fun k => ?_) ?_
        · rw [lex_quoted.l0, if_pos (by omega), if_pos (by omega), if_neg hbc, if_pos (by rw [intsOf_len]; omega), HW.out, hb, ← intsOf_snoc]
        · have := ih (j + 1) (acc ++ [c]) (by omega) (by simp; omega) (by omega)
          rw [hnx] at this
          have e1 : quotR (acc ++ [c]) r (j + 1) = quotR acc (c :: r) j := by
            unfold quotR
            cases r with
            | nil => rw [quotL, quotL, if_neg h39]
            | cons e r =>
              rw [quotL, if_neg h39]
              cases quotL (e :: r) with
              | none => rfl
              | some p => simp only [Option.map_some, List.append_assoc]; congr 3; omega
          rw [e1] at this
          exact this
theorem quoted_ok (s : ByteArray) (i : Nat) (w : World) (hs : s.size ≤ 100000) (hi : i < s.size) :
    Calls Tryd.prog 21 #[.string s, .int .i64 i] w fun e w' => e = .returned (.tuple #[.string (quotR [] (s.data.toList.drop (i + 1)) (i + 1)).1, .int .i64 (quotR [] (s.data.toList.drop (i + 1)) (i + 1)).2.1, .bool (quotR [] (s.data.toList.drop (i + 1)) (i + 1)).2.2]) ∧ Below w.heap.size w w' := by
  have hsz := sz_list s
  obtain ⟨k, hk⟩ := (quot_l0 s _ rfl (by omega) s.data.toList.length (i + 1) [] (by omega) (by simp) (by omega)).rounds
  refine lex_quoted.calls k s i _ _ _ w ?_
  unfold lex_quoted.f
  rw [wrap64_of (by omega) (by omega)]
  exact hk
abbrev Tk := S32
def signsL : List (List UInt8) := [[60, 61], [62, 61], [60, 62], [60], [62], [61], [43], [45], [42], [47], [40], [41], [44], [46]]
def signL (d : List UInt8) : Option (List UInt8) := signsL.find? (fun g => g.isPrefixOf d)
def oneL (l : List UInt8) (i : Nat) : (Int × Int) ⊕ (Int × Int × List UInt8 × Nat) :=
  match l.drop i with
  | [] => .inl (6, i)
  | c :: r =>
    if letB c = true then (if spanL wrdB (c :: r) > 20 then .inl (5, i) else .inr (if isWord (lowL ((c :: r).take (spanL wrdB (c :: r)))) = true then 1 else 2, 0, lowL ((c :: r).take (spanL wrdB (c :: r))), i + spanL wrdB (c :: r)))
    else if digB c = true then (match numL 0 ((c :: r).take (spanL digB (c :: r))) with | none => .inl (5, i) | some v => .inr (3, v, [], i + spanL digB (c :: r)))
    else if c = 39 then (match quotL r with | none => .inl (6, l.length) | some p => if p.1.length > 40 then .inl (5, i) else .inr (4, 0, p.1, i + 1 + p.2))
    else if c = 36 then (if spanL digB r = 0 then .inl (6, i) else match numL 0 (r.take (spanL digB r)) with | none => .inl (5, i) | some v => if v < 1 ∨ v > 4 then .inl (5, i) else .inr (5, v, [], i + 1 + spanL digB r))
    else (match signL (c :: r) with | some g => .inr (6, 0, g, i + g.length) | none => .inl (6, i))
def OneQ (q : (Int × Int) ⊕ (Int × Int × List UInt8 × Nat)) (i : Nat) (e : Ending) : Prop :=
  match q with
  | .inl p => ∃ (x0 x1 x2 : Int) (x3 : ByteArray), e = .returned (.tuple #[.agg #[.int .i64 x0, .int .i64 x1, .int .i64 x2, .string x3], .int .i64 0, .int .i64 p.1, .int .i64 p.2])
  | .inr p => e = .returned (.tuple #[.agg #[.int .i64 p.1, .int .i64 p.2.1, .int .i64 i, .string ⟨p.2.2.1.toArray⟩], .int .i64 p.2.2.2, .int .i64 0, .int .i64 0])
theorem ext_list (s : ByteArray) (a b : Nat) : (s.extract a b).data.toList = (s.data.toList.drop a).take (b - a) := Lib.extract_data s a b
set_option maxRecDepth 100000 in
theorem prefix_lite (s p : ByteArray) (w : World) (hs : s.size ≤ 100000) (hp : p.size ≤ 100000) :
    Calls Tryd.prog 35 #[.string s, .string p] w fun e w' => e = .returned (.bool (p.data.toList.isPrefixOf s.data.toList)) ∧ w = w' := by
  obtain ⟨n, hn⟩ : ∃ n, s.size = n := ⟨_, rfl⟩
  obtain ⟨k, hk⟩ : ∃ k, p.size = k := ⟨_, rfl⟩
  obtain ⟨b, hb⟩ : ∃ b, p.data.toList.isPrefixOf s.data.toList = b := ⟨_, rfl⟩
  have hln : s.data.toList.length = n := by rw [← sz_list, hn]
  have hlk : p.data.toList.length = k := by rw [← sz_list, hk]
  rw [hb]
  by_cases hle : k ≤ n
  · have hle' : (k : Int) ≤ (n : Int) := by omega
    have HE : Hid (((s.extract 0 k).toList == p.toList) = b) := by
      show _ = _
      rw [← hb, Bool.eq_iff_iff, beq_iff_eq, List.isPrefixOf_iff_prefix, ByteArray.toList_eq, ByteArray.toList_eq, ext_list]
      rw [List.prefix_iff_eq_take, hlk]
      constructor
      · intro h; rw [← h]; simp
      · intro h; rw [h]; simp
    clear hb hln hlk
    go_enter Tryd.func35, Tryd.ntmps35
    go_wp2_with fail
    go_ret
    exact ⟨by rw [← HE.out]; rfl, rfl⟩
  · have hle' : ¬ (k : Int) ≤ (n : Int) := by omega
    have HE : Hid (b = false) := by
      show _ = _
      rw [← hb, Bool.eq_false_iff]
      intro h
      have := (List.isPrefixOf_iff_prefix.1 h).length_le
      omega
    clear hb hln hlk
    go_enter Tryd.func35, Tryd.ntmps35
    go_wp2_with fail
    go_ret
    exact ⟨by rw [HE.out]; rfl, rfl⟩
set_option maxRecDepth 100000 in
theorem prefix_ok (s p : ByteArray) (w : World) (hs : s.size ≤ 100000) (hp : p.size ≤ 100000) :
    Calls Tryd.prog 22 #[.string s, .string p] w fun e w' => e = .returned (.bool (p.data.toList.isPrefixOf s.data.toList)) ∧ w = w' := by
  have H := Lib.hid (prefix_lite s p w hs hp)
  obtain ⟨b, hb⟩ : ∃ b, p.data.toList.isPrefixOf s.data.toList = b := ⟨_, rfl⟩
  rw [hb] at H ⊢
  clear hb
  go_enter Tryd.func22, Tryd.ntmps22
  go_wp2_with (go_at_call 35; refine H.out.mono ?_; rintro r w2 ⟨rfl, rfl⟩)
  go_ret
  exact ⟨rfl, rfl⟩
def tkC (k n a : Int) (s : ByteArray) : Array Value := #[.int .i64 k, .int .i64 n, .int .i64 a, .string s]
theorem tk_put {w : World} {rb : Nat} {k0 n0 a0 : Int} {s0 : ByteArray} (h : w.heap[rb]? = some (.cells (tkC k0 n0 a0 s0) 32 (0, 0))) (k n a : Int) (s : ByteArray) :
    ((((w.setCell ⟨rb, 0, none⟩ (.int .i64 k)).setCell ⟨rb, 1, none⟩ (.int .i64 n)).setCell ⟨rb, 2, none⟩ (.int .i64 a)).setCell ⟨rb, 3, none⟩ (.string s)).heap[rb]? = some (.cells (tkC k n a s) 32 (0, 0)) :=
  blk_set (blk_set (blk_set (blk_set h 0 _) 1 _) 2 _) 3 _
theorem tk_below {B : Nat} {w0 w : World} {rb : Nat} (h : Below B w0 w) (hr : B ≤ rb) (k n a : Int) (s : ByteArray) :
    Below B w0 ((((w.setCell ⟨rb, 0, none⟩ (.int .i64 k)).setCell ⟨rb, 1, none⟩ (.int .i64 n)).setCell ⟨rb, 2, none⟩ (.int .i64 a)).setCell ⟨rb, 3, none⟩ (.string s)) :=
  (((h.setCell (p := ⟨rb, 0, none⟩) hr _).setCell (p := ⟨rb, 1, none⟩) hr _).setCell (p := ⟨rb, 2, none⟩) hr _).setCell (p := ⟨rb, 3, none⟩) hr _
theorem tk_far {w : World} {g rb : Nat} {o : Obj} (h : w.heap[g]? = some o) (hn : g ≠ rb) (k n a : Int) (s : ByteArray) : ((((w.setCell ⟨rb, 0, none⟩ (.int .i64 k)).setCell ⟨rb, 1, none⟩ (.int .i64 n)).setCell ⟨rb, 2, none⟩ (.int .i64 a)).setCell ⟨rb, 3, none⟩ (.string s)).heap[g]? = some o :=
  (Below.heap_setCell _ ⟨rb, 3, none⟩ _ g hn).trans ((Below.heap_setCell _ ⟨rb, 2, none⟩ _ g hn).trans ((Below.heap_setCell _ ⟨rb, 1, none⟩ _ g hn).trans ((Below.heap_setCell _ ⟨rb, 0, none⟩ _ g hn).trans h)))
theorem results_cttt {P : Program} {fn : Func} {p u v x : Tmp} {ty : TypeId} (h : fn.results = #[.cell p ty, .tmp u, .tmp v, .tmp x]) (tmps : Array Value) (w : World) (g : Nat) (t : TypeId) (cs : Array Value) (fr : Nat × Nat) (d : TypeDesc)
    (hp : tmps.getD p undef = .pointer (some ⟨g, 0, none⟩)) (hg : w.heap[g]? = some (.cells cs t fr))
    (hu : P.underlying ty = some d) (hd : (match d with | .struct _ | .array _ _ => true | _ => false) = true) (hi : (P.info? ty).map (·.size) = some cs.size) :
    (results fn tmps).run P w = .ok (.tuple #[.agg cs, tmps.getD u undef, tmps.getD v undef, tmps.getD x undef]) w := by
  have hp' : tmps[p]?.getD undef = .pointer (some ⟨g, 0, none⟩) := by simpa using hp
  simp [results, h, hp', asAddr, run_loadVar_row w g t ty cs fr d hg hu hd hi]
structure OEnv (w0 : World) (rb tb : Nat) (k n a : Int) (x : ByteArray) (k' n' a' : Int) (x' : ByteArray) (w : World) : Prop where
  bl : Below w0.heap.size w0 w
  tb_ : w.heap[tb]? = some (.cells (tkC k n a x) 32 (0, 0))
  rb_ : w.heap[rb]? = some (.cells (tkC k' n' a' x') 32 (0, 0))
  ne : rb ≠ tb
  rw_ : w0.heap.size ≤ rb
  tw_ : w0.heap.size ≤ tb
theorem OEnv.later {w0 w w' : World} {rb tb : Nat} {k n a : Int} {x : ByteArray} {k' n' a' : Int} {x' : ByteArray} (h : OEnv w0 rb tb k n a x k' n' a' x' w) (hb : Below w.heap.size w w') : OEnv w0 rb tb k n a x k' n' a' x' w' :=
  ⟨h.bl.trans (hb.mono h.bl.size), (hb.block tb (blk_lt h.tb_)).trans h.tb_, (hb.block rb (blk_lt h.rb_)).trans h.rb_, h.ne, h.rw_, h.tw_⟩
theorem OEnv.set {w0 w : World} {rb tb : Nat} {k n a : Int} {x : ByteArray} {k' n' a' : Int} {x' : ByteArray} (h : OEnv w0 rb tb k n a x k' n' a' x' w) (i : Nat) (v : Value) {k1 n1 a1 : Int} {x1 : ByteArray} (hv : (tkC k n a x).setIfInBounds i v = tkC k1 n1 a1 x1) : OEnv w0 rb tb k1 n1 a1 x1 k' n' a' x' (w.setCell ⟨tb, i, none⟩ v) :=
  ⟨h.bl.setCell (p := ⟨tb, i, none⟩) h.tw_ _, by rw [← hv]; exact blk_set h.tb_ i v, (Below.heap_setCell _ ⟨tb, i, none⟩ _ rb h.ne).trans h.rb_, h.ne, h.rw_, h.tw_⟩
theorem oenv_drew {w0 w : World} {rb tb : Nat} {k n a : Int} {x : ByteArray} {k' n' a' : Int} {x' : ByteArray} (h : OEnv w0 rb tb k n a x k' n' a' x' w) : OEnv w0 rb tb k n a x k' n' a' x' w.drew :=
  h.later ⟨rfl, rfl, rfl, Nat.le_refl _, fun _ _ => rfl⟩
theorem ascii_wrd {c : UInt8} (h : wrdB c = true) : c.toNat < 128 := by
  unfold wrdB letB digB at h
  simp only [Bool.or_eq_true, Bool.and_eq_true, decide_eq_true_eq, beq_iff_eq] at h
  rcases h with ((h | h) | h) | h
  · omega
  · omega
  · omega
  · subst h; decide
theorem take_all (p : UInt8 → Bool) (d : List UInt8) : ∀ c ∈ d.take (spanL p d), p c = true := by
  intro c hc
  have h : d.take (spanL p d) = d.takeWhile p := by
    unfold spanL
    have := List.takeWhile_prefix p (l := d)
    exact (List.prefix_iff_eq_take.1 this).symm
  rw [h] at hc
  exact List.all_eq_true.1 (List.all_takeWhile ..) c hc
def signsV : Array Value := (signsL.map fun x => Value.string ⟨x.toArray⟩).toArray
def OneP (w0 : World) (l : List UInt8) (i : Nat) (e : Ending) (w' : World) : Prop := OneQ (oneL l i) i e ∧ Below w0.heap.size w0 w'
theorem one_inr {w0 w' : World} {l : List UInt8} {i : Nat} {k n e : Int} {x : List UInt8} {E : Nat} {S : ByteArray} (h : oneL l i = .inr (k, n, x, E)) (hS : S = ⟨x.toArray⟩) (hE : e = (E : Int)) (hb : Below w0.heap.size w0 w') :
    OneP w0 l i (.returned (.tuple #[.agg (tkC k n i S), .int .i64 e, .int .i64 0, .int .i64 0])) w' := by
  subst hS; subst hE
  refine ⟨?_, hb⟩
  rw [h]; rfl
theorem one_inl {w0 w' : World} {l : List UInt8} {i : Nat} {k n a : Int} {S : ByteArray} {e p : Int} (h : oneL l i = .inl (e, p)) (hb : Below w0.heap.size w0 w') :
    OneP w0 l i (.returned (.tuple #[.agg (tkC k n a S), .int .i64 0, .int .i64 e, .int .i64 p])) w' := by
  refine ⟨?_, hb⟩
  rw [h]; exact ⟨k, n, a, S, rfl⟩
set_option maxHeartbeats 8000000 in
set_option maxRecDepth 100000 in
theorem one_ok (s : ByteArray) (l : List UInt8) (hl : s.data.toList = l) (i : Nat) (sb mb m : Nat) (w : World) (hs : s.size ≤ 100000) (hi : i < s.size) (hsb : w.heap[sb]? = some (.cells #[.string s] 9 (0, 0))) (hmb : w.heap[mb]? = some (.cells #[.map (some m)] 39 (0, 0))) (hK : KnownAt m w) :
    Calls Tryd.prog 14 #[.int .i64 i, .pointer (some ⟨sb, 0, none⟩), .pointer (some ⟨mb, 0, none⟩)] w (OneP w l i) := by
  obtain ⟨n, hn⟩ : ∃ n, s.size = n := ⟨_, rfl⟩
  have hln : l.length = n := by rw [← hl, ← sz_list, hn]
  have hin : i < n := by omega
  have hn5 : n ≤ 100000 := by omega
  obtain ⟨c, hc⟩ : ∃ c, s[i] = c := ⟨_, rfl⟩
  have hdr : ∃ r, l.drop i = c :: r := by
    refine ⟨l.drop (i + 1), ?_⟩
    rw [List.drop_eq_getElem_cons (by omega)]
    congr 1
    have h1 := byte_at s l hl i hi
    rw [hc] at h1
    rw [h1]; simp [show i < l.length by omega]
  obtain ⟨r, hdr⟩ := hdr
  have HSC : Hid (∀ W, Below w.heap.size w W → W.cell? ⟨sb, 0, none⟩ = some (.string s)) := Lib.hid (fun W hW => (bkC ((hW.block sb (blk_lt hsb)).trans hsb) 0).trans rfl)
  have HMC : Hid (∀ W, Below w.heap.size w W → W.cell? ⟨mb, 0, none⟩ = some (.map (some m))) := Lib.hid (fun W hW => (bkC ((hW.block mb (blk_lt hmb)).trans hmb) 0).trans rfl)
  have HKN : Hid (∀ W, Below w.heap.size w W → KnownAt m W) := Lib.hid (fun W hW => hK.later hW)
  have HSB := Lib.hid (blk_lt hsb)
  have HDR := Lib.hid hdr; have HLN := Lib.hid hln; have HL := Lib.hid hl; have HNN := Lib.hid hn; have HC0 := Lib.hid hc
  have HO : Hid (oneL l i = (if letB c = true then (if spanL wrdB (c :: r) > 20 then .inl (5, (i : Int)) else .inr (if isWord (lowL ((c :: r).take (spanL wrdB (c :: r)))) = true then 1 else 2, 0, lowL ((c :: r).take (spanL wrdB (c :: r))), i + spanL wrdB (c :: r)))
    else if digB c = true then (match numL 0 ((c :: r).take (spanL digB (c :: r))) with | none => .inl (5, (i : Int)) | some v => .inr (3, v, [], i + spanL digB (c :: r)))
    else if c = 39 then (match quotL r with | none => .inl (6, (l.length : Int)) | some p => if p.1.length > 40 then .inl (5, (i : Int)) else .inr (4, 0, p.1, i + 1 + p.2))
    else if c = 36 then (if spanL digB r = 0 then .inl (6, (i : Int)) else match numL 0 (r.take (spanL digB r)) with | none => .inl (5, (i : Int)) | some v => if v < 1 ∨ v > 4 then .inl (5, (i : Int)) else .inr (5, v, [], i + 1 + spanL digB r))
    else (match signL (c :: r) with | some g => .inr (6, 0, g, i + g.length) | none => .inl (6, (i : Int))))) := by
    show _ = _
    unfold oneL; rw [hdr]; try rfl
  have hbl0 := Below.refl w.heap.size w
  have hsc0 := HSC.out w hbl0; have hmc0 := HMC.out w hbl0
  clear hsb hmb hK hdr hln hl hbl0
  go_enter Tryd.func14, Tryd.ntmps14
  go_upto_region 1 with (first | ((with_reducible refine gate_dst (N := 4) rfl ?_); refine box_event rfl (N := 4) rfl (cs := #[.int .i64 0, .int .i64 0, .int .i64 0, .string ⟨#[]⟩]) (t := 32) (by first | rfl | (go_simp; done) | (go_simp; rfl)) ?_; intro rb hgg w1 hbrb hBrb; have hrw : w.heap.size ≤ rb := (by omega); clear hgg))
  go_upto_region 2 with (first | ((with_reducible refine gate_dst (N := 8) rfl ?_); refine box_event rfl (N := 8) rfl (cs := #[.int .i64 0, .int .i64 0, .int .i64 0, .string ⟨#[]⟩]) (t := 32) (by first | rfl | (go_simp; done) | (go_simp; rfl)) ?_; intro tb hgg w2 hbtb hBtb; have htw : w1.heap.size ≤ tb := (by omega); clear hgg; have q0 : w2.cell? ⟨tb, 0, none⟩ = some (.int .i64 0) := ((bkC hbtb 0).trans rfl); have q1 : w2.cell? ⟨tb, 1, none⟩ = some (.int .i64 0) := ((bkC hbtb 1).trans rfl); have q2 : w2.cell? ⟨tb, 2, none⟩ = some (.int .i64 0) := ((bkC hbtb 2).trans rfl); have q3 : w2.cell? ⟨tb, 3, none⟩ = some (.string ⟨#[]⟩) := ((bkC hbtb 3).trans rfl); have f0 := bkF hbtb 0; have f1 := bkF hbtb 1; have f2 := bkF hbtb 2; have f3 := bkF hbtb 3))
  have hne : rb ≠ tb := by have := blk_lt hbrb; omega
  have E3 : Hid (OEnv w rb tb 0 0 i ⟨#[]⟩ 0 0 0 ⟨#[]⟩ ((((w2.setCell ⟨tb, 0, none⟩ (.int .i64 0)).setCell ⟨tb, 1, none⟩ (.int .i64 0)).setCell ⟨tb, 2, none⟩ (.int .i64 i)).setCell ⟨tb, 3, none⟩ (.string ⟨#[]⟩))) :=
    ⟨tk_below (hBrb.trans (hBtb.mono hBrb.size)) (Nat.le_trans hBrb.size htw) 0 0 i ⟨#[]⟩, tk_put (k0 := 0) (n0 := 0) (a0 := 0) (s0 := ⟨#[]⟩) hbtb 0 0 i ⟨#[]⟩, tk_far ((hBtb.block rb (blk_lt hbrb)).trans hbrb) hne 0 0 i ⟨#[]⟩, hne, hrw, Nat.le_trans hBrb.size htw⟩
  clear q0 q1 q2 q3 f0 f1 f2 f3 hbrb hBrb hbtb hBtb hne hrw htw hsc0 hmc0
  generalize (((w2.setCell ⟨tb, 0, none⟩ (.int .i64 0)).setCell ⟨tb, 1, none⟩ (.int .i64 0)).setCell ⟨tb, 2, none⟩ (.int .i64 i)).setCell ⟨tb, 3, none⟩ (.string ⟨#[]⟩) = w3 at E3 ⊢
  have hi0 : (0 : Int) ≤ (i : Int) := by omega
  have hin' : (i : Int) < (n : Int) := by omega
  have ht0 : w3.cell? ⟨tb, 0, none⟩ = some (.int .i64 0) := (bkC E3.out.tb_ 0).trans rfl; have htf0 := bkF E3.out.tb_ 0; have ht1 : w3.cell? ⟨tb, 1, none⟩ = some (.int .i64 0) := (bkC E3.out.tb_ 1).trans rfl; have htf1 := bkF E3.out.tb_ 1; have ht2 : w3.cell? ⟨tb, 2, none⟩ = some (.int .i64 i) := (bkC E3.out.tb_ 2).trans rfl; have htf2 := bkF E3.out.tb_ 2; have ht3 : w3.cell? ⟨tb, 3, none⟩ = some (.string ⟨#[]⟩) := (bkC E3.out.tb_ 3).trans rfl; have htf3 := bkF E3.out.tb_ 3; have hr0 : w3.cell? ⟨rb, 0, none⟩ = some (.int .i64 0) := (bkC E3.out.rb_ 0).trans rfl; have hrf0 := bkF E3.out.rb_ 0; have hr1 : w3.cell? ⟨rb, 1, none⟩ = some (.int .i64 0) := (bkC E3.out.rb_ 1).trans rfl; have hrf1 := bkF E3.out.rb_ 1; have hr2 : w3.cell? ⟨rb, 2, none⟩ = some (.int .i64 0) := (bkC E3.out.rb_ 2).trans rfl; have hrf2 := bkF E3.out.rb_ 2; have hr3 : w3.cell? ⟨rb, 3, none⟩ = some (.string ⟨#[]⟩) := (bkC E3.out.rb_ 3).trans rfl; have hrf3 := bkF E3.out.rb_ 3; have hsc : w3.cell? ⟨sb, 0, none⟩ = some (.string s) := HSC.out w3 E3.out.bl; have hmc : w3.cell? ⟨mb, 0, none⟩ = some (.map (some m)) := HMC.out w3 E3.out.bl
  go_upto_region 3 with fail
  obtain ⟨b1, hb1⟩ : ∃ b, letB c = b := ⟨_, rfl⟩
  have HLT : Hid (Calls Tryd.prog 15 #[.int .u8 c.toNat] w3 fun e w' => e = .returned (.bool b1) ∧ Below w3.heap.size w3 w') := (letter_ok c w3).mono (by rintro e w' ⟨rfl, h⟩; exact ⟨by rw [hb1], h.below⟩)
  have HB1 := Lib.hid hb1
  clear hb1
  cases b1 with
  | true =>
    have HO1 := Lib.hid (HO.out.trans (if_pos HB1.out))
    go_upto_region 4 with (go_at_call 15; refine HLT.out.mono ?_; rintro e_ w4 ⟨rfl, hb_⟩)
    have E4 := Lib.hid (E3.out.later hb_)
    clear ht0 htf0 ht1 htf1 ht2 htf2 ht3 htf3 hr0 hrf0 hr1 hrf1 hr2 hrf2 hr3 hrf3 hsc hmc hb_
    have ht0 : w4.cell? ⟨tb, 0, none⟩ = some (.int .i64 0) := (bkC E4.out.tb_ 0).trans rfl; have htf0 := bkF E4.out.tb_ 0; have ht1 : w4.cell? ⟨tb, 1, none⟩ = some (.int .i64 0) := (bkC E4.out.tb_ 1).trans rfl; have htf1 := bkF E4.out.tb_ 1; have ht2 : w4.cell? ⟨tb, 2, none⟩ = some (.int .i64 i) := (bkC E4.out.tb_ 2).trans rfl; have htf2 := bkF E4.out.tb_ 2; have ht3 : w4.cell? ⟨tb, 3, none⟩ = some (.string ⟨#[]⟩) := (bkC E4.out.tb_ 3).trans rfl; have htf3 := bkF E4.out.tb_ 3; have hr0 : w4.cell? ⟨rb, 0, none⟩ = some (.int .i64 0) := (bkC E4.out.rb_ 0).trans rfl; have hrf0 := bkF E4.out.rb_ 0; have hr1 : w4.cell? ⟨rb, 1, none⟩ = some (.int .i64 0) := (bkC E4.out.rb_ 1).trans rfl; have hrf1 := bkF E4.out.rb_ 1; have hr2 : w4.cell? ⟨rb, 2, none⟩ = some (.int .i64 0) := (bkC E4.out.rb_ 2).trans rfl; have hrf2 := bkF E4.out.rb_ 2; have hr3 : w4.cell? ⟨rb, 3, none⟩ = some (.string ⟨#[]⟩) := (bkC E4.out.rb_ 3).trans rfl; have hrf3 := bkF E4.out.rb_ 3; have hsc : w4.cell? ⟨sb, 0, none⟩ = some (.string s) := HSC.out w4 E4.out.bl; have hmc : w4.cell? ⟨mb, 0, none⟩ = some (.map (some m)) := HMC.out w4 E4.out.bl
    obtain ⟨q, hq⟩ : ∃ q, spanL wrdB (c :: r) = q := ⟨_, rfl⟩
    have hqn : i + q ≤ n := by
      have h1 := span_le wrdB (c :: r)
      rw [← HDR.out, List.length_drop, HLN.out] at h1
      rw [HDR.out] at h1; omega
    obtain ⟨tx, htx⟩ : ∃ tx, lowL ((c :: r).take q) = tx := ⟨_, rfl⟩
    have HSP : Hid (Calls Tryd.prog 16 #[.string s, .int .i64 i, .func (.func 17) #[] #[]] w4 fun e w' => e = .returned (.int .i64 q) ∧ Below w4.heap.size w4 w') := by
      have h := span_ok 17 wrdB hcf17 word_ok s i w4 (by omega) (by omega)
      rw [HL.out, HDR.out, hq] at h
      exact Lib.hid h
    have HLW : Hid (∀ W : World, Calls Tryd.prog 19 #[.string (s.extract i (i + q))] W fun e w' => e = .returned (.string ⟨tx.toArray⟩) ∧ Below W.heap.size W w') := by
      have he : (s.extract i (i + q)).data.toList = (c :: r).take q := by rw [ext_list, HL.out, HDR.out]; congr 1; omega
      refine Lib.hid (fun W => ?_)
      have h := lower_ok (s.extract i (i + q)) W (by rw [ByteArray.size_extract]; omega) (fun k hk => by
        have h1 := take_all wrdB (c :: r) ((s.extract i (i + q))[k]) (by
          rw [hq, ← he]
          exact List.getElem_mem (l := (s.extract i (i + q)).data.toList) (by rw [← sz_list]; exact hk))
        exact ascii_wrd h1)
      rw [he, htx] at h
      exact h
    have HTX : Hid (tx.length = q) := by
      rw [← htx, lowL_len, List.length_take]
      have := span_le wrdB (c :: r)
      show _ = _; omega
    rw [hq, htx] at HO1
    clear hq htx
    go_upto_region 5 with (go_at_call 16; refine HSP.out.mono ?_; rintro e_ w5 ⟨rfl, hb_⟩)
    have E5 := Lib.hid (E4.out.later hb_)
    clear ht0 htf0 ht1 htf1 ht2 htf2 ht3 htf3 hr0 hrf0 hr1 hrf1 hr2 hrf2 hr3 hrf3 hsc hmc hb_
    have ht0 : w5.cell? ⟨tb, 0, none⟩ = some (.int .i64 0) := (bkC E5.out.tb_ 0).trans rfl; have htf0 := bkF E5.out.tb_ 0; have ht1 : w5.cell? ⟨tb, 1, none⟩ = some (.int .i64 0) := (bkC E5.out.tb_ 1).trans rfl; have htf1 := bkF E5.out.tb_ 1; have ht2 : w5.cell? ⟨tb, 2, none⟩ = some (.int .i64 i) := (bkC E5.out.tb_ 2).trans rfl; have htf2 := bkF E5.out.tb_ 2; have ht3 : w5.cell? ⟨tb, 3, none⟩ = some (.string ⟨#[]⟩) := (bkC E5.out.tb_ 3).trans rfl; have htf3 := bkF E5.out.tb_ 3; have hr0 : w5.cell? ⟨rb, 0, none⟩ = some (.int .i64 0) := (bkC E5.out.rb_ 0).trans rfl; have hrf0 := bkF E5.out.rb_ 0; have hr1 : w5.cell? ⟨rb, 1, none⟩ = some (.int .i64 0) := (bkC E5.out.rb_ 1).trans rfl; have hrf1 := bkF E5.out.rb_ 1; have hr2 : w5.cell? ⟨rb, 2, none⟩ = some (.int .i64 0) := (bkC E5.out.rb_ 2).trans rfl; have hrf2 := bkF E5.out.rb_ 2; have hr3 : w5.cell? ⟨rb, 3, none⟩ = some (.string ⟨#[]⟩) := (bkC E5.out.rb_ 3).trans rfl; have hrf3 := bkF E5.out.rb_ 3; have hsc : w5.cell? ⟨sb, 0, none⟩ = some (.string s) := HSC.out w5 E5.out.bl; have hmc : w5.cell? ⟨mb, 0, none⟩ = some (.map (some m)) := HMC.out w5 E5.out.bl
    have hiq : (i : Int) + q ≤ n := by omega
    have hiq1 : (i : Int) ≤ (i : Int) + q := by omega
    have hiq2 : ((i : Int) + q).toNat = i + q := by omega
    have hit : (i : Int).toNat = i := by omega
    have hwr : IntKind.i64.wrap ((i : Int) + q) = (i : Int) + q := IntWalk.i64_in _ (by omega)
    have HL5 := Lib.hid (HLW.out w5)
    go_upto_region 6 with (go_at_call 19; refine HL5.out.mono ?_; rintro e_ w6 ⟨rfl, hb_⟩; have E6 := Lib.hid (E5.out.later hb_); clear ht0 htf0 ht1 htf1 ht2 htf2 ht3 htf3 hr0 hrf0 hr1 hrf1 hr2 hrf2 hr3 hrf3 hsc hmc hb_; have ht0 : w6.cell? ⟨tb, 0, none⟩ = some (.int .i64 0) := (bkC E6.out.tb_ 0).trans rfl; have htf0 := bkF E6.out.tb_ 0; have ht1 : w6.cell? ⟨tb, 1, none⟩ = some (.int .i64 0) := (bkC E6.out.tb_ 1).trans rfl; have htf1 := bkF E6.out.tb_ 1; have ht2 : w6.cell? ⟨tb, 2, none⟩ = some (.int .i64 i) := (bkC E6.out.tb_ 2).trans rfl; have htf2 := bkF E6.out.tb_ 2; have ht3 : w6.cell? ⟨tb, 3, none⟩ = some (.string ⟨#[]⟩) := (bkC E6.out.tb_ 3).trans rfl; have htf3 := bkF E6.out.tb_ 3; have hr0 : w6.cell? ⟨rb, 0, none⟩ = some (.int .i64 0) := (bkC E6.out.rb_ 0).trans rfl; have hrf0 := bkF E6.out.rb_ 0; have hr1 : w6.cell? ⟨rb, 1, none⟩ = some (.int .i64 0) := (bkC E6.out.rb_ 1).trans rfl; have hrf1 := bkF E6.out.rb_ 1; have hr2 : w6.cell? ⟨rb, 2, none⟩ = some (.int .i64 0) := (bkC E6.out.rb_ 2).trans rfl; have hrf2 := bkF E6.out.rb_ 2; have hr3 : w6.cell? ⟨rb, 3, none⟩ = some (.string ⟨#[]⟩) := (bkC E6.out.rb_ 3).trans rfl; have hrf3 := bkF E6.out.rb_ 3; have hsc : w6.cell? ⟨sb, 0, none⟩ = some (.string s) := HSC.out w6 E6.out.bl; have hmc : w6.cell? ⟨mb, 0, none⟩ = some (.map (some m)) := HMC.out w6 E6.out.bl)
    have E7 : Hid (OEnv w rb tb 2 0 i ⟨tx.toArray⟩ 0 0 0 ⟨#[]⟩ ((w6.setCell ⟨tb, 0, none⟩ (.int .i64 2)).setCell ⟨tb, 3, none⟩ (.string ⟨tx.toArray⟩))) := (E6.out.set 0 (.int .i64 2) (k1 := 2) (n1 := 0) (a1 := i) (x1 := ⟨#[]⟩) rfl).set 3 (.string ⟨tx.toArray⟩) rfl
    generalize (w6.setCell ⟨tb, 0, none⟩ (.int .i64 2)).setCell ⟨tb, 3, none⟩ (.string ⟨tx.toArray⟩) = w7 at E7 ⊢
    clear ht0 htf0 ht1 htf1 ht2 htf2 ht3 htf3 hr0 hrf0 hr1 hrf1 hr2 hrf2 hr3 hrf3 hsc hmc
    have ht0 : w7.cell? ⟨tb, 0, none⟩ = some (.int .i64 2) := (bkC E7.out.tb_ 0).trans rfl; have htf0 := bkF E7.out.tb_ 0; have ht1 : w7.cell? ⟨tb, 1, none⟩ = some (.int .i64 0) := (bkC E7.out.tb_ 1).trans rfl; have htf1 := bkF E7.out.tb_ 1; have ht2 : w7.cell? ⟨tb, 2, none⟩ = some (.int .i64 i) := (bkC E7.out.tb_ 2).trans rfl; have htf2 := bkF E7.out.tb_ 2; have ht3 : w7.cell? ⟨tb, 3, none⟩ = some (.string ⟨tx.toArray⟩) := (bkC E7.out.tb_ 3).trans rfl; have htf3 := bkF E7.out.tb_ 3; have hr0 : w7.cell? ⟨rb, 0, none⟩ = some (.int .i64 0) := (bkC E7.out.rb_ 0).trans rfl; have hrf0 := bkF E7.out.rb_ 0; have hr1 : w7.cell? ⟨rb, 1, none⟩ = some (.int .i64 0) := (bkC E7.out.rb_ 1).trans rfl; have hrf1 := bkF E7.out.rb_ 1; have hr2 : w7.cell? ⟨rb, 2, none⟩ = some (.int .i64 0) := (bkC E7.out.rb_ 2).trans rfl; have hrf2 := bkF E7.out.rb_ 2; have hr3 : w7.cell? ⟨rb, 3, none⟩ = some (.string ⟨#[]⟩) := (bkC E7.out.rb_ 3).trans rfl; have hrf3 := bkF E7.out.rb_ 3; have hsc : w7.cell? ⟨sb, 0, none⟩ = some (.string s) := HSC.out w7 E7.out.bl; have hmc : w7.cell? ⟨mb, 0, none⟩ = some (.map (some m)) := HMC.out w7 E7.out.bl
    obtain ⟨wb, hwb⟩ : ∃ b, isWord tx = b := ⟨_, rfl⟩
    have hlk := known_look (HKN.out w7 E7.out.bl) ⟨tx.toArray⟩ (by rw [ba_size, HTX.out]; omega) tx (ba_mk _) wb hwb
    rw [hwb] at HO1
    clear hwb
    cases wb with
    | true =>
      go_upto_region 8 with fail
      clear hlk
      have E8 : Hid (OEnv w rb tb 1 0 i ⟨tx.toArray⟩ 0 0 0 ⟨#[]⟩ (w7.setCell ⟨tb, 0, none⟩ (.int .i64 1))) := E7.out.set 0 (.int .i64 1) rfl
      generalize w7.setCell ⟨tb, 0, none⟩ (.int .i64 1) = w8 at E8 ⊢
      clear ht0 htf0 ht1 htf1 ht2 htf2 ht3 htf3 hr0 hrf0 hr1 hrf1 hr2 hrf2 hr3 hrf3 hsc hmc
      have ht0 : w8.cell? ⟨tb, 0, none⟩ = some (.int .i64 1) := (bkC E8.out.tb_ 0).trans rfl; have htf0 := bkF E8.out.tb_ 0; have ht1 : w8.cell? ⟨tb, 1, none⟩ = some (.int .i64 0) := (bkC E8.out.tb_ 1).trans rfl; have htf1 := bkF E8.out.tb_ 1; have ht2 : w8.cell? ⟨tb, 2, none⟩ = some (.int .i64 i) := (bkC E8.out.tb_ 2).trans rfl; have htf2 := bkF E8.out.tb_ 2; have ht3 : w8.cell? ⟨tb, 3, none⟩ = some (.string ⟨tx.toArray⟩) := (bkC E8.out.tb_ 3).trans rfl; have htf3 := bkF E8.out.tb_ 3; have hr0 : w8.cell? ⟨rb, 0, none⟩ = some (.int .i64 0) := (bkC E8.out.rb_ 0).trans rfl; have hrf0 := bkF E8.out.rb_ 0; have hr1 : w8.cell? ⟨rb, 1, none⟩ = some (.int .i64 0) := (bkC E8.out.rb_ 1).trans rfl; have hrf1 := bkF E8.out.rb_ 1; have hr2 : w8.cell? ⟨rb, 2, none⟩ = some (.int .i64 0) := (bkC E8.out.rb_ 2).trans rfl; have hrf2 := bkF E8.out.rb_ 2; have hr3 : w8.cell? ⟨rb, 3, none⟩ = some (.string ⟨#[]⟩) := (bkC E8.out.rb_ 3).trans rfl; have hrf3 := bkF E8.out.rb_ 3; have hsc : w8.cell? ⟨sb, 0, none⟩ = some (.string s) := HSC.out w8 E8.out.bl; have hmc : w8.cell? ⟨mb, 0, none⟩ = some (.map (some m)) := HMC.out w8 E8.out.bl
      by_cases h20 : q > 20
      · have h20' : (20 : Int) < (q : Int) := by omega
        have HO2 := Lib.hid (HO1.out.trans (if_pos h20))
        go_wp2_with fail
        exact bodyPost_ret (results_cttt (p := 4) (u := 5) (v := 6) (x := 7) rfl _ _ rb 32 (tkC (1) (0) (i) (⟨tx.toArray⟩)) (0, 0) _ rfl (tk_put E8.out.rb_ (1) (0) (i) (⟨tx.toArray⟩)) Tryd.underlying32 rfl (by kernel_rfl)) rfl (one_inl HO2.out (tk_below E8.out.bl E8.out.rw_ (1) (0) (i) (⟨tx.toArray⟩)))
      · have h20' : ¬ (20 : Int) < (q : Int) := by omega
        have HO2 : Hid (oneL l i = .inr (1, 0, tx, i + q)) := Lib.hid (by have h := HO1.out; rw [if_neg h20] at h; first | exact h | simpa using h)
        go_wp2_with fail
        exact bodyPost_ret (results_cttt (p := 4) (u := 5) (v := 6) (x := 7) rfl _ _ rb 32 (tkC (1) (0) (i) (⟨tx.toArray⟩)) (0, 0) _ rfl (tk_put E8.out.rb_ (1) (0) (i) (⟨tx.toArray⟩)) Tryd.underlying32 rfl (by kernel_rfl)) rfl (one_inr (e := (i : Int) + q) HO2.out rfl (by omega) (tk_below E8.out.bl E8.out.rw_ (1) (0) (i) (⟨tx.toArray⟩)))
    | false =>
      go_upto_region 8 with fail
      clear hlk
      by_cases h20 : q > 20
      · have h20' : (20 : Int) < (q : Int) := by omega
        have HO2 := Lib.hid (HO1.out.trans (if_pos h20))
        go_wp2_with fail
        exact bodyPost_ret (results_cttt (p := 4) (u := 5) (v := 6) (x := 7) rfl _ _ rb 32 (tkC (2) (0) (i) (⟨tx.toArray⟩)) (0, 0) _ rfl (tk_put E7.out.rb_ (2) (0) (i) (⟨tx.toArray⟩)) Tryd.underlying32 rfl (by kernel_rfl)) rfl (one_inl HO2.out (tk_below E7.out.bl E7.out.rw_ (2) (0) (i) (⟨tx.toArray⟩)))
      · have h20' : ¬ (20 : Int) < (q : Int) := by omega
        have HO2 : Hid (oneL l i = .inr (2, 0, tx, i + q)) := Lib.hid (by have h := HO1.out; rw [if_neg h20] at h; first | exact h | simpa using h)
        go_wp2_with fail
        exact bodyPost_ret (results_cttt (p := 4) (u := 5) (v := 6) (x := 7) rfl _ _ rb 32 (tkC (2) (0) (i) (⟨tx.toArray⟩)) (0, 0) _ rfl (tk_put E7.out.rb_ (2) (0) (i) (⟨tx.toArray⟩)) Tryd.underlying32 rfl (by kernel_rfl)) rfl (one_inr (e := (i : Int) + q) HO2.out rfl (by omega) (tk_below E7.out.bl E7.out.rw_ (2) (0) (i) (⟨tx.toArray⟩)))
  | false =>
    have HO1 := Lib.hid (HO.out.trans (if_neg (by rw [HB1.out]; decide)))
    go_upto_region 11 with (go_at_call 15; refine HLT.out.mono ?_; rintro e_ w4 ⟨rfl, hb_⟩)
    have E4 := Lib.hid (E3.out.later hb_)
    clear ht0 htf0 ht1 htf1 ht2 htf2 ht3 htf3 hr0 hrf0 hr1 hrf1 hr2 hrf2 hr3 hrf3 hsc hmc hb_
    have ht0 : w4.cell? ⟨tb, 0, none⟩ = some (.int .i64 0) := (bkC E4.out.tb_ 0).trans rfl; have htf0 := bkF E4.out.tb_ 0; have ht1 : w4.cell? ⟨tb, 1, none⟩ = some (.int .i64 0) := (bkC E4.out.tb_ 1).trans rfl; have htf1 := bkF E4.out.tb_ 1; have ht2 : w4.cell? ⟨tb, 2, none⟩ = some (.int .i64 i) := (bkC E4.out.tb_ 2).trans rfl; have htf2 := bkF E4.out.tb_ 2; have ht3 : w4.cell? ⟨tb, 3, none⟩ = some (.string ⟨#[]⟩) := (bkC E4.out.tb_ 3).trans rfl; have htf3 := bkF E4.out.tb_ 3; have hr0 : w4.cell? ⟨rb, 0, none⟩ = some (.int .i64 0) := (bkC E4.out.rb_ 0).trans rfl; have hrf0 := bkF E4.out.rb_ 0; have hr1 : w4.cell? ⟨rb, 1, none⟩ = some (.int .i64 0) := (bkC E4.out.rb_ 1).trans rfl; have hrf1 := bkF E4.out.rb_ 1; have hr2 : w4.cell? ⟨rb, 2, none⟩ = some (.int .i64 0) := (bkC E4.out.rb_ 2).trans rfl; have hrf2 := bkF E4.out.rb_ 2; have hr3 : w4.cell? ⟨rb, 3, none⟩ = some (.string ⟨#[]⟩) := (bkC E4.out.rb_ 3).trans rfl; have hrf3 := bkF E4.out.rb_ 3; have hsc : w4.cell? ⟨sb, 0, none⟩ = some (.string s) := HSC.out w4 E4.out.bl; have hmc : w4.cell? ⟨mb, 0, none⟩ = some (.map (some m)) := HMC.out w4 E4.out.bl
    obtain ⟨b2, hb2⟩ : ∃ b, digB c = b := ⟨_, rfl⟩
    have HDG : Hid (Calls Tryd.prog 18 #[.int .u8 c.toNat] w4 fun e w' => e = .returned (.bool b2) ∧ Below w4.heap.size w4 w') := (digit_ok c w4).mono (by rintro e w' ⟨rfl, h⟩; exact ⟨by rw [hb2], h.below⟩)
    have HB2 := Lib.hid hb2
    clear hb2
    cases b2 with
    | true =>
      have HO2 := Lib.hid (HO1.out.trans (if_pos HB2.out))
      go_upto_region 12 with (go_at_call 18; refine HDG.out.mono ?_; rintro e_ w5 ⟨rfl, hb_⟩)
      have E5 := Lib.hid (E4.out.later hb_)
      clear ht0 htf0 ht1 htf1 ht2 htf2 ht3 htf3 hr0 hrf0 hr1 hrf1 hr2 hrf2 hr3 hrf3 hsc hmc hb_
      have ht0 : w5.cell? ⟨tb, 0, none⟩ = some (.int .i64 0) := (bkC E5.out.tb_ 0).trans rfl; have htf0 := bkF E5.out.tb_ 0; have ht1 : w5.cell? ⟨tb, 1, none⟩ = some (.int .i64 0) := (bkC E5.out.tb_ 1).trans rfl; have htf1 := bkF E5.out.tb_ 1; have ht2 : w5.cell? ⟨tb, 2, none⟩ = some (.int .i64 i) := (bkC E5.out.tb_ 2).trans rfl; have htf2 := bkF E5.out.tb_ 2; have ht3 : w5.cell? ⟨tb, 3, none⟩ = some (.string ⟨#[]⟩) := (bkC E5.out.tb_ 3).trans rfl; have htf3 := bkF E5.out.tb_ 3; have hr0 : w5.cell? ⟨rb, 0, none⟩ = some (.int .i64 0) := (bkC E5.out.rb_ 0).trans rfl; have hrf0 := bkF E5.out.rb_ 0; have hr1 : w5.cell? ⟨rb, 1, none⟩ = some (.int .i64 0) := (bkC E5.out.rb_ 1).trans rfl; have hrf1 := bkF E5.out.rb_ 1; have hr2 : w5.cell? ⟨rb, 2, none⟩ = some (.int .i64 0) := (bkC E5.out.rb_ 2).trans rfl; have hrf2 := bkF E5.out.rb_ 2; have hr3 : w5.cell? ⟨rb, 3, none⟩ = some (.string ⟨#[]⟩) := (bkC E5.out.rb_ 3).trans rfl; have hrf3 := bkF E5.out.rb_ 3; have hsc : w5.cell? ⟨sb, 0, none⟩ = some (.string s) := HSC.out w5 E5.out.bl; have hmc : w5.cell? ⟨mb, 0, none⟩ = some (.map (some m)) := HMC.out w5 E5.out.bl
      obtain ⟨q, hq⟩ : ∃ q, spanL digB (c :: r) = q := ⟨_, rfl⟩
      have hdl : l.drop (i) = c :: r := HDR.out
      have hqn : i + q ≤ n := by
        have h1 := span_le digB (c :: r)
        rw [← hdl, List.length_drop, HLN.out] at h1
        rw [hdl] at h1; omega
      have HSP : Hid (Calls Tryd.prog 16 #[.string s, .int .i64 (i), .func (.func 18) #[] #[]] w5 fun e w' => e = .returned (.int .i64 q) ∧ Below w5.heap.size w5 w') := by
        have h := span_ok 18 digB hcf18 digit_ok s (i) w5 (by omega) (by omega)
        rw [HL.out, hdl, hq] at h
        exact Lib.hid h
      obtain ⟨pr, hpr⟩ : ∃ p, numR ((c :: r).take q) = p := ⟨_, rfl⟩
      have HNU : Hid (∀ W : World, Calls Tryd.prog 20 #[.string (s.extract (i) (i + q))] W fun e w' => e = .returned (.tuple #[.int .i64 pr.1, .bool pr.2]) ∧ Below W.heap.size W w') := by
        have he : (s.extract (i) (i + q)).data.toList = (c :: r).take q := by rw [ext_list, HL.out, hdl]; congr 1; omega
        refine Lib.hid (fun W => ?_)
        have h := number_ok (s.extract (i) (i + q)) W (by rw [ByteArray.size_extract]; omega) (fun x hx => by rw [he, ← hq] at hx; exact take_all digB (c :: r) x hx)
        rw [he, hpr] at h
        exact h
      have HVB : Hid (∀ v, numL 0 ((c :: r).take q) = some v → 0 ≤ v ∧ v ≤ 9223372036854775807) := Lib.hid (fun v hv => numL_bound _ 0 v (fun x hx => by rw [← hq] at hx; exact take_all digB (c :: r) x hx) (by omega) (by omega) hv)
      have HPR := Lib.hid hpr; have HQ := Lib.hid hq
      clear hpr hq hdl
      go_upto_region 13 with (go_at_call 16; refine HSP.out.mono ?_; rintro e_ w6 ⟨rfl, hb_⟩)
      have E6 := Lib.hid (E5.out.later hb_)
      clear ht0 htf0 ht1 htf1 ht2 htf2 ht3 htf3 hr0 hrf0 hr1 hrf1 hr2 hrf2 hr3 hrf3 hsc hmc hb_
      have ht0 : w6.cell? ⟨tb, 0, none⟩ = some (.int .i64 0) := (bkC E6.out.tb_ 0).trans rfl; have htf0 := bkF E6.out.tb_ 0; have ht1 : w6.cell? ⟨tb, 1, none⟩ = some (.int .i64 0) := (bkC E6.out.tb_ 1).trans rfl; have htf1 := bkF E6.out.tb_ 1; have ht2 : w6.cell? ⟨tb, 2, none⟩ = some (.int .i64 i) := (bkC E6.out.tb_ 2).trans rfl; have htf2 := bkF E6.out.tb_ 2; have ht3 : w6.cell? ⟨tb, 3, none⟩ = some (.string ⟨#[]⟩) := (bkC E6.out.tb_ 3).trans rfl; have htf3 := bkF E6.out.tb_ 3; have hr0 : w6.cell? ⟨rb, 0, none⟩ = some (.int .i64 0) := (bkC E6.out.rb_ 0).trans rfl; have hrf0 := bkF E6.out.rb_ 0; have hr1 : w6.cell? ⟨rb, 1, none⟩ = some (.int .i64 0) := (bkC E6.out.rb_ 1).trans rfl; have hrf1 := bkF E6.out.rb_ 1; have hr2 : w6.cell? ⟨rb, 2, none⟩ = some (.int .i64 0) := (bkC E6.out.rb_ 2).trans rfl; have hrf2 := bkF E6.out.rb_ 2; have hr3 : w6.cell? ⟨rb, 3, none⟩ = some (.string ⟨#[]⟩) := (bkC E6.out.rb_ 3).trans rfl; have hrf3 := bkF E6.out.rb_ 3; have hsc : w6.cell? ⟨sb, 0, none⟩ = some (.string s) := HSC.out w6 E6.out.bl; have hmc : w6.cell? ⟨mb, 0, none⟩ = some (.map (some m)) := HMC.out w6 E6.out.bl
      have HNU2 := Lib.hid (HNU.out w6)
      have hiq : (i : Int) + q ≤ n := by omega
      have hiq1 : (i : Int) ≤ (i : Int) + q := by omega
      have hiq2 : ((i : Int) + q).toNat = i + q := by omega
      have hit : (i : Int).toNat = i := by omega
      have hwr : IntKind.i64.wrap ((i : Int) + q) = (i : Int) + q := IntWalk.i64_in _ (by omega)
      rw [HQ.out] at HO2
      go_upto_region 14 with (go_at_call 20; refine HNU2.out.mono ?_; rintro e_ w7 ⟨rfl, hb_⟩)
      have E7 := Lib.hid (E6.out.later hb_)
      clear ht0 htf0 ht1 htf1 ht2 htf2 ht3 htf3 hr0 hrf0 hr1 hrf1 hr2 hrf2 hr3 hrf3 hsc hmc hb_
      have ht0 : w7.cell? ⟨tb, 0, none⟩ = some (.int .i64 0) := (bkC E7.out.tb_ 0).trans rfl; have htf0 := bkF E7.out.tb_ 0; have ht1 : w7.cell? ⟨tb, 1, none⟩ = some (.int .i64 0) := (bkC E7.out.tb_ 1).trans rfl; have htf1 := bkF E7.out.tb_ 1; have ht2 : w7.cell? ⟨tb, 2, none⟩ = some (.int .i64 i) := (bkC E7.out.tb_ 2).trans rfl; have htf2 := bkF E7.out.tb_ 2; have ht3 : w7.cell? ⟨tb, 3, none⟩ = some (.string ⟨#[]⟩) := (bkC E7.out.tb_ 3).trans rfl; have htf3 := bkF E7.out.tb_ 3; have hr0 : w7.cell? ⟨rb, 0, none⟩ = some (.int .i64 0) := (bkC E7.out.rb_ 0).trans rfl; have hrf0 := bkF E7.out.rb_ 0; have hr1 : w7.cell? ⟨rb, 1, none⟩ = some (.int .i64 0) := (bkC E7.out.rb_ 1).trans rfl; have hrf1 := bkF E7.out.rb_ 1; have hr2 : w7.cell? ⟨rb, 2, none⟩ = some (.int .i64 0) := (bkC E7.out.rb_ 2).trans rfl; have hrf2 := bkF E7.out.rb_ 2; have hr3 : w7.cell? ⟨rb, 3, none⟩ = some (.string ⟨#[]⟩) := (bkC E7.out.rb_ 3).trans rfl; have hrf3 := bkF E7.out.rb_ 3; have hsc : w7.cell? ⟨sb, 0, none⟩ = some (.string s) := HSC.out w7 E7.out.bl; have hmc : w7.cell? ⟨mb, 0, none⟩ = some (.map (some m)) := HMC.out w7 E7.out.bl
      cases hnl : numL 0 ((c :: r).take q) with
      | none =>
        have hp : pr = (0, false) := by rw [← HPR.out]; unfold numR; rw [hnl]
        subst hp
        have HO3 : Hid (oneL l i = .inl (5, (i : Int))) := by have h := HO2.out; rw [hnl] at h; exact Lib.hid h
        clear hnl
        go_wp2_with fail
        exact bodyPost_ret (results_cttt (p := 4) (u := 5) (v := 6) (x := 7) rfl _ _ rb 32 (tkC (0) (0) (i) (⟨#[]⟩)) (0, 0) _ rfl (tk_put E7.out.rb_ (0) (0) (i) (⟨#[]⟩)) Tryd.underlying32 rfl (by kernel_rfl)) rfl (one_inl HO3.out (tk_below E7.out.bl E7.out.rw_ (0) (0) (i) (⟨#[]⟩)))
      | some v =>
        have hp : pr = (v, true) := by rw [← HPR.out]; unfold numR; rw [hnl]
        subst hp
        have HO3 : Hid (oneL l i = .inr (3, v, [], i + q)) := by have h := HO2.out; rw [hnl] at h; exact Lib.hid h
        clear hnl
        go_upto_region 17 with fail
        have E8 : Hid (OEnv w rb tb 3 v i ⟨#[]⟩ 0 0 0 ⟨#[]⟩ ((w7.setCell ⟨tb, 0, none⟩ (.int .i64 3)).setCell ⟨tb, 1, none⟩ (.int .i64 v))) := (E7.out.set 0 (.int .i64 3) (k1 := 3) (n1 := 0) (a1 := i) (x1 := ⟨#[]⟩) rfl).set 1 (.int .i64 v) rfl
        generalize (w7.setCell ⟨tb, 0, none⟩ (.int .i64 3)).setCell ⟨tb, 1, none⟩ (.int .i64 v) = w8 at E8 ⊢
        clear ht0 htf0 ht1 htf1 ht2 htf2 ht3 htf3 hr0 hrf0 hr1 hrf1 hr2 hrf2 hr3 hrf3 hsc hmc
        have ht0 : w8.cell? ⟨tb, 0, none⟩ = some (.int .i64 3) := (bkC E8.out.tb_ 0).trans rfl; have htf0 := bkF E8.out.tb_ 0; have ht1 : w8.cell? ⟨tb, 1, none⟩ = some (.int .i64 v) := (bkC E8.out.tb_ 1).trans rfl; have htf1 := bkF E8.out.tb_ 1; have ht2 : w8.cell? ⟨tb, 2, none⟩ = some (.int .i64 i) := (bkC E8.out.tb_ 2).trans rfl; have htf2 := bkF E8.out.tb_ 2; have ht3 : w8.cell? ⟨tb, 3, none⟩ = some (.string ⟨#[]⟩) := (bkC E8.out.tb_ 3).trans rfl; have htf3 := bkF E8.out.tb_ 3; have hr0 : w8.cell? ⟨rb, 0, none⟩ = some (.int .i64 0) := (bkC E8.out.rb_ 0).trans rfl; have hrf0 := bkF E8.out.rb_ 0; have hr1 : w8.cell? ⟨rb, 1, none⟩ = some (.int .i64 0) := (bkC E8.out.rb_ 1).trans rfl; have hrf1 := bkF E8.out.rb_ 1; have hr2 : w8.cell? ⟨rb, 2, none⟩ = some (.int .i64 0) := (bkC E8.out.rb_ 2).trans rfl; have hrf2 := bkF E8.out.rb_ 2; have hr3 : w8.cell? ⟨rb, 3, none⟩ = some (.string ⟨#[]⟩) := (bkC E8.out.rb_ 3).trans rfl; have hrf3 := bkF E8.out.rb_ 3; have hsc : w8.cell? ⟨sb, 0, none⟩ = some (.string s) := HSC.out w8 E8.out.bl; have hmc : w8.cell? ⟨mb, 0, none⟩ = some (.map (some m)) := HMC.out w8 E8.out.bl
        go_wp2_with fail
        exact bodyPost_ret (results_cttt (p := 4) (u := 5) (v := 6) (x := 7) rfl _ _ rb 32 (tkC (3) (v) (i) (⟨#[]⟩)) (0, 0) _ rfl (tk_put E8.out.rb_ (3) (v) (i) (⟨#[]⟩)) Tryd.underlying32 rfl (by kernel_rfl)) rfl (one_inr (e := (i : Int) + q) HO3.out rfl (by omega) (tk_below E8.out.bl E8.out.rw_ (3) (v) (i) (⟨#[]⟩)))
    | false =>
      have HO2 := Lib.hid (HO1.out.trans (if_neg (by rw [HB2.out]; decide)))
      go_upto_region 18 with (go_at_call 18; refine HDG.out.mono ?_; rintro e_ w5 ⟨rfl, hb_⟩)
      have E5 := Lib.hid (E4.out.later hb_)
      clear ht0 htf0 ht1 htf1 ht2 htf2 ht3 htf3 hr0 hrf0 hr1 hrf1 hr2 hrf2 hr3 hrf3 hsc hmc hb_
      have ht0 : w5.cell? ⟨tb, 0, none⟩ = some (.int .i64 0) := (bkC E5.out.tb_ 0).trans rfl; have htf0 := bkF E5.out.tb_ 0; have ht1 : w5.cell? ⟨tb, 1, none⟩ = some (.int .i64 0) := (bkC E5.out.tb_ 1).trans rfl; have htf1 := bkF E5.out.tb_ 1; have ht2 : w5.cell? ⟨tb, 2, none⟩ = some (.int .i64 i) := (bkC E5.out.tb_ 2).trans rfl; have htf2 := bkF E5.out.tb_ 2; have ht3 : w5.cell? ⟨tb, 3, none⟩ = some (.string ⟨#[]⟩) := (bkC E5.out.tb_ 3).trans rfl; have htf3 := bkF E5.out.tb_ 3; have hr0 : w5.cell? ⟨rb, 0, none⟩ = some (.int .i64 0) := (bkC E5.out.rb_ 0).trans rfl; have hrf0 := bkF E5.out.rb_ 0; have hr1 : w5.cell? ⟨rb, 1, none⟩ = some (.int .i64 0) := (bkC E5.out.rb_ 1).trans rfl; have hrf1 := bkF E5.out.rb_ 1; have hr2 : w5.cell? ⟨rb, 2, none⟩ = some (.int .i64 0) := (bkC E5.out.rb_ 2).trans rfl; have hrf2 := bkF E5.out.rb_ 2; have hr3 : w5.cell? ⟨rb, 3, none⟩ = some (.string ⟨#[]⟩) := (bkC E5.out.rb_ 3).trans rfl; have hrf3 := bkF E5.out.rb_ 3; have hsc : w5.cell? ⟨sb, 0, none⟩ = some (.string s) := HSC.out w5 E5.out.bl; have hmc : w5.cell? ⟨mb, 0, none⟩ = some (.map (some m)) := HMC.out w5 E5.out.bl
      have hbyte : ∀ (k : UInt8), ((c.toNat : Int) == (k.toNat : Int)) = decide (c = k) := fun k => by
        rw [Bool.eq_iff_iff, beq_iff_eq, decide_eq_true_eq]
        exact ⟨fun h => UInt8.toNat_inj.1 (by omega), fun h => by rw [h]⟩
      have HBY := Lib.hid hbyte; clear hbyte
      by_cases h39 : c = 39
      · have b39 : ((c.toNat : Int) == 39) = true := (HBY.out 39).trans (decide_eq_true h39)
        have HO3 := Lib.hid (HO2.out.trans (if_pos h39))
        obtain ⟨pq, hpq⟩ : ∃ p, quotR [] r (i + 1) = p := ⟨_, rfl⟩
        have HQU : Hid (Calls Tryd.prog 21 #[.string s, .int .i64 i] w5 fun e w' => e = .returned (.tuple #[.string pq.1, .int .i64 pq.2.1, .bool pq.2.2]) ∧ Below w5.heap.size w5 w') := by
          have h := quoted_ok s i w5 (by omega) (by omega)
          rw [HL.out, drop_next HDR.out, hpq] at h
          exact Lib.hid h
        have HPQ := Lib.hid hpq
        clear hpq h39
        go_upto_region 20 with (go_at_call 21; refine HQU.out.mono ?_; rintro e_ w6 ⟨rfl, hb_⟩)
        have E6 := Lib.hid (E5.out.later hb_)
        clear ht0 htf0 ht1 htf1 ht2 htf2 ht3 htf3 hr0 hrf0 hr1 hrf1 hr2 hrf2 hr3 hrf3 hsc hmc hb_
        have ht0 : w6.cell? ⟨tb, 0, none⟩ = some (.int .i64 0) := (bkC E6.out.tb_ 0).trans rfl; have htf0 := bkF E6.out.tb_ 0; have ht1 : w6.cell? ⟨tb, 1, none⟩ = some (.int .i64 0) := (bkC E6.out.tb_ 1).trans rfl; have htf1 := bkF E6.out.tb_ 1; have ht2 : w6.cell? ⟨tb, 2, none⟩ = some (.int .i64 i) := (bkC E6.out.tb_ 2).trans rfl; have htf2 := bkF E6.out.tb_ 2; have ht3 : w6.cell? ⟨tb, 3, none⟩ = some (.string ⟨#[]⟩) := (bkC E6.out.tb_ 3).trans rfl; have htf3 := bkF E6.out.tb_ 3; have hr0 : w6.cell? ⟨rb, 0, none⟩ = some (.int .i64 0) := (bkC E6.out.rb_ 0).trans rfl; have hrf0 := bkF E6.out.rb_ 0; have hr1 : w6.cell? ⟨rb, 1, none⟩ = some (.int .i64 0) := (bkC E6.out.rb_ 1).trans rfl; have hrf1 := bkF E6.out.rb_ 1; have hr2 : w6.cell? ⟨rb, 2, none⟩ = some (.int .i64 0) := (bkC E6.out.rb_ 2).trans rfl; have hrf2 := bkF E6.out.rb_ 2; have hr3 : w6.cell? ⟨rb, 3, none⟩ = some (.string ⟨#[]⟩) := (bkC E6.out.rb_ 3).trans rfl; have hrf3 := bkF E6.out.rb_ 3; have hsc : w6.cell? ⟨sb, 0, none⟩ = some (.string s) := HSC.out w6 E6.out.bl; have hmc : w6.cell? ⟨mb, 0, none⟩ = some (.map (some m)) := HMC.out w6 E6.out.bl
        cases hql : quotL r with
        | none =>
          have hp : pq = (⟨#[]⟩, 0, false) := by rw [← HPQ.out]; unfold quotR; rw [hql]
          subst hp
          have HO4 : Hid (oneL l i = .inl (6, (n : Int))) := by have h := HO3.out; rw [hql] at h; rw [HLN.out] at h; exact Lib.hid h
          clear hql
          go_upto_region 21 with fail
          have hsr : sb ≠ rb := by have := HSB.out; have := E6.out.rw_; omega
          have hrs : rb ≠ sb := Ne.symm hsr
          go_region
          go_wp2_with fail
          exact bodyPost_ret (results_cttt (p := 4) (u := 5) (v := 6) (x := 7) rfl _ _ rb 32 (tkC (0) (0) (i) (⟨#[]⟩)) (0, 0) _ rfl (tk_put (oenv_drew E6.out).rb_ (0) (0) (i) (⟨#[]⟩)) Tryd.underlying32 rfl (by kernel_rfl)) rfl (one_inl HO4.out (tk_below (oenv_drew E6.out).bl (oenv_drew E6.out).rw_ (0) (0) (i) (⟨#[]⟩)))
        | some p =>
          have hp : pq = (⟨p.1.toArray⟩, ((i + 1 + p.2 : Nat) : Int), true) := by rw [← HPQ.out]; unfold quotR; rw [hql]; rfl
          subst hp
          have hsz := ba_size p.1
          obtain ⟨z, hz⟩ : ∃ z, p.1.length = z := ⟨_, rfl⟩
          rw [hz] at hsz
          obtain ⟨u, hu⟩ : ∃ u : Nat, i + 1 + p.2 = u := ⟨_, rfl⟩
          rw [hu]
          by_cases h40 : z > 40
          · have h40' : (40 : Int) < (z : Int) := by omega
            have HO4 : Hid (oneL l i = .inl (5, (i : Int))) := by have h := HO3.out; rw [hql] at h; simp only [hz, if_pos h40] at h; exact Lib.hid h
            clear hql hz hu
            go_wp2_with fail
            exact bodyPost_ret (results_cttt (p := 4) (u := 5) (v := 6) (x := 7) rfl _ _ rb 32 (tkC (0) (0) (i) (⟨#[]⟩)) (0, 0) _ rfl (tk_put E6.out.rb_ (0) (0) (i) (⟨#[]⟩)) Tryd.underlying32 rfl (by kernel_rfl)) rfl (one_inl HO4.out (tk_below E6.out.bl E6.out.rw_ (0) (0) (i) (⟨#[]⟩)))
          · have h40' : ¬ (40 : Int) < (z : Int) := by omega
            have HO4 : Hid (oneL l i = .inr (4, 0, p.1, u)) := by have h := HO3.out; rw [hql] at h; simp only [hz, if_neg h40, hu] at h; exact Lib.hid h
            clear hql hz hu
            go_upto_region 25 with fail
            have E8 : Hid (OEnv w rb tb 4 0 i ⟨p.1.toArray⟩ 0 0 0 ⟨#[]⟩ ((w6.setCell ⟨tb, 0, none⟩ (.int .i64 4)).setCell ⟨tb, 3, none⟩ (.string ⟨p.1.toArray⟩))) := (E6.out.set 0 (.int .i64 4) (k1 := 4) (n1 := 0) (a1 := i) (x1 := ⟨#[]⟩) rfl).set 3 (.string ⟨p.1.toArray⟩) rfl
            generalize (w6.setCell ⟨tb, 0, none⟩ (.int .i64 4)).setCell ⟨tb, 3, none⟩ (.string ⟨p.1.toArray⟩) = w8 at E8 ⊢
            clear ht0 htf0 ht1 htf1 ht2 htf2 ht3 htf3 hr0 hrf0 hr1 hrf1 hr2 hrf2 hr3 hrf3 hsc hmc
            have ht0 : w8.cell? ⟨tb, 0, none⟩ = some (.int .i64 4) := (bkC E8.out.tb_ 0).trans rfl; have htf0 := bkF E8.out.tb_ 0; have ht1 : w8.cell? ⟨tb, 1, none⟩ = some (.int .i64 0) := (bkC E8.out.tb_ 1).trans rfl; have htf1 := bkF E8.out.tb_ 1; have ht2 : w8.cell? ⟨tb, 2, none⟩ = some (.int .i64 i) := (bkC E8.out.tb_ 2).trans rfl; have htf2 := bkF E8.out.tb_ 2; have ht3 : w8.cell? ⟨tb, 3, none⟩ = some (.string ⟨p.1.toArray⟩) := (bkC E8.out.tb_ 3).trans rfl; have htf3 := bkF E8.out.tb_ 3; have hr0 : w8.cell? ⟨rb, 0, none⟩ = some (.int .i64 0) := (bkC E8.out.rb_ 0).trans rfl; have hrf0 := bkF E8.out.rb_ 0; have hr1 : w8.cell? ⟨rb, 1, none⟩ = some (.int .i64 0) := (bkC E8.out.rb_ 1).trans rfl; have hrf1 := bkF E8.out.rb_ 1; have hr2 : w8.cell? ⟨rb, 2, none⟩ = some (.int .i64 0) := (bkC E8.out.rb_ 2).trans rfl; have hrf2 := bkF E8.out.rb_ 2; have hr3 : w8.cell? ⟨rb, 3, none⟩ = some (.string ⟨#[]⟩) := (bkC E8.out.rb_ 3).trans rfl; have hrf3 := bkF E8.out.rb_ 3; have hsc : w8.cell? ⟨sb, 0, none⟩ = some (.string s) := HSC.out w8 E8.out.bl; have hmc : w8.cell? ⟨mb, 0, none⟩ = some (.map (some m)) := HMC.out w8 E8.out.bl
            go_wp2_with fail
            exact bodyPost_ret (results_cttt (p := 4) (u := 5) (v := 6) (x := 7) rfl _ _ rb 32 (tkC (4) (0) (i) (⟨p.1.toArray⟩)) (0, 0) _ rfl (tk_put E8.out.rb_ (4) (0) (i) (⟨p.1.toArray⟩)) Tryd.underlying32 rfl (by kernel_rfl)) rfl (one_inr (e := (u : Int)) HO4.out rfl rfl (tk_below E8.out.bl E8.out.rw_ (4) (0) (i) (⟨p.1.toArray⟩)))
      · have b39 : ((c.toNat : Int) == 39) = false := (HBY.out 39).trans (decide_eq_false h39)
        have HO3 := Lib.hid (HO2.out.trans (if_neg h39))
        clear h39
        go_upto_region 26 with fail
        by_cases h36 : c = 36
        · have b36 : ((c.toNat : Int) == 36) = true := (HBY.out 36).trans (decide_eq_true h36)
          have HO4 := Lib.hid (HO3.out.trans (if_pos h36))
          clear h36
          have hw1 : IntKind.i64.wrap ((i : Int) + 1) = (i : Int) + 1 := IntWalk.i64_in _ (by omega)
          have hi1 : (0 : Int) ≤ (i : Int) + 1 := by omega
          obtain ⟨q, hq⟩ : ∃ q, spanL digB (r) = q := ⟨_, rfl⟩
          have hdl : l.drop (i + 1) = r := drop_next HDR.out
          have hqn : i + 1 + q ≤ n := by
            have h1 := span_le digB (r)
            rw [← hdl, List.length_drop, HLN.out] at h1
            rw [hdl] at h1; omega
          have HSP : Hid (Calls Tryd.prog 16 #[.string s, .int .i64 ((i : Int) + 1), .func (.func 18) #[] #[]] w5 fun e w' => e = .returned (.int .i64 q) ∧ Below w5.heap.size w5 w') := by
            have h := span_ok 18 digB hcf18 digit_ok s (i + 1) w5 (by omega) (by omega)
            rw [HL.out, hdl, hq] at h
            exact Lib.hid h
          obtain ⟨pr, hpr⟩ : ∃ p, numR ((r).take q) = p := ⟨_, rfl⟩
          have HNU : Hid (∀ W : World, Calls Tryd.prog 20 #[.string (s.extract (i + 1) (i + 1 + q))] W fun e w' => e = .returned (.tuple #[.int .i64 pr.1, .bool pr.2]) ∧ Below W.heap.size W w') := by
            have he : (s.extract (i + 1) (i + 1 + q)).data.toList = (r).take q := by rw [ext_list, HL.out, hdl]; congr 1; omega
            refine Lib.hid (fun W => ?_)
            have h := number_ok (s.extract (i + 1) (i + 1 + q)) W (by rw [ByteArray.size_extract]; omega) (fun x hx => by rw [he, ← hq] at hx; exact take_all digB (r) x hx)
            rw [he, hpr] at h
            exact h
          have HVB : Hid (∀ v, numL 0 ((r).take q) = some v → 0 ≤ v ∧ v ≤ 9223372036854775807) := Lib.hid (fun v hv => numL_bound _ 0 v (fun x hx => by rw [← hq] at hx; exact take_all digB (r) x hx) (by omega) (by omega) hv)
          have HPR := Lib.hid hpr; have HQ := Lib.hid hq
          clear hpr hq hdl
          go_upto_region 28 with (go_at_call 16; refine HSP.out.mono ?_; rintro e_ w6 ⟨rfl, hb_⟩)
          have E6 := Lib.hid (E5.out.later hb_)
          clear ht0 htf0 ht1 htf1 ht2 htf2 ht3 htf3 hr0 hrf0 hr1 hrf1 hr2 hrf2 hr3 hrf3 hsc hmc hb_
          have ht0 : w6.cell? ⟨tb, 0, none⟩ = some (.int .i64 0) := (bkC E6.out.tb_ 0).trans rfl; have htf0 := bkF E6.out.tb_ 0; have ht1 : w6.cell? ⟨tb, 1, none⟩ = some (.int .i64 0) := (bkC E6.out.tb_ 1).trans rfl; have htf1 := bkF E6.out.tb_ 1; have ht2 : w6.cell? ⟨tb, 2, none⟩ = some (.int .i64 i) := (bkC E6.out.tb_ 2).trans rfl; have htf2 := bkF E6.out.tb_ 2; have ht3 : w6.cell? ⟨tb, 3, none⟩ = some (.string ⟨#[]⟩) := (bkC E6.out.tb_ 3).trans rfl; have htf3 := bkF E6.out.tb_ 3; have hr0 : w6.cell? ⟨rb, 0, none⟩ = some (.int .i64 0) := (bkC E6.out.rb_ 0).trans rfl; have hrf0 := bkF E6.out.rb_ 0; have hr1 : w6.cell? ⟨rb, 1, none⟩ = some (.int .i64 0) := (bkC E6.out.rb_ 1).trans rfl; have hrf1 := bkF E6.out.rb_ 1; have hr2 : w6.cell? ⟨rb, 2, none⟩ = some (.int .i64 0) := (bkC E6.out.rb_ 2).trans rfl; have hrf2 := bkF E6.out.rb_ 2; have hr3 : w6.cell? ⟨rb, 3, none⟩ = some (.string ⟨#[]⟩) := (bkC E6.out.rb_ 3).trans rfl; have hrf3 := bkF E6.out.rb_ 3; have hsc : w6.cell? ⟨sb, 0, none⟩ = some (.string s) := HSC.out w6 E6.out.bl; have hmc : w6.cell? ⟨mb, 0, none⟩ = some (.map (some m)) := HMC.out w6 E6.out.bl
          have HNU2 := Lib.hid (HNU.out w6)
          have hiq : (i : Int) + 1 + q ≤ n := by omega
          have hiq1 : (i : Int) + 1 ≤ (i : Int) + 1 + q := by omega
          have hiq2 : ((i : Int) + 1 + q).toNat = i + 1 + q := by omega
          have hit : ((i : Int) + 1).toNat = i + 1 := by omega
          have hiq3 : (0 : Int) ≤ (i : Int) + 1 + q := by omega
          have hwr : IntKind.i64.wrap ((i : Int) + 1 + q) = (i : Int) + 1 + q := IntWalk.i64_in _ (by omega)
          rw [HQ.out] at HO4
          go_upto_region 29 with (go_at_call 20; refine HNU2.out.mono ?_; rintro e_ w7 ⟨rfl, hb_⟩)
          have E7 := Lib.hid (E6.out.later hb_)
          clear ht0 htf0 ht1 htf1 ht2 htf2 ht3 htf3 hr0 hrf0 hr1 hrf1 hr2 hrf2 hr3 hrf3 hsc hmc hb_
          have ht0 : w7.cell? ⟨tb, 0, none⟩ = some (.int .i64 0) := (bkC E7.out.tb_ 0).trans rfl; have htf0 := bkF E7.out.tb_ 0; have ht1 : w7.cell? ⟨tb, 1, none⟩ = some (.int .i64 0) := (bkC E7.out.tb_ 1).trans rfl; have htf1 := bkF E7.out.tb_ 1; have ht2 : w7.cell? ⟨tb, 2, none⟩ = some (.int .i64 i) := (bkC E7.out.tb_ 2).trans rfl; have htf2 := bkF E7.out.tb_ 2; have ht3 : w7.cell? ⟨tb, 3, none⟩ = some (.string ⟨#[]⟩) := (bkC E7.out.tb_ 3).trans rfl; have htf3 := bkF E7.out.tb_ 3; have hr0 : w7.cell? ⟨rb, 0, none⟩ = some (.int .i64 0) := (bkC E7.out.rb_ 0).trans rfl; have hrf0 := bkF E7.out.rb_ 0; have hr1 : w7.cell? ⟨rb, 1, none⟩ = some (.int .i64 0) := (bkC E7.out.rb_ 1).trans rfl; have hrf1 := bkF E7.out.rb_ 1; have hr2 : w7.cell? ⟨rb, 2, none⟩ = some (.int .i64 0) := (bkC E7.out.rb_ 2).trans rfl; have hrf2 := bkF E7.out.rb_ 2; have hr3 : w7.cell? ⟨rb, 3, none⟩ = some (.string ⟨#[]⟩) := (bkC E7.out.rb_ 3).trans rfl; have hrf3 := bkF E7.out.rb_ 3; have hsc : w7.cell? ⟨sb, 0, none⟩ = some (.string s) := HSC.out w7 E7.out.bl; have hmc : w7.cell? ⟨mb, 0, none⟩ = some (.map (some m)) := HMC.out w7 E7.out.bl
          by_cases hq0 : q = 0
          · have bq : ((q : Int) == 0) = true := by rw [hq0]; rfl
            have HO5 := Lib.hid (HO4.out.trans (if_pos hq0))
            clear hq0
            go_wp2_with fail
            exact bodyPost_ret (results_cttt (p := 4) (u := 5) (v := 6) (x := 7) rfl _ _ rb 32 (tkC (0) (0) (i) (⟨#[]⟩)) (0, 0) _ rfl (tk_put E7.out.rb_ (0) (0) (i) (⟨#[]⟩)) Tryd.underlying32 rfl (by kernel_rfl)) rfl (one_inl HO5.out (tk_below E7.out.bl E7.out.rw_ (0) (0) (i) (⟨#[]⟩)))
          · have bq : ((q : Int) == 0) = false := beq_eq_false_iff_ne.mpr (by omega)
            have bq2 : (q == 0) = false := beq_eq_false_iff_ne.mpr hq0
            have HO5 := Lib.hid (HO4.out.trans (if_neg hq0))
            clear hq0
            cases hnl : numL 0 (r.take q) with
            | none =>
              have hp : pr = (0, false) := by rw [← HPR.out]; unfold numR; rw [hnl]
              subst hp
              have HO6 : Hid (oneL l i = .inl (5, (i : Int))) := by have h := HO5.out; rw [hnl] at h; exact Lib.hid h
              clear hnl
              go_wp2_with fail
              exact bodyPost_ret (results_cttt (p := 4) (u := 5) (v := 6) (x := 7) rfl _ _ rb 32 (tkC (0) (0) (i) (⟨#[]⟩)) (0, 0) _ rfl (tk_put E7.out.rb_ (0) (0) (i) (⟨#[]⟩)) Tryd.underlying32 rfl (by kernel_rfl)) rfl (one_inl HO6.out (tk_below E7.out.bl E7.out.rw_ (0) (0) (i) (⟨#[]⟩)))
            | some v =>
              have hp : pr = (v, true) := by rw [← HPR.out]; unfold numR; rw [hnl]
              subst hp
              obtain ⟨hv0, hv1⟩ := HVB.out v hnl
              by_cases hv : v < 1 ∨ v > 4
              · have HO6 : Hid (oneL l i = .inl (5, (i : Int))) := by have h := HO5.out; rw [hnl] at h; simp only [if_pos hv] at h; exact Lib.hid h
                clear hnl
                by_cases hlo : v < 1
                · clear hv
                  go_wp2_with fail
                  exact bodyPost_ret (results_cttt (p := 4) (u := 5) (v := 6) (x := 7) rfl _ _ rb 32 (tkC (0) (0) (i) (⟨#[]⟩)) (0, 0) _ rfl (tk_put E7.out.rb_ (0) (0) (i) (⟨#[]⟩)) Tryd.underlying32 rfl (by kernel_rfl)) rfl (one_inl HO6.out (tk_below E7.out.bl E7.out.rw_ (0) (0) (i) (⟨#[]⟩)))
                · have hhi : 4 < v := by omega
                  clear hv
                  go_wp2_with fail
                  exact bodyPost_ret (results_cttt (p := 4) (u := 5) (v := 6) (x := 7) rfl _ _ rb 32 (tkC (0) (0) (i) (⟨#[]⟩)) (0, 0) _ rfl (tk_put E7.out.rb_ (0) (0) (i) (⟨#[]⟩)) Tryd.underlying32 rfl (by kernel_rfl)) rfl (one_inl HO6.out (tk_below E7.out.bl E7.out.rw_ (0) (0) (i) (⟨#[]⟩)))
              · have HO6 : Hid (oneL l i = .inr (5, v, [], i + 1 + q)) := by have h := HO5.out; rw [hnl] at h; simp only [if_neg hv] at h; exact Lib.hid h
                have hlo : ¬ v < 1 := by omega
                have hhi : ¬ 4 < v := by omega
                clear hnl hv
                go_upto_region 34 with fail
                have E8 : Hid (OEnv w rb tb 5 v i ⟨#[]⟩ 0 0 0 ⟨#[]⟩ ((w7.setCell ⟨tb, 0, none⟩ (.int .i64 5)).setCell ⟨tb, 1, none⟩ (.int .i64 v))) := (E7.out.set 0 (.int .i64 5) (k1 := 5) (n1 := 0) (a1 := i) (x1 := ⟨#[]⟩) rfl).set 1 (.int .i64 v) rfl
                generalize (w7.setCell ⟨tb, 0, none⟩ (.int .i64 5)).setCell ⟨tb, 1, none⟩ (.int .i64 v) = w8 at E8 ⊢
                clear ht0 htf0 ht1 htf1 ht2 htf2 ht3 htf3 hr0 hrf0 hr1 hrf1 hr2 hrf2 hr3 hrf3 hsc hmc
                have ht0 : w8.cell? ⟨tb, 0, none⟩ = some (.int .i64 5) := (bkC E8.out.tb_ 0).trans rfl; have htf0 := bkF E8.out.tb_ 0; have ht1 : w8.cell? ⟨tb, 1, none⟩ = some (.int .i64 v) := (bkC E8.out.tb_ 1).trans rfl; have htf1 := bkF E8.out.tb_ 1; have ht2 : w8.cell? ⟨tb, 2, none⟩ = some (.int .i64 i) := (bkC E8.out.tb_ 2).trans rfl; have htf2 := bkF E8.out.tb_ 2; have ht3 : w8.cell? ⟨tb, 3, none⟩ = some (.string ⟨#[]⟩) := (bkC E8.out.tb_ 3).trans rfl; have htf3 := bkF E8.out.tb_ 3; have hr0 : w8.cell? ⟨rb, 0, none⟩ = some (.int .i64 0) := (bkC E8.out.rb_ 0).trans rfl; have hrf0 := bkF E8.out.rb_ 0; have hr1 : w8.cell? ⟨rb, 1, none⟩ = some (.int .i64 0) := (bkC E8.out.rb_ 1).trans rfl; have hrf1 := bkF E8.out.rb_ 1; have hr2 : w8.cell? ⟨rb, 2, none⟩ = some (.int .i64 0) := (bkC E8.out.rb_ 2).trans rfl; have hrf2 := bkF E8.out.rb_ 2; have hr3 : w8.cell? ⟨rb, 3, none⟩ = some (.string ⟨#[]⟩) := (bkC E8.out.rb_ 3).trans rfl; have hrf3 := bkF E8.out.rb_ 3; have hsc : w8.cell? ⟨sb, 0, none⟩ = some (.string s) := HSC.out w8 E8.out.bl; have hmc : w8.cell? ⟨mb, 0, none⟩ = some (.map (some m)) := HMC.out w8 E8.out.bl
                go_wp2_with fail
                exact bodyPost_ret (results_cttt (p := 4) (u := 5) (v := 6) (x := 7) rfl _ _ rb 32 (tkC (5) (v) (i) (⟨#[]⟩)) (0, 0) _ rfl (tk_put E8.out.rb_ (5) (v) (i) (⟨#[]⟩)) Tryd.underlying32 rfl (by kernel_rfl)) rfl (one_inr (e := (i : Int) + 1 + q) HO6.out rfl (by omega) (tk_below E8.out.bl E8.out.rw_ (5) (v) (i) (⟨#[]⟩)))
        · have b36 : ((c.toNat : Int) == 36) = false := (HBY.out 36).trans (decide_eq_false h36)
          have HO4 := Lib.hid (HO3.out.trans (if_neg h36))
          clear h36
          have hln0 : Hid (∀ g ∈ signsL, g.length ≤ 2) := by show ∀ g ∈ signsL, _; decide
          obtain ⟨pf, hpf⟩ : ∃ f : List UInt8 → Bool, f = fun g => g.isPrefixOf (c :: r) := ⟨_, rfl⟩
          have HPFX : Hid (∀ (g : List UInt8) (W : World), g.length ≤ 2 → Calls Tryd.prog 22 #[.string (s.extract i n), .string ⟨g.toArray⟩] W fun e w' => e = .returned (.bool (pf g)) ∧ W = w') := by
            refine Lib.hid (fun g W hg => ?_)
            have h := prefix_ok (s.extract i n) ⟨g.toArray⟩ W (by rw [ByteArray.size_extract]; omega) (by rw [ba_size]; omega)
            have he : (s.extract i n).data.toList = c :: r := by
              rw [ext_list, HL.out, HDR.out, List.take_of_length_le]
              have h1 := congrArg List.length HDR.out
              rw [List.length_drop, HLN.out] at h1
              omega
            rw [he, ba_mk] at h
            rw [hpf]; exact h
          have HSG : Hid (signL (c :: r) = signsL.find? pf) := by rw [hpf]; exact Lib.hid rfl
          rw [HSG.out] at HO4
          clear hpf HSG
          have hit : (i : Int).toNat = i := by omega
          go_upto_region 36 with fail
          obtain ⟨g, hg⟩ : ∃ g, w5.heap.size = g := ⟨_, rfl⟩
          have E6 : Hid (OEnv w rb tb 0 0 i ⟨#[]⟩ 0 0 0 ⟨#[]⟩ (w5.alloc (.cells signsV 9))) := Lib.hid (E5.out.later (blA (Below.refl _ w5) _))
          have HG : Hid ((w5.alloc (.cells signsV 9)).heap[g]? = some (.cells signsV 9 (0, 0))) := by
            rw [← hg]; exact Lib.hid (heap_alloc_new w5 _)
          rw [hg]
          change Code.wp _ _ _ _ (w5.alloc (.cells signsV 9))
          generalize w5.alloc (.cells signsV 9) = w6 at E6 HG ⊢
          clear hg
          go_loopw [156, 21] (fun v156 _ wr => ∃ k : Nat, k ≤ 14 ∧ v156 = .int .i64 k ∧ Hid (OEnv w rb tb 0 0 i ⟨#[]⟩ 0 0 0 ⟨#[]⟩ wr) ∧ Hid (wr.heap[g]? = some (.cells signsV 9 (0, 0))) ∧ Hid (∀ x ∈ signsL.take k, pf x = false)) (fun v _ _ => 14 - (intOf v).toNat)
          case atStart => exact ⟨0, Nat.zero_le _, rfl, E6, HG, Lib.hid (by intro x hx; simp at hx)⟩
          case round =>
            clear E6 HG
            obtain ⟨k, hk, rfl, E6, HG, HF⟩ := hrel
            by_cases hlt : k < 14
            · have hkl : k < signsL.length := hlt
              have hlt' : (k : Int) < 14 := by omega
              obtain ⟨x, hx⟩ : ∃ x, signsL[k] = x := ⟨_, rfl⟩
              have hcell : wr.cell? ⟨g, k, none⟩ = some (.string ⟨x.toArray⟩) := by
                rw [bkC HG.out k]; simp [signsV, hkl, hx]
              have HPX := Lib.hid (HPFX.out x wr (hln0.out x (hx ▸ List.getElem_mem hkl)))
              have hsz := ba_size x
              obtain ⟨z, hz⟩ : ∃ z, x.length = z := ⟨_, rfl⟩
              rw [hz] at hsz
              have hz2 : z ≤ 2 := by have := hln0.out x (hx ▸ List.getElem_mem hkl); omega
              have HZ := Lib.hid hz; have HX := Lib.hid hx
              have hwr : IntKind.i64.wrap ((i : Int) + z) = (i : Int) + z := IntWalk.i64_in _ (by omega)
              clear hz hx
              obtain ⟨b, hb⟩ : ∃ b, pf x = b := ⟨_, rfl⟩
              rw [hb] at HPX
              have HB := Lib.hid hb
              clear hb
              have ht0 : wr.cell? ⟨tb, 0, none⟩ = some (.int .i64 0) := (bkC E6.out.tb_ 0).trans rfl; have htf0 := bkF E6.out.tb_ 0; have ht1 : wr.cell? ⟨tb, 1, none⟩ = some (.int .i64 0) := (bkC E6.out.tb_ 1).trans rfl; have htf1 := bkF E6.out.tb_ 1; have ht2 : wr.cell? ⟨tb, 2, none⟩ = some (.int .i64 i) := (bkC E6.out.tb_ 2).trans rfl; have htf2 := bkF E6.out.tb_ 2; have ht3 : wr.cell? ⟨tb, 3, none⟩ = some (.string ⟨#[]⟩) := (bkC E6.out.tb_ 3).trans rfl; have htf3 := bkF E6.out.tb_ 3; have hr0 : wr.cell? ⟨rb, 0, none⟩ = some (.int .i64 0) := (bkC E6.out.rb_ 0).trans rfl; have hrf0 := bkF E6.out.rb_ 0; have hr1 : wr.cell? ⟨rb, 1, none⟩ = some (.int .i64 0) := (bkC E6.out.rb_ 1).trans rfl; have hrf1 := bkF E6.out.rb_ 1; have hr2 : wr.cell? ⟨rb, 2, none⟩ = some (.int .i64 0) := (bkC E6.out.rb_ 2).trans rfl; have hrf2 := bkF E6.out.rb_ 2; have hr3 : wr.cell? ⟨rb, 3, none⟩ = some (.string ⟨#[]⟩) := (bkC E6.out.rb_ 3).trans rfl; have hrf3 := bkF E6.out.rb_ 3; have hsc : wr.cell? ⟨sb, 0, none⟩ = some (.string s) := HSC.out wr E6.out.bl; have hmc : wr.cell? ⟨mb, 0, none⟩ = some (.map (some m)) := HMC.out wr E6.out.bl
              cases b with
              | true =>
                have HO5 : Hid (oneL l i = .inr (6, 0, x, i + z)) := Lib.hid (by
                  have h := HO4.out
                  have hf : signsL.find? pf = some x := by
                    rw [List.find?_eq_some_iff_getElem]
                    refine ⟨HB.out, k, hkl, HX.out, fun j hj => ?_⟩
                    have := HF.out signsL[j] (List.mem_take_iff_getElem.2 ⟨j, by omega, rfl⟩)
                    rw [this]; rfl
                  rw [hf] at h
                  rw [h, ← HZ.out])
                go_upto_region 40 with (go_at_call 22; refine HPX.out.mono ?_; rintro e_ w7 ⟨rfl, rfl⟩)
                have E8 : Hid (OEnv w rb tb 6 0 i ⟨x.toArray⟩ 0 0 0 ⟨#[]⟩ ((wr.setCell ⟨tb, 0, none⟩ (.int .i64 6)).setCell ⟨tb, 3, none⟩ (.string ⟨x.toArray⟩))) := (E6.out.set 0 (.int .i64 6) (k1 := 6) (n1 := 0) (a1 := i) (x1 := ⟨#[]⟩) rfl).set 3 (.string ⟨x.toArray⟩) rfl
                generalize (wr.setCell ⟨tb, 0, none⟩ (.int .i64 6)).setCell ⟨tb, 3, none⟩ (.string ⟨x.toArray⟩) = w8 at E8 ⊢
                clear ht0 htf0 ht1 htf1 ht2 htf2 ht3 htf3 hr0 hrf0 hr1 hrf1 hr2 hrf2 hr3 hrf3 hsc hmc hcell
                have ht0 : w8.cell? ⟨tb, 0, none⟩ = some (.int .i64 6) := (bkC E8.out.tb_ 0).trans rfl; have htf0 := bkF E8.out.tb_ 0; have ht1 : w8.cell? ⟨tb, 1, none⟩ = some (.int .i64 0) := (bkC E8.out.tb_ 1).trans rfl; have htf1 := bkF E8.out.tb_ 1; have ht2 : w8.cell? ⟨tb, 2, none⟩ = some (.int .i64 i) := (bkC E8.out.tb_ 2).trans rfl; have htf2 := bkF E8.out.tb_ 2; have ht3 : w8.cell? ⟨tb, 3, none⟩ = some (.string ⟨x.toArray⟩) := (bkC E8.out.tb_ 3).trans rfl; have htf3 := bkF E8.out.tb_ 3; have hr0 : w8.cell? ⟨rb, 0, none⟩ = some (.int .i64 0) := (bkC E8.out.rb_ 0).trans rfl; have hrf0 := bkF E8.out.rb_ 0; have hr1 : w8.cell? ⟨rb, 1, none⟩ = some (.int .i64 0) := (bkC E8.out.rb_ 1).trans rfl; have hrf1 := bkF E8.out.rb_ 1; have hr2 : w8.cell? ⟨rb, 2, none⟩ = some (.int .i64 0) := (bkC E8.out.rb_ 2).trans rfl; have hrf2 := bkF E8.out.rb_ 2; have hr3 : w8.cell? ⟨rb, 3, none⟩ = some (.string ⟨#[]⟩) := (bkC E8.out.rb_ 3).trans rfl; have hrf3 := bkF E8.out.rb_ 3; have hsc : w8.cell? ⟨sb, 0, none⟩ = some (.string s) := HSC.out w8 E8.out.bl; have hmc : w8.cell? ⟨mb, 0, none⟩ = some (.map (some m)) := HMC.out w8 E8.out.bl
                go_wp2_with fail
                exact bodyPost_ret (results_cttt (p := 4) (u := 5) (v := 6) (x := 7) rfl _ _ rb 32 (tkC (6) (0) (i) (⟨x.toArray⟩)) (0, 0) _ rfl (tk_put E8.out.rb_ (6) (0) (i) (⟨x.toArray⟩)) Tryd.underlying32 rfl (by kernel_rfl)) rfl (one_inr (e := (i : Int) + z) HO5.out rfl (by omega) (tk_below E8.out.bl E8.out.rw_ (6) (0) (i) (⟨x.toArray⟩)))
              | false =>
                go_wp2_with (first | (go_at_call 22; refine HPX.out.mono ?_; rintro e_ w7 ⟨rfl, rfl⟩))
                go_roundw
                case rel =>
                  refine ⟨k + 1, by omega, by go_num, E6, HG, Lib.hid (fun y hy => ?_)⟩
                  rw [List.take_succ_eq_append_getElem hkl] at hy
                  rcases List.mem_append.1 hy with h | h
                  · exact HF.out y h
                  · rw [List.mem_singleton.1 h, HX.out, HB.out]
                case measure => simp [intOf]; omega
            · obtain rfl : k = 14 := by omega
              have HO5 : Hid (oneL l i = .inl (6, (i : Int))) := Lib.hid (by
                have h := HO4.out
                have hf : signsL.find? pf = none := by
                  rw [List.find?_eq_none]
                  intro x hx
                  have := HF.out x hx
                  rw [this]; simp
                rw [hf] at h
                exact h)
              clear HF
              have ht0 : wr.cell? ⟨tb, 0, none⟩ = some (.int .i64 0) := (bkC E6.out.tb_ 0).trans rfl; have htf0 := bkF E6.out.tb_ 0; have ht1 : wr.cell? ⟨tb, 1, none⟩ = some (.int .i64 0) := (bkC E6.out.tb_ 1).trans rfl; have htf1 := bkF E6.out.tb_ 1; have ht2 : wr.cell? ⟨tb, 2, none⟩ = some (.int .i64 i) := (bkC E6.out.tb_ 2).trans rfl; have htf2 := bkF E6.out.tb_ 2; have ht3 : wr.cell? ⟨tb, 3, none⟩ = some (.string ⟨#[]⟩) := (bkC E6.out.tb_ 3).trans rfl; have htf3 := bkF E6.out.tb_ 3; have hr0 : wr.cell? ⟨rb, 0, none⟩ = some (.int .i64 0) := (bkC E6.out.rb_ 0).trans rfl; have hrf0 := bkF E6.out.rb_ 0; have hr1 : wr.cell? ⟨rb, 1, none⟩ = some (.int .i64 0) := (bkC E6.out.rb_ 1).trans rfl; have hrf1 := bkF E6.out.rb_ 1; have hr2 : wr.cell? ⟨rb, 2, none⟩ = some (.int .i64 0) := (bkC E6.out.rb_ 2).trans rfl; have hrf2 := bkF E6.out.rb_ 2; have hr3 : wr.cell? ⟨rb, 3, none⟩ = some (.string ⟨#[]⟩) := (bkC E6.out.rb_ 3).trans rfl; have hrf3 := bkF E6.out.rb_ 3; have hsc : wr.cell? ⟨sb, 0, none⟩ = some (.string s) := HSC.out wr E6.out.bl; have hmc : wr.cell? ⟨mb, 0, none⟩ = some (.map (some m)) := HMC.out wr E6.out.bl
              go_wp2_with fail
              exact bodyPost_ret (results_cttt (p := 4) (u := 5) (v := 6) (x := 7) rfl _ _ rb 32 (tkC (0) (0) (i) (⟨#[]⟩)) (0, 0) _ rfl (tk_put E6.out.rb_ (0) (0) (i) (⟨#[]⟩)) Tryd.underlying32 rfl (by kernel_rfl)) rfl (one_inl HO5.out (tk_below E6.out.bl E6.out.rw_ (0) (0) (i) (⟨#[]⟩)))
def blankB (c : UInt8) : Bool := c == 32 || (c == 9 || (c == 10 || c == 13))
def lexGo : Nat → List UInt8 → List Tk → Nat → List Tk × Int × Int
  | 0, _, acc, _ => (acc, 0, 0)
  | k + 1, l, acc, i => match l[i]? with
    | none => (acc, 0, 0)
    | some c => if blankB c = true then lexGo k l acc (i + 1) else match oneL l i with
      | .inl p => ([], p.1, p.2)
      | .inr p => if acc.length = 400 then ([], 5, (i : Int)) else lexGo k l (acc ++ [⟨p.1, p.2.1, (i : Int), ⟨p.2.2.1.toArray⟩⟩]) p.2.2.2
def lexL (s : ByteArray) : List Tk × Int × Int := if s.size > 2000 then ([], 5, 0) else lexGo (s.size + 1) s.data.toList [] 0
theorem lexGo_blank {k : Nat} {l : List UInt8} {acc : List Tk} {i : Nat} {c : UInt8} (h : l[i]? = some c) (hb : blankB c = true) : lexGo (k + 1) l acc i = lexGo k l acc (i + 1) := by
  rw [lexGo]; simp only [h, hb, if_true]
theorem lexGo_inl {k : Nat} {l : List UInt8} {acc : List Tk} {i : Nat} {c : UInt8} {e p : Int} (h : l[i]? = some c) (hb : blankB c = false) (ho : oneL l i = .inl (e, p)) : lexGo (k + 1) l acc i = ([], e, p) := by
  rw [lexGo]; simp [h, hb, ho]
theorem lexGo_inr {k : Nat} {l : List UInt8} {acc : List Tk} {i : Nat} {c : UInt8} {kd n : Int} {x : List UInt8} {E : Nat} (h : l[i]? = some c) (hb : blankB c = false) (ho : oneL l i = .inr (kd, n, x, E)) : lexGo (k + 1) l acc i = if acc.length = 400 then ([], 5, (i : Int)) else lexGo k l (acc ++ [⟨kd, n, (i : Int), ⟨x.toArray⟩⟩]) E := by
  rw [lexGo]; simp [h, hb, ho]
theorem lexGo_end (k : Nat) {l : List UInt8} (acc : List Tk) {i : Nat} (h : l.length ≤ i) : lexGo k l acc i = (acc, 0, 0) := by
  cases k with
  | zero => rfl
  | succ k => rw [lexGo, List.getElem?_eq_none h]
theorem span_pos {p : UInt8 → Bool} {c : UInt8} {r : List UInt8} (h : p c = true) : 0 < spanL p (c :: r) := by
  unfold spanL; simp [List.takeWhile_cons, h]
theorem wrd_let {c : UInt8} (h : letB c = true) : wrdB c = true := by unfold wrdB; rw [h]; rfl
theorem signs_pos : ∀ g ∈ signsL, 0 < g.length := by decide
def OneR (i : Nat) : (Int × Int) ⊕ (Int × Int × List UInt8 × Nat) → Prop
  | .inl p => p.1 = 5 ∨ p.1 = 6
  | .inr p => i < p.2.2.2
theorem one_right (l : List UInt8) (i : Nat) : OneR i (oneL l i) := by
  unfold oneL
  split
  · exact .inr rfl
  · rename_i c r hd
    by_cases h1 : letB c = true
    · rw [if_pos h1]
      split
      · exact .inl rfl
      · show i < i + _
        have := span_pos (p := wrdB) (r := r) (wrd_let h1); omega
    · rw [if_neg h1]
      by_cases h2 : digB c = true
      · rw [if_pos h2]
        split
        · exact .inl rfl
        · show i < i + _
          have := span_pos (p := digB) (r := r) h2; omega
      · rw [if_neg h2]
        by_cases h3 : c = 39
        · rw [if_pos h3]
          split
          · exact .inr rfl
          · split
            · exact .inl rfl
            · show i < i + 1 + _
              omega
        · rw [if_neg h3]
          by_cases h4 : c = 36
          · rw [if_pos h4]
            split
            · exact .inr rfl
            · split
              · exact .inl rfl
              · split
                · exact .inl rfl
                · show i < i + 1 + _
                  omega
          · rw [if_neg h4]
            split
            · rename_i g hg
              show i < i + _
              have := signs_pos g (List.mem_of_find?_eq_some hg); omega
            · exact .inr rfl
theorem infoTk : (Tryd.prog.info? 32).map (fun i => (i.zero, i.size, i.bytes)) = some (some (.agg (tkC 0 0 0 ⟨#[]⟩)), 4, 40) := by kernel_rfl
structure LInv (w4 : World) (acc : List Tk) (u : Value) (w : World) : Prop where
  bl : Below w4.heap.size w4 w
  own : Kd.R k32 32 w w4.heap.size (fun _ => True) u acc
  le : acc.length ≤ 400
theorem LInv.later {w4 w w' : World} {acc : List Tk} {u : Value} (h : LInv w4 acc u w) (hb : Below w.heap.size w w') : LInv w4 acc u w' :=
  ⟨h.bl.trans (hb.mono h.bl.size), Kd.R_below h.own hb, h.le⟩
def LexP (w : World) (q : List Tk × Int × Int) (e : Ending) (w' : World) : Prop :=
  ∃ v : Value, e = .returned (.tuple #[v, .int .i64 q.2.1, .int .i64 q.2.2]) ∧ Kd.R k32 32 w' w.heap.size (fun _ => True) v q.1 ∧ Below w.heap.size w w'
set_option maxHeartbeats 8000000 in
set_option maxRecDepth 100000 in
theorem lex_big (s : ByteArray) (w : World) (hs : 2000 < s.size) :
    Calls Tryd.prog 11 #[.string s] w (LexP w ([], 5, 0)) := by
  obtain ⟨n, hn⟩ : ∃ n, s.size = n := ⟨_, rfl⟩
  have hbig : (2000 : Int) < (n : Int) := by omega
  go_enter Tryd.func11, Tryd.ntmps11
  go_upto_region 1 with (first | ((with_reducible refine gate_dst (N := 1) rfl ?_); refine box_event rfl (N := 1) rfl (cs := #[.string s]) (t := 9) (by first | rfl | (go_simp; done) | (go_simp; rfl)) ?_; intro sb hgg w1 hbsb hBsb; have hsc : w1.cell? ⟨sb, 0, none⟩ = some (.string s) := ((bkC hbsb 0).trans rfl); clear hgg))
  go_wp2_with fail
  go_ret3
  exact ⟨_, rfl, Kd.R_nil _ _ _ _ _, hBsb⟩
set_option maxHeartbeats 8000000 in
set_option maxRecDepth 100000 in
theorem lex_walk (s : ByteArray) (l : List UInt8) (hl : s.data.toList = l) (q : List Tk × Int × Int) (hs : s.size ≤ 2000) (hq : lexGo (s.size + 1) l [] 0 = q) (w : World) (hT : TabA w) :
    Calls Tryd.prog 11 #[.string s] w (LexP w q) := by
  obtain ⟨n, hn⟩ : ∃ n, s.size = n := ⟨_, rfl⟩
  rw [hn] at hq
  have hn2 : n ≤ 2000 := by omega
  have hbig : ¬ (2000 : Int) < (n : Int) := by omega
  have HQ := Lib.hid hq; have HL := Lib.hid hl; have HT := Lib.hid hT
  have HLN : Hid (l.length = n) := Lib.hid (by rw [← hl, ← sz_list, hn])
  clear hq hl hT
  go_enter Tryd.func11, Tryd.ntmps11
  go_upto_region 1 with (first | ((with_reducible refine gate_dst (N := 1) rfl ?_); refine box_event rfl (N := 1) rfl (cs := #[.string s]) (t := 9) (by first | rfl | (go_simp; done) | (go_simp; rfl)) ?_; intro sb hgg w1 hbsb hBsb; have hsc : w1.cell? ⟨sb, 0, none⟩ = some (.string s) := ((bkC hbsb 0).trans rfl); have hsw : w.heap.size ≤ sb := (by omega); clear hgg))
  have HW := Lib.hid (words_ok w1 (tab_at HT.out hBsb))
  go_upto_region 7 with (first | (go_at_call 13; refine HW.out.mono ?_; rintro e_ w2 ⟨m, rfl, hkn, hb2⟩; have HKN2 := Lib.hid hkn; have HB2 := Lib.hid hb2; clear hkn hb2) | ((with_reducible refine gate_dst (N := 5) rfl ?_); refine box_event rfl (N := 5) rfl (cs := #[.map none]) (t := 39) (by first | rfl | (go_simp; done) | (go_simp; rfl)) ?_; intro mb hgg w3 hbmb hBmb; have hmw : w2.heap.size ≤ mb := (by omega); have hm0 : w3.cell? ⟨mb, 0, none⟩ = some (.map none) := ((bkC hbmb 0).trans rfl); have hf0 := bkF hbmb 0; clear hgg))
  have HM4 := Lib.hid (blk_set hbmb 0 (.map (some m)))
  have HB24 := Lib.hid (hBmb.setCell (p := ⟨mb, 0, none⟩) hmw (.map (some m)))
  clear hbmb hBmb hm0 hf0 hsc
  generalize w3.setCell ⟨mb, 0, none⟩ (.map (some m)) = w4 at HM4 HB24 ⊢
  have HKN4 : Hid (KnownAt m w4) := Lib.hid (HKN2.out.later HB24.out)
  have HS4 : Hid (w4.heap[sb]? = some (.cells #[.string s] 9 (0, 0))) := by
    have h2 := (HB2.out.block sb (blk_lt hbsb)).trans hbsb
    exact Lib.hid ((HB24.out.block sb (blk_lt h2)).trans h2)
  have HB04 : Hid (Below w.heap.size w w4) := Lib.hid ((hBsb.trans (HB2.out.mono hBsb.size)).trans (HB24.out.mono (Nat.le_trans hBsb.size HB2.out.size)))
  have HI0 : Hid (LInv w4 [] (.slice none 0 0) w4) := Lib.hid ⟨Below.refl _ _, Kd.R_nil _ _ _ _ _, Nat.zero_le _⟩
  clear hbsb hBsb hsw hmw HKN2 HB2 HB24 HW HT
  go_loopw [7, 8] (fun v7 v8 wr => ∃ (i k : Nat) (acc : List Tk), v8 = .int .i64 i ∧ n < i + k ∧ Hid (lexGo k l acc i = q) ∧ Hid (LInv w4 acc v7 wr)) (fun _ v _ => n - (intOf v).toNat)
  case atStart => exact ⟨0, n + 1, [], rfl, by omega, HQ, HI0⟩
  case round =>
    clear HQ HI0
    obtain ⟨i, k, acc, rfl, hik, HGO, HI⟩ := hrel
    obtain ⟨A5, c5, rfl, -, -⟩ := Kd.R_reads HI.out.own
    have hsr := (HI.out.bl.block sb (blk_lt HS4.out)).trans HS4.out
    have hmr := (HI.out.bl.block mb (blk_lt HM4.out)).trans HM4.out
    have hsc : wr.cell? ⟨sb, 0, none⟩ = some (.string s) := (bkC hsr 0).trans rfl
    have HSR := Lib.hid hsr; have HMR := Lib.hid hmr
    clear hsr hmr
    by_cases hlt : i < n
    · have hi : i < s.size := by omega
      obtain ⟨k, rfl⟩ : ∃ j, k = j + 1 := ⟨k - 1, by omega⟩
      obtain ⟨c, hc⟩ : ∃ c, s[i] = c := ⟨_, rfl⟩
      have HLI : Hid (l[i]? = some c) := by
        have h1 := byte_at s l HL.out i hi
        have h2 : i < l.length := by rw [HLN.out]; exact hlt
        rw [hc] at h1
        rw [h1, List.getElem?_eq_getElem h2]
        exact Lib.hid (by simp [h2])
      have hi0 : (0 : Int) ≤ (i : Int) := by omega
      have hin' : (i : Int) < (n : Int) := by omega
      have hw1 : IntKind.i64.wrap ((i : Int) + 1) = (i : Int) + 1 := IntWalk.i64_in _ (by omega)
      have hbyte : ∀ (k : UInt8), ((c.toNat : Int) == (k.toNat : Int)) = decide (c = k) := fun k => by
        rw [Bool.eq_iff_iff, beq_iff_eq, decide_eq_true_eq]
        exact ⟨fun h => UInt8.toNat_inj.1 (by omega), fun h => by rw [h]⟩
      have HBY := Lib.hid hbyte; clear hbyte
      by_cases h32 : c = 32
      · have b32 : ((c.toNat : Int) == 32) = true := (HBY.out 32).trans (decide_eq_true h32)
        have HG2 : Hid (lexGo k l acc (i + 1) = q) := Lib.hid ((lexGo_blank HLI.out (by rw [h32]; rfl)).symm.trans HGO.out)
        clear h32
        go_wp2_with fail
        go_roundw
        case rel => exact ⟨i + 1, k, acc, by go_num, by omega, HG2, HI⟩
        case measure => simp [intOf]; omega
      · have b32 : ((c.toNat : Int) == 32) = false := (HBY.out 32).trans (decide_eq_false h32)
        by_cases h9 : c = 9
        · have b9 : ((c.toNat : Int) == 9) = true := (HBY.out 9).trans (decide_eq_true h9)
          have HG2 : Hid (lexGo k l acc (i + 1) = q) := Lib.hid ((lexGo_blank HLI.out (by rw [h9]; rfl)).symm.trans HGO.out)
          clear h9
          go_wp2_with fail
          go_roundw
          case rel => exact ⟨i + 1, k, acc, by go_num, by omega, HG2, HI⟩
          case measure => simp [intOf]; omega
        · have b9 : ((c.toNat : Int) == 9) = false := (HBY.out 9).trans (decide_eq_false h9)
          by_cases h10 : c = 10
          · have b10 : ((c.toNat : Int) == 10) = true := (HBY.out 10).trans (decide_eq_true h10)
            have HG2 : Hid (lexGo k l acc (i + 1) = q) := Lib.hid ((lexGo_blank HLI.out (by rw [h10]; rfl)).symm.trans HGO.out)
            clear h10
            go_wp2_with fail
            go_roundw
            case rel => exact ⟨i + 1, k, acc, by go_num, by omega, HG2, HI⟩
            case measure => simp [intOf]; omega
          · have b10 : ((c.toNat : Int) == 10) = false := (HBY.out 10).trans (decide_eq_false h10)
            by_cases h13 : c = 13
            · have b13 : ((c.toNat : Int) == 13) = true := (HBY.out 13).trans (decide_eq_true h13)
              have HG2 : Hid (lexGo k l acc (i + 1) = q) := Lib.hid ((lexGo_blank HLI.out (by rw [h13]; rfl)).symm.trans HGO.out)
              clear h13
              go_wp2_with fail
              go_roundw
              case rel => exact ⟨i + 1, k, acc, by go_num, by omega, HG2, HI⟩
              case measure => simp [intOf]; omega
            · have b13 : ((c.toNat : Int) == 13) = false := (HBY.out 13).trans (decide_eq_false h13)
              have HBL : Hid (blankB c = false) := by show _ = _; unfold blankB; simp [h32, h9, h10, h13]
              clear h32 h9 h10 h13
              have HONE := Lib.hid (one_ok s l HL.out i sb mb m wr (by omega) hi HSR.out HMR.out (HKN4.out.later HI.out.bl))
              have HR := Lib.hid (one_right l i)
              cases h1 : oneL l i with
              | inl p =>
                obtain ⟨er, p⟩ := p
                have HC : Hid (Calls Tryd.prog 14 #[.int .i64 i, .pointer (some ⟨sb, 0, none⟩), .pointer (some ⟨mb, 0, none⟩)] wr fun e_ w' => (∃ (x0 x1 x2 : Int) (x3 : ByteArray), e_ = .returned (.tuple #[.agg #[.int .i64 x0, .int .i64 x1, .int .i64 x2, .string x3], .int .i64 0, .int .i64 er, .int .i64 p])) ∧ Below wr.heap.size wr w') := by
                  refine Lib.hid (HONE.out.mono ?_)
                  rintro e_ w' ⟨h2, h3⟩
                  rw [h1] at h2
                  exact ⟨h2, h3⟩
                clear HONE
                rw [h1] at HR
                have H1 := Lib.hid h1
                clear h1
                go_upto_region 15 with (first | (go_at_call 14; refine HC.out.mono ?_; rintro e_ w6 ⟨⟨x0, x1, x2, x3, rfl⟩, hb6⟩; have HB6 := Lib.hid hb6; clear hb6) | ((with_reducible refine gate_dst (N := 9) rfl ?_); refine box_event rfl (N := 9) rfl (cs := #[.int .i64 0, .int .i64 0, .int .i64 0, .string ⟨#[]⟩]) (t := 32) (by first | rfl | (go_simp; done) | (go_simp; rfl)) ?_; intro vb hgg w7 hbvb hBvb; have hvb : w6.heap.size ≤ vb := (by omega); have hd0 : w7.cell? ⟨vb, 0, none⟩ = some (.int .i64 0) := ((bkC hbvb 0).trans rfl); have he0 := bkF hbvb 0; have hd1 : w7.cell? ⟨vb, 1, none⟩ = some (.int .i64 0) := ((bkC hbvb 1).trans rfl); have he1 := bkF hbvb 1; have hd2 : w7.cell? ⟨vb, 2, none⟩ = some (.int .i64 0) := ((bkC hbvb 2).trans rfl); have he2 := bkF hbvb 2; have hd3 : w7.cell? ⟨vb, 3, none⟩ = some (.string ⟨#[]⟩) := ((bkC hbvb 3).trans rfl); have he3 := bkF hbvb 3; clear hgg))
                have hv8 := tk_put hbvb (x0) (x1) (x2) (x3)
                have HK8 := Lib.hid (HI.out.later (tk_below (HB6.out.trans (hBvb.mono HB6.out.size)) (Nat.le_trans HB6.out.size hvb) (x0) (x1) (x2) (x3)))
                clear hd0 hd1 hd2 hd3 he0 he1 he2 he3 hbvb hBvb HB6 HC hvb hsc
                generalize ((((w7.setCell ⟨vb, 0, none⟩ (.int .i64 (x0))).setCell ⟨vb, 1, none⟩ (.int .i64 (x1))).setCell ⟨vb, 2, none⟩ (.int .i64 (x2))).setCell ⟨vb, 3, none⟩ (.string (x3))) = w8 at hv8 HK8 ⊢
                have he : (er != 0) = true := bne_iff_ne.mpr (by have h : er = 5 ∨ er = 6 := HR.out; omega)
                have HQ : Hid (([], er, p) = q) := Lib.hid ((lexGo_inl HLI.out HBL.out H1.out).symm.trans HGO.out)
                go_wp2_with fail
                go_ret3
                have h := HQ.out
                subst h
                exact ⟨_, rfl, Kd.R_nil _ _ _ _ _, HB04.out.trans (HK8.out.bl.mono HB04.out.size)⟩
              | inr p =>
                obtain ⟨kd, v, x, E⟩ := p
                have HC : Hid (Calls Tryd.prog 14 #[.int .i64 i, .pointer (some ⟨sb, 0, none⟩), .pointer (some ⟨mb, 0, none⟩)] wr fun e_ w' => e_ = .returned (.tuple #[.agg #[.int .i64 kd, .int .i64 v, .int .i64 i, .string ⟨x.toArray⟩], .int .i64 E, .int .i64 0, .int .i64 0]) ∧ Below wr.heap.size wr w') := by
                  refine Lib.hid (HONE.out.mono ?_)
                  rintro e_ w' ⟨h2, h3⟩
                  rw [h1] at h2
                  exact ⟨h2, h3⟩
                clear HONE
                rw [h1] at HR
                have H1 := Lib.hid h1
                clear h1
                go_upto_region 15 with (first | (go_at_call 14; refine HC.out.mono ?_; rintro e_ w6 ⟨rfl, hb6⟩; have HB6 := Lib.hid hb6; clear hb6) | ((with_reducible refine gate_dst (N := 9) rfl ?_); refine box_event rfl (N := 9) rfl (cs := #[.int .i64 0, .int .i64 0, .int .i64 0, .string ⟨#[]⟩]) (t := 32) (by first | rfl | (go_simp; done) | (go_simp; rfl)) ?_; intro vb hgg w7 hbvb hBvb; have hvb : w6.heap.size ≤ vb := (by omega); have hd0 : w7.cell? ⟨vb, 0, none⟩ = some (.int .i64 0) := ((bkC hbvb 0).trans rfl); have he0 := bkF hbvb 0; have hd1 : w7.cell? ⟨vb, 1, none⟩ = some (.int .i64 0) := ((bkC hbvb 1).trans rfl); have he1 := bkF hbvb 1; have hd2 : w7.cell? ⟨vb, 2, none⟩ = some (.int .i64 0) := ((bkC hbvb 2).trans rfl); have he2 := bkF hbvb 2; have hd3 : w7.cell? ⟨vb, 3, none⟩ = some (.string ⟨#[]⟩) := ((bkC hbvb 3).trans rfl); have he3 := bkF hbvb 3; clear hgg))
                have hv8 := tk_put hbvb (kd) (v) (i) (⟨x.toArray⟩)
                have HK8 := Lib.hid (HI.out.later (tk_below (HB6.out.trans (hBvb.mono HB6.out.size)) (Nat.le_trans HB6.out.size hvb) (kd) (v) (i) (⟨x.toArray⟩)))
                clear hd0 hd1 hd2 hd3 he0 he1 he2 he3 hbvb hBvb HB6 HC hvb hsc
                generalize ((((w7.setCell ⟨vb, 0, none⟩ (.int .i64 (kd))).setCell ⟨vb, 1, none⟩ (.int .i64 (v))).setCell ⟨vb, 2, none⟩ (.int .i64 (i))).setCell ⟨vb, 3, none⟩ (.string (⟨x.toArray⟩))) = w8 at hv8 HK8 ⊢
                have HG2 := Lib.hid ((lexGo_inr (k := k) (acc := acc) HLI.out HBL.out H1.out).symm.trans HGO.out)
                have hE : i < E := HR.out
                by_cases h4 : acc.length = 400
                · have b4 : ((acc.length : Int) == 400) = true := beq_iff_eq.mpr (by omega)
                  have HQ : Hid (([], 5, (i : Int)) = q) := by have h := HG2.out; rw [if_pos h4] at h; exact Lib.hid h
                  clear h4
                  go_wp2_with fail
                  go_ret3
                  have h := HQ.out
                  subst h
                  exact ⟨_, rfl, Kd.R_nil _ _ _ _ _, HB04.out.trans (HK8.out.bl.mono HB04.out.size)⟩
                · have b4 : ((acc.length : Int) == 400) = false := beq_eq_false_iff_ne.mpr (by omega)
                  have HG3 : Hid (lexGo k l (acc ++ [⟨kd, v, (i : Int), ⟨x.toArray⟩⟩]) E = q) := by have h := HG2.out; rw [if_neg h4] at h; exact Lib.hid h
                  have hal : acc.length < 400 := by have := HK8.out.le; omega
                  clear h4 HG2
                  have hd0 : w8.cell? ⟨vb, 0, none⟩ = some (.int .i64 kd) := ((bkC hv8 0).trans rfl)
                  have hd1 : w8.cell? ⟨vb, 1, none⟩ = some (.int .i64 v) := ((bkC hv8 1).trans rfl)
                  have hd2 : w8.cell? ⟨vb, 2, none⟩ = some (.int .i64 i) := ((bkC hv8 2).trans rfl)
                  have hd3 : w8.cell? ⟨vb, 3, none⟩ = some (.string ⟨x.toArray⟩) := ((bkC hv8 3).trans rfl)
                  clear hv8
                  go_wp2_with ((with_reducible refine gate_builtin (b := .append) (xs := #[.tmp 50, .tmp 52]) rfl ?_); at_builtin; refine Kd.R_append k32 (w0 := w4) w4.heap.size rfl (.tmp 50) (.tmp 52) 26 32 (.agg (tkC 0 0 0 ⟨#[]⟩)) 40 rfl Tryd.underlying26 infoTk rfl (by decide) (by omega) (.slice A5 acc.length c5) acc ⟨kd, v, (i : Int), ⟨x.toArray⟩⟩ [.int .i64 kd, .int .i64 v, .int .i64 i, .string ⟨x.toArray⟩] (fun _ => True) (fun _ => False) rfl rfl ?aP (fun _ hk => hk.elim) ?aF ?aO ?aB ?aS ?aL ?_; (case aP => exact k32_mkM _ _ _ ⟨kd, v, (i : Int), ⟨x.toArray⟩⟩); (case aB => exact HK8.out.bl); (case aF => exact (fun _ _ => trivial)); (case aO => exact HK8.out.own); (case aS => exact HK8.out.bl.size); (case aL => omega); intro v1 w9 ho hb hg hat; have HO9 := Lib.hid ho; have HB9 := Lib.hid hb; clear ho hb hg hat)
                  go_roundw
                  case rel => exact ⟨E, k, acc ++ [⟨kd, v, (i : Int), ⟨x.toArray⟩⟩], by go_num, by omega, HG3, Lib.hid ⟨HB9.out, HO9.out, by simp; omega⟩⟩
                  case measure => simp [intOf]; omega
    · have hin' : ¬ (i : Int) < (n : Int) := by omega
      have HQ : Hid ((acc, 0, 0) = q) := Lib.hid ((lexGo_end k acc (by rw [HLN.out]; omega)).symm.trans HGO.out)
      go_wp2_with fail
      go_ret3
      have h := HQ.out
      subst h
      exact ⟨_, rfl, Kd.R_lower HI.out.own HB04.out.size, HB04.out.trans (HI.out.bl.mono HB04.out.size)⟩
def lex_Lex.f (a0 : ByteArray) : Option (List Tk × Int × Int) := some (lexL a0)
theorem lex_Lex.calls (a0 : ByteArray) (r1 : List Tk) (r2 r3 : Int) (w : World) (h : lex_Lex.f a0 = some (r1, r2, r3)) (hT : TabA w) :
    Calls Tryd.prog 11 #[.string a0] w fun e w' => ∃ v0_ : Value, e = .returned (.tuple #[v0_, .int .i64 r2, .int .i64 r3]) ∧ Kd.R k32 32 w' w.heap.size (fun _ => True) v0_ r1 ∧ Below w.heap.size w w' := by
  have h' : lexL a0 = (r1, r2, r3) := Option.some.inj h
  by_cases hs : 2000 < a0.size
  · rw [lexL, if_pos hs] at h'
    have := lex_big a0 w hs
    rw [h'] at this
    exact this
  · rw [lexL, if_neg hs] at h'
    exact lex_walk a0 _ rfl _ (by omega) h' w hT
end Go.Proofs.YtniapbinamnmpaaDoor.L
