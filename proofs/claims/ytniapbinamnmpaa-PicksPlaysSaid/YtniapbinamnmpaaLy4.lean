/- The walk of chapter 04's PicksPlays. -/
import Derived.Test.YtniapbinamnmpaaRs
import Derived.Deep.RegionHeld3
import Derived.Deep.QuietTactic
import Derived.BigQuiet
import Derived.Laws.AppendOwnNone
namespace Go.Proofs.Ytniapbinamnmpaa
set_option linter.unusedVariables false
open Go.Conc Go.RowKit

theorem wpList_append_ints {w : World} {ops : Array Oper} {rest : List Oper} {o : Oper} {a : Act} {Q : Exit → Act → World → Prop} (hgd : o.guard = none) (s x : Operand)
    (ho : o.op = .call { callee := .builtin .append, args := #[s, x], argTypes := #[22, 22] }) (base : Nat) (v : Value) (n : Nat) (xs : List Int) (hs : a.eval s = v) (hown : Own w base v n xs)
    (A : Option Addr) (m c : Nat) (news : List Int) (hx : a.eval x = .slice A m c) (hA : A = none → c = 0) (hl : news.length = m) (hz : IntsAt w A news) (hm : (n + m) * 8 ≤ 140737488351232) (hbase : base ≤ w.heap.size)
    (h : ∀ v' w', Own w' base v' (n + m) (xs ++ news) → w.grownBy w' v.ownBlock → (v'.ownBlock = v.ownBlock ∨ v'.ownBlock = some w.heap.size) → wpList Try.prog ops Q rest (a.put o.dst v') w') : wpList Try.prog ops Q (o :: rest) a w := by
  obtain ⟨i0, hi, hi0, hi1, hi2⟩ := info_parts info_int
  cases A with
  | none =>
    have hn : news = [] := hz
    subst hn
    have hc := hA rfl
    subst hc
    simp only [List.length_nil] at hl
    subst hl
    refine wpList_append_own_none hgd s x 22 ho base 3 i0 1 Try.underlying22 hi v n (vals xs) hs hown hx (h v w ?_ ⟨rfl, rfl, rfl, Nat.le_refl _, fun _ _ _ => rfl⟩ (.inl rfl))
    simpa using hown
  | some ad =>
    refine wpList_append_own_at _ hgd s x 22 ho base 3 i0 (.int .i64 0) 1 8 Try.underlying22 hi hi0 hi1 hi2 rfl (by decide) v n (vals xs) hs hown ad m c (vals news) hx (by rw [vals_len]; omega) ?_ (vals_one _) (by unfold maxLen; omega) (by omega) hbase (fun v' w' h1 h2 _ h3 => h v' w' (by show w'.ownsRow _ _ _ _ _ _; rw [vals_app]; exact h1) h2 h3)
    intro j u hu
    obtain ⟨h1, rfl⟩ := vals_at hu
    obtain ⟨h2, h3⟩ := hz j h1
    rw [← h3]
    cases ad with
    | mk bl of sp =>
      simp only at h2
      subst h2
      unfold Addr.add
      by_cases h0 : j = 0
      · simp [h0]
      · simp [h0]
theorem own_set {w : World} {B g n c : Nat} {l : List Int} (h : Own w B (.slice (some ⟨g, 0, none⟩) n c) n l) (k : Nat) (x : Int) : Own (w.setCell ⟨g, k, none⟩ (.int .i64 x)) B (.slice (some ⟨g, 0, none⟩) n c) n (l.set k x) := by
  refine ⟨by rw [vals_len, List.length_set]; have := h.len; omega, ?_⟩
  rcases h.2 with ⟨h2, _⟩ | ⟨g', cap, cur, hv, h2, h3, h4, h5, h6, h7⟩
  · cases h2
  · cases hv
    refine .inr ⟨g, c, cur.setIfInBounds k (.int .i64 x), rfl, h2, ?_, h4, h5, by simpa using h6, ?_⟩
    · simp [World.setCell, Array.getElem?_modify, h3]
    · rw [Array.toList_setIfInBounds, List.take_set, h7]
      simp [vals, List.map_set]
theorem own_frozen {w : World} {B g n c : Nat} {l : List Int} (h : Own w B (.slice (some ⟨g, 0, none⟩) n c) n l) (k : Nat) : w.frozen? ⟨g, k, none⟩ = false := by
  rcases h.2 with ⟨h2, _⟩ | ⟨g', cap, cur, hv, h2, h3, _⟩
  · cases h2
  · cases hv
    unfold World.frozen?; rw [h3]; simp
/-- Both players, alike. -/
structure Duo (w : World) (b1 c1 b2 : Nat) (rest : List Int) (W : World) : Prop where
  pk : PkAt W b1 c1 rest
  rk : RAt w W b2 rest
  bl : Below w.heap.size w W
theorem Duo.drew {w W W' : World} {b1 c1 b2 : Nat} {rest : List Int} (h : Duo w b1 c1 b2 rest W) (hd : Drew W W') : Duo w b1 c1 b2 rest W' := ⟨h.pk.drew hd, by obtain ⟨n, rfl⟩ := hd; exact h.rk.of rfl, hd.below h.bl⟩
theorem ints_only {w w' : World} {g o d : Nat} {l : List Int} (h : IntsAt w (some ⟨g, o, none⟩) l) (hk : Only d w w') (hne : g ≠ d) : IntsAt w' (some ⟨g, o, none⟩) l := by
  intro i hi
  obtain ⟨h1, h2⟩ := h i hi
  exact ⟨h1, (World.cell?_of_block (w := w) (hk.block g (cell_lt h2) hne)).trans h2⟩
theorem Duo.drew1 {w W : World} {b1 c1 b2 : Nat} {rest : List Int} (h : Duo w b1 c1 b2 rest W) : Duo w b1 c1 b2 rest W.drew := ⟨h.pk.of rfl rfl, h.rk.of rfl, ⟨h.bl.os, h.bl.tape, h.bl.output, h.bl.size, h.bl.block⟩⟩
theorem rat_len {w0 w : World} {b : Nat} {l : List Int} (h : RAt w0 w b l) : ∃ A c, w.heap[b]? = some (.cells #[.slice A l.length c] 33 (0, 0)) := by
  obtain ⟨A, n, c, h1, rfl, _⟩ := h
  exact ⟨A, c, h1⟩
theorem shufGo_len : ∀ (m : Nat) (l rest : List Int), (shufGo m l rest).1.length = m
  | 0, _, _ => rfl
  | m + 1, l, rest => by simp only [shufGo, List.length_cons]; rw [shufGo_len m]
theorem shufGo_in : ∀ (m : Nat) (l rest : List Int), (∀ x ∈ l, In64 x) → ∀ x ∈ (shufGo m l rest).2, In64 x
  | 0, _, _, h => h
  | m + 1, l, rest, h => by simp only [shufGo]; exact shufGo_in m _ _ (nextRest_in h)

set_option maxHeartbeats 4000000 in
set_option maxRecDepth 100000 in
theorem plays_walk (A0 A1 A2 : Option Addr) (n0 c0 n1 c1 n2 c2 : Nat) (l ch os : List Int) (w : World) (h0 : l.length = n0) (hc0 : n0 ≤ c0) (hA0 : A0 = none → c0 = 0) (hr0 : c0 * 8 ≤ 140737488351232) (hi0 : IntsAt w A0 l) (hn0 : ∀ x ∈ l, In64 x)
    (h1 : ch.length = n1) (hi1 : IntsAt w A1 ch) (hn1 : ∀ x ∈ ch, In64 x) (h2 : os.length = n2) (hi2 : IntsAt w A2 os) (hn2 : ∀ x ∈ os, In64 x) :
    Calls Try.prog 3 #[.slice A0 n0 c0, .slice A1 n1 c1, .slice A2 n2 c2] w fun e w' => e = .returned (.bool true) ∧ Below w.heap.size w w' := by
  have HL0 := Lib.hid h0; have HI0 := Lib.hid hi0; have HN0 := Lib.hid hn0; have HL1 := Lib.hid h1; have HI1 := Lib.hid hi1; have HN1 := Lib.hid hn1; have HL2 := Lib.hid h2; have HI2 := Lib.hid hi2; have HN2 := Lib.hid hn2; have HA0 := Lib.hid hA0
  clear h0 hi0 hn0 h1 hi1 hn1 h2 hi2 hn2 hA0
  go_enter Try.func3, Try.ntmps3
  go_wp2_with fail
  refine (examples_any w).mono ?_
  rintro e w1 ⟨rfl, hB1⟩
  have HB1 := Lib.hid hB1; clear hB1
  go_upto_region 3 with (first | (at_builtin; refine wpList_append_ints rfl _ _ rfl w.heap.size (.slice none 0 0) 0 [] rfl (World.ownsRow_nil _ _ _ _) A0 n0 c0 l rfl HA0.out HL0.out (HI0.out.below HB1.out) (by omega) HB1.out.size ?_; intro v8 w2 hown2 hgrow2 hat2; obtain ⟨A8, c8, rfl, _⟩ := hown2.ints; have HO2 := Lib.hid hown2; have HG2 := Lib.hid hgrow2; clear hown2 hgrow2 hat2))
  have HB2 : Hid (Below w.heap.size w w2) := HB1.out.trans ⟨HG2.out.os, HG2.out.tape, HG2.out.output, HG2.out.size, fun q hq => HG2.out.block q (by have := HB1.out.size; omega) (by simp [Value.ownBlock])⟩
  have HO2' : Hid (Own w2 w.heap.size (.slice A8 n0 c8) n0 l) := by have h := HO2.out; rw [Nat.zero_add] at h; exact h
  have HI8 : Hid (IntsAt w2 A8 l) := by obtain ⟨A, c, h, h2⟩ := HO2'.out.ints; cases h; exact h2
  have HC8 : Hid (n0 ≤ c8) := by
    rcases HO2'.out.2 with ⟨h, h2⟩ | ⟨g, cap, cur, h, _, _, h4, _⟩
    · show _ ≤ _; omega
    · cases h; exact h4
  clear HO2 HG2 HB1
  go_wp2_with fail
  refine (new_firsts HL0.out HC8.out HI8.out).mono ?_
  rintro e w3 ⟨b1, k1, rfl, hp3, hb3, hgb, hgk⟩
  have HB3 : Hid (Below w.heap.size w w3) := HB2.out.trans (hb3.mono HB2.out.size)
  have HO3 := Lib.hid (HO2'.out.kept (w' := w3) (fun q hq => hb3.block q (HO2'.out.lt q hq).2))
  have HP3 := Lib.hid hp3
  have HAP : Hid (∀ g, (Value.slice A8 n0 c8).ownBlock = some g → g < b1 ∧ g < k1 ∧ g < w3.heap.size) := fun g hg => by have h := (HO2'.out.lt g hg).2; have h3 := hb3.size; refine ⟨?_, ?_, ?_⟩ <;> omega
  have hb1w : w.heap.size ≤ b1 := by have := HB2.out.size; omega
  have hk1w : w.heap.size ≤ k1 := by have := HB2.out.size; omega
  clear hp3 hb3 hgb hgk HO2' HI8
  go_wp2_with fail
  refine (rnew_any A0 c0 n0 l w w3 HL0.out hc0 (by omega) HI0.out).mono ?_
  rintro e w4 ⟨b2, rfl, hr4, hb4, hg4⟩
  have HD4 : Hid (Duo w b1 k1 b2 (firsts l) w4) := ⟨HP3.out.below hb4, hr4, HB3.out.trans (hb4.mono HB3.out.size)⟩
  have HO4 := Lib.hid (HO3.out.kept (w' := w4) (fun q hq => hb4.block q (HO3.out.lt q hq).2))
  have hne1 : b1 ≠ b2 := by have := HP3.out.ltb; omega
  have hne2 : k1 ≠ b2 := by have := HP3.out.ltc; omega
  have hb2w : w.heap.size ≤ b2 := by have := HB3.out.size; omega
  have HAP2 : Hid (∀ g, (Value.slice A8 n0 c8).ownBlock = some g → g ≠ b1 ∧ g ≠ k1 ∧ g ≠ b2) := fun g hg => by obtain ⟨q1, q2, q3⟩ := HAP.out g hg; refine ⟨?_, ?_, ?_⟩ <;> omega
  clear hr4 hb4 hg4 HO3 HP3 HAP HB3 HB2
  go_wp2_with fail
  go_loopw [11] (fun v11 wr => ∃ (k : Nat) (zs : List Int), k ≤ n0 ∧ v11 = .int .i64 k ∧ Hid (Duo w b1 k1 b2 (firsts l) wr) ∧ Hid (Own wr w.heap.size (.slice A8 n0 c8) n0 zs)) (fun i _ => n0 - (intOf i).toNat)
  case atStart => exact ⟨0, l, Nat.zero_le _, rfl, HD4, HO4⟩
  case round =>
    clear HD4 HO4
    obtain ⟨k, zs, hk, rfl, HD, HO⟩ := hrel
    by_cases hlt : k < n0
    · obtain ⟨g, cap, hv, hgB, hgl⟩ := HO.out.form (by omega)
      cases hv
      have hcell := Own.at HO.out k (by rw [HO.out.len]; exact hlt)
      have hfz := own_frozen HO.out k
      obtain ⟨q1, q2, q3⟩ := HAP2.out g rfl
      have HON := Lib.hid (own_set HO.out k 0)
      have HK := Lib.hid (keep_setCell wr g k (.int .i64 0))
      go_wp2
      go_roundw
      case rel => exact ⟨k + 1, zs.set k 0, by omega, by go_num, ⟨HD.out.pk.keep HK.out (Ne.symm q1) (Ne.symm q2), HD.out.rk.keep HK.out (Ne.symm q3), HK.out.below HD.out.bl hgB⟩, HON.out⟩
      case measure => simp [intOf]; omega
    · go_wp2_with fail
      obtain ⟨wo, rfl⟩ : ∃ wo : World, wo = wr := ⟨_, rfl⟩
      go_loopw [12, 13] (fun v12 v13 wr => ∃ (i : Nat) (rest : List Int), i ≤ 60 ∧ v12 = .int .i64 i ∧ Hid (Duo w b1 k1 b2 rest wr) ∧ Hid (∀ x ∈ rest, In64 x)) (fun i _ _ => 60 - (intOf i).toNat)
      case atStart => exact ⟨0, _, by omega, rfl, HD, firsts_in HN0.out⟩
      case round =>
        clear HD HO hlt hk
        obtain ⟨i, rest, hi, rfl, HD, HI⟩ := hrel
        by_cases h60 : i < 60
        · have h60' : (i : Int) < 60 := by omega
          go_upto_region 14 with fail
          have hcases : (i < n1) ∨ ¬ (i < n1) := Classical.em _
          rcases hcases with hlt1 | hlt1
          · obtain ⟨bb, oo, hA1, hce0⟩ := HI1.out.at i (by rw [HL1.out]; exact hlt1)
            subst hA1
            obtain ⟨x, hx⟩ : ∃ x, x = ch.getD i 0 := ⟨_, rfl⟩
            have hxi : In64 x := hx ▸ in_getD HN1.out (by rw [HL1.out]; exact hlt1)
            rw [← hx] at hce0
            have HCE := Lib.hid hce0
            clear hx hce0
            have hlt1' : (i : Int) < n1 := by omega
            have hlt1d : decide ((i : Int) < n1) = true := decide_eq_true hlt1'
            have hlt1n : decide (i < n1) = true := decide_eq_true hlt1
            obtain ⟨v, hv⟩ : ∃ v, nextVal rest x = v := ⟨_, rfl⟩
            obtain ⟨rest1, hr1⟩ : ∃ r, nextRest rest x = r := ⟨_, rfl⟩
            have HI1' : Hid (∀ x ∈ rest1, In64 x) := by rw [← hr1]; exact nextRest_in HI.out
            have C1 : Hid (∀ W, Duo w b1 k1 b2 rest W → Calls Try.prog 11 #[.pointer (some ⟨b1, 0, none⟩), .int .i64 x] W fun e w' => e = .returned (.int .i64 v) ∧ PkAt w' b1 k1 rest1 ∧ RAt w w' b2 rest ∧ Below w.heap.size w w') := Lib.hid (fun W hW => (next_out hW.pk HI.out hxi hv hr1).mono (by
              rintro e w' ⟨rfl, q1, q2⟩
              exact ⟨rfl, q1, hW.rk.keep q2 (Ne.symm hne2), q2.below hW.bl hk1w⟩))
            have C2 : Hid (∀ W, PkAt W b1 k1 rest1 → RAt w W b2 rest → Below w.heap.size w W → Calls Try.prog 12 #[.pointer (some ⟨b2, 0, none⟩), .int .i64 x] W fun e w' => e = .returned (.int .i64 v) ∧ Duo w b1 k1 b2 rest1 w') := Lib.hid (fun W q1 q2 q3 => (rnext_any b2 rest x w W q3 q2 HI.out hxi).mono (by
              rintro e w' ⟨rfl, q4, q5⟩
              exact ⟨by rw [hv], q1.keep q5 hne1 hne2, by rw [← hr1]; exact q4, q5.below q3 hb2w⟩))
            clear hv hr1
            have hvv : (v != v) = false := bne_self_eq_false v
            have hxc : ∀ W : World, Below w.heap.size w W → W.cell? ⟨bb, oo + i, none⟩ = some (.int .i64 x) := fun W hW => (hW.cell (cell_lt HCE.out)).trans HCE.out
            have HXC := Lib.hid hxc; clear hxc
            have hcell := HXC.out wr HD.out.bl
            go_region_held3 (fun w' => w'.cell? ⟨bb, oo + i, none⟩ = some (.int .i64 x)) (go_keep) (first | (go_at_call 11; (with_reducible refine (C1.out _ HD.out.drew1).mono ?_); rintro e w5 ⟨rfl, hp5, hr5, hb5⟩; have hc5 := HXC.out w5 hb5; have HP5 := Lib.hid hp5; have HR5 := Lib.hid hr5; have HB5 := Lib.hid hb5; clear hp5 hr5 hb5) | (go_at_call 12; (with_reducible refine (C2.out _ HP5.out HR5.out HB5.out).mono ?_); rintro e w6 ⟨rfl, hd6⟩; have hc6 := HXC.out w6 hd6.bl; have HD6 := Lib.hid hd6; clear hd6))
            clear hc5 hc6 HP5 HR5 HB5 C1 C2 HXC
            go_upto_region 16 with fail
            clear HD HI
            try clear hcell
            have hcases2 : (i < n2) ∨ ¬ (i < n2) := Classical.em _
            rcases hcases2 with hlt2 | hlt2
            · obtain ⟨bo, ob, hA2, hce0⟩ := HI2.out.at i (by rw [HL2.out]; exact hlt2)
              subst hA2
              obtain ⟨y, hy⟩ : ∃ y, y = os.getD i 0 := ⟨_, rfl⟩
              have hyi : In64 y := hy ▸ in_getD HN2.out (by rw [HL2.out]; exact hlt2)
              rw [← hy] at hce0
              have HCO := Lib.hid hce0
              clear hy hce0
              have hyc : w6.cell? ⟨bo, ob + i, none⟩ = some (.int .i64 y) := (HD6.out.bl.cell (cell_lt HCO.out)).trans HCO.out
              have hlt2' : (i : Int) < n2 := by omega
              have hlt2d : decide ((i : Int) < n2) = true := decide_eq_true hlt2'
              by_cases h50 : y < 50
              · have h50d : decide (y < 50) = true := decide_eq_true h50
                obtain ⟨m, hm⟩ : ∃ m, (max 0 (min y 1000)).toNat = m := ⟨_, rfl⟩
                obtain ⟨sl, rest2, hsl⟩ : ∃ sl rest2, shufGo m rest1 ((List.range m).map Int.ofNat) = (sl, rest2) := ⟨_, _, rfl⟩
                have hsl1 : (shufGo m rest1 ((List.range m).map Int.ofNat)).1 = sl := by rw [hsl]
                have hsl2 : (shufGo m rest1 ((List.range m).map Int.ofNat)).2 = rest2 := by rw [hsl]
                have HSL : Hid (sl.length = m) := by rw [← hsl1]; exact shufGo_len _ _ _
                have HI2' : Hid (∀ x ∈ rest2, In64 x) := by rw [← hsl2]; exact shufGo_in _ _ _ HI1'.out
                have hm50 : m ≤ 1000 := by omega
                have C3 : Hid (∀ W, Duo w b1 k1 b2 rest1 W → Calls Try.prog 14 #[.pointer (some ⟨b1, 0, none⟩), .int .i64 y] W fun e w' => ∃ g, e = .returned (.slice (some ⟨g, 0, none⟩) m m) ∧ g ≠ b2 ∧ IntsAt w' (some ⟨g, 0, none⟩) sl ∧ PkAt w' b1 k1 rest2 ∧ RAt w w' b2 rest1 ∧ Below w.heap.size w w') := Lib.hid (fun W hW => (shuffle_any b1 k1 rest1 y m W hW.pk HI1'.out hm).mono (by
                  rintro e w' ⟨rfl, q1, q2, q3⟩
                  rw [hsl1] at q1; rw [hsl2] at q2
                  exact ⟨_, rfl, by have := hW.rk.lt; omega, ints_lit _ _ _ _ q1, q2, hW.rk.only q3 (Ne.symm hne2), q3.below hW.bl hk1w hW.bl.size⟩))
                have C4 : Hid (∀ W g, PkAt W b1 k1 rest2 → RAt w W b2 rest1 → Below w.heap.size w W → g ≠ b2 → IntsAt W (some ⟨g, 0, none⟩) sl → Calls Try.prog 15 #[.pointer (some ⟨b2, 0, none⟩), .int .i64 y] W fun e w' => ∃ A' c', e = .returned (.slice A' m c') ∧ IntsAt w' A' sl ∧ IntsAt w' (some ⟨g, 0, none⟩) sl ∧ Duo w b1 k1 b2 rest2 w') := Lib.hid (fun W g q1 q2 q3 q4 q5 => (rshuffle_any b2 rest1 y m w W q3 hb2w q2 HI1'.out hyi hm).mono (by
                  rintro e w' ⟨A', c', rfl, p1, p2, p3, _⟩
                  rw [hsl1] at p1; rw [hsl2] at p2
                  exact ⟨A', c', rfl, p1, ints_only q5 p3 q4, q1.only p3 hne1 hne2, p2, p3.below q3 hb2w q3.size⟩))
                have C5 : Hid (∀ W A' c' g, IntsAt W (some ⟨g, 0, none⟩) sl → IntsAt W A' sl → Calls Try.prog 13 #[.slice (some ⟨g, 0, none⟩) m m, .slice A' m c'] W fun e w' => e = .returned (.bool true) ∧ Drew W w') := Lib.hid (fun W A' c' g q1 q2 => numbers_at q1 q2 HSL.out HSL.out (by omega) true (by simp))
                have HYC := Lib.hid (fun (W : World) (hW : Below w.heap.size w W) => (hW.cell (cell_lt HCO.out)).trans HCO.out)
                clear hsl hsl1 hsl2 hm
                go_upto_region 17 with fail
                go_region_held3 (fun w' => w'.cell? ⟨bo, ob + i, none⟩ = some (.int .i64 y)) (go_keep) (first | (go_at_call 14; (with_reducible refine (C3.out _ HD6.out.drew1).mono ?_); rintro e w7 ⟨g7, rfl, hg7, hi7, hp7, hr7, hb7⟩; have hc7 := HYC.out w7 hb7; have HG7 := Lib.hid hg7; have HI7 := Lib.hid hi7; have HP7 := Lib.hid hp7; have HR7 := Lib.hid hr7; have HB7 := Lib.hid hb7; clear hg7 hi7 hp7 hr7 hb7) | (go_at_call 15; (with_reducible refine (C4.out _ g7 HP7.out HR7.out HB7.out HG7.out HI7.out).mono ?_); rintro e w8 ⟨A9, c9, rfl, hi8, hi8', hd8⟩; have hc8 := HYC.out w8 hd8.bl; have HI8 := Lib.hid hi8; have HI8' := Lib.hid hi8'; have HD8 := Lib.hid hd8; clear hi8 hi8' hd8) | (go_at_call 13; (with_reducible refine (C5.out _ A9 c9 g7 HI8'.out HI8.out).mono ?_); rintro e w9 ⟨rfl, hd9⟩; have HD9 := Lib.hid (HD8.out.drew hd9); have hc9 := HYC.out w9 HD9.out.bl; clear hd9))
                go_upto_region 20 with fail
                clear hyc hc7 hc8 hc9
                obtain ⟨AE, nE, cE, hE1, hE2, _⟩ := HD9.out.rk
                have hcE : w9.cell? ⟨b2, 0, none⟩ = some (.slice AE nE cE) := by unfold World.cell?; rw [hE1]; simp
                have HCL : Hid (∀ W, Duo w b1 k1 b2 rest2 W → Calls Try.prog 16 #[.pointer (some ⟨b1, 0, none⟩)] W fun e w' => e = .returned (.int .i64 nE) ∧ W = w') := Lib.hid (fun W hW => left_at hW.pk hE2)
                have hnn : ((nE : Int) != nE) = false := bne_self_eq_false _
                have hnn2 : (nE != nE) = false := bne_self_eq_false _
                clear hE1 hE2
                go_region_held3 (fun w' => w'.cell? ⟨b2, 0, none⟩ = some (.slice AE nE cE)) (go_keep) (first | (go_at_call 16; (with_reducible refine (HCL.out _ HD9.out.drew1).mono ?_); rintro e w20 ⟨rfl, rfl⟩))
                go_wp2_with fail
                go_roundw
                case rel => exact ⟨i + 1, rest2, by omega, by go_num, HD9.out.drew1, HI2'.out⟩
                case measure => simp [intOf]; omega
              · have h50d : decide (y < 50) = false := decide_eq_false h50
                go_upto_region 20 with fail
                clear hyc
                obtain ⟨AE, nE, cE, hE1, hE2, _⟩ := HD6.out.rk
                have hcE : w6.cell? ⟨b2, 0, none⟩ = some (.slice AE nE cE) := by unfold World.cell?; rw [hE1]; simp
                have HCL : Hid (∀ W, Duo w b1 k1 b2 rest1 W → Calls Try.prog 16 #[.pointer (some ⟨b1, 0, none⟩)] W fun e w' => e = .returned (.int .i64 nE) ∧ W = w') := Lib.hid (fun W hW => left_at hW.pk hE2)
                have hnn : ((nE : Int) != nE) = false := bne_self_eq_false _
                have hnn2 : (nE != nE) = false := bne_self_eq_false _
                clear hE1 hE2
                go_region_held3 (fun w' => w'.cell? ⟨b2, 0, none⟩ = some (.slice AE nE cE)) (go_keep) (first | (go_at_call 16; (with_reducible refine (HCL.out _ HD6.out.drew1).mono ?_); rintro e w20 ⟨rfl, rfl⟩))
                go_wp2_with fail
                go_roundw
                case rel => exact ⟨i + 1, rest1, by omega, by go_num, HD6.out.drew1, HI1'.out⟩
                case measure => simp [intOf]; omega
            · have hlt2' : ¬ (i : Int) < n2 := by omega
              have hlt2d : decide ((i : Int) < n2) = false := decide_eq_false hlt2'
              go_upto_region 20 with fail
              obtain ⟨AE, nE, cE, hE1, hE2, _⟩ := HD6.out.rk
              have hcE : w6.cell? ⟨b2, 0, none⟩ = some (.slice AE nE cE) := by unfold World.cell?; rw [hE1]; simp
              have HCL : Hid (∀ W, Duo w b1 k1 b2 rest1 W → Calls Try.prog 16 #[.pointer (some ⟨b1, 0, none⟩)] W fun e w' => e = .returned (.int .i64 nE) ∧ W = w') := Lib.hid (fun W hW => left_at hW.pk hE2)
              have hnn : ((nE : Int) != nE) = false := bne_self_eq_false _
              have hnn2 : (nE != nE) = false := bne_self_eq_false _
              clear hE1 hE2
              go_region_held3 (fun w' => w'.cell? ⟨b2, 0, none⟩ = some (.slice AE nE cE)) (go_keep) (first | (go_at_call 16; (with_reducible refine (HCL.out _ HD6.out.drew1).mono ?_); rintro e w20 ⟨rfl, rfl⟩))
              go_wp2_with fail
              go_roundw
              case rel => exact ⟨i + 1, rest1, by omega, by go_num, HD6.out.drew1, HI1'.out⟩
              case measure => simp [intOf]; omega
          · have hlt1' : ¬ (i : Int) < n1 := by omega
            have hlt1d : decide ((i : Int) < n1) = false := decide_eq_false hlt1'
            have hlt1n : decide (i < n1) = false := decide_eq_false hlt1
            go_quiet (fail)
            generalize hw6 : World.drewN wr _ = w6
            have HD6 : Hid (Duo w b1 k1 b2 rest w6) := HD.out.drew ⟨_, hw6.symm⟩
            have HI1' := HI
            obtain ⟨rest1, hrr⟩ : ∃ r, r = rest := ⟨_, rfl⟩
            rw [← hrr] at HD6 HI1'
            clear hw6 hrr
            go_upto_region 16 with fail
            clear HD HI
            try clear hcell
            have hcases2 : (i < n2) ∨ ¬ (i < n2) := Classical.em _
            rcases hcases2 with hlt2 | hlt2
            · obtain ⟨bo, ob, hA2, hce0⟩ := HI2.out.at i (by rw [HL2.out]; exact hlt2)
              subst hA2
              obtain ⟨y, hy⟩ : ∃ y, y = os.getD i 0 := ⟨_, rfl⟩
              have hyi : In64 y := hy ▸ in_getD HN2.out (by rw [HL2.out]; exact hlt2)
              rw [← hy] at hce0
              have HCO := Lib.hid hce0
              clear hy hce0
              have hyc : w6.cell? ⟨bo, ob + i, none⟩ = some (.int .i64 y) := (HD6.out.bl.cell (cell_lt HCO.out)).trans HCO.out
              have hlt2' : (i : Int) < n2 := by omega
              have hlt2d : decide ((i : Int) < n2) = true := decide_eq_true hlt2'
              by_cases h50 : y < 50
              · have h50d : decide (y < 50) = true := decide_eq_true h50
                obtain ⟨m, hm⟩ : ∃ m, (max 0 (min y 1000)).toNat = m := ⟨_, rfl⟩
                obtain ⟨sl, rest2, hsl⟩ : ∃ sl rest2, shufGo m rest1 ((List.range m).map Int.ofNat) = (sl, rest2) := ⟨_, _, rfl⟩
                have hsl1 : (shufGo m rest1 ((List.range m).map Int.ofNat)).1 = sl := by rw [hsl]
                have hsl2 : (shufGo m rest1 ((List.range m).map Int.ofNat)).2 = rest2 := by rw [hsl]
                have HSL : Hid (sl.length = m) := by rw [← hsl1]; exact shufGo_len _ _ _
                have HI2' : Hid (∀ x ∈ rest2, In64 x) := by rw [← hsl2]; exact shufGo_in _ _ _ HI1'.out
                have hm50 : m ≤ 1000 := by omega
                have C3 : Hid (∀ W, Duo w b1 k1 b2 rest1 W → Calls Try.prog 14 #[.pointer (some ⟨b1, 0, none⟩), .int .i64 y] W fun e w' => ∃ g, e = .returned (.slice (some ⟨g, 0, none⟩) m m) ∧ g ≠ b2 ∧ IntsAt w' (some ⟨g, 0, none⟩) sl ∧ PkAt w' b1 k1 rest2 ∧ RAt w w' b2 rest1 ∧ Below w.heap.size w w') := Lib.hid (fun W hW => (shuffle_any b1 k1 rest1 y m W hW.pk HI1'.out hm).mono (by
                  rintro e w' ⟨rfl, q1, q2, q3⟩
                  rw [hsl1] at q1; rw [hsl2] at q2
                  exact ⟨_, rfl, by have := hW.rk.lt; omega, ints_lit _ _ _ _ q1, q2, hW.rk.only q3 (Ne.symm hne2), q3.below hW.bl hk1w hW.bl.size⟩))
                have C4 : Hid (∀ W g, PkAt W b1 k1 rest2 → RAt w W b2 rest1 → Below w.heap.size w W → g ≠ b2 → IntsAt W (some ⟨g, 0, none⟩) sl → Calls Try.prog 15 #[.pointer (some ⟨b2, 0, none⟩), .int .i64 y] W fun e w' => ∃ A' c', e = .returned (.slice A' m c') ∧ IntsAt w' A' sl ∧ IntsAt w' (some ⟨g, 0, none⟩) sl ∧ Duo w b1 k1 b2 rest2 w') := Lib.hid (fun W g q1 q2 q3 q4 q5 => (rshuffle_any b2 rest1 y m w W q3 hb2w q2 HI1'.out hyi hm).mono (by
                  rintro e w' ⟨A', c', rfl, p1, p2, p3, _⟩
                  rw [hsl1] at p1; rw [hsl2] at p2
                  exact ⟨A', c', rfl, p1, ints_only q5 p3 q4, q1.only p3 hne1 hne2, p2, p3.below q3 hb2w q3.size⟩))
                have C5 : Hid (∀ W A' c' g, IntsAt W (some ⟨g, 0, none⟩) sl → IntsAt W A' sl → Calls Try.prog 13 #[.slice (some ⟨g, 0, none⟩) m m, .slice A' m c'] W fun e w' => e = .returned (.bool true) ∧ Drew W w') := Lib.hid (fun W A' c' g q1 q2 => numbers_at q1 q2 HSL.out HSL.out (by omega) true (by simp))
                have HYC := Lib.hid (fun (W : World) (hW : Below w.heap.size w W) => (hW.cell (cell_lt HCO.out)).trans HCO.out)
                clear hsl hsl1 hsl2 hm
                go_upto_region 17 with fail
                go_region_held3 (fun w' => w'.cell? ⟨bo, ob + i, none⟩ = some (.int .i64 y)) (go_keep) (first | (go_at_call 14; (with_reducible refine (C3.out _ HD6.out.drew1).mono ?_); rintro e w7 ⟨g7, rfl, hg7, hi7, hp7, hr7, hb7⟩; have hc7 := HYC.out w7 hb7; have HG7 := Lib.hid hg7; have HI7 := Lib.hid hi7; have HP7 := Lib.hid hp7; have HR7 := Lib.hid hr7; have HB7 := Lib.hid hb7; clear hg7 hi7 hp7 hr7 hb7) | (go_at_call 15; (with_reducible refine (C4.out _ g7 HP7.out HR7.out HB7.out HG7.out HI7.out).mono ?_); rintro e w8 ⟨A9, c9, rfl, hi8, hi8', hd8⟩; have hc8 := HYC.out w8 hd8.bl; have HI8 := Lib.hid hi8; have HI8' := Lib.hid hi8'; have HD8 := Lib.hid hd8; clear hi8 hi8' hd8) | (go_at_call 13; (with_reducible refine (C5.out _ A9 c9 g7 HI8'.out HI8.out).mono ?_); rintro e w9 ⟨rfl, hd9⟩; have HD9 := Lib.hid (HD8.out.drew hd9); have hc9 := HYC.out w9 HD9.out.bl; clear hd9))
                go_upto_region 20 with fail
                clear hyc hc7 hc8 hc9
                obtain ⟨AE, nE, cE, hE1, hE2, _⟩ := HD9.out.rk
                have hcE : w9.cell? ⟨b2, 0, none⟩ = some (.slice AE nE cE) := by unfold World.cell?; rw [hE1]; simp
                have HCL : Hid (∀ W, Duo w b1 k1 b2 rest2 W → Calls Try.prog 16 #[.pointer (some ⟨b1, 0, none⟩)] W fun e w' => e = .returned (.int .i64 nE) ∧ W = w') := Lib.hid (fun W hW => left_at hW.pk hE2)
                have hnn : ((nE : Int) != nE) = false := bne_self_eq_false _
                have hnn2 : (nE != nE) = false := bne_self_eq_false _
                clear hE1 hE2
                go_region_held3 (fun w' => w'.cell? ⟨b2, 0, none⟩ = some (.slice AE nE cE)) (go_keep) (first | (go_at_call 16; (with_reducible refine (HCL.out _ HD9.out.drew1).mono ?_); rintro e w20 ⟨rfl, rfl⟩))
                go_wp2_with fail
                go_roundw
                case rel => exact ⟨i + 1, rest2, by omega, by go_num, HD9.out.drew1, HI2'.out⟩
                case measure => simp [intOf]; omega
              · have h50d : decide (y < 50) = false := decide_eq_false h50
                go_upto_region 20 with fail
                clear hyc
                obtain ⟨AE, nE, cE, hE1, hE2, _⟩ := HD6.out.rk
                have hcE : w6.cell? ⟨b2, 0, none⟩ = some (.slice AE nE cE) := by unfold World.cell?; rw [hE1]; simp
                have HCL : Hid (∀ W, Duo w b1 k1 b2 rest1 W → Calls Try.prog 16 #[.pointer (some ⟨b1, 0, none⟩)] W fun e w' => e = .returned (.int .i64 nE) ∧ W = w') := Lib.hid (fun W hW => left_at hW.pk hE2)
                have hnn : ((nE : Int) != nE) = false := bne_self_eq_false _
                have hnn2 : (nE != nE) = false := bne_self_eq_false _
                clear hE1 hE2
                go_region_held3 (fun w' => w'.cell? ⟨b2, 0, none⟩ = some (.slice AE nE cE)) (go_keep) (first | (go_at_call 16; (with_reducible refine (HCL.out _ HD6.out.drew1).mono ?_); rintro e w20 ⟨rfl, rfl⟩))
                go_wp2_with fail
                go_roundw
                case rel => exact ⟨i + 1, rest1, by omega, by go_num, HD6.out.drew1, HI1'.out⟩
                case measure => simp [intOf]; omega
            · have hlt2' : ¬ (i : Int) < n2 := by omega
              have hlt2d : decide ((i : Int) < n2) = false := decide_eq_false hlt2'
              go_upto_region 20 with fail
              obtain ⟨AE, nE, cE, hE1, hE2, _⟩ := HD6.out.rk
              have hcE : w6.cell? ⟨b2, 0, none⟩ = some (.slice AE nE cE) := by unfold World.cell?; rw [hE1]; simp
              have HCL : Hid (∀ W, Duo w b1 k1 b2 rest1 W → Calls Try.prog 16 #[.pointer (some ⟨b1, 0, none⟩)] W fun e w' => e = .returned (.int .i64 nE) ∧ W = w') := Lib.hid (fun W hW => left_at hW.pk hE2)
              have hnn : ((nE : Int) != nE) = false := bne_self_eq_false _
              have hnn2 : (nE != nE) = false := bne_self_eq_false _
              clear hE1 hE2
              go_region_held3 (fun w' => w'.cell? ⟨b2, 0, none⟩ = some (.slice AE nE cE)) (go_keep) (first | (go_at_call 16; (with_reducible refine (HCL.out _ HD6.out.drew1).mono ?_); rintro e w20 ⟨rfl, rfl⟩))
              go_wp2_with fail
              go_roundw
              case rel => exact ⟨i + 1, rest1, by omega, by go_num, HD6.out.drew1, HI1'.out⟩
              case measure => simp [intOf]; omega
        · go_wp2_with fail
          go_ret
          exact ⟨rfl, HD.out.bl⟩
end Go.Proofs.Ytniapbinamnmpaa
