-- Printed by gprint.py, a program of this session, with the kit's print.py. Not trusted: Lean checks it.
import Derived.Test.YtniapbinamnmpaaDoorLx0
import Derived.Test.YtniapbinamnmpaaDoorLx1
import Derived.Test.YtniapbinamnmpaaDoorLx9
import Derived.Test.YtniapbinamnmpaaDoorLh
namespace Go.Proofs.YtniapbinamnmpaaDoor.L
open Go.RowKit Go.Proofs.YtniapbinamnmpaaDoorW.PrintWords Go.Proofs.YtniapbinamnmpaaDoorW.PrintLast Go.Proofs.YtniapbinamnmpaaDoorW.PrintMore
attribute [local go_sem] max2_int min2_int max_two min_two max_three min_three max_four min_four   -- for this text's walks alone
set_option linter.unusedVariables false
set_option linter.unusedSimpArgs false

attribute [local go_sem high] eqA32
/-! ### weathercocklaw07_LexBlanks: function 5 -/
mutual
def weathercocklaw07_LexBlanks.j0 : Nat → ByteArray → Int → Bool → Option (Bool)
  | 0, _, _, _ => none
  | k + 1, x0, x1, x5 => weathercocklaw07_LexBlanks.l0 k x0 (Int.tmod x1 50) x5 (⟨#[]⟩ : ByteArray) 0
def weathercocklaw07_LexBlanks.l0 : Nat → ByteArray → Int → Bool → ByteArray → Int → Option (Bool)
  | 0, _, _, _, _, _ => none
  | k + 1, x0, x1, x5, x6, x7 => if x7 < x1 then (if 0 ≤ (Int.tmod x7 2) then (if (Int.tmod x7 2) ≤ (wrap64 ((Int.tmod x7 2) + 1)) then (if (wrap64 ((Int.tmod x7 2) + 1)) ≤ 2 then (if x6.size + ((⟨#[32, 10]⟩ : ByteArray).extract ((Int.tmod x7 2) : Int).toNat ((wrap64 ((Int.tmod x7 2) + 1)) : Int).toNat).size ≤ 9223372036854775807 then (weathercocklaw07_LexBlanks.l0 k x0 x1 x5 (x6 ++ ((⟨#[32, 10]⟩ : ByteArray).extract ((Int.tmod x7 2) : Int).toNat ((wrap64 ((Int.tmod x7 2) + 1)) : Int).toNat)) (wrap64 (x7 + 1))) else (none)) else (none)) else (none)) else (none)) else ((lex_Lex.f x0).bind fun bt173 => (if x6.size + x0.size ≤ 9223372036854775807 then (if (x6 ++ x0).size + x6.size ≤ 9223372036854775807 then ((lex_Lex.f ((x6 ++ x0) ++ x6)).bind fun bt178 => (if (bt173.1.length : Int) = (bt178.1.length : Int) then (weathercocklaw07_LexBlanks.j2 k x0 x1 x5 bt173.1 bt173.2.1 bt173.2.2 bt178.1 bt178.2.2 (bt173.2.1 != bt178.2.1)) else (weathercocklaw07_LexBlanks.j2 k x0 x1 x5 bt173.1 bt173.2.1 bt173.2.2 bt178.1 bt178.2.2 true))) else (none)) else (none)))
def weathercocklaw07_LexBlanks.j2 : Nat → ByteArray → Int → Bool → List (S32) → Int → Int → List (S32) → Int → Bool → Option (Bool)
  | 0, _, _, _, _, _, _, _, _, _ => none
  | k + 1, x0, x1, x5, x8, x9, x10, x11, x13, x66 => if x66 = true then (some false) else (if x9 = 0 then (weathercocklaw07_LexBlanks.l1 k x1 x5 x8 x11 0) else (if x5 = true then (if x13 = (wrap64 (x10 + x1)) then (some true) else (if x10 = (x0.size : Int) then (some (x13 == (wrap64 ((x0.size : Int) + (wrap64 (2 * x1)))))) else (some false))) else (some false)))
def weathercocklaw07_LexBlanks.l1 : Nat → Int → Bool → List (S32) → List (S32) → Int → Option (Bool)
  | 0, _, _, _, _, _ => none
  | k + 1, x1, x5, x8, x11, x14 => if x14 < (x8.length : Int) then (if 0 ≤ x14 then (if x14 < (x11.length : Int) then (if (!(((rd_T32 x8 x14).f0) == ((rd_T32 x11 x14).f0)) || (!(((rd_T32 x8 x14).f1) == ((rd_T32 x11 x14).f1)) || (!((wrap64 (((rd_T32 x8 x14).f2) + x1)) == ((rd_T32 x11 x14).f2)) || (!((((rd_T32 x8 x14).f3).toList) == (((rd_T32 x11 x14).f3).toList)))))) = true then (some false) else (weathercocklaw07_LexBlanks.l1 k x1 x5 x8 x11 (wrap64 (x14 + 1)))) else (none)) else (none)) else (some x5)
end
def weathercocklaw07_LexBlanks.f (k : Nat) (a0 : ByteArray) (a1 : Int) : Option (Bool) := (weathercocklaw07_examples.f).bind fun t172 => (if (a0.size : Int) > 1900 then (some t172) else (if a1 < 0 then (weathercocklaw07_LexBlanks.j0 k a0 (wrap64 (-(wrap64 (a1 + 1)))) t172) else (weathercocklaw07_LexBlanks.j0 k a0 a1 t172)))
theorem weathercocklaw07_LexBlanks.mono_l : ∀ k, (∀ y0 y1 y2, LeO (weathercocklaw07_LexBlanks.j0 k y0 y1 y2) (weathercocklaw07_LexBlanks.j0 (k + 1) y0 y1 y2)) ∧ (∀ y0 y1 y2 y3 y4, LeO (weathercocklaw07_LexBlanks.l0 k y0 y1 y2 y3 y4) (weathercocklaw07_LexBlanks.l0 (k + 1) y0 y1 y2 y3 y4)) ∧ (∀ y0 y1 y2 y3 y4 y5 y6 y7 y8, LeO (weathercocklaw07_LexBlanks.j2 k y0 y1 y2 y3 y4 y5 y6 y7 y8) (weathercocklaw07_LexBlanks.j2 (k + 1) y0 y1 y2 y3 y4 y5 y6 y7 y8)) ∧ (∀ y0 y1 y2 y3 y4, LeO (weathercocklaw07_LexBlanks.l1 k y0 y1 y2 y3 y4) (weathercocklaw07_LexBlanks.l1 (k + 1) y0 y1 y2 y3 y4))
  | 0 => ⟨fun _ _ _ r h => by simp [weathercocklaw07_LexBlanks.j0] at h, fun _ _ _ _ _ r h => by simp [weathercocklaw07_LexBlanks.l0] at h, fun _ _ _ _ _ _ _ _ _ r h => by simp [weathercocklaw07_LexBlanks.j2] at h, fun _ _ _ _ _ r h => by simp [weathercocklaw07_LexBlanks.l1] at h⟩
  | k + 1 => by
    obtain ⟨ih0, ih1, ih2, ih3⟩ := weathercocklaw07_LexBlanks.mono_l k
    refine ⟨?_, ?_, ?_, ?_⟩
    · intro y0 y1 y2
      unfold weathercocklaw07_LexBlanks.j0
      repeat' first
      | (with_reducible exact ih0 _ _ _)
      | (with_reducible exact ih1 _ _ _ _ _)
      | (with_reducible exact ih2 _ _ _ _ _ _ _ _ _)
      | (with_reducible exact ih3 _ _ _ _ _)
      | (with_reducible exact LeO.refl _)
      | (with_reducible exact LeO.none _)
      | (with_reducible refine LeO.ite ?_ ?_)
      | (with_reducible refine LeO.bind ?_ (fun _ => ?_))
      | exact ih0 _ _ _
      | exact ih1 _ _ _ _ _
      | exact ih2 _ _ _ _ _ _ _ _ _
      | exact ih3 _ _ _ _ _
      | exact LeO.none _
      | refine LeO.ite ?_ ?_
      | refine LeO.bind ?_ (fun _ => ?_)
    · intro y0 y1 y2 y3 y4
      unfold weathercocklaw07_LexBlanks.l0
      repeat' first
      | (with_reducible exact ih0 _ _ _)
      | (with_reducible exact ih1 _ _ _ _ _)
      | (with_reducible exact ih2 _ _ _ _ _ _ _ _ _)
      | (with_reducible exact ih3 _ _ _ _ _)
      | (with_reducible exact LeO.refl _)
      | (with_reducible exact LeO.none _)
      | (with_reducible refine LeO.ite ?_ ?_)
      | (with_reducible refine LeO.bind ?_ (fun _ => ?_))
      | exact ih0 _ _ _
      | exact ih1 _ _ _ _ _
      | exact ih2 _ _ _ _ _ _ _ _ _
      | exact ih3 _ _ _ _ _
      | exact LeO.none _
      | refine LeO.ite ?_ ?_
      | refine LeO.bind ?_ (fun _ => ?_)
    · intro y0 y1 y2 y3 y4 y5 y6 y7 y8
      unfold weathercocklaw07_LexBlanks.j2
      repeat' first
      | (with_reducible exact ih0 _ _ _)
      | (with_reducible exact ih1 _ _ _ _ _)
      | (with_reducible exact ih2 _ _ _ _ _ _ _ _ _)
      | (with_reducible exact ih3 _ _ _ _ _)
      | (with_reducible exact LeO.refl _)
      | (with_reducible exact LeO.none _)
      | (with_reducible refine LeO.ite ?_ ?_)
      | (with_reducible refine LeO.bind ?_ (fun _ => ?_))
      | exact ih0 _ _ _
      | exact ih1 _ _ _ _ _
      | exact ih2 _ _ _ _ _ _ _ _ _
      | exact ih3 _ _ _ _ _
      | exact LeO.none _
      | refine LeO.ite ?_ ?_
      | refine LeO.bind ?_ (fun _ => ?_)
    · intro y0 y1 y2 y3 y4
      unfold weathercocklaw07_LexBlanks.l1
      repeat' first
      | (with_reducible exact ih0 _ _ _)
      | (with_reducible exact ih1 _ _ _ _ _)
      | (with_reducible exact ih2 _ _ _ _ _ _ _ _ _)
      | (with_reducible exact ih3 _ _ _ _ _)
      | (with_reducible exact LeO.refl _)
      | (with_reducible exact LeO.none _)
      | (with_reducible refine LeO.ite ?_ ?_)
      | (with_reducible refine LeO.bind ?_ (fun _ => ?_))
      | exact ih0 _ _ _
      | exact ih1 _ _ _ _ _
      | exact ih2 _ _ _ _ _ _ _ _ _
      | exact ih3 _ _ _ _ _
      | exact LeO.none _
      | refine LeO.ite ?_ ?_
      | refine LeO.bind ?_ (fun _ => ?_)
theorem weathercocklaw07_LexBlanks.mono : ∀ a0 a1 k, LeO (weathercocklaw07_LexBlanks.f k a0 a1) (weathercocklaw07_LexBlanks.f (k + 1) a0 a1) := by
  intro a0 a1 k
  obtain ⟨ih0, ih1, ih2, ih3⟩ := weathercocklaw07_LexBlanks.mono_l k
  unfold weathercocklaw07_LexBlanks.f
  repeat' first
      | (with_reducible exact ih0 _ _ _)
      | (with_reducible exact ih1 _ _ _ _ _)
      | (with_reducible exact ih2 _ _ _ _ _ _ _ _ _)
      | (with_reducible exact ih3 _ _ _ _ _)
      | (with_reducible exact LeO.refl _)
      | (with_reducible exact LeO.none _)
      | (with_reducible refine LeO.ite ?_ ?_)
      | (with_reducible refine LeO.bind ?_ (fun _ => ?_))
      | exact ih0 _ _ _
      | exact ih1 _ _ _ _ _
      | exact ih2 _ _ _ _ _ _ _ _ _
      | exact ih3 _ _ _ _ _
      | exact LeO.none _
      | refine LeO.ite ?_ ?_
      | refine LeO.bind ?_ (fun _ => ?_)
set_option maxHeartbeats 8000000 in
set_option maxRecDepth 100000 in
theorem weathercocklaw07_LexBlanks.calls (k : Nat) (a0 : ByteArray) (a1 : Int) (r : Bool) (w : World) (h : weathercocklaw07_LexBlanks.f k a0 a1 = some r) (hT : TabA w) :
    Calls Tryd.prog 5 #[.string a0, .int .i64 a1] w fun e w' => e = .returned (.bool r) ∧ Below w.heap.size w w' := by
  have HT := Aside0.mk hT
  clear hT
  have hu32 := Tryd.underlying32
  have HB := Aside0.mk (Below.refl w.heap.size w)
  have H : ((weathercocklaw07_examples.f).bind fun t172 => (if (a0.size : Int) > 1900 then (some t172) else (if a1 < 0 then (weathercocklaw07_LexBlanks.j0 k a0 (wrap64 (-(wrap64 (a1 + 1)))) t172) else (weathercocklaw07_LexBlanks.j0 k a0 a1 t172)))) = some r := h
  clear h
  replace H := Option.bind_eq_some_iff.mp H
  obtain ⟨t172, A30, H⟩ := H
  replace H : (if (a0.size : Int) > 1900 then (some t172) else (if a1 < 0 then (weathercocklaw07_LexBlanks.j0 k a0 (wrap64 (-(wrap64 (a1 + 1)))) t172) else (weathercocklaw07_LexBlanks.j0 k a0 a1 t172))) = some r := H
  have A3 := Aside0.mk A30
  clear A30
  by_cases c4 : (a0.size : Int) > 1900
  · rw [if_pos c4] at H
    have c4b0 : decide (1900 < (a0.size : Int)) = true := decide_eq_true c4
    have c4b1 : decide (1900 < a0.size) = true := decide_eq_true (by omega)
    clear c4
    obtain rfl := Option.some.inj H
    go_enter Tryd.func5, Tryd.ntmps5
    go_wp2_with (first | (go_at_call 9; (with_reducible refine (weathercocklaw07_examples.calls  t172 _ A3.out (tab_at HT.out (by repeat (first | (with_reducible first | exact HB.out | apply below_alloc | apply pw_below_drewN | apply below_drew1) | exact HB.out)))).mono ?_); rintro e w5 ⟨rfl, hb⟩; have n0_ := Aside0.mk (below_step (by repeat (first | (with_reducible first | exact HB.out | apply below_alloc | apply pw_below_drewN | apply below_drew1) | exact HB.out)) hb); clear HB; have HB := n0_; clear n0_; (try clear hb); (try clear hb2); (try clear hk); (try clear hi)))
    repeat (go_quiet (first | (go_at_call 9; (with_reducible refine (weathercocklaw07_examples.calls  t172 _ A3.out (tab_at HT.out (by repeat (first | (with_reducible first | exact HB.out | apply below_alloc | apply pw_below_drewN | apply below_drew1) | exact HB.out)))).mono ?_); rintro e w5 ⟨rfl, hb⟩; have n0_ := Aside0.mk (below_step (by repeat (first | (with_reducible first | exact HB.out | apply below_alloc | apply pw_below_drewN | apply below_drew1) | exact HB.out)) hb); clear HB; have HB := n0_; clear n0_; (try clear hb); (try clear hb2); (try clear hk); (try clear hi))); try go_wp2_with (first | (go_at_call 9; (with_reducible refine (weathercocklaw07_examples.calls  t172 _ A3.out (tab_at HT.out (by repeat (first | (with_reducible first | exact HB.out | apply below_alloc | apply pw_below_drewN | apply below_drew1) | exact HB.out)))).mono ?_); rintro e w5 ⟨rfl, hb⟩; have n0_ := Aside0.mk (below_step (by repeat (first | (with_reducible first | exact HB.out | apply below_alloc | apply pw_below_drewN | apply below_drew1) | exact HB.out)) hb); clear HB; have HB := n0_; clear n0_; (try clear hb); (try clear hb2); (try clear hk); (try clear hi))))
    go_ret
    exact ⟨by first | rfl | (simp [errW_none, errW_some] <;> rfl) | (simp [*, errW_none, errW_some] <;> rfl), by repeat (first | (with_reducible first | exact HB.out | apply below_alloc | apply pw_below_drewN | apply below_drew1) | exact HB.out)⟩
  · rw [if_neg c4] at H
    have c4b0 : decide (1900 < (a0.size : Int)) = false := decide_eq_false c4
    have c4b1 : decide (1900 < a0.size) = false := decide_eq_false (by omega)
    clear c4
    have HC6 := Aside0.mk H
    clear H
    go_enter Tryd.func5, Tryd.ntmps5
    go_upto_if 22 with (first | (go_at_call 9; (with_reducible refine (weathercocklaw07_examples.calls  t172 _ A3.out (tab_at HT.out (by repeat (first | (with_reducible first | exact HB.out | apply below_alloc | apply pw_below_drewN | apply below_drew1) | exact HB.out)))).mono ?_); rintro e w7 ⟨rfl, hb⟩; have n0_ := Aside0.mk (below_step (by repeat (first | (with_reducible first | exact HB.out | apply below_alloc | apply pw_below_drewN | apply below_drew1) | exact HB.out)) hb); clear HB; have HB := n0_; clear n0_; (try clear hb); (try clear hb2); (try clear hk); (try clear hi)))
    repeat (go_quiet (first | (go_at_call 9; (with_reducible refine (weathercocklaw07_examples.calls  t172 _ A3.out (tab_at HT.out (by repeat (first | (with_reducible first | exact HB.out | apply below_alloc | apply pw_below_drewN | apply below_drew1) | exact HB.out)))).mono ?_); rintro e w7 ⟨rfl, hb⟩; have n0_ := Aside0.mk (below_step (by repeat (first | (with_reducible first | exact HB.out | apply below_alloc | apply pw_below_drewN | apply below_drew1) | exact HB.out)) hb); clear HB; have HB := n0_; clear n0_; (try clear hb); (try clear hb2); (try clear hk); (try clear hi))); go_upto_if 22 with (first | (go_at_call 9; (with_reducible refine (weathercocklaw07_examples.calls  t172 _ A3.out (tab_at HT.out (by repeat (first | (with_reducible first | exact HB.out | apply below_alloc | apply pw_below_drewN | apply below_drew1) | exact HB.out)))).mono ?_); rintro e w7 ⟨rfl, hb⟩; have n0_ := Aside0.mk (below_step (by repeat (first | (with_reducible first | exact HB.out | apply below_alloc | apply pw_below_drewN | apply below_drew1) | exact HB.out)) hb); clear HB; have HB := n0_; clear n0_; (try clear hb); (try clear hb2); (try clear hk); (try clear hi))))
    (try simp only [Act.put, List.setIfInBounds_toArray, List.set_cons_zero, List.set_cons_succ])
    go_cut [1] (fun v1 wc => ∃ (kq : Nat) (x1_5 : Int), v1 = .int .i64 x1_5 ∧ Aside0 (weathercocklaw07_LexBlanks.j0 kq a0 x1_5 t172 = some r) ∧ Aside0 (kq ≤ k) ∧ Aside0 (Below w.heap.size w wc))
    case first =>
      have H := HC6.out
      clear HC6
      by_cases c8 : a1 < 0
      · rw [if_pos c8] at H
        have c8b0 : decide (a1 < 0) = true := decide_eq_true c8
        clear c8
        (first | rw [c8b0] | (simp only [i64_w, i32_w]; rw [c8b0]) | skip)
        have H' := Aside0.mk H
        clear H
        go_wp2
        repeat (go_quiet (fail); try go_wp2)
        go_meet
        case rel => exact ⟨_, (wrap64 (-(wrap64 (a1 + 1)))), (by first | rfl | (simp; done) | (simp [*]; done)), H', ⟨by first | omega | exact Nat.le_refl _⟩, ⟨by repeat (first | (with_reducible first | exact HB.out | apply below_alloc | apply pw_below_drewN | apply below_drew1) | exact HB.out)⟩⟩
      · rw [if_neg c8] at H
        have c8b0 : decide (a1 < 0) = false := decide_eq_false c8
        clear c8
        (first | rw [c8b0] | (simp only [i64_w, i32_w]; rw [c8b0]) | skip)
        have H' := Aside0.mk H
        clear H
        go_wp2
        repeat (go_quiet (fail); try go_wp2)
        go_meet
        case rel => exact ⟨_, (a1), (by first | rfl | (simp; done) | (simp [*]; done)), H', ⟨by first | omega | exact Nat.le_refl _⟩, ⟨by repeat (first | (with_reducible first | exact HB.out | apply below_alloc | apply pw_below_drewN | apply below_drew1) | exact HB.out)⟩⟩
    case rest =>
      clear HC6
      try clear p2
      try clear c4
      try clear c4b0
      try clear c4b1
      try clear c5
      try clear p6
      try clear c8
      try clear c8b0
      obtain ⟨kq, x1_5, rfl, HA, HJ5, HB⟩ := hcut
      cases kq with
      | zero => exact absurd HA.out (by simp [weathercocklaw07_LexBlanks.j0])
      | succ kj5 =>
        have H := HA.out
        clear HA
        simp only [weathercocklaw07_LexBlanks.j0] at H
        have H' := Aside0.mk H
        clear H
        go_wp2
        repeat (go_quiet (fail); try go_wp2)
        go_loopg [6, 7] kj5 (fun kq v6 v7 w' => ∃ (x6_2 : ByteArray) (x7_2 : Int), v6 = .string x6_2 ∧ v7 = .int .i64 x7_2 ∧ Aside0 (weathercocklaw07_LexBlanks.l0 kq a0 (Int.tmod x1_5 50) t172 x6_2 x7_2 = some r) ∧ Aside0 (kq ≤ kj5) ∧ Aside0 (Below w.heap.size w w'))
        case atStart => exact ⟨((⟨#[]⟩ : ByteArray)), (0), (by first | rfl | (simp; done) | (simp [*]; done)), (by first | rfl | (simp; done) | (simp [*]; done)), H', ⟨Nat.le_refl _⟩, ⟨by repeat (first | (with_reducible first | exact HB.out | apply below_alloc | apply pw_below_drewN | apply below_drew1) | exact HB.out)⟩⟩
        case round =>
          clear H'
          try clear p2
          try clear c4
          try clear c4b0
          try clear c4b1
          try clear c5
          try clear p6
          try clear c8
          try clear c8b0
          try clear p2
          try clear p6
          obtain ⟨x6_2, x7_2, rfl, rfl, HA, HK2, HB⟩ := hrel
          cases gk with
          | zero => exact absurd HA.out (by simp [weathercocklaw07_LexBlanks.l0])
          | succ k2 =>
            have H := HA.out
            clear HA
            simp only [weathercocklaw07_LexBlanks.l0] at H
            by_cases c9 : x7_2 < (Int.tmod x1_5 50)
            · rw [if_pos c9] at H
              have c9b0 : decide (x7_2 < (Int.tmod x1_5 50)) = true := decide_eq_true c9
              clear c9
              obtain ⟨ji10, hji10⟩ : ∃ j_ : Int, (Int.tmod x7_2 2) = j_ := ⟨_, rfl⟩
              replace H : (if 0 ≤ (ji10) then (if (ji10) ≤ (wrap64 ((ji10) + 1)) then (if (wrap64 ((ji10) + 1)) ≤ 2 then (if x6_2.size + ((⟨#[32, 10]⟩ : ByteArray).extract ((ji10) : Int).toNat ((wrap64 ((ji10) + 1)) : Int).toNat).size ≤ 9223372036854775807 then (weathercocklaw07_LexBlanks.l0 k2 a0 (Int.tmod x1_5 50) t172 (x6_2 ++ ((⟨#[32, 10]⟩ : ByteArray).extract ((ji10) : Int).toNat ((wrap64 ((ji10) + 1)) : Int).toNat)) (wrap64 (x7_2 + 1))) else (none)) else (none)) else (none)) else (none)) = some r := by first | (rw [hji10] at H; exact H) | (simp only [hji10] at H ⊢; exact H)
              by_cases c11 : 0 ≤ (ji10)
              · rw [if_pos c11] at H
                have c11b0 := eq_true c11
                have c11b1 : decide (0 ≤ (ji10)) = true := decide_eq_true c11
                clear c11
                by_cases c12 : (ji10) ≤ (wrap64 ((ji10) + 1))
                · rw [if_pos c12] at H
                  have c12b0 := eq_true c12
                  have c12b1 : decide ((ji10) ≤ (wrap64 ((ji10) + 1))) = true := decide_eq_true c12
                  by_cases c13 : (wrap64 ((ji10) + 1)) ≤ 2
                  · rw [if_pos c13] at H
                    have c13b0 := eq_true c13
                    have c13b1 : decide ((wrap64 ((ji10) + 1)) ≤ 2) = true := decide_eq_true c13
                    by_cases c14 : x6_2.size + ((⟨#[32, 10]⟩ : ByteArray).extract ((ji10) : Int).toNat ((wrap64 ((ji10) + 1)) : Int).toNat).size ≤ 9223372036854775807
                    · rw [if_pos c14] at H
                      have c14b0 := eq_true c14
                      have c14b1 : decide (x6_2.size + ((⟨#[32, 10]⟩ : ByteArray).extract ((ji10) : Int).toNat ((wrap64 ((ji10) + 1)) : Int).toNat).size ≤ 9223372036854775807) = true := decide_eq_true c14
                      try have c14b2 : (9223372036854775807 < x6_2.size + ((⟨#[32, 10]⟩ : ByteArray).extract ((ji10) : Int).toNat ((wrap64 ((ji10) + 1)) : Int).toNat).size) = False := eq_false (Nat.not_lt.2 c14)
                      have H' := Aside0.mk H
                      clear H
                      go_wp2
                      repeat (go_quiet (fail); try go_wp2)
                      go_roundg k2
                      case measure => have := HJ5.out; have := HK2.out; omega
                      case rel => exact ⟨(x6_2 ++ ((⟨#[32, 10]⟩ : ByteArray).extract ((ji10) : Int).toNat ((wrap64 ((ji10) + 1)) : Int).toNat)), (wrap64 (x7_2 + 1)), (by first | rfl | (simp; done) | (simp only [← hji10] <;> (first | rfl | simp)) | (simp [*]; done)), (by first | rfl | (simp; done) | (simp [*]; done)), H', ⟨by have := HJ5.out; have := HK2.out; omega⟩, ⟨by repeat (first | (with_reducible first | exact HB.out | apply below_alloc | apply pw_below_drewN | apply below_drew1) | exact HB.out)⟩⟩
                    · rw [if_neg c14] at H
                      exact absurd H (by simp)
                  · rw [if_neg c13] at H
                    exact absurd H (by simp)
                · rw [if_neg c12] at H
                  exact absurd H (by simp)
              · rw [if_neg c11] at H
                exact absurd H (by simp)
            · rw [if_neg c9] at H
              have c9b0 : decide (x7_2 < (Int.tmod x1_5 50)) = false := decide_eq_false c9
              clear c9
              replace H := Option.bind_eq_some_iff.mp H
              obtain ⟨⟨t173, t174, t175⟩, A150, H⟩ := H
              replace H : (if x6_2.size + a0.size ≤ 9223372036854775807 then (if (x6_2 ++ a0).size + x6_2.size ≤ 9223372036854775807 then ((lex_Lex.f ((x6_2 ++ a0) ++ x6_2)).bind fun bt178 => (if (t173.length : Int) = (bt178.1.length : Int) then (weathercocklaw07_LexBlanks.j2 k2 a0 (Int.tmod x1_5 50) t172 t173 t174 t175 bt178.1 bt178.2.2 (t174 != bt178.2.1)) else (weathercocklaw07_LexBlanks.j2 k2 a0 (Int.tmod x1_5 50) t172 t173 t174 t175 bt178.1 bt178.2.2 true))) else (none)) else (none)) = some r := H
              have A15 := Aside0.mk A150
              clear A150
              by_cases c16 : x6_2.size + a0.size ≤ 9223372036854775807
              · rw [if_pos c16] at H
                have c16b0 := eq_true c16
                have c16b1 : decide (x6_2.size + a0.size ≤ 9223372036854775807) = true := decide_eq_true c16
                try have c16b2 : (9223372036854775807 < x6_2.size + a0.size) = False := eq_false (Nat.not_lt.2 c16)
                by_cases c17 : (x6_2 ++ a0).size + x6_2.size ≤ 9223372036854775807
                · rw [if_pos c17] at H
                  have c17b0 := eq_true c17
                  have c17b1 : decide ((x6_2 ++ a0).size + x6_2.size ≤ 9223372036854775807) = true := decide_eq_true c17
                  try have c17b2 : (9223372036854775807 < (x6_2 ++ a0).size + x6_2.size) = False := eq_false (Nat.not_lt.2 c17)
                  try (have c17b3 := c17b2; simp only [ByteArray.size_append] at c17b3)
                  try (have c17b4 := c17b0; simp only [ByteArray.size_append] at c17b4)
                  replace H := Option.bind_eq_some_iff.mp H
                  obtain ⟨⟨t178, t179, t180⟩, A180, H⟩ := H
                  replace H : (if (t173.length : Int) = (t178.length : Int) then (weathercocklaw07_LexBlanks.j2 k2 a0 (Int.tmod x1_5 50) t172 t173 t174 t175 t178 t180 (t174 != t179)) else (weathercocklaw07_LexBlanks.j2 k2 a0 (Int.tmod x1_5 50) t172 t173 t174 t175 t178 t180 true)) = some r := H
                  have A18 := Aside0.mk A180
                  clear A180
                  have HC19 := Aside0.mk H
                  clear H
                  go_upto_region 14 with (first | (go_at_call 11; (with_reducible refine (lex_Lex.calls a0 t173 t174 t175 _ A15.out (tab_at HT.out (by repeat (first | (with_reducible first | exact HB.out | apply below_alloc | apply pw_below_drewN | apply below_drew1) | exact HB.out)))).mono ?_); rintro e w20 ⟨v176, rfl, ho0, hb⟩; have n0_ := Aside0.mk (Kd.R_lower ho0 (below_size (by repeat (first | (with_reducible first | exact HB.out | apply below_alloc | apply pw_below_drewN | apply below_drew1) | exact HB.out)))); have n1_ := Aside0.mk (below_step (by repeat (first | (with_reducible first | exact HB.out | apply below_alloc | apply pw_below_drewN | apply below_drew1) | exact HB.out)) hb); clear HB; have HO177 := n0_; have HB := n1_; clear n0_ n1_; (try clear hb); (try clear hb2); (try clear hk); (try clear hi); (try clear ho0)) | (go_at_call 11; (with_reducible refine (lex_Lex.calls ((x6_2 ++ a0) ++ x6_2) t178 t179 t180 _ A18.out (tab_at HT.out (by repeat (first | (with_reducible first | exact HB.out | apply below_alloc | apply pw_below_drewN | apply below_drew1) | exact HB.out)))).mono ?_); rintro e w21 ⟨v181, rfl, ho0, hb⟩; have n0_ := Aside0.mk (Kd.R_elder' (by (with_reducible repeat (first | apply Kd.R_alloc | apply Kd.R_drewN | apply Kd.R_drew)); exact HO177.out) (Kd.R_base ho0) hb); have n1_ := Aside0.mk (Kd.R_lower (Kd.R_new' ho0 (Kd.R_lt (by (with_reducible repeat (first | apply Kd.R_alloc | apply Kd.R_drewN | apply Kd.R_drew)); exact HO177.out))) (below_size (by repeat (first | (with_reducible first | exact HB.out | apply below_alloc | apply pw_below_drewN | apply below_drew1) | exact HB.out)))); have n2_ := Aside0.mk (below_step (by repeat (first | (with_reducible first | exact HB.out | apply below_alloc | apply pw_below_drewN | apply below_drew1) | exact HB.out)) hb); clear HO177; clear HB; have HO177 := n0_; have HO182 := n1_; have HB := n2_; clear n0_ n1_ n2_; (try clear hb); (try clear hb2); (try clear hk); (try clear hi); (try clear ho0)))
                  repeat (go_quiet (first | (go_at_call 11; (with_reducible refine (lex_Lex.calls a0 t173 t174 t175 _ A15.out (tab_at HT.out (by repeat (first | (with_reducible first | exact HB.out | apply below_alloc | apply pw_below_drewN | apply below_drew1) | exact HB.out)))).mono ?_); rintro e w20 ⟨v176, rfl, ho0, hb⟩; have n0_ := Aside0.mk (Kd.R_lower ho0 (below_size (by repeat (first | (with_reducible first | exact HB.out | apply below_alloc | apply pw_below_drewN | apply below_drew1) | exact HB.out)))); have n1_ := Aside0.mk (below_step (by repeat (first | (with_reducible first | exact HB.out | apply below_alloc | apply pw_below_drewN | apply below_drew1) | exact HB.out)) hb); clear HB; have HO177 := n0_; have HB := n1_; clear n0_ n1_; (try clear hb); (try clear hb2); (try clear hk); (try clear hi); (try clear ho0)) | (go_at_call 11; (with_reducible refine (lex_Lex.calls ((x6_2 ++ a0) ++ x6_2) t178 t179 t180 _ A18.out (tab_at HT.out (by repeat (first | (with_reducible first | exact HB.out | apply below_alloc | apply pw_below_drewN | apply below_drew1) | exact HB.out)))).mono ?_); rintro e w21 ⟨v181, rfl, ho0, hb⟩; have n0_ := Aside0.mk (Kd.R_elder' (by (with_reducible repeat (first | apply Kd.R_alloc | apply Kd.R_drewN | apply Kd.R_drew)); exact HO177.out) (Kd.R_base ho0) hb); have n1_ := Aside0.mk (Kd.R_lower (Kd.R_new' ho0 (Kd.R_lt (by (with_reducible repeat (first | apply Kd.R_alloc | apply Kd.R_drewN | apply Kd.R_drew)); exact HO177.out))) (below_size (by repeat (first | (with_reducible first | exact HB.out | apply below_alloc | apply pw_below_drewN | apply below_drew1) | exact HB.out)))); have n2_ := Aside0.mk (below_step (by repeat (first | (with_reducible first | exact HB.out | apply below_alloc | apply pw_below_drewN | apply below_drew1) | exact HB.out)) hb); clear HO177; clear HB; have HO177 := n0_; have HO182 := n1_; have HB := n2_; clear n0_ n1_ n2_; (try clear hb); (try clear hb2); (try clear hk); (try clear hi); (try clear ho0))); go_upto_region 14 with (first | (go_at_call 11; (with_reducible refine (lex_Lex.calls a0 t173 t174 t175 _ A15.out (tab_at HT.out (by repeat (first | (with_reducible first | exact HB.out | apply below_alloc | apply pw_below_drewN | apply below_drew1) | exact HB.out)))).mono ?_); rintro e w20 ⟨v176, rfl, ho0, hb⟩; have n0_ := Aside0.mk (Kd.R_lower ho0 (below_size (by repeat (first | (with_reducible first | exact HB.out | apply below_alloc | apply pw_below_drewN | apply below_drew1) | exact HB.out)))); have n1_ := Aside0.mk (below_step (by repeat (first | (with_reducible first | exact HB.out | apply below_alloc | apply pw_below_drewN | apply below_drew1) | exact HB.out)) hb); clear HB; have HO177 := n0_; have HB := n1_; clear n0_ n1_; (try clear hb); (try clear hb2); (try clear hk); (try clear hi); (try clear ho0)) | (go_at_call 11; (with_reducible refine (lex_Lex.calls ((x6_2 ++ a0) ++ x6_2) t178 t179 t180 _ A18.out (tab_at HT.out (by repeat (first | (with_reducible first | exact HB.out | apply below_alloc | apply pw_below_drewN | apply below_drew1) | exact HB.out)))).mono ?_); rintro e w21 ⟨v181, rfl, ho0, hb⟩; have n0_ := Aside0.mk (Kd.R_elder' (by (with_reducible repeat (first | apply Kd.R_alloc | apply Kd.R_drewN | apply Kd.R_drew)); exact HO177.out) (Kd.R_base ho0) hb); have n1_ := Aside0.mk (Kd.R_lower (Kd.R_new' ho0 (Kd.R_lt (by (with_reducible repeat (first | apply Kd.R_alloc | apply Kd.R_drewN | apply Kd.R_drew)); exact HO177.out))) (below_size (by repeat (first | (with_reducible first | exact HB.out | apply below_alloc | apply pw_below_drewN | apply below_drew1) | exact HB.out)))); have n2_ := Aside0.mk (below_step (by repeat (first | (with_reducible first | exact HB.out | apply below_alloc | apply pw_below_drewN | apply below_drew1) | exact HB.out)) hb); clear HO177; clear HB; have HO177 := n0_; have HO182 := n1_; have HB := n2_; clear n0_ n1_ n2_; (try clear hb); (try clear hb2); (try clear hk); (try clear hi); (try clear ho0))))
                  (try simp only [Act.put, List.setIfInBounds_toArray, List.set_cons_zero, List.set_cons_succ])
                  go_cut [66] (fun v66 wc => ∃ (kq : Nat) (x66_18 : Bool), v66 = .bool x66_18 ∧ Aside0 (weathercocklaw07_LexBlanks.j2 kq a0 (Int.tmod x1_5 50) t172 t173 t174 t175 t178 t180 x66_18 = some r) ∧ Aside0 (kq ≤ k2) ∧ Aside0 (Kd.R k32 32 wc w.heap.size (fun k_ => some k_ ≠ (v181 : Value).ownBlock) v176 t173) ∧ Aside0 (Kd.R k32 32 wc w.heap.size (fun k_ => some k_ ≠ (v176 : Value).ownBlock) v181 t178) ∧ Aside0 (Below w.heap.size w wc))
                  case first =>
                    have H := HC19.out
                    clear HC19
                    by_cases c22 : (t173.length : Int) = (t178.length : Int)
                    · rw [if_pos c22] at H
                      have c22b0 : ((t173.length : Int) == (t178.length : Int)) = true := beq_iff_eq.mpr c22
                      have c22b1 : ((t173.length : Int) != (t178.length : Int)) = false := bne_eq_false_iff_eq.mpr c22
                      have c22b2 : (t173.length == t178.length) = true := by first | simpa using c22 | (simp at c22 ⊢; omega)
                      clear c22
                      (first | rw [c22b0] | (simp only [i64_w, i32_w]; rw [c22b0]) | skip)
                      have H' := Aside0.mk H
                      clear H
                      obtain ⟨Ao23, co23, eo23⟩ := Kd.R_slice HO177.out
                      subst eo23
                      obtain ⟨Ao24, co24, eo24⟩ := Kd.R_slice HO182.out
                      subst eo24
                      go_wp2
                      repeat (go_quiet (fail); try go_wp2)
                      go_meet
                      case rel => exact ⟨_, ((t174 != t179)), (by first | rfl | (simp; done) | (simp [*]; done)), H', ⟨by have := HJ5.out; have := HK2.out; first | omega | exact Nat.le_refl _⟩, ⟨by (with_reducible repeat (first | apply Kd.R_alloc | apply Kd.R_drewN | apply Kd.R_drew)); exact Kd.R_mono HO177.out (fun _ hk => hk.2)⟩, ⟨by (with_reducible repeat (first | apply Kd.R_alloc | apply Kd.R_drewN | apply Kd.R_drew)); exact Kd.R_mono HO182.out (fun _ hk => hk.2)⟩, ⟨by repeat (first | (with_reducible first | exact HB.out | apply below_alloc | apply pw_below_drewN | apply below_drew1) | exact HB.out)⟩⟩
                    · rw [if_neg c22] at H
                      have c22b0 : ((t173.length : Int) == (t178.length : Int)) = false := beq_eq_false_iff_ne.mpr c22
                      have c22b1 : ((t173.length : Int) != (t178.length : Int)) = true := bne_iff_ne.mpr c22
                      have c22b2 : (t173.length == t178.length) = false := by first | simpa using c22 | (simp at c22 ⊢; omega)
                      (first | rw [c22b0] | (simp only [i64_w, i32_w]; rw [c22b0]) | skip)
                      have H' := Aside0.mk H
                      clear H
                      obtain ⟨Ao25, co25, eo25⟩ := Kd.R_slice HO177.out
                      subst eo25
                      obtain ⟨Ao26, co26, eo26⟩ := Kd.R_slice HO182.out
                      subst eo26
                      go_wp2
                      repeat (go_quiet (fail); try go_wp2)
                      go_meet
                      case rel => exact ⟨_, (true), (by first | rfl | (simp; done) | (simp [*]; done)), H', ⟨by have := HJ5.out; have := HK2.out; first | omega | exact Nat.le_refl _⟩, ⟨by (with_reducible repeat (first | apply Kd.R_alloc | apply Kd.R_drewN | apply Kd.R_drew)); exact Kd.R_mono HO177.out (fun _ hk => hk.2)⟩, ⟨by (with_reducible repeat (first | apply Kd.R_alloc | apply Kd.R_drewN | apply Kd.R_drew)); exact Kd.R_mono HO182.out (fun _ hk => hk.2)⟩, ⟨by repeat (first | (with_reducible first | exact HB.out | apply below_alloc | apply pw_below_drewN | apply below_drew1) | exact HB.out)⟩⟩
                  case rest =>
                    clear HC19
                    try clear c1
                    try clear c2
                    try clear p2
                    try clear c4
                    try clear c4b0
                    try clear c4b1
                    try clear c5
                    try clear p6
                    try clear c8
                    try clear c8b0
                    try clear c9
                    try clear c9b0
                    try clear c11
                    try clear c11b0
                    try clear c11b1
                    try clear c12
                    try clear c12b0
                    try clear c12b1
                    try clear c13
                    try clear c13b0
                    try clear c13b1
                    try clear c14
                    try clear c14b0
                    try clear c14b1
                    try clear c14b2
                    try clear c16
                    try clear c16b0
                    try clear c16b1
                    try clear c16b2
                    try clear c17
                    try clear c17b0
                    try clear c17b1
                    try clear c17b2
                    try clear c22
                    try clear c22b0
                    try clear c22b1
                    try clear c22b2
                    try clear p2
                    try clear p6
                    obtain ⟨kq, x66_18, rfl, HA, HJ18, HO_8, HO_11, HB⟩ := hcut
                    cases kq with
                    | zero => exact absurd HA.out (by simp [weathercocklaw07_LexBlanks.j2])
                    | succ kj18 =>
                      have H := HA.out
                      clear HA
                      simp only [weathercocklaw07_LexBlanks.j2] at H
                      by_cases c27 : x66_18 = true
                      · subst c27
                        have H1 : (some false) = some r := by rw [if_pos rfl] at H; exact H
                        clear H
                        have H := H1
                        clear H1
                        obtain rfl := Option.some.inj H
                        go_wp2
                        repeat (go_quiet (fail); try go_wp2)
                        go_ret
                        exact ⟨by first | rfl | (simp [errW_none, errW_some] <;> rfl) | (simp [*, errW_none, errW_some] <;> rfl), by repeat (first | (with_reducible first | exact HB.out | apply below_alloc | apply pw_below_drewN | apply below_drew1) | exact HB.out)⟩
                      · replace c27 := Bool.eq_false_iff.mpr c27
                        subst c27
                        have H1 : (if t174 = 0 then (weathercocklaw07_LexBlanks.l1 kj18 (Int.tmod x1_5 50) t172 t173 t178 0) else (if t172 = true then (if t180 = (wrap64 (t175 + (Int.tmod x1_5 50))) then (some true) else (if t175 = (a0.size : Int) then (some (t180 == (wrap64 ((a0.size : Int) + (wrap64 (2 * (Int.tmod x1_5 50))))))) else (some false))) else (some false))) = some r := by rw [if_neg (show ¬ (false = true) by decide)] at H; exact H
                        clear H
                        have H := H1
                        clear H1
                        by_cases c28 : t174 = 0
                        · rw [if_pos c28] at H
                          have c28b0 : (t174 == 0) = true := beq_iff_eq.mpr c28
                          have c28b1 : (t174 != 0) = false := bne_eq_false_iff_eq.mpr c28
                          clear c28
                          have H' := Aside0.mk H
                          clear H
                          go_wp2
                          repeat (go_quiet (fail); try go_wp2)
                          go_loopg [14] kj18 (fun kq v14 w' => ∃ (x14_4 : Int), v14 = .int .i64 x14_4 ∧ Aside0 (weathercocklaw07_LexBlanks.l1 kq (Int.tmod x1_5 50) t172 t173 t178 x14_4 = some r) ∧ Aside0 (kq ≤ kj18) ∧ Aside0 (Kd.R k32 32 w' w.heap.size (fun k_ => some k_ ≠ (v181 : Value).ownBlock) v176 t173) ∧ Aside0 (Kd.R k32 32 w' w.heap.size (fun k_ => some k_ ≠ (v176 : Value).ownBlock) v181 t178) ∧ Aside0 (Below w.heap.size w w'))
                          case atStart => exact ⟨(0), (by first | rfl | (simp; done) | (simp [*]; done)), H', ⟨Nat.le_refl _⟩, ⟨by (with_reducible repeat (first | apply Kd.R_alloc | apply Kd.R_drewN | apply Kd.R_drew)); exact HO_8.out⟩, ⟨by (with_reducible repeat (first | apply Kd.R_alloc | apply Kd.R_drewN | apply Kd.R_drew)); exact HO_11.out⟩, ⟨by repeat (first | (with_reducible first | exact HB.out | apply below_alloc | apply pw_below_drewN | apply below_drew1) | exact HB.out)⟩⟩
                          case round =>
                            clear H'
                            try clear c1
                            try clear c2
                            try clear p2
                            try clear c4
                            try clear c4b0
                            try clear c4b1
                            try clear c5
                            try clear p6
                            try clear c8
                            try clear c8b0
                            try clear c9
                            try clear c9b0
                            try clear c11
                            try clear c11b0
                            try clear c11b1
                            try clear c12
                            try clear c12b0
                            try clear c12b1
                            try clear c13
                            try clear c13b0
                            try clear c13b1
                            try clear c14
                            try clear c14b0
                            try clear c14b1
                            try clear c14b2
                            try clear c16
                            try clear c16b0
                            try clear c16b1
                            try clear c16b2
                            try clear c17
                            try clear c17b0
                            try clear c17b1
                            try clear c17b2
                            try clear c22
                            try clear c22b0
                            try clear c22b1
                            try clear c22b2
                            try clear c27
                            try clear c28
                            try clear c28b0
                            try clear c28b1
                            try clear p2
                            try clear p6
                            obtain ⟨x14_4, rfl, HA, HK4, HO_8, HO_11, HB⟩ := hrel
                            cases gk with
                            | zero => exact absurd HA.out (by simp [weathercocklaw07_LexBlanks.l1])
                            | succ k4 =>
                              have H := HA.out
                              clear HA
                              simp only [weathercocklaw07_LexBlanks.l1] at H
                              by_cases c29 : x14_4 < (t173.length : Int)
                              · rw [if_pos c29] at H
                                have c29b0 : decide (x14_4 < (t173.length : Int)) = true := decide_eq_true c29
                                clear c29
                                by_cases c30 : 0 ≤ x14_4
                                · rw [if_pos c30] at H
                                  have c30b0 : decide (0 ≤ x14_4) = true := decide_eq_true c30
                                  clear c30
                                  by_cases c31 : x14_4 < (t178.length : Int)
                                  · rw [if_pos c31] at H
                                    have c31b0 : decide (x14_4 < (t178.length : Int)) = true := decide_eq_true c31
                                    clear c31
                                    obtain ⟨Aq1, cq1, eq1⟩ := Kd.R_slice HO_8.out
                                    subst eq1
                                    have p1_ : 0 ≤ (x14_4 : Int) := of_decide_eq_true (by first | (with_reducible assumption) | assumption)
                                    have q1_ : x14_4 < (t173.length : Int) := of_decide_eq_true (by first | (with_reducible assumption) | assumption)
                                    have q2_ : x14_4 < (t178.length : Int) := of_decide_eq_true (by first | (with_reducible assumption) | assumption)
                                    have p2_ := p1_
                                    obtain ⟨ad1, e1_, hx1_0, hx1_1, hx1_2, hx1_3⟩ := at_T32 (Kd.R_reads' HO_8.out).2.2 x14_4 p1_ q1_
                                    cases e1_
                                    replace p1_ := eq_true p1_
                                    replace q1_ := eq_true q1_
                                    go_upto_region 22 with (first | ((with_reducible refine gate_dst (N := 15) rfl ?_); (try (refine gate_guard (by rfl) ?_; dsimp only)); refine box_event ?hg (N := 15) ?hd (cs := #[.int .i64 0, .int .i64 0, .int .i64 0, .string (⟨#[]⟩ : ByteArray)]) (t := 32) ?hr ?_; (case hd => rfl); (case hg => rfl); (case hr => first | (go_simp; done) | (go_simp; rfl)); intro gb184 hg w34 hbox hb; have n0_ := Aside0.mk (Kd.R_below (Kd.R_elderB (by (with_reducible repeat (first | apply Kd.R_alloc | apply Kd.R_drewN | apply Kd.R_drew)); exact HO_8.out) gb184 (Nat.le_of_eq hg.symm)) hb); have n1_ := Aside0.mk (Kd.R_below (Kd.R_elderB (by (with_reducible repeat (first | apply Kd.R_alloc | apply Kd.R_drewN | apply Kd.R_drew)); exact HO_11.out) gb184 (Nat.le_of_eq hg.symm)) hb); have n2_ := Aside0.mk (below_step (by repeat (first | (with_reducible first | exact HB.out | apply below_alloc | apply pw_below_drewN | apply below_drew1) | exact HB.out)) hb); have n3_ := Aside0.mk (hbox); have n4_ := Aside0.mk ((by rw [hg]; exact (below_size (by repeat (first | (with_reducible first | exact HB.out | apply below_alloc | apply pw_below_drewN | apply below_drew1) | exact HB.out))) : w.heap.size ≤ gb184)); have n5_ := Aside0.mk ((by rw [hg]; exact (below_size (by repeat (first | (with_reducible first | exact HB.out | apply below_alloc | apply pw_below_drewN | apply below_drew1) | exact HB.out))) : w.heap.size ≤ gb184)); clear HO_8; clear HO_11; clear HB; have HO_8 := n0_; have HO_11 := n1_; have HB := n2_; have BK184 := n3_; have GW184 := n4_; have GE184 := n5_; clear n0_ n1_ n2_ n3_ n4_ n5_; clear hb hbox hg; have hcz35_0 : w34.cell? ⟨gb184, 0, none⟩ = some (.int .i64 0) := (blk_cell BK184.out 0).trans rfl; have hcz35_1 : w34.cell? ⟨gb184, 1, none⟩ = some (.int .i64 0) := (blk_cell BK184.out 1).trans rfl; have hcz35_2 : w34.cell? ⟨gb184, 2, none⟩ = some (.int .i64 0) := (blk_cell BK184.out 2).trans rfl; have hcz35_3 : w34.cell? ⟨gb184, 3, none⟩ = some (.string (⟨#[]⟩ : ByteArray)) := (blk_cell BK184.out 3).trans rfl; have hfz35_0 := blk_frozen BK184.out 0; have hfz35_1 := blk_frozen BK184.out 1; have hfz35_2 := blk_frozen BK184.out 2; have hfz35_3 := blk_frozen BK184.out 3))
                                    have BK1 := Aside0.mk (tk_put (k0 := 0) (n0 := 0) (a0 := 0) (s0 := ⟨#[]⟩) BK184.out (rd_T32 t173 x14_4).f0 (rd_T32 t173 x14_4).f1 (rd_T32 t173 x14_4).f2 (rd_T32 t173 x14_4).f3)
                                    have O8 := Aside0.mk (Kd.R_far (p := ⟨gb184, 3, none⟩) (Kd.R_far (p := ⟨gb184, 2, none⟩) (Kd.R_far (p := ⟨gb184, 1, none⟩) (Kd.R_far (p := ⟨gb184, 0, none⟩) HO_8.out (fun _ hk => hk.2) (.int .i64 (rd_T32 t173 x14_4).f0)) (fun _ hk => hk.2) (.int .i64 (rd_T32 t173 x14_4).f1)) (fun _ hk => hk.2) (.int .i64 (rd_T32 t173 x14_4).f2)) (fun _ hk => hk.2) (.string (rd_T32 t173 x14_4).f3))
                                    have O11 := Aside0.mk (Kd.R_far (p := ⟨gb184, 3, none⟩) (Kd.R_far (p := ⟨gb184, 2, none⟩) (Kd.R_far (p := ⟨gb184, 1, none⟩) (Kd.R_far (p := ⟨gb184, 0, none⟩) HO_11.out (fun _ hk => hk.2) (.int .i64 (rd_T32 t173 x14_4).f0)) (fun _ hk => hk.2) (.int .i64 (rd_T32 t173 x14_4).f1)) (fun _ hk => hk.2) (.int .i64 (rd_T32 t173 x14_4).f2)) (fun _ hk => hk.2) (.string (rd_T32 t173 x14_4).f3))
                                    have B1 := Aside0.mk (tk_below HB.out GE184.out (rd_T32 t173 x14_4).f0 (rd_T32 t173 x14_4).f1 (rd_T32 t173 x14_4).f2 (rd_T32 t173 x14_4).f3)
                                    clear hcz35_0 hcz35_1 hcz35_2 hcz35_3 hfz35_0 hfz35_1 hfz35_2 hfz35_3 HO_8 HO_11 BK184 HB hx1_0 hx1_1 hx1_2 hx1_3
                                    generalize ((((w34.setCell ⟨gb184, 0, none⟩ (.int .i64 (rd_T32 t173 x14_4).f0)).setCell ⟨gb184, 1, none⟩ (.int .i64 (rd_T32 t173 x14_4).f1)).setCell ⟨gb184, 2, none⟩ (.int .i64 (rd_T32 t173 x14_4).f2)).setCell ⟨gb184, 3, none⟩ (.string (rd_T32 t173 x14_4).f3)) = w35 at BK1 O8 O11 B1 ⊢
                                    have hd2 : w35.cell? ⟨gb184, 2, none⟩ = some (.int .i64 (rd_T32 t173 x14_4).f2) := (blk_cell BK1.out 2).trans rfl
                                    have hf2 := blk_frozen BK1.out 2
                                    go_upto_region 23 with fail
                                    have BK2 := Aside0.mk (blk_set BK1.out 2 (.int .i64 (wrap64 (((rd_T32 t173 x14_4).f2) + (Int.tmod x1_5 50)))))
                                    have O8b := Aside0.mk (Kd.R_far (p := ⟨gb184, 2, none⟩) O8.out (fun _ hk => hk.2) (.int .i64 (wrap64 (((rd_T32 t173 x14_4).f2) + (Int.tmod x1_5 50)))))
                                    have O11b := Aside0.mk (Kd.R_far (p := ⟨gb184, 2, none⟩) O11.out (fun _ hk => hk.2) (.int .i64 (wrap64 (((rd_T32 t173 x14_4).f2) + (Int.tmod x1_5 50)))))
                                    have B2 := Aside0.mk (B1.out.setCell (p := ⟨gb184, 2, none⟩) GE184.out (.int .i64 (wrap64 (((rd_T32 t173 x14_4).f2) + (Int.tmod x1_5 50)))))
                                    clear hd2 hf2 BK1 O8 O11 B1
                                    generalize (w35.setCell ⟨gb184, 2, none⟩ (.int .i64 (wrap64 (((rd_T32 t173 x14_4).f2) + (Int.tmod x1_5 50))))) = w36 at BK2 O8b O11b B2 ⊢
                                    have hc_0 : w36.cell? ⟨gb184, 0, none⟩ = some (.int .i64 (rd_T32 t173 x14_4).f0) := (blk_cell BK2.out 0).trans rfl
                                    have hcn_0 := fun (n_ : Nat) => (show (w36.drewN n_).cell? _ = some _ from hc_0)
                                    have hc_1 : w36.cell? ⟨gb184, 1, none⟩ = some (.int .i64 (rd_T32 t173 x14_4).f1) := (blk_cell BK2.out 1).trans rfl
                                    have hcn_1 := fun (n_ : Nat) => (show (w36.drewN n_).cell? _ = some _ from hc_1)
                                    have hc_2 : w36.cell? ⟨gb184, 2, none⟩ = some (.int .i64 (wrap64 (((rd_T32 t173 x14_4).f2) + (Int.tmod x1_5 50)))) := (blk_cell BK2.out 2).trans rfl
                                    have hcn_2 := fun (n_ : Nat) => (show (w36.drewN n_).cell? _ = some _ from hc_2)
                                    have hc_3 : w36.cell? ⟨gb184, 3, none⟩ = some (.string (rd_T32 t173 x14_4).f3) := (blk_cell BK2.out 3).trans rfl
                                    have hcn_3 := fun (n_ : Nat) => (show (w36.drewN n_).cell? _ = some _ from hc_3)
                                    obtain ⟨Aq2, cq2, eq2⟩ := Kd.R_slice O11b.out
                                    subst eq2
                                    obtain ⟨ad2, e2_, hx2_0, hx2_1, hx2_2, hx2_3⟩ := at_T32 (Kd.R_reads' O11b.out).2.2 x14_4 p2_ q2_
                                    cases e2_
                                    replace p2_ := eq_true p2_
                                    replace q2_ := eq_true q2_
                                    have hxn_0 := fun (n_ : Nat) => (show (w36.drewN n_).cell? _ = some _ from hx2_0)
                                    have hxn_1 := fun (n_ : Nat) => (show (w36.drewN n_).cell? _ = some _ from hx2_1)
                                    have hxn_2 := fun (n_ : Nat) => (show (w36.drewN n_).cell? _ = some _ from hx2_2)
                                    have hxn_3 := fun (n_ : Nat) => (show (w36.drewN n_).cell? _ = some _ from hx2_3)
                                    by_cases c32 : (!(((rd_T32 t173 x14_4).f0) == ((rd_T32 t178 x14_4).f0)) || (!(((rd_T32 t173 x14_4).f1) == ((rd_T32 t178 x14_4).f1)) || (!((wrap64 (((rd_T32 t173 x14_4).f2) + (Int.tmod x1_5 50))) == ((rd_T32 t178 x14_4).f2)) || (!((((rd_T32 t173 x14_4).f3).toList) == (((rd_T32 t178 x14_4).f3).toList)))))) = true
                                    · rw [if_pos c32] at H
                                      have c32b0 : (!(((rd_T32 t173 x14_4).f0) == ((rd_T32 t178 x14_4).f0)) || (!(((rd_T32 t173 x14_4).f1) == ((rd_T32 t178 x14_4).f1)) || (!((wrap64 (((rd_T32 t173 x14_4).f2) + (Int.tmod x1_5 50))) == ((rd_T32 t178 x14_4).f2)) || (!((((rd_T32 t173 x14_4).f3).toList) == (((rd_T32 t178 x14_4).f3).toList)))))) = true := c32
                                      clear c32
                                      obtain rfl := Option.some.inj H
                                      go_wp2_with fail
                                      repeat (go_quiet (fail); try go_wp2_with fail)
                                      go_ret
                                      exact ⟨by first | rfl | (simp; done) | (simp [*]; done), by repeat (first | (with_reducible first | exact B2.out | apply below_alloc | apply pw_below_drewN | apply below_drew1) | exact B2.out)⟩
                                    · rw [if_neg c32] at H
                                      have c32b0 : ((!(((rd_T32 t173 x14_4).f0) == ((rd_T32 t178 x14_4).f0)) || (!(((rd_T32 t173 x14_4).f1) == ((rd_T32 t178 x14_4).f1)) || (!((wrap64 (((rd_T32 t173 x14_4).f2) + (Int.tmod x1_5 50))) == ((rd_T32 t178 x14_4).f2)) || (!((((rd_T32 t173 x14_4).f3).toList) == (((rd_T32 t178 x14_4).f3).toList))))))) = false := by simpa using c32
                                      clear c32
                                      have H' := Aside0.mk H
                                      clear H
                                      go_wp2_with fail
                                      repeat (go_quiet (fail); try go_wp2_with fail)
                                      go_roundg k4
                                      case measure => have := HJ5.out; have := HK2.out; have := HJ18.out; have := HK4.out; omega
                                      case rel => exact ⟨(wrap64 (x14_4 + 1)), (by first | rfl | (simp; done) | (simp [*]; done)), H', ⟨by have := HJ5.out; have := HK2.out; have := HJ18.out; have := HK4.out; omega⟩, ⟨by (with_reducible repeat (first | apply Kd.R_alloc | apply Kd.R_drewN | apply Kd.R_drew)); exact Kd.R_mono O8b.out (fun _ hk => hk.1)⟩, ⟨by (with_reducible repeat (first | apply Kd.R_alloc | apply Kd.R_drewN | apply Kd.R_drew)); exact Kd.R_mono O11b.out (fun _ hk => hk.1)⟩, ⟨by repeat (first | (with_reducible first | exact B2.out | apply below_alloc | apply pw_below_drewN | apply below_drew1) | exact B2.out)⟩⟩
                                  · rw [if_neg c31] at H
                                    exact absurd H (by simp)
                                · rw [if_neg c30] at H
                                  exact absurd H (by simp)
                              · rw [if_neg c29] at H
                                have c29b0 : decide (x14_4 < (t173.length : Int)) = false := decide_eq_false c29
                                clear c29
                                obtain rfl := Option.some.inj H
                                obtain ⟨Ao41, co41, eo41⟩ := Kd.R_slice HO_8.out
                                subst eo41
                                go_wp2
                                repeat (go_quiet (fail); try go_wp2)
                                go_ret
                                exact ⟨by first | rfl | (simp [errW_none, errW_some] <;> rfl) | (simp [*, errW_none, errW_some] <;> rfl), by repeat (first | (with_reducible first | exact HB.out | apply below_alloc | apply pw_below_drewN | apply below_drew1) | exact HB.out)⟩
                        · rw [if_neg c28] at H
                          have c28b0 : (t174 == 0) = false := beq_eq_false_iff_ne.mpr c28
                          have c28b1 : (t174 != 0) = true := bne_iff_ne.mpr c28
                          by_cases c42 : t172 = true
                          · subst c42
                            have H1 : (if t180 = (wrap64 (t175 + (Int.tmod x1_5 50))) then (some true) else (if t175 = (a0.size : Int) then (some (t180 == (wrap64 ((a0.size : Int) + (wrap64 (2 * (Int.tmod x1_5 50))))))) else (some false))) = some r := by rw [if_pos rfl] at H; exact H
                            clear H
                            have H := H1
                            clear H1
                            by_cases c43 : t180 = (wrap64 (t175 + (Int.tmod x1_5 50)))
                            · rw [if_pos c43] at H
                              have c43b0 : (t180 == (wrap64 (t175 + (Int.tmod x1_5 50)))) = true := beq_iff_eq.mpr c43
                              have c43b1 : (t180 != (wrap64 (t175 + (Int.tmod x1_5 50)))) = false := bne_eq_false_iff_eq.mpr c43
                              clear c43
                              obtain rfl := Option.some.inj H
                              go_wp2
                              repeat (go_quiet (fail); try go_wp2)
                              go_ret
                              exact ⟨by first | rfl | (simp [errW_none, errW_some] <;> rfl) | (simp [*, errW_none, errW_some] <;> rfl), by repeat (first | (with_reducible first | exact HB.out | apply below_alloc | apply pw_below_drewN | apply below_drew1) | exact HB.out)⟩
                            · rw [if_neg c43] at H
                              have c43b0 : (t180 == (wrap64 (t175 + (Int.tmod x1_5 50)))) = false := beq_eq_false_iff_ne.mpr c43
                              have c43b1 : (t180 != (wrap64 (t175 + (Int.tmod x1_5 50)))) = true := bne_iff_ne.mpr c43
                              by_cases c44 : t175 = (a0.size : Int)
                              · rw [if_pos c44] at H
                                have c44b0 : (t175 == (a0.size : Int)) = true := beq_iff_eq.mpr c44
                                have c44b1 : (t175 != (a0.size : Int)) = false := bne_eq_false_iff_eq.mpr c44
                                clear c44
                                obtain rfl := Option.some.inj H
                                go_wp2
                                repeat (go_quiet (fail); try go_wp2)
                                go_ret
                                exact ⟨by first | rfl | (simp [errW_none, errW_some] <;> rfl) | (simp [*, errW_none, errW_some] <;> rfl), by repeat (first | (with_reducible first | exact HB.out | apply below_alloc | apply pw_below_drewN | apply below_drew1) | exact HB.out)⟩
                              · rw [if_neg c44] at H
                                have c44b0 : (t175 == (a0.size : Int)) = false := beq_eq_false_iff_ne.mpr c44
                                have c44b1 : (t175 != (a0.size : Int)) = true := bne_iff_ne.mpr c44
                                obtain rfl := Option.some.inj H
                                go_wp2
                                repeat (go_quiet (fail); try go_wp2)
                                go_ret
                                exact ⟨by first | rfl | (simp [errW_none, errW_some] <;> rfl) | (simp [*, errW_none, errW_some] <;> rfl), by repeat (first | (with_reducible first | exact HB.out | apply below_alloc | apply pw_below_drewN | apply below_drew1) | exact HB.out)⟩
                          · replace c42 := Bool.eq_false_iff.mpr c42
                            subst c42
                            have H1 : (some false) = some r := by rw [if_neg (show ¬ (false = true) by decide)] at H; exact H
                            clear H
                            have H := H1
                            clear H1
                            obtain rfl := Option.some.inj H
                            go_wp2
                            repeat (go_quiet (fail); try go_wp2)
                            go_ret
                            exact ⟨by first | rfl | (simp [errW_none, errW_some] <;> rfl) | (simp [*, errW_none, errW_some] <;> rfl), by repeat (first | (with_reducible first | exact HB.out | apply below_alloc | apply pw_below_drewN | apply below_drew1) | exact HB.out)⟩
                · rw [if_neg c17] at H
                  exact absurd H (by simp)
              · rw [if_neg c16] at H
                exact absurd H (by simp)


end Go.Proofs.YtniapbinamnmpaaDoor.L
