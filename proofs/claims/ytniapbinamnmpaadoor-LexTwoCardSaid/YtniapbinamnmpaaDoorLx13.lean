-- Printed by gprint.py, a program of this session, with the kit's print.py. Not trusted: Lean checks it.
import Derived.Test.YtniapbinamnmpaaDoorLx0
import Derived.Test.YtniapbinamnmpaaDoorLx1
import Derived.Test.YtniapbinamnmpaaDoorLx9
import Derived.Test.YtniapbinamnmpaaDoorLh
namespace Go.Proofs.YtniapbinamnmpaaDoor.L
open Go.RowKit Go.Proofs.YtniapbinamnmpaaDoorW.PrintWords Go.Proofs.YtniapbinamnmpaaDoorW.PrintLast Go.Proofs.YtniapbinamnmpaaDoorW.PrintMore
attribute [local go_sem] max2_int min2_int max_two min_two max_three min_three max_four min_four   -- for this text's walks alone
set_option linter.unusedVariables false
set_option linter.unusedSimpArgs false

attribute [local go_sem high] eqA32
/-! ### weathercocklaw07_LexTwo: function 7 -/
mutual
def weathercocklaw07_LexTwo.j0 : Nat → ByteArray → ByteArray → Bool → Bool → Option (Bool)
  | 0, _, _, _, _ => none
  | k + 1, x0, x1, x5, x25 => if x25 = true then (some x5) else ((lex_Lex.f x0).bind fun bt194 => ((lex_Lex.f x1).bind fun bt199 => (if x0.size + 1 ≤ 9223372036854775807 then (if (x0 ++ (⟨#[32]⟩ : ByteArray)).size + x1.size ≤ 9223372036854775807 then ((lex_Lex.f ((x0 ++ (⟨#[32]⟩ : ByteArray)) ++ x1)).bind fun bt204 => (if bt194.2.1 = 0 then (weathercocklaw07_LexTwo.j1 k x0 x5 bt194.1 bt194.2.1 bt199.1 bt204.1 bt204.2.1 (bt199.2.1 != 0)) else (weathercocklaw07_LexTwo.j1 k x0 x5 bt194.1 bt194.2.1 bt199.1 bt204.1 bt204.2.1 true))) else (none)) else (none))))
def weathercocklaw07_LexTwo.j1 : Nat → ByteArray → Bool → List (S32) → Int → List (S32) → List (S32) → Int → Bool → Option (Bool)
  | 0, _, _, _, _, _, _, _, _ => none
  | k + 1, x0, x5, x6, x7, x9, x12, x13, x53 => if x53 = true then (if x5 = true then (if x7 = 0 then (some true) else (if x13 = 0 then (some (decide ((x0.size : Int) > 0))) else (some true))) else (some false)) else (if (wrap64 ((x6.length : Int) + (x9.length : Int))) > 400 then (if x5 = true then (some (x13 == 5)) else (some false)) else (if x13 = 0 then (weathercocklaw07_LexTwo.j2 k x0 x5 x6 x9 x12 ((x12.length : Int) != (wrap64 ((x6.length : Int) + (x9.length : Int))))) else (weathercocklaw07_LexTwo.j2 k x0 x5 x6 x9 x12 true)))
def weathercocklaw07_LexTwo.j2 : Nat → ByteArray → Bool → List (S32) → List (S32) → List (S32) → Bool → Option (Bool)
  | 0, _, _, _, _, _, _ => none
  | k + 1, x0, x5, x6, x9, x12, x90 => if x90 = true then (some false) else (weathercocklaw07_LexTwo.l0 k x0 x5 x6 x9 x12 0)
def weathercocklaw07_LexTwo.l0 : Nat → ByteArray → Bool → List (S32) → List (S32) → List (S32) → Int → Option (Bool)
  | 0, _, _, _, _, _, _ => none
  | k + 1, x0, x5, x6, x9, x12, x15 => if x15 < (x12.length : Int) then (if 0 ≤ x15 then (if x15 < (x6.length : Int) then (weathercocklaw07_LexTwo.j4 k x0 x5 x6 x9 x12 x15 (!(((rd_T32 x12 x15).f0) == ((rd_T32 x6 x15).f0)) || (!(((rd_T32 x12 x15).f1) == ((rd_T32 x6 x15).f1)) || (!(((rd_T32 x12 x15).f2) == ((rd_T32 x6 x15).f2)) || (!((((rd_T32 x12 x15).f3).toList) == (((rd_T32 x6 x15).f3).toList)))))) ((rd_T32 x12 x15).f0) ((rd_T32 x12 x15).f1) ((rd_T32 x12 x15).f2) ((rd_T32 x12 x15).f3)) else (weathercocklaw07_LexTwo.j4 k x0 x5 x6 x9 x12 x15 false ((rd_T32 x12 x15).f0) ((rd_T32 x12 x15).f1) ((rd_T32 x12 x15).f2) ((rd_T32 x12 x15).f3))) else (none)) else (some x5)
def weathercocklaw07_LexTwo.j4 : Nat → ByteArray → Bool → List (S32) → List (S32) → List (S32) → Int → Bool → Int → Int → Int → ByteArray → Option (Bool)
  | 0, _, _, _, _, _, _, _, _, _, _, _ => none
  | k + 1, x0, x5, x6, x9, x12, x15, x112, x211000, x211001, x211002, x211003 => if x112 = true then (some false) else (if x15 ≥ (x6.length : Int) then (if 0 ≤ (wrap64 (x15 - (x6.length : Int))) then (if (wrap64 (x15 - (x6.length : Int))) < (x9.length : Int) then (if (!(x211000 == ((rd_T32 x9 (wrap64 (x15 - (x6.length : Int)))).f0)) || (!(x211001 == ((rd_T32 x9 (wrap64 (x15 - (x6.length : Int)))).f1)) || (!((wrap64 ((wrap64 (x211002 - (x0.size : Int))) - 1)) == ((rd_T32 x9 (wrap64 (x15 - (x6.length : Int)))).f2)) || (!(x211003.toList == (((rd_T32 x9 (wrap64 (x15 - (x6.length : Int)))).f3).toList)))))) = true then (some false) else (weathercocklaw07_LexTwo.l0 k x0 x5 x6 x9 x12 (wrap64 (x15 + 1)))) else (none)) else (none)) else (weathercocklaw07_LexTwo.l0 k x0 x5 x6 x9 x12 (wrap64 (x15 + 1))))
end
def weathercocklaw07_LexTwo.f (k : Nat) (a0 : ByteArray) (a1 : ByteArray) : Option (Bool) := (weathercocklaw07_examples.f).bind fun t193 => (if (a0.size : Int) > 900 then (weathercocklaw07_LexTwo.j0 k a0 a1 t193 true) else (weathercocklaw07_LexTwo.j0 k a0 a1 t193 (decide ((a1.size : Int) > 900))))
theorem weathercocklaw07_LexTwo.mono_l : ∀ k, (∀ y0 y1 y2 y3, LeO (weathercocklaw07_LexTwo.j0 k y0 y1 y2 y3) (weathercocklaw07_LexTwo.j0 (k + 1) y0 y1 y2 y3)) ∧ (∀ y0 y1 y2 y3 y4 y5 y6 y7, LeO (weathercocklaw07_LexTwo.j1 k y0 y1 y2 y3 y4 y5 y6 y7) (weathercocklaw07_LexTwo.j1 (k + 1) y0 y1 y2 y3 y4 y5 y6 y7)) ∧ (∀ y0 y1 y2 y3 y4 y5, LeO (weathercocklaw07_LexTwo.j2 k y0 y1 y2 y3 y4 y5) (weathercocklaw07_LexTwo.j2 (k + 1) y0 y1 y2 y3 y4 y5)) ∧ (∀ y0 y1 y2 y3 y4 y5, LeO (weathercocklaw07_LexTwo.l0 k y0 y1 y2 y3 y4 y5) (weathercocklaw07_LexTwo.l0 (k + 1) y0 y1 y2 y3 y4 y5)) ∧ (∀ y0 y1 y2 y3 y4 y5 y6 y7 y8 y9 y10, LeO (weathercocklaw07_LexTwo.j4 k y0 y1 y2 y3 y4 y5 y6 y7 y8 y9 y10) (weathercocklaw07_LexTwo.j4 (k + 1) y0 y1 y2 y3 y4 y5 y6 y7 y8 y9 y10))
  | 0 => ⟨fun _ _ _ _ r h => by simp [weathercocklaw07_LexTwo.j0] at h, fun _ _ _ _ _ _ _ _ r h => by simp [weathercocklaw07_LexTwo.j1] at h, fun _ _ _ _ _ _ r h => by simp [weathercocklaw07_LexTwo.j2] at h, fun _ _ _ _ _ _ r h => by simp [weathercocklaw07_LexTwo.l0] at h, fun _ _ _ _ _ _ _ _ _ _ _ r h => by simp [weathercocklaw07_LexTwo.j4] at h⟩
  | k + 1 => by
    obtain ⟨ih0, ih1, ih2, ih3, ih4⟩ := weathercocklaw07_LexTwo.mono_l k
    refine ⟨?_, ?_, ?_, ?_, ?_⟩
    · intro y0 y1 y2 y3
      unfold weathercocklaw07_LexTwo.j0
      repeat' first
      | (with_reducible exact ih0 _ _ _ _)
      | (with_reducible exact ih1 _ _ _ _ _ _ _ _)
      | (with_reducible exact ih2 _ _ _ _ _ _)
      | (with_reducible exact ih3 _ _ _ _ _ _)
      | (with_reducible exact ih4 _ _ _ _ _ _ _ _ _ _ _)
      | (with_reducible exact LeO.refl _)
      | (with_reducible exact LeO.none _)
      | (with_reducible refine LeO.ite ?_ ?_)
      | (with_reducible refine LeO.bind ?_ (fun _ => ?_))
      | exact ih0 _ _ _ _
      | exact ih1 _ _ _ _ _ _ _ _
      | exact ih2 _ _ _ _ _ _
      | exact ih3 _ _ _ _ _ _
      | exact ih4 _ _ _ _ _ _ _ _ _ _ _
      | exact LeO.none _
      | refine LeO.ite ?_ ?_
      | refine LeO.bind ?_ (fun _ => ?_)
    · intro y0 y1 y2 y3 y4 y5 y6 y7
      unfold weathercocklaw07_LexTwo.j1
      repeat' first
      | (with_reducible exact ih0 _ _ _ _)
      | (with_reducible exact ih1 _ _ _ _ _ _ _ _)
      | (with_reducible exact ih2 _ _ _ _ _ _)
      | (with_reducible exact ih3 _ _ _ _ _ _)
      | (with_reducible exact ih4 _ _ _ _ _ _ _ _ _ _ _)
      | (with_reducible exact LeO.refl _)
      | (with_reducible exact LeO.none _)
      | (with_reducible refine LeO.ite ?_ ?_)
      | (with_reducible refine LeO.bind ?_ (fun _ => ?_))
      | exact ih0 _ _ _ _
      | exact ih1 _ _ _ _ _ _ _ _
      | exact ih2 _ _ _ _ _ _
      | exact ih3 _ _ _ _ _ _
      | exact ih4 _ _ _ _ _ _ _ _ _ _ _
      | exact LeO.none _
      | refine LeO.ite ?_ ?_
      | refine LeO.bind ?_ (fun _ => ?_)
    · intro y0 y1 y2 y3 y4 y5
      unfold weathercocklaw07_LexTwo.j2
      repeat' first
      | (with_reducible exact ih0 _ _ _ _)
      | (with_reducible exact ih1 _ _ _ _ _ _ _ _)
      | (with_reducible exact ih2 _ _ _ _ _ _)
      | (with_reducible exact ih3 _ _ _ _ _ _)
      | (with_reducible exact ih4 _ _ _ _ _ _ _ _ _ _ _)
      | (with_reducible exact LeO.refl _)
      | (with_reducible exact LeO.none _)
      | (with_reducible refine LeO.ite ?_ ?_)
      | (with_reducible refine LeO.bind ?_ (fun _ => ?_))
      | exact ih0 _ _ _ _
      | exact ih1 _ _ _ _ _ _ _ _
      | exact ih2 _ _ _ _ _ _
      | exact ih3 _ _ _ _ _ _
      | exact ih4 _ _ _ _ _ _ _ _ _ _ _
      | exact LeO.none _
      | refine LeO.ite ?_ ?_
      | refine LeO.bind ?_ (fun _ => ?_)
    · intro y0 y1 y2 y3 y4 y5
      unfold weathercocklaw07_LexTwo.l0
      repeat' first
      | (with_reducible exact ih0 _ _ _ _)
      | (with_reducible exact ih1 _ _ _ _ _ _ _ _)
      | (with_reducible exact ih2 _ _ _ _ _ _)
      | (with_reducible exact ih3 _ _ _ _ _ _)
      | (with_reducible exact ih4 _ _ _ _ _ _ _ _ _ _ _)
      | (with_reducible exact LeO.refl _)
      | (with_reducible exact LeO.none _)
      | (with_reducible refine LeO.ite ?_ ?_)
      | (with_reducible refine LeO.bind ?_ (fun _ => ?_))
      | exact ih0 _ _ _ _
      | exact ih1 _ _ _ _ _ _ _ _
      | exact ih2 _ _ _ _ _ _
      | exact ih3 _ _ _ _ _ _
      | exact ih4 _ _ _ _ _ _ _ _ _ _ _
      | exact LeO.none _
      | refine LeO.ite ?_ ?_
      | refine LeO.bind ?_ (fun _ => ?_)
    · intro y0 y1 y2 y3 y4 y5 y6 y7 y8 y9 y10
      unfold weathercocklaw07_LexTwo.j4
      repeat' first
      | (with_reducible exact ih0 _ _ _ _)
      | (with_reducible exact ih1 _ _ _ _ _ _ _ _)
      | (with_reducible exact ih2 _ _ _ _ _ _)
      | (with_reducible exact ih3 _ _ _ _ _ _)
      | (with_reducible exact ih4 _ _ _ _ _ _ _ _ _ _ _)
      | (with_reducible exact LeO.refl _)
      | (with_reducible exact LeO.none _)
      | (with_reducible refine LeO.ite ?_ ?_)
      | (with_reducible refine LeO.bind ?_ (fun _ => ?_))
      | exact ih0 _ _ _ _
      | exact ih1 _ _ _ _ _ _ _ _
      | exact ih2 _ _ _ _ _ _
      | exact ih3 _ _ _ _ _ _
      | exact ih4 _ _ _ _ _ _ _ _ _ _ _
      | exact LeO.none _
      | refine LeO.ite ?_ ?_
      | refine LeO.bind ?_ (fun _ => ?_)
theorem weathercocklaw07_LexTwo.mono : ∀ a0 a1 k, LeO (weathercocklaw07_LexTwo.f k a0 a1) (weathercocklaw07_LexTwo.f (k + 1) a0 a1) := by
  intro a0 a1 k
  obtain ⟨ih0, ih1, ih2, ih3, ih4⟩ := weathercocklaw07_LexTwo.mono_l k
  unfold weathercocklaw07_LexTwo.f
  repeat' first
      | (with_reducible exact ih0 _ _ _ _)
      | (with_reducible exact ih1 _ _ _ _ _ _ _ _)
      | (with_reducible exact ih2 _ _ _ _ _ _)
      | (with_reducible exact ih3 _ _ _ _ _ _)
      | (with_reducible exact ih4 _ _ _ _ _ _ _ _ _ _ _)
      | (with_reducible exact LeO.refl _)
      | (with_reducible exact LeO.none _)
      | (with_reducible refine LeO.ite ?_ ?_)
      | (with_reducible refine LeO.bind ?_ (fun _ => ?_))
      | exact ih0 _ _ _ _
      | exact ih1 _ _ _ _ _ _ _ _
      | exact ih2 _ _ _ _ _ _
      | exact ih3 _ _ _ _ _ _
      | exact ih4 _ _ _ _ _ _ _ _ _ _ _
      | exact LeO.none _
      | refine LeO.ite ?_ ?_
      | refine LeO.bind ?_ (fun _ => ?_)
set_option maxHeartbeats 8000000 in
set_option maxRecDepth 100000 in
theorem weathercocklaw07_LexTwo.calls (k : Nat) (a0 : ByteArray) (a1 : ByteArray) (r : Bool) (w : World) (h : weathercocklaw07_LexTwo.f k a0 a1 = some r) (hT : TabA w) :
    Calls Tryd.prog 7 #[.string a0, .string a1] w fun e w' => e = .returned (.bool r) ∧ Below w.heap.size w w' := by
  have HT := Aside0.mk hT
  clear hT
  have hu32 := Tryd.underlying32
  have HB := Aside0.mk (Below.refl w.heap.size w)
  have H : ((weathercocklaw07_examples.f).bind fun t193 => (if (a0.size : Int) > 900 then (weathercocklaw07_LexTwo.j0 k a0 a1 t193 true) else (weathercocklaw07_LexTwo.j0 k a0 a1 t193 (decide ((a1.size : Int) > 900))))) = some r := h
  clear h
  replace H := Option.bind_eq_some_iff.mp H
  obtain ⟨t193, A30, H⟩ := H
  replace H : (if (a0.size : Int) > 900 then (weathercocklaw07_LexTwo.j0 k a0 a1 t193 true) else (weathercocklaw07_LexTwo.j0 k a0 a1 t193 (decide ((a1.size : Int) > 900)))) = some r := H
  have A3 := Aside0.mk A30
  clear A30
  have HC4 := Aside0.mk H
  clear H
  go_enter Tryd.func7, Tryd.ntmps7
  go_upto_region 2 with (first | (go_at_call 9; (with_reducible refine (weathercocklaw07_examples.calls  t193 _ A3.out (tab_at HT.out (by repeat (first | (with_reducible first | exact HB.out | apply below_alloc | apply pw_below_drewN | apply below_drew1) | exact HB.out)))).mono ?_); rintro e w5 ⟨rfl, hb⟩; have n0_ := Aside0.mk (below_step (by repeat (first | (with_reducible first | exact HB.out | apply below_alloc | apply pw_below_drewN | apply below_drew1) | exact HB.out)) hb); clear HB; have HB := n0_; clear n0_; (try clear hb); (try clear hb2); (try clear hk); (try clear hi)))
  repeat (go_quiet (first | (go_at_call 9; (with_reducible refine (weathercocklaw07_examples.calls  t193 _ A3.out (tab_at HT.out (by repeat (first | (with_reducible first | exact HB.out | apply below_alloc | apply pw_below_drewN | apply below_drew1) | exact HB.out)))).mono ?_); rintro e w5 ⟨rfl, hb⟩; have n0_ := Aside0.mk (below_step (by repeat (first | (with_reducible first | exact HB.out | apply below_alloc | apply pw_below_drewN | apply below_drew1) | exact HB.out)) hb); clear HB; have HB := n0_; clear n0_; (try clear hb); (try clear hb2); (try clear hk); (try clear hi))); go_upto_region 2 with (first | (go_at_call 9; (with_reducible refine (weathercocklaw07_examples.calls  t193 _ A3.out (tab_at HT.out (by repeat (first | (with_reducible first | exact HB.out | apply below_alloc | apply pw_below_drewN | apply below_drew1) | exact HB.out)))).mono ?_); rintro e w5 ⟨rfl, hb⟩; have n0_ := Aside0.mk (below_step (by repeat (first | (with_reducible first | exact HB.out | apply below_alloc | apply pw_below_drewN | apply below_drew1) | exact HB.out)) hb); clear HB; have HB := n0_; clear n0_; (try clear hb); (try clear hb2); (try clear hk); (try clear hi))))
  (try simp only [Act.put, List.setIfInBounds_toArray, List.set_cons_zero, List.set_cons_succ])
  go_cut [25] (fun v25 wc => ∃ (kq : Nat) (x25_3 : Bool), v25 = .bool x25_3 ∧ Aside0 (weathercocklaw07_LexTwo.j0 kq a0 a1 t193 x25_3 = some r) ∧ Aside0 (kq ≤ k) ∧ Aside0 (Below w.heap.size w wc))
  case first =>
    have H := HC4.out
    clear HC4
    by_cases c6 : (a0.size : Int) > 900
    · rw [if_pos c6] at H
      have c6b0 : decide (900 < (a0.size : Int)) = true := decide_eq_true c6
      have c6b1 : decide (900 < a0.size) = true := decide_eq_true (by omega)
      clear c6
      (first | rw [c6b0] | (simp only [i64_w, i32_w]; rw [c6b0]) | skip)
      have H' := Aside0.mk H
      clear H
      go_wp2
      repeat (go_quiet (fail); try go_wp2)
      go_meet
      case rel => exact ⟨_, (true), (by first | rfl | (simp; done) | (simp [*]; done)), H', ⟨by first | omega | exact Nat.le_refl _⟩, ⟨by repeat (first | (with_reducible first | exact HB.out | apply below_alloc | apply pw_below_drewN | apply below_drew1) | exact HB.out)⟩⟩
    · rw [if_neg c6] at H
      have c6b0 : decide (900 < (a0.size : Int)) = false := decide_eq_false c6
      have c6b1 : decide (900 < a0.size) = false := decide_eq_false (by omega)
      clear c6
      (first | rw [c6b0] | (simp only [i64_w, i32_w]; rw [c6b0]) | skip)
      have H' := Aside0.mk H
      clear H
      go_wp2
      repeat (go_quiet (fail); try go_wp2)
      go_meet
      case rel => exact ⟨_, (decide ((a1.size : Int) > 900)), (by first | rfl | (simp; done) | (simp [*]; done)), H', ⟨by first | omega | exact Nat.le_refl _⟩, ⟨by repeat (first | (with_reducible first | exact HB.out | apply below_alloc | apply pw_below_drewN | apply below_drew1) | exact HB.out)⟩⟩
  case rest =>
    clear HC4
    try clear p2
    try clear c6
    try clear c6b0
    try clear c6b1
    obtain ⟨kq, x25_3, rfl, HA, HJ3, HB⟩ := hcut
    cases kq with
    | zero => exact absurd HA.out (by simp [weathercocklaw07_LexTwo.j0])
    | succ kj3 =>
      have H := HA.out
      clear HA
      simp only [weathercocklaw07_LexTwo.j0] at H
      by_cases c7 : x25_3 = true
      · subst c7
        have H1 : (some t193) = some r := by rw [if_pos rfl] at H; exact H
        clear H
        have H := H1
        clear H1
        obtain rfl := Option.some.inj H
        go_wp2
        repeat (go_quiet (fail); try go_wp2)
        go_ret
        exact ⟨by first | rfl | (simp [errW_none, errW_some] <;> rfl) | (simp [*, errW_none, errW_some] <;> rfl), by repeat (first | (with_reducible first | exact HB.out | apply below_alloc | apply pw_below_drewN | apply below_drew1) | exact HB.out)⟩
      · replace c7 := Bool.eq_false_iff.mpr c7
        subst c7
        have H1 : ((lex_Lex.f a0).bind fun bt194 => ((lex_Lex.f a1).bind fun bt199 => (if a0.size + 1 ≤ 9223372036854775807 then (if (a0 ++ (⟨#[32]⟩ : ByteArray)).size + a1.size ≤ 9223372036854775807 then ((lex_Lex.f ((a0 ++ (⟨#[32]⟩ : ByteArray)) ++ a1)).bind fun bt204 => (if bt194.2.1 = 0 then (weathercocklaw07_LexTwo.j1 kj3 a0 t193 bt194.1 bt194.2.1 bt199.1 bt204.1 bt204.2.1 (bt199.2.1 != 0)) else (weathercocklaw07_LexTwo.j1 kj3 a0 t193 bt194.1 bt194.2.1 bt199.1 bt204.1 bt204.2.1 true))) else (none)) else (none)))) = some r := by rw [if_neg (show ¬ (false = true) by decide)] at H; exact H
        clear H
        have H := H1
        clear H1
        replace H := Option.bind_eq_some_iff.mp H
        obtain ⟨⟨t194, t195, t196⟩, A80, H⟩ := H
        replace H : ((lex_Lex.f a1).bind fun bt199 => (if a0.size + 1 ≤ 9223372036854775807 then (if (a0 ++ (⟨#[32]⟩ : ByteArray)).size + a1.size ≤ 9223372036854775807 then ((lex_Lex.f ((a0 ++ (⟨#[32]⟩ : ByteArray)) ++ a1)).bind fun bt204 => (if t195 = 0 then (weathercocklaw07_LexTwo.j1 kj3 a0 t193 t194 t195 bt199.1 bt204.1 bt204.2.1 (bt199.2.1 != 0)) else (weathercocklaw07_LexTwo.j1 kj3 a0 t193 t194 t195 bt199.1 bt204.1 bt204.2.1 true))) else (none)) else (none))) = some r := H
        have A8 := Aside0.mk A80
        clear A80
        replace H := Option.bind_eq_some_iff.mp H
        obtain ⟨⟨t199, t200, t201⟩, A90, H⟩ := H
        replace H : (if a0.size + 1 ≤ 9223372036854775807 then (if (a0 ++ (⟨#[32]⟩ : ByteArray)).size + a1.size ≤ 9223372036854775807 then ((lex_Lex.f ((a0 ++ (⟨#[32]⟩ : ByteArray)) ++ a1)).bind fun bt204 => (if t195 = 0 then (weathercocklaw07_LexTwo.j1 kj3 a0 t193 t194 t195 t199 bt204.1 bt204.2.1 (t200 != 0)) else (weathercocklaw07_LexTwo.j1 kj3 a0 t193 t194 t195 t199 bt204.1 bt204.2.1 true))) else (none)) else (none)) = some r := H
        have A9 := Aside0.mk A90
        clear A90
        by_cases c10 : a0.size + 1 ≤ 9223372036854775807
        · rw [if_pos c10] at H
          have c10b0 := eq_true c10
          have c10b1 : decide (a0.size + 1 ≤ 9223372036854775807) = true := decide_eq_true c10
          try have c10b2 : (9223372036854775807 < a0.size + 1) = False := eq_false (Nat.not_lt.2 c10)
          by_cases c11 : (a0 ++ (⟨#[32]⟩ : ByteArray)).size + a1.size ≤ 9223372036854775807
          · rw [if_pos c11] at H
            have c11b0 := eq_true c11
            have c11b1 : decide ((a0 ++ (⟨#[32]⟩ : ByteArray)).size + a1.size ≤ 9223372036854775807) = true := decide_eq_true c11
            try have c11b2 : (9223372036854775807 < (a0 ++ (⟨#[32]⟩ : ByteArray)).size + a1.size) = False := eq_false (Nat.not_lt.2 c11)
            try (have c11b3 := c11b2; simp only [ByteArray.size_append] at c11b3)
            try (have c11b4 := c11b0; simp only [ByteArray.size_append] at c11b4)
            replace H := Option.bind_eq_some_iff.mp H
            obtain ⟨⟨t204, t205, t206⟩, A120, H⟩ := H
            replace H : (if t195 = 0 then (weathercocklaw07_LexTwo.j1 kj3 a0 t193 t194 t195 t199 t204 t205 (t200 != 0)) else (weathercocklaw07_LexTwo.j1 kj3 a0 t193 t194 t195 t199 t204 t205 true)) = some r := H
            have A12 := Aside0.mk A120
            clear A120
            have HC13 := Aside0.mk H
            clear H
            go_upto_region 7 with (first | (go_at_call 11; (with_reducible refine (lex_Lex.calls a0 t194 t195 t196 _ A8.out (tab_at HT.out (by repeat (first | (with_reducible first | exact HB.out | apply below_alloc | apply pw_below_drewN | apply below_drew1) | exact HB.out)))).mono ?_); rintro e w14 ⟨v197, rfl, ho0, hb⟩; have n0_ := Aside0.mk (Kd.R_lower ho0 (below_size (by repeat (first | (with_reducible first | exact HB.out | apply below_alloc | apply pw_below_drewN | apply below_drew1) | exact HB.out)))); have n1_ := Aside0.mk (below_step (by repeat (first | (with_reducible first | exact HB.out | apply below_alloc | apply pw_below_drewN | apply below_drew1) | exact HB.out)) hb); clear HB; have HO198 := n0_; have HB := n1_; clear n0_ n1_; (try clear hb); (try clear hb2); (try clear hk); (try clear hi); (try clear ho0)) | (go_at_call 11; (with_reducible refine (lex_Lex.calls a1 t199 t200 t201 _ A9.out (tab_at HT.out (by repeat (first | (with_reducible first | exact HB.out | apply below_alloc | apply pw_below_drewN | apply below_drew1) | exact HB.out)))).mono ?_); rintro e w15 ⟨v202, rfl, ho0, hb⟩; have n0_ := Aside0.mk (Kd.R_elder' (by (with_reducible repeat (first | apply Kd.R_alloc | apply Kd.R_drewN | apply Kd.R_drew)); exact HO198.out) (Kd.R_base ho0) hb); have n1_ := Aside0.mk (Kd.R_lower (Kd.R_new' ho0 (Kd.R_lt (by (with_reducible repeat (first | apply Kd.R_alloc | apply Kd.R_drewN | apply Kd.R_drew)); exact HO198.out))) (below_size (by repeat (first | (with_reducible first | exact HB.out | apply below_alloc | apply pw_below_drewN | apply below_drew1) | exact HB.out)))); have n2_ := Aside0.mk (below_step (by repeat (first | (with_reducible first | exact HB.out | apply below_alloc | apply pw_below_drewN | apply below_drew1) | exact HB.out)) hb); clear HO198; clear HB; have HO198 := n0_; have HO203 := n1_; have HB := n2_; clear n0_ n1_ n2_; (try clear hb); (try clear hb2); (try clear hk); (try clear hi); (try clear ho0)) | (go_at_call 11; (with_reducible refine (lex_Lex.calls ((a0 ++ (⟨#[32]⟩ : ByteArray)) ++ a1) t204 t205 t206 _ A12.out (tab_at HT.out (by repeat (first | (with_reducible first | exact HB.out | apply below_alloc | apply pw_below_drewN | apply below_drew1) | exact HB.out)))).mono ?_); rintro e w16 ⟨v207, rfl, ho0, hb⟩; have n0_ := Aside0.mk (Kd.R_elder' (by (with_reducible repeat (first | apply Kd.R_alloc | apply Kd.R_drewN | apply Kd.R_drew)); exact HO198.out) (Kd.R_base ho0) hb); have n1_ := Aside0.mk (Kd.R_elder' (by (with_reducible repeat (first | apply Kd.R_alloc | apply Kd.R_drewN | apply Kd.R_drew)); exact HO203.out) (Kd.R_base ho0) hb); have n2_ := Aside0.mk (Kd.R_lower (Kd.R_new' (Kd.R_new' ho0 (Kd.R_lt (by (with_reducible repeat (first | apply Kd.R_alloc | apply Kd.R_drewN | apply Kd.R_drew)); exact HO198.out))) (Kd.R_lt (by (with_reducible repeat (first | apply Kd.R_alloc | apply Kd.R_drewN | apply Kd.R_drew)); exact HO203.out))) (below_size (by repeat (first | (with_reducible first | exact HB.out | apply below_alloc | apply pw_below_drewN | apply below_drew1) | exact HB.out)))); have n3_ := Aside0.mk (below_step (by repeat (first | (with_reducible first | exact HB.out | apply below_alloc | apply pw_below_drewN | apply below_drew1) | exact HB.out)) hb); clear HO198; clear HO203; clear HB; have HO198 := n0_; have HO203 := n1_; have HO208 := n2_; have HB := n3_; clear n0_ n1_ n2_ n3_; (try clear hb); (try clear hb2); (try clear hk); (try clear hi); (try clear ho0)))
            repeat (go_quiet (first | (go_at_call 11; (with_reducible refine (lex_Lex.calls a0 t194 t195 t196 _ A8.out (tab_at HT.out (by repeat (first | (with_reducible first | exact HB.out | apply below_alloc | apply pw_below_drewN | apply below_drew1) | exact HB.out)))).mono ?_); rintro e w14 ⟨v197, rfl, ho0, hb⟩; have n0_ := Aside0.mk (Kd.R_lower ho0 (below_size (by repeat (first | (with_reducible first | exact HB.out | apply below_alloc | apply pw_below_drewN | apply below_drew1) | exact HB.out)))); have n1_ := Aside0.mk (below_step (by repeat (first | (with_reducible first | exact HB.out | apply below_alloc | apply pw_below_drewN | apply below_drew1) | exact HB.out)) hb); clear HB; have HO198 := n0_; have HB := n1_; clear n0_ n1_; (try clear hb); (try clear hb2); (try clear hk); (try clear hi); (try clear ho0)) | (go_at_call 11; (with_reducible refine (lex_Lex.calls a1 t199 t200 t201 _ A9.out (tab_at HT.out (by repeat (first | (with_reducible first | exact HB.out | apply below_alloc | apply pw_below_drewN | apply below_drew1) | exact HB.out)))).mono ?_); rintro e w15 ⟨v202, rfl, ho0, hb⟩; have n0_ := Aside0.mk (Kd.R_elder' (by (with_reducible repeat (first | apply Kd.R_alloc | apply Kd.R_drewN | apply Kd.R_drew)); exact HO198.out) (Kd.R_base ho0) hb); have n1_ := Aside0.mk (Kd.R_lower (Kd.R_new' ho0 (Kd.R_lt (by (with_reducible repeat (first | apply Kd.R_alloc | apply Kd.R_drewN | apply Kd.R_drew)); exact HO198.out))) (below_size (by repeat (first | (with_reducible first | exact HB.out | apply below_alloc | apply pw_below_drewN | apply below_drew1) | exact HB.out)))); have n2_ := Aside0.mk (below_step (by repeat (first | (with_reducible first | exact HB.out | apply below_alloc | apply pw_below_drewN | apply below_drew1) | exact HB.out)) hb); clear HO198; clear HB; have HO198 := n0_; have HO203 := n1_; have HB := n2_; clear n0_ n1_ n2_; (try clear hb); (try clear hb2); (try clear hk); (try clear hi); (try clear ho0)) | (go_at_call 11; (with_reducible refine (lex_Lex.calls ((a0 ++ (⟨#[32]⟩ : ByteArray)) ++ a1) t204 t205 t206 _ A12.out (tab_at HT.out (by repeat (first | (with_reducible first | exact HB.out | apply below_alloc | apply pw_below_drewN | apply below_drew1) | exact HB.out)))).mono ?_); rintro e w16 ⟨v207, rfl, ho0, hb⟩; have n0_ := Aside0.mk (Kd.R_elder' (by (with_reducible repeat (first | apply Kd.R_alloc | apply Kd.R_drewN | apply Kd.R_drew)); exact HO198.out) (Kd.R_base ho0) hb); have n1_ := Aside0.mk (Kd.R_elder' (by (with_reducible repeat (first | apply Kd.R_alloc | apply Kd.R_drewN | apply Kd.R_drew)); exact HO203.out) (Kd.R_base ho0) hb); have n2_ := Aside0.mk (Kd.R_lower (Kd.R_new' (Kd.R_new' ho0 (Kd.R_lt (by (with_reducible repeat (first | apply Kd.R_alloc | apply Kd.R_drewN | apply Kd.R_drew)); exact HO198.out))) (Kd.R_lt (by (with_reducible repeat (first | apply Kd.R_alloc | apply Kd.R_drewN | apply Kd.R_drew)); exact HO203.out))) (below_size (by repeat (first | (with_reducible first | exact HB.out | apply below_alloc | apply pw_below_drewN | apply below_drew1) | exact HB.out)))); have n3_ := Aside0.mk (below_step (by repeat (first | (with_reducible first | exact HB.out | apply below_alloc | apply pw_below_drewN | apply below_drew1) | exact HB.out)) hb); clear HO198; clear HO203; clear HB; have HO198 := n0_; have HO203 := n1_; have HO208 := n2_; have HB := n3_; clear n0_ n1_ n2_ n3_; (try clear hb); (try clear hb2); (try clear hk); (try clear hi); (try clear ho0))); go_upto_region 7 with (first | (go_at_call 11; (with_reducible refine (lex_Lex.calls a0 t194 t195 t196 _ A8.out (tab_at HT.out (by repeat (first | (with_reducible first | exact HB.out | apply below_alloc | apply pw_below_drewN | apply below_drew1) | exact HB.out)))).mono ?_); rintro e w14 ⟨v197, rfl, ho0, hb⟩; have n0_ := Aside0.mk (Kd.R_lower ho0 (below_size (by repeat (first | (with_reducible first | exact HB.out | apply below_alloc | apply pw_below_drewN | apply below_drew1) | exact HB.out)))); have n1_ := Aside0.mk (below_step (by repeat (first | (with_reducible first | exact HB.out | apply below_alloc | apply pw_below_drewN | apply below_drew1) | exact HB.out)) hb); clear HB; have HO198 := n0_; have HB := n1_; clear n0_ n1_; (try clear hb); (try clear hb2); (try clear hk); (try clear hi); (try clear ho0)) | (go_at_call 11; (with_reducible refine (lex_Lex.calls a1 t199 t200 t201 _ A9.out (tab_at HT.out (by repeat (first | (with_reducible first | exact HB.out | apply below_alloc | apply pw_below_drewN | apply below_drew1) | exact HB.out)))).mono ?_); rintro e w15 ⟨v202, rfl, ho0, hb⟩; have n0_ := Aside0.mk (Kd.R_elder' (by (with_reducible repeat (first | apply Kd.R_alloc | apply Kd.R_drewN | apply Kd.R_drew)); exact HO198.out) (Kd.R_base ho0) hb); have n1_ := Aside0.mk (Kd.R_lower (Kd.R_new' ho0 (Kd.R_lt (by (with_reducible repeat (first | apply Kd.R_alloc | apply Kd.R_drewN | apply Kd.R_drew)); exact HO198.out))) (below_size (by repeat (first | (with_reducible first | exact HB.out | apply below_alloc | apply pw_below_drewN | apply below_drew1) | exact HB.out)))); have n2_ := Aside0.mk (below_step (by repeat (first | (with_reducible first | exact HB.out | apply below_alloc | apply pw_below_drewN | apply below_drew1) | exact HB.out)) hb); clear HO198; clear HB; have HO198 := n0_; have HO203 := n1_; have HB := n2_; clear n0_ n1_ n2_; (try clear hb); (try clear hb2); (try clear hk); (try clear hi); (try clear ho0)) | (go_at_call 11; (with_reducible refine (lex_Lex.calls ((a0 ++ (⟨#[32]⟩ : ByteArray)) ++ a1) t204 t205 t206 _ A12.out (tab_at HT.out (by repeat (first | (with_reducible first | exact HB.out | apply below_alloc | apply pw_below_drewN | apply below_drew1) | exact HB.out)))).mono ?_); rintro e w16 ⟨v207, rfl, ho0, hb⟩; have n0_ := Aside0.mk (Kd.R_elder' (by (with_reducible repeat (first | apply Kd.R_alloc | apply Kd.R_drewN | apply Kd.R_drew)); exact HO198.out) (Kd.R_base ho0) hb); have n1_ := Aside0.mk (Kd.R_elder' (by (with_reducible repeat (first | apply Kd.R_alloc | apply Kd.R_drewN | apply Kd.R_drew)); exact HO203.out) (Kd.R_base ho0) hb); have n2_ := Aside0.mk (Kd.R_lower (Kd.R_new' (Kd.R_new' ho0 (Kd.R_lt (by (with_reducible repeat (first | apply Kd.R_alloc | apply Kd.R_drewN | apply Kd.R_drew)); exact HO198.out))) (Kd.R_lt (by (with_reducible repeat (first | apply Kd.R_alloc | apply Kd.R_drewN | apply Kd.R_drew)); exact HO203.out))) (below_size (by repeat (first | (with_reducible first | exact HB.out | apply below_alloc | apply pw_below_drewN | apply below_drew1) | exact HB.out)))); have n3_ := Aside0.mk (below_step (by repeat (first | (with_reducible first | exact HB.out | apply below_alloc | apply pw_below_drewN | apply below_drew1) | exact HB.out)) hb); clear HO198; clear HO203; clear HB; have HO198 := n0_; have HO203 := n1_; have HO208 := n2_; have HB := n3_; clear n0_ n1_ n2_ n3_; (try clear hb); (try clear hb2); (try clear hk); (try clear hi); (try clear ho0))))
            (try simp only [Act.put, List.setIfInBounds_toArray, List.set_cons_zero, List.set_cons_succ])
            go_cut [53] (fun v53 wc => ∃ (kq : Nat) (x53_12 : Bool), v53 = .bool x53_12 ∧ Aside0 (weathercocklaw07_LexTwo.j1 kq a0 t193 t194 t195 t199 t204 t205 x53_12 = some r) ∧ Aside0 (kq ≤ kj3) ∧ Aside0 (Kd.R k32 32 wc w.heap.size (fun k_ => some k_ ≠ (v202 : Value).ownBlock ∧ some k_ ≠ (v207 : Value).ownBlock) v197 t194) ∧ Aside0 (Kd.R k32 32 wc w.heap.size (fun k_ => some k_ ≠ (v197 : Value).ownBlock ∧ some k_ ≠ (v207 : Value).ownBlock) v202 t199) ∧ Aside0 (Kd.R k32 32 wc w.heap.size (fun k_ => some k_ ≠ (v197 : Value).ownBlock ∧ some k_ ≠ (v202 : Value).ownBlock) v207 t204) ∧ Aside0 (Below w.heap.size w wc))
            case first =>
              have H := HC13.out
              clear HC13
              by_cases c17 : t195 = 0
              · rw [if_pos c17] at H
                have c17b0 : (t195 == 0) = true := beq_iff_eq.mpr c17
                have c17b1 : (t195 != 0) = false := bne_eq_false_iff_eq.mpr c17
                clear c17
                (first | rw [c17b0] | (simp only [i64_w, i32_w]; rw [c17b0]) | skip)
                have H' := Aside0.mk H
                clear H
                go_wp2
                repeat (go_quiet (fail); try go_wp2)
                go_meet
                case rel => exact ⟨_, ((t200 != 0)), (by first | rfl | (simp; done) | (simp [*]; done)), H', ⟨by have := HJ3.out; first | omega | exact Nat.le_refl _⟩, ⟨by (with_reducible repeat (first | apply Kd.R_alloc | apply Kd.R_drewN | apply Kd.R_drew)); exact Kd.R_mono HO198.out (fun _ hk => ⟨hk.1.2, hk.2⟩)⟩, ⟨by (with_reducible repeat (first | apply Kd.R_alloc | apply Kd.R_drewN | apply Kd.R_drew)); exact Kd.R_mono HO203.out (fun _ hk => ⟨hk.1.2, hk.2⟩)⟩, ⟨by (with_reducible repeat (first | apply Kd.R_alloc | apply Kd.R_drewN | apply Kd.R_drew)); exact Kd.R_mono HO208.out (fun _ hk => ⟨hk.1.2, hk.2⟩)⟩, ⟨by repeat (first | (with_reducible first | exact HB.out | apply below_alloc | apply pw_below_drewN | apply below_drew1) | exact HB.out)⟩⟩
              · rw [if_neg c17] at H
                have c17b0 : (t195 == 0) = false := beq_eq_false_iff_ne.mpr c17
                have c17b1 : (t195 != 0) = true := bne_iff_ne.mpr c17
                (first | rw [c17b0] | (simp only [i64_w, i32_w]; rw [c17b0]) | skip)
                have H' := Aside0.mk H
                clear H
                go_wp2
                repeat (go_quiet (fail); try go_wp2)
                go_meet
                case rel => exact ⟨_, (true), (by first | rfl | (simp; done) | (simp [*]; done)), H', ⟨by have := HJ3.out; first | omega | exact Nat.le_refl _⟩, ⟨by (with_reducible repeat (first | apply Kd.R_alloc | apply Kd.R_drewN | apply Kd.R_drew)); exact Kd.R_mono HO198.out (fun _ hk => ⟨hk.1.2, hk.2⟩)⟩, ⟨by (with_reducible repeat (first | apply Kd.R_alloc | apply Kd.R_drewN | apply Kd.R_drew)); exact Kd.R_mono HO203.out (fun _ hk => ⟨hk.1.2, hk.2⟩)⟩, ⟨by (with_reducible repeat (first | apply Kd.R_alloc | apply Kd.R_drewN | apply Kd.R_drew)); exact Kd.R_mono HO208.out (fun _ hk => ⟨hk.1.2, hk.2⟩)⟩, ⟨by repeat (first | (with_reducible first | exact HB.out | apply below_alloc | apply pw_below_drewN | apply below_drew1) | exact HB.out)⟩⟩
            case rest =>
              clear HC13
              try clear c1
              try clear p2
              try clear c6
              try clear c6b0
              try clear c6b1
              try clear c7
              try clear c10
              try clear c10b0
              try clear c10b1
              try clear c10b2
              try clear c11
              try clear c11b0
              try clear c11b1
              try clear c11b2
              try clear c17
              try clear c17b0
              try clear c17b1
              try clear p2
              obtain ⟨kq, x53_12, rfl, HA, HJ12, HO_6, HO_9, HO_12, HB⟩ := hcut
              cases kq with
              | zero => exact absurd HA.out (by simp [weathercocklaw07_LexTwo.j1])
              | succ kj12 =>
                have H := HA.out
                clear HA
                simp only [weathercocklaw07_LexTwo.j1] at H
                by_cases c18 : x53_12 = true
                · subst c18
                  have H1 : (if t193 = true then (if t195 = 0 then (some true) else (if t205 = 0 then (some (decide ((a0.size : Int) > 0))) else (some true))) else (some false)) = some r := by rw [if_pos rfl] at H; exact H
                  clear H
                  have H := H1
                  clear H1
                  by_cases c19 : t193 = true
                  · subst c19
                    have H1 : (if t195 = 0 then (some true) else (if t205 = 0 then (some (decide ((a0.size : Int) > 0))) else (some true))) = some r := by rw [if_pos rfl] at H; exact H
                    clear H
                    have H := H1
                    clear H1
                    by_cases c20 : t195 = 0
                    · rw [if_pos c20] at H
                      have c20b0 : (t195 == 0) = true := beq_iff_eq.mpr c20
                      have c20b1 : (t195 != 0) = false := bne_eq_false_iff_eq.mpr c20
                      clear c20
                      obtain rfl := Option.some.inj H
                      go_wp2
                      repeat (go_quiet (fail); try go_wp2)
                      go_ret
                      exact ⟨by first | rfl | (simp [errW_none, errW_some] <;> rfl) | (simp [*, errW_none, errW_some] <;> rfl), by repeat (first | (with_reducible first | exact HB.out | apply below_alloc | apply pw_below_drewN | apply below_drew1) | exact HB.out)⟩
                    · rw [if_neg c20] at H
                      have c20b0 : (t195 == 0) = false := beq_eq_false_iff_ne.mpr c20
                      have c20b1 : (t195 != 0) = true := bne_iff_ne.mpr c20
                      by_cases c21 : t205 = 0
                      · rw [if_pos c21] at H
                        have c21b0 : (t205 == 0) = true := beq_iff_eq.mpr c21
                        have c21b1 : (t205 != 0) = false := bne_eq_false_iff_eq.mpr c21
                        clear c21
                        obtain rfl := Option.some.inj H
                        go_wp2
                        repeat (go_quiet (fail); try go_wp2)
                        go_ret
                        exact ⟨by first | rfl | (simp [errW_none, errW_some] <;> rfl) | (simp [*, errW_none, errW_some] <;> rfl), by repeat (first | (with_reducible first | exact HB.out | apply below_alloc | apply pw_below_drewN | apply below_drew1) | exact HB.out)⟩
                      · rw [if_neg c21] at H
                        have c21b0 : (t205 == 0) = false := beq_eq_false_iff_ne.mpr c21
                        have c21b1 : (t205 != 0) = true := bne_iff_ne.mpr c21
                        obtain rfl := Option.some.inj H
                        go_wp2
                        repeat (go_quiet (fail); try go_wp2)
                        go_ret
                        exact ⟨by first | rfl | (simp [errW_none, errW_some] <;> rfl) | (simp [*, errW_none, errW_some] <;> rfl), by repeat (first | (with_reducible first | exact HB.out | apply below_alloc | apply pw_below_drewN | apply below_drew1) | exact HB.out)⟩
                  · replace c19 := Bool.eq_false_iff.mpr c19
                    subst c19
                    have H1 : (some false) = some r := by rw [if_neg (show ¬ (false = true) by decide)] at H; exact H
                    clear H
                    have H := H1
                    clear H1
                    obtain rfl := Option.some.inj H
                    go_wp2
                    repeat (go_quiet (fail); try go_wp2)
                    go_ret
                    exact ⟨by first | rfl | (simp [errW_none, errW_some] <;> rfl) | (simp [*, errW_none, errW_some] <;> rfl), by repeat (first | (with_reducible first | exact HB.out | apply below_alloc | apply pw_below_drewN | apply below_drew1) | exact HB.out)⟩
                · replace c18 := Bool.eq_false_iff.mpr c18
                  subst c18
                  have H1 : (if (wrap64 ((t194.length : Int) + (t199.length : Int))) > 400 then (if t193 = true then (some (t205 == 5)) else (some false)) else (if t205 = 0 then (weathercocklaw07_LexTwo.j2 kj12 a0 t193 t194 t199 t204 ((t204.length : Int) != (wrap64 ((t194.length : Int) + (t199.length : Int))))) else (weathercocklaw07_LexTwo.j2 kj12 a0 t193 t194 t199 t204 true))) = some r := by rw [if_neg (show ¬ (false = true) by decide)] at H; exact H
                  clear H
                  have H := H1
                  clear H1
                  by_cases c22 : (wrap64 ((t194.length : Int) + (t199.length : Int))) > 400
                  · rw [if_pos c22] at H
                    have c22b0 : decide (400 < (wrap64 ((t194.length : Int) + (t199.length : Int)))) = true := decide_eq_true c22
                    clear c22
                    by_cases c23 : t193 = true
                    · subst c23
                      have H1 : (some (t205 == 5)) = some r := by rw [if_pos rfl] at H; exact H
                      clear H
                      have H := H1
                      clear H1
                      obtain rfl := Option.some.inj H
                      obtain ⟨Ao24, co24, eo24⟩ := Kd.R_slice HO_6.out
                      subst eo24
                      obtain ⟨Ao25, co25, eo25⟩ := Kd.R_slice HO_9.out
                      subst eo25
                      go_wp2
                      repeat (go_quiet (fail); try go_wp2)
                      go_ret
                      exact ⟨by first | rfl | (simp [errW_none, errW_some] <;> rfl) | (simp [*, errW_none, errW_some] <;> rfl), by repeat (first | (with_reducible first | exact HB.out | apply below_alloc | apply pw_below_drewN | apply below_drew1) | exact HB.out)⟩
                    · replace c23 := Bool.eq_false_iff.mpr c23
                      subst c23
                      have H1 : (some false) = some r := by rw [if_neg (show ¬ (false = true) by decide)] at H; exact H
                      clear H
                      have H := H1
                      clear H1
                      obtain rfl := Option.some.inj H
                      obtain ⟨Ao26, co26, eo26⟩ := Kd.R_slice HO_6.out
                      subst eo26
                      obtain ⟨Ao27, co27, eo27⟩ := Kd.R_slice HO_9.out
                      subst eo27
                      go_wp2
                      repeat (go_quiet (fail); try go_wp2)
                      go_ret
                      exact ⟨by first | rfl | (simp [errW_none, errW_some] <;> rfl) | (simp [*, errW_none, errW_some] <;> rfl), by repeat (first | (with_reducible first | exact HB.out | apply below_alloc | apply pw_below_drewN | apply below_drew1) | exact HB.out)⟩
                  · rw [if_neg c22] at H
                    have c22b0 : decide (400 < (wrap64 ((t194.length : Int) + (t199.length : Int)))) = false := decide_eq_false c22
                    clear c22
                    have HC28 := Aside0.mk H
                    clear H
                    obtain ⟨Ao29, co29, eo29⟩ := Kd.R_slice HO_6.out
                    subst eo29
                    obtain ⟨Ao30, co30, eo30⟩ := Kd.R_slice HO_9.out
                    subst eo30
                    go_upto_region 11 with (fail)
                    repeat (go_quiet (fail); go_upto_region 11 with (fail))
                    go_cut [90] (fun v90 wc => ∃ (kq : Nat) (x90_27 : Bool), v90 = .bool x90_27 ∧ Aside0 (weathercocklaw07_LexTwo.j2 kq a0 t193 t194 t199 t204 x90_27 = some r) ∧ Aside0 (kq ≤ kj12) ∧ Aside0 (Kd.R k32 32 wc w.heap.size (fun k_ => some k_ ≠ ((.slice Ao30 t199.length co30) : Value).ownBlock ∧ some k_ ≠ (v207 : Value).ownBlock) (.slice Ao29 t194.length co29) t194) ∧ Aside0 (Kd.R k32 32 wc w.heap.size (fun k_ => some k_ ≠ ((.slice Ao29 t194.length co29) : Value).ownBlock ∧ some k_ ≠ (v207 : Value).ownBlock) (.slice Ao30 t199.length co30) t199) ∧ Aside0 (Kd.R k32 32 wc w.heap.size (fun k_ => some k_ ≠ ((.slice Ao29 t194.length co29) : Value).ownBlock ∧ some k_ ≠ ((.slice Ao30 t199.length co30) : Value).ownBlock) v207 t204) ∧ Aside0 (Below w.heap.size w wc))
                    case first =>
                      have H := HC28.out
                      clear HC28
                      by_cases c31 : t205 = 0
                      · rw [if_pos c31] at H
                        have c31b0 : (t205 == 0) = true := beq_iff_eq.mpr c31
                        have c31b1 : (t205 != 0) = false := bne_eq_false_iff_eq.mpr c31
                        clear c31
                        (first | rw [c31b0] | (simp only [i64_w, i32_w]; rw [c31b0]) | skip)
                        have H' := Aside0.mk H
                        clear H
                        obtain ⟨Ao32, co32, eo32⟩ := Kd.R_slice HO_12.out
                        subst eo32
                        go_wp2
                        repeat (go_quiet (fail); try go_wp2)
                        go_meet
                        case rel => exact ⟨_, (((t204.length : Int) != (wrap64 ((t194.length : Int) + (t199.length : Int))))), (by first | rfl | (simp; done) | (simp [*]; done)), H', ⟨by have := HJ3.out; have := HJ12.out; first | omega | exact Nat.le_refl _⟩, ⟨by (with_reducible repeat (first | apply Kd.R_alloc | apply Kd.R_drewN | apply Kd.R_drew)); exact HO_6.out⟩, ⟨by (with_reducible repeat (first | apply Kd.R_alloc | apply Kd.R_drewN | apply Kd.R_drew)); exact HO_9.out⟩, ⟨by (with_reducible repeat (first | apply Kd.R_alloc | apply Kd.R_drewN | apply Kd.R_drew)); exact HO_12.out⟩, ⟨by repeat (first | (with_reducible first | exact HB.out | apply below_alloc | apply pw_below_drewN | apply below_drew1) | exact HB.out)⟩⟩
                      · rw [if_neg c31] at H
                        have c31b0 : (t205 == 0) = false := beq_eq_false_iff_ne.mpr c31
                        have c31b1 : (t205 != 0) = true := bne_iff_ne.mpr c31
                        (first | rw [c31b0] | (simp only [i64_w, i32_w]; rw [c31b0]) | skip)
                        have H' := Aside0.mk H
                        clear H
                        go_wp2
                        repeat (go_quiet (fail); try go_wp2)
                        go_meet
                        case rel => exact ⟨_, (true), (by first | rfl | (simp; done) | (simp [*]; done)), H', ⟨by have := HJ3.out; have := HJ12.out; first | omega | exact Nat.le_refl _⟩, ⟨by (with_reducible repeat (first | apply Kd.R_alloc | apply Kd.R_drewN | apply Kd.R_drew)); exact HO_6.out⟩, ⟨by (with_reducible repeat (first | apply Kd.R_alloc | apply Kd.R_drewN | apply Kd.R_drew)); exact HO_9.out⟩, ⟨by (with_reducible repeat (first | apply Kd.R_alloc | apply Kd.R_drewN | apply Kd.R_drew)); exact HO_12.out⟩, ⟨by repeat (first | (with_reducible first | exact HB.out | apply below_alloc | apply pw_below_drewN | apply below_drew1) | exact HB.out)⟩⟩
                    case rest =>
                      clear HC28
                      try clear c1
                      try clear c2
                      try clear p2
                      try clear c3
                      try clear c6
                      try clear c6b0
                      try clear c6b1
                      try clear p6
                      try clear c7
                      try clear c10
                      try clear c10b0
                      try clear c10b1
                      try clear c10b2
                      try clear c11
                      try clear c11b0
                      try clear c11b1
                      try clear c11b2
                      try clear c17
                      try clear c17b0
                      try clear c17b1
                      try clear c18
                      try clear c19
                      try clear c20
                      try clear c20b0
                      try clear c20b1
                      try clear c21
                      try clear c21b0
                      try clear c21b1
                      try clear c22
                      try clear c22b0
                      try clear c23
                      try clear c31
                      try clear c31b0
                      try clear c31b1
                      try clear p2
                      obtain ⟨kq, x90_27, rfl, HA, HJ27, HO_6, HO_9, HO_12, HB⟩ := hcut
                      cases kq with
                      | zero => exact absurd HA.out (by simp [weathercocklaw07_LexTwo.j2])
                      | succ kj27 =>
                        have H := HA.out
                        clear HA
                        simp only [weathercocklaw07_LexTwo.j2] at H
                        by_cases c33 : x90_27 = true
                        · subst c33
                          have H1 : (some false) = some r := by rw [if_pos rfl] at H; exact H
                          clear H
                          have H := H1
                          clear H1
                          obtain rfl := Option.some.inj H
                          go_wp2
                          repeat (go_quiet (fail); try go_wp2)
                          go_ret
                          exact ⟨by first | rfl | (simp [errW_none, errW_some] <;> rfl) | (simp [*, errW_none, errW_some] <;> rfl), by repeat (first | (with_reducible first | exact HB.out | apply below_alloc | apply pw_below_drewN | apply below_drew1) | exact HB.out)⟩
                        · replace c33 := Bool.eq_false_iff.mpr c33
                          subst c33
                          have H1 : (weathercocklaw07_LexTwo.l0 kj27 a0 t193 t194 t199 t204 0) = some r := by rw [if_neg (show ¬ (false = true) by decide)] at H; exact H
                          clear H
                          have H := H1
                          clear H1
                          have H' := Aside0.mk H
                          clear H
                          go_wp2
                          repeat (go_quiet (fail); try go_wp2)
                          go_loopg [15] kj27 (fun kq v15 w' => ∃ (x15_4 : Int), v15 = .int .i64 x15_4 ∧ Aside0 (weathercocklaw07_LexTwo.l0 kq a0 t193 t194 t199 t204 x15_4 = some r) ∧ Aside0 (kq ≤ kj27) ∧ Aside0 (Kd.R k32 32 w' w.heap.size (fun k_ => some k_ ≠ ((.slice Ao30 t199.length co30) : Value).ownBlock ∧ some k_ ≠ (v207 : Value).ownBlock) (.slice Ao29 t194.length co29) t194) ∧ Aside0 (Kd.R k32 32 w' w.heap.size (fun k_ => some k_ ≠ ((.slice Ao29 t194.length co29) : Value).ownBlock ∧ some k_ ≠ (v207 : Value).ownBlock) (.slice Ao30 t199.length co30) t199) ∧ Aside0 (Kd.R k32 32 w' w.heap.size (fun k_ => some k_ ≠ ((.slice Ao29 t194.length co29) : Value).ownBlock ∧ some k_ ≠ ((.slice Ao30 t199.length co30) : Value).ownBlock) v207 t204) ∧ Aside0 (Below w.heap.size w w'))
                          case atStart => exact ⟨(0), (by first | rfl | (simp; done) | (simp [*]; done)), H', ⟨Nat.le_refl _⟩, ⟨by (with_reducible repeat (first | apply Kd.R_alloc | apply Kd.R_drewN | apply Kd.R_drew)); exact HO_6.out⟩, ⟨by (with_reducible repeat (first | apply Kd.R_alloc | apply Kd.R_drewN | apply Kd.R_drew)); exact HO_9.out⟩, ⟨by (with_reducible repeat (first | apply Kd.R_alloc | apply Kd.R_drewN | apply Kd.R_drew)); exact HO_12.out⟩, ⟨by repeat (first | (with_reducible first | exact HB.out | apply below_alloc | apply pw_below_drewN | apply below_drew1) | exact HB.out)⟩⟩
                          case round =>
                            clear H'
                            try clear c1
                            try clear c2
                            try clear p2
                            try clear c3
                            try clear c6
                            try clear c6b0
                            try clear c6b1
                            try clear p6
                            try clear c7
                            try clear c10
                            try clear c10b0
                            try clear c10b1
                            try clear c10b2
                            try clear c11
                            try clear c11b0
                            try clear c11b1
                            try clear c11b2
                            try clear c17
                            try clear c17b0
                            try clear c17b1
                            try clear c18
                            try clear c19
                            try clear c20
                            try clear c20b0
                            try clear c20b1
                            try clear c21
                            try clear c21b0
                            try clear c21b1
                            try clear c22
                            try clear c22b0
                            try clear c23
                            try clear c31
                            try clear c31b0
                            try clear c31b1
                            try clear c33
                            try clear p2
                            try clear p6
                            obtain ⟨x15_4, rfl, HA, HK4, HO_6, HO_9, HO_12, HB⟩ := hrel
                            cases gk with
                            | zero => exact absurd HA.out (by simp [weathercocklaw07_LexTwo.l0])
                            | succ k4 =>
                              have H := HA.out
                              clear HA
                              simp only [weathercocklaw07_LexTwo.l0] at H
                              by_cases c34 : x15_4 < (t204.length : Int)
                              · rw [if_pos c34] at H
                                have c34b0 : decide (x15_4 < (t204.length : Int)) = true := decide_eq_true c34
                                clear c34
                                by_cases c35 : 0 ≤ x15_4
                                · rw [if_pos c35] at H
                                  have c35b0 : decide (0 ≤ x15_4) = true := decide_eq_true c35
                                  clear c35
                                  have HC36 := Aside0.mk H
                                  clear H
                                  obtain ⟨Ao37, co37, eo37⟩ := Kd.R_slice HO_12.out
                                  subst eo37
                                  have p209 : 0 ≤ (x15_4 : Int) := of_decide_eq_true (by first | (with_reducible assumption) | assumption)
                                  have q209 : x15_4 < (t204.length : Int) := of_decide_eq_true (by first | (with_reducible assumption) | assumption)
                                  obtain ⟨ad209, e209, hx209_0, hx209_1, hx209_2, hx209_3⟩ := at_T32 (Kd.R_reads' HO_12.out).2.2 x15_4 p209 q209
                                  cases e209
                                  replace p209 := eq_true p209
                                  replace q209 := eq_true q209
                                  go_upto_region 17 with (first | ((with_reducible refine gate_dst (N := 16) rfl ?_); (try (refine gate_guard (by rfl) ?_; dsimp only)); refine box_event ?hg (N := 16) ?hd (cs := #[.int .i64 0, .int .i64 0, .int .i64 0, .string (⟨#[]⟩ : ByteArray)]) (t := 32) ?hr ?_; (case hd => rfl); (case hg => rfl); (case hr => first | (go_simp; done) | (go_simp; rfl)); intro gb210 hg w38 hbox hb; have n0_ := Aside0.mk (Kd.R_below (Kd.R_elderB (by (with_reducible repeat (first | apply Kd.R_alloc | apply Kd.R_drewN | apply Kd.R_drew)); exact HO_6.out) gb210 (Nat.le_of_eq hg.symm)) hb); have n1_ := Aside0.mk (Kd.R_below (Kd.R_elderB (by (with_reducible repeat (first | apply Kd.R_alloc | apply Kd.R_drewN | apply Kd.R_drew)); exact HO_9.out) gb210 (Nat.le_of_eq hg.symm)) hb); have n2_ := Aside0.mk (Kd.R_below (Kd.R_elderB (by (with_reducible repeat (first | apply Kd.R_alloc | apply Kd.R_drewN | apply Kd.R_drew)); exact HO_12.out) gb210 (Nat.le_of_eq hg.symm)) hb); have n3_ := Aside0.mk (below_step (by repeat (first | (with_reducible first | exact HB.out | apply below_alloc | apply pw_below_drewN | apply below_drew1) | exact HB.out)) hb); have n4_ := Aside0.mk (hbox); have n5_ := Aside0.mk ((by rw [hg]; exact (below_size (by repeat (first | (with_reducible first | exact HB.out | apply below_alloc | apply pw_below_drewN | apply below_drew1) | exact HB.out))) : w.heap.size ≤ gb210)); have n6_ := Aside0.mk ((by rw [hg]; exact (below_size (by repeat (first | (with_reducible first | exact HB.out | apply below_alloc | apply pw_below_drewN | apply below_drew1) | exact HB.out))) : w.heap.size ≤ gb210)); clear HO_6; clear HO_9; clear HO_12; clear HB; have HO_6 := n0_; have HO_9 := n1_; have HO_12 := n2_; have HB := n3_; have BK210 := n4_; have GW210 := n5_; have GE210 := n6_; clear n0_ n1_ n2_ n3_ n4_ n5_ n6_; clear hb hbox hg; have hcz39_0 : w38.cell? ⟨gb210, 0, none⟩ = some (.int .i64 0) := (blk_cell BK210.out 0).trans rfl; have hcz39_1 : w38.cell? ⟨gb210, 1, none⟩ = some (.int .i64 0) := (blk_cell BK210.out 1).trans rfl; have hcz39_2 : w38.cell? ⟨gb210, 2, none⟩ = some (.int .i64 0) := (blk_cell BK210.out 2).trans rfl; have hcz39_3 : w38.cell? ⟨gb210, 3, none⟩ = some (.string (⟨#[]⟩ : ByteArray)) := (blk_cell BK210.out 3).trans rfl; have hfz39_0 := blk_frozen BK210.out 0; have hfz39_1 := blk_frozen BK210.out 1; have hfz39_2 := blk_frozen BK210.out 2; have hfz39_3 := blk_frozen BK210.out 3))
                                  repeat (go_quiet (first | ((with_reducible refine gate_dst (N := 16) rfl ?_); (try (refine gate_guard (by rfl) ?_; dsimp only)); refine box_event ?hg (N := 16) ?hd (cs := #[.int .i64 0, .int .i64 0, .int .i64 0, .string (⟨#[]⟩ : ByteArray)]) (t := 32) ?hr ?_; (case hd => rfl); (case hg => rfl); (case hr => first | (go_simp; done) | (go_simp; rfl)); intro gb210 hg w38 hbox hb; have n0_ := Aside0.mk (Kd.R_below (Kd.R_elderB (by (with_reducible repeat (first | apply Kd.R_alloc | apply Kd.R_drewN | apply Kd.R_drew)); exact HO_6.out) gb210 (Nat.le_of_eq hg.symm)) hb); have n1_ := Aside0.mk (Kd.R_below (Kd.R_elderB (by (with_reducible repeat (first | apply Kd.R_alloc | apply Kd.R_drewN | apply Kd.R_drew)); exact HO_9.out) gb210 (Nat.le_of_eq hg.symm)) hb); have n2_ := Aside0.mk (Kd.R_below (Kd.R_elderB (by (with_reducible repeat (first | apply Kd.R_alloc | apply Kd.R_drewN | apply Kd.R_drew)); exact HO_12.out) gb210 (Nat.le_of_eq hg.symm)) hb); have n3_ := Aside0.mk (below_step (by repeat (first | (with_reducible first | exact HB.out | apply below_alloc | apply pw_below_drewN | apply below_drew1) | exact HB.out)) hb); have n4_ := Aside0.mk (hbox); have n5_ := Aside0.mk ((by rw [hg]; exact (below_size (by repeat (first | (with_reducible first | exact HB.out | apply below_alloc | apply pw_below_drewN | apply below_drew1) | exact HB.out))) : w.heap.size ≤ gb210)); have n6_ := Aside0.mk ((by rw [hg]; exact (below_size (by repeat (first | (with_reducible first | exact HB.out | apply below_alloc | apply pw_below_drewN | apply below_drew1) | exact HB.out))) : w.heap.size ≤ gb210)); clear HO_6; clear HO_9; clear HO_12; clear HB; have HO_6 := n0_; have HO_9 := n1_; have HO_12 := n2_; have HB := n3_; have BK210 := n4_; have GW210 := n5_; have GE210 := n6_; clear n0_ n1_ n2_ n3_ n4_ n5_ n6_; clear hb hbox hg; have hcz39_0 : w38.cell? ⟨gb210, 0, none⟩ = some (.int .i64 0) := (blk_cell BK210.out 0).trans rfl; have hcz39_1 : w38.cell? ⟨gb210, 1, none⟩ = some (.int .i64 0) := (blk_cell BK210.out 1).trans rfl; have hcz39_2 : w38.cell? ⟨gb210, 2, none⟩ = some (.int .i64 0) := (blk_cell BK210.out 2).trans rfl; have hcz39_3 : w38.cell? ⟨gb210, 3, none⟩ = some (.string (⟨#[]⟩ : ByteArray)) := (blk_cell BK210.out 3).trans rfl; have hfz39_0 := blk_frozen BK210.out 0; have hfz39_1 := blk_frozen BK210.out 1; have hfz39_2 := blk_frozen BK210.out 2; have hfz39_3 := blk_frozen BK210.out 3)); go_upto_region 17 with (first | ((with_reducible refine gate_dst (N := 16) rfl ?_); (try (refine gate_guard (by rfl) ?_; dsimp only)); refine box_event ?hg (N := 16) ?hd (cs := #[.int .i64 0, .int .i64 0, .int .i64 0, .string (⟨#[]⟩ : ByteArray)]) (t := 32) ?hr ?_; (case hd => rfl); (case hg => rfl); (case hr => first | (go_simp; done) | (go_simp; rfl)); intro gb210 hg w38 hbox hb; have n0_ := Aside0.mk (Kd.R_below (Kd.R_elderB (by (with_reducible repeat (first | apply Kd.R_alloc | apply Kd.R_drewN | apply Kd.R_drew)); exact HO_6.out) gb210 (Nat.le_of_eq hg.symm)) hb); have n1_ := Aside0.mk (Kd.R_below (Kd.R_elderB (by (with_reducible repeat (first | apply Kd.R_alloc | apply Kd.R_drewN | apply Kd.R_drew)); exact HO_9.out) gb210 (Nat.le_of_eq hg.symm)) hb); have n2_ := Aside0.mk (Kd.R_below (Kd.R_elderB (by (with_reducible repeat (first | apply Kd.R_alloc | apply Kd.R_drewN | apply Kd.R_drew)); exact HO_12.out) gb210 (Nat.le_of_eq hg.symm)) hb); have n3_ := Aside0.mk (below_step (by repeat (first | (with_reducible first | exact HB.out | apply below_alloc | apply pw_below_drewN | apply below_drew1) | exact HB.out)) hb); have n4_ := Aside0.mk (hbox); have n5_ := Aside0.mk ((by rw [hg]; exact (below_size (by repeat (first | (with_reducible first | exact HB.out | apply below_alloc | apply pw_below_drewN | apply below_drew1) | exact HB.out))) : w.heap.size ≤ gb210)); have n6_ := Aside0.mk ((by rw [hg]; exact (below_size (by repeat (first | (with_reducible first | exact HB.out | apply below_alloc | apply pw_below_drewN | apply below_drew1) | exact HB.out))) : w.heap.size ≤ gb210)); clear HO_6; clear HO_9; clear HO_12; clear HB; have HO_6 := n0_; have HO_9 := n1_; have HO_12 := n2_; have HB := n3_; have BK210 := n4_; have GW210 := n5_; have GE210 := n6_; clear n0_ n1_ n2_ n3_ n4_ n5_ n6_; clear hb hbox hg; have hcz39_0 : w38.cell? ⟨gb210, 0, none⟩ = some (.int .i64 0) := (blk_cell BK210.out 0).trans rfl; have hcz39_1 : w38.cell? ⟨gb210, 1, none⟩ = some (.int .i64 0) := (blk_cell BK210.out 1).trans rfl; have hcz39_2 : w38.cell? ⟨gb210, 2, none⟩ = some (.int .i64 0) := (blk_cell BK210.out 2).trans rfl; have hcz39_3 : w38.cell? ⟨gb210, 3, none⟩ = some (.string (⟨#[]⟩ : ByteArray)) := (blk_cell BK210.out 3).trans rfl; have hfz39_0 := blk_frozen BK210.out 0; have hfz39_1 := blk_frozen BK210.out 1; have hfz39_2 := blk_frozen BK210.out 2; have hfz39_3 := blk_frozen BK210.out 3)))
                                  (try simp only [Act.put, List.setIfInBounds_toArray, List.set_cons_zero, List.set_cons_succ])
                                  go_cut [112] (fun v112 wc => ∃ (kq : Nat) (x112_35 : Bool), v112 = .bool x112_35 ∧ Aside0 (weathercocklaw07_LexTwo.j4 kq a0 t193 t194 t199 t204 x15_4 x112_35 ((rd_T32 t204 x15_4).f0) ((rd_T32 t204 x15_4).f1) ((rd_T32 t204 x15_4).f2) ((rd_T32 t204 x15_4).f3) = some r) ∧ Aside0 (kq ≤ k4) ∧ Aside0 (Kd.R k32 32 wc w.heap.size (fun k_ => some k_ ≠ ((.slice Ao30 t199.length co30) : Value).ownBlock ∧ some k_ ≠ ((.slice (some ad209) t204.length co37) : Value).ownBlock ∧ k_ ≠ gb210) (.slice Ao29 t194.length co29) t194) ∧ Aside0 (Kd.R k32 32 wc w.heap.size (fun k_ => some k_ ≠ ((.slice Ao29 t194.length co29) : Value).ownBlock ∧ some k_ ≠ ((.slice (some ad209) t204.length co37) : Value).ownBlock ∧ k_ ≠ gb210) (.slice Ao30 t199.length co30) t199) ∧ Aside0 (Kd.R k32 32 wc w.heap.size (fun k_ => some k_ ≠ ((.slice Ao29 t194.length co29) : Value).ownBlock ∧ some k_ ≠ ((.slice Ao30 t199.length co30) : Value).ownBlock ∧ k_ ≠ gb210) (.slice (some ad209) t204.length co37) t204) ∧ Aside0 (wc.heap[gb210]? = some (.cells #[.int .i64 ((rd_T32 t204 x15_4).f0), .int .i64 ((rd_T32 t204 x15_4).f1), .int .i64 ((rd_T32 t204 x15_4).f2), .string ((rd_T32 t204 x15_4).f3)] 32 (0, 0))) ∧ Aside0 (Below w.heap.size w wc))
                                  case first =>
                                    have H := HC36.out
                                    clear HC36
                                    by_cases c40 : x15_4 < (t194.length : Int)
                                    · rw [if_pos c40] at H
                                      have c40b0 : decide (x15_4 < (t194.length : Int)) = true := decide_eq_true c40
                                      clear c40
                                      (first | rw [c40b0] | (simp only [i64_w, i32_w]; rw [c40b0]) | skip)
                                      have H' := Aside0.mk H
                                      clear H
                                      have hcz41_0 : w38.cell? ⟨gb210, 0, none⟩ = some (.int .i64 0) := (blk_cell BK210.out 0).trans rfl
                                      have hcz41_1 : w38.cell? ⟨gb210, 1, none⟩ = some (.int .i64 0) := (blk_cell BK210.out 1).trans rfl
                                      have hcz41_2 : w38.cell? ⟨gb210, 2, none⟩ = some (.int .i64 0) := (blk_cell BK210.out 2).trans rfl
                                      have hcz41_3 : w38.cell? ⟨gb210, 3, none⟩ = some (.string (⟨#[]⟩ : ByteArray)) := (blk_cell BK210.out 3).trans rfl
                                      have hfz41_0 := blk_frozen BK210.out 0
                                      have hfz41_1 := blk_frozen BK210.out 1
                                      have hfz41_2 := blk_frozen BK210.out 2
                                      have hfz41_3 := blk_frozen BK210.out 3
                                      have p211 : 0 ≤ (x15_4 : Int) := of_decide_eq_true (by first | (with_reducible assumption) | assumption)
                                      have q211 : x15_4 < (t194.length : Int) := of_decide_eq_true (by first | (with_reducible assumption) | assumption)
                                      obtain ⟨ad211, e211, hx211_0, hx211_1, hx211_2, hx211_3⟩ := at_T32 (Kd.R_reads' HO_6.out).2.2 x15_4 p211 q211
                                      cases e211
                                      have hn211_0 : ad211.block ≠ gb210 := Kd.own_blk (by first | exact Kd.R_ne HO_6.out BK210.out (by decide) | exact Kd.R_away HO_6.out (fun _ hk => hk.2) | exact Kd.R_away HO_6.out (fun _ hk => hk.2.2))
                                      have hn211_1 : ad211.block ≠ gb210 := Kd.own_blk (by first | exact Kd.R_ne HO_6.out BK210.out (by decide) | exact Kd.R_away HO_6.out (fun _ hk => hk.2) | exact Kd.R_away HO_6.out (fun _ hk => hk.2.2))
                                      have hn211_2 : ad211.block ≠ gb210 := Kd.own_blk (by first | exact Kd.R_ne HO_6.out BK210.out (by decide) | exact Kd.R_away HO_6.out (fun _ hk => hk.2) | exact Kd.R_away HO_6.out (fun _ hk => hk.2.2))
                                      have hn211_3 : ad211.block ≠ gb210 := Kd.own_blk (by first | exact Kd.R_ne HO_6.out BK210.out (by decide) | exact Kd.R_away HO_6.out (fun _ hk => hk.2) | exact Kd.R_away HO_6.out (fun _ hk => hk.2.2))
                                      replace hx211_0 := (cell_far (p := ⟨gb210, 0, none⟩) (by first | (rw [add_block]; exact hn211_0) | (show (Addr.add _ _).block ≠ _; rw [add_block]; exact hn211_0) | exact hn211_0) (.int .i64 ((rd_T32 t204 x15_4).f0))).trans hx211_0
                                      replace hx211_1 := (cell_far (p := ⟨gb210, 0, none⟩) (by first | (rw [add_block]; exact hn211_0) | (show (Addr.add _ _).block ≠ _; rw [add_block]; exact hn211_0) | exact hn211_0) (.int .i64 ((rd_T32 t204 x15_4).f0))).trans hx211_1
                                      replace hx211_2 := (cell_far (p := ⟨gb210, 0, none⟩) (by first | (rw [add_block]; exact hn211_0) | (show (Addr.add _ _).block ≠ _; rw [add_block]; exact hn211_0) | exact hn211_0) (.int .i64 ((rd_T32 t204 x15_4).f0))).trans hx211_2
                                      replace hx211_3 := (cell_far (p := ⟨gb210, 0, none⟩) (by first | (rw [add_block]; exact hn211_0) | (show (Addr.add _ _).block ≠ _; rw [add_block]; exact hn211_0) | exact hn211_0) (.int .i64 ((rd_T32 t204 x15_4).f0))).trans hx211_3
                                      replace hx211_0 := (cell_far (p := ⟨gb210, 1, none⟩) (by first | (rw [add_block]; exact hn211_1) | (show (Addr.add _ _).block ≠ _; rw [add_block]; exact hn211_1) | exact hn211_1) (.int .i64 ((rd_T32 t204 x15_4).f1))).trans hx211_0
                                      replace hx211_1 := (cell_far (p := ⟨gb210, 1, none⟩) (by first | (rw [add_block]; exact hn211_1) | (show (Addr.add _ _).block ≠ _; rw [add_block]; exact hn211_1) | exact hn211_1) (.int .i64 ((rd_T32 t204 x15_4).f1))).trans hx211_1
                                      replace hx211_2 := (cell_far (p := ⟨gb210, 1, none⟩) (by first | (rw [add_block]; exact hn211_1) | (show (Addr.add _ _).block ≠ _; rw [add_block]; exact hn211_1) | exact hn211_1) (.int .i64 ((rd_T32 t204 x15_4).f1))).trans hx211_2
                                      replace hx211_3 := (cell_far (p := ⟨gb210, 1, none⟩) (by first | (rw [add_block]; exact hn211_1) | (show (Addr.add _ _).block ≠ _; rw [add_block]; exact hn211_1) | exact hn211_1) (.int .i64 ((rd_T32 t204 x15_4).f1))).trans hx211_3
                                      replace hx211_0 := (cell_far (p := ⟨gb210, 2, none⟩) (by first | (rw [add_block]; exact hn211_2) | (show (Addr.add _ _).block ≠ _; rw [add_block]; exact hn211_2) | exact hn211_2) (.int .i64 ((rd_T32 t204 x15_4).f2))).trans hx211_0
                                      replace hx211_1 := (cell_far (p := ⟨gb210, 2, none⟩) (by first | (rw [add_block]; exact hn211_2) | (show (Addr.add _ _).block ≠ _; rw [add_block]; exact hn211_2) | exact hn211_2) (.int .i64 ((rd_T32 t204 x15_4).f2))).trans hx211_1
                                      replace hx211_2 := (cell_far (p := ⟨gb210, 2, none⟩) (by first | (rw [add_block]; exact hn211_2) | (show (Addr.add _ _).block ≠ _; rw [add_block]; exact hn211_2) | exact hn211_2) (.int .i64 ((rd_T32 t204 x15_4).f2))).trans hx211_2
                                      replace hx211_3 := (cell_far (p := ⟨gb210, 2, none⟩) (by first | (rw [add_block]; exact hn211_2) | (show (Addr.add _ _).block ≠ _; rw [add_block]; exact hn211_2) | exact hn211_2) (.int .i64 ((rd_T32 t204 x15_4).f2))).trans hx211_3
                                      replace hx211_0 := (cell_far (p := ⟨gb210, 3, none⟩) (by first | (rw [add_block]; exact hn211_3) | (show (Addr.add _ _).block ≠ _; rw [add_block]; exact hn211_3) | exact hn211_3) (.string ((rd_T32 t204 x15_4).f3))).trans hx211_0
                                      replace hx211_1 := (cell_far (p := ⟨gb210, 3, none⟩) (by first | (rw [add_block]; exact hn211_3) | (show (Addr.add _ _).block ≠ _; rw [add_block]; exact hn211_3) | exact hn211_3) (.string ((rd_T32 t204 x15_4).f3))).trans hx211_1
                                      replace hx211_2 := (cell_far (p := ⟨gb210, 3, none⟩) (by first | (rw [add_block]; exact hn211_3) | (show (Addr.add _ _).block ≠ _; rw [add_block]; exact hn211_3) | exact hn211_3) (.string ((rd_T32 t204 x15_4).f3))).trans hx211_2
                                      replace hx211_3 := (cell_far (p := ⟨gb210, 3, none⟩) (by first | (rw [add_block]; exact hn211_3) | (show (Addr.add _ _).block ≠ _; rw [add_block]; exact hn211_3) | exact hn211_3) (.string ((rd_T32 t204 x15_4).f3))).trans hx211_3
                                      (try have hy211_0 := fun (n_ : Nat) => (show ((((((w38.drewN n_).setCell ⟨gb210, 0, none⟩ (.int .i64 ((rd_T32 t204 x15_4).f0))).setCell ⟨gb210, 1, none⟩ (.int .i64 ((rd_T32 t204 x15_4).f1))).setCell ⟨gb210, 2, none⟩ (.int .i64 ((rd_T32 t204 x15_4).f2))).setCell ⟨gb210, 3, none⟩ (.string ((rd_T32 t204 x15_4).f3)))).cell? _ = some _ from hx211_0))
                                      (try have hy211_1 := fun (n_ : Nat) => (show ((((((w38.drewN n_).setCell ⟨gb210, 0, none⟩ (.int .i64 ((rd_T32 t204 x15_4).f0))).setCell ⟨gb210, 1, none⟩ (.int .i64 ((rd_T32 t204 x15_4).f1))).setCell ⟨gb210, 2, none⟩ (.int .i64 ((rd_T32 t204 x15_4).f2))).setCell ⟨gb210, 3, none⟩ (.string ((rd_T32 t204 x15_4).f3)))).cell? _ = some _ from hx211_1))
                                      (try have hy211_2 := fun (n_ : Nat) => (show ((((((w38.drewN n_).setCell ⟨gb210, 0, none⟩ (.int .i64 ((rd_T32 t204 x15_4).f0))).setCell ⟨gb210, 1, none⟩ (.int .i64 ((rd_T32 t204 x15_4).f1))).setCell ⟨gb210, 2, none⟩ (.int .i64 ((rd_T32 t204 x15_4).f2))).setCell ⟨gb210, 3, none⟩ (.string ((rd_T32 t204 x15_4).f3)))).cell? _ = some _ from hx211_2))
                                      (try have hy211_3 := fun (n_ : Nat) => (show ((((((w38.drewN n_).setCell ⟨gb210, 0, none⟩ (.int .i64 ((rd_T32 t204 x15_4).f0))).setCell ⟨gb210, 1, none⟩ (.int .i64 ((rd_T32 t204 x15_4).f1))).setCell ⟨gb210, 2, none⟩ (.int .i64 ((rd_T32 t204 x15_4).f2))).setCell ⟨gb210, 3, none⟩ (.string ((rd_T32 t204 x15_4).f3)))).cell? _ = some _ from hx211_3))
                                      clear hn211_0
                                      clear hn211_1
                                      clear hn211_2
                                      clear hn211_3
                                      replace p211 := eq_true p211
                                      replace q211 := eq_true q211
                                      go_wp2
                                      repeat (go_quiet (fail); try go_wp2)
                                      go_meet
                                      case rel => exact ⟨_, ((!(((rd_T32 t204 x15_4).f0) == ((rd_T32 t194 x15_4).f0)) || (!(((rd_T32 t204 x15_4).f1) == ((rd_T32 t194 x15_4).f1)) || (!(((rd_T32 t204 x15_4).f2) == ((rd_T32 t194 x15_4).f2)) || (!((((rd_T32 t204 x15_4).f3).toList) == (((rd_T32 t194 x15_4).f3).toList))))))), (by first | rfl | (simp; done) | (simp [*]; done)), H', ⟨by have := HJ3.out; have := HJ12.out; have := HJ27.out; have := HK4.out; first | omega | exact Nat.le_refl _⟩, ⟨by (with_reducible repeat (first | apply Kd.R_alloc | apply Kd.R_drewN | apply Kd.R_drew)); exact Kd.R_mono (Kd.R_far (p := ⟨gb210, 3, none⟩) (Kd.R_far (p := ⟨gb210, 2, none⟩) (Kd.R_far (p := ⟨gb210, 1, none⟩) (Kd.R_far (p := ⟨gb210, 0, none⟩) (Kd.R_mono HO_6.out (fun k_ hk => (⟨hk, hk.2⟩ : _ ∧ k_ ≠ gb210))) (fun _ hk => hk.2) (.int .i64 ((rd_T32 t204 x15_4).f0))) (fun _ hk => hk.2) (.int .i64 ((rd_T32 t204 x15_4).f1))) (fun _ hk => hk.2) (.int .i64 ((rd_T32 t204 x15_4).f2))) (fun _ hk => hk.2) (.string ((rd_T32 t204 x15_4).f3))) (fun _ hk => ⟨hk.1.1.1, ⟨hk.1.1.2, hk.1.2⟩⟩)⟩, ⟨by (with_reducible repeat (first | apply Kd.R_alloc | apply Kd.R_drewN | apply Kd.R_drew)); exact Kd.R_mono (Kd.R_far (p := ⟨gb210, 3, none⟩) (Kd.R_far (p := ⟨gb210, 2, none⟩) (Kd.R_far (p := ⟨gb210, 1, none⟩) (Kd.R_far (p := ⟨gb210, 0, none⟩) (Kd.R_mono HO_9.out (fun k_ hk => (⟨hk, hk.2⟩ : _ ∧ k_ ≠ gb210))) (fun _ hk => hk.2) (.int .i64 ((rd_T32 t204 x15_4).f0))) (fun _ hk => hk.2) (.int .i64 ((rd_T32 t204 x15_4).f1))) (fun _ hk => hk.2) (.int .i64 ((rd_T32 t204 x15_4).f2))) (fun _ hk => hk.2) (.string ((rd_T32 t204 x15_4).f3))) (fun _ hk => ⟨hk.1.1.1, ⟨hk.1.1.2, hk.1.2⟩⟩)⟩, ⟨by (with_reducible repeat (first | apply Kd.R_alloc | apply Kd.R_drewN | apply Kd.R_drew)); exact Kd.R_mono (Kd.R_far (p := ⟨gb210, 3, none⟩) (Kd.R_far (p := ⟨gb210, 2, none⟩) (Kd.R_far (p := ⟨gb210, 1, none⟩) (Kd.R_far (p := ⟨gb210, 0, none⟩) (Kd.R_mono HO_12.out (fun k_ hk => (⟨hk, hk.2⟩ : _ ∧ k_ ≠ gb210))) (fun _ hk => hk.2) (.int .i64 ((rd_T32 t204 x15_4).f0))) (fun _ hk => hk.2) (.int .i64 ((rd_T32 t204 x15_4).f1))) (fun _ hk => hk.2) (.int .i64 ((rd_T32 t204 x15_4).f2))) (fun _ hk => hk.2) (.string ((rd_T32 t204 x15_4).f3))) (fun _ hk => ⟨hk.1.1.1, ⟨hk.1.1.2, hk.1.2⟩⟩)⟩, ⟨by (with_reducible repeat (first | refine blk_drewN ?_ _ | refine blk_drew ?_ | refine blk_alloc ?_ _)); refine blk_put (cs := #[.int .i64 ((rd_T32 t204 x15_4).f0), .int .i64 ((rd_T32 t204 x15_4).f1), .int .i64 ((rd_T32 t204 x15_4).f2), .string (⟨#[]⟩ : ByteArray)]) ?_ 3 _ rfl; (with_reducible repeat (first | refine blk_drewN ?_ _ | refine blk_drew ?_ | refine blk_alloc ?_ _)); refine blk_put (cs := #[.int .i64 ((rd_T32 t204 x15_4).f0), .int .i64 ((rd_T32 t204 x15_4).f1), .int .i64 0, .string (⟨#[]⟩ : ByteArray)]) ?_ 2 _ rfl; (with_reducible repeat (first | refine blk_drewN ?_ _ | refine blk_drew ?_ | refine blk_alloc ?_ _)); refine blk_put (cs := #[.int .i64 ((rd_T32 t204 x15_4).f0), .int .i64 0, .int .i64 0, .string (⟨#[]⟩ : ByteArray)]) ?_ 1 _ rfl; (with_reducible repeat (first | refine blk_drewN ?_ _ | refine blk_drew ?_ | refine blk_alloc ?_ _)); refine blk_put (cs := #[.int .i64 0, .int .i64 0, .int .i64 0, .string (⟨#[]⟩ : ByteArray)]) ?_ 0 _ rfl; (with_reducible repeat (first | refine blk_drewN ?_ _ | refine blk_drew ?_ | refine blk_alloc ?_ _)); exact BK210.out⟩, ⟨by repeat (first | (with_reducible first | exact HB.out | apply below_alloc | apply pw_below_drewN | apply below_drew1 | refine below_set ?_ GE210.out) | exact HB.out)⟩⟩
                                    · rw [if_neg c40] at H
                                      have c40b0 : decide (x15_4 < (t194.length : Int)) = false := decide_eq_false c40
                                      clear c40
                                      (first | rw [c40b0] | (simp only [i64_w, i32_w]; rw [c40b0]) | skip)
                                      have H' := Aside0.mk H
                                      clear H
                                      go_wp2
                                      repeat (go_quiet (fail); try go_wp2)
                                      go_meet
                                      case rel => exact ⟨_, (false), (by first | rfl | (simp; done) | (simp [*]; done)), H', ⟨by have := HJ3.out; have := HJ12.out; have := HJ27.out; have := HK4.out; first | omega | exact Nat.le_refl _⟩, ⟨by (with_reducible repeat (first | apply Kd.R_alloc | apply Kd.R_drewN | apply Kd.R_drew)); exact Kd.R_mono (Kd.R_far (p := ⟨gb210, 3, none⟩) (Kd.R_far (p := ⟨gb210, 2, none⟩) (Kd.R_far (p := ⟨gb210, 1, none⟩) (Kd.R_far (p := ⟨gb210, 0, none⟩) (Kd.R_mono HO_6.out (fun k_ hk => (⟨hk, hk.2⟩ : _ ∧ k_ ≠ gb210))) (fun _ hk => hk.2) (.int .i64 ((rd_T32 t204 x15_4).f0))) (fun _ hk => hk.2) (.int .i64 ((rd_T32 t204 x15_4).f1))) (fun _ hk => hk.2) (.int .i64 ((rd_T32 t204 x15_4).f2))) (fun _ hk => hk.2) (.string ((rd_T32 t204 x15_4).f3))) (fun _ hk => ⟨hk.1.1.1, ⟨hk.1.1.2, hk.1.2⟩⟩)⟩, ⟨by (with_reducible repeat (first | apply Kd.R_alloc | apply Kd.R_drewN | apply Kd.R_drew)); exact Kd.R_mono (Kd.R_far (p := ⟨gb210, 3, none⟩) (Kd.R_far (p := ⟨gb210, 2, none⟩) (Kd.R_far (p := ⟨gb210, 1, none⟩) (Kd.R_far (p := ⟨gb210, 0, none⟩) (Kd.R_mono HO_9.out (fun k_ hk => (⟨hk, hk.2⟩ : _ ∧ k_ ≠ gb210))) (fun _ hk => hk.2) (.int .i64 ((rd_T32 t204 x15_4).f0))) (fun _ hk => hk.2) (.int .i64 ((rd_T32 t204 x15_4).f1))) (fun _ hk => hk.2) (.int .i64 ((rd_T32 t204 x15_4).f2))) (fun _ hk => hk.2) (.string ((rd_T32 t204 x15_4).f3))) (fun _ hk => ⟨hk.1.1.1, ⟨hk.1.1.2, hk.1.2⟩⟩)⟩, ⟨by (with_reducible repeat (first | apply Kd.R_alloc | apply Kd.R_drewN | apply Kd.R_drew)); exact Kd.R_mono (Kd.R_far (p := ⟨gb210, 3, none⟩) (Kd.R_far (p := ⟨gb210, 2, none⟩) (Kd.R_far (p := ⟨gb210, 1, none⟩) (Kd.R_far (p := ⟨gb210, 0, none⟩) (Kd.R_mono HO_12.out (fun k_ hk => (⟨hk, hk.2⟩ : _ ∧ k_ ≠ gb210))) (fun _ hk => hk.2) (.int .i64 ((rd_T32 t204 x15_4).f0))) (fun _ hk => hk.2) (.int .i64 ((rd_T32 t204 x15_4).f1))) (fun _ hk => hk.2) (.int .i64 ((rd_T32 t204 x15_4).f2))) (fun _ hk => hk.2) (.string ((rd_T32 t204 x15_4).f3))) (fun _ hk => ⟨hk.1.1.1, ⟨hk.1.1.2, hk.1.2⟩⟩)⟩, ⟨by (with_reducible repeat (first | refine blk_drewN ?_ _ | refine blk_drew ?_ | refine blk_alloc ?_ _)); refine blk_put (cs := #[.int .i64 ((rd_T32 t204 x15_4).f0), .int .i64 ((rd_T32 t204 x15_4).f1), .int .i64 ((rd_T32 t204 x15_4).f2), .string (⟨#[]⟩ : ByteArray)]) ?_ 3 _ rfl; (with_reducible repeat (first | refine blk_drewN ?_ _ | refine blk_drew ?_ | refine blk_alloc ?_ _)); refine blk_put (cs := #[.int .i64 ((rd_T32 t204 x15_4).f0), .int .i64 ((rd_T32 t204 x15_4).f1), .int .i64 0, .string (⟨#[]⟩ : ByteArray)]) ?_ 2 _ rfl; (with_reducible repeat (first | refine blk_drewN ?_ _ | refine blk_drew ?_ | refine blk_alloc ?_ _)); refine blk_put (cs := #[.int .i64 ((rd_T32 t204 x15_4).f0), .int .i64 0, .int .i64 0, .string (⟨#[]⟩ : ByteArray)]) ?_ 1 _ rfl; (with_reducible repeat (first | refine blk_drewN ?_ _ | refine blk_drew ?_ | refine blk_alloc ?_ _)); refine blk_put (cs := #[.int .i64 0, .int .i64 0, .int .i64 0, .string (⟨#[]⟩ : ByteArray)]) ?_ 0 _ rfl; (with_reducible repeat (first | refine blk_drewN ?_ _ | refine blk_drew ?_ | refine blk_alloc ?_ _)); exact BK210.out⟩, ⟨by repeat (first | (with_reducible first | exact HB.out | apply below_alloc | apply pw_below_drewN | apply below_drew1 | refine below_set ?_ GE210.out) | exact HB.out)⟩⟩
                                  case rest =>
                                    clear HC36
                                    try clear c1
                                    try clear c2
                                    try clear p2
                                    try clear q2
                                    try clear hx2
                                    try clear c3
                                    try clear c4
                                    try clear c6
                                    try clear c6b0
                                    try clear c6b1
                                    try clear p6
                                    try clear c7
                                    try clear c10
                                    try clear c10b0
                                    try clear c10b1
                                    try clear c10b2
                                    try clear c11
                                    try clear c11b0
                                    try clear c11b1
                                    try clear c11b2
                                    try clear c17
                                    try clear c17b0
                                    try clear c17b1
                                    try clear c18
                                    try clear c19
                                    try clear c20
                                    try clear c20b0
                                    try clear c20b1
                                    try clear p20
                                    try clear q20
                                    try clear hx20
                                    try clear c21
                                    try clear c21b0
                                    try clear c21b1
                                    try clear p21
                                    try clear q21
                                    try clear hx21
                                    try clear c22
                                    try clear c22b0
                                    try clear c23
                                    try clear c31
                                    try clear c31b0
                                    try clear c31b1
                                    try clear c33
                                    try clear c34
                                    try clear c34b0
                                    try clear c35
                                    try clear c35b0
                                    try clear c40
                                    try clear c40b0
                                    try clear hcz39_0
                                    try clear hcz39_1
                                    try clear hcz39_2
                                    try clear hcz39_3
                                    try clear hcz41_0
                                    try clear hcz41_1
                                    try clear hcz41_2
                                    try clear hcz41_3
                                    try clear hfz39_0
                                    try clear hfz39_1
                                    try clear hfz39_2
                                    try clear hfz39_3
                                    try clear hfz41_0
                                    try clear hfz41_1
                                    try clear hfz41_2
                                    try clear hfz41_3
                                    try clear hx209_0
                                    try clear hx209_1
                                    try clear hx209_2
                                    try clear hx209_3
                                    try clear hx211_0
                                    try clear hx211_1
                                    try clear hx211_2
                                    try clear hx211_3
                                    try clear p2
                                    try clear p209
                                    try clear p211
                                    try clear p6
                                    try clear q209
                                    try clear q211
                                    obtain ⟨kq, x112_35, rfl, HA, HJ35, HO_6, HO_9, HO_12, BK210, HB⟩ := hcut
                                    cases kq with
                                    | zero => exact absurd HA.out (by simp [weathercocklaw07_LexTwo.j4])
                                    | succ kj35 =>
                                      have H := HA.out
                                      clear HA
                                      simp only [weathercocklaw07_LexTwo.j4] at H
                                      by_cases c42 : x112_35 = true
                                      · subst c42
                                        have H1 : (some false) = some r := by rw [if_pos rfl] at H; exact H
                                        clear H
                                        have H := H1
                                        clear H1
                                        obtain rfl := Option.some.inj H
                                        go_wp2
                                        repeat (go_quiet (fail); try go_wp2)
                                        go_ret
                                        exact ⟨by first | rfl | (simp [errW_none, errW_some] <;> rfl) | (simp [*, errW_none, errW_some] <;> rfl), by repeat (first | (with_reducible first | exact HB.out | apply below_alloc | apply pw_below_drewN | apply below_drew1 | refine below_set ?_ GE210.out) | exact HB.out)⟩
                                      · replace c42 := Bool.eq_false_iff.mpr c42
                                        subst c42
                                        have H1 : (if x15_4 ≥ (t194.length : Int) then (if 0 ≤ (wrap64 (x15_4 - (t194.length : Int))) then (if (wrap64 (x15_4 - (t194.length : Int))) < (t199.length : Int) then (if (!(((rd_T32 t204 x15_4).f0) == ((rd_T32 t199 (wrap64 (x15_4 - (t194.length : Int)))).f0)) || (!(((rd_T32 t204 x15_4).f1) == ((rd_T32 t199 (wrap64 (x15_4 - (t194.length : Int)))).f1)) || (!((wrap64 ((wrap64 (((rd_T32 t204 x15_4).f2) - (a0.size : Int))) - 1)) == ((rd_T32 t199 (wrap64 (x15_4 - (t194.length : Int)))).f2)) || (!(((rd_T32 t204 x15_4).f3).toList == (((rd_T32 t199 (wrap64 (x15_4 - (t194.length : Int)))).f3).toList)))))) = true then (some false) else (weathercocklaw07_LexTwo.l0 kj35 a0 t193 t194 t199 t204 (wrap64 (x15_4 + 1)))) else (none)) else (none)) else (weathercocklaw07_LexTwo.l0 kj35 a0 t193 t194 t199 t204 (wrap64 (x15_4 + 1)))) = some r := by rw [if_neg (show ¬ (false = true) by decide)] at H; exact H
                                        clear H
                                        have H := H1
                                        clear H1
                                        by_cases c43 : x15_4 ≥ (t194.length : Int)
                                        · rw [if_pos c43] at H
                                          have c43b0 : decide ((t194.length : Int) ≤ x15_4) = true := decide_eq_true c43
                                          clear c43
                                          obtain ⟨ji44, hji44⟩ : ∃ j_ : Int, (wrap64 (x15_4 - (t194.length : Int))) = j_ := ⟨_, rfl⟩
                                          replace H : (if 0 ≤ (ji44) then (if (ji44) < (t199.length : Int) then (if (!(((rd_T32 t204 x15_4).f0) == ((rd_T32 t199 (ji44)).f0)) || (!(((rd_T32 t204 x15_4).f1) == ((rd_T32 t199 (ji44)).f1)) || (!((wrap64 ((wrap64 (((rd_T32 t204 x15_4).f2) - (a0.size : Int))) - 1)) == ((rd_T32 t199 (ji44)).f2)) || (!(((rd_T32 t204 x15_4).f3).toList == (((rd_T32 t199 (ji44)).f3).toList)))))) = true then (some false) else (weathercocklaw07_LexTwo.l0 kj35 a0 t193 t194 t199 t204 (wrap64 (x15_4 + 1)))) else (none)) else (none)) = some r := by first | (rw [hji44] at H; exact H) | (simp only [hji44] at H ⊢; exact H)
                                          have hji44w : (IntKind.i64.wrap (x15_4 - (t194.length : Int))) = ji44 := (i64_w _).trans hji44
                                          by_cases c45 : 0 ≤ (ji44)
                                          · rw [if_pos c45] at H
                                            have c45b0 : decide (0 ≤ (ji44)) = true := decide_eq_true c45
                                            clear c45
                                            by_cases c46 : (ji44) < (t199.length : Int)
                                            · rw [if_pos c46] at H
                                              have c46b0 : decide ((ji44) < (t199.length : Int)) = true := decide_eq_true c46
                                              clear c46
                                              by_cases c47 : (!(((rd_T32 t204 x15_4).f0) == ((rd_T32 t199 (ji44)).f0)) || (!(((rd_T32 t204 x15_4).f1) == ((rd_T32 t199 (ji44)).f1)) || (!((wrap64 ((wrap64 (((rd_T32 t204 x15_4).f2) - (a0.size : Int))) - 1)) == ((rd_T32 t199 (ji44)).f2)) || (!(((rd_T32 t204 x15_4).f3).toList == (((rd_T32 t199 (ji44)).f3).toList)))))) = true
                                              · rw [if_pos c47] at H
                                                have c47b0 : (!(((rd_T32 t204 x15_4).f0) == ((rd_T32 t199 (ji44)).f0)) || (!(((rd_T32 t204 x15_4).f1) == ((rd_T32 t199 (ji44)).f1)) || (!((wrap64 ((wrap64 (((rd_T32 t204 x15_4).f2) - (a0.size : Int))) - 1)) == ((rd_T32 t199 (ji44)).f2)) || (!(((rd_T32 t204 x15_4).f3).toList == (((rd_T32 t199 (ji44)).f3).toList)))))) = true := c47
                                                clear c47
                                                obtain rfl := Option.some.inj H
                                                have hcz48_0 : wc.cell? ⟨gb210, 0, none⟩ = some (.int .i64 ((rd_T32 t204 x15_4).f0)) := (blk_cell BK210.out 0).trans rfl
                                                have hcz48_1 : wc.cell? ⟨gb210, 1, none⟩ = some (.int .i64 ((rd_T32 t204 x15_4).f1)) := (blk_cell BK210.out 1).trans rfl
                                                have hcz48_2 : wc.cell? ⟨gb210, 2, none⟩ = some (.int .i64 ((rd_T32 t204 x15_4).f2)) := (blk_cell BK210.out 2).trans rfl
                                                have hcz48_3 : wc.cell? ⟨gb210, 3, none⟩ = some (.string ((rd_T32 t204 x15_4).f3)) := (blk_cell BK210.out 3).trans rfl
                                                have hfz48_0 := blk_frozen BK210.out 0
                                                have hfz48_1 := blk_frozen BK210.out 1
                                                have hfz48_2 := blk_frozen BK210.out 2
                                                have hfz48_3 := blk_frozen BK210.out 3
                                                have p212 : 0 ≤ ((ji44) : Int) := of_decide_eq_true (by first | (with_reducible assumption) | assumption)
                                                have q212 : (ji44) < (t199.length : Int) := of_decide_eq_true (by first | (with_reducible assumption) | assumption)
                                                obtain ⟨ad212, e212, hx212_0, hx212_1, hx212_2, hx212_3⟩ := at_T32 (Kd.R_reads' HO_9.out).2.2 (ji44) p212 q212
                                                cases e212
                                                have hn212_0 : ad212.block ≠ gb210 := Kd.own_blk (by first | exact Kd.R_ne HO_9.out BK210.out (by decide) | exact Kd.R_away HO_9.out (fun _ hk => hk.2) | exact Kd.R_away HO_9.out (fun _ hk => hk.2.2))
                                                replace hx212_0 := (cell_far (p := ⟨gb210, 2, none⟩) (by first | (rw [add_block]; exact hn212_0) | (show (Addr.add _ _).block ≠ _; rw [add_block]; exact hn212_0) | exact hn212_0) (.int .i64 (wrap64 ((wrap64 (((rd_T32 t204 x15_4).f2) - (a0.size : Int))) - 1)))).trans hx212_0
                                                replace hx212_1 := (cell_far (p := ⟨gb210, 2, none⟩) (by first | (rw [add_block]; exact hn212_0) | (show (Addr.add _ _).block ≠ _; rw [add_block]; exact hn212_0) | exact hn212_0) (.int .i64 (wrap64 ((wrap64 (((rd_T32 t204 x15_4).f2) - (a0.size : Int))) - 1)))).trans hx212_1
                                                replace hx212_2 := (cell_far (p := ⟨gb210, 2, none⟩) (by first | (rw [add_block]; exact hn212_0) | (show (Addr.add _ _).block ≠ _; rw [add_block]; exact hn212_0) | exact hn212_0) (.int .i64 (wrap64 ((wrap64 (((rd_T32 t204 x15_4).f2) - (a0.size : Int))) - 1)))).trans hx212_2
                                                replace hx212_3 := (cell_far (p := ⟨gb210, 2, none⟩) (by first | (rw [add_block]; exact hn212_0) | (show (Addr.add _ _).block ≠ _; rw [add_block]; exact hn212_0) | exact hn212_0) (.int .i64 (wrap64 ((wrap64 (((rd_T32 t204 x15_4).f2) - (a0.size : Int))) - 1)))).trans hx212_3
                                                (try have hy212_0 := fun (n_ : Nat) => (show (((wc.drewN n_).setCell ⟨gb210, 2, none⟩ (.int .i64 (wrap64 ((wrap64 (((rd_T32 t204 x15_4).f2) - (a0.size : Int))) - 1))))).cell? _ = some _ from hx212_0))
                                                (try have hy212_1 := fun (n_ : Nat) => (show (((wc.drewN n_).setCell ⟨gb210, 2, none⟩ (.int .i64 (wrap64 ((wrap64 (((rd_T32 t204 x15_4).f2) - (a0.size : Int))) - 1))))).cell? _ = some _ from hx212_1))
                                                (try have hy212_2 := fun (n_ : Nat) => (show (((wc.drewN n_).setCell ⟨gb210, 2, none⟩ (.int .i64 (wrap64 ((wrap64 (((rd_T32 t204 x15_4).f2) - (a0.size : Int))) - 1))))).cell? _ = some _ from hx212_2))
                                                (try have hy212_3 := fun (n_ : Nat) => (show (((wc.drewN n_).setCell ⟨gb210, 2, none⟩ (.int .i64 (wrap64 ((wrap64 (((rd_T32 t204 x15_4).f2) - (a0.size : Int))) - 1))))).cell? _ = some _ from hx212_3))
                                                clear hn212_0
                                                replace p212 := eq_true p212
                                                replace q212 := eq_true q212
                                                go_wp2
                                                repeat (go_quiet (fail); try go_wp2)
                                                go_ret
                                                exact ⟨by first | rfl | (simp [errW_none, errW_some] <;> rfl) | (simp only [← hji44]; first | rfl | (simp [errW_none, errW_some] <;> rfl)) | (simp [*, errW_none, errW_some] <;> rfl), by repeat (first | (with_reducible first | exact HB.out | apply below_alloc | apply pw_below_drewN | apply below_drew1 | refine below_set ?_ GE210.out) | exact HB.out)⟩
                                              · rw [if_neg c47] at H
                                                have c47b0 : (!(((rd_T32 t204 x15_4).f0) == ((rd_T32 t199 (ji44)).f0)) || (!(((rd_T32 t204 x15_4).f1) == ((rd_T32 t199 (ji44)).f1)) || (!((wrap64 ((wrap64 (((rd_T32 t204 x15_4).f2) - (a0.size : Int))) - 1)) == ((rd_T32 t199 (ji44)).f2)) || (!(((rd_T32 t204 x15_4).f3).toList == (((rd_T32 t199 (ji44)).f3).toList)))))) = false := by simpa using c47
                                                clear c47
                                                have H' := Aside0.mk H
                                                clear H
                                                have hcz49_0 : wc.cell? ⟨gb210, 0, none⟩ = some (.int .i64 ((rd_T32 t204 x15_4).f0)) := (blk_cell BK210.out 0).trans rfl
                                                have hcz49_1 : wc.cell? ⟨gb210, 1, none⟩ = some (.int .i64 ((rd_T32 t204 x15_4).f1)) := (blk_cell BK210.out 1).trans rfl
                                                have hcz49_2 : wc.cell? ⟨gb210, 2, none⟩ = some (.int .i64 ((rd_T32 t204 x15_4).f2)) := (blk_cell BK210.out 2).trans rfl
                                                have hcz49_3 : wc.cell? ⟨gb210, 3, none⟩ = some (.string ((rd_T32 t204 x15_4).f3)) := (blk_cell BK210.out 3).trans rfl
                                                have hfz49_0 := blk_frozen BK210.out 0
                                                have hfz49_1 := blk_frozen BK210.out 1
                                                have hfz49_2 := blk_frozen BK210.out 2
                                                have hfz49_3 := blk_frozen BK210.out 3
                                                have p212 : 0 ≤ ((ji44) : Int) := of_decide_eq_true (by first | (with_reducible assumption) | assumption)
                                                have q212 : (ji44) < (t199.length : Int) := of_decide_eq_true (by first | (with_reducible assumption) | assumption)
                                                obtain ⟨ad212, e212, hx212_0, hx212_1, hx212_2, hx212_3⟩ := at_T32 (Kd.R_reads' HO_9.out).2.2 (ji44) p212 q212
                                                cases e212
                                                have hn212_0 : ad212.block ≠ gb210 := Kd.own_blk (by first | exact Kd.R_ne HO_9.out BK210.out (by decide) | exact Kd.R_away HO_9.out (fun _ hk => hk.2) | exact Kd.R_away HO_9.out (fun _ hk => hk.2.2))
                                                replace hx212_0 := (cell_far (p := ⟨gb210, 2, none⟩) (by first | (rw [add_block]; exact hn212_0) | (show (Addr.add _ _).block ≠ _; rw [add_block]; exact hn212_0) | exact hn212_0) (.int .i64 (wrap64 ((wrap64 (((rd_T32 t204 x15_4).f2) - (a0.size : Int))) - 1)))).trans hx212_0
                                                replace hx212_1 := (cell_far (p := ⟨gb210, 2, none⟩) (by first | (rw [add_block]; exact hn212_0) | (show (Addr.add _ _).block ≠ _; rw [add_block]; exact hn212_0) | exact hn212_0) (.int .i64 (wrap64 ((wrap64 (((rd_T32 t204 x15_4).f2) - (a0.size : Int))) - 1)))).trans hx212_1
                                                replace hx212_2 := (cell_far (p := ⟨gb210, 2, none⟩) (by first | (rw [add_block]; exact hn212_0) | (show (Addr.add _ _).block ≠ _; rw [add_block]; exact hn212_0) | exact hn212_0) (.int .i64 (wrap64 ((wrap64 (((rd_T32 t204 x15_4).f2) - (a0.size : Int))) - 1)))).trans hx212_2
                                                replace hx212_3 := (cell_far (p := ⟨gb210, 2, none⟩) (by first | (rw [add_block]; exact hn212_0) | (show (Addr.add _ _).block ≠ _; rw [add_block]; exact hn212_0) | exact hn212_0) (.int .i64 (wrap64 ((wrap64 (((rd_T32 t204 x15_4).f2) - (a0.size : Int))) - 1)))).trans hx212_3
                                                (try have hy212_0 := fun (n_ : Nat) => (show (((wc.drewN n_).setCell ⟨gb210, 2, none⟩ (.int .i64 (wrap64 ((wrap64 (((rd_T32 t204 x15_4).f2) - (a0.size : Int))) - 1))))).cell? _ = some _ from hx212_0))
                                                (try have hy212_1 := fun (n_ : Nat) => (show (((wc.drewN n_).setCell ⟨gb210, 2, none⟩ (.int .i64 (wrap64 ((wrap64 (((rd_T32 t204 x15_4).f2) - (a0.size : Int))) - 1))))).cell? _ = some _ from hx212_1))
                                                (try have hy212_2 := fun (n_ : Nat) => (show (((wc.drewN n_).setCell ⟨gb210, 2, none⟩ (.int .i64 (wrap64 ((wrap64 (((rd_T32 t204 x15_4).f2) - (a0.size : Int))) - 1))))).cell? _ = some _ from hx212_2))
                                                (try have hy212_3 := fun (n_ : Nat) => (show (((wc.drewN n_).setCell ⟨gb210, 2, none⟩ (.int .i64 (wrap64 ((wrap64 (((rd_T32 t204 x15_4).f2) - (a0.size : Int))) - 1))))).cell? _ = some _ from hx212_3))
                                                clear hn212_0
                                                replace p212 := eq_true p212
                                                replace q212 := eq_true q212
                                                go_wp2
                                                repeat (go_quiet (fail); try go_wp2)
                                                go_roundg kj35
                                                case measure => have := HJ3.out; have := HJ12.out; have := HJ27.out; have := HK4.out; have := HJ35.out; omega
                                                case rel => exact ⟨(wrap64 (x15_4 + 1)), (by first | rfl | (simp; done) | (simp [*]; done)), H', ⟨by have := HJ3.out; have := HJ12.out; have := HJ27.out; have := HK4.out; have := HJ35.out; omega⟩, ⟨by (with_reducible repeat (first | apply Kd.R_alloc | apply Kd.R_drewN | apply Kd.R_drew)); exact Kd.R_mono (Kd.R_far (p := ⟨gb210, 2, none⟩) (Kd.R_mono HO_6.out (fun k_ hk => (⟨hk, hk.2.2⟩ : _ ∧ k_ ≠ gb210))) (fun _ hk => hk.2) (.int .i64 (wrap64 ((wrap64 (((rd_T32 t204 x15_4).f2) - (a0.size : Int))) - 1)))) (fun _ hk => ⟨hk.1.1, hk.1.2.1⟩)⟩, ⟨by (with_reducible repeat (first | apply Kd.R_alloc | apply Kd.R_drewN | apply Kd.R_drew)); exact Kd.R_mono (Kd.R_far (p := ⟨gb210, 2, none⟩) (Kd.R_mono HO_9.out (fun k_ hk => (⟨hk, hk.2.2⟩ : _ ∧ k_ ≠ gb210))) (fun _ hk => hk.2) (.int .i64 (wrap64 ((wrap64 (((rd_T32 t204 x15_4).f2) - (a0.size : Int))) - 1)))) (fun _ hk => ⟨hk.1.1, hk.1.2.1⟩)⟩, ⟨by (with_reducible repeat (first | apply Kd.R_alloc | apply Kd.R_drewN | apply Kd.R_drew)); exact Kd.R_mono (Kd.R_far (p := ⟨gb210, 2, none⟩) (Kd.R_mono HO_12.out (fun k_ hk => (⟨hk, hk.2.2⟩ : _ ∧ k_ ≠ gb210))) (fun _ hk => hk.2) (.int .i64 (wrap64 ((wrap64 (((rd_T32 t204 x15_4).f2) - (a0.size : Int))) - 1)))) (fun _ hk => ⟨hk.1.1, hk.1.2.1⟩)⟩, ⟨by repeat (first | (with_reducible first | exact HB.out | apply below_alloc | apply pw_below_drewN | apply below_drew1 | refine below_set ?_ GE210.out) | exact HB.out)⟩⟩
                                            · rw [if_neg c46] at H
                                              exact absurd H (by simp)
                                          · rw [if_neg c45] at H
                                            exact absurd H (by simp)
                                        · rw [if_neg c43] at H
                                          have c43b0 : decide ((t194.length : Int) ≤ x15_4) = false := decide_eq_false c43
                                          clear c43
                                          have H' := Aside0.mk H
                                          clear H
                                          go_wp2
                                          repeat (go_quiet (fail); try go_wp2)
                                          go_roundg kj35
                                          case measure => have := HJ3.out; have := HJ12.out; have := HJ27.out; have := HK4.out; have := HJ35.out; omega
                                          case rel => exact ⟨(wrap64 (x15_4 + 1)), (by first | rfl | (simp; done) | (simp [*]; done)), H', ⟨by have := HJ3.out; have := HJ12.out; have := HJ27.out; have := HK4.out; have := HJ35.out; omega⟩, ⟨by (with_reducible repeat (first | apply Kd.R_alloc | apply Kd.R_drewN | apply Kd.R_drew)); exact Kd.R_mono HO_6.out (fun _ hk => ⟨hk.1, hk.2.1⟩)⟩, ⟨by (with_reducible repeat (first | apply Kd.R_alloc | apply Kd.R_drewN | apply Kd.R_drew)); exact Kd.R_mono HO_9.out (fun _ hk => ⟨hk.1, hk.2.1⟩)⟩, ⟨by (with_reducible repeat (first | apply Kd.R_alloc | apply Kd.R_drewN | apply Kd.R_drew)); exact Kd.R_mono HO_12.out (fun _ hk => ⟨hk.1, hk.2.1⟩)⟩, ⟨by repeat (first | (with_reducible first | exact HB.out | apply below_alloc | apply pw_below_drewN | apply below_drew1 | refine below_set ?_ GE210.out) | exact HB.out)⟩⟩
                                · rw [if_neg c35] at H
                                  exact absurd H (by simp)
                              · rw [if_neg c34] at H
                                have c34b0 : decide (x15_4 < (t204.length : Int)) = false := decide_eq_false c34
                                clear c34
                                obtain rfl := Option.some.inj H
                                obtain ⟨Ao50, co50, eo50⟩ := Kd.R_slice HO_12.out
                                subst eo50
                                go_wp2
                                repeat (go_quiet (fail); try go_wp2)
                                go_ret
                                exact ⟨by first | rfl | (simp [errW_none, errW_some] <;> rfl) | (simp [*, errW_none, errW_some] <;> rfl), by repeat (first | (with_reducible first | exact HB.out | apply below_alloc | apply pw_below_drewN | apply below_drew1) | exact HB.out)⟩
          · rw [if_neg c11] at H
            exact absurd H (by simp)
        · rw [if_neg c10] at H
          exact absurd H (by simp)


end Go.Proofs.YtniapbinamnmpaaDoor.L
