/- The contracts of 'numbers' and of 'examples'. -/
import Derived.Test.YtniapbinamnmpaaSh
import Derived.Deep.QuietTactic
import Derived.BigQuiet
namespace Go.Proofs.Ytniapbinamnmpaa
open Go.Conc Go.RowKit

/-- Nothing but draws. -/
def Drew (w w' : World) : Prop := ∃ n, w' = w.drewN n

theorem getD_eq_of {la lb : List Int} {k : Nat} (h : la.take k = lb.take k) (hl : la.length = lb.length) (hk : k < la.length) (e : la.getD k 0 = lb.getD k 0) : la.take (k + 1) = lb.take (k + 1) := by
  have hk' : k < lb.length := by omega
  rw [List.take_succ_eq_append_getElem hk, List.take_succ_eq_append_getElem hk', h]
  simp [hk, hk'] at e
  rw [e]

set_option maxRecDepth 100000 in
theorem numbers_any (A B : Option Addr) (ca cb : Nat) (la lb : List Int) (w : World) (ha : IntsAt w A la) (hb : IntsAt w B lb) (la63 : la.length < 9223372036854775807) :
    Calls Try.prog 13 #[.slice A la.length ca, .slice B lb.length cb] w fun e w' => e = .returned (.bool (decide (la = lb))) ∧ Drew w w' := by
  by_cases hl : la.length = lb.length
  · obtain ⟨n, hn⟩ : ∃ n, n = la.length := ⟨_, rfl⟩
    rw [← hl, ← hn]
    have HL : Hid (lb.length = la.length) := hl.symm
    have HN : Hid (n = la.length) := hn
    have hn63 : n < 9223372036854775807 := by omega
    clear hl la63 hn
    go_enter Try.func13, Try.ntmps13
    go_wp2
    go_loopw [5] (fun v5 wr => ∃ k : Nat, k ≤ n ∧ v5 = .int .i64 k ∧ Hid (la.take k = lb.take k) ∧ ∃ q, wr = w.drewN q) (fun i _ => n - (intOf i).toNat)
    case atStart => exact ⟨0, Nat.zero_le _, rfl, by simp [Hid], 0, rfl⟩
    case round =>
      obtain ⟨k, hk, rfl, HT, q, rfl⟩ := hrel
      by_cases hlt : k < n
      · obtain ⟨b1, o1, rfl, hc1⟩ := ha.at k (by have := HN.out; omega)
        obtain ⟨b2, o2, rfl, hc2⟩ := hb.at k (by have := HN.out; have := HL.out; omega)
        obtain ⟨x, hx⟩ : ∃ x, x = la.getD k 0 := ⟨_, rfl⟩
        obtain ⟨y, hy⟩ : ∃ y, y = lb.getD k 0 := ⟨_, rfl⟩
        rw [← hx] at hc1
        rw [← hy] at hc2
        have HX := Lib.hid hx; have HY := Lib.hid hy; clear hx hy
        have hlt' : (k : Int) < n := by omega
        by_cases hxy : x = y
        · have hx1 : (x == y) = true := beq_iff_eq.mpr hxy
          have hx2 : (x != y) = false := bne_eq_false_iff_eq.mpr hxy
          have HXY := Lib.hid hxy; clear hxy
          go_wp2
          go_quiet (fail)
          go_wp2
          go_roundw
          case rel => exact ⟨k + 1, by omega, by go_num, getD_eq_of HT.out HL.out.symm (by have := HN.out; omega) (by rw [← HX.out, ← HY.out, HXY.out]), _, rfl⟩
          case measure => simp [intOf]; omega
        · have hx1 : (x == y) = false := beq_eq_false_iff_ne.mpr hxy
          have hx2 : (x != y) = true := bne_iff_ne.mpr hxy
          have HXY : Hid (¬ x = y) := hxy; clear hxy
          go_wp2
          go_quiet (fail)
          go_wp2
          go_ret
          refine ⟨?_, _, World.drewN_drewN _ _ _⟩
          have hne : ¬ la = lb := fun e => HXY.out (by rw [HX.out, HY.out, e])
          rw [decide_eq_false hne]
          rfl
      · go_wp2
        go_ret
        refine ⟨?_, _, rfl⟩
        obtain rfl : n = k := by omega
        have he : la = lb := by
          have h := HT.out
          rwa [List.take_of_length_le (by have := HN.out; omega), List.take_of_length_le (by have := HN.out; have := HL.out; omega)] at h
        rw [decide_eq_true he]
        rfl
  · have h1 : ((la.length : Int) == (lb.length : Int)) = false := beq_eq_false_iff_ne.mpr (by omega)
    have h2 : ((la.length : Int) != (lb.length : Int)) = true := bne_iff_ne.mpr (by omega)
    have h3 : (la.length == lb.length) = false := beq_eq_false_iff_ne.mpr hl
    have hne : ¬ la = lb := fun e => hl (by rw [e])
    have HD : Hid (decide (la = lb) = false) := decide_eq_false hne
    clear hne
    go_enter Try.func13, Try.ntmps13
    go_wp2
    go_ret
    exact ⟨by rw [HD.out]; rfl, 0, rfl⟩

theorem numbers_at {A B : Option Addr} {na nb ca cb : Nat} {la lb : List Int} {w : World} (ha : IntsAt w A la) (hb : IntsAt w B lb) (hna : la.length = na) (hnb : lb.length = nb) (h63 : na < 9223372036854775807) (t : Bool) (ht : decide (la = lb) = t) :
    Calls Try.prog 13 #[.slice A na ca, .slice B nb cb] w fun e w' => e = .returned (.bool t) ∧ Drew w w' := by
  subst hna; subst hnb; subst ht
  exact numbers_any A B ca cb la lb w ha hb h63
theorem Drew.below {B : Nat} {u w w' : World} (h : Drew w w') (hb : Below B u w) : Below B u w' := by
  obtain ⟨n, rfl⟩ := h
  exact ⟨hb.os, hb.tape, hb.output, hb.size, hb.block⟩
theorem PkAt.drew {w w' : World} {b c : Nat} {l : List Int} (h : PkAt w b c l) (hd : Drew w w') : PkAt w' b c l := by
  obtain ⟨n, rfl⟩ := hd
  exact h.of rfl rfl

/-- Two numbers in a row that a composite literal lays. -/
theorem ints_lit (w : World) (b : Nat) (l : List Int) (t : TypeId) (h : w.heap[b]? = some (.cells (bufOf l) t (0, 0))) : IntsAt w (some ⟨b, 0, none⟩) l := by
  intro i hi
  refine ⟨rfl, ?_⟩
  unfold World.cell?
  rw [h]
  simpa using bufOf_get l i hi

/-- New's answer, its place unnamed. -/
def NewIs (w : World) (l : List Int) (e : Ending) (w' : World) : Prop :=
  ∃ b c, e = .returned (.pointer (some ⟨b, 0, none⟩)) ∧ PkAt w' b c l ∧ Below w.heap.size w w' ∧ w.heap.size ≤ b ∧ w.heap.size ≤ c
theorem new_is {A : Option Addr} {n c : Nat} {l : List Int} {w : World} (hn : l.length = n) (hc : n ≤ c) (hz : IntsAt w A l) : Calls Try.prog 9 #[.slice A n c] w (NewIs w (l.take 1000)) := by
  subst hn
  exact (new_any A c l w hc hz).mono fun e w' ⟨h1, h2, h3, _⟩ => ⟨_, _, h1, h2, h3, by omega, by omega⟩
theorem new_lit {w : World} {b : Nat} (n c : Nat) (l : List Int) (hl : l.length = n) (h1 : n ≤ 1000) (hc : n ≤ c) (h : w.heap[b]? = some (.cells (bufOf l) 3 (0, 0))) :
    Calls Try.prog 9 #[.slice (some ⟨b, 0, none⟩) n c] w (NewIs w l) := by
  have := new_is (A := some ⟨b, 0, none⟩) (w := w) hl hc (ints_lit w b l _ h)
  rwa [List.take_of_length_le (by omega)] at this
theorem PkAt.below {w w' : World} {b c : Nat} {l : List Int} (h : PkAt w b c l) (hb : Below w.heap.size w w') : PkAt w' b c l := h.of (hb.block _ h.ltb) (hb.block _ h.ltc)
theorem PkAt.keep {w w' : World} {b c d : Nat} {l : List Int} (h : PkAt w b c l) (hk : Keep d w w') (hb : b ≠ d) (hc : c ≠ d) : PkAt w' b c l := h.of (hk.block _ hb) (hk.block _ hc)
theorem PkAt.only {w w' : World} {b c d : Nat} {l : List Int} (h : PkAt w b c l) (hk : Only d w w') (hb : b ≠ d) (hc : c ≠ d) : PkAt w' b c l := h.of (hk.block _ h.ltb hb) (hk.block _ h.ltc hc)
theorem below_alloc (w : World) (o : Obj) : Below w.heap.size w (w.alloc o) := (Below.refl _ w).alloc (Nat.le_refl _) _

theorem next_at {w : World} {b c : Nat} {l : List Int} {n : Int} (hp : PkAt w b c l) (v : Int) (l' : List Int) (hl : ∀ x ∈ l, In64 x) (hn : In64 n) (hv : nextVal l n = v) (hr : nextRest l n = l') :
    Calls Try.prog 11 #[.pointer (some ⟨b, 0, none⟩), .int .i64 n] w fun e w' => e = .returned (.int .i64 v) ∧ PkAt w' b c l' ∧ Keep c w w' := by
  refine (next_any b c l n w hp hl hn).mono ?_
  rintro e w' ⟨rfl, h1, h2⟩
  rw [hv, ← hr]
  exact ⟨rfl, h1, h2⟩

set_option maxRecDepth 100000 in
theorem examples_any (w : World) : Calls Try.prog 8 #[] w fun e w' => e = .returned (.bool true) ∧ Below w.heap.size w w' := by
  go_enter Try.func8, Try.ntmps8
  go_wp2_with fail
  refine (new_lit 3 3 [5, -1, 7] rfl (by omega) (by omega) (heap_alloc_new _ _)).mono ?_
  rintro e w1 ⟨b1, c1, rfl, hp1, hb1, hg1, hg1'⟩
  have hB1 : Below w.heap.size w w1 := (below_alloc w _).trans (hb1.mono (by simp))
  have hb1N : w.heap.size < b1 := by simp at hg1; omega
  have hc1N : w.heap.size < c1 := by simp at hg1'; omega
  clear hb1 hg1 hg1'
  go_wp2_with fail
  refine (new_lit 2 2 [2, 0] rfl (by omega) (by omega) (heap_alloc_new _ _)).mono ?_
  rintro e w2 ⟨b2, c2, rfl, hp2, hb2, hg2, hg2'⟩
  have hB2' : Below w1.heap.size w1 w2 := (below_alloc w1 _).trans (hb2.mono (by simp))
  have hB2 : Below w.heap.size w w2 := hB1.trans (hB2'.mono hB1.size)
  have hp12 : PkAt w2 b1 c1 [5, -1, 7] := hp1.below hB2'
  have hne1 : b1 ≠ c2 := by have := hp1.ltb; simp at hg2'; omega
  have hne2 : c1 ≠ c2 := by have := hp1.ltc; simp at hg2'; omega
  have hne3 : b2 ≠ c1 := by have := hp1.ltc; simp at hg2; omega
  have hc2N : w.heap.size < c2 := by have := hB1.size; simp at hg2'; omega
  clear hb2 hg2 hg2' hB1 hB2' hp1
  go_wp2_with fail
  refine (next_at hp12 2 [-1, 7] (by decide) (by decide) rfl rfl).mono ?_
  rintro e w3 ⟨rfl, hp3, hk3⟩
  go_wp2_with fail
  refine (next_at hp3 0 [7] (by decide) (by decide) rfl rfl).mono ?_
  rintro e w4 ⟨rfl, hp4, hk4⟩
  go_wp2_with fail
  refine (next_at hp4 0 [7] (by decide) (by decide) rfl rfl).mono ?_
  rintro e w5 ⟨rfl, hp5, hk5⟩
  go_wp2_with fail
  refine (next_at hp5 3 [] (by decide) (by decide) rfl rfl).mono ?_
  rintro e w6 ⟨rfl, hp6, hk6⟩
  go_wp2_with fail
  refine (next_at hp6 0 [] (by decide) (by decide) rfl rfl).mono ?_
  rintro e w7 ⟨rfl, hp7, hk7⟩
  have hk : Keep c1 w2 w7 := hk3.trans (hk4.trans (hk5.trans (hk6.trans hk7)))
  have hq7 : PkAt w7 b2 c2 [2, 0] := hp2.keep hk hne3 (Ne.symm hne2)
  have hB7 : Below w.heap.size w w7 := hk.below hB2 (by omega)
  clear hp2 hp12 hp3 hp4 hp5 hp6 hk3 hk4 hk5 hk6 hk7 hB2 hk
  go_wp2_with fail
  refine (shuffle_any b2 c2 [2, 0] 4 4 w7 hq7 (by decide) (by decide)).mono ?_
  rintro e w8 ⟨rfl, hr8, hq8, hk8⟩
  have hp8 := hp7.only hk8 hne1 hne2
  have hB8 : Below w.heap.size w w8 := hk8.below hB7 (by omega) hB7.size
  have hi8 : IntsAt w8 (some ⟨w7.heap.size, 0, none⟩) [2, 0, 1, 3] := ints_lit w8 _ _ _ hr8
  clear hp7 hq7 hB7 hr8 hq8 hk8
  go_wp2_with fail
  refine (numbers_at (hi8.below (below_alloc w8 _)) (ints_lit _ _ [2, 0, 1, 3] _ (heap_alloc_new _ _)) rfl rfl (by simp) true (by decide)).mono ?_
  rintro e w9 ⟨rfl, hd9⟩
  have hp9 : PkAt w9 b1 c1 [] := (hp8.below (below_alloc w8 _)).drew hd9
  have hB9 : Below w.heap.size w w9 := hd9.below (hB8.alloc hB8.size _)
  clear hp8 hB8 hi8 hd9
  go_wp2_with fail
  refine (left_any b1 c1 [] w9 hp9).mono ?_
  rintro e w10 ⟨rfl, rfl⟩
  go_wp2_with fail
  go_ret
  exact ⟨rfl, hB9⟩
end Go.Proofs.Ytniapbinamnmpaa
