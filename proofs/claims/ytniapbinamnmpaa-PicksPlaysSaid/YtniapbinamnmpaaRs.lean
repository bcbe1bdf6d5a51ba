/- Contract of the document's Shuffle. -/
import Derived.Test.YtniapbinamnmpaaRp
import Derived.OwnWalk
namespace Go.Proofs.Ytniapbinamnmpaa
set_option linter.unusedVariables false
open Go.Conc Go.RowKit

def vals (l : List Int) : List Value := l.map (Value.int .i64)
theorem vals_len (l : List Int) : (vals l).length = l.length := by simp [vals]
theorem vals_app (l m : List Int) : vals (l ++ m) = vals l ++ vals m := by simp [vals]
theorem vals_at {l : List Int} {j : Nat} {u : Value} (h : (vals l)[j]? = some u) : j < l.length ∧ u = .int .i64 (l.getD j 0) := by
  unfold vals at h
  rw [List.getElem?_map, Option.map_eq_some_iff] at h
  obtain ⟨x, hx, rfl⟩ := h
  have hj := (List.getElem?_eq_some_iff.1 hx).1
  exact ⟨hj, by simp [hx]⟩
theorem vals_take {l : List Int} {j i : Nat} {u : Value} (h : (vals (l.take j))[i]? = some u) : (vals l)[i]? = some u := by
  unfold vals at h ⊢
  rw [List.map_take, List.getElem?_take] at h
  split at h
  · exact h
  · cases h
theorem vals_one (l : List Int) : ∀ u ∈ vals l, u.oneCell' = true := by
  intro u hu
  obtain ⟨y, _, rfl⟩ := List.mem_map.1 hu
  rfl
theorem info_int : (Try.prog.info? 3).map (fun i => (i.zero, i.size, i.bytes)) = some (some (.int .i64 0), 1, 8) := by kernel_rfl
abbrev Own (w : World) (B : Nat) (v : Value) (n : Nat) (l : List Int) : Prop := w.ownsRow B 3 1 v n (vals l)
theorem Own.at {w : World} {B : Nat} {g n c : Nat} {l : List Int} (h : Own w B (.slice (some ⟨g, 0, none⟩) n c) n l) (j : Nat) (hj : j < l.length) : w.cell? ⟨g, j, none⟩ = some (.int .i64 (l.getD j 0)) := by
  have := h.cells (g := g) rfl j (.int .i64 (l.getD j 0)) (by simp [vals, hj])
  have e : (⟨g, 0, none⟩ : Addr).add j = ⟨g, j, none⟩ := by
    unfold Addr.add; by_cases h0 : j = 0
    · simp [h0]
    · simp [h0]
  rwa [e] at this
theorem Own.len {w : World} {B : Nat} {v : Value} {n : Nat} {l : List Int} (h : Own w B v n l) : l.length = n := by
  have := h.1; rw [vals_len] at this; omega
theorem Own.ints {w : World} {B : Nat} {v : Value} {n : Nat} {l : List Int} (h : Own w B v n l) : ∃ A c, v = .slice A n c ∧ IntsAt w A l := by
  rcases h.2 with ⟨rfl, rfl⟩ | ⟨g, cap, cur, rfl, h2⟩
  · exact ⟨none, 0, rfl, List.eq_nil_of_length_eq_zero h.len⟩
  · refine ⟨some ⟨g, 0, none⟩, cap, rfl, fun i hi => ⟨rfl, ?_⟩⟩
    rw [Nat.zero_add]
    exact Own.at h i hi
theorem Own.kept {w w' : World} {B : Nat} {v : Value} {n : Nat} {l : List Int} (h : Own w B v n l) (hk : ∀ k, v.ownBlock = some k → w'.heap[k]? = w.heap[k]?) : Own w' B v n l := by
  refine ⟨h.1, ?_⟩
  rcases h.2 with h2 | ⟨g, cap, cur, rfl, h2, h3, h4⟩
  · exact .inl h2
  · exact .inr ⟨g, cap, cur, rfl, h2, (hk g rfl).trans h3, h4⟩
theorem Own.capOk {w : World} {B g n c : Nat} {l : List Int} (h : Own w B (.slice (some ⟨g, 0, none⟩) n c) n l) : n ≤ c ∧ c ≤ 9223372036854775807 ∧ w.heap[g]? ≠ none := by
  rcases h.2 with ⟨h2, _⟩ | ⟨g', cap, cur, hv, h2, h3, h4, h5, h6⟩
  · cases h2
  · cases hv
    exact ⟨h4, h5, by rw [h3]; simp⟩
theorem vals_drop {w : World} {B g n c : Nat} {l : List Int} (h : Own w B (.slice (some ⟨g, 0, none⟩) n c) n l) {j i : Nat} {u : Value} (hu : (vals (l.drop (j + 1)))[i]? = some u) : w.cell? ((⟨g, j + 1, none⟩ : Addr).add i) = some u := by
  obtain ⟨h1, rfl⟩ := vals_at hu
  rw [List.length_drop] at h1
  have h2 := Own.at h (j + 1 + i) (by omega)
  have e : (⟨g, j + 1, none⟩ : Addr).add i = ⟨g, j + 1 + i, none⟩ := by
    unfold Addr.add; by_cases h0 : i = 0
    · simp [h0]
    · simp [h0]
  rw [e, h2]
  simp
theorem own_app {w : World} {B j d : Nat} {v : Value} {rest : List Int} (h : w.ownsRow B 3 1 v (j + (d - (j + 1))) (vals (rest.take j) ++ vals (rest.drop (j + 1)))) (hjd : j < d) : ∃ A c, v = .slice A (d - 1) c ∧ Own w B (.slice A (d - 1) c) (d - 1) (rest.eraseIdx j) := by
  have e1 : j + (d - (j + 1)) = d - 1 := by omega
  rw [e1, ← vals_app, ← List.eraseIdx_eq_take_drop_succ] at h
  obtain ⟨A, c, rfl, _⟩ := Own.ints h
  exact ⟨A, c, rfl, h⟩
theorem range_snoc (k : Nat) : (List.range (k + 1)).map Int.ofNat = (List.range k).map Int.ofNat ++ [(k : Int)] := by
  rw [List.range_succ, List.map_append]; rfl

def RShuf (w0 w : World) (b : Nat) (l : List Int) (m : Nat) (e : Ending) (w' : World) : Prop :=
  ∃ A c, e = .returned (.slice A m c) ∧ IntsAt w' A (shufGo m l ((List.range m).map Int.ofNat)).1 ∧ RAt w0 w' b (shufGo m l ((List.range m).map Int.ofNat)).2 ∧ Only b w w' ∧ (shufGo m l ((List.range m).map Int.ofNat)).1.length = m
theorem only_of_grown {b : Nat} {u w w' : World} {row : Option Nat} (h : Only b u w) (hg : w.grownBy w' row) (hr : ∀ g, row = some g → u.heap.size ≤ g) : Only b u w' :=
  h.step hg.os hg.tape hg.output hg.size (fun k hk _ => hg.block k (Nat.lt_of_lt_of_le hk h.size) (fun e => by have := hr k e.symm; omega))

/-- Where the second loop stands. -/
structure ShInv (w0 w : World) (b m : Nat) (l : List Int) (wr : World) (k d : Nat) (out rest lk : List Int) (v5 v7 : Value) : Prop where
  o7 : Own wr w.heap.size v7 k out
  o5 : Own wr w.heap.size v5 d rest
  ne : v7.ownBlock = none ∨ v7.ownBlock ≠ v5.ownBlock
  pk : RAt w0 wr b lk
  inn : ∀ x ∈ lk, In64 x
  sh : (out ++ (shufGo d lk rest).1, (shufGo d lk rest).2) = shufGo m l ((List.range m).map Int.ofNat)
  on : Only b w wr
set_option maxHeartbeats 2000000 in
set_option maxRecDepth 100000 in
theorem rshuffle_any (b : Nat) (l : List Int) (n : Int) (m : Nat) (w0 w : World) (hB : Below w0.heap.size w0 w) (hb0 : w0.heap.size ≤ b) (hp : RAt w0 w b l) (hl : ∀ x ∈ l, In64 x) (hn : In64 n) (hm : (max 0 (min n 1000)).toNat = m) :
    Calls Try.prog 15 #[.pointer (some ⟨b, 0, none⟩), .int .i64 n] w (RShuf w0 w b l m) := by
  obtain ⟨i0, hi, hi0, hi1, hi2⟩ := info_parts info_int
  have hm1 : m ≤ 1000 := by omega
  have hlim : ∀ k : Nat, k < m ↔ ((k : Int) < n ∧ (k : Int) < 1000) := fun k => by omega
  have HLIM := Lib.hid hlim; have HP := Lib.hid hp; have HL := Lib.hid hl; have HB := Lib.hid hB; have HBL := Lib.hid hp.lt
  clear hlim hp hl hm hB
  go_enter Try.func15, Try.ntmps15
  go_wp2
  go_loopw [5, 6] (fun v5 v6 wr => ∃ k : Nat, k ≤ m ∧ v6 = .int .i64 k ∧ Hid (Own wr w.heap.size v5 k ((List.range k).map Int.ofNat)) ∧ Hid (Below w.heap.size w wr)) (fun _ i _ => m - (intOf i).toNat)
  case atStart => exact ⟨0, Nat.zero_le _, rfl, World.ownsRow_nil _ _ _ _, Below.refl _ _⟩
  case round =>
    obtain ⟨k, hk, rfl, HO, HK⟩ := hrel
    by_cases hlt : k < m
    · obtain ⟨h1, h2⟩ := (HLIM.out k).1 hlt
      go_wp2_with (first | (at_builtin; refine wpList_append_own _ rfl _ _ 22 rfl w.heap.size 3 i0 (.int .i64 0) 1 8 Try.underlying22 hi hi0 hi1 hi2 rfl (by decide) _ _ _ rfl (HO.out.alloc _) ⟨wr.heap.size, 0, none⟩ 1 1 [.int .i64 k] rfl rfl ?c1 ?c2 ?c3 ?c4 ?c5 ?_))
      case c1 => intro j u hj; match j, hj with | 0, hj => (cases hj; exact (cell_of_row _ _ _ _ _ _ (heap_alloc_new wr _)).trans rfl)
      case c2 => intro u hu; rw [List.mem_singleton.1 hu]; rfl
      case c3 => unfold maxLen; omega
      case c4 => omega
      case c5 => have := HK.out.size; simp; omega
      intro v' w1 hown hgrow _
      go_wp2
      go_roundw
      case rel =>
        refine ⟨k + 1, by omega, by go_num, ?_, ?_⟩
        · show Own _ _ _ _ _
          rw [range_snoc]; unfold Own; rw [vals_app]; exact hown
        · show Below _ _ _
          have h1 := HO.out.lt
          exact (HK.out.alloc HK.out.size _).trans ⟨hgrow.os, hgrow.tape, hgrow.output, hgrow.size, fun q hq => hgrow.block q (by have := HK.out.size; simp; omega) (fun e => by have := h1 q e.symm; omega)⟩
      case measure => simp [intOf]; omega
    · have hex : k = m := by omega
      have hc : ((k : Int) < n ∧ ¬ (k : Int) < 1000) ∨ ¬ (k : Int) < n := by
        by_cases h : (k : Int) < n
        · exact .inl ⟨h, fun h2 => hlt ((HLIM.out k).2 ⟨h, h2⟩)⟩
        · exact .inr h
      obtain ⟨A5, c5, rfl, _⟩ := HO.out.ints
      obtain rfl : k = m := hex
      have HS : Hid (ShInv w0 w b k l wr 0 k [] ((List.range k).map Int.ofNat) l (.slice A5 k c5) (.slice none 0 0)) :=
        ⟨World.ownsRow_nil _ _ _ _, HO.out, .inl rfl, HP.out.of (HK.out.block _ HBL.out), HL.out, by simp, only_of_below HK.out⟩
      clear HO HK hlt
      rcases hc with ⟨h1, h2⟩ | h1
      all_goals
        go_wp2
        obtain ⟨wo, rfl⟩ : ∃ wo : World, wo = wr := ⟨_, rfl⟩
        try clear h1
        try clear h2
        go_loopw [5, 7, 8, 9] (fun v5 v7 _ _ wr => ∃ (q d : Nat) (out rest lk : List Int) (A5 : Option Addr) (c5 : Nat), q + d = k ∧ v5 = .slice A5 d c5 ∧ Hid (ShInv w0 w b k l wr q d out rest lk v5 v7)) (fun v5 _ _ _ _ => match v5 with | .slice _ n _ => n | _ => 0)
        case atStart => exact ⟨0, k, [], _, l, A5, c5, by omega, rfl, HS⟩
        case round =>
          clear HS
          obtain ⟨q, d, out, rest, lk, A5, c5, hqd, rfl, HI⟩ := hrel
          by_cases hd : d = 0
          · subst hd
            go_wp2
            go_ret
            obtain rfl : q = k := by omega
            have hr0 : rest = [] := List.eq_nil_of_length_eq_zero HI.out.o5.len
            have hsh := HI.out.sh
            rw [hr0] at hsh
            simp only [shufGo, List.append_nil] at hsh
            obtain ⟨A7, c7, hv7, hi7⟩ := HI.out.o7.ints
            refine ⟨A7, c7, ?_, ?_, ?_, HI.out.on, ?_⟩
            · exact congrArg Ending.returned hv7
            · rw [← hsh]; exact hi7
            · rw [← hsh]; exact HI.out.pk
            · rw [← hsh]; exact HI.out.o7.len
          · have hd0 : (0 : Int) < (d : Int) := by omega
            obtain ⟨gl, cl, hv, hgB, hgl⟩ := HI.out.o5.form (by omega)
            cases hv
            obtain ⟨hcap, hcap63, _⟩ := Own.capOk HI.out.o5
            have hrl : Hid (rest.length = d) := HI.out.o5.len
            obtain ⟨j, hj, hjd⟩ := nextVal_range lk (d - 1)
            have HD1 : Hid (d - 1 + 1 = d) := by show _ = _; omega
            rw [HD1.out] at hj hjd
            obtain ⟨X, hX⟩ : ∃ X, X = rest.getD j 0 := ⟨_, rfl⟩
            have HJ := Lib.hid hj; have HX := Lib.hid hX
            have hbg : b ≠ gl := by have := HBL.out; omega
            have HC : Hid (Calls Try.prog 12 #[.pointer (some ⟨b, 0, none⟩), .int .i64 (d : Int)] wr (fun e w' => e = .returned (.int .i64 (j : Int)) ∧ RAt w0 w' b (nextRest lk d) ∧ Keep b wr w')) := by
              refine (rnext_any b lk d w0 wr (HI.out.on.below HB.out hb0 HB.out.size) HI.out.pk HI.out.inn ⟨by omega, by omega⟩).mono ?_
              rintro e w' ⟨rfl, h1, h2⟩
              exact ⟨by rw [hj], h1, h2⟩
            clear hj hX
            have hj0 : (0 : Int) ≤ (j : Int) := by omega
            have hjd' : (j : Int) < d := by omega
            go_upto_region 9 with (go_at_call 12; refine HC.out.mono ?_; rintro r w2 ⟨rfl, hpk2, hk2⟩)
            have HG2 := Lib.hid (show gl < w2.heap.size by rw [hk2.size]; exact hgl)
            have O7 := Lib.hid (HI.out.o7.kept (w' := w2) (fun q hq => hk2.block q (by have := HI.out.o7.lt q hq; have := HBL.out; omega)))
            have O5 := Lib.hid (HI.out.o5.kept (w' := w2) (fun q hq => hk2.block q (by have := HI.out.o5.lt q hq; have := HBL.out; omega)))
            have hcell : w2.cell? ⟨gl, j, none⟩ = some (.int .i64 X) := by rw [HX.out]; exact Own.at O5.out j (by rw [hrl.out]; exact hjd)
            have ON2 := Lib.hid (HI.out.on.trans hk2.only); have PK2 := Lib.hid hpk2
            have NE := Lib.hid HI.out.ne; have INN := Lib.hid HI.out.inn; have SH := Lib.hid HI.out.sh
            have hqk : q ≤ 1000 := by omega
            clear hpk2 hk2 HC HI
            go_upto_region 10 with (first | (at_builtin; refine wpList_append_own_at _ rfl _ _ 22 rfl w.heap.size 3 i0 (.int .i64 0) 1 8 Try.underlying22 hi hi0 hi1 hi2 rfl (by decide) _ _ _ rfl (O7.out.alloc _) ⟨w2.heap.size, 0, none⟩ 1 1 [.int .i64 X] rfl rfl (fun j u hj => by match j, hj with | 0, hj => (cases hj; exact (cell_of_row _ _ _ _ _ _ (heap_alloc_new w2 _)).trans rfl)) (fun u hu => by rw [List.mem_singleton.1 hu]; rfl) (by unfold maxLen; omega) (by omega) (by have := ON2.out.size; simp; omega) ?_; intro v7' w3 hown7 hgrow7 _ hat7))
            have HV7 := Lib.hid hat7
            have hgl2 : gl < w2.heap.size := HG2.out
            have hne7 : some gl ≠ u7.ownBlock := by
              intro e
              rcases NE.out with h | h
              · rw [h] at e; cases e
              · exact h e.symm
            have O7' : Hid (Own w3 w.heap.size v7' (q + 1) (out ++ [X])) := by show w3.ownsRow _ _ _ _ _ _; rw [vals_app]; exact hown7
            have O5' := Lib.hid (O5.out.kept (w' := w3) (fun q hq => by cases hq; exact (hgrow7.block gl (by simp; omega) hne7).trans (Below.heap_alloc w2 _ gl hgl2)))
            have ON3 := Lib.hid (only_of_grown (ON2.out.trans (only_of_below (below_alloc w2 _))) hgrow7 (fun g e => (O7.out.lt g e).1))
            have SZ3 : Hid (w2.heap.size + 1 ≤ w3.heap.size) := by have h := hgrow7.size; simp at h; exact h
            have PK3 := Lib.hid (PK2.out.of (w' := w3) ((hgrow7.block b (by have := PK2.out.lt; simp; omega) (fun e => by have := (O7.out.lt b e.symm).1; have := HBL.out; omega)).trans (Below.heap_alloc w2 _ b PK2.out.lt)))
            have NE7 : Hid (v7'.ownBlock ≠ some gl) := by
              rcases HV7.out with h | h
              · rw [h]; exact fun e => hne7 e.symm
              · rw [h]; intro e; have e2 := Option.some.inj e; first | omega | (simp at e2; omega)
            clear hown7 hgrow7 hat7 hcell hne7 O7 O5 PK2 ON2 NE HV7 HG2 hgl
            have hwr : IntKind.i64.wrap ((j : Int) + 1) = (j : Int) + 1 := IntWalk.i64_in _ (by omega)
            have hjc : (j : Int) ≤ c5 := by omega
            have hjt : (j : Int).toNat = j := by omega
            go_upto_region 12 with (first | (at_builtin; refine wpList_append_own_at _ rfl _ _ 22 rfl w.heap.size 3 i0 (.int .i64 0) 1 8 Try.underlying22 hi hi0 hi1 hi2 rfl (by decide) (.slice none 0 0) 0 [] rfl (World.ownsRow_nil _ _ _ _) ⟨gl, 0, none⟩ j c5 (vals (rest.take j)) rfl (by rw [vals_len, List.length_take, hrl.out]; omega) (fun i u hu => O5'.out.cells rfl i u (vals_take hu)) (vals_one _) (by unfold maxLen; omega) (by omega) (by have := ON3.out.size; omega) ?_; intro v9 w4 hown9 hgrow9 _ hat9))
            have O7'' := Lib.hid (O7'.out.kept (w' := w4) (fun q hq => hgrow9.block q ((O7'.out.lt q hq).2) (by simp [Value.ownBlock])))
            have O5'' := Lib.hid (O5'.out.kept (w' := w4) (fun q hq => hgrow9.block q ((O5'.out.lt q hq).2) (by simp [Value.ownBlock])))
            have O9 : Hid (Own w4 w.heap.size v9 j (rest.take j)) := by show w4.ownsRow _ _ _ _ _ _; simpa using hown9
            have ON4 := Lib.hid (only_of_grown ON3.out hgrow9 (fun g e => by simp [Value.ownBlock] at e))
            have PK4 := Lib.hid (PK3.out.of (w' := w4) (hgrow9.block b PK3.out.lt (by simp [Value.ownBlock])))
            have HV9 : Hid (v9.ownBlock = none ∨ v9.ownBlock = some w3.heap.size) := by
              have e : (Value.slice none 0 0).ownBlock = none := rfl
              rw [e] at hat9; exact hat9
            have L7 : Hid (∀ g, v7'.ownBlock = some g → g < w3.heap.size) := fun g e => (O7'.out.lt g e).2
            have S4 := Lib.hid hgrow9.size
            clear hown9 hgrow9 hat9 O7' O5' ON3 PK3
            have hj1 : (j : Int) + 1 ≤ d := by omega
            have hj2 : (0 : Int) ≤ (j : Int) + 1 := by omega
            have hj3 : (d : Int) ≤ c5 := by omega
            have hj4 : ((j : Int) + 1).toNat = j + 1 := by omega
            by_cases hcj : c5 = j + 1
            · have _ := hcj
              go_wp2_with (first | (at_builtin; refine wpList_append_own_at _ rfl _ _ 22 rfl w.heap.size 3 i0 (.int .i64 0) 1 8 Try.underlying22 hi hi0 hi1 hi2 rfl (by decide) v9 j (vals (rest.take j)) rfl O9.out ⟨gl, 0, none⟩ (d - (j + 1)) 0 (vals (rest.drop (j + 1))) rfl (by rw [vals_len, List.length_drop, hrl.out]; omega) (fun i u hu => by have h := (vals_at hu).1; rw [List.length_drop, hrl.out] at h; omega) (vals_one _) (by unfold maxLen; omega) (by omega) (by have := ON4.out.size; omega) ?_; intro v5' w5 hown5 hgrow5 _ hat5; obtain ⟨A5', c5', rfl, hown6⟩ := own_app hown5 hjd; have HO5 := Lib.hid hown6; have HG5 := Lib.hid hgrow5; have HA5 := Lib.hid hat5; clear hown5 hown6 hgrow5 hat5))
              have O7n := Lib.hid (O7''.out.kept (w' := w5) (fun q hq => HG5.out.block q ((O7''.out.lt q hq).2) (fun e => by
                have h1 := L7.out q hq
                rcases HV9.out with h | h
                · rw [h] at e; cases e
                · rw [h] at e; have := Option.some.inj e; omega)))
              have ON5 := Lib.hid (only_of_grown ON4.out HG5.out (fun g e => (O9.out.lt g e).1))
              have PK5 := Lib.hid (PK4.out.of (w' := w5) (HG5.out.block b PK4.out.lt (fun e => by have := (O9.out.lt b e.symm).1; have := HBL.out; omega)))
              have NE5 : Hid (v7'.ownBlock = none ∨ v7'.ownBlock ≠ (Value.slice A5' (d - 1) c5').ownBlock) := by
                cases h7 : v7'.ownBlock with
                | none => exact .inl rfl
                | some g =>
                  refine .inr (fun e => ?_)
                  have h1 := L7.out g h7
                  have h4 := S4.out
                  rcases HA5.out with h | h
                  · rcases HV9.out with h9 | h9
                    · rw [h, h9] at e; cases e
                    · rw [h, h9] at e; have := Option.some.inj e; omega
                  · rw [h] at e; have := Option.some.inj e; omega
              have SHn : Hid ((out ++ [X] ++ (shufGo (d - 1) (nextRest lk d) (rest.eraseIdx j)).1, (shufGo (d - 1) (nextRest lk d) (rest.eraseIdx j)).2) = shufGo k l ((List.range k).map Int.ofNat)) := by
                have hsh := SH.out
                rw [← HD1.out, shufGo, HD1.out, HJ.out, Int.toNat_natCast, ← HX.out] at hsh
                show _ = _
                rw [← hsh]
                simp
              go_roundw
              case rel => exact ⟨q + 1, d - 1, out ++ [X], rest.eraseIdx j, nextRest lk d, A5', c5', by omega, rfl, O7n.out, HO5.out, NE5.out, PK5.out, nextRest_in INN.out, SHn.out, ON5.out⟩
              case measure => simp; omega
            · have _ := hcj
              go_wp2_with (first | (at_builtin; refine wpList_append_own_at _ rfl _ _ 22 rfl w.heap.size 3 i0 (.int .i64 0) 1 8 Try.underlying22 hi hi0 hi1 hi2 rfl (by decide) v9 j (vals (rest.take j)) rfl O9.out ⟨gl, j + 1, none⟩ (d - (j + 1)) (c5 - (j + 1)) (vals (rest.drop (j + 1))) rfl (by rw [vals_len, List.length_drop, hrl.out]; omega) (fun i u hu => vals_drop O5''.out hu) (vals_one _) (by unfold maxLen; omega) (by omega) (by have := ON4.out.size; omega) ?_; intro v5' w5 hown5 hgrow5 _ hat5; obtain ⟨A5', c5', rfl, hown6⟩ := own_app hown5 hjd; have HO5 := Lib.hid hown6; have HG5 := Lib.hid hgrow5; have HA5 := Lib.hid hat5; clear hown5 hown6 hgrow5 hat5))
              have O7n := Lib.hid (O7''.out.kept (w' := w5) (fun q hq => HG5.out.block q ((O7''.out.lt q hq).2) (fun e => by
                have h1 := L7.out q hq
                rcases HV9.out with h | h
                · rw [h] at e; cases e
                · rw [h] at e; have := Option.some.inj e; omega)))
              have ON5 := Lib.hid (only_of_grown ON4.out HG5.out (fun g e => (O9.out.lt g e).1))
              have PK5 := Lib.hid (PK4.out.of (w' := w5) (HG5.out.block b PK4.out.lt (fun e => by have := (O9.out.lt b e.symm).1; have := HBL.out; omega)))
              have NE5 : Hid (v7'.ownBlock = none ∨ v7'.ownBlock ≠ (Value.slice A5' (d - 1) c5').ownBlock) := by
                cases h7 : v7'.ownBlock with
                | none => exact .inl rfl
                | some g =>
                  refine .inr (fun e => ?_)
                  have h1 := L7.out g h7
                  have h4 := S4.out
                  rcases HA5.out with h | h
                  · rcases HV9.out with h9 | h9
                    · rw [h, h9] at e; cases e
                    · rw [h, h9] at e; have := Option.some.inj e; omega
                  · rw [h] at e; have := Option.some.inj e; omega
              have SHn : Hid ((out ++ [X] ++ (shufGo (d - 1) (nextRest lk d) (rest.eraseIdx j)).1, (shufGo (d - 1) (nextRest lk d) (rest.eraseIdx j)).2) = shufGo k l ((List.range k).map Int.ofNat)) := by
                have hsh := SH.out
                rw [← HD1.out, shufGo, HD1.out, HJ.out, Int.toNat_natCast, ← HX.out] at hsh
                show _ = _
                rw [← hsh]
                simp
              go_roundw
              case rel => exact ⟨q + 1, d - 1, out ++ [X], rest.eraseIdx j, nextRest lk d, A5', c5', by omega, rfl, O7n.out, HO5.out, NE5.out, PK5.out, nextRest_in INN.out, SHn.out, ON5.out⟩
              case measure => simp; omega
end Go.Proofs.Ytniapbinamnmpaa
