/- Contracts and plain lemmas of the functions that the law reaches, part 8. -/
import Derived.Lib.AppendIntMem
import Derived.Deep.RegionHeld3
import Derived.Test.YtoffpegppdmkdaaGreatDoorCP6
import Derived.Test.YtoffpegppdmkdaaGreatDoorCP7
namespace Go.Proofs.YtoffpegppdmkdaaGreatDoor.E
open Go.RowKit Go.Proofs.YtoffpegppdmkdaaGreatDoorW.PrintWords Go.Proofs.YtoffpegppdmkdaaGreatDoorW.PrintLast Go.Proofs.YtoffpegppdmkdaaGreatDoorW.PrintMore
abbrev TabW (w : World) : Prop := Lib.TabIs Tryz.prog w "internal/strconv.uint64pow10" .u64 Lib.pow10Tab
theorem itoa_ok (n : Int) (h0 : -9223372036854775808 ≤ n) (h1 : n ≤ 9223372036854775807) (w : World) (hT : TabW w) :
    Calls Tryz.prog 39 #[.int .i64 n] w fun e w' => e = .returned (.string ⟨(Lib.itoa n).toArray⟩) ∧ Below w.heap.size w w' :=
  (Tryz.strconv_Itoa n h0 h1 w hT).mono (by
    rintro e w' ⟨rfl, k, os, rfl⟩
    exact ⟨rfl, Lib.below_grow _ _ (Nat.le_refl _) k os⟩)
theorem ownsRow_later {w w' : World} {B : Nat} {e : TypeId} {v : Value} {n : Nat} {xs : List Value} (h : w.ownsRow B e 1 v n xs) (hb : Below w.heap.size w w') : w'.ownsRow B e 1 v n xs := by
  refine ⟨h.1, ?_⟩
  rcases h.2 with h2 | ⟨g', cap, cur, rfl, h3, h4, h5⟩
  · exact .inl h2
  · exact .inr ⟨g', cap, cur, rfl, h3, (hb.block g' (blk_lt h4)).trans h4, h5⟩
abbrev BdAt (B b : Nat) (bs : List Value) (w : World) : Prop := Lib.BuilderAt 83 5 B b (.pointer (some ⟨b, 0, none⟩)) bs w
abbrev BdIs (B b : Nat) (bs : List Value) (w : World) : Prop := Lib.IsBuilder 83 5 B b bs w
theorem bdAt_later {T e : TypeId} {B b : Nat} {p : Value} {bs : List Value} {w w' : World} (h : Lib.BuilderAt T e B b p bs w) (hb : Below w.heap.size w w') : Lib.BuilderAt T e B b p bs w' := by
  obtain ⟨hB, v, h1, h2, h3⟩ := h
  exact ⟨hB, v, (hb.block b (blk_lt h1)).trans h1, ownsRow_later h2 hb, h3⟩
theorem bdIs_later {B b : Nat} {bs : List Value} {w w' : World} (h : BdIs B b bs w) (hb : Below w.heap.size w w') : BdIs B b bs w' := h.imp (fun h => bdAt_later h hb) (fun h => bdAt_later h hb)
abbrev Oth (b : Nat) (w w' : World) : Prop := Lib.OthersKept 5 (some b) w w'
theorem oth_of {b : Nat} {w w' : World} (hb : Below w.heap.size w w') : Oth b w w' := fun k _ h _ _ => (hb.block k (blk_lt h)).trans h
def PutP (B b : Nat) (bs : List Value) (w : World) (r : Ending) (w' : World) : Prop := r = .returned (.tuple #[]) ∧ BdAt B b bs w' ∧ Below B w w' ∧ Oth b w w'
set_option maxHeartbeats 1000000 in
set_option maxRecDepth 100000 in
theorem num_ok (B b g : Nat) (bs : List Value) (n : Int) (w : World) (hT : TabW w) (h0 : -9223372036854775808 ≤ n) (h1 : n ≤ 9223372036854775807) (h : BdIs B b bs w) (hlen : bs.length + (Lib.itoa n).length ≤ 140737488355328) (hBw : B ≤ w.heap.size)
    (hg : w.heap[g]? = some (.cells #[.pointer (some ⟨b, 0, none⟩)] 80 (0, 0))) :
    Calls Tryz.prog 130 #[.int .i64 n, .pointer (some ⟨g, 0, none⟩)] w (PutP B b (bs ++ Lib.byteCells (Lib.itoa n)) w) := by
  have HI := Lib.hid (itoa_ok n h0 h1 w.drew hT)
  obtain ⟨l, hl⟩ : ∃ l, Lib.itoa n = l := ⟨_, rfl⟩
  rw [hl] at HI hlen ⊢
  have HW : Hid (∀ W, Below w.heap.size w W → Calls Tryz.prog 38 #[.pointer (some ⟨b, 0, none⟩), .string ⟨l.toArray⟩] W fun e w' => e = .returned (.tuple #[.int .i64 (⟨l.toArray⟩ : ByteArray).size, .nilIface]) ∧ BdAt B b (bs ++ Lib.byteCells l) w' ∧ Below B W w' ∧ Oth b W w') :=
    Lib.hid (fun W hW => write_ok B b bs ⟨l.toArray⟩ W (bdIs_later h hW) hlen (Nat.le_trans hBw hW.size))
  have hc : w.cell? ⟨g, 0, none⟩ = some (.pointer (some ⟨b, 0, none⟩)) := (bkC hg 0).trans rfl
  have HG := Lib.hid hg
  have hgb : some g ≠ some b := by
    intro e
    cases e
    rcases h with ⟨_, v, hb, _⟩ | ⟨_, v, hb, _⟩ <;> (rw [hg] at hb; simp at hb)
  clear hl h hT hg
  go_enter Tryz.func130, Tryz.ntmps130
  go_region_held3 (fun w' => w'.cell? ⟨g, 0, none⟩ = some (.pointer (some ⟨b, 0, none⟩))) (go_keep) (first | (go_at_call 39; refine HI.out.mono ?_; rintro r w2 ⟨rfl, hB2⟩; have hc2 : w2.cell? ⟨g, 0, none⟩ = some (.pointer (some ⟨b, 0, none⟩)) := (bkC ((hB2.block g (blk_lt HG.out)).trans HG.out) 0).trans rfl) | (go_at_call 38; refine (HW.out w2 ⟨hB2.os, hB2.tape, hB2.output, hB2.size, hB2.block⟩).mono ?_; rintro r w3 ⟨rfl, hb3, hB3, ho3⟩; have hc3 : w3.cell? ⟨g, 0, none⟩ = some (.pointer (some ⟨b, 0, none⟩)) := (bkC (ho3 g _ ((hB2.block g (blk_lt HG.out)).trans HG.out) hgb (by intro c fz h; cases h)) 0).trans rfl))
  go_wp2_with fail
  go_end0
  exact ⟨rfl, hb3, (⟨hB2.os, hB2.tape, hB2.output, hB2.size, hB2.block⟩ : Below w.heap.size w w2).mono hBw |>.trans hB3, (oth_of ⟨hB2.os, hB2.tape, hB2.output, hB2.size, hB2.block⟩).trans ho3⟩
end Go.Proofs.YtoffpegppdmkdaaGreatDoor.E
namespace Go.Proofs.YtoffpegppdmkdaaGreatDoor.E
open Go.RowKit Go.Proofs.YtoffpegppdmkdaaGreatDoorW.PrintWords Go.Proofs.YtoffpegppdmkdaaGreatDoorW.PrintLast Go.Proofs.YtoffpegppdmkdaaGreatDoorW.PrintMore
set_option linter.unusedVariables false
set_option linter.unusedSimpArgs false
theorem str_loc {P : Program} {w : World} (base : Nat) (t u ty e : TypeId) (i : TypeInfo) (ht : P.underlying t = some (.slice e)) (hu : P.underlying u = some .string) (hi : P.info? e = some i) (hz : i.zero = some (.int .u8 0)) (hsize : i.size = 1) (hby : i.bytes = 1)
    {v : Value} {n : Nat} {xs : List Value} (hown : w.ownsRow base e 1 v n xs) (s : ByteArray) (hlen : n + s.size ≤ 140737488355328) {v' : Value} {w' : World} (hr : (Builtin.append_ #[t, u] ty #[v, .string s]).run P w = .ok v' w')
    (h4 : v' = .slice none 0 0 ↔ v = .slice none 0 0 ∧ s.size = 0) : v'.ownBlock = v.ownBlock ∨ v'.ownBlock = some w.heap.size := by
  have hxl : xs.length = n := by simpa using hown.1
  rcases hown.2 with ⟨rfl, rfl⟩ | ⟨g, cap, cur, rfl, hbg, hg, hnc, hcm, hcs, htake⟩
  · by_cases hm : s.size = 0
    · exact .inl (by rw [h4.2 ⟨rfl, hm⟩])
    · have hr2 := run_append_nil_string (P := P) w t u ty e i (.int .u8 0) ht hu hi hz s (by omega) (by omega) (by rw [hby]; omega)
      rw [hr] at hr2
      injection hr2 with h1 h2
      exact .inr (by rw [h1]; rfl)
  · by_cases hroom : n + s.size ≤ cap
    · have hr2 := Lib.run_append_room_string (P := P) w t u ty e i ht hu hi hsize g n cap cur hg s hroom (by omega)
      rw [hr] at hr2
      injection hr2 with h1 h2
      exact .inl (by rw [h1]; rfl)
    · have holds : ∀ j u, xs[j]? = some u → w.cell? ((⟨g, 0, none⟩ : Addr).add j) = some u := hown.cells (g := g) rfl
      have hr2 := Lib.run_append_grow_string (P := P) w t u ty e i (.int .u8 0) ht hu hi hz ⟨g, 0, none⟩ n cap xs (by rw [hsize]; simpa using hxl) holds s (by omega) (by omega) (by rw [hby]; exact growslice_fits (by omega) (by omega))
      rw [hr] at hr2
      injection hr2 with h1 h2
      exact .inr (by rw [h1]; rfl)
theorem wpList_append_str_at {P : Program} {w : World} {ops : Array Oper} {rest : List Oper} {o : Oper} {a : Act} {Q : Exit → Act → World → Prop} (hgd : o.guard = none) (sl x : Operand) (t u : TypeId)
    (ho : o.op = .call { callee := .builtin .append, args := #[sl, x], argTypes := #[t, u] })
    (base : Nat) (e : TypeId) (i : TypeInfo) (ht : P.underlying t = some (.slice e)) (hu : P.underlying u = some .string) (hi : P.info? e = some i) (hz : i.zero = some (.int .u8 0)) (hsize : i.size = 1) (hby : i.bytes = 1)
    (v : Value) (n : Nat) (xs : List Value) (hs : a.eval sl = v) (hown : w.ownsRow base e 1 v n xs) (s : ByteArray) (hx : a.eval x = .string s)
    (h63 : n + s.size ≤ maxLen) (hbytes : n + s.size ≤ 140737488355328) (hbase : base ≤ w.heap.size)
    (h : ∀ v' w', w'.ownsRow base e 1 v' (n + s.size) (xs ++ Lib.strCells s) → w.grownBy w' v.ownBlock → (v'.ownBlock = v.ownBlock ∨ v'.ownBlock = some w.heap.size) → wpList P ops Q rest (a.put o.dst v') w') : wpList P ops Q (o :: rest) a w := by
  refine wpList_plain hgd fun K hK => ?_
  obtain ⟨v', w', hr, h2, h3, h4⟩ := Lib.run_append_own_string (P := P) w base t u o.type e i ht hu hi hz hsize hby v n xs hown s h63 hbytes hbase
  have hl := str_loc base t u o.type e i ht hu hi hz hsize hby hown s hbytes hr h4
  unfold Oper.wp execOp
  simp only [ho, resolve, invoke, builtin, Sem.run_bind, Sem.run_pure, Result.andThen_ok, List.map_toArray, List.map_cons, List.map_nil, hs, hx, hr]
  exact hK _ _ (h v' w' h2 h3 hl)
def ApartS (b : Nat) (S : Nat → Prop) (w : World) : Prop := ∀ k, S k → k ≠ b ∧ ∀ p v, w.heap[b]? = some (.cells #[p, v] 83 (0, 0)) → v.ownBlock ≠ some k
theorem ApartS.later {b : Nat} {S : Nat → Prop} {w w' : World} (h : ApartS b S w) (hb : w'.heap[b]? = w.heap[b]?) : ApartS b S w' := fun k hk => ⟨(h k hk).1, fun p v hv => (h k hk).2 p v (hb.symm.trans hv)⟩
set_option maxHeartbeats 1000000 in
theorem copyCheck_keep (B b : Nat) (bs : List Value) (S : Nat → Prop) (w : World) (h : Lib.IsBuilder 83 5 B b bs w) (hA : ApartS b S w) :
    Calls Tryz.prog 75 #[.pointer (some ⟨b, 0, none⟩)] w fun e w' => e = .returned (.tuple #[]) ∧ Lib.BuilderAt 83 5 B b (.pointer (some ⟨b, 0, none⟩)) bs w' ∧ Below B w w' ∧ ApartS b S w' ∧ (∀ k, k ≠ b → w'.heap[k]? = w.heap[k]?) ∧ w'.heap.size = w.heap.size := by
  rcases h with h | h
  · refine (copyCheck_fresh b w h.cell0 h.shape h.frozen0).mono ?_
    rintro e w' ⟨rfl, rfl⟩
    refine ⟨rfl, h.used _, (Below.refl B w).setCell (p := ⟨b, 0, none⟩) h.1 _, fun k hk => ⟨(hA k hk).1, fun p v hv => ?_⟩, fun k hk => Below.heap_setCell w ⟨b, 0, none⟩ _ k hk, by simp⟩
    obtain ⟨hB, v0, hb, _, _⟩ := h
    have h2 := blk_set hb 0 (.pointer (some ⟨b, 0, none⟩))
    rw [hv] at h2
    have h3 : v = v0 := (show p = Value.pointer (some ⟨b, 0, none⟩) ∧ v = v0 by simpa using h2).2
    rw [h3]
    exact (hA k hk).2 _ _ hb
  · refine (copyCheck_used b w h.cell0).mono ?_
    rintro e w' ⟨rfl, rfl⟩
    exact ⟨rfl, h, Below.refl B _, hA, fun k _ => rfl, rfl⟩
set_option maxHeartbeats 1000000 in
set_option maxRecDepth 100000 in
theorem write_keep (B b : Nat) (bs : List Value) (s : ByteArray) (S : Nat → Prop) (w : World) (h : Lib.IsBuilder 83 5 B b bs w) (hlen : bs.length + s.size ≤ 140737488355328) (hBw : B ≤ w.heap.size) (hA : ApartS b S w) (hS : ∀ k, S k → k < w.heap.size) :
    Calls Tryz.prog 38 #[.pointer (some ⟨b, 0, none⟩), .string s] w fun e w' => e = .returned (.tuple #[.int .i64 s.size, .nilIface]) ∧ Lib.BuilderAt 83 5 B b (.pointer (some ⟨b, 0, none⟩)) (bs ++ Lib.strCells s) w' ∧ Below B w w' ∧ ApartS b S w' ∧ ∀ k, S k → w'.heap[k]? = w.heap[k]? := by
  obtain ⟨i0, hi, hzz⟩ := Option.map_eq_some_iff.1 infoB
  simp only [Prod.mk.injEq] at hzz
  obtain ⟨hz0, hz1, hz2⟩ := hzz
  have HCC := Lib.hid (copyCheck_keep B b bs S w h hA)
  have HS := Lib.hid hS
  clear h hA hS
  go_enter Tryz.func38, Tryz.ntmps38
  go_upto_region 2 with (go_at_call 75; refine HCC.out.mono ?_; rintro e w1 ⟨rfl, h1, hb1, ha1, hk1, hsz1⟩)
  have HA := Lib.hid ha1; have HK := Lib.hid hk1; have HZ := Lib.hid hsz1
  clear ha1 hk1 hsz1
  obtain ⟨hB, v, hbk, hown, hne⟩ := h1
  have c1 : w1.cell? ⟨b, 1, none⟩ = some v := (bkC hbk 1).trans rfl
  have c0 : w1.cell? ⟨b, 0, none⟩ = some (.pointer (some ⟨b, 0, none⟩)) := (bkC hbk 0).trans rfl
  go_wp2_with (at_builtin; refine wpList_append_str_at rfl _ _ 81 9 rfl B 5 i0 Tryz.underlying81 Tryz.underlying9 hi hz0 hz1 hz2 _ _ _ rfl hown s rfl ?c3 ?c4 ?c5 ?_)
  case c3 => unfold maxLen; omega
  case c4 => omega
  case c5 => have := hb1.size; omega
  intro v' w2 hown' hgrow hloc
  have HL := Lib.hid hloc; clear hloc
  have hlt : b < w1.heap.size := blk_lt hbk
  have hb2 : w2.heap[b]? = some (.cells #[.pointer (some ⟨b, 0, none⟩), v] 83 (0, 0)) := by
    rw [hgrow.block b hlt (fun e => hne e.symm)]
    exact hbk
  have d1 : w2.cell? ⟨b, 1, none⟩ = some v := (bkC hb2 1).trans rfl
  have d0 : w2.cell? ⟨b, 0, none⟩ = some (.pointer (some ⟨b, 0, none⟩)) := (bkC hb2 0).trans rfl
  have f1 : w2.frozen? ⟨b, 1, none⟩ = false := bkF hb2 1
  obtain ⟨ao, n', cap, rfl⟩ : ∃ ao n' cap, v' = .slice ao n' cap := by
    rcases hown'.2 with ⟨hv, _⟩ | ⟨g, cap, cur, hv, _⟩
    · exact ⟨_, _, _, hv⟩
    · exact ⟨_, _, _, hv⟩
  go_wp2_with fail
  go_ret2
  refine ⟨rfl, ?_, ?_, ?_, ?_⟩
  · exact Lib.BuilderAt.put hB hb2 (bs' := bs ++ Lib.strCells s) (by simpa [Lib.strCells_length] using hown') (by decide)
  · exact (hb1.grown hgrow (by have := hb1.size; omega) (own_base hown)).setCell (p := ⟨b, 1, none⟩) hB _
  · intro k hk
    refine ⟨(HA.out k hk).1, fun p v0 hv0 => ?_⟩
    have h2 := blk_set hb2 1 (.slice ao n' cap)
    rw [hv0] at h2
    have h3 : v0 = .slice ao n' cap := (show p = Value.pointer (some ⟨b, 0, none⟩) ∧ v0 = .slice ao n' cap by simpa using h2).2
    rw [h3]
    rcases HL.out with hl | hl
    · rw [hl]; exact (HA.out k hk).2 _ _ hbk
    · rw [hl]; intro he; cases he; have := HS.out _ hk; have := HZ.out; omega
  · intro k hk
    have hkb := (HA.out k hk).1
    have h1 : (w2.setCell ⟨b, 1, none⟩ (.slice ao n' cap)).heap[k]? = w2.heap[k]? := Below.heap_setCell w2 ⟨b, 1, none⟩ _ k hkb
    have hkl : k < w1.heap.size := by have := HS.out k hk; have := HZ.out; omega
    rw [h1, hgrow.block k hkl (fun e => (HA.out k hk).2 _ _ hbk e.symm), HK.out k hkb]
end Go.Proofs.YtoffpegppdmkdaaGreatDoor.E
