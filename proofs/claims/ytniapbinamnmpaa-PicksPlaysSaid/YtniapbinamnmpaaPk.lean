/- Contracts of package picks: New, Next, Left. -/
import Derived.Test.YtniapbinamnmpaaKc
import Derived.Deep.LoopGhost
import Derived.Deep.CutBlock
import Derived.Outline
namespace Go.Proofs.Ytniapbinamnmpaa
open Go.Conc Go.RowKit

/-- The cells from A on hold these numbers. -/
def IntsAt (w : World) (A : Option Addr) (l : List Int) : Prop :=
  match A with
  | none => l = []
  | some a => ∀ i, i < l.length → a.spot = none ∧ w.cell? ⟨a.block, a.off + i, none⟩ = some (.int .i64 (l.getD i 0))

/-- A channel's buffer that holds these numbers. -/
def bufOf (l : List Int) : Array Value := (l.map (Value.int .i64)).toArray
theorem bufOf_size (l : List Int) : (bufOf l).size = l.length := by simp [bufOf]
theorem bufOf_push (l : List Int) (k : Nat) (h : k < l.length) : (bufOf (l.take k)).push (.int .i64 (l[k]?.getD 0)) = bufOf (l.take (k + 1)) := by
  unfold bufOf
  rw [List.take_succ_eq_append_getElem h, List.getElem?_eq_getElem h, List.map_append]
  simp
theorem bufOf_head (x : Int) (l : List Int) : (bufOf (x :: l)).getD 0 undef = .int .i64 x := by simp [bufOf]
theorem bufOf_tail (x : Int) (l : List Int) : (bufOf (x :: l)).extract 1 (bufOf (x :: l)).size = bufOf l := by
  simp only [bufOf, List.map_cons, List.size_toArray, List.length_cons, List.length_map, List.extract_toArray]
  simp [List.extract, List.take_of_length_le]

/-- The picks at block b, their channel at block c, hold l. -/
def PkAt (w : World) (b c : Nat) (l : List Int) : Prop :=
  w.heap[b]? = some (.cells #[.chan (some c)] 40 (0, 0)) ∧ b ≠ c ∧ ∃ cap s r, w.heap[c]? = some (.chan cap (bufOf l) false s r false)

theorem bytes_int : ∃ i, Try.prog.info? 3 = some i ∧ i.bytes = 8 := by
  have h : (Try.prog.info? 3).map (·.bytes) = some 8 := by kernel_rfl
  obtain ⟨i, hi, hb⟩ := Option.map_eq_some_iff.1 h
  exact ⟨i, hi, hb⟩
theorem mkn (n : Nat) (h : n ≤ 1000) (w : World) : (Instr.makeChan 38 (.int .i64 n)).run Try.prog w = .ok (.chan (some w.heap.size)) (w.alloc (.chan n #[] false 0 0 false)) := by
  obtain ⟨i, hi, hb⟩ := bytes_int
  exact run_makeChan (P := Try.prog) (w := w) Try.underlying38 hi .i64 n (by omega) (by rw [hb]; omega)

/-- The world behind New's two makes. -/
def wNew (w : World) (n : Nat) : World := (w.alloc (.chan n #[] false 0 0 false)).alloc (.cells #[.chan (some w.heap.size)] 40)
theorem wNew_c (w : World) (n : Nat) : (wNew w n).heap[w.heap.size]? = some (.chan n #[] false 0 0 false) := by
  unfold wNew
  rw [Below.heap_alloc _ _ _ (by simp)]
  exact heap_alloc_new w _
theorem wNew_b (w : World) (n : Nat) : (wNew w n).heap[w.heap.size + 1]? = some (.cells #[.chan (some w.heap.size)] 40 (0, 0)) := by
  have := heap_alloc_new (w.alloc (.chan n #[] false 0 0 false)) (.cells #[.chan (some w.heap.size)] 40)
  unfold wNew
  simpa only [World.size_alloc] using this
theorem wNew_below (w : World) (n : Nat) : Below w.heap.size w (wNew w n) := ((Below.refl _ w).alloc (Nat.le_refl _) _).alloc (by simp) _
theorem wNew_size (w : World) (n : Nat) : (wNew w n).heap.size = w.heap.size + 2 := by simp [wNew]

theorem IntsAt.nil_of {w : World} {l : List Int} (h : IntsAt w none l) : l = [] := h
theorem IntsAt.at {w : World} {A : Option Addr} {l : List Int} (h : IntsAt w A l) (k : Nat) (hk : k < l.length) :
    ∃ b off, A = some ⟨b, off, none⟩ ∧ w.cell? ⟨b, off + k, none⟩ = some (.int .i64 (l.getD k 0)) := by
  cases A with
  | none => rw [h.nil_of] at hk; simp at hk
  | some a =>
    obtain ⟨hs, hc⟩ := h k hk
    refine ⟨a.block, a.off, ?_, hc⟩
    cases a; simp_all
theorem IntsAt.of_cells {w w' : World} {A : Option Addr} {l : List Int} (h : IntsAt w A l) (hc : ∀ b o v, w.cell? ⟨b, o, none⟩ = some v → w'.cell? ⟨b, o, none⟩ = some v) : IntsAt w' A l := by
  cases A with
  | none => exact h
  | some a => exact fun i hi => ⟨(h i hi).1, hc _ _ _ (h i hi).2⟩
theorem cell_lt {w : World} {a : Addr} {v : Value} (h : w.cell? a = some v) : a.block < w.heap.size := by
  unfold World.cell? at h
  cases hh : w.heap[a.block]? with
  | none => simp [hh] at h
  | some o => exact (Array.getElem?_eq_some_iff.1 hh).1

def NewPost (w : World) (l : List Int) (e : Ending) (w' : World) : Prop :=
  e = .returned (.pointer (some ⟨w.heap.size + 1, 0, none⟩)) ∧ PkAt w' (w.heap.size + 1) w.heap.size l ∧ Below w.heap.size w w' ∧ w'.heap.size = w.heap.size + 2

set_option maxRecDepth 100000 in
theorem new_min (A : Option Addr) (n0 n c : Nat) (l : List Int) (w : World) (hn : n ≤ c) (hmin : (if (1000 : Int) < (n0 : Int) then (1000 : Int) else (n0 : Int)) = (n : Int)) (hz : IntsAt w A l) (hl : l.length = n) :
    Calls Try.prog 9 #[.slice A n0 c] w (NewPost w l) := by
  have h1 : n ≤ 1000 := by split at hmin <;> omega
  have hc : (n : Int) ≤ c := by omega
  have h0 : (0 : Int) ≤ n := by omega
  have hmk := fun w => mkn n h1 w
  have HL : Hid (l.length = n) := hl
  clear hl
  go_enter Try.func9, Try.ntmps9
  go_wp2
  go_loopw [5, 18] (fun _ v18 wr => ∃ k : Nat, k ≤ n ∧ v18 = .int .i64 k ∧ ∃ s : Nat, wr.heap[w.heap.size]? = some (.chan n (bufOf (l.take k)) false s 0 false) ∧ Keep w.heap.size (wNew w n) wr) (fun _ i _ => n - (intOf i).toNat)
  case atStart => exact ⟨0, Nat.zero_le _, rfl, 0, wNew_c w n, Keep.refl _ _⟩
  case round =>
    obtain ⟨k, hk, rfl, s, hch, hkeep⟩ := hrel
    by_cases hlt : k < n
    · have hb0 := (hkeep.below (wNew_below w n) (Nat.le_refl _))
      have hcl : wr.cell? ⟨w.heap.size + 1, 0, none⟩ = some (.chan (some w.heap.size)) := by
        rw [hkeep.cell (by simp)]; simp [World.cell?, wNew_b]
      obtain ⟨b, off, rfl, hel0⟩ := hz.at k (by have := HL.out; omega)
      have hel : wr.cell? ⟨b, off + k, none⟩ = some (.int .i64 (l.getD k 0)) := by
        rw [hb0.cell (cell_lt hel0)]; exact hel0
      clear hel0
      go_upto_region 6 with (fail)
      refine wp_region_in ?_
      simp only [List.size_toArray, List.length_cons, List.length_nil, Nat.reduceAdd, Nat.zero_add, List.range, List.range.loop]
      iterate 5
        refine inReg_op rfl rfl (fun K hK => ?_)
        go_simp
        refine hK _ _ ?_
        clear hK K
      refine inReg_send (c := w.heap.size) (v := .int .i64 (l[k]?.getD 0)) (z := .tuple #[]) rfl rfl (by simp [execOp, scase, Act.eval]) hch (by rw [bufOf_size, List.length_take]; omega) ?_
      refine inReg_nil ?_
      go_wp2
      go_roundw
      case rel =>
        refine ⟨k + 1, by omega, by go_num, s + 1, ?_, hkeep.trans (keep_setChan ..)⟩
        rw [heap_setChan _ _ _ _ _ _ _ _ (by have := hkeep.size; have := wNew_size w n; omega)]
        have hk' : k < l.length := by have := HL.out; omega
        rw [bufOf_push l k hk']
      case measure => simp [intOf]; omega
    · go_wp2
      go_ret
      obtain rfl : n = k := by omega
      refine ⟨rfl, ⟨?_, by simp, n, s, 0, ?_⟩, hkeep.below (wNew_below w n) (Nat.le_refl _), by rw [hkeep.size, wNew_size]⟩
      · rw [hkeep.block _ (by simp)]; exact wNew_b w n
      · rw [hch, List.take_of_length_le (by have := HL.out; omega)]

theorem IntsAt.take {w : World} {A : Option Addr} {l : List Int} (h : IntsAt w A l) (n : Nat) : IntsAt w A (l.take n) := by
  cases A with
  | none => rw [h.nil_of]; exact List.take_nil
  | some a =>
    intro i hi
    rw [List.length_take] at hi
    obtain ⟨h1, h2⟩ := h i (by omega)
    refine ⟨h1, ?_⟩
    rw [h2]
    simp [show i < n by omega]

/-- New: the first thousand, in a channel of their own. -/
theorem new_any (A : Option Addr) (c : Nat) (l : List Int) (w : World) (hn : l.length ≤ c) (hz : IntsAt w A l) :
    Calls Try.prog 9 #[.slice A l.length c] w (NewPost w (l.take 1000)) :=
  new_min A l.length (min l.length 1000) c (l.take 1000) w (by omega) (by split <;> omega) (hz.take 1000) (by simp; omega)

/-- The choice, and what is left. -/
def pickNo (x n : Int) : Int := (if x < 0 then -(x + 1) else x) % n
def nextVal (l : List Int) (n : Int) : Int := if n < 1 then 0 else match l with | [] => 0 | x :: _ => pickNo x n
def nextRest (l : List Int) (n : Int) : List Int := if n < 1 then l else l.tail

def NextPost (w : World) (b c : Nat) (l : List Int) (n : Int) (e : Ending) (w' : World) : Prop :=
  e = .returned (.int .i64 (nextVal l n)) ∧ PkAt w' b c (nextRest l n) ∧ Keep c w w'

theorem i64_xor_all (x : Int) (h1 : -9223372036854775808 ≤ x) (h2 : x ≤ 9223372036854775807) : bits .xor .i64 (-1) x = -1 - x := by
  show IntKind.i64.wrap ((BitVec.ofInt 64 (-1) ^^^ BitVec.ofInt 64 x).toNat : Int) = _
  have e : BitVec.ofInt 64 (-1) = BitVec.allOnes 64 := by decide
  rw [e, BitVec.allOnes_xor, BitVec.toNat_not, BitVec.toNat_ofInt]
  simp [IntKind.wrap, IntKind.bits, IntKind.signed]
  omega

theorem ret_int {k : IntKind} {a b : Int} (h : a = b) : Ending.returned (.int k a) = .returned (.int k b) := by rw [h]

def In64 (x : Int) : Prop := -9223372036854775808 ≤ x ∧ x ≤ 9223372036854775807
instance (x : Int) : Decidable (In64 x) := inferInstanceAs (Decidable (_ ∧ _))

theorem PkAt.cell {w : World} {b c : Nat} {l : List Int} (h : PkAt w b c l) : w.cell? ⟨b, 0, none⟩ = some (.chan (some c)) := by
  unfold World.cell?; rw [h.1]; simp

set_option maxRecDepth 100000 in
theorem next_any (b c : Nat) (l : List Int) (n : Int) (w : World) (hp : PkAt w b c l) (hl : ∀ x ∈ l, In64 x) (hn : In64 n) :
    Calls Try.prog 11 #[.pointer (some ⟨b, 0, none⟩), .int .i64 n] w (NextPost w b c l n) := by
  have hcl := hp.cell
  by_cases h1 : n < 1
  · go_enter Try.func11, Try.ntmps11
    go_wp2
    go_ret
    refine ⟨by simp [nextVal, h1], ?_, Keep.refl _ _⟩
    simp only [nextRest, if_pos h1]; exact hp
  · cases l with
    | nil =>
      obtain ⟨hb, hbc, cap, s, r, hch⟩ := hp
      go_enter Try.func11, Try.ntmps11
      go_upto_region 4 with (fail)
      refine wp_region_in ?_
      simp only [List.size_toArray, List.length_cons, List.length_nil, Nat.reduceAdd, Nat.zero_add, List.range, List.range.loop]
      refine inReg_none (c := c) (z := .int .i64 0) rfl rfl (by simp [go_sem, execOp, rcase, Act.eval]) hch ?_
      iterate 2
        refine inReg_op rfl rfl (fun K hK => ?_)
        go_simp
        refine hK _ _ ?_
        clear hK K
      refine inReg_nil ?_
      go_wp2
      go_ret
      refine ⟨by simp [nextVal], ⟨hb, hbc, cap, s, r, by rw [hch]; simp [nextRest, bufOf]⟩, Keep.refl _ _⟩
    | cons x l =>
      obtain ⟨hb, hbc, cap, s, r, hch⟩ := hp
      have hx := hl x (by simp)
      obtain ⟨hx1, hx2⟩ := hx
      obtain ⟨hn1, hn2⟩ := hn
      have hxor := i64_xor_all x hx1 hx2
      have HV : Hid (nextVal (x :: l) n = pickNo x n) := by simp [Hid, nextVal, h1]
      have HR : Hid (nextRest (x :: l) n = l) := by simp [Hid, nextRest, h1]
      go_enter Try.func11, Try.ntmps11
      go_upto_region 4 with (fail)
      refine wp_region_in ?_
      simp only [List.size_toArray, List.length_cons, List.length_nil, Nat.reduceAdd, Nat.zero_add, List.range, List.range.loop]
      refine inReg_take (c := c) (z := .int .i64 0) rfl rfl (by simp [go_sem, execOp, rcase, Act.eval]) hch (by simp [bufOf]) ?_
      rw [bufOf_head, bufOf_tail]
      iterate 2
        refine inReg_op rfl rfl (fun K hK => ?_)
        go_simp
        refine hK _ _ ?_
        clear hK K
      refine inReg_nil ?_
      go_wp2
      · go_ret
        refine ⟨?_, ⟨?_, hbc, cap, s, r + 1, ?_⟩, keep_setChan ..⟩
        · rw [HV.out]
          have hx0 : x < 0 := by assumption
          refine ret_int ?_
          unfold pickNo
          rw [if_pos hx0, show -(x + 1) = -1 - x by omega]
          exact Int.tmod_eq_emod_of_nonneg (by omega)
        · rw [(keep_setChan ..).block _ hbc]; exact hb
        · rw [HR.out, heap_setChan _ _ _ _ _ _ _ _ (Array.getElem?_eq_some_iff.1 hch).1]
      · go_ret
        refine ⟨?_, ⟨?_, hbc, cap, s, r + 1, ?_⟩, keep_setChan ..⟩
        · rw [HV.out]
          have hx0 : 0 ≤ x := by assumption
          refine ret_int ?_
          unfold pickNo
          rw [if_neg (by omega)]
        · rw [(keep_setChan ..).block _ hbc]; exact hb
        · rw [HR.out, heap_setChan _ _ _ _ _ _ _ _ (Array.getElem?_eq_some_iff.1 hch).1]

/-- Left. -/
theorem left_any (b c : Nat) (l : List Int) (w : World) (hp : PkAt w b c l) :
    Calls Try.prog 16 #[.pointer (some ⟨b, 0, none⟩)] w (fun e w' => e = .returned (.int .i64 l.length) ∧ w = w') := by
  have hcl := hp.cell
  obtain ⟨hb, hbc, cap, s, r, hch⟩ := hp
  have hlen := fun ty => run_len_chan (P := Try.prog) 38 ty Try.underlying38 hch
  rw [bufOf_size] at hlen
  go_enter Try.func16, Try.ntmps16
  go_wp2
  go_ret
  exact ⟨rfl, rfl⟩

theorem IntsAt.below {w w' : World} {A : Option Addr} {l : List Int} (h : IntsAt w A l) (hb : Below w.heap.size w w') : IntsAt w' A l :=
  h.of_cells fun b o v hv => by rw [hb.cell (cell_lt hv)]; exact hv
end Go.Proofs.Ytniapbinamnmpaa
