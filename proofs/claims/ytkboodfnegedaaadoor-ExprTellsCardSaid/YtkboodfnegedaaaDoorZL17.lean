/- Contracts and plain lemmas of the functions that the law reaches, part 17. -/
import Derived.Lib.AppendIntMem
import Derived.Deep.RegionHeld3
import Derived.Test.YtkboodfnegedaaaDoorZL15
import Derived.Test.YtkboodfnegedaaaDoorZL16
namespace Go.Proofs.YtkboodfnegedaaaDoor.E
open Go.RowKit Go.Proofs.YtkboodfnegedaaaDoorW.PrintWords Go.Proofs.YtkboodfnegedaaaDoorW.PrintLast Go.Proofs.YtkboodfnegedaaaDoorW.PrintMore
abbrev TabW (w : World) : Prop := Lib.TabIs Tryd.prog w "internal/strconv.uint64pow10" .u64 Lib.pow10Tab
theorem itoa_ok (n : Int) (h0 : -9223372036854775808 ≤ n) (h1 : n ≤ 9223372036854775807) (w : World) (hT : TabW w) :
    Calls Tryd.prog 88 #[.int .i64 n] w fun e w' => e = .returned (.string ⟨(Lib.itoa n).toArray⟩) ∧ Below w.heap.size w w' :=
  (Tryd.strconv_Itoa n h0 h1 w hT).mono (by
    rintro e w' ⟨rfl, k, os, rfl⟩
    exact ⟨rfl, Lib.below_grow _ _ (Nat.le_refl _) k os⟩)
theorem ownsRow_later {w w' : World} {B : Nat} {e : TypeId} {v : Value} {n : Nat} {xs : List Value} (h : w.ownsRow B e 1 v n xs) (hb : Below w.heap.size w w') : w'.ownsRow B e 1 v n xs := by
  refine ⟨h.1, ?_⟩
  rcases h.2 with h2 | ⟨g', cap, cur, rfl, h3, h4, h5⟩
  · exact .inl h2
  · exact .inr ⟨g', cap, cur, rfl, h3, (hb.block g' (blk_lt h4)).trans h4, h5⟩
abbrev BdAt (B b : Nat) (bs : List Value) (w : World) : Prop := Lib.BuilderAt 71 5 B b (.pointer (some ⟨b, 0, none⟩)) bs w
abbrev BdIs (B b : Nat) (bs : List Value) (w : World) : Prop := Lib.IsBuilder 71 5 B b bs w
theorem bdAt_later {T e : TypeId} {B b : Nat} {p : Value} {bs : List Value} {w w' : World} (h : Lib.BuilderAt T e B b p bs w) (hb : Below w.heap.size w w') : Lib.BuilderAt T e B b p bs w' := by
  obtain ⟨hB, v, h1, h2, h3⟩ := h
  exact ⟨hB, v, (hb.block b (blk_lt h1)).trans h1, ownsRow_later h2 hb, h3⟩
theorem bdIs_later {B b : Nat} {bs : List Value} {w w' : World} (h : BdIs B b bs w) (hb : Below w.heap.size w w') : BdIs B b bs w' := h.imp (fun h => bdAt_later h hb) (fun h => bdAt_later h hb)
abbrev Oth (b : Nat) (w w' : World) : Prop := Lib.OthersKept 5 (some b) w w'
theorem oth_of {b : Nat} {w w' : World} (hb : Below w.heap.size w w') : Oth b w w' := fun k _ h _ _ => (hb.block k (blk_lt h)).trans h
def PutP (B b : Nat) (bs : List Value) (w : World) (r : Ending) (w' : World) : Prop := r = .returned (.tuple #[]) ∧ BdAt B b bs w' ∧ Below B w w' ∧ Oth b w w'
set_option maxHeartbeats 1000000 in
set_option maxRecDepth 100000 in
theorem num_ok (B b g : Nat) (bs : List Value) (n : Int) (w : World) (hT : TabW w) (h0 : -9223372036854775808 ≤ n) (h1 : n ≤ 9223372036854775807) (h : BdIs B b bs w) (hlen : bs.length + (Lib.itoa n).length ≤ 140737488355328) (hBw : B ≤ w.heap.size)
    (hg : w.heap[g]? = some (.cells #[.pointer (some ⟨b, 0, none⟩)] 68 (0, 0))) :
    Calls Tryd.prog 86 #[.int .i64 n, .pointer (some ⟨g, 0, none⟩)] w (PutP B b (bs ++ Lib.byteCells (Lib.itoa n)) w) := by
  have HI := Lib.hid (itoa_ok n h0 h1 w.drew hT)
  obtain ⟨l, hl⟩ : ∃ l, Lib.itoa n = l := ⟨_, rfl⟩
  rw [hl] at HI hlen ⊢
  have HW : Hid (∀ W, Below w.heap.size w W → Calls Tryd.prog 87 #[.pointer (some ⟨b, 0, none⟩), .string ⟨l.toArray⟩] W fun e w' => e = .returned (.tuple #[.int .i64 (⟨l.toArray⟩ : ByteArray).size, .nilIface]) ∧ BdAt B b (bs ++ Lib.byteCells l) w' ∧ Below B W w' ∧ Oth b W w') :=
    Lib.hid (fun W hW => write_ok B b bs ⟨l.toArray⟩ W (bdIs_later h hW) hlen (Nat.le_trans hBw hW.size))
  have hc : w.cell? ⟨g, 0, none⟩ = some (.pointer (some ⟨b, 0, none⟩)) := (bkC hg 0).trans rfl
  have HG := Lib.hid hg
  have hgb : some g ≠ some b := by
    intro e
    cases e
    rcases h with ⟨_, v, hb, _⟩ | ⟨_, v, hb, _⟩ <;> (rw [hg] at hb; simp at hb)
  clear hl h hT hg
  go_enter Tryd.func86, Tryd.ntmps86
  go_region_held3 (fun w' => w'.cell? ⟨g, 0, none⟩ = some (.pointer (some ⟨b, 0, none⟩))) (go_keep) (first | (go_at_call 88; refine HI.out.mono ?_; rintro r w2 ⟨rfl, hB2⟩; have hc2 : w2.cell? ⟨g, 0, none⟩ = some (.pointer (some ⟨b, 0, none⟩)) := (bkC ((hB2.block g (blk_lt HG.out)).trans HG.out) 0).trans rfl) | (go_at_call 87; refine (HW.out w2 ⟨hB2.os, hB2.tape, hB2.output, hB2.size, hB2.block⟩).mono ?_; rintro r w3 ⟨rfl, hb3, hB3, ho3⟩; have hc3 : w3.cell? ⟨g, 0, none⟩ = some (.pointer (some ⟨b, 0, none⟩)) := (bkC (ho3 g _ ((hB2.block g (blk_lt HG.out)).trans HG.out) hgb (by intro c fz h; cases h)) 0).trans rfl))
  go_wp2_with fail
  go_end0
  exact ⟨rfl, hb3, (⟨hB2.os, hB2.tape, hB2.output, hB2.size, hB2.block⟩ : Below w.heap.size w w2).mono hBw |>.trans hB3, (oth_of ⟨hB2.os, hB2.tape, hB2.output, hB2.size, hB2.block⟩).trans ho3⟩
end Go.Proofs.YtkboodfnegedaaaDoor.E
