/- A region of a lone goroutine's walk that holds a communication: for the walk of the kit ('Code.wp'), a send with room, a select of one receive with a default. -/
import Derived.Test.YtniapbinamnmpaaChecked
import Derived.Conc.LoneCalls
import Derived.Conc.LoneSelect
import Derived.Conc.LoneSelectN
import Derived.KernelRfl
import Derived.WalkKit
namespace Go.Proofs.Ytniapbinamnmpaa
open Go.Conc Go.RowKit

/-- What is left of a region, from the operations 'l' on. -/
def InReg (P : Program) (ops : Array Oper) (Q : Exit → Act → World → Prop) (l : List Nat) (a : Act) (w : World) : Prop :=
  ∀ (b : Frame) (k : List Item) (cs : List Frame), ∃ e a' w', Q e a' w' ∧ Arrives P (lone (b.at a (.inRegion ops l :: k)) cs w) b k cs e a' w'

section
variable {P : Program} {ops : Array Oper} {Q : Exit → Act → World → Prop} {a : Act} {w w' : World} {i : Nat} {rest : List Nat} {o : Oper}

theorem inReg_of (l : List Nat) (h : wpOps P ops Q l a w) : InReg P ops Q l a w := fun b k cs => wp_ops l a w h b k cs

theorem inReg_nil (h : Q .normal a w) : InReg P ops Q [] a w := inReg_of [] h

theorem wp_region_in {id : Nat} (h : InReg P ops Q (List.range ops.size) a w) : (Code.region id ops false).wp P Q a w :=
  fun b k cs => let ⟨e, a', w', q, r⟩ := h b k cs; ⟨e, a', w', q, .of_steps (.one step_region) r⟩

theorem inReg_op (ho : ops[i]? = some o) (hg : o.guard = none) (h : ∀ K : Act → World → Prop, (∀ a w, InReg P ops Q rest a w → K a w) → uponK o a K ((execOp a.eval o).run P w)) :
    InReg P ops Q (i :: rest) a w := by
  intro b k cs
  have hw : Region.wanted o (yielded ops a.tmps) = true := by simp [Region.wanted, hg]
  have hs := stepG_op (P := P) (b := b) (k := k) (cs := cs) (w := w) (rest := rest) ho hw
  have hfin : ∀ v, (b.at a (.inRegion ops (i :: rest) :: k)).finish v = b.at (a.put o.dst v) (.inRegion ops rest :: k) := by
    intro v; rw [Frame.finish_at, ho]; rfl
  have hu := h (InReg P ops Q rest) (fun _ _ x => x)
  cases hr : (execOp a.eval o).run P w with
  | halt x w' => rw [hr] at hu; exact hu.elim
  | ok x w' =>
    rw [hr] at hu
    cases x with
    | value v =>
      obtain ⟨e, a', w'', hq, harr⟩ := hu b k cs
      refine ⟨e, a', w'', hq, .of_steps (.one (step_lone_go ?_)) harr⟩
      rw [hs, ← hfin]; simp [stepG.apply, hr]
    | skip =>
      obtain ⟨e, a', w'', hq, harr⟩ := hu b k cs
      refine ⟨e, a', w'', hq, .of_steps (.one (step_lone_go ?_)) harr⟩
      rw [hs, ← hfin]; simp [stepG.apply, hr]
    | _ => exact hu.elim

theorem stepG_comm_any {b : Frame} {k : List Item} {cs : List Frame} {cases : Array CommCase} {blocking : Bool} {shape : CommShape} (ho : ops[i]? = some o) (hg : o.guard = none)
    (hr : (execOp a.eval o).run P w = .ok (.comm cases blocking shape) w') :
    ∃ es, stepG P true (G (b.at a (.inRegion ops (i :: rest) :: k)) cs) w = .comm (G (b.at a (.inRegion ops (i :: rest) :: k)) cs) cases blocking shape w' es := by
  have hw : Region.wanted o (yielded ops a.tmps) = true := by simp [Region.wanted, hg]
  have hs := stepG_op (P := P) (b := b) (k := k) (cs := cs) (w := w) (rest := rest) ho hw
  have hs' : stepG P true (G (b.at a (.inRegion ops (i :: rest) :: k)) cs) w = _ := hs
  rw [hs']
  simp only [stepG.apply, Sem.runT_eq, hr, GStep.after]
  exact ⟨_, rfl⟩

theorem inReg_step {g : List Nat} {a₁ : Act} {w₁ : World} (hs : ∀ (b : Frame) (k : List Item) (cs : List Frame), step P (lone (b.at a (.inRegion ops (i :: rest) :: k)) cs w) = .next (lone (b.at a₁ (.inRegion ops g :: k)) cs w₁))
    (h : InReg P ops Q g a₁ w₁) : InReg P ops Q (i :: rest) a w :=
  fun b k cs => let ⟨e, a', w', q, r⟩ := h b k cs; ⟨e, a', w', q, .of_steps (.one (hs b k cs)) r⟩

theorem inReg_send {c cap s r : Nat} {buf : Array Value} {v z : Value} {tm : Bool} (ho : ops[i]? = some o) (hg : o.guard = none)
    (hr : (execOp a.eval o).run P w = .ok (.comm #[scase c v z] true .send) w)
    (hc : w.heap[c]? = some (.chan cap buf false s r tm)) (hroom : buf.size < cap)
    (h : InReg P ops Q rest (a.put o.dst undef) (w.setChan c cap (buf.push v) false (s + 1) r tm)) : InReg P ops Q (i :: rest) a w := by
  refine inReg_step (fun b k cs => ?_) h
  obtain ⟨es, hs⟩ := stepG_comm_any (P := P) (b := b) (k := k) (cs := cs) (rest := rest) ho hg hr
  rw [lone_eq_solo, step_lone_send_room hs hc hroom, Frame.finish_at, ho]
  rfl

theorem inReg_take {c cap s r : Nat} {buf : Array Value} {z : Value} {cl tm : Bool} (ho : ops[i]? = some o) (hg : o.guard = none)
    (hr : (execOp a.eval o).run P w = .ok (.comm #[rcase c z] false .select) w)
    (hc : w.heap[c]? = some (.chan cap buf cl s r tm)) (hsome : 0 < buf.size)
    (h : InReg P ops Q rest (a.put o.dst (.tuple #[goInt 0, .bool true, buf.getD 0 undef])) (w.setChan c cap (buf.extract 1 buf.size) cl s (r + 1) tm)) : InReg P ops Q (i :: rest) a w := by
  refine inReg_step (fun b k cs => ?_) h
  obtain ⟨es, hs⟩ := stepG_comm_any (P := P) (b := b) (k := k) (cs := cs) (rest := rest) ho hg hr
  rw [lone_eq_solo, step_lone_select_recv_buf hs hc hsome, Frame.finish_at, ho]
  rfl

theorem inReg_none {c cap s r : Nat} {z : Value} {tm : Bool} (ho : ops[i]? = some o) (hg : o.guard = none)
    (hr : (execOp a.eval o).run P w = .ok (.comm #[rcase c z] false .select) w)
    (hc : w.heap[c]? = some (.chan cap #[] false s r tm))
    (h : InReg P ops Q rest (a.put o.dst (.tuple #[goInt (-1), .bool false, z])) w) : InReg P ops Q (i :: rest) a w := by
  refine inReg_step (fun b k cs => ?_) h
  obtain ⟨es, hs⟩ := stepG_comm_any (P := P) (b := b) (k := k) (cs := cs) (rest := rest) ho hg hr
  rw [lone_eq_solo, step_lone_select_default hs hc, Frame.finish_at, ho]
  rfl
end

/-! ### one block turned, the others as they were -/
/-- All blocks but c are as they were; none is new. -/
structure Keep (c : Nat) (w w' : World) : Prop where
  os : w'.os = w.os
  tape : w'.tape = w.tape
  output : w'.output = w.output
  size : w'.heap.size = w.heap.size
  block : ∀ k, k ≠ c → w'.heap[k]? = w.heap[k]?

theorem Keep.refl (c : Nat) (w : World) : Keep c w w := ⟨rfl, rfl, rfl, rfl, fun _ _ => rfl⟩
theorem Keep.trans {c : Nat} {u v w : World} (h : Keep c u v) (k : Keep c v w) : Keep c u w :=
  ⟨k.os.trans h.os, k.tape.trans h.tape, k.output.trans h.output, k.size.trans h.size, fun i hi => (k.block i hi).trans (h.block i hi)⟩
theorem Keep.drew {c : Nat} {u v : World} (h : Keep c u v) : Keep c u v.drew := ⟨h.os, h.tape, h.output, h.size, h.block⟩
theorem keep_setChan (w : World) (c cap : Nat) (buf : Array Value) (cl : Bool) (s r : Nat) (tm : Bool) : Keep c w (w.setChan c cap buf cl s r tm) :=
  ⟨rfl, rfl, rfl, size_setChan .., fun k hk => by simp [World.setChan, Array.getElem?_setIfInBounds_ne (Ne.symm hk)]⟩
theorem Keep.cell {c : Nat} {w w' : World} (h : Keep c w w') {p : Addr} (hp : p.block ≠ c) : w'.cell? p = w.cell? p := World.cell?_of_block (w := w) (h.block p.block hp)
theorem Keep.frozen {c : Nat} {w w' : World} (h : Keep c w w') {p : Addr} (hp : p.block ≠ c) : w'.frozen? p = w.frozen? p := World.frozen?_of_block (w := w) (h.block p.block hp)
theorem Keep.below {c B : Nat} {u w w' : World} (h : Keep c w w') (hb : Below B u w) (hc : B ≤ c) : Below B u w' :=
  hb.trans ⟨h.os, h.tape, h.output, by rw [h.size]; omega, fun k hk => h.block k (by omega)⟩

/-- What was there is as it was, but for block c. -/
structure Only (c : Nat) (w w' : World) : Prop where
  os : w'.os = w.os
  tape : w'.tape = w.tape
  output : w'.output = w.output
  size : w.heap.size ≤ w'.heap.size
  block : ∀ k, k < w.heap.size → k ≠ c → w'.heap[k]? = w.heap[k]?
theorem Only.refl (c : Nat) (w : World) : Only c w w := ⟨rfl, rfl, rfl, Nat.le_refl _, fun _ _ _ => rfl⟩
theorem Only.trans {c : Nat} {u v w : World} (h : Only c u v) (k : Only c v w) : Only c u w :=
  ⟨k.os.trans h.os, k.tape.trans h.tape, k.output.trans h.output, Nat.le_trans h.size k.size, fun i hi hc => (k.block i (by have := h.size; omega) hc).trans (h.block i hi hc)⟩
theorem Keep.only {c : Nat} {u v : World} (h : Keep c u v) : Only c u v := ⟨h.os, h.tape, h.output, by rw [h.size]; omega, fun k _ hc => h.block k hc⟩
theorem only_of_below {c : Nat} {u v : World} (h : Below u.heap.size u v) : Only c u v := ⟨h.os, h.tape, h.output, h.size, fun k hk _ => h.block k hk⟩
theorem Only.drew {c : Nat} {u v : World} (h : Only c u v) : Only c u v.drew := ⟨h.os, h.tape, h.output, h.size, h.block⟩
/-- A later world turns only what is no older than u, or c. -/
theorem Only.step {c : Nat} {u v w : World} (h : Only c u v) (ho : w.os = v.os) (ht : w.tape = v.tape) (hp : w.output = v.output) (hs : v.heap.size ≤ w.heap.size) (hb : ∀ k, k < u.heap.size → k ≠ c → w.heap[k]? = v.heap[k]?) : Only c u w :=
  ⟨ho.trans h.os, ht.trans h.tape, hp.trans h.output, Nat.le_trans h.size hs, fun k hk hc => (hb k hk hc).trans (h.block k hk hc)⟩
theorem Only.below {c B : Nat} {u w w' : World} (h : Only c w w') (hb : Below B u w) (hc : B ≤ c) (hB : B ≤ w.heap.size) : Below B u w' :=
  hb.trans ⟨h.os, h.tape, h.output, h.size, fun k hk => h.block k (by omega) (by omega)⟩
end Go.Proofs.Ytniapbinamnmpaa
