/- Contracts and plain lemmas of the functions that the law reaches, part 3. -/
import Derived.Test.YtpdhoghkoakojaaDoorProg
import Derived.Deep.Slices
import Derived.ChangeArms
import Derived.DataReads
import Derived.JoinedCond
import Derived.Lib.LaidTab
import Derived.LaidSub
import Derived.MakeChecks
import Derived.Test.YtpdhoghkoakojaaDoorRA2
namespace Go.Proofs.YtpdhoghkoakojaaDoor.Op
open Go.RowKit Go.Proofs.YtpdhoghkoakojaaDoorW.PrintWords Go.Proofs.YtpdhoghkoakojaaDoorW.PrintLast Go.Proofs.YtpdhoghkoakojaaDoorW.PrintMore
def OpnN (P : Program) (n : Nat) (t : TypeId) {α : Type} (d : Kd α) (wf : α → Prop) : Prop :=
  ∀ (m : Nat), m ≤ n → ∀ (H : Type) (enc : TypeId × Value → H) (W : World) (base : Nat) (sp : Nat → Bool) (held : Bool) (cs : List Value) (r : DataW H × List MemPlace),
    DataW.trod enc P W base sp held m t cs = some r → (∀ z ∈ r.1.weights P t, z ≤ reachBytes) → ∃ x, d.K W x cs ∧ wf x
section
variable {P : Program} {n : Nat} {t : TypeId}
theorem OpnN.imp {α : Type} {d : Kd α} {wf wf' : α → Prop} (h : OpnN P n t d wf) (hw : ∀ x, wf x → wf' x) : OpnN P n t d wf' := fun m hm H enc W base sp held cs r hr hz => by
  obtain ⟨x, h1, h2⟩ := h m hm H enc W base sp held cs r hr hz
  exact ⟨x, h1, hw x h2⟩
theorem opn_int {k : IntKind} (ht : P.underlying t = some (.int k)) : OpnN P n t (Kd.int k) (fun z => (Lit.int k z).wf = true) := fun m _ H enc W base sp held cs r hr _ => by
  obtain ⟨z, rfl, _, hw⟩ := DataW.trod_int ht hr
  exact ⟨z, rfl, hw⟩
theorem opn_arg {α : Type} {d : Kd α} {wf : α → Prop} (h : ∀ n, OpnN P n t d wf) {H : Type} {enc : TypeId × Value → H} {W : World} {v : Value} {x : DataW H} {ps : List MemPlace} (hr : DataW.Trod enc P W 0 (fun _ => true) true t v x ps)
    (hz : ∀ z ∈ x.weights P t, z ≤ reachBytes) : ∃ y, d.K W y v.cells.toList ∧ wf y := by
  obtain ⟨m, hm⟩ := hr
  exact h m m (Nat.le_refl _) H enc W 0 _ true _ _ hm hz
theorem weights_head {H : Type} {t : TypeId} {ts : List TypeId} {d : DataW H} {ds : List (DataW H)} (h : (DataW.weightsEach P (t :: ts) (d :: ds)).all (· ≤ reachBytes) = true) : (∀ z ∈ d.weights P t, z ≤ reachBytes) ∧ (DataW.weightsEach P ts ds).all (· ≤ reachBytes) = true := by
  rw [DataW.weightsEach, List.all_append, Bool.and_eq_true] at h
  exact ⟨fun z hz => by simpa using (List.all_eq_true.1 h.1) z hz, h.2⟩
theorem int_of_K {k : IntKind} {W : World} {x : Int} {v : Value} (h : (Kd.int k).K W x v.cells.toList) (hv : ∃ n, v = .int k n) : v = .int k x := by
  obtain ⟨n, rfl⟩ := hv
  have h : [Value.int k n] = [Value.int k x] := h
  simpa using h
theorem laid_tail {x : String × DataW Unit} {l : List (String × DataW Unit)} {W : World} (h : laidMet P (x :: l) W) : laidMet P l W := by
  obtain ⟨ps, h1, h2, h3⟩ := h
  obtain ⟨g, t, cs, fuel, p, q, hg, ht, hvar, hd, hq, rfl⟩ := h1
  refine ⟨q, hq, ?_, fun b off hb => h3 b off (List.mem_append_right _ hb)⟩
  exact (List.nodup_append.1 h2).2.1
end
end Go.Proofs.YtpdhoghkoakojaaDoor.Op
