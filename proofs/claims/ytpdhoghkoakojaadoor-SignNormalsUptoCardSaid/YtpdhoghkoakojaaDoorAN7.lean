/- Contracts and plain lemmas of the functions that the law reaches, part 7. -/
import Derived.KernelRfl
import Derived.Test.YtpdhoghkoakojaaDoorAN5
import Derived.Test.YtpdhoghkoakojaaDoorAN6
namespace Go.Proofs.YtpdhoghkoakojaaDoor.E
open Go.RowKit Go.Proofs.YtpdhoghkoakojaaDoorW.PrintWords Go.Proofs.YtpdhoghkoakojaaDoorW.PrintLast Go.Proofs.YtpdhoghkoakojaaDoorW.PrintMore Go.Proofs.YtpdhoghkoakojaaDoor
set_option linter.unusedVariables false
set_option linter.unusedSimpArgs false
def bk23 (x : S23) : Nat := ((fun _ => 1) x.f0 + ((fun _ => 1) x.f1 + (fun s : ByteArray => s.size + 1) x.f2)) + 1
theorem opq23 (n : Nat) : Oq.OpnN Tryd.prog n 23 k23 wf23 bk23 := (Oq.opn_iso (fun x : S23 => (x.f0, x.f1, x.f2)) (fun x => (⟨x.1, x.2.1, x.2.2⟩ : S23)) (fun _ => rfl) (Oq.opn_struct Tryd.underlying23 (by show Tryd.prog.cellsOf 23 = _; kernel_rfl) (Oq.opnF_cons rfl (by show Tryd.prog.cellsOf 3 = _; kernel_rfl) (Oq.opn_int Tryd.underlying3) (Oq.opnF_cons rfl (by show Tryd.prog.cellsOf 3 = _; kernel_rfl) (Oq.opn_int Tryd.underlying3) (Oq.opnF_last rfl (by show Tryd.prog.cellsOf 9 = _; kernel_rfl) (Oq.opn_string Tryd.underlying9)))))).imp (fun x h => h) (fun x => Nat.le_refl _) |>.le
mutual
def bk26 : S26 → Nat
  | ⟨f0, f1, f2, f3, f4, f5, f6⟩ => ((fun _ => 1) f0 + (bk23 f1 + ((fun _ => 1) f2 + ((fun _ => 1) f3 + ((fun _ => 1) f4 + ((fun s : ByteArray => s.size + 1) f5 + (bk26L f6 + 1))))))) + 1
def bk26L : List S26 → Nat
  | [] => 0
  | x :: l => bk26 x + bk26L l
end
theorem bk26L_eq : ∀ l : List S26, bk26L l = (l.map bk26).sum
  | [] => by rw [bk26L]; rfl
  | x :: l => by rw [bk26L, bk26L_eq l]; rfl
theorem bk26_eq (x : S26) : bk26 x = ((fun _ => 1) x.f0 + (bk23 x.f1 + ((fun _ => 1) x.f2 + ((fun _ => 1) x.f3 + ((fun _ => 1) x.f4 + ((fun s : ByteArray => s.size + 1) x.f5 + ((x.f6.map bk26).sum + 1))))))) + 1 := by cases x; rw [bk26, bk26L_eq]
theorem opq26 (n : Nat) : Oq.OpnN Tryd.prog n 26 k26 wf26 bk26 := Oq.opn_fix (fun n d hd hn => (Oq.opn_iso (fun x : S26 => (x.f0, x.f1, x.f2, x.f3, x.f4, x.f5, x.f6)) (fun x => (⟨x.1, x.2.1, x.2.2.1, x.2.2.2.1, x.2.2.2.2.1, x.2.2.2.2.2.1, x.2.2.2.2.2.2⟩ : S26)) (fun _ => rfl) (Oq.opn_struct Tryd.underlying26 (by show Tryd.prog.cellsOf 26 = _; kernel_rfl) (Oq.opnF_cons rfl (by show Tryd.prog.cellsOf 3 = _; kernel_rfl) (Oq.opn_int Tryd.underlying3) (Oq.opnF_cons rfl (by show Tryd.prog.cellsOf 23 = _; kernel_rfl) (opq23 n) (Oq.opnF_cons rfl (by show Tryd.prog.cellsOf 3 = _; kernel_rfl) (Oq.opn_int Tryd.underlying3) (Oq.opnF_cons rfl (by show Tryd.prog.cellsOf 3 = _; kernel_rfl) (Oq.opn_int Tryd.underlying3) (Oq.opnF_cons rfl (by show Tryd.prog.cellsOf 3 = _; kernel_rfl) (Oq.opn_int Tryd.underlying3) (Oq.opnF_cons rfl (by show Tryd.prog.cellsOf 9 = _; kernel_rfl) (Oq.opn_string Tryd.underlying9) (Oq.opnF_last rfl (by show Tryd.prog.cellsOf 24 = _; kernel_rfl) (Oq.opn_slice z26 Tryd.underlying24 (by rw [hd]; show Tryd.prog.cellsOf 26 = _; kernel_rfl) hn)))))))))).imp (fun x h => by obtain ⟨h0, h1, h2, h3, h4, h5, h6⟩ := h; exact .mk x h0 h1 h2 h3 h4 h5 h6.1 h6.2) (fun x => by rw [bk26_eq]; exact Nat.le_refl _)) n
end Go.Proofs.YtpdhoghkoakojaaDoor.E
