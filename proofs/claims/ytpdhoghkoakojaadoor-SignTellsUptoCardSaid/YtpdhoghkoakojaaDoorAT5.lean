/- Contracts and plain lemmas of the functions that the law reaches, part 5. -/
import Derived.KernelRfl
import Derived.Test.YtpdhoghkoakojaaDoorAT3
import Derived.Test.YtpdhoghkoakojaaDoorAT4
namespace Go.Proofs.YtpdhoghkoakojaaDoor.E
open Go.RowKit Go.Proofs.YtpdhoghkoakojaaDoorW.PrintWords Go.Proofs.YtpdhoghkoakojaaDoorW.PrintLast Go.Proofs.YtpdhoghkoakojaaDoorW.PrintMore Go.Proofs.YtpdhoghkoakojaaDoor
set_option linter.unusedVariables false
set_option linter.unusedSimpArgs false
def wf23 (x : S23) : Prop := (fun z : Int => (Lit.int .i64 z).wf = true) x.f0 ∧ (fun z : Int => (Lit.int .i64 z).wf = true) x.f1 ∧ (fun s : ByteArray => s.size ≤ reachBytes) x.f2
inductive wf26 : S26 → Prop
  | mk (x : S26) : (fun z : Int => (Lit.int .i64 z).wf = true) x.f0 → wf23 x.f1 → (fun z : Int => (Lit.int .i64 z).wf = true) x.f2 → (fun z : Int => (Lit.int .i64 z).wf = true) x.f3 → (fun z : Int => (Lit.int .i64 z).wf = true) x.f4 → (fun s : ByteArray => s.size ≤ reachBytes) x.f5 → (x.f6.length * Tryd.prog.bytesOf 26 ≤ reachBytes) → (∀ y ∈ x.f6, wf26 y) → wf26 x
def wf144 (x : S144) : Prop := (fun z : Int => (Lit.int .i64 z).wf = true) x.f0 ∧ wf26 x.f1
def wf43 (x : S43) : Prop := (fun xs : List Int => xs.length * Tryd.prog.bytesOf 3 ≤ reachBytes ∧ ∀ x ∈ xs, (fun z : Int => (Lit.int .i64 z).wf = true) x) x.f0 ∧ (fun z : Int => (Lit.int .i64 z).wf = true) x.f1 ∧ (fun xs : List Int => xs.length * Tryd.prog.bytesOf 3 ≤ reachBytes ∧ ∀ x ∈ xs, (fun z : Int => (Lit.int .i64 z).wf = true) x) x.f2 ∧ (fun xs : List S26 => xs.length * Tryd.prog.bytesOf 26 ≤ reachBytes ∧ ∀ x ∈ xs, wf26 x) x.f3 ∧ (fun xs : List S26 => xs.length * Tryd.prog.bytesOf 26 ≤ reachBytes ∧ ∀ x ∈ xs, wf26 x) x.f4 ∧ (fun xs : List S26 => xs.length * Tryd.prog.bytesOf 26 ≤ reachBytes ∧ ∀ x ∈ xs, wf26 x) x.f5 ∧ (fun xs : List S26 => xs.length * Tryd.prog.bytesOf 26 ≤ reachBytes ∧ ∀ x ∈ xs, wf26 x) x.f6 ∧ (fun _ : Bool => True) x.f7 ∧ (fun xs : List S26 => xs.length * Tryd.prog.bytesOf 26 ≤ reachBytes ∧ ∀ x ∈ xs, wf26 x) x.f8 ∧ (fun xs : List S144 => xs.length * Tryd.prog.bytesOf 144 ≤ reachBytes ∧ ∀ x ∈ xs, wf144 x) x.f9 ∧ (fun _ : Bool => True) x.f10
end Go.Proofs.YtpdhoghkoakojaaDoor.E
