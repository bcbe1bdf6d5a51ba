/- Contracts and plain lemmas of the functions that the law reaches, part 21. -/
import Derived.Lib.Hide
import Derived.Test.YtoffpegppdmkdaaGreatDoorCP3
namespace Go.Proofs.YtoffpegppdmkdaaGreatDoor.E
open Go.RowKit Go.Proofs.YtoffpegppdmkdaaGreatDoorW.PrintWords Go.Proofs.YtoffpegppdmkdaaGreatDoorW.PrintLast Go.Proofs.YtoffpegppdmkdaaGreatDoorW.PrintMore
set_option linter.unusedVariables false
set_option linter.unusedSimpArgs false
theorem fld_stat0 (n : Int) (A : Option Addr) (k c : Nat) (W : World) : (Instr.field 51 (.agg #[.int .i64 n, .slice A k c]) 0).run Tryz.prog W = .ok (.int .i64 n) W := by
  have hu := Tryz.underlying51
  simp [Instr.field, run_underlying hu, asAgg, go_sem, part]
theorem fld_stat1 (n : Int) (A : Option Addr) (k c : Nat) (W : World) : (Instr.field 51 (.agg #[.int .i64 n, .slice A k c]) 1).run Tryz.prog W = .ok (.slice A k c) W := by
  have hu := Tryz.underlying51
  simp [Instr.field, run_underlying hu, asAgg, go_sem, part]
theorem fld_hist0 (n m : Int) (A : Option Addr) (k c : Nat) (W : World) : (Instr.field 64 (.agg #[.int .i64 n, .int .i64 m, .slice A k c]) 0).run Tryz.prog W = .ok (.int .i64 n) W := by
  have hu := Tryz.underlying64
  simp [Instr.field, run_underlying hu, asAgg, go_sem, part]
theorem fld_hist1 (n m : Int) (A : Option Addr) (k c : Nat) (W : World) : (Instr.field 64 (.agg #[.int .i64 n, .int .i64 m, .slice A k c]) 1).run Tryz.prog W = .ok (.int .i64 m) W := by
  have hu := Tryz.underlying64
  simp [Instr.field, run_underlying hu, asAgg, go_sem, part]
end Go.Proofs.YtoffpegppdmkdaaGreatDoor.E
