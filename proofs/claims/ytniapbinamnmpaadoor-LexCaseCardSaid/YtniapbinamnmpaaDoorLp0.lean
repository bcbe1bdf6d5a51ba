/- Plain: the chapter's examples; texts put together. -/
import Derived.Test.YtniapbinamnmpaaDoorLh
import Derived.Lib.SmallJoins
import Derived.Test.YtniapbinamnmpaaDoorLx9
namespace Go.Proofs.YtniapbinamnmpaaDoor.L
set_option linter.unusedSimpArgs false
set_option linter.unusedVariables false
open Go.RowKit Go.Proofs.YtniapbinamnmpaaDoorW.PrintWords Go.Proofs.YtniapbinamnmpaaDoorW.PrintLast Go.Proofs.YtniapbinamnmpaaDoorW.PrintMore

set_option maxRecDepth 1000000 in
theorem ex_true : weathercocklaw07_examples.f = some true := by kernel_rfl
theorem ba_app (a b : ByteArray) (l m : List UInt8) (h : a.data.toList = l) (h2 : b.data.toList = m) : a ++ b = ⟨(l ++ m).toArray⟩ := by
  refine ba_ext ?_
  rw [Joins.data_append, ba_mk, h, h2]
theorem ba_eta (s : ByteArray) (l : List UInt8) (h : s.data.toList = l) : s = ⟨l.toArray⟩ := ba_ext (by rw [ba_mk, h])
theorem ext_one (s : ByteArray) (l : List UInt8) (hl : s.data.toList = l) (j : Nat) (c : UInt8) (r : List UInt8) (h : l.drop j = c :: r) : (s.extract j (j + 1)).data.toList = [c] := by
  rw [ext_list, hl, h]
  have : j + 1 - j = 1 := by omega
  rw [this]; rfl
theorem lexL_mk (l : List UInt8) (h : l.length ≤ 2000) : lexL ⟨l.toArray⟩ = lexGo (l.length + 1) l [] 0 := by
  unfold lexL
  rw [ba_size, if_neg (by omega), ba_mk]
theorem u8_ne {c : UInt8} {n : Nat} (h : ¬ c = UInt8.ofNat n) (hn : n < 256) : ¬ (c.toNat : Int) = (n : Int) := fun e => h (by
  apply UInt8.toNat_inj.1
  rw [UInt8.toNat_ofNat']
  omega)
end Go.Proofs.YtniapbinamnmpaaDoor.L
