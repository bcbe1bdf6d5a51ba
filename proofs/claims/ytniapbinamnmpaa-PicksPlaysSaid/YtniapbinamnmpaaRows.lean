/-
  No cell of these rows narrows 'for every input' (looked for: loops, veiled, ifaces, maps, wideKeys, modest, calm, conditions, laid).
  DERIVED. THE GIVEN ROWS OF THIS SEAT. 5 by the template 'for every input the law returns true; each argument reads behind the call as it read before'; 0 by the template 'total and deterministic' (their statements: YtniapbinamnmpaaTotals.lean).
  GIVEN WITH THE SEED: the statements are not yours to turn. If you find one false, say at which input.
  Laid BY PROGRAM, IN A SANDBOX (cutbox-rows.mjs): the forced cells as the released guide's own fill.sh prints them over the translation 744fe4f8f1352b5f… (all of the seat's roots in one cut). By AI agents, Wed Nov 11 2026. No macro, syntax, notation, axiom, sorry.
-/
import Derived.Test.YtniapbinamnmpaaChecked
import GoSem.Claim
import GoSem.ClaimJoined
import GoSem.ClaimMapViews
import Derived.JoinedTies
import Derived.KernelRfl
namespace Go.Proofs.Ytniapbinamnmpaa
/- THE CELL 'sum', in the pinned program and in every row, IS THE sha256 OF THE DUMP (.gsa) THAT YtniapbinamnmpaaProg.lean LOADS. Nothing in Lean hashes anything: it is a label: what it is worth is what the hold of that sum in a sandbox is worth. -/
noncomputable def Try.pinned : Pinned := { name := "ytniapbinamnmpaa", sum := "744fe4f8f1352b5f4ffd3ffb40820f1a3504b11715e5166c33f105922b73f274", checked := Try.checked }
namespace Rows
def none {H : Type} : Left H := { results := [], args := [] }

/-- 'weathercocklaw04.PicksPlays': WHATEVER THE INPUT: true; the input reads as it did. -/
def picksPlaysSpec : ChangeSpec := { name := "picksPlays", fn := fun _ => fun
  | [d1, d2, d3] => { results := [.lit (.bool true)], args := [d1, d2, d3] }
  | _ => none }
def picksPlaysRow : OpenClaim := { program := "ytniapbinamnmpaa", sum := "744fe4f8f1352b5f4ffd3ffb40820f1a3504b11715e5166c33f105922b73f274", func := "weathercock/weathercocklaw04.PicksPlays", spec := "picksPlays", apart := false }
def PicksPlaysSaid : Prop := picksPlaysRow.holds Try.pinned (OpenSpec.ofChange picksPlaysSpec)

/-- ITS FALSE NEIGHBOUR: 'it returns false'. Refute it at one input. -/
def picksPlaysWrong : ChangeSpec := { name := "picksPlays", fn := fun _ => fun
  | [d1, d2, d3] => { results := [.lit (.bool false)], args := [d1, d2, d3] }
  | _ => none }
def PicksPlaysWrongFalsely : Prop := picksPlaysRow.holds Try.pinned (OpenSpec.ofChange picksPlaysWrong)

/-- 'weathercocklaw04.PicksWithin': WHATEVER THE INPUT: true; the input reads as it did. -/
def picksWithinSpec : ChangeSpec := { name := "picksWithin", fn := fun _ => fun
  | [d1, d2] => { results := [.lit (.bool true)], args := [d1, d2] }
  | _ => none }
def picksWithinRow : OpenClaim := { program := "ytniapbinamnmpaa", sum := "744fe4f8f1352b5f4ffd3ffb40820f1a3504b11715e5166c33f105922b73f274", func := "weathercock/weathercocklaw04.PicksWithin", spec := "picksWithin", apart := false }
def PicksWithinSaid : Prop := picksWithinRow.holds Try.pinned (OpenSpec.ofChange picksWithinSpec)

/-- ITS FALSE NEIGHBOUR: 'it returns false'. Refute it at one input. -/
def picksWithinWrong : ChangeSpec := { name := "picksWithin", fn := fun _ => fun
  | [d1, d2] => { results := [.lit (.bool false)], args := [d1, d2] }
  | _ => none }
def PicksWithinWrongFalsely : Prop := picksWithinRow.holds Try.pinned (OpenSpec.ofChange picksWithinWrong)

/-- 'weathercocklaw04.PicksOrder': WHATEVER THE INPUT: true; the input reads as it did. -/
def picksOrderSpec : ChangeSpec := { name := "picksOrder", fn := fun _ => fun
  | [d1, d2] => { results := [.lit (.bool true)], args := [d1, d2] }
  | _ => none }
def picksOrderRow : OpenClaim := { program := "ytniapbinamnmpaa", sum := "744fe4f8f1352b5f4ffd3ffb40820f1a3504b11715e5166c33f105922b73f274", func := "weathercock/weathercocklaw04.PicksOrder", spec := "picksOrder", apart := false }
def PicksOrderSaid : Prop := picksOrderRow.holds Try.pinned (OpenSpec.ofChange picksOrderSpec)

/-- ITS FALSE NEIGHBOUR: 'it returns false'. Refute it at one input. -/
def picksOrderWrong : ChangeSpec := { name := "picksOrder", fn := fun _ => fun
  | [d1, d2] => { results := [.lit (.bool false)], args := [d1, d2] }
  | _ => none }
def PicksOrderWrongFalsely : Prop := picksOrderRow.holds Try.pinned (OpenSpec.ofChange picksOrderWrong)

/-- 'weathercocklaw04.PicksNone': WHATEVER THE INPUT: true; the input reads as it did. -/
def picksNoneSpec : ChangeSpec := { name := "picksNone", fn := fun _ => fun
  | [d1, d2] => { results := [.lit (.bool true)], args := [d1, d2] }
  | _ => none }
def picksNoneRow : OpenClaim := { program := "ytniapbinamnmpaa", sum := "744fe4f8f1352b5f4ffd3ffb40820f1a3504b11715e5166c33f105922b73f274", func := "weathercock/weathercocklaw04.PicksNone", spec := "picksNone", apart := false }
def PicksNoneSaid : Prop := picksNoneRow.holds Try.pinned (OpenSpec.ofChange picksNoneSpec)

/-- ITS FALSE NEIGHBOUR: 'it returns false'. Refute it at one input. -/
def picksNoneWrong : ChangeSpec := { name := "picksNone", fn := fun _ => fun
  | [d1, d2] => { results := [.lit (.bool false)], args := [d1, d2] }
  | _ => none }
def PicksNoneWrongFalsely : Prop := picksNoneRow.holds Try.pinned (OpenSpec.ofChange picksNoneWrong)

/-- 'weathercocklaw04.PicksSame': WHATEVER THE INPUT: true; the input reads as it did. -/
def picksSameSpec : ChangeSpec := { name := "picksSame", fn := fun _ => fun
  | [d1, d2] => { results := [.lit (.bool true)], args := [d1, d2] }
  | _ => none }
def picksSameRow : OpenClaim := { program := "ytniapbinamnmpaa", sum := "744fe4f8f1352b5f4ffd3ffb40820f1a3504b11715e5166c33f105922b73f274", func := "weathercock/weathercocklaw04.PicksSame", spec := "picksSame", apart := false }
def PicksSameSaid : Prop := picksSameRow.holds Try.pinned (OpenSpec.ofChange picksSameSpec)

/-- ITS FALSE NEIGHBOUR: 'it returns false'. Refute it at one input. -/
def picksSameWrong : ChangeSpec := { name := "picksSame", fn := fun _ => fun
  | [d1, d2] => { results := [.lit (.bool false)], args := [d1, d2] }
  | _ => none }
def PicksSameWrongFalsely : Prop := picksSameRow.holds Try.pinned (OpenSpec.ofChange picksSameWrong)

/- THE SECOND FORM. 'bulk': how many values and letters a reading holds, each counted each time it is reached (what is shared counts as often as it is met; a slice's spare places count too). A statement '..UptoSaid' is the law's where the arguments, and the package variables that the reading takes, are together of bulk at most 1048576: NARROWER than '..Said'. Prove '..Said' where nothing that the law and all that it calls make is longer than what came in: it says more and counts as full. Else prove '..UptoSaid'. A law counts once. -/
mutual
def uptoBulk {H : Type} : DataW H → Nat
  | .lit (.string bytes) => bytes.length + 1
  | .lit _ => 1
  | .nil => 1
  | .ptr d => uptoBulk d + 1
  | .slice elems spare => uptoBulkAll elems + uptoBulkAll spare + 1
  | .agg parts => uptoBulkAll parts + 1
  | .iface _ d => uptoBulk d + 1
  | .map entries => uptoBulkEntries entries + 1
  | .held _ => 1
def uptoBulkAll {H : Type} : List (DataW H) → Nat
  | [] => 0
  | d :: r => uptoBulk d + uptoBulkAll r
def uptoBulkEntries {H : Type} : List (Lit × DataW H) → Nat
  | [] => 0
  | x :: r => uptoBulkEntry x + uptoBulkEntries r
def uptoBulkEntry {H : Type} : Lit × DataW H → Nat
  | (.string bytes, d) => bytes.length + uptoBulk d + 1
  | (_, d) => uptoBulk d + 1
 end
def uptoSmall : (H : Type) → List (DataW H) → Bool := fun _ ds => decide (uptoBulkAll ds ≤ 1048576)
def OpenSpec.upto (s : _root_.Go.ChangeSpec) : _root_.Go.OpenSpec := { _root_.Go.OpenSpec.ofChange s with cond := some uptoSmall }

/-- 'weathercocklaw04.PicksPlays', WHERE WHAT IT READS IS OF BULK AT MOST 1048576: true; the input reads as it did. -/
def picksPlaysUptoRow : OpenClaim := { program := "ytniapbinamnmpaa", sum := "744fe4f8f1352b5f4ffd3ffb40820f1a3504b11715e5166c33f105922b73f274", func := "weathercock/weathercocklaw04.PicksPlays", spec := "picksPlays", apart := false, narrowed := true }
def PicksPlaysUptoSaid : Prop := picksPlaysUptoRow.holds Try.pinned (OpenSpec.upto picksPlaysSpec)

/-- 'weathercocklaw04.PicksWithin', WHERE WHAT IT READS IS OF BULK AT MOST 1048576: true; the input reads as it did. -/
def picksWithinUptoRow : OpenClaim := { program := "ytniapbinamnmpaa", sum := "744fe4f8f1352b5f4ffd3ffb40820f1a3504b11715e5166c33f105922b73f274", func := "weathercock/weathercocklaw04.PicksWithin", spec := "picksWithin", apart := false, narrowed := true }
def PicksWithinUptoSaid : Prop := picksWithinUptoRow.holds Try.pinned (OpenSpec.upto picksWithinSpec)

/-- 'weathercocklaw04.PicksOrder', WHERE WHAT IT READS IS OF BULK AT MOST 1048576: true; the input reads as it did. -/
def picksOrderUptoRow : OpenClaim := { program := "ytniapbinamnmpaa", sum := "744fe4f8f1352b5f4ffd3ffb40820f1a3504b11715e5166c33f105922b73f274", func := "weathercock/weathercocklaw04.PicksOrder", spec := "picksOrder", apart := false, narrowed := true }
def PicksOrderUptoSaid : Prop := picksOrderUptoRow.holds Try.pinned (OpenSpec.upto picksOrderSpec)

/-- 'weathercocklaw04.PicksNone', WHERE WHAT IT READS IS OF BULK AT MOST 1048576: true; the input reads as it did. -/
def picksNoneUptoRow : OpenClaim := { program := "ytniapbinamnmpaa", sum := "744fe4f8f1352b5f4ffd3ffb40820f1a3504b11715e5166c33f105922b73f274", func := "weathercock/weathercocklaw04.PicksNone", spec := "picksNone", apart := false, narrowed := true }
def PicksNoneUptoSaid : Prop := picksNoneUptoRow.holds Try.pinned (OpenSpec.upto picksNoneSpec)

/-- 'weathercocklaw04.PicksSame', WHERE WHAT IT READS IS OF BULK AT MOST 1048576: true; the input reads as it did. -/
def picksSameUptoRow : OpenClaim := { program := "ytniapbinamnmpaa", sum := "744fe4f8f1352b5f4ffd3ffb40820f1a3504b11715e5166c33f105922b73f274", func := "weathercock/weathercocklaw04.PicksSame", spec := "picksSame", apart := false, narrowed := true }
def PicksSameUptoSaid : Prop := picksSameUptoRow.holds Try.pinned (OpenSpec.upto picksSameSpec)

end Rows
end Go.Proofs.Ytniapbinamnmpaa
