/-
  No cell of these rows narrows 'for every input' (looked for: loops, veiled, ifaces, maps, wideKeys, modest, calm, conditions, laid).
  DERIVED. THE GIVEN ROWS OF THIS SEAT. 6 by the template 'for every input the law returns true; each argument reads behind the call as it read before'; 0 by the template 'total and deterministic' (their statements: YtobcnochlkdpaaaTotals.lean).
  GIVEN WITH THE SEED: the statements are not yours to turn. If you find one false, say at which input.
  Laid BY PROGRAM, IN A SANDBOX (cutbox-rows.mjs): the forced cells as the released guide's own fill.sh prints them over the translation 280b088bf133a93b… (all of the seat's roots in one cut). By AI agents, Wed Nov 11 2026. No macro, syntax, notation, axiom, sorry.
-/
import Derived.Test.YtobcnochlkdpaaaChecked
import GoSem.Claim
import GoSem.ClaimJoined
import GoSem.ClaimMapViews
import Derived.JoinedTies
import Derived.KernelRfl
namespace Go.Proofs.Ytobcnochlkdpaaa
/- THE CELL 'sum', in the pinned program and in every row, IS THE sha256 OF THE DUMP (.gsa) THAT YtobcnochlkdpaaaProg.lean LOADS. Nothing in Lean hashes anything: it is a label: what it is worth is what the hold of that sum in a sandbox is worth. -/
noncomputable def Try.pinned : Pinned := { name := "ytobcnochlkdpaaa", sum := "280b088bf133a93ba9b97cd6089122371ec42a1a0381a8743b301930216fce71", checked := Try.checked }
namespace Rows
def none {H : Type} : Left H := { results := [], args := [] }

/-- 'acequialaw55.ClocksSpec': WHATEVER THE INPUT: true; the input reads as it did. -/
def clocksSpecSpec : ChangeSpec := { name := "clocksSpec", fn := fun _ => fun
  | [d1, d2, d3, d4, d5] => { results := [.lit (.bool true)], args := [d1, d2, d3, d4, d5] }
  | _ => none }
def clocksSpecRow : OpenClaim := { program := "ytobcnochlkdpaaa", sum := "280b088bf133a93ba9b97cd6089122371ec42a1a0381a8743b301930216fce71", func := "acequia/acequialaw55.ClocksSpec", spec := "clocksSpec", inPlace := ["slices.overlaps[acequia/api.Fact]"], unfollowed := true, recurses := true, apart := false }
def ClocksSpecSaid : Prop := clocksSpecRow.holds Try.pinned (OpenSpec.ofChange clocksSpecSpec)

/-- ITS FALSE NEIGHBOUR: 'it returns false'. Refute it at one input. -/
def clocksSpecWrong : ChangeSpec := { name := "clocksSpec", fn := fun _ => fun
  | [d1, d2, d3, d4, d5] => { results := [.lit (.bool false)], args := [d1, d2, d3, d4, d5] }
  | _ => none }
def ClocksSpecWrongFalsely : Prop := clocksSpecRow.holds Try.pinned (OpenSpec.ofChange clocksSpecWrong)

/-- 'acequialaw55.ClocksHistorySpec': WHATEVER THE INPUT: true; the input reads as it did. -/
def clocksHistorySpecSpec : ChangeSpec := { name := "clocksHistorySpec", fn := fun _ => fun
  | [d1, d2, d3, d4, d5] => { results := [.lit (.bool true)], args := [d1, d2, d3, d4, d5] }
  | _ => none }
def clocksHistorySpecRow : OpenClaim := { program := "ytobcnochlkdpaaa", sum := "280b088bf133a93ba9b97cd6089122371ec42a1a0381a8743b301930216fce71", func := "acequia/acequialaw55.ClocksHistorySpec", spec := "clocksHistorySpec", inPlace := ["slices.overlaps[acequia/api.Fact]"], unfollowed := true, recurses := true, apart := false }
def ClocksHistorySpecSaid : Prop := clocksHistorySpecRow.holds Try.pinned (OpenSpec.ofChange clocksHistorySpecSpec)

/-- ITS FALSE NEIGHBOUR: 'it returns false'. Refute it at one input. -/
def clocksHistorySpecWrong : ChangeSpec := { name := "clocksHistorySpec", fn := fun _ => fun
  | [d1, d2, d3, d4, d5] => { results := [.lit (.bool false)], args := [d1, d2, d3, d4, d5] }
  | _ => none }
def ClocksHistorySpecWrongFalsely : Prop := clocksHistorySpecRow.holds Try.pinned (OpenSpec.ofChange clocksHistorySpecWrong)

/-- 'acequialaw55.ClocksKnown': WHATEVER THE INPUT: true; the input reads as it did. -/
def clocksKnownSpec : ChangeSpec := { name := "clocksKnown", fn := fun _ => fun
  | [d1, d2, d3, d4, d5, d6] => { results := [.lit (.bool true)], args := [d1, d2, d3, d4, d5, d6] }
  | _ => none }
def clocksKnownRow : OpenClaim := { program := "ytobcnochlkdpaaa", sum := "280b088bf133a93ba9b97cd6089122371ec42a1a0381a8743b301930216fce71", func := "acequia/acequialaw55.ClocksKnown", spec := "clocksKnown", inPlace := ["slices.overlaps[acequia/api.Fact]"], unfollowed := true, recurses := true, apart := false }
def ClocksKnownSaid : Prop := clocksKnownRow.holds Try.pinned (OpenSpec.ofChange clocksKnownSpec)

/-- ITS FALSE NEIGHBOUR: 'it returns false'. Refute it at one input. -/
def clocksKnownWrong : ChangeSpec := { name := "clocksKnown", fn := fun _ => fun
  | [d1, d2, d3, d4, d5, d6] => { results := [.lit (.bool false)], args := [d1, d2, d3, d4, d5, d6] }
  | _ => none }
def ClocksKnownWrongFalsely : Prop := clocksKnownRow.holds Try.pinned (OpenSpec.ofChange clocksKnownWrong)

/-- 'acequialaw55.ClocksCorrected': WHATEVER THE INPUT: true; the input reads as it did. -/
def clocksCorrectedSpec : ChangeSpec := { name := "clocksCorrected", fn := fun _ => fun
  | [d1, d2, d3, d4, d5] => { results := [.lit (.bool true)], args := [d1, d2, d3, d4, d5] }
  | _ => none }
def clocksCorrectedRow : OpenClaim := { program := "ytobcnochlkdpaaa", sum := "280b088bf133a93ba9b97cd6089122371ec42a1a0381a8743b301930216fce71", func := "acequia/acequialaw55.ClocksCorrected", spec := "clocksCorrected", inPlace := ["slices.overlaps[acequia/api.Fact]"], unfollowed := true, recurses := true, apart := false }
def ClocksCorrectedSaid : Prop := clocksCorrectedRow.holds Try.pinned (OpenSpec.ofChange clocksCorrectedSpec)

/-- ITS FALSE NEIGHBOUR: 'it returns false'. Refute it at one input. -/
def clocksCorrectedWrong : ChangeSpec := { name := "clocksCorrected", fn := fun _ => fun
  | [d1, d2, d3, d4, d5] => { results := [.lit (.bool false)], args := [d1, d2, d3, d4, d5] }
  | _ => none }
def ClocksCorrectedWrongFalsely : Prop := clocksCorrectedRow.holds Try.pinned (OpenSpec.ofChange clocksCorrectedWrong)

/-- 'acequialaw55.ClocksParts': WHATEVER THE INPUT: true; the input reads as it did. -/
def clocksPartsSpec : ChangeSpec := { name := "clocksParts", fn := fun _ => fun
  | [d1, d2, d3, d4] => { results := [.lit (.bool true)], args := [d1, d2, d3, d4] }
  | _ => none }
def clocksPartsRow : OpenClaim := { program := "ytobcnochlkdpaaa", sum := "280b088bf133a93ba9b97cd6089122371ec42a1a0381a8743b301930216fce71", func := "acequia/acequialaw55.ClocksParts", spec := "clocksParts", inPlace := ["slices.overlaps[acequia/api.Fact]"], unfollowed := true, recurses := true, apart := false }
def ClocksPartsSaid : Prop := clocksPartsRow.holds Try.pinned (OpenSpec.ofChange clocksPartsSpec)

/-- ITS FALSE NEIGHBOUR: 'it returns false'. Refute it at one input. -/
def clocksPartsWrong : ChangeSpec := { name := "clocksParts", fn := fun _ => fun
  | [d1, d2, d3, d4] => { results := [.lit (.bool false)], args := [d1, d2, d3, d4] }
  | _ => none }
def ClocksPartsWrongFalsely : Prop := clocksPartsRow.holds Try.pinned (OpenSpec.ofChange clocksPartsWrong)

/-- 'acequialaw55.ClocksDifference': WHATEVER THE INPUT: true; the input reads as it did. -/
def clocksDifferenceSpec : ChangeSpec := { name := "clocksDifference", fn := fun _ => fun
  | [d1, d2, d3, d4, d5, d6] => { results := [.lit (.bool true)], args := [d1, d2, d3, d4, d5, d6] }
  | _ => none }
def clocksDifferenceRow : OpenClaim := { program := "ytobcnochlkdpaaa", sum := "280b088bf133a93ba9b97cd6089122371ec42a1a0381a8743b301930216fce71", func := "acequia/acequialaw55.ClocksDifference", spec := "clocksDifference", inPlace := ["slices.overlaps[acequia/api.Fact]"], unfollowed := true, recurses := true, apart := false }
def ClocksDifferenceSaid : Prop := clocksDifferenceRow.holds Try.pinned (OpenSpec.ofChange clocksDifferenceSpec)

/-- ITS FALSE NEIGHBOUR: 'it returns false'. Refute it at one input. -/
def clocksDifferenceWrong : ChangeSpec := { name := "clocksDifference", fn := fun _ => fun
  | [d1, d2, d3, d4, d5, d6] => { results := [.lit (.bool false)], args := [d1, d2, d3, d4, d5, d6] }
  | _ => none }
def ClocksDifferenceWrongFalsely : Prop := clocksDifferenceRow.holds Try.pinned (OpenSpec.ofChange clocksDifferenceWrong)

/- THE SECOND FORM. 'bulk': how many values and letters a reading holds, each counted each time it is reached (what is shared counts as often as it is met; a slice's spare places count too). A statement '..UptoSaid' is the law's where the arguments, and the package variables that the reading takes, are together of bulk at most 1048576: NARROWER than '..Said'. Prove '..Said' where nothing that the law and all that it calls make is longer than what came in: it says more and counts as full. Else prove '..UptoSaid'. A law counts once. -/
mutual
def uptoBulk {H : Type} : DataW H → Nat
  | .lit (.string bytes) => bytes.length + 1
  | .lit _ => 1
  | .nil => 1
  | .ptr d => uptoBulk d + 1
  | .slice elems spare => uptoBulkAll elems + uptoBulkAll spare + 1
  | .agg parts => uptoBulkAll parts + 1
  | .iface _ d => uptoBulk d + 1
  | .map entries => uptoBulkEntries entries + 1
  | .held _ => 1
def uptoBulkAll {H : Type} : List (DataW H) → Nat
  | [] => 0
  | d :: r => uptoBulk d + uptoBulkAll r
def uptoBulkEntries {H : Type} : List (Lit × DataW H) → Nat
  | [] => 0
  | x :: r => uptoBulkEntry x + uptoBulkEntries r
def uptoBulkEntry {H : Type} : Lit × DataW H → Nat
  | (.string bytes, d) => bytes.length + uptoBulk d + 1
  | (_, d) => uptoBulk d + 1
 end
def uptoSmall : (H : Type) → List (DataW H) → Bool := fun _ ds => decide (uptoBulkAll ds ≤ 1048576)
def OpenSpec.upto (s : _root_.Go.ChangeSpec) : _root_.Go.OpenSpec := { _root_.Go.OpenSpec.ofChange s with cond := some uptoSmall }

/-- 'acequialaw55.ClocksSpec', WHERE WHAT IT READS IS OF BULK AT MOST 1048576: true; the input reads as it did. -/
def clocksSpecUptoRow : OpenClaim := { program := "ytobcnochlkdpaaa", sum := "280b088bf133a93ba9b97cd6089122371ec42a1a0381a8743b301930216fce71", func := "acequia/acequialaw55.ClocksSpec", spec := "clocksSpec", inPlace := ["slices.overlaps[acequia/api.Fact]"], unfollowed := true, recurses := true, apart := false, narrowed := true }
def ClocksSpecUptoSaid : Prop := clocksSpecUptoRow.holds Try.pinned (OpenSpec.upto clocksSpecSpec)

/-- 'acequialaw55.ClocksHistorySpec', WHERE WHAT IT READS IS OF BULK AT MOST 1048576: true; the input reads as it did. -/
def clocksHistorySpecUptoRow : OpenClaim := { program := "ytobcnochlkdpaaa", sum := "280b088bf133a93ba9b97cd6089122371ec42a1a0381a8743b301930216fce71", func := "acequia/acequialaw55.ClocksHistorySpec", spec := "clocksHistorySpec", inPlace := ["slices.overlaps[acequia/api.Fact]"], unfollowed := true, recurses := true, apart := false, narrowed := true }
def ClocksHistorySpecUptoSaid : Prop := clocksHistorySpecUptoRow.holds Try.pinned (OpenSpec.upto clocksHistorySpecSpec)

/-- 'acequialaw55.ClocksKnown', WHERE WHAT IT READS IS OF BULK AT MOST 1048576: true; the input reads as it did. -/
def clocksKnownUptoRow : OpenClaim := { program := "ytobcnochlkdpaaa", sum := "280b088bf133a93ba9b97cd6089122371ec42a1a0381a8743b301930216fce71", func := "acequia/acequialaw55.ClocksKnown", spec := "clocksKnown", inPlace := ["slices.overlaps[acequia/api.Fact]"], unfollowed := true, recurses := true, apart := false, narrowed := true }
def ClocksKnownUptoSaid : Prop := clocksKnownUptoRow.holds Try.pinned (OpenSpec.upto clocksKnownSpec)

/-- 'acequialaw55.ClocksCorrected', WHERE WHAT IT READS IS OF BULK AT MOST 1048576: true; the input reads as it did. -/
def clocksCorrectedUptoRow : OpenClaim := { program := "ytobcnochlkdpaaa", sum := "280b088bf133a93ba9b97cd6089122371ec42a1a0381a8743b301930216fce71", func := "acequia/acequialaw55.ClocksCorrected", spec := "clocksCorrected", inPlace := ["slices.overlaps[acequia/api.Fact]"], unfollowed := true, recurses := true, apart := false, narrowed := true }
def ClocksCorrectedUptoSaid : Prop := clocksCorrectedUptoRow.holds Try.pinned (OpenSpec.upto clocksCorrectedSpec)

/-- 'acequialaw55.ClocksParts', WHERE WHAT IT READS IS OF BULK AT MOST 1048576: true; the input reads as it did. -/
def clocksPartsUptoRow : OpenClaim := { program := "ytobcnochlkdpaaa", sum := "280b088bf133a93ba9b97cd6089122371ec42a1a0381a8743b301930216fce71", func := "acequia/acequialaw55.ClocksParts", spec := "clocksParts", inPlace := ["slices.overlaps[acequia/api.Fact]"], unfollowed := true, recurses := true, apart := false, narrowed := true }
def ClocksPartsUptoSaid : Prop := clocksPartsUptoRow.holds Try.pinned (OpenSpec.upto clocksPartsSpec)

/-- 'acequialaw55.ClocksDifference', WHERE WHAT IT READS IS OF BULK AT MOST 1048576: true; the input reads as it did. -/
def clocksDifferenceUptoRow : OpenClaim := { program := "ytobcnochlkdpaaa", sum := "280b088bf133a93ba9b97cd6089122371ec42a1a0381a8743b301930216fce71", func := "acequia/acequialaw55.ClocksDifference", spec := "clocksDifference", inPlace := ["slices.overlaps[acequia/api.Fact]"], unfollowed := true, recurses := true, apart := false, narrowed := true }
def ClocksDifferenceUptoSaid : Prop := clocksDifferenceUptoRow.holds Try.pinned (OpenSpec.upto clocksDifferenceSpec)

end Rows
end Go.Proofs.Ytobcnochlkdpaaa
