/-
  No cell of these rows narrows 'for every input' (looked for: loops, veiled, ifaces, maps, wideKeys, modest, calm, conditions, laid).
  DERIVED. THE GIVEN ROWS OF THIS SEAT. 5 by the template 'for every input the law returns true; each argument reads behind the call as it read before'; 0 by the template 'total and deterministic' (their statements: YtkpeaimmjjekeaaTotals.lean).
  GIVEN WITH THE SEED: the statements are not yours to turn. If you find one false, say at which input.
  Laid BY PROGRAM, IN A SANDBOX (cutbox-rows.mjs): the forced cells as the released guide's own fill.sh prints them over the translation 016bff0ff56d5dd5… (all of the seat's roots in one cut). By AI agents, Wed Nov 11 2026. No macro, syntax, notation, axiom, sorry.
-/
import Derived.Test.YtkpeaimmjjekeaaChecked
import GoSem.Claim
import GoSem.ClaimJoined
import GoSem.ClaimMapViews
import Derived.JoinedTies
import Derived.KernelRfl
namespace Go.Proofs.Ytkpeaimmjjekeaa
/- THE CELL 'sum', in the pinned program and in every row, IS THE sha256 OF THE DUMP (.gsa) THAT YtkpeaimmjjekeaaProg.lean LOADS. Nothing in Lean hashes anything: it is a label: what it is worth is what the hold of that sum in a sandbox is worth. -/
noncomputable def Try.pinned : Pinned := { name := "ytkpeaimmjjekeaa", sum := "016bff0ff56d5dd5b301bde05e0c300ea771d33481db170d6eb205a11c5f6e62", checked := Try.checked }
namespace Rows
def none {H : Type} : Left H := { results := [], args := [] }

/-- 'acequialaw37.CalibrateSpec': WHATEVER THE INPUT: true; the input reads as it did. -/
def calibrateSpecSpec : ChangeSpec := { name := "calibrateSpec", fn := fun _ => fun
  | [d1, d2, d3] => { results := [.lit (.bool true)], args := [d1, d2, d3] }
  | _ => none }
def calibrateSpecRow : OpenClaim := { program := "ytkpeaimmjjekeaa", sum := "016bff0ff56d5dd5b301bde05e0c300ea771d33481db170d6eb205a11c5f6e62", func := "acequia/acequialaw37.CalibrateSpec", spec := "calibrateSpec", unfollowed := true, recurses := true, apart := false }
def CalibrateSpecSaid : Prop := calibrateSpecRow.holds Try.pinned (OpenSpec.ofChange calibrateSpecSpec)

/-- ITS FALSE NEIGHBOUR: 'it returns false'. Refute it at one input. -/
def calibrateSpecWrong : ChangeSpec := { name := "calibrateSpec", fn := fun _ => fun
  | [d1, d2, d3] => { results := [.lit (.bool false)], args := [d1, d2, d3] }
  | _ => none }
def CalibrateSpecWrongFalsely : Prop := calibrateSpecRow.holds Try.pinned (OpenSpec.ofChange calibrateSpecWrong)

/-- 'acequialaw37.CalibrateMarginSpec': WHATEVER THE INPUT: true; the input reads as it did. -/
def calibrateMarginSpecSpec : ChangeSpec := { name := "calibrateMarginSpec", fn := fun _ => fun
  | [d1, d2, d3, d4, d5] => { results := [.lit (.bool true)], args := [d1, d2, d3, d4, d5] }
  | _ => none }
def calibrateMarginSpecRow : OpenClaim := { program := "ytkpeaimmjjekeaa", sum := "016bff0ff56d5dd5b301bde05e0c300ea771d33481db170d6eb205a11c5f6e62", func := "acequia/acequialaw37.CalibrateMarginSpec", spec := "calibrateMarginSpec", unfollowed := true, recurses := true, apart := false }
def CalibrateMarginSpecSaid : Prop := calibrateMarginSpecRow.holds Try.pinned (OpenSpec.ofChange calibrateMarginSpecSpec)

/-- ITS FALSE NEIGHBOUR: 'it returns false'. Refute it at one input. -/
def calibrateMarginSpecWrong : ChangeSpec := { name := "calibrateMarginSpec", fn := fun _ => fun
  | [d1, d2, d3, d4, d5] => { results := [.lit (.bool false)], args := [d1, d2, d3, d4, d5] }
  | _ => none }
def CalibrateMarginSpecWrongFalsely : Prop := calibrateMarginSpecRow.holds Try.pinned (OpenSpec.ofChange calibrateMarginSpecWrong)

/-- 'acequialaw37.CalibrateMargin': WHATEVER THE INPUT: true; the input reads as it did. -/
def calibrateMarginSpec : ChangeSpec := { name := "calibrateMargin", fn := fun _ => fun
  | [d1, d2, d3, d4] => { results := [.lit (.bool true)], args := [d1, d2, d3, d4] }
  | _ => none }
def calibrateMarginRow : OpenClaim := { program := "ytkpeaimmjjekeaa", sum := "016bff0ff56d5dd5b301bde05e0c300ea771d33481db170d6eb205a11c5f6e62", func := "acequia/acequialaw37.CalibrateMargin", spec := "calibrateMargin", unfollowed := true, recurses := true, apart := false }
def CalibrateMarginSaid : Prop := calibrateMarginRow.holds Try.pinned (OpenSpec.ofChange calibrateMarginSpec)

/-- ITS FALSE NEIGHBOUR: 'it returns false'. Refute it at one input. -/
def calibrateMarginWrong : ChangeSpec := { name := "calibrateMargin", fn := fun _ => fun
  | [d1, d2, d3, d4] => { results := [.lit (.bool false)], args := [d1, d2, d3, d4] }
  | _ => none }
def CalibrateMarginWrongFalsely : Prop := calibrateMarginRow.holds Try.pinned (OpenSpec.ofChange calibrateMarginWrong)

/-- 'acequialaw37.CalibrateCount': WHATEVER THE INPUT: true; the input reads as it did. -/
def calibrateCountSpec : ChangeSpec := { name := "calibrateCount", fn := fun _ => fun
  | [d1, d2, d3] => { results := [.lit (.bool true)], args := [d1, d2, d3] }
  | _ => none }
def calibrateCountRow : OpenClaim := { program := "ytkpeaimmjjekeaa", sum := "016bff0ff56d5dd5b301bde05e0c300ea771d33481db170d6eb205a11c5f6e62", func := "acequia/acequialaw37.CalibrateCount", spec := "calibrateCount", unfollowed := true, recurses := true, apart := false }
def CalibrateCountSaid : Prop := calibrateCountRow.holds Try.pinned (OpenSpec.ofChange calibrateCountSpec)

/-- ITS FALSE NEIGHBOUR: 'it returns false'. Refute it at one input. -/
def calibrateCountWrong : ChangeSpec := { name := "calibrateCount", fn := fun _ => fun
  | [d1, d2, d3] => { results := [.lit (.bool false)], args := [d1, d2, d3] }
  | _ => none }
def CalibrateCountWrongFalsely : Prop := calibrateCountRow.holds Try.pinned (OpenSpec.ofChange calibrateCountWrong)

/-- 'acequialaw37.CalibrateMore': WHATEVER THE INPUT: true; the input reads as it did. -/
def calibrateMoreSpec : ChangeSpec := { name := "calibrateMore", fn := fun _ => fun
  | [d1, d2, d3, d4, d5, d6] => { results := [.lit (.bool true)], args := [d1, d2, d3, d4, d5, d6] }
  | _ => none }
def calibrateMoreRow : OpenClaim := { program := "ytkpeaimmjjekeaa", sum := "016bff0ff56d5dd5b301bde05e0c300ea771d33481db170d6eb205a11c5f6e62", func := "acequia/acequialaw37.CalibrateMore", spec := "calibrateMore", unfollowed := true, recurses := true, apart := false }
def CalibrateMoreSaid : Prop := calibrateMoreRow.holds Try.pinned (OpenSpec.ofChange calibrateMoreSpec)

/-- ITS FALSE NEIGHBOUR: 'it returns false'. Refute it at one input. -/
def calibrateMoreWrong : ChangeSpec := { name := "calibrateMore", fn := fun _ => fun
  | [d1, d2, d3, d4, d5, d6] => { results := [.lit (.bool false)], args := [d1, d2, d3, d4, d5, d6] }
  | _ => none }
def CalibrateMoreWrongFalsely : Prop := calibrateMoreRow.holds Try.pinned (OpenSpec.ofChange calibrateMoreWrong)

/- THE SECOND FORM. 'bulk': how many values and letters a reading holds, each counted each time it is reached (what is shared counts as often as it is met; a slice's spare places count too). A statement '..UptoSaid' is the law's where the arguments, and the package variables that the reading takes, are together of bulk at most 1048576: NARROWER than '..Said'. Prove '..Said' where nothing that the law and all that it calls make is longer than what came in: it says more and counts as full. Else prove '..UptoSaid'. A law counts once. -/
mutual
def uptoBulk {H : Type} : DataW H → Nat
  | .lit (.string bytes) => bytes.length + 1
  | .lit _ => 1
  | .nil => 1
  | .ptr d => uptoBulk d + 1
  | .slice elems spare => uptoBulkAll elems + uptoBulkAll spare + 1
  | .agg parts => uptoBulkAll parts + 1
  | .iface _ d => uptoBulk d + 1
  | .map entries => uptoBulkEntries entries + 1
  | .held _ => 1
def uptoBulkAll {H : Type} : List (DataW H) → Nat
  | [] => 0
  | d :: r => uptoBulk d + uptoBulkAll r
def uptoBulkEntries {H : Type} : List (Lit × DataW H) → Nat
  | [] => 0
  | x :: r => uptoBulkEntry x + uptoBulkEntries r
def uptoBulkEntry {H : Type} : Lit × DataW H → Nat
  | (.string bytes, d) => bytes.length + uptoBulk d + 1
  | (_, d) => uptoBulk d + 1
 end
def uptoSmall : (H : Type) → List (DataW H) → Bool := fun _ ds => decide (uptoBulkAll ds ≤ 1048576)
def OpenSpec.upto (s : _root_.Go.ChangeSpec) : _root_.Go.OpenSpec := { _root_.Go.OpenSpec.ofChange s with cond := some uptoSmall }

/-- 'acequialaw37.CalibrateSpec', WHERE WHAT IT READS IS OF BULK AT MOST 1048576: true; the input reads as it did. -/
def calibrateSpecUptoRow : OpenClaim := { program := "ytkpeaimmjjekeaa", sum := "016bff0ff56d5dd5b301bde05e0c300ea771d33481db170d6eb205a11c5f6e62", func := "acequia/acequialaw37.CalibrateSpec", spec := "calibrateSpec", unfollowed := true, recurses := true, apart := false, narrowed := true }
def CalibrateSpecUptoSaid : Prop := calibrateSpecUptoRow.holds Try.pinned (OpenSpec.upto calibrateSpecSpec)

/-- 'acequialaw37.CalibrateMarginSpec', WHERE WHAT IT READS IS OF BULK AT MOST 1048576: true; the input reads as it did. -/
def calibrateMarginSpecUptoRow : OpenClaim := { program := "ytkpeaimmjjekeaa", sum := "016bff0ff56d5dd5b301bde05e0c300ea771d33481db170d6eb205a11c5f6e62", func := "acequia/acequialaw37.CalibrateMarginSpec", spec := "calibrateMarginSpec", unfollowed := true, recurses := true, apart := false, narrowed := true }
def CalibrateMarginSpecUptoSaid : Prop := calibrateMarginSpecUptoRow.holds Try.pinned (OpenSpec.upto calibrateMarginSpecSpec)

/-- 'acequialaw37.CalibrateMargin', WHERE WHAT IT READS IS OF BULK AT MOST 1048576: true; the input reads as it did. -/
def calibrateMarginUptoRow : OpenClaim := { program := "ytkpeaimmjjekeaa", sum := "016bff0ff56d5dd5b301bde05e0c300ea771d33481db170d6eb205a11c5f6e62", func := "acequia/acequialaw37.CalibrateMargin", spec := "calibrateMargin", unfollowed := true, recurses := true, apart := false, narrowed := true }
def CalibrateMarginUptoSaid : Prop := calibrateMarginUptoRow.holds Try.pinned (OpenSpec.upto calibrateMarginSpec)

/-- 'acequialaw37.CalibrateCount', WHERE WHAT IT READS IS OF BULK AT MOST 1048576: true; the input reads as it did. -/
def calibrateCountUptoRow : OpenClaim := { program := "ytkpeaimmjjekeaa", sum := "016bff0ff56d5dd5b301bde05e0c300ea771d33481db170d6eb205a11c5f6e62", func := "acequia/acequialaw37.CalibrateCount", spec := "calibrateCount", unfollowed := true, recurses := true, apart := false, narrowed := true }
def CalibrateCountUptoSaid : Prop := calibrateCountUptoRow.holds Try.pinned (OpenSpec.upto calibrateCountSpec)

/-- 'acequialaw37.CalibrateMore', WHERE WHAT IT READS IS OF BULK AT MOST 1048576: true; the input reads as it did. -/
def calibrateMoreUptoRow : OpenClaim := { program := "ytkpeaimmjjekeaa", sum := "016bff0ff56d5dd5b301bde05e0c300ea771d33481db170d6eb205a11c5f6e62", func := "acequia/acequialaw37.CalibrateMore", spec := "calibrateMore", unfollowed := true, recurses := true, apart := false, narrowed := true }
def CalibrateMoreUptoSaid : Prop := calibrateMoreUptoRow.holds Try.pinned (OpenSpec.upto calibrateMoreSpec)

end Rows
end Go.Proofs.Ytkpeaimmjjekeaa
