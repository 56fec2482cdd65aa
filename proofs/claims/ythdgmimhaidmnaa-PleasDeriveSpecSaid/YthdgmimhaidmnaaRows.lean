/-
  No cell of these rows narrows 'for every input' (looked for: loops, veiled, ifaces, maps, wideKeys, modest, calm, conditions, laid).
  DERIVED. THE GIVEN ROWS OF THIS SEAT. 6 by the template 'for every input the law returns true; each argument reads behind the call as it read before'; 0 by the template 'total and deterministic' (their statements: YthdgmimhaidmnaaTotals.lean).
  GIVEN WITH THE SEED: the statements are not yours to turn. If you find one false, say at which input.
  Laid BY PROGRAM, IN A SANDBOX (cutbox-rows.mjs): the forced cells as the released guide's own fill.sh prints them over the translation 378850ce07a16c09… (all of the seat's roots in one cut). By AI agents, Wed Nov 11 2026. No macro, syntax, notation, axiom, sorry.
-/
import Derived.Test.YthdgmimhaidmnaaChecked
import GoSem.Claim
import GoSem.ClaimJoined
import GoSem.ClaimMapViews
import Derived.JoinedTies
import Derived.KernelRfl
namespace Go.Proofs.Ythdgmimhaidmnaa
/- THE CELL 'sum', in the pinned program and in every row, IS THE sha256 OF THE DUMP (.gsa) THAT YthdgmimhaidmnaaProg.lean LOADS. Nothing in Lean hashes anything: it is a label: what it is worth is what the hold of that sum in a sandbox is worth. -/
noncomputable def Try.pinned : Pinned := { name := "ythdgmimhaidmnaa", sum := "378850ce07a16c09f54fc53b49f8671642d44a22ad615674843c674c8b185eb2", checked := Try.checked }
namespace Rows
def none {H : Type} : Left H := { results := [], args := [] }

/-- 'acequialaw51.PleasDeriveSpec': WHATEVER THE INPUT: true; the input reads as it did. -/
def pleasDeriveSpecSpec : ChangeSpec := { name := "pleasDeriveSpec", fn := fun _ => fun
  | [d1, d2] => { results := [.lit (.bool true)], args := [d1, d2] }
  | _ => none }
def pleasDeriveSpecRow : OpenClaim := { program := "ythdgmimhaidmnaa", sum := "378850ce07a16c09f54fc53b49f8671642d44a22ad615674843c674c8b185eb2", func := "acequia/acequialaw51.PleasDeriveSpec", spec := "pleasDeriveSpec", unfollowed := true, recurses := true, apart := false }
def PleasDeriveSpecSaid : Prop := pleasDeriveSpecRow.holds Try.pinned (OpenSpec.ofChange pleasDeriveSpecSpec)

/-- ITS FALSE NEIGHBOUR: 'it returns false'. Refute it at one input. -/
def pleasDeriveSpecWrong : ChangeSpec := { name := "pleasDeriveSpec", fn := fun _ => fun
  | [d1, d2] => { results := [.lit (.bool false)], args := [d1, d2] }
  | _ => none }
def PleasDeriveSpecWrongFalsely : Prop := pleasDeriveSpecRow.holds Try.pinned (OpenSpec.ofChange pleasDeriveSpecWrong)

/-- 'acequialaw51.PleasCoherent': WHATEVER THE INPUT: true; the input reads as it did. -/
def pleasCoherentSpec : ChangeSpec := { name := "pleasCoherent", fn := fun _ => fun
  | [d] => { results := [.lit (.bool true)], args := [d] }
  | _ => none }
def pleasCoherentRow : OpenClaim := { program := "ythdgmimhaidmnaa", sum := "378850ce07a16c09f54fc53b49f8671642d44a22ad615674843c674c8b185eb2", func := "acequia/acequialaw51.PleasCoherent", spec := "pleasCoherent", unfollowed := true, recurses := true, apart := false }
def PleasCoherentSaid : Prop := pleasCoherentRow.holds Try.pinned (OpenSpec.ofChange pleasCoherentSpec)

/-- ITS FALSE NEIGHBOUR: 'it returns false'. Refute it at one input. -/
def pleasCoherentWrong : ChangeSpec := { name := "pleasCoherent", fn := fun _ => fun
  | [d] => { results := [.lit (.bool false)], args := [d] }
  | _ => none }
def PleasCoherentWrongFalsely : Prop := pleasCoherentRow.holds Try.pinned (OpenSpec.ofChange pleasCoherentWrong)

/-- 'acequialaw51.PleasAccepted': WHATEVER THE INPUT: true; the input reads as it did. -/
def pleasAcceptedSpec : ChangeSpec := { name := "pleasAccepted", fn := fun _ => fun
  | [d1, d2, d3] => { results := [.lit (.bool true)], args := [d1, d2, d3] }
  | _ => none }
def pleasAcceptedRow : OpenClaim := { program := "ythdgmimhaidmnaa", sum := "378850ce07a16c09f54fc53b49f8671642d44a22ad615674843c674c8b185eb2", func := "acequia/acequialaw51.PleasAccepted", spec := "pleasAccepted", unfollowed := true, recurses := true, apart := false }
def PleasAcceptedSaid : Prop := pleasAcceptedRow.holds Try.pinned (OpenSpec.ofChange pleasAcceptedSpec)

/-- ITS FALSE NEIGHBOUR: 'it returns false'. Refute it at one input. -/
def pleasAcceptedWrong : ChangeSpec := { name := "pleasAccepted", fn := fun _ => fun
  | [d1, d2, d3] => { results := [.lit (.bool false)], args := [d1, d2, d3] }
  | _ => none }
def PleasAcceptedWrongFalsely : Prop := pleasAcceptedRow.holds Try.pinned (OpenSpec.ofChange pleasAcceptedWrong)

/-- 'acequialaw51.PleasOff': WHATEVER THE INPUT: true; the input reads as it did. -/
def pleasOffSpec : ChangeSpec := { name := "pleasOff", fn := fun _ => fun
  | [d1, d2] => { results := [.lit (.bool true)], args := [d1, d2] }
  | _ => none }
def pleasOffRow : OpenClaim := { program := "ythdgmimhaidmnaa", sum := "378850ce07a16c09f54fc53b49f8671642d44a22ad615674843c674c8b185eb2", func := "acequia/acequialaw51.PleasOff", spec := "pleasOff", unfollowed := true, recurses := true, apart := false }
def PleasOffSaid : Prop := pleasOffRow.holds Try.pinned (OpenSpec.ofChange pleasOffSpec)

/-- ITS FALSE NEIGHBOUR: 'it returns false'. Refute it at one input. -/
def pleasOffWrong : ChangeSpec := { name := "pleasOff", fn := fun _ => fun
  | [d1, d2] => { results := [.lit (.bool false)], args := [d1, d2] }
  | _ => none }
def PleasOffWrongFalsely : Prop := pleasOffRow.holds Try.pinned (OpenSpec.ofChange pleasOffWrong)

/-- 'acequialaw51.PleasRanks': WHATEVER THE INPUT: true; the input reads as it did. -/
def pleasRanksSpec : ChangeSpec := { name := "pleasRanks", fn := fun _ => fun
  | [d] => { results := [.lit (.bool true)], args := [d] }
  | _ => none }
def pleasRanksRow : OpenClaim := { program := "ythdgmimhaidmnaa", sum := "378850ce07a16c09f54fc53b49f8671642d44a22ad615674843c674c8b185eb2", func := "acequia/acequialaw51.PleasRanks", spec := "pleasRanks", unfollowed := true, recurses := true, apart := false }
def PleasRanksSaid : Prop := pleasRanksRow.holds Try.pinned (OpenSpec.ofChange pleasRanksSpec)

/-- ITS FALSE NEIGHBOUR: 'it returns false'. Refute it at one input. -/
def pleasRanksWrong : ChangeSpec := { name := "pleasRanks", fn := fun _ => fun
  | [d] => { results := [.lit (.bool false)], args := [d] }
  | _ => none }
def PleasRanksWrongFalsely : Prop := pleasRanksRow.holds Try.pinned (OpenSpec.ofChange pleasRanksWrong)

/-- 'acequialaw51.PleasOpposite': WHATEVER THE INPUT: true; the input reads as it did. -/
def pleasOppositeSpec : ChangeSpec := { name := "pleasOpposite", fn := fun _ => fun
  | [d] => { results := [.lit (.bool true)], args := [d] }
  | _ => none }
def pleasOppositeRow : OpenClaim := { program := "ythdgmimhaidmnaa", sum := "378850ce07a16c09f54fc53b49f8671642d44a22ad615674843c674c8b185eb2", func := "acequia/acequialaw51.PleasOpposite", spec := "pleasOpposite", unfollowed := true, recurses := true, apart := false }
def PleasOppositeSaid : Prop := pleasOppositeRow.holds Try.pinned (OpenSpec.ofChange pleasOppositeSpec)

/-- ITS FALSE NEIGHBOUR: 'it returns false'. Refute it at one input. -/
def pleasOppositeWrong : ChangeSpec := { name := "pleasOpposite", fn := fun _ => fun
  | [d] => { results := [.lit (.bool false)], args := [d] }
  | _ => none }
def PleasOppositeWrongFalsely : Prop := pleasOppositeRow.holds Try.pinned (OpenSpec.ofChange pleasOppositeWrong)

/- THE SECOND FORM. 'bulk': how many values and letters a reading holds, each counted each time it is reached (what is shared counts as often as it is met; a slice's spare places count too). A statement '..UptoSaid' is the law's where the arguments, and the package variables that the reading takes, are together of bulk at most 1048576: NARROWER than '..Said'. Prove '..Said' where nothing that the law and all that it calls make is longer than what came in: it says more and counts as full. Else prove '..UptoSaid'. A law counts once. -/
mutual
def uptoBulk {H : Type} : DataW H → Nat
  | .lit (.string bytes) => bytes.length + 1
  | .lit _ => 1
  | .nil => 1
  | .ptr d => uptoBulk d + 1
  | .slice elems spare => uptoBulkAll elems + uptoBulkAll spare + 1
  | .agg parts => uptoBulkAll parts + 1
  | .iface _ d => uptoBulk d + 1
  | .map entries => uptoBulkEntries entries + 1
  | .held _ => 1
def uptoBulkAll {H : Type} : List (DataW H) → Nat
  | [] => 0
  | d :: r => uptoBulk d + uptoBulkAll r
def uptoBulkEntries {H : Type} : List (Lit × DataW H) → Nat
  | [] => 0
  | x :: r => uptoBulkEntry x + uptoBulkEntries r
def uptoBulkEntry {H : Type} : Lit × DataW H → Nat
  | (.string bytes, d) => bytes.length + uptoBulk d + 1
  | (_, d) => uptoBulk d + 1
 end
def uptoSmall : (H : Type) → List (DataW H) → Bool := fun _ ds => decide (uptoBulkAll ds ≤ 1048576)
def OpenSpec.upto (s : _root_.Go.ChangeSpec) : _root_.Go.OpenSpec := { _root_.Go.OpenSpec.ofChange s with cond := some uptoSmall }

/-- 'acequialaw51.PleasDeriveSpec', WHERE WHAT IT READS IS OF BULK AT MOST 1048576: true; the input reads as it did. -/
def pleasDeriveSpecUptoRow : OpenClaim := { program := "ythdgmimhaidmnaa", sum := "378850ce07a16c09f54fc53b49f8671642d44a22ad615674843c674c8b185eb2", func := "acequia/acequialaw51.PleasDeriveSpec", spec := "pleasDeriveSpec", unfollowed := true, recurses := true, apart := false, narrowed := true }
def PleasDeriveSpecUptoSaid : Prop := pleasDeriveSpecUptoRow.holds Try.pinned (OpenSpec.upto pleasDeriveSpecSpec)

/-- 'acequialaw51.PleasCoherent', WHERE WHAT IT READS IS OF BULK AT MOST 1048576: true; the input reads as it did. -/
def pleasCoherentUptoRow : OpenClaim := { program := "ythdgmimhaidmnaa", sum := "378850ce07a16c09f54fc53b49f8671642d44a22ad615674843c674c8b185eb2", func := "acequia/acequialaw51.PleasCoherent", spec := "pleasCoherent", unfollowed := true, recurses := true, apart := false, narrowed := true }
def PleasCoherentUptoSaid : Prop := pleasCoherentUptoRow.holds Try.pinned (OpenSpec.upto pleasCoherentSpec)

/-- 'acequialaw51.PleasAccepted', WHERE WHAT IT READS IS OF BULK AT MOST 1048576: true; the input reads as it did. -/
def pleasAcceptedUptoRow : OpenClaim := { program := "ythdgmimhaidmnaa", sum := "378850ce07a16c09f54fc53b49f8671642d44a22ad615674843c674c8b185eb2", func := "acequia/acequialaw51.PleasAccepted", spec := "pleasAccepted", unfollowed := true, recurses := true, apart := false, narrowed := true }
def PleasAcceptedUptoSaid : Prop := pleasAcceptedUptoRow.holds Try.pinned (OpenSpec.upto pleasAcceptedSpec)

/-- 'acequialaw51.PleasOff', WHERE WHAT IT READS IS OF BULK AT MOST 1048576: true; the input reads as it did. -/
def pleasOffUptoRow : OpenClaim := { program := "ythdgmimhaidmnaa", sum := "378850ce07a16c09f54fc53b49f8671642d44a22ad615674843c674c8b185eb2", func := "acequia/acequialaw51.PleasOff", spec := "pleasOff", unfollowed := true, recurses := true, apart := false, narrowed := true }
def PleasOffUptoSaid : Prop := pleasOffUptoRow.holds Try.pinned (OpenSpec.upto pleasOffSpec)

/-- 'acequialaw51.PleasRanks', WHERE WHAT IT READS IS OF BULK AT MOST 1048576: true; the input reads as it did. -/
def pleasRanksUptoRow : OpenClaim := { program := "ythdgmimhaidmnaa", sum := "378850ce07a16c09f54fc53b49f8671642d44a22ad615674843c674c8b185eb2", func := "acequia/acequialaw51.PleasRanks", spec := "pleasRanks", unfollowed := true, recurses := true, apart := false, narrowed := true }
def PleasRanksUptoSaid : Prop := pleasRanksUptoRow.holds Try.pinned (OpenSpec.upto pleasRanksSpec)

/-- 'acequialaw51.PleasOpposite', WHERE WHAT IT READS IS OF BULK AT MOST 1048576: true; the input reads as it did. -/
def pleasOppositeUptoRow : OpenClaim := { program := "ythdgmimhaidmnaa", sum := "378850ce07a16c09f54fc53b49f8671642d44a22ad615674843c674c8b185eb2", func := "acequia/acequialaw51.PleasOpposite", spec := "pleasOpposite", unfollowed := true, recurses := true, apart := false, narrowed := true }
def PleasOppositeUptoSaid : Prop := pleasOppositeUptoRow.holds Try.pinned (OpenSpec.upto pleasOppositeSpec)

end Rows
end Go.Proofs.Ythdgmimhaidmnaa
