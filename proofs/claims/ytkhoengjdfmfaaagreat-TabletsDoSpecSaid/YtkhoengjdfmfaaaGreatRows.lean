/-
  No cell of these rows narrows 'for every input' (looked for: loops, veiled, ifaces, maps, wideKeys, modest, calm, conditions, laid).
  DERIVED. THE GIVEN ROWS OF THIS SEAT. 6 by the template 'for every input the law returns true; each argument reads behind the call as it read before'; 0 by the template 'total and deterministic' (their statements: YtkhoengjdfmfaaaGreatTotals.lean).
  GIVEN WITH THE SEED: the statements are not yours to turn. If you find one false, say at which input.
  Laid BY PROGRAM, IN A SANDBOX (cutbox-rows.mjs): the forced cells as the released guide's own fill.sh prints them over the translation e4eec517ad5f6a76… (all of the seat's roots in one cut). By AI agents, Wed Nov 11 2026. No macro, syntax, notation, axiom, sorry.
-/
import Derived.Test.YtkhoengjdfmfaaaGreatChecked
import GoSem.Claim
import GoSem.ClaimJoined
import GoSem.ClaimMapViews
import Derived.JoinedTies
import Derived.KernelRfl
namespace Go.Proofs.YtkhoengjdfmfaaaGreat
/- THE CELL 'sum', in the pinned program and in every row, IS THE sha256 OF THE DUMP (.gsa) THAT YtkhoengjdfmfaaaGreatProg.lean LOADS. Nothing in Lean hashes anything: it is a label: what it is worth is what the hold of that sum in a sandbox is worth. -/
noncomputable def Tryz.pinned : Pinned := { name := "ytkhoengjdfmfaaagreat", sum := "e4eec517ad5f6a76c6f6acf91717744dae0073a38f616729ba1fdcefcdd5fc9b", checked := Tryz.checked }
namespace Rows
def none {H : Type} : Left H := { results := [], args := [] }

/-- 'acequialaw54.TabletsMergeSpec': WHATEVER THE INPUT: true; the input reads as it did. -/
def tabletsMergeSpecSpec : ChangeSpec := { name := "tabletsMergeSpec", fn := fun _ => fun
  | [d1, d2] => { results := [.lit (.bool true)], args := [d1, d2] }
  | _ => none }
def tabletsMergeSpecRow : OpenClaim := { program := "ytkhoengjdfmfaaagreat", sum := "e4eec517ad5f6a76c6f6acf91717744dae0073a38f616729ba1fdcefcdd5fc9b", func := "acequia/acequialaw54.TabletsMergeSpec", spec := "tabletsMergeSpec", unfollowed := true, recurses := true, plainKeys := false, apart := false }
def TabletsMergeSpecSaid : Prop := tabletsMergeSpecRow.holds Tryz.pinned (OpenSpec.ofChange tabletsMergeSpecSpec)

/-- ITS FALSE NEIGHBOUR: 'it returns false'. Refute it at one input. -/
def tabletsMergeSpecWrong : ChangeSpec := { name := "tabletsMergeSpec", fn := fun _ => fun
  | [d1, d2] => { results := [.lit (.bool false)], args := [d1, d2] }
  | _ => none }
def TabletsMergeSpecWrongFalsely : Prop := tabletsMergeSpecRow.holds Tryz.pinned (OpenSpec.ofChange tabletsMergeSpecWrong)

/-- 'acequialaw54.TabletsDoSpec': WHATEVER THE INPUT: true; the input reads as it did. -/
def tabletsDoSpecSpec : ChangeSpec := { name := "tabletsDoSpec", fn := fun _ => fun
  | [d1, d2, d3] => { results := [.lit (.bool true)], args := [d1, d2, d3] }
  | _ => none }
def tabletsDoSpecRow : OpenClaim := { program := "ytkhoengjdfmfaaagreat", sum := "e4eec517ad5f6a76c6f6acf91717744dae0073a38f616729ba1fdcefcdd5fc9b", func := "acequia/acequialaw54.TabletsDoSpec", spec := "tabletsDoSpec", unfollowed := true, recurses := true, plainKeys := false, apart := false }
def TabletsDoSpecSaid : Prop := tabletsDoSpecRow.holds Tryz.pinned (OpenSpec.ofChange tabletsDoSpecSpec)

/-- ITS FALSE NEIGHBOUR: 'it returns false'. Refute it at one input. -/
def tabletsDoSpecWrong : ChangeSpec := { name := "tabletsDoSpec", fn := fun _ => fun
  | [d1, d2, d3] => { results := [.lit (.bool false)], args := [d1, d2, d3] }
  | _ => none }
def TabletsDoSpecWrongFalsely : Prop := tabletsDoSpecRow.holds Tryz.pinned (OpenSpec.ofChange tabletsDoSpecWrong)

/-- 'acequialaw54.TabletsRuns': WHATEVER THE INPUT: true; the input reads as it did. -/
def tabletsRunsSpec : ChangeSpec := { name := "tabletsRuns", fn := fun _ => fun
  | [d1, d2] => { results := [.lit (.bool true)], args := [d1, d2] }
  | _ => none }
def tabletsRunsRow : OpenClaim := { program := "ytkhoengjdfmfaaagreat", sum := "e4eec517ad5f6a76c6f6acf91717744dae0073a38f616729ba1fdcefcdd5fc9b", func := "acequia/acequialaw54.TabletsRuns", spec := "tabletsRuns", unfollowed := true, recurses := true, plainKeys := false, apart := false }
def TabletsRunsSaid : Prop := tabletsRunsRow.holds Tryz.pinned (OpenSpec.ofChange tabletsRunsSpec)

/-- ITS FALSE NEIGHBOUR: 'it returns false'. Refute it at one input. -/
def tabletsRunsWrong : ChangeSpec := { name := "tabletsRuns", fn := fun _ => fun
  | [d1, d2] => { results := [.lit (.bool false)], args := [d1, d2] }
  | _ => none }
def TabletsRunsWrongFalsely : Prop := tabletsRunsRow.holds Tryz.pinned (OpenSpec.ofChange tabletsRunsWrong)

/-- 'acequialaw54.TabletsMerged': WHATEVER THE INPUT: true; the input reads as it did. -/
def tabletsMergedSpec : ChangeSpec := { name := "tabletsMerged", fn := fun _ => fun
  | [d1, d2, d3] => { results := [.lit (.bool true)], args := [d1, d2, d3] }
  | _ => none }
def tabletsMergedRow : OpenClaim := { program := "ytkhoengjdfmfaaagreat", sum := "e4eec517ad5f6a76c6f6acf91717744dae0073a38f616729ba1fdcefcdd5fc9b", func := "acequia/acequialaw54.TabletsMerged", spec := "tabletsMerged", unfollowed := true, recurses := true, plainKeys := false, apart := false }
def TabletsMergedSaid : Prop := tabletsMergedRow.holds Tryz.pinned (OpenSpec.ofChange tabletsMergedSpec)

/-- ITS FALSE NEIGHBOUR: 'it returns false'. Refute it at one input. -/
def tabletsMergedWrong : ChangeSpec := { name := "tabletsMerged", fn := fun _ => fun
  | [d1, d2, d3] => { results := [.lit (.bool false)], args := [d1, d2, d3] }
  | _ => none }
def TabletsMergedWrongFalsely : Prop := tabletsMergedRow.holds Tryz.pinned (OpenSpec.ofChange tabletsMergedWrong)

/-- 'acequialaw54.TabletsOnce': WHATEVER THE INPUT: true; the input reads as it did. -/
def tabletsOnceSpec : ChangeSpec := { name := "tabletsOnce", fn := fun _ => fun
  | [d1, d2] => { results := [.lit (.bool true)], args := [d1, d2] }
  | _ => none }
def tabletsOnceRow : OpenClaim := { program := "ytkhoengjdfmfaaagreat", sum := "e4eec517ad5f6a76c6f6acf91717744dae0073a38f616729ba1fdcefcdd5fc9b", func := "acequia/acequialaw54.TabletsOnce", spec := "tabletsOnce", unfollowed := true, recurses := true, plainKeys := false, apart := false }
def TabletsOnceSaid : Prop := tabletsOnceRow.holds Tryz.pinned (OpenSpec.ofChange tabletsOnceSpec)

/-- ITS FALSE NEIGHBOUR: 'it returns false'. Refute it at one input. -/
def tabletsOnceWrong : ChangeSpec := { name := "tabletsOnce", fn := fun _ => fun
  | [d1, d2] => { results := [.lit (.bool false)], args := [d1, d2] }
  | _ => none }
def TabletsOnceWrongFalsely : Prop := tabletsOnceRow.holds Tryz.pinned (OpenSpec.ofChange tabletsOnceWrong)

/-- 'acequialaw54.TabletsTell': WHATEVER THE INPUT: true; the input reads as it did. -/
def tabletsTellSpec : ChangeSpec := { name := "tabletsTell", fn := fun _ => fun
  | [d1, d2, d3, d4] => { results := [.lit (.bool true)], args := [d1, d2, d3, d4] }
  | _ => none }
def tabletsTellRow : OpenClaim := { program := "ytkhoengjdfmfaaagreat", sum := "e4eec517ad5f6a76c6f6acf91717744dae0073a38f616729ba1fdcefcdd5fc9b", func := "acequia/acequialaw54.TabletsTell", spec := "tabletsTell", unfollowed := true, recurses := true, plainKeys := false, apart := false }
def TabletsTellSaid : Prop := tabletsTellRow.holds Tryz.pinned (OpenSpec.ofChange tabletsTellSpec)

/-- ITS FALSE NEIGHBOUR: 'it returns false'. Refute it at one input. -/
def tabletsTellWrong : ChangeSpec := { name := "tabletsTell", fn := fun _ => fun
  | [d1, d2, d3, d4] => { results := [.lit (.bool false)], args := [d1, d2, d3, d4] }
  | _ => none }
def TabletsTellWrongFalsely : Prop := tabletsTellRow.holds Tryz.pinned (OpenSpec.ofChange tabletsTellWrong)

/- THE SECOND FORM. 'bulk': how many values and letters a reading holds, each counted each time it is reached (what is shared counts as often as it is met; a slice's spare places count too). A statement '..UptoSaid' is the law's where the arguments, and the package variables that the reading takes, are together of bulk at most 1048576: NARROWER than '..Said'. Prove '..Said' where nothing that the law and all that it calls make is longer than what came in: it says more and counts as full. Else prove '..UptoSaid'. A law counts once. -/
mutual
def uptoBulk {H : Type} : DataW H → Nat
  | .lit (.string bytes) => bytes.length + 1
  | .lit _ => 1
  | .nil => 1
  | .ptr d => uptoBulk d + 1
  | .slice elems spare => uptoBulkAll elems + uptoBulkAll spare + 1
  | .agg parts => uptoBulkAll parts + 1
  | .iface _ d => uptoBulk d + 1
  | .map entries => uptoBulkEntries entries + 1
  | .held _ => 1
def uptoBulkAll {H : Type} : List (DataW H) → Nat
  | [] => 0
  | d :: r => uptoBulk d + uptoBulkAll r
def uptoBulkEntries {H : Type} : List (Lit × DataW H) → Nat
  | [] => 0
  | x :: r => uptoBulkEntry x + uptoBulkEntries r
def uptoBulkEntry {H : Type} : Lit × DataW H → Nat
  | (.string bytes, d) => bytes.length + uptoBulk d + 1
  | (_, d) => uptoBulk d + 1
 end
def uptoSmall : (H : Type) → List (DataW H) → Bool := fun _ ds => decide (uptoBulkAll ds ≤ 1048576)
def OpenSpec.upto (s : _root_.Go.ChangeSpec) : _root_.Go.OpenSpec := { _root_.Go.OpenSpec.ofChange s with cond := some uptoSmall }

/-- 'acequialaw54.TabletsMergeSpec', WHERE WHAT IT READS IS OF BULK AT MOST 1048576: true; the input reads as it did. -/
def tabletsMergeSpecUptoRow : OpenClaim := { program := "ytkhoengjdfmfaaagreat", sum := "e4eec517ad5f6a76c6f6acf91717744dae0073a38f616729ba1fdcefcdd5fc9b", func := "acequia/acequialaw54.TabletsMergeSpec", spec := "tabletsMergeSpec", unfollowed := true, recurses := true, plainKeys := false, apart := false, narrowed := true }
def TabletsMergeSpecUptoSaid : Prop := tabletsMergeSpecUptoRow.holds Tryz.pinned (OpenSpec.upto tabletsMergeSpecSpec)

/-- 'acequialaw54.TabletsDoSpec', WHERE WHAT IT READS IS OF BULK AT MOST 1048576: true; the input reads as it did. -/
def tabletsDoSpecUptoRow : OpenClaim := { program := "ytkhoengjdfmfaaagreat", sum := "e4eec517ad5f6a76c6f6acf91717744dae0073a38f616729ba1fdcefcdd5fc9b", func := "acequia/acequialaw54.TabletsDoSpec", spec := "tabletsDoSpec", unfollowed := true, recurses := true, plainKeys := false, apart := false, narrowed := true }
def TabletsDoSpecUptoSaid : Prop := tabletsDoSpecUptoRow.holds Tryz.pinned (OpenSpec.upto tabletsDoSpecSpec)

/-- 'acequialaw54.TabletsRuns', WHERE WHAT IT READS IS OF BULK AT MOST 1048576: true; the input reads as it did. -/
def tabletsRunsUptoRow : OpenClaim := { program := "ytkhoengjdfmfaaagreat", sum := "e4eec517ad5f6a76c6f6acf91717744dae0073a38f616729ba1fdcefcdd5fc9b", func := "acequia/acequialaw54.TabletsRuns", spec := "tabletsRuns", unfollowed := true, recurses := true, plainKeys := false, apart := false, narrowed := true }
def TabletsRunsUptoSaid : Prop := tabletsRunsUptoRow.holds Tryz.pinned (OpenSpec.upto tabletsRunsSpec)

/-- 'acequialaw54.TabletsMerged', WHERE WHAT IT READS IS OF BULK AT MOST 1048576: true; the input reads as it did. -/
def tabletsMergedUptoRow : OpenClaim := { program := "ytkhoengjdfmfaaagreat", sum := "e4eec517ad5f6a76c6f6acf91717744dae0073a38f616729ba1fdcefcdd5fc9b", func := "acequia/acequialaw54.TabletsMerged", spec := "tabletsMerged", unfollowed := true, recurses := true, plainKeys := false, apart := false, narrowed := true }
def TabletsMergedUptoSaid : Prop := tabletsMergedUptoRow.holds Tryz.pinned (OpenSpec.upto tabletsMergedSpec)

/-- 'acequialaw54.TabletsOnce', WHERE WHAT IT READS IS OF BULK AT MOST 1048576: true; the input reads as it did. -/
def tabletsOnceUptoRow : OpenClaim := { program := "ytkhoengjdfmfaaagreat", sum := "e4eec517ad5f6a76c6f6acf91717744dae0073a38f616729ba1fdcefcdd5fc9b", func := "acequia/acequialaw54.TabletsOnce", spec := "tabletsOnce", unfollowed := true, recurses := true, plainKeys := false, apart := false, narrowed := true }
def TabletsOnceUptoSaid : Prop := tabletsOnceUptoRow.holds Tryz.pinned (OpenSpec.upto tabletsOnceSpec)

/-- 'acequialaw54.TabletsTell', WHERE WHAT IT READS IS OF BULK AT MOST 1048576: true; the input reads as it did. -/
def tabletsTellUptoRow : OpenClaim := { program := "ytkhoengjdfmfaaagreat", sum := "e4eec517ad5f6a76c6f6acf91717744dae0073a38f616729ba1fdcefcdd5fc9b", func := "acequia/acequialaw54.TabletsTell", spec := "tabletsTell", unfollowed := true, recurses := true, plainKeys := false, apart := false, narrowed := true }
def TabletsTellUptoSaid : Prop := tabletsTellUptoRow.holds Tryz.pinned (OpenSpec.upto tabletsTellSpec)

end Rows
end Go.Proofs.YtkhoengjdfmfaaaGreat
