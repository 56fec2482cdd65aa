/-
  No cell of these rows narrows 'for every input' (looked for: loops, veiled, ifaces, maps, wideKeys, modest, calm, conditions, laid).
  DERIVED. THE GIVEN ROWS OF THIS SEAT. 7 by the template 'for every input the law returns true; each argument reads behind the call as it read before'; 0 by the template 'total and deterministic' (their statements: YtcmdkccncfleoaaTotals.lean).
  GIVEN WITH THE SEED: the statements are not yours to turn. If you find one false, say at which input.
  Laid BY PROGRAM, IN A SANDBOX (cutbox-rows.mjs): the forced cells as the released guide's own fill.sh prints them over the translation 57db9dd69ad58165… (all of the seat's roots in one cut). By AI agents, Wed Nov 11 2026. No macro, syntax, notation, axiom, sorry.
-/
import Derived.Test.YtcmdkccncfleoaaChecked
import GoSem.Claim
import GoSem.ClaimJoined
import GoSem.ClaimMapViews
import Derived.JoinedTies
import Derived.KernelRfl
namespace Go.Proofs.Ytcmdkccncfleoaa
/- THE CELL 'sum', in the pinned program and in every row, IS THE sha256 OF THE DUMP (.gsa) THAT YtcmdkccncfleoaaProg.lean LOADS. Nothing in Lean hashes anything: it is a label: what it is worth is what the hold of that sum in a sandbox is worth. -/
noncomputable def Try.pinned : Pinned := { name := "ytcmdkccncfleoaa", sum := "57db9dd69ad58165b96273d36c2954e4e0ef45ac9764b884c4bf1c3821f26f8e", checked := Try.checked }
namespace Rows
def none {H : Type} : Left H := { results := [], args := [] }

/-- 'acequialaw15.HittingSpec': WHATEVER THE INPUT: true; the input reads as it did. -/
def hittingSpecSpec : ChangeSpec := { name := "hittingSpec", fn := fun _ => fun
  | [d1, d2] => { results := [.lit (.bool true)], args := [d1, d2] }
  | _ => none }
def hittingSpecRow : OpenClaim := { program := "ytcmdkccncfleoaa", sum := "57db9dd69ad58165b96273d36c2954e4e0ef45ac9764b884c4bf1c3821f26f8e", func := "acequia/acequialaw15.HittingSpec", spec := "hittingSpec", unfollowed := true, recurses := true, apart := false }
def HittingSpecSaid : Prop := hittingSpecRow.holds Try.pinned (OpenSpec.ofChange hittingSpecSpec)

/-- ITS FALSE NEIGHBOUR: 'it returns false'. Refute it at one input. -/
def hittingSpecWrong : ChangeSpec := { name := "hittingSpec", fn := fun _ => fun
  | [d1, d2] => { results := [.lit (.bool false)], args := [d1, d2] }
  | _ => none }
def HittingSpecWrongFalsely : Prop := hittingSpecRow.holds Try.pinned (OpenSpec.ofChange hittingSpecWrong)

/-- 'acequialaw15.HittingCoresSpec': WHATEVER THE INPUT: true; the input reads as it did. -/
def hittingCoresSpecSpec : ChangeSpec := { name := "hittingCoresSpec", fn := fun _ => fun
  | [d1, d2, d3] => { results := [.lit (.bool true)], args := [d1, d2, d3] }
  | _ => none }
def hittingCoresSpecRow : OpenClaim := { program := "ytcmdkccncfleoaa", sum := "57db9dd69ad58165b96273d36c2954e4e0ef45ac9764b884c4bf1c3821f26f8e", func := "acequia/acequialaw15.HittingCoresSpec", spec := "hittingCoresSpec", unfollowed := true, recurses := true, apart := false }
def HittingCoresSpecSaid : Prop := hittingCoresSpecRow.holds Try.pinned (OpenSpec.ofChange hittingCoresSpecSpec)

/-- ITS FALSE NEIGHBOUR: 'it returns false'. Refute it at one input. -/
def hittingCoresSpecWrong : ChangeSpec := { name := "hittingCoresSpec", fn := fun _ => fun
  | [d1, d2, d3] => { results := [.lit (.bool false)], args := [d1, d2, d3] }
  | _ => none }
def HittingCoresSpecWrongFalsely : Prop := hittingCoresSpecRow.holds Try.pinned (OpenSpec.ofChange hittingCoresSpecWrong)

/-- 'acequialaw15.HittingDual': WHATEVER THE INPUT: true; the input reads as it did. -/
def hittingDualSpec : ChangeSpec := { name := "hittingDual", fn := fun _ => fun
  | [d1, d2] => { results := [.lit (.bool true)], args := [d1, d2] }
  | _ => none }
def hittingDualRow : OpenClaim := { program := "ytcmdkccncfleoaa", sum := "57db9dd69ad58165b96273d36c2954e4e0ef45ac9764b884c4bf1c3821f26f8e", func := "acequia/acequialaw15.HittingDual", spec := "hittingDual", unfollowed := true, recurses := true, apart := false }
def HittingDualSaid : Prop := hittingDualRow.holds Try.pinned (OpenSpec.ofChange hittingDualSpec)

/-- ITS FALSE NEIGHBOUR: 'it returns false'. Refute it at one input. -/
def hittingDualWrong : ChangeSpec := { name := "hittingDual", fn := fun _ => fun
  | [d1, d2] => { results := [.lit (.bool false)], args := [d1, d2] }
  | _ => none }
def HittingDualWrongFalsely : Prop := hittingDualRow.holds Try.pinned (OpenSpec.ofChange hittingDualWrong)

/-- 'acequialaw15.HittingTwice': WHATEVER THE INPUT: true; the input reads as it did. -/
def hittingTwiceSpec : ChangeSpec := { name := "hittingTwice", fn := fun _ => fun
  | [d] => { results := [.lit (.bool true)], args := [d] }
  | _ => none }
def hittingTwiceRow : OpenClaim := { program := "ytcmdkccncfleoaa", sum := "57db9dd69ad58165b96273d36c2954e4e0ef45ac9764b884c4bf1c3821f26f8e", func := "acequia/acequialaw15.HittingTwice", spec := "hittingTwice", unfollowed := true, recurses := true, apart := false }
def HittingTwiceSaid : Prop := hittingTwiceRow.holds Try.pinned (OpenSpec.ofChange hittingTwiceSpec)

/-- ITS FALSE NEIGHBOUR: 'it returns false'. Refute it at one input. -/
def hittingTwiceWrong : ChangeSpec := { name := "hittingTwice", fn := fun _ => fun
  | [d] => { results := [.lit (.bool false)], args := [d] }
  | _ => none }
def HittingTwiceWrongFalsely : Prop := hittingTwiceRow.holds Try.pinned (OpenSpec.ofChange hittingTwiceWrong)

/-- 'acequialaw15.HittingEach': WHATEVER THE INPUT: true; the input reads as it did. -/
def hittingEachSpec : ChangeSpec := { name := "hittingEach", fn := fun _ => fun
  | [d1, d2] => { results := [.lit (.bool true)], args := [d1, d2] }
  | _ => none }
def hittingEachRow : OpenClaim := { program := "ytcmdkccncfleoaa", sum := "57db9dd69ad58165b96273d36c2954e4e0ef45ac9764b884c4bf1c3821f26f8e", func := "acequia/acequialaw15.HittingEach", spec := "hittingEach", unfollowed := true, recurses := true, apart := false }
def HittingEachSaid : Prop := hittingEachRow.holds Try.pinned (OpenSpec.ofChange hittingEachSpec)

/-- ITS FALSE NEIGHBOUR: 'it returns false'. Refute it at one input. -/
def hittingEachWrong : ChangeSpec := { name := "hittingEach", fn := fun _ => fun
  | [d1, d2] => { results := [.lit (.bool false)], args := [d1, d2] }
  | _ => none }
def HittingEachWrongFalsely : Prop := hittingEachRow.holds Try.pinned (OpenSpec.ofChange hittingEachWrong)

/-- 'acequialaw15.HittingFurther': WHATEVER THE INPUT: true; the input reads as it did. -/
def hittingFurtherSpec : ChangeSpec := { name := "hittingFurther", fn := fun _ => fun
  | [d1, d2, d3] => { results := [.lit (.bool true)], args := [d1, d2, d3] }
  | _ => none }
def hittingFurtherRow : OpenClaim := { program := "ytcmdkccncfleoaa", sum := "57db9dd69ad58165b96273d36c2954e4e0ef45ac9764b884c4bf1c3821f26f8e", func := "acequia/acequialaw15.HittingFurther", spec := "hittingFurther", unfollowed := true, recurses := true, apart := false }
def HittingFurtherSaid : Prop := hittingFurtherRow.holds Try.pinned (OpenSpec.ofChange hittingFurtherSpec)

/-- ITS FALSE NEIGHBOUR: 'it returns false'. Refute it at one input. -/
def hittingFurtherWrong : ChangeSpec := { name := "hittingFurther", fn := fun _ => fun
  | [d1, d2, d3] => { results := [.lit (.bool false)], args := [d1, d2, d3] }
  | _ => none }
def HittingFurtherWrongFalsely : Prop := hittingFurtherRow.holds Try.pinned (OpenSpec.ofChange hittingFurtherWrong)

/-- 'acequialaw15.HittingShrink': WHATEVER THE INPUT: true; the input reads as it did. -/
def hittingShrinkSpec : ChangeSpec := { name := "hittingShrink", fn := fun _ => fun
  | [d1, d2, d3] => { results := [.lit (.bool true)], args := [d1, d2, d3] }
  | _ => none }
def hittingShrinkRow : OpenClaim := { program := "ytcmdkccncfleoaa", sum := "57db9dd69ad58165b96273d36c2954e4e0ef45ac9764b884c4bf1c3821f26f8e", func := "acequia/acequialaw15.HittingShrink", spec := "hittingShrink", unfollowed := true, recurses := true, apart := false }
def HittingShrinkSaid : Prop := hittingShrinkRow.holds Try.pinned (OpenSpec.ofChange hittingShrinkSpec)

/-- ITS FALSE NEIGHBOUR: 'it returns false'. Refute it at one input. -/
def hittingShrinkWrong : ChangeSpec := { name := "hittingShrink", fn := fun _ => fun
  | [d1, d2, d3] => { results := [.lit (.bool false)], args := [d1, d2, d3] }
  | _ => none }
def HittingShrinkWrongFalsely : Prop := hittingShrinkRow.holds Try.pinned (OpenSpec.ofChange hittingShrinkWrong)

/- THE SECOND FORM. 'bulk': how many values and letters a reading holds, each counted each time it is reached (what is shared counts as often as it is met; a slice's spare places count too). A statement '..UptoSaid' is the law's where the arguments, and the package variables that the reading takes, are together of bulk at most 1048576: NARROWER than '..Said'. Prove '..Said' where nothing that the law and all that it calls make is longer than what came in: it says more and counts as full. Else prove '..UptoSaid'. A law counts once. -/
mutual
def uptoBulk {H : Type} : DataW H → Nat
  | .lit (.string bytes) => bytes.length + 1
  | .lit _ => 1
  | .nil => 1
  | .ptr d => uptoBulk d + 1
  | .slice elems spare => uptoBulkAll elems + uptoBulkAll spare + 1
  | .agg parts => uptoBulkAll parts + 1
  | .iface _ d => uptoBulk d + 1
  | .map entries => uptoBulkEntries entries + 1
  | .held _ => 1
def uptoBulkAll {H : Type} : List (DataW H) → Nat
  | [] => 0
  | d :: r => uptoBulk d + uptoBulkAll r
def uptoBulkEntries {H : Type} : List (Lit × DataW H) → Nat
  | [] => 0
  | x :: r => uptoBulkEntry x + uptoBulkEntries r
def uptoBulkEntry {H : Type} : Lit × DataW H → Nat
  | (.string bytes, d) => bytes.length + uptoBulk d + 1
  | (_, d) => uptoBulk d + 1
 end
def uptoSmall : (H : Type) → List (DataW H) → Bool := fun _ ds => decide (uptoBulkAll ds ≤ 1048576)
def OpenSpec.upto (s : _root_.Go.ChangeSpec) : _root_.Go.OpenSpec := { _root_.Go.OpenSpec.ofChange s with cond := some uptoSmall }

/-- 'acequialaw15.HittingSpec', WHERE WHAT IT READS IS OF BULK AT MOST 1048576: true; the input reads as it did. -/
def hittingSpecUptoRow : OpenClaim := { program := "ytcmdkccncfleoaa", sum := "57db9dd69ad58165b96273d36c2954e4e0ef45ac9764b884c4bf1c3821f26f8e", func := "acequia/acequialaw15.HittingSpec", spec := "hittingSpec", unfollowed := true, recurses := true, apart := false, narrowed := true }
def HittingSpecUptoSaid : Prop := hittingSpecUptoRow.holds Try.pinned (OpenSpec.upto hittingSpecSpec)

/-- 'acequialaw15.HittingCoresSpec', WHERE WHAT IT READS IS OF BULK AT MOST 1048576: true; the input reads as it did. -/
def hittingCoresSpecUptoRow : OpenClaim := { program := "ytcmdkccncfleoaa", sum := "57db9dd69ad58165b96273d36c2954e4e0ef45ac9764b884c4bf1c3821f26f8e", func := "acequia/acequialaw15.HittingCoresSpec", spec := "hittingCoresSpec", unfollowed := true, recurses := true, apart := false, narrowed := true }
def HittingCoresSpecUptoSaid : Prop := hittingCoresSpecUptoRow.holds Try.pinned (OpenSpec.upto hittingCoresSpecSpec)

/-- 'acequialaw15.HittingDual', WHERE WHAT IT READS IS OF BULK AT MOST 1048576: true; the input reads as it did. -/
def hittingDualUptoRow : OpenClaim := { program := "ytcmdkccncfleoaa", sum := "57db9dd69ad58165b96273d36c2954e4e0ef45ac9764b884c4bf1c3821f26f8e", func := "acequia/acequialaw15.HittingDual", spec := "hittingDual", unfollowed := true, recurses := true, apart := false, narrowed := true }
def HittingDualUptoSaid : Prop := hittingDualUptoRow.holds Try.pinned (OpenSpec.upto hittingDualSpec)

/-- 'acequialaw15.HittingTwice', WHERE WHAT IT READS IS OF BULK AT MOST 1048576: true; the input reads as it did. -/
def hittingTwiceUptoRow : OpenClaim := { program := "ytcmdkccncfleoaa", sum := "57db9dd69ad58165b96273d36c2954e4e0ef45ac9764b884c4bf1c3821f26f8e", func := "acequia/acequialaw15.HittingTwice", spec := "hittingTwice", unfollowed := true, recurses := true, apart := false, narrowed := true }
def HittingTwiceUptoSaid : Prop := hittingTwiceUptoRow.holds Try.pinned (OpenSpec.upto hittingTwiceSpec)

/-- 'acequialaw15.HittingEach', WHERE WHAT IT READS IS OF BULK AT MOST 1048576: true; the input reads as it did. -/
def hittingEachUptoRow : OpenClaim := { program := "ytcmdkccncfleoaa", sum := "57db9dd69ad58165b96273d36c2954e4e0ef45ac9764b884c4bf1c3821f26f8e", func := "acequia/acequialaw15.HittingEach", spec := "hittingEach", unfollowed := true, recurses := true, apart := false, narrowed := true }
def HittingEachUptoSaid : Prop := hittingEachUptoRow.holds Try.pinned (OpenSpec.upto hittingEachSpec)

/-- 'acequialaw15.HittingFurther', WHERE WHAT IT READS IS OF BULK AT MOST 1048576: true; the input reads as it did. -/
def hittingFurtherUptoRow : OpenClaim := { program := "ytcmdkccncfleoaa", sum := "57db9dd69ad58165b96273d36c2954e4e0ef45ac9764b884c4bf1c3821f26f8e", func := "acequia/acequialaw15.HittingFurther", spec := "hittingFurther", unfollowed := true, recurses := true, apart := false, narrowed := true }
def HittingFurtherUptoSaid : Prop := hittingFurtherUptoRow.holds Try.pinned (OpenSpec.upto hittingFurtherSpec)

/-- 'acequialaw15.HittingShrink', WHERE WHAT IT READS IS OF BULK AT MOST 1048576: true; the input reads as it did. -/
def hittingShrinkUptoRow : OpenClaim := { program := "ytcmdkccncfleoaa", sum := "57db9dd69ad58165b96273d36c2954e4e0ef45ac9764b884c4bf1c3821f26f8e", func := "acequia/acequialaw15.HittingShrink", spec := "hittingShrink", unfollowed := true, recurses := true, apart := false, narrowed := true }
def HittingShrinkUptoSaid : Prop := hittingShrinkUptoRow.holds Try.pinned (OpenSpec.upto hittingShrinkSpec)

end Rows
end Go.Proofs.Ytcmdkccncfleoaa
