/-
  No cell of these rows narrows 'for every input' (looked for: loops, veiled, ifaces, maps, wideKeys, modest, calm, conditions, laid).
  DERIVED. THE GIVEN ROWS OF THIS SEAT. 7 by the template 'for every input the law returns true; each argument reads behind the call as it read before'; 0 by the template 'total and deterministic' (their statements: YtimeggaignfhgaaTotals.lean).
  GIVEN WITH THE SEED: the statements are not yours to turn. If you find one false, say at which input.
  Laid BY PROGRAM, IN A SANDBOX (cutbox-rows.mjs): the forced cells as the released guide's own fill.sh prints them over the translation ac391fbd0c373332… (all of the seat's roots in one cut). By AI agents, Wed Nov 11 2026. No macro, syntax, notation, axiom, sorry.
-/
import Derived.Test.YtimeggaignfhgaaChecked
import GoSem.Claim
import GoSem.ClaimJoined
import GoSem.ClaimMapViews
import Derived.JoinedTies
import Derived.KernelRfl
namespace Go.Proofs.Ytimeggaignfhgaa
/- THE CELL 'sum', in the pinned program and in every row, IS THE sha256 OF THE DUMP (.gsa) THAT YtimeggaignfhgaaProg.lean LOADS. Nothing in Lean hashes anything: it is a label: what it is worth is what the hold of that sum in a sandbox is worth. -/
noncomputable def Try.pinned : Pinned := { name := "ytimeggaignfhgaa", sum := "ac391fbd0c373332028bd4623afd9bf71edbecd4b2775338d485a32904d38133", checked := Try.checked }
namespace Rows
def none {H : Type} : Left H := { results := [], args := [] }

/-- 'acequialaw36.EnsembleSpec': WHATEVER THE INPUT: true; the input reads as it did. -/
def ensembleSpecSpec : ChangeSpec := { name := "ensembleSpec", fn := fun _ => fun
  | [d1, d2, d3] => { results := [.lit (.bool true)], args := [d1, d2, d3] }
  | _ => none }
def ensembleSpecRow : OpenClaim := { program := "ytimeggaignfhgaa", sum := "ac391fbd0c373332028bd4623afd9bf71edbecd4b2775338d485a32904d38133", func := "acequia/acequialaw36.EnsembleSpec", spec := "ensembleSpec", unfollowed := true, recurses := true, apart := false }
def EnsembleSpecSaid : Prop := ensembleSpecRow.holds Try.pinned (OpenSpec.ofChange ensembleSpecSpec)

/-- ITS FALSE NEIGHBOUR: 'it returns false'. Refute it at one input. -/
def ensembleSpecWrong : ChangeSpec := { name := "ensembleSpec", fn := fun _ => fun
  | [d1, d2, d3] => { results := [.lit (.bool false)], args := [d1, d2, d3] }
  | _ => none }
def EnsembleSpecWrongFalsely : Prop := ensembleSpecRow.holds Try.pinned (OpenSpec.ofChange ensembleSpecWrong)

/-- 'acequialaw36.EnsembleMeetSpec': WHATEVER THE INPUT: true; the input reads as it did. -/
def ensembleMeetSpecSpec : ChangeSpec := { name := "ensembleMeetSpec", fn := fun _ => fun
  | [d] => { results := [.lit (.bool true)], args := [d] }
  | _ => none }
def ensembleMeetSpecRow : OpenClaim := { program := "ytimeggaignfhgaa", sum := "ac391fbd0c373332028bd4623afd9bf71edbecd4b2775338d485a32904d38133", func := "acequia/acequialaw36.EnsembleMeetSpec", spec := "ensembleMeetSpec", unfollowed := true, recurses := true, apart := false }
def EnsembleMeetSpecSaid : Prop := ensembleMeetSpecRow.holds Try.pinned (OpenSpec.ofChange ensembleMeetSpecSpec)

/-- ITS FALSE NEIGHBOUR: 'it returns false'. Refute it at one input. -/
def ensembleMeetSpecWrong : ChangeSpec := { name := "ensembleMeetSpec", fn := fun _ => fun
  | [d] => { results := [.lit (.bool false)], args := [d] }
  | _ => none }
def EnsembleMeetSpecWrongFalsely : Prop := ensembleMeetSpecRow.holds Try.pinned (OpenSpec.ofChange ensembleMeetSpecWrong)

/-- 'acequialaw36.EnsembleExchange': WHATEVER THE INPUT: true; the input reads as it did. -/
def ensembleExchangeSpec : ChangeSpec := { name := "ensembleExchange", fn := fun _ => fun
  | [d1, d2, d3] => { results := [.lit (.bool true)], args := [d1, d2, d3] }
  | _ => none }
def ensembleExchangeRow : OpenClaim := { program := "ytimeggaignfhgaa", sum := "ac391fbd0c373332028bd4623afd9bf71edbecd4b2775338d485a32904d38133", func := "acequia/acequialaw36.EnsembleExchange", spec := "ensembleExchange", unfollowed := true, recurses := true, apart := false }
def EnsembleExchangeSaid : Prop := ensembleExchangeRow.holds Try.pinned (OpenSpec.ofChange ensembleExchangeSpec)

/-- ITS FALSE NEIGHBOUR: 'it returns false'. Refute it at one input. -/
def ensembleExchangeWrong : ChangeSpec := { name := "ensembleExchange", fn := fun _ => fun
  | [d1, d2, d3] => { results := [.lit (.bool false)], args := [d1, d2, d3] }
  | _ => none }
def EnsembleExchangeWrongFalsely : Prop := ensembleExchangeRow.holds Try.pinned (OpenSpec.ofChange ensembleExchangeWrong)

/-- 'acequialaw36.EnsembleTrimmed': WHATEVER THE INPUT: true; the input reads as it did. -/
def ensembleTrimmedSpec : ChangeSpec := { name := "ensembleTrimmed", fn := fun _ => fun
  | [d1, d2, d3] => { results := [.lit (.bool true)], args := [d1, d2, d3] }
  | _ => none }
def ensembleTrimmedRow : OpenClaim := { program := "ytimeggaignfhgaa", sum := "ac391fbd0c373332028bd4623afd9bf71edbecd4b2775338d485a32904d38133", func := "acequia/acequialaw36.EnsembleTrimmed", spec := "ensembleTrimmed", unfollowed := true, recurses := true, apart := false }
def EnsembleTrimmedSaid : Prop := ensembleTrimmedRow.holds Try.pinned (OpenSpec.ofChange ensembleTrimmedSpec)

/-- ITS FALSE NEIGHBOUR: 'it returns false'. Refute it at one input. -/
def ensembleTrimmedWrong : ChangeSpec := { name := "ensembleTrimmed", fn := fun _ => fun
  | [d1, d2, d3] => { results := [.lit (.bool false)], args := [d1, d2, d3] }
  | _ => none }
def EnsembleTrimmedWrongFalsely : Prop := ensembleTrimmedRow.holds Try.pinned (OpenSpec.ofChange ensembleTrimmedWrong)

/-- 'acequialaw36.EnsembleOrder': WHATEVER THE INPUT: true; the input reads as it did. -/
def ensembleOrderSpec : ChangeSpec := { name := "ensembleOrder", fn := fun _ => fun
  | [d1, d2, d3, d4] => { results := [.lit (.bool true)], args := [d1, d2, d3, d4] }
  | _ => none }
def ensembleOrderRow : OpenClaim := { program := "ytimeggaignfhgaa", sum := "ac391fbd0c373332028bd4623afd9bf71edbecd4b2775338d485a32904d38133", func := "acequia/acequialaw36.EnsembleOrder", spec := "ensembleOrder", unfollowed := true, recurses := true, apart := false }
def EnsembleOrderSaid : Prop := ensembleOrderRow.holds Try.pinned (OpenSpec.ofChange ensembleOrderSpec)

/-- ITS FALSE NEIGHBOUR: 'it returns false'. Refute it at one input. -/
def ensembleOrderWrong : ChangeSpec := { name := "ensembleOrder", fn := fun _ => fun
  | [d1, d2, d3, d4] => { results := [.lit (.bool false)], args := [d1, d2, d3, d4] }
  | _ => none }
def EnsembleOrderWrongFalsely : Prop := ensembleOrderRow.holds Try.pinned (OpenSpec.ofChange ensembleOrderWrong)

/-- 'acequialaw36.EnsembleFurther': WHATEVER THE INPUT: true; the input reads as it did. -/
def ensembleFurtherSpec : ChangeSpec := { name := "ensembleFurther", fn := fun _ => fun
  | [d1, d2, d3, d4] => { results := [.lit (.bool true)], args := [d1, d2, d3, d4] }
  | _ => none }
def ensembleFurtherRow : OpenClaim := { program := "ytimeggaignfhgaa", sum := "ac391fbd0c373332028bd4623afd9bf71edbecd4b2775338d485a32904d38133", func := "acequia/acequialaw36.EnsembleFurther", spec := "ensembleFurther", unfollowed := true, recurses := true, apart := false }
def EnsembleFurtherSaid : Prop := ensembleFurtherRow.holds Try.pinned (OpenSpec.ofChange ensembleFurtherSpec)

/-- ITS FALSE NEIGHBOUR: 'it returns false'. Refute it at one input. -/
def ensembleFurtherWrong : ChangeSpec := { name := "ensembleFurther", fn := fun _ => fun
  | [d1, d2, d3, d4] => { results := [.lit (.bool false)], args := [d1, d2, d3, d4] }
  | _ => none }
def EnsembleFurtherWrongFalsely : Prop := ensembleFurtherRow.holds Try.pinned (OpenSpec.ofChange ensembleFurtherWrong)

/-- 'acequialaw36.EnsembleAdmits': WHATEVER THE INPUT: true; the input reads as it did. -/
def ensembleAdmitsSpec : ChangeSpec := { name := "ensembleAdmits", fn := fun _ => fun
  | [d1, d2] => { results := [.lit (.bool true)], args := [d1, d2] }
  | _ => none }
def ensembleAdmitsRow : OpenClaim := { program := "ytimeggaignfhgaa", sum := "ac391fbd0c373332028bd4623afd9bf71edbecd4b2775338d485a32904d38133", func := "acequia/acequialaw36.EnsembleAdmits", spec := "ensembleAdmits", unfollowed := true, recurses := true, apart := false }
def EnsembleAdmitsSaid : Prop := ensembleAdmitsRow.holds Try.pinned (OpenSpec.ofChange ensembleAdmitsSpec)

/-- ITS FALSE NEIGHBOUR: 'it returns false'. Refute it at one input. -/
def ensembleAdmitsWrong : ChangeSpec := { name := "ensembleAdmits", fn := fun _ => fun
  | [d1, d2] => { results := [.lit (.bool false)], args := [d1, d2] }
  | _ => none }
def EnsembleAdmitsWrongFalsely : Prop := ensembleAdmitsRow.holds Try.pinned (OpenSpec.ofChange ensembleAdmitsWrong)

/- THE SECOND FORM. 'bulk': how many values and letters a reading holds, each counted each time it is reached (what is shared counts as often as it is met; a slice's spare places count too). A statement '..UptoSaid' is the law's where the arguments, and the package variables that the reading takes, are together of bulk at most 1048576: NARROWER than '..Said'. Prove '..Said' where nothing that the law and all that it calls make is longer than what came in: it says more and counts as full. Else prove '..UptoSaid'. A law counts once. -/
mutual
def uptoBulk {H : Type} : DataW H → Nat
  | .lit (.string bytes) => bytes.length + 1
  | .lit _ => 1
  | .nil => 1
  | .ptr d => uptoBulk d + 1
  | .slice elems spare => uptoBulkAll elems + uptoBulkAll spare + 1
  | .agg parts => uptoBulkAll parts + 1
  | .iface _ d => uptoBulk d + 1
  | .map entries => uptoBulkEntries entries + 1
  | .held _ => 1
def uptoBulkAll {H : Type} : List (DataW H) → Nat
  | [] => 0
  | d :: r => uptoBulk d + uptoBulkAll r
def uptoBulkEntries {H : Type} : List (Lit × DataW H) → Nat
  | [] => 0
  | x :: r => uptoBulkEntry x + uptoBulkEntries r
def uptoBulkEntry {H : Type} : Lit × DataW H → Nat
  | (.string bytes, d) => bytes.length + uptoBulk d + 1
  | (_, d) => uptoBulk d + 1
 end
def uptoSmall : (H : Type) → List (DataW H) → Bool := fun _ ds => decide (uptoBulkAll ds ≤ 1048576)
def OpenSpec.upto (s : _root_.Go.ChangeSpec) : _root_.Go.OpenSpec := { _root_.Go.OpenSpec.ofChange s with cond := some uptoSmall }

/-- 'acequialaw36.EnsembleSpec', WHERE WHAT IT READS IS OF BULK AT MOST 1048576: true; the input reads as it did. -/
def ensembleSpecUptoRow : OpenClaim := { program := "ytimeggaignfhgaa", sum := "ac391fbd0c373332028bd4623afd9bf71edbecd4b2775338d485a32904d38133", func := "acequia/acequialaw36.EnsembleSpec", spec := "ensembleSpec", unfollowed := true, recurses := true, apart := false, narrowed := true }
def EnsembleSpecUptoSaid : Prop := ensembleSpecUptoRow.holds Try.pinned (OpenSpec.upto ensembleSpecSpec)

/-- 'acequialaw36.EnsembleMeetSpec', WHERE WHAT IT READS IS OF BULK AT MOST 1048576: true; the input reads as it did. -/
def ensembleMeetSpecUptoRow : OpenClaim := { program := "ytimeggaignfhgaa", sum := "ac391fbd0c373332028bd4623afd9bf71edbecd4b2775338d485a32904d38133", func := "acequia/acequialaw36.EnsembleMeetSpec", spec := "ensembleMeetSpec", unfollowed := true, recurses := true, apart := false, narrowed := true }
def EnsembleMeetSpecUptoSaid : Prop := ensembleMeetSpecUptoRow.holds Try.pinned (OpenSpec.upto ensembleMeetSpecSpec)

/-- 'acequialaw36.EnsembleExchange', WHERE WHAT IT READS IS OF BULK AT MOST 1048576: true; the input reads as it did. -/
def ensembleExchangeUptoRow : OpenClaim := { program := "ytimeggaignfhgaa", sum := "ac391fbd0c373332028bd4623afd9bf71edbecd4b2775338d485a32904d38133", func := "acequia/acequialaw36.EnsembleExchange", spec := "ensembleExchange", unfollowed := true, recurses := true, apart := false, narrowed := true }
def EnsembleExchangeUptoSaid : Prop := ensembleExchangeUptoRow.holds Try.pinned (OpenSpec.upto ensembleExchangeSpec)

/-- 'acequialaw36.EnsembleTrimmed', WHERE WHAT IT READS IS OF BULK AT MOST 1048576: true; the input reads as it did. -/
def ensembleTrimmedUptoRow : OpenClaim := { program := "ytimeggaignfhgaa", sum := "ac391fbd0c373332028bd4623afd9bf71edbecd4b2775338d485a32904d38133", func := "acequia/acequialaw36.EnsembleTrimmed", spec := "ensembleTrimmed", unfollowed := true, recurses := true, apart := false, narrowed := true }
def EnsembleTrimmedUptoSaid : Prop := ensembleTrimmedUptoRow.holds Try.pinned (OpenSpec.upto ensembleTrimmedSpec)

/-- 'acequialaw36.EnsembleOrder', WHERE WHAT IT READS IS OF BULK AT MOST 1048576: true; the input reads as it did. -/
def ensembleOrderUptoRow : OpenClaim := { program := "ytimeggaignfhgaa", sum := "ac391fbd0c373332028bd4623afd9bf71edbecd4b2775338d485a32904d38133", func := "acequia/acequialaw36.EnsembleOrder", spec := "ensembleOrder", unfollowed := true, recurses := true, apart := false, narrowed := true }
def EnsembleOrderUptoSaid : Prop := ensembleOrderUptoRow.holds Try.pinned (OpenSpec.upto ensembleOrderSpec)

/-- 'acequialaw36.EnsembleFurther', WHERE WHAT IT READS IS OF BULK AT MOST 1048576: true; the input reads as it did. -/
def ensembleFurtherUptoRow : OpenClaim := { program := "ytimeggaignfhgaa", sum := "ac391fbd0c373332028bd4623afd9bf71edbecd4b2775338d485a32904d38133", func := "acequia/acequialaw36.EnsembleFurther", spec := "ensembleFurther", unfollowed := true, recurses := true, apart := false, narrowed := true }
def EnsembleFurtherUptoSaid : Prop := ensembleFurtherUptoRow.holds Try.pinned (OpenSpec.upto ensembleFurtherSpec)

/-- 'acequialaw36.EnsembleAdmits', WHERE WHAT IT READS IS OF BULK AT MOST 1048576: true; the input reads as it did. -/
def ensembleAdmitsUptoRow : OpenClaim := { program := "ytimeggaignfhgaa", sum := "ac391fbd0c373332028bd4623afd9bf71edbecd4b2775338d485a32904d38133", func := "acequia/acequialaw36.EnsembleAdmits", spec := "ensembleAdmits", unfollowed := true, recurses := true, apart := false, narrowed := true }
def EnsembleAdmitsUptoSaid : Prop := ensembleAdmitsUptoRow.holds Try.pinned (OpenSpec.upto ensembleAdmitsSpec)

end Rows
end Go.Proofs.Ytimeggaignfhgaa
