/- What the laws' rows list: the table of the months' lengths; a world that meets it; what plain arguments are. -/
import Derived.Test.YtccjolaolmpifaaDoorDq
import Derived.Test.YtccjolaolmpifaaDoorTa
import Derived.LaidLaws
import Derived.LaidHandle
import Derived.JoinedOf
namespace Go.Proofs.YtccjolaolmpifaaDoor
set_option linter.unusedSimpArgs false
set_option linter.unusedVariables false
open Go.ChangeShapes Go.WideShapes Go.ChangeAt Go.RowKit Go.Deep
theorem lensGlobal : Tryd.prog.globalNamed "acequia/days.lengths" = some 0 := by kernel_rfl
abbrev laidL : List (String × DataW Unit) := [("acequia/days.lengths", Rows.laid_acequia_days_lengths)]
theorem lens_of_laid {W : World} (h : laidMetH Tryd.prog laidL W) : CRel (hp W) 0 0 lensV := by
  have h' : laidMet Tryd.prog [("acequia/days.lengths", Lib.tabData .i64 lens)] W := h
  exact glob_of_tab (Lib.tabIs_of_head (t := 50) (e := 3) (n := 12) lensGlobal (by kernel_rfl) (by kernel_rfl) (by kernel_rfl) (by kernel_rfl) (by kernel_rfl) h') lensGlobal
noncomputable def laidWorld (os : Os) : World :=
  let w0 := World.holding Tryd.prog os ⟨#[], #[], []⟩
  { w0 with heap := w0.heap.modify 0 fun
      | .cells _ t frozen => .cells (lens.map (Value.int .i64)).toArray t frozen
      | o => o }
theorem laidWorld_met (os : Os) (args : Array Value) : laidMetH Tryd.prog laidL ((laidWorld os).forCall (fun _ _ => 0) ⟨#[], args, []⟩).memory :=
  laidMet_of_run' 8 (by kernel_rfl) (by kernel_rfl)
theorem own : ownKnob Tryd.prog.godebug = none := by kernel_rfl
theorem laid : laidOutB Tryd.prog = true := by kernel_rfl
abbrev spS : Sh := .agg [.int .i64, .int .i64]
abbrev dtS : Sh := .agg [.int .i64, .int .i64, .int .i64]
abbrev i64 (n : Int) : Prop := -9223372036854775808 ≤ n ∧ n ≤ 9223372036854775807
theorem fits_sp {l : List AV} (h : Fits spS l) : ∃ x : Sp, l = spC x ∧ True := by
  simp only [Fits, Fitss] at h
  obtain ⟨_, _, rfl, ⟨a, rfl, _⟩, _, _, rfl, ⟨b, rfl, _⟩, rfl⟩ := h
  exact ⟨⟨a, b⟩, rfl, trivial⟩
theorem fits_dt {l : List AV} (h : Fits dtS l) : ∃ d : Dt, l = dtC d := by
  simp only [Fits, Fitss] at h
  obtain ⟨_, _, rfl, ⟨a, rfl, _⟩, _, _, rfl, ⟨b, rfl, _⟩, _, _, rfl, ⟨c, rfl, _⟩, rfl⟩ := h
  exact ⟨⟨a, b, c⟩, rfl⟩
theorem fits_sps {l : List AV} (h : Fits (.slice spS) l) : ∃ xs : List Sp, l = [sps xs] := by
  obtain ⟨xs, rfl, _⟩ := fits_slice (f := spC) (p := fun _ => True) (fun x hx => fits_sp hx) h
  exact ⟨xs, rfl⟩
end Go.Proofs.YtccjolaolmpifaaDoor
