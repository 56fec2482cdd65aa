/- sane: the chapter's examples. -/
import Derived.Test.YtccjolaolmpifaaDoorDn
import Derived.Test.YtccjolaolmpifaaDoorDg
namespace Go.Proofs.YtccjolaolmpifaaDoor
set_option linter.unusedSimpArgs false
set_option linter.unusedVariables false
theorem sets_by {f : Bool → Bool → Bool} {a b : List Sp} {L : List Int} {R : List Sp} (h1 : checkL a = 0) (h2 : checkL b = 0) (hL : bndL a b = L) (hR : refL (inB f a b) L = R) (hl : R.length ≤ 256) : setsR f a b = (R, 0) := by
  unfold setsR combL
  rw [if_neg (by simp [h1]), if_neg (by simp [h2]), hL, hR, if_neg (by omega)]
theorem bnd_by {a b : List Sp} {L : List Int} (hu : L.Pairwise (· < ·)) (h : ∀ n, n ∈ L ↔ n ∈ endsL a ∨ n ∈ endsL b) : bndL a b = L := up_ext (setOf_up _) hu fun n => bnd_mem.trans (h n).symm
theorem s1 : setsR (fOp 3) [⟨1, 9⟩] [⟨3, 5⟩] = ([⟨1, 2⟩, ⟨6, 9⟩], 0) := sets_by (L := [1, 3, 6, 10]) (by decide) (by decide) (bnd_by (by decide) (fun n => by simp [endsL]; omega)) (by decide) (by decide)
theorem s2 : setsR (fOp 1) [⟨1, 3⟩] [⟨4, 6⟩] = ([⟨1, 6⟩], 0) := sets_by (L := [1, 4, 7]) (by decide) (by decide) (bnd_by (by decide) (fun n => by simp [endsL]; omega)) (by decide) (by decide)
theorem s3 : setsR (fOp 2) [⟨1, 5⟩] [⟨3, 9⟩] = ([⟨3, 5⟩], 0) := sets_by (L := [1, 3, 6, 10]) (by decide) (by decide) (bnd_by (by decide) (fun n => by simp [endsL]; omega)) (by decide) (by decide)
theorem s4 : ofR 59 = (⟨2000, 2, 29⟩, 0) := by decide
theorem s5 : ofR 73048 = (⟨2199, 12, 31⟩, 0) := by decide
theorem s6 : ofR 366 = (⟨2001, 1, 1⟩, 0) := by decide
theorem s7 : numR ⟨2100, 2, 29⟩ = (0, 140) := by decide
theorem s8 : weekB 0 = (5, 0) := by decide
theorem s9 : countL [⟨1, 2⟩, ⟨6, 9⟩] = (6, 0) := by decide
theorem s10 : nthR [⟨1, 2⟩, ⟨6, 9⟩] 2 = (6, true, 0) := by decide
theorem s11 : nthR [⟨1, 2⟩, ⟨6, 9⟩] 6 = (0, false, 0) := by decide
theorem s12 : nthR [⟨1, 2⟩, ⟨6, 9⟩] (-1) = (0, false, 1) := by decide
theorem s13 : checkL [⟨1, 3⟩, ⟨4, 6⟩] = 140 := by decide
end Go.Proofs.YtccjolaolmpifaaDoor
