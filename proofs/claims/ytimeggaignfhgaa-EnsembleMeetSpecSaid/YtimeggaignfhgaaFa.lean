/- What is proved: for all lists of ranges, right or not, the law EnsembleMeetSpec of the given program returns true: Meet matches the specification. Conditions: none beyond the given row's own. -/
import Derived.Test.YtimeggaignfhgaaEn
namespace Go.Proofs.Ytimeggaignfhgaa
set_option linter.unusedSimpArgs false
set_option linter.unusedVariables false
open Go.ChangeShapes Go.WideShapes Go.ChangeAt Go.RowKit Go.Deep
set_option linter.unusedVariables false

theorem law_c (ls : List (List AV)) (h : ls.length = 1) (hf : ∀ (i : Nat) s l, [Sh.slice (.slice rgS)][i]? = some s → ls[i]? = some l → Fits s l) : SCall Try.prog 4 (List.zipWith argAV [Sh.slice (.slice rgS)] ls) [] (fun r _ => r = .bool true) := by
  match ls, h with
  | [a], _ =>
    obtain ⟨x, rfl, _⟩ := fits_rgss (hf 0 _ a rfl rfl)
    exact (lawMeet_c x []).mono (by rintro _ _ ⟨⟩; rfl)
theorem own : ownKnob Try.prog.godebug = none := by kernel_rfl
theorem laid : laidOutB Try.prog = true := by kernel_rfl
set_option maxRecDepth 100000 in
theorem lifted (os : Os) (started : os.Started) (H : Type) (enc : TypeId × Value → H) :
    ReturnsInHanded {} Try.checked os 4 .any (Rows.ensembleMeetSpecSpec.pre6 enc Try.prog Try.f4 Rows.ensembleMeetSpecRow.domain false) (Rows.ensembleMeetSpecSpec.post enc Try.prog Try.f4 false true false false) := by
  refine returnsInHanded_of_change (C := Try.checked) own started (by kernel_rfl) Try.func4
    (ChangeSpec.witness6 (enc := enc) (C := Try.checked) false ⟨#[], #[.slice none 0 0], []⟩ 8 (by kernel_rfl) (by kernel_rfl) (by kernel_rfl) (by kernel_rfl)) ?_
  intro W base args ds gs before hval hW _ _
  exact law_calls (ss := [Sh.slice (.slice rgS)]) laid (by kernel_rfl) rfl (by kernel_rfl) rfl (fun ds h => by match ds, h with | [_], _ => rfl) law_c hval hW
theorem ensembleMeetSpec_holds : Rows.EnsembleMeetSpecSaid :=
  OpenClaim.holds_of_wide 4 Try.f4 rfl rfl rfl rfl rfl rfl rfl ⟨rfl, rfl, rfl, rfl, rfl⟩ rfl rfl rfl rfl rfl (by kernel_rfl) Try.func4 (by kernel_rfl)
    (of_decide_eq_true (by kernel_rfl)) (by unfold Func.isWrapper; first | (rw [if_pos (by decide +kernel)]; kernel_rfl) | (rw [if_neg (by decide +kernel)]; exact ⟨rfl, rfl⟩))
    (fun os started H enc _ => lifted os started H enc)
end Go.Proofs.Ytimeggaignfhgaa
