/- What is proved: for all families the law HittingTwice of the given program returns true: the minimal hitting sets of the minimal hitting sets of a family are its reduced sets. Conditions: none beyond the given row's own. -/
import Derived.Test.YtcmdkccncfleoaaMl
import Derived.Test.YtcmdkccncfleoaaMo
namespace Go.Proofs.Ytcmdkccncfleoaa
set_option linter.unusedSimpArgs false
set_option linter.unusedVariables false
open Go.ChangeShapes Go.WideShapes Go.ChangeAt Go.RowKit Go.Deep

theorem law_c (ls : List (List AV)) (h : ls.length = 1) (hf : ∀ (i : Nat) s l, [famS][i]? = some s → ls[i]? = some l → Fits s l) : SCall Try.prog 6 (List.zipWith argAV [famS] ls) [] (fun r _ => r = .bool true) := by
  match ls, h with
  | [a], _ =>
    obtain ⟨x, rfl⟩ := fits_fam (hf 0 _ a rfl rfl)
    exact (hittingTwice_c x []).mono (by rintro _ _ ⟨⟩; rfl)
theorem own : ownKnob Try.prog.godebug = none := by kernel_rfl
theorem laid : laidOutB Try.prog = true := by kernel_rfl
set_option maxRecDepth 100000 in
theorem lifted (os : Os) (started : os.Started) (H : Type) (enc : TypeId × Value → H) :
    ReturnsInHanded {} Try.checked os 6 .any (Rows.hittingTwiceSpec.pre6 enc Try.prog Try.f6 Rows.hittingTwiceRow.domain false) (Rows.hittingTwiceSpec.post enc Try.prog Try.f6 false true false false) := by
  refine returnsInHanded_of_change (C := Try.checked) own started (by kernel_rfl) Try.func6
    (ChangeSpec.witness6 (enc := enc) (C := Try.checked) false ⟨#[], #[.agg #[.int .i64 0, .slice none 0 0]], []⟩ 8 (by kernel_rfl) (by kernel_rfl) (by kernel_rfl) (by kernel_rfl)) ?_
  intro W base args ds gs before hval hW _ _
  exact law_calls (ss := [famS]) laid (by kernel_rfl) rfl (by kernel_rfl) rfl (fun ds h => by match ds, h with | [_], _ => rfl) law_c hval hW
theorem hittingTwice_holds : Rows.HittingTwiceSaid :=
  OpenClaim.holds_of_wide 6 Try.f6 rfl rfl rfl rfl rfl rfl rfl ⟨rfl, rfl, rfl, rfl, rfl⟩ rfl rfl rfl rfl rfl (by kernel_rfl) Try.func6 (by kernel_rfl)
    (of_decide_eq_true (by kernel_rfl)) (by unfold Func.isWrapper; first | (rw [if_pos (by decide +kernel)]; kernel_rfl) | (rw [if_neg (by decide +kernel)]; exact ⟨rfl, rfl⟩))
    (fun os started H enc _ => lifted os started H enc)
end Go.Proofs.Ytcmdkccncfleoaa
