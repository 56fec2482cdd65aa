/- What is proved: for all lists of ranges and all litres, the law EnsembleAdmits of the given program returns true: litres by period lie within each list exactly if the lists meet and the litres lie within what Meet returns. Conditions: none beyond the given row's own. -/
import Derived.Test.YtimeggaignfhgaaEo
namespace Go.Proofs.Ytimeggaignfhgaa
set_option linter.unusedSimpArgs false
set_option linter.unusedVariables false
open Go.ChangeShapes Go.WideShapes Go.ChangeAt Go.RowKit Go.Deep

theorem law_c (ls : List (List AV)) (h : ls.length = 2) (hf : ∀ (i : Nat) s l, [Sh.slice (.slice rgS), Sh.slice (.int .i64)][i]? = some s → ls[i]? = some l → Fits s l) : SCall Try.prog 9 (List.zipWith argAV [Sh.slice (.slice rgS), Sh.slice (.int .i64)] ls) [] (fun r _ => r = .bool true) := by
  match ls, h with
  | [a, b], _ =>
    obtain ⟨x, rfl, _⟩ := fits_rgss (hf 0 _ a rfl rfl)
    obtain ⟨m, rfl, _⟩ := fits_ints (hf 1 _ b rfl rfl)
    exact (lawAdmits_c x m []).mono (by rintro _ _ ⟨⟩; rfl)
theorem own : ownKnob Try.prog.godebug = none := by kernel_rfl
theorem laid : laidOutB Try.prog = true := by kernel_rfl
set_option maxRecDepth 100000 in
theorem lifted (os : Os) (started : os.Started) (H : Type) (enc : TypeId × Value → H) :
    ReturnsInHanded {} Try.checked os 9 .any (Rows.ensembleAdmitsSpec.pre6 enc Try.prog Try.f9 Rows.ensembleAdmitsRow.domain false) (Rows.ensembleAdmitsSpec.post enc Try.prog Try.f9 false true false false) := by
  refine returnsInHanded_of_change (C := Try.checked) own started (by kernel_rfl) Try.func9
    (ChangeSpec.witness6 (enc := enc) (C := Try.checked) false ⟨#[], #[.slice none 0 0, .slice none 0 0], []⟩ 8 (by kernel_rfl) (by kernel_rfl) (by kernel_rfl) (by kernel_rfl)) ?_
  intro W base args ds gs before hval hW _ _
  exact law_calls (ss := [Sh.slice (.slice rgS), Sh.slice (.int .i64)]) laid (by kernel_rfl) rfl (by kernel_rfl) rfl (fun ds h => by match ds, h with | [_, _], _ => rfl) law_c hval hW
theorem ensembleAdmits_holds : Rows.EnsembleAdmitsSaid :=
  OpenClaim.holds_of_wide 9 Try.f9 rfl rfl rfl rfl rfl rfl rfl ⟨rfl, rfl, rfl, rfl, rfl⟩ rfl rfl rfl rfl rfl (by kernel_rfl) Try.func9 (by kernel_rfl)
    (of_decide_eq_true (by kernel_rfl)) (by unfold Func.isWrapper; first | (rw [if_pos (by decide +kernel)]; kernel_rfl) | (rw [if_neg (by decide +kernel)]; exact ⟨rfl, rfl⟩))
    (fun os started H enc _ => lifted os started H enc)
end Go.Proofs.Ytimeggaignfhgaa
