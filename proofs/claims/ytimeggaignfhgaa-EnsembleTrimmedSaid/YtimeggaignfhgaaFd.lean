/- What is proved: for all ensembles and numbers, the law EnsembleTrimmed of the given program returns true: in each period at most low members lie below the bounds and at most high above them; the totals of the first period are its bounds. Conditions: none beyond the given row's own. -/
import Derived.Test.YtimeggaignfhgaaEp
namespace Go.Proofs.Ytimeggaignfhgaa
set_option linter.unusedSimpArgs false
set_option linter.unusedVariables false
open Go.ChangeShapes Go.WideShapes Go.ChangeAt Go.RowKit Go.Deep

theorem law_c (ls : List (List AV)) (h : ls.length = 3) (hf : ∀ (i : Nat) s l, [enS, Sh.int .i64, Sh.int .i64][i]? = some s → ls[i]? = some l → Fits s l) : SCall Try.prog 6 (List.zipWith argAV [enS, Sh.int .i64, Sh.int .i64] ls) [] (fun r _ => r = .bool true) := by
  match ls, h with
  | [a, b, c], _ =>
    obtain ⟨x, rfl, _⟩ := fits_en (hf 0 _ a rfl rfl)
    obtain ⟨low, rfl, hl⟩ := fits_i64 (hf 1 _ b rfl rfl)
    obtain ⟨high, rfl, _⟩ := fits_i64 (hf 2 _ c rfl rfl)
    exact (lawTrimmed_c x low high hl []).mono (by rintro _ _ ⟨⟩; rfl)
theorem own : ownKnob Try.prog.godebug = none := by kernel_rfl
theorem laid : laidOutB Try.prog = true := by kernel_rfl
set_option maxRecDepth 100000 in
theorem lifted (os : Os) (started : os.Started) (H : Type) (enc : TypeId × Value → H) :
    ReturnsInHanded {} Try.checked os 6 .any (Rows.ensembleTrimmedSpec.pre6 enc Try.prog Try.f6 Rows.ensembleTrimmedRow.domain false) (Rows.ensembleTrimmedSpec.post enc Try.prog Try.f6 false true false false) := by
  refine returnsInHanded_of_change (C := Try.checked) own started (by kernel_rfl) Try.func6
    (ChangeSpec.witness6 (enc := enc) (C := Try.checked) false ⟨#[], #[.agg #[.int .i64 0, .int .i64 0, .slice none 0 0], .int .i64 0, .int .i64 0], []⟩ 8 (by kernel_rfl) (by kernel_rfl) (by kernel_rfl) (by kernel_rfl)) ?_
  intro W base args ds gs before hval hW _ _
  exact law_calls (ss := [enS, Sh.int .i64, Sh.int .i64]) laid (by kernel_rfl) rfl (by kernel_rfl) rfl (fun ds h => by match ds, h with | [_, _, _], _ => rfl) law_c hval hW
theorem ensembleTrimmed_holds : Rows.EnsembleTrimmedSaid :=
  OpenClaim.holds_of_wide 6 Try.f6 rfl rfl rfl rfl rfl rfl rfl ⟨rfl, rfl, rfl, rfl, rfl⟩ rfl rfl rfl rfl rfl (by kernel_rfl) Try.func6 (by kernel_rfl)
    (of_decide_eq_true (by kernel_rfl)) (by unfold Func.isWrapper; first | (rw [if_pos (by decide +kernel)]; kernel_rfl) | (rw [if_neg (by decide +kernel)]; exact ⟨rfl, rfl⟩))
    (fun os started H enc _ => lifted os started H enc)
end Go.Proofs.Ytimeggaignfhgaa
