/- What is proved: for all lists of past forecasts, numbers and a further forecast, the law CalibrateMore of the given program returns true: what never makes the margin greater. Conditions: none beyond the given row's own. -/
import Derived.Test.YtkpeaimmjjekeaaCs
namespace Go.Proofs.Ytkpeaimmjjekeaa
set_option linter.unusedSimpArgs false
set_option linter.unusedVariables false
open Go.ChangeShapes Go.WideShapes Go.ChangeAt Go.RowKit Go.Deep

theorem law_c (ls : List (List AV)) (h : ls.length = 6) (hf : ∀ (i : Nat) s l, [Sh.slice paS, Sh.int .i64, rgS, Sh.int .i64, Sh.int .i64, paS][i]? = some s → ls[i]? = some l → Fits s l) : SCall Try.prog 7 (List.zipWith argAV [Sh.slice paS, Sh.int .i64, rgS, Sh.int .i64, Sh.int .i64, paS] ls) [] (fun r _ => r = .bool true) := by
  match ls, h with
  | [a, b, c, d, e, f], _ =>
    obtain ⟨l, rfl⟩ := fits_pas (hf 0 _ a rfl rfl)
    obtain ⟨body, rfl, _⟩ := fits_i64 (hf 1 _ b rfl rfl)
    obtain ⟨bu, rfl⟩ := fits_bu (hf 2 _ c rfl rfl)
    obtain ⟨fails, rfl, _⟩ := fits_i64 (hf 3 _ d rfl rfl)
    obtain ⟨of, rfl, _⟩ := fits_i64 (hf 4 _ e rfl rfl)
    obtain ⟨more, rfl, _⟩ := fits_pa (hf 5 _ f rfl rfl)
    exact (lawMore_c l body bu fails of more []).mono (by rintro _ _ ⟨⟩; rfl)
theorem own : ownKnob Try.prog.godebug = none := by kernel_rfl
theorem laid : laidOutB Try.prog = true := by kernel_rfl
set_option maxRecDepth 100000 in
theorem lifted (os : Os) (started : os.Started) (H : Type) (enc : TypeId × Value → H) :
    ReturnsInHanded {} Try.checked os 7 .any (Rows.calibrateMoreSpec.pre6 enc Try.prog Try.f7 Rows.calibrateMoreRow.domain false) (Rows.calibrateMoreSpec.post enc Try.prog Try.f7 false true false false) := by
  refine returnsInHanded_of_change (C := Try.checked) own started (by kernel_rfl) Try.func7
    (ChangeSpec.witness6 (enc := enc) (C := Try.checked) false ⟨#[], #[.slice none 0 0, .int .i64 0, .agg #[.int .i64 0, .int .i64 0], .int .i64 0, .int .i64 0, .agg #[.int .i64 0, .slice none 0 0, .slice none 0 0]], []⟩ 8 (by kernel_rfl) (by kernel_rfl) (by kernel_rfl) (by kernel_rfl)) ?_
  intro W base args ds gs before hval hW _ _
  exact law_calls (ss := [Sh.slice paS, Sh.int .i64, rgS, Sh.int .i64, Sh.int .i64, paS]) laid (by kernel_rfl) rfl (by kernel_rfl) rfl (fun ds h => by match ds, h with | [_, _, _, _, _, _], _ => rfl) law_c hval hW
theorem calibrateMore_holds : Rows.CalibrateMoreSaid :=
  OpenClaim.holds_of_wide 7 Try.f7 rfl rfl rfl rfl rfl rfl rfl ⟨rfl, rfl, rfl, rfl, rfl⟩ rfl rfl rfl rfl rfl (by kernel_rfl) Try.func7 (by kernel_rfl)
    (of_decide_eq_true (by kernel_rfl)) (by unfold Func.isWrapper; first | (rw [if_pos (by decide +kernel)]; kernel_rfl) | (rw [if_neg (by decide +kernel)]; exact ⟨rfl, rfl⟩))
    (fun os started H enc _ => lifted os started H enc)
end Go.Proofs.Ytkpeaimmjjekeaa
