/- What is proved: for all lists of past forecasts and numbers, the law CalibrateCount of the given program returns true: a body within a budget fails at most Fails times for each Of trials begun, and it is within a budget exactly if its margin is 0. Conditions: none beyond the given row's own. -/
import Derived.Test.YtkpeaimmjjekeaaCq
namespace Go.Proofs.Ytkpeaimmjjekeaa
set_option linter.unusedSimpArgs false
set_option linter.unusedVariables false
open Go.ChangeShapes Go.WideShapes Go.ChangeAt Go.RowKit Go.Deep

theorem law_c (ls : List (List AV)) (h : ls.length = 3) (hf : ∀ (i : Nat) s l, [Sh.slice paS, Sh.int .i64, rgS][i]? = some s → ls[i]? = some l → Fits s l) : SCall Try.prog 6 (List.zipWith argAV [Sh.slice paS, Sh.int .i64, rgS] ls) [] (fun r _ => r = .bool true) := by
  match ls, h with
  | [a, b, c], _ =>
    obtain ⟨l, rfl⟩ := fits_pas (hf 0 _ a rfl rfl)
    obtain ⟨body, rfl, _⟩ := fits_i64 (hf 1 _ b rfl rfl)
    obtain ⟨bu, rfl⟩ := fits_bu (hf 2 _ c rfl rfl)
    exact (lawCount_c l body bu []).mono (by rintro _ _ ⟨⟩; rfl)
theorem own : ownKnob Try.prog.godebug = none := by kernel_rfl
theorem laid : laidOutB Try.prog = true := by kernel_rfl
set_option maxRecDepth 100000 in
theorem lifted (os : Os) (started : os.Started) (H : Type) (enc : TypeId × Value → H) :
    ReturnsInHanded {} Try.checked os 6 .any (Rows.calibrateCountSpec.pre6 enc Try.prog Try.f6 Rows.calibrateCountRow.domain false) (Rows.calibrateCountSpec.post enc Try.prog Try.f6 false true false false) := by
  refine returnsInHanded_of_change (C := Try.checked) own started (by kernel_rfl) Try.func6
    (ChangeSpec.witness6 (enc := enc) (C := Try.checked) false ⟨#[], #[.slice none 0 0, .int .i64 0, .agg #[.int .i64 0, .int .i64 0]], []⟩ 8 (by kernel_rfl) (by kernel_rfl) (by kernel_rfl) (by kernel_rfl)) ?_
  intro W base args ds gs before hval hW _ _
  exact law_calls (ss := [Sh.slice paS, Sh.int .i64, rgS]) laid (by kernel_rfl) rfl (by kernel_rfl) rfl (fun ds h => by match ds, h with | [_, _, _], _ => rfl) law_c hval hW
theorem calibrateCount_holds : Rows.CalibrateCountSaid :=
  OpenClaim.holds_of_wide 6 Try.f6 rfl rfl rfl rfl rfl rfl rfl ⟨rfl, rfl, rfl, rfl, rfl⟩ rfl rfl rfl rfl rfl (by kernel_rfl) Try.func6 (by kernel_rfl)
    (of_decide_eq_true (by kernel_rfl)) (by unfold Func.isWrapper; first | (rw [if_pos (by decide +kernel)]; kernel_rfl) | (rw [if_neg (by decide +kernel)]; exact ⟨rfl, rfl⟩))
    (fun os started H enc _ => lifted os started H enc)
end Go.Proofs.Ytkpeaimmjjekeaa
