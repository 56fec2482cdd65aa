/- What is proved: for all arguments the law ClocksParts of the given program returns true: the parts of a history are its hours and say what At says, and the total is the sum over the parts. Conditions: none beyond the given row's own. -/
import Derived.Test.YtobcnochlkdpaaaKq
import Derived.Test.YtobcnochlkdpaaaKt
namespace Go.Proofs.Ytobcnochlkdpaaa
set_option linter.unusedSimpArgs false
set_option linter.unusedVariables false
open Go.ChangeShapes Go.WideShapes Go.ChangeAt Go.RowKit Go.Deep

theorem law_c (ls : List (List AV)) (h : ls.length = 4) (hf : ∀ (i : Nat) s l, [Sh.slice fcS, Sh.int .i64, Sh.int .i64, rgS][i]? = some s → ls[i]? = some l → Fits s l) : SCall Try.prog 7 (List.zipWith argAV [Sh.slice fcS, Sh.int .i64, Sh.int .i64, rgS] ls) [] (fun r _ => r = .bool true) := by
  match ls, h with
  | [a0, a1, a2, a3], _ =>
    obtain ⟨x0, rfl⟩ := fits_fcs (hf 0 _ a0 rfl rfl)
    obtain ⟨x1, rfl, _⟩ := fits_i64 (hf 1 _ a1 rfl rfl)
    obtain ⟨x2, rfl, _⟩ := fits_i64 (hf 2 _ a2 rfl rfl)
    obtain ⟨x3, rfl⟩ := fits_rg (hf 3 _ a3 rfl rfl)
    exact (parts_c x0 x1 x2 x3 []).mono (by rintro _ _ ⟨⟩; rfl)
theorem own : ownKnob Try.prog.godebug = none := by kernel_rfl
theorem laid : laidOutB Try.prog = true := by kernel_rfl
set_option maxRecDepth 100000 in
theorem lifted (os : Os) (started : os.Started) (H : Type) (enc : TypeId × Value → H) :
    ReturnsInHanded {} Try.checked os 7 .any (Rows.clocksPartsSpec.pre6 enc Try.prog Try.f7 Rows.clocksPartsRow.domain false) (Rows.clocksPartsSpec.post enc Try.prog Try.f7 false true false false) := by
  refine returnsInHanded_of_change (C := Try.checked) own started (by kernel_rfl) Try.func7
    (ChangeSpec.witness6 (enc := enc) (C := Try.checked) false ⟨#[], #[.slice none 0 0, .int .i64 0, .int .i64 0, .agg #[.int .i64 0, .int .i64 0]], []⟩ 8 (by kernel_rfl) (by kernel_rfl) (by kernel_rfl) (by kernel_rfl)) ?_
  intro W base args ds gs before hval hW _ _
  exact law_calls (ss := [Sh.slice fcS, Sh.int .i64, Sh.int .i64, rgS]) laid (by kernel_rfl) rfl (by kernel_rfl) rfl (fun ds h => by match ds, h with | [_, _, _, _], _ => rfl) law_c hval hW
theorem clocksParts_holds : Rows.ClocksPartsSaid :=
  OpenClaim.holds_of_wide 7 Try.f7 rfl rfl rfl rfl rfl rfl rfl ⟨rfl, rfl, rfl, rfl, rfl⟩ rfl rfl rfl rfl rfl (by kernel_rfl) Try.func7 (by kernel_rfl)
    (of_decide_eq_true (by kernel_rfl)) (by unfold Func.isWrapper; first | (rw [if_pos (by decide +kernel)]; kernel_rfl) | (rw [if_neg (by decide +kernel)]; exact ⟨rfl, rfl⟩))
    (fun os started H enc _ => lifted os started H enc)
end Go.Proofs.Ytobcnochlkdpaaa
