/- What is proved: for all arguments the law ClocksDifference of the given program returns true: the difference of the totals at two moments comes from the hours that changed. Conditions: none beyond the given row's own. -/
import Derived.Test.YtobcnochlkdpaaaKs
import Derived.Test.YtobcnochlkdpaaaKt
namespace Go.Proofs.Ytobcnochlkdpaaa
set_option linter.unusedSimpArgs false
set_option linter.unusedVariables false
open Go.ChangeShapes Go.WideShapes Go.ChangeAt Go.RowKit Go.Deep

theorem law_c (ls : List (List AV)) (h : ls.length = 6) (hf : ∀ (i : Nat) s l, [Sh.slice fcS, Sh.int .i64, Sh.int .i64, Sh.int .i64, rgS, Sh.int .u16][i]? = some s → ls[i]? = some l → Fits s l) : SCall Try.prog 8 (List.zipWith argAV [Sh.slice fcS, Sh.int .i64, Sh.int .i64, Sh.int .i64, rgS, Sh.int .u16] ls) [] (fun r _ => r = .bool true) := by
  match ls, h with
  | [a0, a1, a2, a3, a4, a5], _ =>
    obtain ⟨x0, rfl⟩ := fits_fcs (hf 0 _ a0 rfl rfl)
    obtain ⟨x1, rfl, _⟩ := fits_i64 (hf 1 _ a1 rfl rfl)
    obtain ⟨x2, rfl, _⟩ := fits_i64 (hf 2 _ a2 rfl rfl)
    obtain ⟨x3, rfl, _⟩ := fits_i64 (hf 3 _ a3 rfl rfl)
    obtain ⟨x4, rfl⟩ := fits_rg (hf 4 _ a4 rfl rfl)
    obtain ⟨x5, rfl, hu⟩ := fits_u16 (hf 5 _ a5 rfl rfl)
    exact (difference_c x0 x1 x2 x3 x4 x5 hu []).mono (by rintro _ _ ⟨⟩; rfl)
theorem own : ownKnob Try.prog.godebug = none := by kernel_rfl
theorem laid : laidOutB Try.prog = true := by kernel_rfl
set_option maxRecDepth 100000 in
theorem lifted (os : Os) (started : os.Started) (H : Type) (enc : TypeId × Value → H) :
    ReturnsInHanded {} Try.checked os 8 .any (Rows.clocksDifferenceSpec.pre6 enc Try.prog Try.f8 Rows.clocksDifferenceRow.domain false) (Rows.clocksDifferenceSpec.post enc Try.prog Try.f8 false true false false) := by
  refine returnsInHanded_of_change (C := Try.checked) own started (by kernel_rfl) Try.func8
    (ChangeSpec.witness6 (enc := enc) (C := Try.checked) false ⟨#[], #[.slice none 0 0, .int .i64 0, .int .i64 0, .int .i64 0, .agg #[.int .i64 0, .int .i64 0], .int .u16 0], []⟩ 8 (by kernel_rfl) (by kernel_rfl) (by kernel_rfl) (by kernel_rfl)) ?_
  intro W base args ds gs before hval hW _ _
  exact law_calls (ss := [Sh.slice fcS, Sh.int .i64, Sh.int .i64, Sh.int .i64, rgS, Sh.int .u16]) laid (by kernel_rfl) rfl (by kernel_rfl) rfl (fun ds h => by match ds, h with | [_, _, _, _, _, _], _ => rfl) law_c hval hW
theorem clocksDifference_holds : Rows.ClocksDifferenceSaid :=
  OpenClaim.holds_of_wide 8 Try.f8 rfl rfl rfl rfl rfl rfl rfl ⟨rfl, rfl, rfl, rfl, rfl⟩ rfl rfl rfl rfl rfl (by kernel_rfl) Try.func8 (by kernel_rfl)
    (of_decide_eq_true (by kernel_rfl)) (by unfold Func.isWrapper; first | (rw [if_pos (by decide +kernel)]; kernel_rfl) | (rw [if_neg (by decide +kernel)]; exact ⟨rfl, rfl⟩))
    (fun os started H enc _ => lifted os started H enc)
end Go.Proofs.Ytobcnochlkdpaaa
