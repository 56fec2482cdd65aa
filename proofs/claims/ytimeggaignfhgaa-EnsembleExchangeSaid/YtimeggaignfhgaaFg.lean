/- What is proved: for all ensembles and numbers, the law EnsembleExchange of the given program returns true: in each period at most low + high + 2 members lie outside the bounds of all other members, exactly so many if their litres are all different. Conditions: none beyond the given row's own. -/
import Derived.Test.YtimeggaignfhgaaEu
namespace Go.Proofs.Ytimeggaignfhgaa
set_option linter.unusedSimpArgs false
set_option linter.unusedVariables false
open Go.ChangeShapes Go.WideShapes Go.ChangeAt Go.RowKit Go.Deep

theorem law_c (ls : List (List AV)) (h : ls.length = 3) (hf : ∀ (i : Nat) s l, [enS, Sh.int .u8, Sh.int .u8][i]? = some s → ls[i]? = some l → Fits s l) : SCall Try.prog 5 (List.zipWith argAV [enS, Sh.int .u8, Sh.int .u8] ls) [] (fun r _ => r = .bool true) := by
  match ls, h with
  | [a, b, c], _ =>
    obtain ⟨x, rfl, _⟩ := fits_en (hf 0 _ a rfl rfl)
    obtain ⟨l, rfl, hl⟩ := fits_u8 (hf 1 _ b rfl rfl)
    obtain ⟨g, rfl, hg⟩ := fits_u8 (hf 2 _ c rfl rfl)
    exact (lawExchange_c x l g hl hg []).mono (by rintro _ _ ⟨⟩; rfl)
theorem own : ownKnob Try.prog.godebug = none := by kernel_rfl
theorem laid : laidOutB Try.prog = true := by kernel_rfl
set_option maxRecDepth 100000 in
theorem lifted (os : Os) (started : os.Started) (H : Type) (enc : TypeId × Value → H) :
    ReturnsInHanded {} Try.checked os 5 .any (Rows.ensembleExchangeSpec.pre6 enc Try.prog Try.f5 Rows.ensembleExchangeRow.domain false) (Rows.ensembleExchangeSpec.post enc Try.prog Try.f5 false true false false) := by
  refine returnsInHanded_of_change (C := Try.checked) own started (by kernel_rfl) Try.func5
    (ChangeSpec.witness6 (enc := enc) (C := Try.checked) false ⟨#[], #[.agg #[.int .i64 0, .int .i64 0, .slice none 0 0], .int .u8 0, .int .u8 0], []⟩ 8 (by kernel_rfl) (by kernel_rfl) (by kernel_rfl) (by kernel_rfl)) ?_
  intro W base args ds gs before hval hW _ _
  exact law_calls (ss := [enS, Sh.int .u8, Sh.int .u8]) laid (by kernel_rfl) rfl (by kernel_rfl) rfl (fun ds h => by match ds, h with | [_, _, _], _ => rfl) law_c hval hW
theorem ensembleExchange_holds : Rows.EnsembleExchangeSaid :=
  OpenClaim.holds_of_wide 5 Try.f5 rfl rfl rfl rfl rfl rfl rfl ⟨rfl, rfl, rfl, rfl, rfl⟩ rfl rfl rfl rfl rfl (by kernel_rfl) Try.func5 (by kernel_rfl)
    (of_decide_eq_true (by kernel_rfl)) (by unfold Func.isWrapper; first | (rw [if_pos (by decide +kernel)]; kernel_rfl) | (rw [if_neg (by decide +kernel)]; exact ⟨rfl, rfl⟩))
    (fun os started H enc _ => lifted os started H enc)
end Go.Proofs.Ytimeggaignfhgaa
