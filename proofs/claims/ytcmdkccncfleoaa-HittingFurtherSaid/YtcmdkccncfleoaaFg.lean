/- What is proved: for all families, numbers and sets the law HittingFurther of the given program returns true: the order of the sets and repeated sets do not matter, and with a further set each minimal hitting set has a former one as a subset. Conditions: none beyond the given row's own. -/
import Derived.Test.YtcmdkccncfleoaaMp
import Derived.Test.YtcmdkccncfleoaaMo
namespace Go.Proofs.Ytcmdkccncfleoaa
set_option linter.unusedSimpArgs false
set_option linter.unusedVariables false
open Go.ChangeShapes Go.WideShapes Go.ChangeAt Go.RowKit Go.Deep

theorem law_c (ls : List (List AV)) (h : ls.length = 3) (hf : ∀ (i : Nat) s l, [famS, Sh.int .u8, Sh.int .i64][i]? = some s → ls[i]? = some l → Fits s l) : SCall Try.prog 8 (List.zipWith argAV [famS, Sh.int .u8, Sh.int .i64] ls) [] (fun r _ => r = .bool true) := by
  match ls, h with
  | [a, b, c], _ =>
    obtain ⟨x, rfl⟩ := fits_fam (hf 0 _ a rfl rfl)
    obtain ⟨e, rfl, he⟩ := fits_u8 (hf 1 _ b rfl rfl)
    obtain ⟨s, rfl, _⟩ := fits_i64 (hf 2 _ c rfl rfl)
    exact (hittingFurther_c x e s he []).mono (by rintro _ _ ⟨⟩; rfl)
theorem own : ownKnob Try.prog.godebug = none := by kernel_rfl
theorem laid : laidOutB Try.prog = true := by kernel_rfl
set_option maxRecDepth 100000 in
theorem lifted (os : Os) (started : os.Started) (H : Type) (enc : TypeId × Value → H) :
    ReturnsInHanded {} Try.checked os 8 .any (Rows.hittingFurtherSpec.pre6 enc Try.prog Try.f8 Rows.hittingFurtherRow.domain false) (Rows.hittingFurtherSpec.post enc Try.prog Try.f8 false true false false) := by
  refine returnsInHanded_of_change (C := Try.checked) own started (by kernel_rfl) Try.func8
    (ChangeSpec.witness6 (enc := enc) (C := Try.checked) false ⟨#[], #[.agg #[.int .i64 0, .slice none 0 0], .int .u8 0, .int .i64 0], []⟩ 8 (by kernel_rfl) (by kernel_rfl) (by kernel_rfl) (by kernel_rfl)) ?_
  intro W base args ds gs before hval hW _ _
  exact law_calls (ss := [famS, Sh.int .u8, Sh.int .i64]) laid (by kernel_rfl) rfl (by kernel_rfl) rfl (fun ds h => by match ds, h with | [_, _, _], _ => rfl) law_c hval hW
theorem hittingFurther_holds : Rows.HittingFurtherSaid :=
  OpenClaim.holds_of_wide 8 Try.f8 rfl rfl rfl rfl rfl rfl rfl ⟨rfl, rfl, rfl, rfl, rfl⟩ rfl rfl rfl rfl rfl (by kernel_rfl) Try.func8 (by kernel_rfl)
    (of_decide_eq_true (by kernel_rfl)) (by unfold Func.isWrapper; first | (rw [if_pos (by decide +kernel)]; kernel_rfl) | (rw [if_neg (by decide +kernel)]; exact ⟨rfl, rfl⟩))
    (fun os started H enc _ => lifted os started H enc)
end Go.Proofs.Ytcmdkccncfleoaa
