/- What is proved: for all universes and tops the law HittingDual of the given program returns true: the cores of a monotone table are the minimal hitting sets of the complements of its maximal sets, and the other way round. Conditions: none beyond the given row's own. -/
import Derived.Test.YtcmdkccncfleoaaMn
import Derived.Test.YtcmdkccncfleoaaMo
namespace Go.Proofs.Ytcmdkccncfleoaa
set_option linter.unusedSimpArgs false
set_option linter.unusedVariables false
open Go.ChangeShapes Go.WideShapes Go.ChangeAt Go.RowKit Go.Deep

theorem law_c (ls : List (List AV)) (h : ls.length = 2) (hf : ∀ (i : Nat) s l, [Sh.int .u8, Sh.slice (.int .u16)][i]? = some s → ls[i]? = some l → Fits s l) : SCall Try.prog 5 (List.zipWith argAV [Sh.int .u8, Sh.slice (.int .u16)] ls) [] (fun r _ => r = .bool true) := by
  match ls, h with
  | [a, b], _ =>
    obtain ⟨e, rfl, he⟩ := fits_u8 (hf 0 _ a rfl rfl)
    obtain ⟨l, rfl, hl⟩ := fits_slice (f := u16C) (p := fun n => n < 65536) (fun x hx => fits_u16 hx) (hf 1 _ b rfl rfl)
    exact (hittingDual_c e l he hl []).mono (by rintro _ _ ⟨⟩; rfl)
theorem own : ownKnob Try.prog.godebug = none := by kernel_rfl
theorem laid : laidOutB Try.prog = true := by kernel_rfl
set_option maxRecDepth 100000 in
theorem lifted (os : Os) (started : os.Started) (H : Type) (enc : TypeId × Value → H) :
    ReturnsInHanded {} Try.checked os 5 .any (Rows.hittingDualSpec.pre6 enc Try.prog Try.f5 Rows.hittingDualRow.domain false) (Rows.hittingDualSpec.post enc Try.prog Try.f5 false true false false) := by
  refine returnsInHanded_of_change (C := Try.checked) own started (by kernel_rfl) Try.func5
    (ChangeSpec.witness6 (enc := enc) (C := Try.checked) false ⟨#[], #[.int .u8 0, .slice none 0 0], []⟩ 8 (by kernel_rfl) (by kernel_rfl) (by kernel_rfl) (by kernel_rfl)) ?_
  intro W base args ds gs before hval hW _ _
  exact law_calls (ss := [Sh.int .u8, Sh.slice (.int .u16)]) laid (by kernel_rfl) rfl (by kernel_rfl) rfl (fun ds h => by match ds, h with | [_, _], _ => rfl) law_c hval hW
theorem hittingDual_holds : Rows.HittingDualSaid :=
  OpenClaim.holds_of_wide 5 Try.f5 rfl rfl rfl rfl rfl rfl rfl ⟨rfl, rfl, rfl, rfl, rfl⟩ rfl rfl rfl rfl rfl (by kernel_rfl) Try.func5 (by kernel_rfl)
    (of_decide_eq_true (by kernel_rfl)) (by unfold Func.isWrapper; first | (rw [if_pos (by decide +kernel)]; kernel_rfl) | (rw [if_neg (by decide +kernel)]; exact ⟨rfl, rfl⟩))
    (fun os started H enc _ => lifted os started H enc)
end Go.Proofs.Ytcmdkccncfleoaa
