/- What is proved: for all universes, tops and sets the law HittingShrink of the given program returns true: Shrink returns a core that is a subset, and a set has the value true exactly if it has no core as a subset, that is, lies in a maximal set. Conditions: none beyond the given row's own. -/
import Derived.Test.YtcmdkccncfleoaaMn
import Derived.Test.YtcmdkccncfleoaaMo
namespace Go.Proofs.Ytcmdkccncfleoaa
set_option linter.unusedSimpArgs false
set_option linter.unusedVariables false
open Go.ChangeShapes Go.WideShapes Go.ChangeAt Go.RowKit Go.Deep

theorem law_c (ls : List (List AV)) (h : ls.length = 3) (hf : ∀ (i : Nat) s l, [Sh.int .u8, Sh.slice (.int .u16), Sh.int .u16][i]? = some s → ls[i]? = some l → Fits s l) : SCall Try.prog 9 (List.zipWith argAV [Sh.int .u8, Sh.slice (.int .u16), Sh.int .u16] ls) [] (fun r _ => r = .bool true) := by
  match ls, h with
  | [a, b, c], _ =>
    obtain ⟨e, rfl, he⟩ := fits_u8 (hf 0 _ a rfl rfl)
    obtain ⟨l, rfl, hl⟩ := fits_slice (f := u16C) (p := fun n => n < 65536) (fun x hx => fits_u16 hx) (hf 1 _ b rfl rfl)
    obtain ⟨s, rfl, hs⟩ := fits_u16 (hf 2 _ c rfl rfl)
    exact (hittingShrink_c e l s he hl hs []).mono (by rintro _ _ ⟨⟩; rfl)
theorem own : ownKnob Try.prog.godebug = none := by kernel_rfl
theorem laid : laidOutB Try.prog = true := by kernel_rfl
set_option maxRecDepth 100000 in
theorem lifted (os : Os) (started : os.Started) (H : Type) (enc : TypeId × Value → H) :
    ReturnsInHanded {} Try.checked os 9 .any (Rows.hittingShrinkSpec.pre6 enc Try.prog Try.f9 Rows.hittingShrinkRow.domain false) (Rows.hittingShrinkSpec.post enc Try.prog Try.f9 false true false false) := by
  refine returnsInHanded_of_change (C := Try.checked) own started (by kernel_rfl) Try.func9
    (ChangeSpec.witness6 (enc := enc) (C := Try.checked) false ⟨#[], #[.int .u8 0, .slice none 0 0, .int .u16 0], []⟩ 8 (by kernel_rfl) (by kernel_rfl) (by kernel_rfl) (by kernel_rfl)) ?_
  intro W base args ds gs before hval hW _ _
  exact law_calls (ss := [Sh.int .u8, Sh.slice (.int .u16), Sh.int .u16]) laid (by kernel_rfl) rfl (by kernel_rfl) rfl (fun ds h => by match ds, h with | [_, _, _], _ => rfl) law_c hval hW
theorem hittingShrink_holds : Rows.HittingShrinkSaid :=
  OpenClaim.holds_of_wide 9 Try.f9 rfl rfl rfl rfl rfl rfl rfl ⟨rfl, rfl, rfl, rfl, rfl⟩ rfl rfl rfl rfl rfl (by kernel_rfl) Try.func9 (by kernel_rfl)
    (of_decide_eq_true (by kernel_rfl)) (by unfold Func.isWrapper; first | (rw [if_pos (by decide +kernel)]; kernel_rfl) | (rw [if_neg (by decide +kernel)]; exact ⟨rfl, rfl⟩))
    (fun os started H enc _ => lifted os started H enc)
end Go.Proofs.Ytcmdkccncfleoaa
