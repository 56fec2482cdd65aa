/- What is proved: for all numbers and lists of passes the law TabletsRuns of the given program returns true: nothing is lost or invented, whatever happens on the links. Conditions: none beyond the given row's own. -/
import Derived.Test.YtkhoengjdfmfaaaGreatGC19
import Derived.Test.YtkhoengjdfmfaaaGreatChecked
import Derived.Test.YtkhoengjdfmfaaaGreatRows
namespace Go.Proofs.YtkhoengjdfmfaaaGreat
set_option linter.unusedSimpArgs false
set_option linter.unusedVariables false
open Go.ChangeShapes Go.WideShapes Go.ChangeAt Go.RowKit Go.Deep

theorem law_c (ls : List (List AV)) (h : ls.length = 2) (hf : ∀ (i : Nat) s l, [Sh.int .u8, Sh.slice psS][i]? = some s → ls[i]? = some l → Fits s l) : SCall Tryz.prog 5 (List.zipWith argAV [Sh.int .u8, Sh.slice psS] ls) [] (fun r _ => r = .bool true) := by
  match ls, h with
  | [a0, a1], _ =>
    obtain ⟨x0, rfl, k0⟩ := fits_u8 (hf 0 _ a0 rfl rfl)
    obtain ⟨x1, rfl⟩ := fits_pss (hf 1 _ a1 rfl rfl)
    exact (runsLaw_c x0 x1 k0).mono (by rintro _ _ ⟨⟩; rfl)
theorem own : ownKnob Tryz.prog.godebug = none := by kernel_rfl
theorem laid : laidOutB Tryz.prog = true := by kernel_rfl
set_option maxRecDepth 100000 in
theorem lifted (os : Os) (started : os.Started) (H : Type) (enc : TypeId × Value → H) :
    ReturnsInHanded {} Tryz.checked os 5 .any (Rows.tabletsRunsSpec.pre6 enc Tryz.prog Tryz.f5 Rows.tabletsRunsRow.domain false) (Rows.tabletsRunsSpec.post enc Tryz.prog Tryz.f5 false true false false) := by
  refine returnsInHanded_of_change (C := Tryz.checked) own started (by kernel_rfl) Tryz.func5
    (ChangeSpec.witness6 (enc := enc) (C := Tryz.checked) false ⟨#[], #[.int .u8 0, .slice none 0 0], []⟩ 8 (by kernel_rfl) (by kernel_rfl) (by kernel_rfl) (by kernel_rfl)) ?_
  intro W base args ds gs before hval hW _ _
  exact law_calls (ss := [Sh.int .u8, Sh.slice psS]) laid (by kernel_rfl) rfl (by kernel_rfl) rfl (fun ds h => by match ds, h with | [_, _], _ => rfl) law_c hval hW
theorem tabletsRuns_holds : Rows.TabletsRunsSaid :=
  OpenClaim.holds_of_wide 5 Tryz.f5 rfl rfl rfl rfl rfl rfl rfl ⟨rfl, rfl, rfl, rfl, rfl⟩ rfl rfl rfl rfl rfl (by kernel_rfl) Tryz.func5 (by kernel_rfl)
    (of_decide_eq_true (by kernel_rfl)) (by unfold Func.isWrapper; first | (rw [if_pos (by decide +kernel)]; kernel_rfl) | (rw [if_neg (by decide +kernel)]; exact ⟨rfl, rfl⟩))
    (fun os started H enc _ => lifted os started H enc)
end Go.Proofs.YtkhoengjdfmfaaaGreat
