/- What is proved: for all numbers and lists of passes the law TabletsTell of the given program returns true: whoever has been told everything has the merged book, as long as no limit is met. Conditions: none beyond the given row's own. -/
import Derived.Test.YtkhoengjdfmfaaaGreatGB19
import Derived.Test.YtkhoengjdfmfaaaGreatChecked
import Derived.Test.YtkhoengjdfmfaaaGreatRows
namespace Go.Proofs.YtkhoengjdfmfaaaGreat
set_option linter.unusedSimpArgs false
set_option linter.unusedVariables false
open Go.ChangeShapes Go.WideShapes Go.ChangeAt Go.RowKit Go.Deep

theorem law_c (ls : List (List AV)) (h : ls.length = 4) (hf : ∀ (i : Nat) s l, [Sh.int .u8, Sh.slice psS, Sh.int .u8, Sh.int .u8][i]? = some s → ls[i]? = some l → Fits s l) : SCall Tryz.prog 8 (List.zipWith argAV [Sh.int .u8, Sh.slice psS, Sh.int .u8, Sh.int .u8] ls) [] (fun r _ => r = .bool true) := by
  match ls, h with
  | [a0, a1, a2, a3], _ =>
    obtain ⟨x0, rfl, k0⟩ := fits_u8 (hf 0 _ a0 rfl rfl)
    obtain ⟨x1, rfl⟩ := fits_pss (hf 1 _ a1 rfl rfl)
    obtain ⟨x2, rfl, k2⟩ := fits_u8 (hf 2 _ a2 rfl rfl)
    obtain ⟨x3, rfl, k3⟩ := fits_u8 (hf 3 _ a3 rfl rfl)
    exact (tell_c x0 x1 x2 x3 k0 k2 k3).mono (by rintro _ _ ⟨⟩; rfl)
theorem own : ownKnob Tryz.prog.godebug = none := by kernel_rfl
theorem laid : laidOutB Tryz.prog = true := by kernel_rfl
set_option maxRecDepth 100000 in
theorem lifted (os : Os) (started : os.Started) (H : Type) (enc : TypeId × Value → H) :
    ReturnsInHanded {} Tryz.checked os 8 .any (Rows.tabletsTellSpec.pre6 enc Tryz.prog Tryz.f8 Rows.tabletsTellRow.domain false) (Rows.tabletsTellSpec.post enc Tryz.prog Tryz.f8 false true false false) := by
  refine returnsInHanded_of_change (C := Tryz.checked) own started (by kernel_rfl) Tryz.func8
    (ChangeSpec.witness6 (enc := enc) (C := Tryz.checked) false ⟨#[], #[.int .u8 0, .slice none 0 0, .int .u8 0, .int .u8 0], []⟩ 8 (by kernel_rfl) (by kernel_rfl) (by kernel_rfl) (by kernel_rfl)) ?_
  intro W base args ds gs before hval hW _ _
  exact law_calls (ss := [Sh.int .u8, Sh.slice psS, Sh.int .u8, Sh.int .u8]) laid (by kernel_rfl) rfl (by kernel_rfl) rfl (fun ds h => by match ds, h with | [_, _, _, _], _ => rfl) law_c hval hW
theorem tabletsTell_holds : Rows.TabletsTellSaid :=
  OpenClaim.holds_of_wide 8 Tryz.f8 rfl rfl rfl rfl rfl rfl rfl ⟨rfl, rfl, rfl, rfl, rfl⟩ rfl rfl rfl rfl rfl (by kernel_rfl) Tryz.func8 (by kernel_rfl)
    (of_decide_eq_true (by kernel_rfl)) (by unfold Func.isWrapper; first | (rw [if_pos (by decide +kernel)]; kernel_rfl) | (rw [if_neg (by decide +kernel)]; exact ⟨rfl, rfl⟩))
    (fun os started H enc _ => lifted os started H enc)
end Go.Proofs.YtkhoengjdfmfaaaGreat
