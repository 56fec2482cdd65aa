/- What is proved: for all books, right or not, and all numbers the law TabletsOnce of the given program returns true: each slip that counts belongs to one turn, its own, and a further lending changes no other turn's farm. Conditions: none beyond the given row's own. -/
import Derived.Test.YtkhoengjdfmfaaaGreatGE15
import Derived.Test.YtkhoengjdfmfaaaGreatGE16
import Derived.Test.YtkhoengjdfmfaaaGreatChecked
import Derived.Test.YtkhoengjdfmfaaaGreatRows
namespace Go.Proofs.YtkhoengjdfmfaaaGreat
set_option linter.unusedSimpArgs false
set_option linter.unusedVariables false
open Go.ChangeShapes Go.WideShapes Go.ChangeAt Go.RowKit Go.Deep

theorem law_c (ls : List (List AV)) (h : ls.length = 2) (hf : ∀ (i : Nat) s l, [bkS, Sh.int .u8][i]? = some s → ls[i]? = some l → Fits s l) : SCall Tryz.prog 7 (List.zipWith argAV [bkS, Sh.int .u8] ls) [] (fun r _ => r = .bool true) := by
  match ls, h with
  | [a0, a1], _ =>
    obtain ⟨x0, rfl⟩ := fits_bk (hf 0 _ a0 rfl rfl)
    obtain ⟨x1, rfl, k1⟩ := fits_u8 (hf 1 _ a1 rfl rfl)
    exact (once_c x0 x1 k1).mono (by rintro _ _ ⟨⟩; rfl)
theorem own : ownKnob Tryz.prog.godebug = none := by kernel_rfl
theorem laid : laidOutB Tryz.prog = true := by kernel_rfl
set_option maxRecDepth 100000 in
theorem lifted (os : Os) (started : os.Started) (H : Type) (enc : TypeId × Value → H) :
    ReturnsInHanded {} Tryz.checked os 7 .any (Rows.tabletsOnceSpec.pre6 enc Tryz.prog Tryz.f7 Rows.tabletsOnceRow.domain false) (Rows.tabletsOnceSpec.post enc Tryz.prog Tryz.f7 false true false false) := by
  refine returnsInHanded_of_change (C := Tryz.checked) own started (by kernel_rfl) Tryz.func7
    (ChangeSpec.witness6 (enc := enc) (C := Tryz.checked) false ⟨#[], #[.agg #[.slice none 0 0], .int .u8 0], []⟩ 8 (by kernel_rfl) (by kernel_rfl) (by kernel_rfl) (by kernel_rfl)) ?_
  intro W base args ds gs before hval hW _ _
  exact law_calls (ss := [bkS, Sh.int .u8]) laid (by kernel_rfl) rfl (by kernel_rfl) rfl (fun ds h => by match ds, h with | [_, _], _ => rfl) law_c hval hW
theorem tabletsOnce_holds : Rows.TabletsOnceSaid :=
  OpenClaim.holds_of_wide 7 Tryz.f7 rfl rfl rfl rfl rfl rfl rfl ⟨rfl, rfl, rfl, rfl, rfl⟩ rfl rfl rfl rfl rfl (by kernel_rfl) Tryz.func7 (by kernel_rfl)
    (of_decide_eq_true (by kernel_rfl)) (by unfold Func.isWrapper; first | (rw [if_pos (by decide +kernel)]; kernel_rfl) | (rw [if_neg (by decide +kernel)]; exact ⟨rfl, rfl⟩))
    (fun os started H enc _ => lifted os started H enc)
end Go.Proofs.YtkhoengjdfmfaaaGreat
