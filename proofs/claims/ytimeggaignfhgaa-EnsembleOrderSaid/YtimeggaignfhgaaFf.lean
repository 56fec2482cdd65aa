/- What is proved: for all ensembles, orders and numbers, the law EnsembleOrder of the given program returns true: the order of the members does not matter. Conditions: none beyond the given row's own. -/
import Derived.Test.YtimeggaignfhgaaEs
namespace Go.Proofs.Ytimeggaignfhgaa
set_option linter.unusedSimpArgs false
set_option linter.unusedVariables false
open Go.ChangeShapes Go.WideShapes Go.ChangeAt Go.RowKit Go.Deep

theorem law_c (ls : List (List AV)) (h : ls.length = 4) (hf : ∀ (i : Nat) s l, [enS, Sh.slice (.int .u8), Sh.int .i64, Sh.int .i64][i]? = some s → ls[i]? = some l → Fits s l) : SCall Try.prog 7 (List.zipWith argAV [enS, Sh.slice (.int .u8), Sh.int .i64, Sh.int .i64] ls) [] (fun r _ => r = .bool true) := by
  match ls, h with
  | [a, b, c, d], _ =>
    obtain ⟨x, rfl, _⟩ := fits_en (hf 0 _ a rfl rfl)
    obtain ⟨o, rfl, ho⟩ := fits_slice (f := u8C) (p := fun n => n < 256) (fun x hx => fits_u8 hx) (hf 1 _ b rfl rfl)
    obtain ⟨low, rfl, hl⟩ := fits_i64 (hf 2 _ c rfl rfl)
    obtain ⟨high, rfl, _⟩ := fits_i64 (hf 3 _ d rfl rfl)
    exact (lawOrder_c x o ho low high hl []).mono (by rintro _ _ ⟨⟩; rfl)
theorem own : ownKnob Try.prog.godebug = none := by kernel_rfl
theorem laid : laidOutB Try.prog = true := by kernel_rfl
set_option maxRecDepth 100000 in
theorem lifted (os : Os) (started : os.Started) (H : Type) (enc : TypeId × Value → H) :
    ReturnsInHanded {} Try.checked os 7 .any (Rows.ensembleOrderSpec.pre6 enc Try.prog Try.f7 Rows.ensembleOrderRow.domain false) (Rows.ensembleOrderSpec.post enc Try.prog Try.f7 false true false false) := by
  refine returnsInHanded_of_change (C := Try.checked) own started (by kernel_rfl) Try.func7
    (ChangeSpec.witness6 (enc := enc) (C := Try.checked) false ⟨#[], #[.agg #[.int .i64 0, .int .i64 0, .slice none 0 0], .slice none 0 0, .int .i64 0, .int .i64 0], []⟩ 8 (by kernel_rfl) (by kernel_rfl) (by kernel_rfl) (by kernel_rfl)) ?_
  intro W base args ds gs before hval hW _ _
  exact law_calls (ss := [enS, Sh.slice (.int .u8), Sh.int .i64, Sh.int .i64]) laid (by kernel_rfl) rfl (by kernel_rfl) rfl (fun ds h => by match ds, h with | [_, _, _, _], _ => rfl) law_c hval hW
theorem ensembleOrder_holds : Rows.EnsembleOrderSaid :=
  OpenClaim.holds_of_wide 7 Try.f7 rfl rfl rfl rfl rfl rfl rfl ⟨rfl, rfl, rfl, rfl, rfl⟩ rfl rfl rfl rfl rfl (by kernel_rfl) Try.func7 (by kernel_rfl)
    (of_decide_eq_true (by kernel_rfl)) (by unfold Func.isWrapper; first | (rw [if_pos (by decide +kernel)]; kernel_rfl) | (rw [if_neg (by decide +kernel)]; exact ⟨rfl, rfl⟩))
    (fun os started H enc _ => lifted os started H enc)
end Go.Proofs.Ytimeggaignfhgaa
