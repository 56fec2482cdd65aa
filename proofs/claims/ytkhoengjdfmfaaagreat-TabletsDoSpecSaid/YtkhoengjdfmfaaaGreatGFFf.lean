/- What is proved: for all rounds, right or not, all passes and all numbers, the law TabletsDoSpec of the given program returns true: New and Do match the specification. Conditions: none beyond the given row's own. -/
import Derived.Test.YtkhoengjdfmfaaaGreatGF19
import Derived.Test.YtkhoengjdfmfaaaGreatChecked
import Derived.Test.YtkhoengjdfmfaaaGreatRows
namespace Go.Proofs.YtkhoengjdfmfaaaGreat
set_option linter.unusedSimpArgs false
set_option linter.unusedVariables false
open Go.ChangeShapes Go.WideShapes Go.ChangeAt Go.RowKit Go.Deep
def pkS : Sh := .agg [.int .i64, .int .i64, .slice (.int .u8)]
def apS : Sh := .agg [.int .i64, .int .i64]
def stS : Sh := .agg [.slice bkS, .agg [.slice pkS, .slice apS]]
theorem fits_pk {l : List AV} (h : Fits pkS l) : ∃ p : Pk, l = pkC p ∧ ∀ x ∈ p.d, x < 256 := by
 unfold pkS at h
 rw [Fits] at h
 simp only [Fitss] at h
 obtain ⟨_, _, rfl, h1, _, _, rfl, h2, _, _, rfl, h3, rfl⟩ := h
 obtain ⟨a, rfl, _⟩ := pT h1
 obtain ⟨b, rfl, _⟩ := pT h2
 obtain ⟨d, rfl, h4⟩ := fits_slice (f := b8C) (p := fun x => x < 256) (fun x hx => fits_u8 hx) h3
 exact ⟨⟨a, b, d⟩, by simp [Sh.n], h4⟩
theorem fits_ap {l : List AV} (h : Fits apS l) : ∃ p : Ap, l = apC p := by
 unfold apS at h
 rw [Fits] at h
 simp only [Fitss] at h
 obtain ⟨_, _, rfl, h1, _, _, rfl, h2, rfl⟩ := h
 obtain ⟨a, rfl, _⟩ := pT h1
 obtain ⟨b, rfl, _⟩ := pT h2
 exact ⟨⟨a, b⟩, by simp⟩
theorem fits_st {l : List AV} (h : Fits stS l) : ∃ (B : List (List Sl)) (L : List Pk) (A : List Ap), l = stC B L A ∧ ∀ p ∈ L, ∀ x ∈ p.d, x < 256 := by
 unfold stS at h
 rw [Fits] at h
 simp only [Fitss] at h
 obtain ⟨_, _, rfl, h1, _, _, rfl, h2, rfl⟩ := h
 rw [Fits] at h2
 simp only [Fitss] at h2
 obtain ⟨_, _, rfl, h3, _, _, rfl, h4, rfl⟩ := h2
 obtain ⟨B, rfl, _⟩ := fits_slice (f := bkC) (p := fun _ => True) (fun x hx => by obtain ⟨n, rfl⟩ := fits_bk hx; exact ⟨n, rfl, trivial⟩) h1
 obtain ⟨L, rfl, h5⟩ := fits_slice (f := pkC) (p := fun p => ∀ x ∈ p.d, x < 256) (fun x hx => fits_pk hx) h3
 obtain ⟨A, rfl, _⟩ := fits_slice (f := apC) (p := fun _ => True) (fun x hx => by obtain ⟨n, rfl⟩ := fits_ap hx; exact ⟨n, rfl, trivial⟩) h4
 exact ⟨B, L, A, rfl, h5⟩
theorem law_c (ls : List (List AV)) (h : ls.length = 3) (hf : ∀ (i : Nat) s l, [stS, psS, Sh.int .i64][i]? = some s → ls[i]? = some l → Fits s l) : SCall Tryz.prog 4 (List.zipWith argAV [stS, psS, Sh.int .i64] ls) [] (fun r _ => r = .bool true) := by
 match ls, h with
 | [a0, a1, a2], _ =>
  obtain ⟨B, L, A, rfl, hb⟩ := fits_st (hf 0 _ a0 rfl rfl)
  obtain ⟨r, rfl⟩ := fits_ps (hf 1 _ a1 rfl rfl)
  obtain ⟨n, rfl, _⟩ := pT (hf 2 _ a2 rfl rfl)
  exact (doSpec_c B L A r n hb).mono (by rintro _ _ ⟨⟩; rfl)
theorem own : ownKnob Tryz.prog.godebug = none := by kernel_rfl
theorem laid : laidOutB Tryz.prog = true := by kernel_rfl
set_option maxRecDepth 100000 in
theorem lifted (os : Os) (started : os.Started) (H : Type) (enc : TypeId × Value → H) :
  ReturnsInHanded {} Tryz.checked os 4 .any (Rows.tabletsDoSpecSpec.pre6 enc Tryz.prog Tryz.f4 Rows.tabletsDoSpecRow.domain false) (Rows.tabletsDoSpecSpec.post enc Tryz.prog Tryz.f4 false true false false) := by
 refine returnsInHanded_of_change (C := Tryz.checked) own started (by kernel_rfl) Tryz.func4
  (ChangeSpec.witness6 (enc := enc) (C := Tryz.checked) false ⟨#[], #[.agg #[.slice none 0 0, .slice none 0 0, .slice none 0 0], .agg #[.int .i64 0, .int .i64 0, .int .i64 0, .int .i64 0, .int .i64 0, .int .i64 0, .int .i64 0, .int .i64 0, .int .i64 0, .int .i64 0, .int .i64 0, .int .i64 0], .int .i64 0], []⟩ 8 (by kernel_rfl) (by kernel_rfl) (by kernel_rfl) (by kernel_rfl)) ?_
 intro W base args ds gs before hval hW _ _
 exact law_calls (ss := [stS, psS, Sh.int .i64]) laid (by kernel_rfl) rfl (by kernel_rfl) rfl (fun ds h => by match ds, h with | [_, _, _], _ => rfl) law_c hval hW
theorem tabletsDoSpec_holds : Rows.TabletsDoSpecSaid :=
 OpenClaim.holds_of_wide 4 Tryz.f4 rfl rfl rfl rfl rfl rfl rfl ⟨rfl, rfl, rfl, rfl, rfl⟩ rfl rfl rfl rfl rfl (by kernel_rfl) Tryz.func4 (by kernel_rfl)
  (of_decide_eq_true (by kernel_rfl)) (by unfold Func.isWrapper; first | (rw [if_pos (by decide +kernel)]; kernel_rfl) | (rw [if_neg (by decide +kernel)]; exact ⟨rfl, rfl⟩))
  (fun os started H enc _ => lifted os started H enc)
end Go.Proofs.YtkhoengjdfmfaaaGreat
