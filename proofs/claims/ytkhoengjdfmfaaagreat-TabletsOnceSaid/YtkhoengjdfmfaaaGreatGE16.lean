/- Parts of the proof that belong together: Ws. -/
import Derived.Test.YtkhoengjdfmfaaaGreatGE04
import Derived.Test.YtkhoengjdfmfaaaGreatGE10
set_option maxRecDepth 10000
set_option linter.unusedSimpArgs false
set_option linter.unusedVariables false
namespace Go.Proofs.YtkhoengjdfmfaaaGreat
def slS : Sh := .agg [.int .i64, .int .i64, .int .i64, .int .i64, .int .i64, .int .i64, .int .i64, .int .i64]
def bkS : Sh := .agg [.slice slS]
theorem fits_sl {l : List AV} (h : Fits slS l) : ∃ s : Sl, l = slC s := by
  simp only [slS, Fits, Fitss] at h
  obtain ⟨_, _, rfl, ⟨a, rfl, _⟩, _, _, rfl, ⟨b, rfl, _⟩, _, _, rfl, ⟨c, rfl, _⟩, _, _, rfl, ⟨d, rfl, _⟩, _, _, rfl, ⟨e, rfl, _⟩, _, _, rfl, ⟨f, rfl, _⟩, _, _, rfl, ⟨g, rfl, _⟩, _, _, rfl, ⟨i, rfl, _⟩, rfl⟩ := h
  exact ⟨⟨a, b, c, d, e, f, g, i⟩, rfl⟩
theorem fits_bk {l : List AV} (h : Fits bkS l) : ∃ xs : List Sl, l = [sls xs] := by
  unfold bkS at h
  rw [Fits] at h
  simp only [Fitss] at h
  obtain ⟨_, _, rfl, h1, rfl⟩ := h
  obtain ⟨xs, rfl, _⟩ := fits_slice (f := slC) (p := fun _ => True) (fun x hx => by obtain ⟨n, rfl⟩ := fits_sl hx; exact ⟨n, rfl, trivial⟩) h1
  exact ⟨xs, rfl⟩
end Go.Proofs.YtkhoengjdfmfaaaGreat
