/- Clocks: what plain arguments are. -/
import Derived.Test.YtobcnochlkdpaaaKd
import Derived.Test.YtobcnochlkdpaaaSo
import Derived.Test.YtobcnochlkdpaaaSt
namespace Go.Proofs.Ytobcnochlkdpaaa
set_option linter.unusedSimpArgs false
set_option linter.unusedVariables false
def fcS : Sh := .agg [.int .i64, .int .i64, .int .i64, .int .i64, .int .i64, .int .i64]
def rgS : Sh := .agg [.int .i64, .int .i64]
theorem fits_fc {l : List AV} (h : Fits fcS l) : ∃ x : Fc, l = fcC x := by
  simp only [fcS, Fits, Fitss] at h
  obtain ⟨_, _, rfl, ⟨a, rfl, _⟩, _, _, rfl, ⟨b, rfl, _⟩, _, _, rfl, ⟨c, rfl, _⟩, _, _, rfl, ⟨d, rfl, _⟩, _, _, rfl, ⟨e, rfl, _⟩, _, _, rfl, ⟨f, rfl, _⟩, rfl⟩ := h
  exact ⟨⟨a, b, c, d, e, f⟩, rfl⟩
theorem fits_rg {l : List AV} (h : Fits rgS l) : ∃ x : Rg, l = rgC x := by
  simp only [rgS, Fits, Fitss] at h
  obtain ⟨_, _, rfl, ⟨a, rfl, _⟩, _, _, rfl, ⟨b, rfl, _⟩, rfl⟩ := h
  exact ⟨⟨a, b⟩, rfl⟩
theorem fits_fcs {l : List AV} (h : Fits (.slice fcS) l) : ∃ xs : List Fc, l = [fcs xs] := by
  obtain ⟨xs, rfl, _⟩ := fits_slice (f := fcC) (p := fun _ => True) (fun x hx => by obtain ⟨n, rfl⟩ := fits_fc hx; exact ⟨n, rfl, trivial⟩) h
  exact ⟨xs, rfl⟩
theorem fits_u16 {l : List AV} (h : Fits (.int .u16) l) : ∃ n : Nat, l = [.int .u16 n] ∧ n < 65536 := by
  simp only [Fits] at h
  obtain ⟨n, rfl, h⟩ := h
  have : 0 ≤ n ∧ n < 65536 := by simp [Lit.wf, IntKind.min, IntKind.max, IntKind.bits, IntKind.signed] at h; omega
  exact ⟨n.toNat, by congr 2; omega, by omega⟩
end Go.Proofs.Ytobcnochlkdpaaa
