/- Hitting: what plain arguments are. -/
import Derived.Test.YtcmdkccncfleoaaMk
namespace Go.Proofs.Ytcmdkccncfleoaa
set_option linter.unusedSimpArgs false
set_option linter.unusedVariables false
def famS : Sh := .agg [.int .i64, .slice (.int .i64)]
theorem fits_ints {l : List AV} (h : Fits (.slice (.int .i64)) l) : ∃ xs : List Int, l = [ints xs] := by
  obtain ⟨xs, rfl, hp⟩ := fits_slice (f := intC) (p := fun _ => True) (fun x hx => by obtain ⟨n, rfl, _⟩ := fits_i64 hx; exact ⟨n, rfl, trivial⟩) h
  exact ⟨xs, rfl⟩
theorem fits_fam {l : List AV} (h : Fits famS l) : ∃ x : Fam, l = famC x := by
  simp only [famS, Fits, Fitss] at h
  obtain ⟨_, _, rfl, ⟨n, rfl, _⟩, _, _, rfl, ⟨xs, rfl, h2⟩, rfl⟩ := h
  obtain ⟨ys, e⟩ := fits_ints (l := [.dl 1 xs]) (by simp only [Fits]; exact ⟨xs, rfl, h2⟩)
  simp only [List.cons.injEq, AV.dl.injEq, and_true] at e
  obtain ⟨_, rfl⟩ := e
  exact ⟨⟨n, ys⟩, rfl⟩
theorem fits_bools {l : List AV} (h : Fits (.slice .bool) l) : ∃ xs : List Bool, l = [bools xs] := by
  obtain ⟨xs, rfl, hp⟩ := fits_slice (f := boolC) (p := fun _ => True) (fun x hx => by simp only [Fits] at hx; obtain ⟨b, rfl⟩ := hx; exact ⟨b, rfl, trivial⟩) h
  exact ⟨xs, rfl⟩
theorem fits_u16 {l : List AV} (h : Fits (.int .u16) l) : ∃ n : Nat, l = [.int .u16 n] ∧ n < 65536 := by
  simp only [Fits] at h
  obtain ⟨n, rfl, h⟩ := h
  have : 0 ≤ n ∧ n < 65536 := by simp [Lit.wf, IntKind.min, IntKind.max, IntKind.bits, IntKind.signed] at h; omega
  exact ⟨n.toNat, by congr 2; omega, by omega⟩
end Go.Proofs.Ytcmdkccncfleoaa
