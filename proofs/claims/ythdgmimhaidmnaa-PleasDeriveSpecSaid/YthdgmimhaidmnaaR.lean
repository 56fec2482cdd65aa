/- What the laws' arguments are. -/
import Derived.Test.YthdgmimhaidmnaaPa
import Derived.Test.YthdgmimhaidmnaaSo
namespace Go.Proofs.Ythdgmimhaidmnaa
set_option linter.unusedSimpArgs false
set_option linter.unusedVariables false
def clS : Sh := .agg [.int .i64, .int .i64, .int .i64, .bool, .slice (.int .i64)]
def plS : Sh := .agg [.slice (.int .i64), .slice clS]
def rsS : Sh := .agg [.int .i64, .int .i64, .bool]
theorem fits_ints {l : List AV} (h : Fits (.slice (.int .i64)) l) : ∃ xs : List Int, l = [ints xs] := by
  obtain ⟨xs, rfl, hp⟩ := fits_slice (f := intC) (p := fun _ => True) (fun x hx => by obtain ⟨n, rfl, _⟩ := fits_i64 hx; exact ⟨n, rfl, trivial⟩) h
  exact ⟨xs, rfl⟩
theorem fits_cl {l : List AV} (h : Fits clS l) : ∃ c : Cl, l = clC c ∧ True := by
  simp only [clS, Fits, Fitss] at h
  obtain ⟨_, _, rfl, ⟨a, rfl, _⟩, _, _, rfl, ⟨b, rfl, _⟩, _, _, rfl, ⟨c, rfl, _⟩, _, _, rfl, ⟨s, rfl⟩, _, _, rfl, ⟨xs, rfl, h3⟩, rfl⟩ := h
  obtain ⟨ys, e⟩ := fits_ints (l := [.dl 1 xs]) (by simp only [Fits]; exact ⟨xs, rfl, h3⟩)
  simp only [List.cons.injEq, AV.dl.injEq, and_true, true_and] at e
  subst e
  exact ⟨⟨a, b, c, s, ys⟩, rfl, trivial⟩
theorem fits_cls {l : List AV} (h : Fits (.slice clS) l) : ∃ xs : List Cl, l = [cls xs] := by
  obtain ⟨xs, rfl, hp⟩ := fits_slice (f := clC) (p := fun _ => True) (fun x hx => fits_cl hx) h
  exact ⟨xs, rfl⟩
theorem fits_pl {l : List AV} (h : Fits plS l) : ∃ p : Pl, l = plC p := by
  simp only [plS, Fits, Fitss] at h
  obtain ⟨_, _, rfl, ⟨xs, rfl, h2⟩, _, _, rfl, ⟨ys, rfl, h3⟩, rfl⟩ := h
  obtain ⟨fs, e⟩ := fits_ints (l := [.dl 1 xs]) (by simp only [Fits]; exact ⟨xs, rfl, h2⟩)
  obtain ⟨cs, e2⟩ := fits_cls (l := [.dl 5 ys]) (by simp only [Fits]; exact ⟨ys, rfl, h3⟩)
  simp only [List.cons.injEq, AV.dl.injEq, and_true, true_and] at e e2
  subst e e2
  exact ⟨⟨fs, cs⟩, rfl⟩
theorem fits_rs {l : List AV} (h : Fits rsS l) : ∃ x : Rs, l = rsC x ∧ True := by
  simp only [rsS, Fits, Fitss] at h
  obtain ⟨_, _, rfl, ⟨a, rfl, _⟩, _, _, rfl, ⟨b, rfl, _⟩, _, _, rfl, ⟨s, rfl⟩, rfl⟩ := h
  exact ⟨⟨a, b, s⟩, rfl, trivial⟩
theorem fits_rss {l : List AV} (h : Fits (.slice rsS) l) : ∃ xs : List Rs, l = [rss xs] := by
  obtain ⟨xs, rfl, hp⟩ := fits_slice (f := rsC) (p := fun _ => True) (fun x hx => fits_rs hx) h
  exact ⟨xs, rfl⟩
end Go.Proofs.Ythdgmimhaidmnaa
