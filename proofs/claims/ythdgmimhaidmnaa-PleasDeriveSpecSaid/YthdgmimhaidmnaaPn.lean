/- The chapter's examples: their answers in plain Lean. -/
import Derived.Test.YthdgmimhaidmnaaPure4
import Derived.Test.YthdgmimhaidmnaaPc
import Derived.Test.YthdgmimhaidmnaaPk
import Derived.Test.YthdgmimhaidmnaaPh
namespace Go.Proofs.Ythdgmimhaidmnaa
set_option linter.unusedSimpArgs false
set_option linter.unusedVariables false

theorem lits_nodup : lits.Nodup := by unfold lits; decide
theorem lits_le : lits.length ≤ 64 := by simp [lits]
theorem lits_has (q : Int) (h : litB q = true) : q ∈ lits := by
  simp only [litB, Bool.and_eq_true, decide_eq_true_eq, bne_iff_ne, ne_eq] at h
  exact lits_mem.2 ⟨h.1.1, h.1.2, h.2⟩
theorem lits_litB (q : Int) (h : q ∈ lits) : litB q = true := by
  have := lits_mem.1 h
  simp only [litB, Bool.and_eq_true, decide_eq_true_eq, bne_iff_ne, ne_eq]
  exact ⟨⟨this.1, this.2.1⟩, this.2.2⟩
theorem lits_neg (q : Int) (h : q ∈ lits) : -q ∈ lits := by
  have := lits_mem.1 h
  exact lits_mem.2 ⟨by omega, by omega, by omega⟩

/-- An answer by a list that is accepted. -/
theorem answer_by {p : Pl} (hc : checkB lits p = 0) (l : List Rs) (ha : acceptsFrom p (strictOf p).contains (fun _ => 0) l = true) (x : Rs) (hx : x ∈ l) (hl : litB x.lit = true) : answerB lits p x.lit = (if x.proved then 1 else 2, 0) := by
  have h := accepts_says lits_nodup lits_le lits_has l _ (fun q h => absurd rfl h) ha x hx
  unfold answerB derivedB
  rw [h, hc, hl]
  cases x.proved <;> rfl

def pA : Pl := ⟨[1], [⟨1, 2, 1, false, [1]⟩, ⟨2, -2, 2, false, [3]⟩, ⟨3, 3, 1, false, [-4]⟩, ⟨4, -4, 0, false, []⟩, ⟨5, 4, 0, false, [1]⟩]⟩
def pB : Pl := ⟨[1], [⟨1, 2, 1, false, [1]⟩, ⟨2, -2, 2, false, [3]⟩, ⟨3, 3, 1, false, [-4]⟩, ⟨4, -4, 1, false, []⟩, ⟨5, 4, 0, false, [1]⟩]⟩
def pC : Pl := ⟨[1], [⟨0, -2, 0, true, [1]⟩]⟩
def pD : Pl := ⟨[], [⟨1, 1, 1, false, [2]⟩, ⟨2, 2, 1, false, [1]⟩]⟩
def pE : Pl := ⟨[], []⟩
def lA : List Rs := [⟨1, 0, true⟩, ⟨4, 0, false⟩, ⟨-4, 0, false⟩, ⟨3, 0, false⟩, ⟨2, 1, true⟩]
def lB : List Rs := [⟨1, 0, true⟩, ⟨-4, 4, true⟩, ⟨3, 3, true⟩, ⟨2, 0, false⟩]
theorem checkA : checkB lits pA = 0 := by kernel_rfl
theorem checkBB : checkB lits pB = 0 := by kernel_rfl
theorem checkD : checkB lits pD = 0 := by kernel_rfl
theorem checkE0 : checkB lits pE = 0 := by kernel_rfl
theorem t1 : answerB lits pA 2 = (1, 0) := answer_by checkA lA (by kernel_rfl) ⟨2, 1, true⟩ (by decide) rfl
theorem t2 : answerB lits pA 4 = (2, 0) := answer_by checkA lA (by kernel_rfl) ⟨4, 0, false⟩ (by decide) rfl
theorem t3 : answerB lits pA 3 = (2, 0) := answer_by checkA lA (by kernel_rfl) ⟨3, 0, false⟩ (by decide) rfl
theorem t4 : answerB lits pB 2 = (2, 0) := answer_by checkBB lB (by kernel_rfl) ⟨2, 0, false⟩ (by decide) rfl
/-- Of what nothing is said in any round nothing is known. -/
theorem stays_open {p : Pl} {S : Int → Bool} {L : List Int} {U : Int → Prop} (h : ∀ K : Known, (∀ q, U q → K q = 0) → ∀ q, U q → rsOf p S K q = none) : ∀ n q, U q → (deriveN p S L n).2 q = 0
  | 0, _, _ => rfl
  | n + 1, q, hq => by
    have ih := stays_open (L := L) h n
    have e : (deriveN p S L (n + 1)).2 q = (deriveN p S L n).2 q := learnAll_out _ _ _ fun hm => by
      obtain ⟨x, hx, rfl⟩ := List.mem_map.1 hm
      obtain ⟨y, hy, hyx⟩ := List.mem_filterMap.1 hx
      have := rsOf_lit hyx
      rw [← this.1] at hyx
      rw [h _ ih _ hq] at hyx
      cases hyx
    rw [e]
    exact ih q hq
theorem strictD : strictOf pD = [] := by kernel_rfl
theorem t5 : answerB lits pD 1 = (3, 0) := by
  have h := stays_open (p := pD) (S := (strictOf pD).contains) (L := lits) (U := fun q => q = 1 ∨ q = 2) (fun K hK q hq => by
    have k1 := hK 1 (.inl rfl)
    have k2 := hK 2 (.inr rfl)
    rw [strictD]
    rcases hq with rfl | rfl
    · simp [rsOf, provesB, refutesB, someB, onB, offB, pD, k1, k2]
    · simp [rsOf, provesB, refutesB, someB, onB, offB, pD, k1, k2]) 65 1 (.inl rfl)
  have h2 : (derivedB lits pD).2 1 = 0 := h
  unfold answerB
  rw [h2, checkD]
  rfl
theorem t6 : answerB lits pE 0 = (0, 1) := by unfold answerB; rw [checkE0]; rfl
theorem t7 : acceptsB lits pE [⟨7, 0, false⟩, ⟨-7, 0, false⟩] = (true, 0) := by kernel_rfl
theorem t8 : acceptsB lits pE [⟨7, 0, false⟩, ⟨7, 0, false⟩] = (false, 0) := by kernel_rfl
theorem t9 : strictB lits pC = ([-2, 1], 0) := by kernel_rfl
theorem t10 : checkB lits ⟨[-3, 3], []⟩ = 510 := by kernel_rfl
theorem t11 : checkB lits ⟨List.replicate 65 0, []⟩ = 2 := by kernel_rfl
set_option maxHeartbeats 1000000 in
theorem t12 : ∃ D, D.length = 64 ∧ deriveB lits pE = (D, 0) := by
  have h1 : roundOf pE (strictOf pE).contains (deriveN pE (strictOf pE).contains lits 1).2 lits = [] := by kernel_rfl
  have h0 : (roundOf pE (strictOf pE).contains (deriveN pE (strictOf pE).contains lits 0).2 lits).length = 64 := by kernel_rfl
  have h2 := deriveOf_eq (p := pE) (S := (strictOf pE).contains) (L := lits) (by simp [lits]) h1 (fun m hm => by
    obtain rfl : m = 0 := by omega
    intro h
    rw [h] at h0
    cases h0)
  refine ⟨(deriveOf pE (strictOf pE).contains lits).1, ?_, by unfold deriveB; rw [checkE0]; rfl⟩
  rw [← h2]
  exact h0
end Go.Proofs.Ythdgmimhaidmnaa
