/- EnsembleOrder: the plain law (the walk is not here yet). -/
import Derived.Test.YtimeggaignfhgaaEn
namespace Go.Proofs.Ytimeggaignfhgaa
set_option linter.unusedSimpArgs false
set_option linter.unusedVariables false

theorem sorted_le {l : List Int} (h : l.Pairwise (· ≤ ·)) {i j : Nat} {a b : Int} (hij : i ≤ j) (ha : l[i]? = some a) (hb : l[j]? = some b) : a ≤ b := by
  obtain ⟨h1, h2⟩ := List.getElem?_eq_some_iff.1 ha
  obtain ⟨h3, h4⟩ := List.getElem?_eq_some_iff.1 hb
  by_cases e : i = j
  · subst e; rw [h2] at h4; omega
  · have := List.pairwise_iff_getElem.1 h i j h1 h3 (by omega)
    omega
theorem any_perm {α : Type} {p : α → Bool} {l m : List α} (h : l.Perm m) : l.any p = m.any p := by
  rw [Bool.eq_iff_iff, List.any_eq_true, List.any_eq_true]
  exact ⟨fun ⟨x, h1, h2⟩ => ⟨x, h.mem_iff.1 h1, h2⟩, fun ⟨x, h1, h2⟩ => ⟨x, h.mem_iff.2 h1, h2⟩⟩
theorem sortI_congr {l m : List Int} (h : l.Perm m) : sortI l = sortI m :=
  List.Perm.eq_of_pairwise (le := (· ≤ ·)) (fun a b _ _ h k => by omega) (sortI_sorted l) (sortI_sorted m) (((sortI_perm l).trans h).trans (sortI_perm m).symm)
theorem trimE_congr {l m : List Int} (h : l.Perm m) (low high : Nat) : trimE l low high = trimE m low high := by
  unfold trimE; rw [sortI_congr h, h.length_eq]
theorem valid_iff (x : En) : validE x = true ↔ (¬ x.body < 0 ∧ ¬ 63 < x.body ∧ ¬ x.made < 0 ∧ ¬ 1099511627776 < x.made) ∧ x.members ≠ [] ∧ ∃ n, n ≠ 0 ∧ ∀ m ∈ x.members, m.length = n ∧ m.any litB = false := by
  simp only [validE, badH, Bool.and_eq_true, Bool.not_eq_true', Bool.or_eq_false_iff, decide_eq_false_iff_not, beq_eq_false_iff_ne, List.any_eq_false, badRow, Bool.or_eq_true, bne_iff_ne, not_or, Decidable.not_not, Bool.not_eq_true]
  constructor
  · rintro ⟨⟨⟨⟨⟨⟨h1, h2⟩, h3⟩, h4⟩, h5⟩, h6⟩, h7⟩
    refine ⟨⟨h1, h2, h3, h4⟩, fun e => h5 (by rw [e]; rfl), (hd x.members).length, by omega, fun m hm => ?_⟩
    have := h7 m hm
    exact ⟨by omega, by simpa using this.2⟩
  · rintro ⟨⟨h1, h2, h3, h4⟩, h5, n, h6, h7⟩
    have hne : ¬ x.members.length = 0 := fun e => h5 (List.eq_nil_of_length_eq_zero e)
    have hh := h7 _ (List.mem_of_getElem? (hd_get hne))
    refine ⟨⟨⟨⟨⟨⟨h1, h2⟩, h3⟩, h4⟩, by omega⟩, by omega⟩, fun m hm => ?_⟩
    have := h7 m hm
    exact ⟨by omega, by simpa using this.2⟩
structure EnPerm (x y : En) : Prop where
  body : x.body = y.body
  made : x.made = y.made
  perm : x.members.Perm y.members
theorem EnPerm.valid {x y : En} (h : EnPerm x y) : validE x = validE y := by
  rw [Bool.eq_iff_iff, valid_iff, valid_iff, h.body, h.made]
  have e : x.members ≠ [] ↔ y.members ≠ [] := by
    have hl := h.perm.length_eq
    cases hx : x.members <;> cases hy : y.members <;> simp_all
  rw [e]
  constructor
  · rintro ⟨h1, h2, n, h3, h4⟩; exact ⟨h1, h2, n, h3, fun m hm => h4 m (h.perm.mem_iff.2 hm)⟩
  · rintro ⟨h1, h2, n, h3, h4⟩; exact ⟨h1, h2, n, h3, fun m hm => h4 m (h.perm.mem_iff.1 hm)⟩
theorem EnPerm.check {x y : En} (h : EnPerm x y) : checkE x = checkE y := by
  rw [checkE_valid, checkE_valid, h.valid]
  have : limE x = limE y := by unfold limE; rw [h.perm.length_eq, any_perm h.perm]
  rw [this]
theorem colV_map (x : En) (k : Nat) (v : En → Nat → Nat → Int) (f : Nat → List Int → Int) (hv : ∀ i m, x.members[i]? = some m → v x k i = f k m) : colV (v x) k x.members.length = x.members.map (f k) := by
  apply List.ext_getElem?
  intro i
  by_cases hi : i < x.members.length
  · have := hv i _ (List.getElem?_eq_getElem hi)
    simp [colV, hi, this]
  · simp [colV, hi]
theorem EnPerm.both {x y : En} (h : EnPerm x y) (low high : Int) (v : En → Nat → Nat → Int) (f : Nat → List Int → Int) (hv : ∀ x k i m, x.members[i]? = some m → v x k i = f k m) : bothE x low high v = bothE y low high v := by
  have hb : badC x low high = badC y low high := by unfold badC argBad; rw [h.check, h.perm.length_eq]
  unfold bothE
  rw [hb]
  split
  · rename_i h0
    have hy := badC_zero h0
    have hx := badC_zero (hb.trans h0)
    have e : (hd x.members).length = (hd y.members).length := by
      have hm : hd x.members ∈ x.members := List.mem_of_getElem? (hd_get (by omega))
      exact (check_rows hy.1 _ (h.perm.mem_iff.1 hm)).1
    rw [e]
    congr 1
    unfold rgV
    refine List.map_congr_left fun k _ => ?_
    rw [colV_map x k v f (hv x k), colV_map y k v f (hv y k)]
    exact trimE_congr (h.perm.map _) _ _
  · rfl
theorem EnPerm.both1 {x y : En} (h : EnPerm x y) (low high : Int) : bothE x low high val1 = bothE y low high val1 := h.both low high val1 (fun k m => m[k]?.getD 0) (fun x k i m hm => by simp [val1, hm])
theorem EnPerm.both2 {x y : En} (h : EnPerm x y) (low high : Int) : bothE x low high val2 = bothE y low high val2 := h.both low high val2 (fun k m => (m.take (k + 1)).sum) (fun x k i m hm => by simp [val2, hm])
end Go.Proofs.Ytimeggaignfhgaa
