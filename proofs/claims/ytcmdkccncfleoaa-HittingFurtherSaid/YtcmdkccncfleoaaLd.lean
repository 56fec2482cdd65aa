/- What the laws of hitting say, in plain Lean. -/
import Derived.Test.YtcmdkccncfleoaaLc
namespace Go.Proofs.Ytcmdkccncfleoaa
set_option linter.unusedSimpArgs false
set_option linter.unusedVariables false
theorem compl_compl {n s : Nat} (hs : s < 2 ^ n) : compl n (compl n s) = s := by
  rw [compl_eq (compl_lt hs), compl_eq hs]; omega
/-- The complements of the maximal sets, and the cores, are each other's minimal hitting sets. -/
theorem dual_one {n : Nat} {t : Nat → Bool} (hm : Mono n t) : trL ((maxisL n t).map (compl n)) n = coresL n t := by
  have hO : ∀ x, x ∈ (maxisL n t).map (compl n) ↔ ∃ m, Maxi n t m ∧ x = compl n m := fun x => by
    rw [List.mem_map]
    constructor
    · rintro ⟨m, h1, h2⟩; exact ⟨m, (maxisL_mem m).1 h1, h2.symm⟩
    · rintro ⟨m, h1, h2⟩; exact ⟨m, (maxisL_mem m).2 h1, h2.symm⟩
  have hF : ∀ s ∈ (maxisL n t).map (compl n), s < 2 ^ n := fun s hs => by
    obtain ⟨m, h1, rfl⟩ := (hO s).1 hs; exact compl_lt h1.1
  refine nat_ext (trL_up _ _) ((range_up _).sublist List.filter_sublist) fun x => ?_
  rw [trL_mem hF]
  exact dual_cores hm hO coresL_mem x
theorem dual_two {n : Nat} {t : Nat → Bool} (hm : Mono n t) : trL (coresL n t) n = ((maxisL n t).map (compl n)).reverse := by
  have hO : ∀ x, x ∈ (maxisL n t).map (compl n) ↔ ∃ m, Maxi n t m ∧ x = compl n m := fun x => by
    rw [List.mem_map]
    constructor
    · rintro ⟨m, h1, h2⟩; exact ⟨m, (maxisL_mem m).1 h1, h2.symm⟩
    · rintro ⟨m, h1, h2⟩; exact ⟨m, (maxisL_mem m).2 h1, h2.symm⟩
  have hF : ∀ s ∈ coresL n t, s < 2 ^ n := fun s hs => ((coresL_mem s).1 hs).1
  refine nat_ext (trL_up _ _) ?_ fun x => ?_
  · rw [List.pairwise_reverse, List.pairwise_map]
    have hup : (maxisL n t).Pairwise (· < ·) := (range_up _).sublist List.filter_sublist
    refine hup.imp_of_mem fun {a b} ha hb hab => ?_
    have h1 := ((maxisL_mem a).1 ha).1
    have h2 := ((maxisL_mem b).1 hb).1
    rw [compl_eq h1, compl_eq h2]; omega
  · rw [trL_mem hF, List.mem_reverse]
    exact dual_maxi hm hO coresL_mem x
/-- The table of all subsets of some sets. -/
def closedT (tops : List Nat) (s : Nat) : Bool := tops.any fun t => subB s t
theorem closed_mono (n : Nat) (tops : List Nat) : Mono n (closedT tops) := fun s _ ht i hi => by
  unfold closedT at ht ⊢
  rw [List.any_eq_true] at ht ⊢
  obtain ⟨t, h1, h2⟩ := ht
  exact ⟨t, h1, subB_iff.2 ((wout_sub hi).trans (subB_iff.1 h2))⟩
/-- There are at most as many maximal sets as sets of which the subsets have the value true. -/
theorem nat_len : ∀ {m l : List Nat}, l.Nodup → (∀ x ∈ l, x ∈ m) → l.length ≤ m.length
  | m, [], _, _ => Nat.zero_le _
  | m, x :: l, hn, h => by
    rw [List.nodup_cons] at hn
    have hx := h x (by simp)
    have := nat_len (m := m.erase x) (l := l) hn.2 fun y hy => by
      have hne : y ≠ x := fun e => hn.1 (e ▸ hy)
      exact (List.mem_erase_of_ne hne).2 (h y (by simp [hy]))
    rw [List.length_erase_of_mem hx] at this
    have := List.length_pos_of_mem hx
    simp only [List.length_cons]; omega
theorem maxis_few {n : Nat} {tops : List Nat} (ht : ∀ t ∈ tops, t < 2 ^ n) : (maxisL n (closedT tops)).length ≤ tops.length := by
  have hup : (maxisL n (closedT tops)).Pairwise (· < ·) := (range_up _).sublist List.filter_sublist
  refine nat_len (hup.imp fun h => by omega) fun x hx => ?_
  have h := (maxisL_mem x).1 hx
  have h1 := h.2.1
  unfold closedT at h1
  obtain ⟨t, h2, h3⟩ := List.any_eq_true.1 h1
  have h4 : closedT tops t = true := List.any_eq_true.2 ⟨t, h2, subB_iff.2 (Sub.refl t)⟩
  have : x = t := by
    apply Classical.byContradiction
    intro e
    obtain ⟨i, h5, h6⟩ : ∃ i, t.testBit i = true ∧ x.testBit i = false := by
      apply Classical.byContradiction
      intro hn
      apply e
      refine (subB_iff.1 h3).anti fun i hi => ?_
      cases hai : x.testBit i with
      | true => rfl
      | false => exact absurd ⟨i, hi, hai⟩ hn
    have h7 := h.2.2 i (bit_lt (ht t h2) h5) h6
    have h8 : closedT tops (withN x i) = true := List.any_eq_true.2 ⟨t, h2, subB_iff.2 (with_sub (subB_iff.1 h3) h5)⟩
    rw [h8] at h7; cases h7
  rw [this]; exact h2
/-- Each set that hits has a minimal one as a subset. -/
theorem tr_below {F : List Nat} {n g : Nat} (hF : ∀ s ∈ F, s < 2 ^ n) (hg : HitF F g) : ∃ s ∈ trL F n, Sub s g := by
  obtain ⟨m, h1, h2⟩ := min_below hg
  exact ⟨m, (trL_mem hF m).2 h1, h2⟩
theorem tr_hits {F : List Nat} {n s : Nat} (hF : ∀ s ∈ F, s < 2 ^ n) (hs : s ∈ trL F n) : s < 2 ^ n ∧ HitF F s ∧ ∀ i, s.testBit i = true → ¬ HitF F (wout s i) := by
  have h := (trL_mem hF s).1 hs
  exact ⟨min_lt hF h, h.1, (min_one.1 h).2⟩
theorem tr_more {F : List Nat} {n x s : Nat} (hF : ∀ s ∈ F, s < 2 ^ n) (hx : x < 2 ^ n) (hs : s ∈ trL (F ++ [x]) n) : ∃ t ∈ trL F n, Sub t s := by
  have hF2 : ∀ t ∈ F ++ [x], t < 2 ^ n := fun t ht => by
    rcases List.mem_append.1 ht with ht | ht
    · exact hF t ht
    · rw [List.mem_singleton] at ht; subst ht; exact hx
  exact tr_below hF fun t ht => (tr_hits hF2 hs).2.1 t (List.mem_append_left _ ht)
theorem tr_turn {F : List Nat} {n x : Nat} (hF : ∀ s ∈ F, s < 2 ^ n) (hx : x ∈ F) : trL (x :: F.reverse) n = trL F n := by
  refine tr_same (fun s hs => ?_) hF fun g => ?_
  · rcases List.mem_cons.1 hs with rfl | hs
    · exact hF s hx
    · exact hF s (List.mem_reverse.1 hs)
  · constructor
    · exact fun h s hs => h s (List.mem_cons_of_mem _ (List.mem_reverse.2 hs))
    · intro h s hs
      rcases List.mem_cons.1 hs with rfl | hs
      · exact h s hx
      · exact h s (List.mem_reverse.1 hs)
end Go.Proofs.Ytcmdkccncfleoaa
