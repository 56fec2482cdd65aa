/- The lists that hitting returns, in plain Lean: increasing, each once. -/
import Derived.Test.YtcmdkccncfleoaaLb
namespace Go.Proofs.Ytcmdkccncfleoaa
set_option linter.unusedSimpArgs false
set_option linter.unusedVariables false
theorem nat_ext : ∀ {l m : List Nat}, l.Pairwise (· < ·) → m.Pairwise (· < ·) → (∀ y, y ∈ l ↔ y ∈ m) → l = m
  | [], [], _, _, _ => rfl
  | [], y :: m, _, _, h => absurd ((h y).2 (by simp)) (by simp)
  | x :: l, [], _, _, h => absurd ((h x).1 (by simp)) (by simp)
  | x :: l, y :: m, hl, hm, h => by
    rw [List.pairwise_cons] at hl hm
    have hxy : x = y := by
      rcases List.mem_cons.1 ((h x).1 (by simp)) with e | h1
      · exact e
      · rcases List.mem_cons.1 ((h y).2 (by simp)) with e | h2
        · exact e.symm
        · have := hm.1 x h1; have := hl.1 y h2; omega
    subst hxy
    rw [nat_ext hl.2 hm.2 fun z => ?_]
    constructor
    · intro hz
      rcases List.mem_cons.1 ((h z).1 (by simp [hz])) with rfl | h1
      · have := hl.1 z hz; omega
      · exact h1
    · intro hz
      rcases List.mem_cons.1 ((h z).2 (by simp [hz])) with rfl | h1
      · have := hm.1 z hz; omega
      · exact h1
theorem range_up (n : Nat) : (List.range n).Pairwise (· < ·) := List.pairwise_lt_range
/-- The minimal hitting sets. -/
def minB (F : List Nat) (n h : Nat) : Bool := hitB F h && (List.range n).all fun i => !(h.testBit i && hitB F (wout h i))
def trL (F : List Nat) (n : Nat) : List Nat := (List.range (2 ^ n)).filter (minB F n)
theorem trL_up (F : List Nat) (n : Nat) : (trL F n).Pairwise (· < ·) := (range_up _).sublist List.filter_sublist
theorem hit_out {F : List Nat} {n m i : Nat} (hF : ∀ s ∈ F, s < 2 ^ n) (hm : HitF F m) (hi : m.testBit i = true) (hn : n ≤ i) : HitF F (wout m i) := fun s hs => by
  obtain ⟨j, h1, h2⟩ := hm s hs
  refine ⟨j, h1, ?_⟩
  have := bit_lt (hF s hs) h1
  rw [wout_bit hi, h2]
  have : i ≠ j := by omega
  simp [this]
theorem min_lt {F : List Nat} {n m : Nat} (hF : ∀ s ∈ F, s < 2 ^ n) (hm : IsMin (HitF F) m) : m < 2 ^ n := lt_bits fun i hi => by
  apply Classical.byContradiction
  intro hc
  exact (min_one.1 hm).2 i hi (hit_out hF hm.1 hi (by omega))
theorem minB_iff {F : List Nat} {n h : Nat} (hF : ∀ s ∈ F, s < 2 ^ n) : minB F n h = true ↔ IsMin (HitF F) h ∨ (minB F n h = true ∧ 2 ^ n ≤ h) := by
  constructor
  · intro hm
    by_cases hl : 2 ^ n ≤ h
    · exact .inr ⟨hm, hl⟩
    · left
      unfold minB at hm
      rw [Bool.and_eq_true, List.all_eq_true] at hm
      refine min_one.2 ⟨hitB_iff.1 hm.1, fun i hi hh => ?_⟩
      have := hm.2 i (List.mem_range.2 (bit_lt (by omega) hi))
      rw [hi, hitB_iff.2 hh] at this; cases this
  · rintro (hm | ⟨hm, _⟩)
    · unfold minB
      rw [Bool.and_eq_true, List.all_eq_true]
      refine ⟨hitB_iff.2 hm.1, fun i _ => ?_⟩
      cases hi : h.testBit i with
      | false => rfl
      | true =>
        cases hh : hitB F (wout h i) with
        | false => rfl
        | true => exact absurd (hitB_iff.1 hh) ((min_one.1 hm).2 i hi)
    · exact hm
theorem trL_mem {F : List Nat} {n : Nat} (hF : ∀ s ∈ F, s < 2 ^ n) (m : Nat) : m ∈ trL F n ↔ IsMin (HitF F) m := by
  unfold trL
  rw [List.mem_filter, List.mem_range]
  constructor
  · rintro ⟨h1, h2⟩
    rcases (minB_iff hF).1 h2 with h | ⟨_, h⟩
    · exact h
    · omega
  · intro h; exact ⟨min_lt hF h, (minB_iff hF).2 (.inl h)⟩
/-- The sets without a proper subset in the list. -/
def leastB (F : List Nat) (s : Nat) : Bool := F.contains s && F.all fun t => !(t != s && subB t s)
def redL (F : List Nat) (n : Nat) : List Nat := (List.range (2 ^ n)).filter (leastB F)
theorem redL_up (F : List Nat) (n : Nat) : (redL F n).Pairwise (· < ·) := (range_up _).sublist List.filter_sublist
theorem leastB_iff {F : List Nat} {s : Nat} : leastB F s = true ↔ MinIn F s := by
  unfold leastB MinIn
  rw [Bool.and_eq_true, List.all_eq_true, List.contains_iff_mem]
  constructor
  · rintro ⟨h1, h2⟩
    refine ⟨h1, fun c hc hs => ?_⟩
    have := h2 c hc
    rw [subB_iff.2 hs, Bool.and_true, Bool.not_eq_true'] at this
    simpa using this
  · rintro ⟨h1, h2⟩
    refine ⟨h1, fun c hc => ?_⟩
    cases hs : subB c s with
    | false => simp
    | true => have := h2 c hc (subB_iff.1 hs); simp [this]
theorem redL_mem {F : List Nat} {n : Nat} (hF : ∀ s ∈ F, s < 2 ^ n) (m : Nat) : m ∈ redL F n ↔ MinIn F m := by
  unfold redL
  rw [List.mem_filter, List.mem_range, leastB_iff]
  exact ⟨fun h => h.2, fun h => ⟨hF m h.1, h⟩⟩
/-- A further set: what the program makes of the minimal hitting sets so far. -/
def nextL (l : List Nat) (s n : Nat) : List Nat := l.filter (fun h => metB h s) ++ (l.filter fun h => !metB h s).flatMap fun h => ((List.range n).filter fun i => s.testBit i).map fun i => withN h i
theorem nextL_mem {l : List Nat} {s n : Nat} (hs : s < 2 ^ n) (c : Nat) : c ∈ nextL l s n ↔ (c ∈ l ∧ Met c s) ∨ ∃ h i, h ∈ l ∧ ¬ Met h s ∧ s.testBit i = true ∧ c = withN h i := by
  unfold nextL
  rw [List.mem_append, List.mem_filter, metB_iff, List.mem_flatMap]
  constructor
  · rintro (h | ⟨h, h1, h2⟩)
    · exact .inl h
    · obtain ⟨i, h3, h4⟩ := List.mem_map.1 h2
      rw [List.mem_filter] at h1 h3
      refine .inr ⟨h, i, h1.1, fun hm => ?_, h3.2, h4.symm⟩
      rw [metB_iff.2 hm] at h1; exact absurd h1.2 (by simp)
  · rintro (h | ⟨h, i, h1, h2, h3, h4⟩)
    · exact .inl h
    · refine .inr ⟨h, List.mem_filter.2 ⟨h1, ?_⟩, List.mem_map.2 ⟨i, List.mem_filter.2 ⟨List.mem_range.2 (bit_lt hs h3), h3⟩, h4.symm⟩⟩
      cases hm : metB h s with
      | false => rfl
      | true => exact absurd (metB_iff.1 hm) h2
theorem nextL_lt {l : List Nat} {s n : Nat} (hl : ∀ h ∈ l, h < 2 ^ n) (hs : s < 2 ^ n) : ∀ c ∈ nextL l s n, c < 2 ^ n := fun c hc => by
  rcases (nextL_mem hs c).1 hc with ⟨h, _⟩ | ⟨h, i, h1, _, h3, rfl⟩
  · exact hl c h
  · exact with_lt (hl h h1) (bit_lt hs h3)
theorem tr_step {F : List Nat} {n s : Nat} (hF : ∀ s ∈ F, s < 2 ^ n) (hs : s < 2 ^ n) : redL (nextL (trL F n) s n) n = trL (F ++ [s]) n := by
  have hF2 : ∀ t ∈ F ++ [s], t < 2 ^ n := fun t ht => by
    rcases List.mem_append.1 ht with ht | ht
    · exact hF t ht
    · rw [List.mem_singleton] at ht; subst ht; exact hs
  have hl : ∀ h ∈ trL F n, h < 2 ^ n := fun h hh => min_lt hF ((trL_mem hF h).1 hh)
  refine nat_ext (redL_up _ _) (trL_up _ _) fun m => ?_
  rw [redL_mem (nextL_lt hl hs), trL_mem hF2]
  exact (berge_step (trL_mem hF) (nextL_mem hs) m).symm
theorem tr_none (n : Nat) : trL [] n = [0] := by
  refine nat_ext (trL_up _ _) (by simp) fun m => ?_
  rw [trL_mem (fun s hs => (by cases hs)), berge_zero]
theorem tr_same {F G : List Nat} {n : Nat} (hF : ∀ s ∈ F, s < 2 ^ n) (hG : ∀ s ∈ G, s < 2 ^ n) (h : ∀ x, HitF F x ↔ HitF G x) : trL F n = trL G n := by
  refine nat_ext (trL_up _ _) (trL_up _ _) fun m => ?_
  rw [trL_mem hF, trL_mem hG]
  unfold IsMin
  rw [h m]
  constructor
  · exact fun k => ⟨k.1, fun g hg => k.2 g ((h g).2 hg)⟩
  · exact fun k => ⟨k.1, fun g hg => k.2 g ((h g).1 hg)⟩
theorem tr_red {F : List Nat} {n : Nat} (hF : ∀ s ∈ F, s < 2 ^ n) : trL (redL F n) n = trL F n :=
  tr_same (fun s hs => hF s ((redL_mem hF s).1 hs).1) hF fun x => hit_min (redL_mem hF) x
theorem tr_twice {F : List Nat} {n : Nat} (hF : ∀ s ∈ F, s < 2 ^ n) : trL (trL F n) n = redL F n := by
  have hT : ∀ s ∈ trL F n, s < 2 ^ n := fun s hs => min_lt hF ((trL_mem hF s).1 hs)
  refine nat_ext (trL_up _ _) (redL_up _ _) fun m => ?_
  rw [trL_mem hT, redL_mem hF]
  exact min_twice hF (trL_mem hF) m
/-- The cores and the maximal sets of a table. -/
def coreB (n : Nat) (t : Nat → Bool) (s : Nat) : Bool := !t s && (List.range n).all fun i => !(s.testBit i && !t (wout s i))
def maxiB (n : Nat) (t : Nat → Bool) (s : Nat) : Bool := t s && (List.range n).all fun i => !(!s.testBit i && t (withN s i))
def coresL (n : Nat) (t : Nat → Bool) : List Nat := (List.range (2 ^ n)).filter (coreB n t)
def maxisL (n : Nat) (t : Nat → Bool) : List Nat := (List.range (2 ^ n)).filter (maxiB n t)
theorem coresL_mem {n : Nat} {t : Nat → Bool} (c : Nat) : c ∈ coresL n t ↔ Core n t c := by
  unfold coresL Core coreB
  rw [List.mem_filter, List.mem_range, Bool.and_eq_true, List.all_eq_true, Bool.not_eq_true']
  constructor
  · rintro ⟨h1, h2, h3⟩
    refine ⟨h1, h2, fun i hi => ?_⟩
    have := h3 i (List.mem_range.2 (bit_lt h1 hi))
    rw [hi] at this
    simpa using this
  · rintro ⟨h1, h2, h3⟩
    refine ⟨h1, h2, fun i _ => ?_⟩
    cases hi : c.testBit i with
    | false => rfl
    | true => rw [h3 i hi]; rfl
theorem maxisL_mem {n : Nat} {t : Nat → Bool} (c : Nat) : c ∈ maxisL n t ↔ Maxi n t c := by
  unfold maxisL Maxi maxiB
  rw [List.mem_filter, List.mem_range, Bool.and_eq_true, List.all_eq_true]
  constructor
  · rintro ⟨h1, h2, h3⟩
    refine ⟨h1, h2, fun i hi hb => ?_⟩
    have := h3 i (List.mem_range.2 hi)
    rw [hb] at this
    simpa using this
  · rintro ⟨h1, h2, h3⟩
    refine ⟨h1, h2, fun i hi => ?_⟩
    cases hb : c.testBit i with
    | true => rfl
    | false => rw [h3 i (List.mem_range.1 hi) hb]; rfl
/-- Shrink: elements are left out as long as the value stays false. -/
def shrinkS (t : Nat → Bool) (s : Nat) (i : Nat) : Nat := if s.testBit i && !t (wout s i) then wout s i else s
def shrinkN (t : Nat → Bool) (s : Nat) : Nat → Nat
  | 0 => s
  | n + 1 => shrinkS t (shrinkN t s n) n
theorem shrink_says {n : Nat} {t : Nat → Bool} (hm : Mono n t) {s : Nat} (hs : s < 2 ^ n) (ht : t s = false) : ∀ k, Sub (shrinkN t s k) s ∧ t (shrinkN t s k) = false ∧ (∀ j, k ≤ j → (shrinkN t s k).testBit j = s.testBit j) ∧ ∀ j, j < k → (shrinkN t s k).testBit j = true → t (wout (shrinkN t s k) j) = true
  | 0 => ⟨Sub.refl s, ht, fun _ _ => rfl, fun j h => by omega⟩
  | k + 1 => by
    obtain ⟨h1, h2, h3, h4⟩ := shrink_says hm hs ht k
    rw [shrinkN]
    unfold shrinkS
    split
    · rename_i hc
      simp only [Bool.and_eq_true, Bool.not_eq_true'] at hc
      have hw := wout_sub hc.1
      refine ⟨hw.trans h1, hc.2, fun j hj => ?_, fun j hj hb => ?_⟩
      · rw [wout_bit hc.1, ← h3 j (by omega)]
        have : k ≠ j := by omega
        simp [this]
      · have hb2 := hw j hb
        have hjk : j < k := by
          apply Classical.byContradiction
          intro hn
          have e : j = k := by omega
          subst e
          rw [wout_bit hc.1] at hb; simp at hb
        refine mono_sub hm (sub_lt ((wout_sub hb2).trans h1) hs) (h4 j hjk hb2) fun x hx => ?_
        rw [wout_bit hb, Bool.and_eq_true] at hx
        rw [wout_bit hb2, hw x hx.1, hx.2]; rfl
    · rename_i hc
      refine ⟨h1, h2, fun j hj => h3 j (by omega), fun j hj hb => ?_⟩
      by_cases hjk : j < k
      · exact h4 j hjk hb
      · have e : j = k := by omega
        subst e
        cases hx : t (wout (shrinkN t s j) j) with
        | true => rfl
        | false => rw [hb, hx] at hc; exact absurd rfl hc
theorem shrink_core {n : Nat} {t : Nat → Bool} (hm : Mono n t) {s : Nat} (hs : s < 2 ^ n) (ht : t s = false) : Core n t (shrinkN t s n) ∧ Sub (shrinkN t s n) s := by
  obtain ⟨h1, h2, h3, h4⟩ := shrink_says hm hs ht n
  exact ⟨⟨sub_lt h1 hs, h2, fun i hi => h4 i (bit_lt (sub_lt h1 hs) hi) hi⟩, h1⟩
end Go.Proofs.Ytcmdkccncfleoaa
