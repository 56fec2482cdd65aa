/- Monotone tables: cores, maximal sets, and how they hit each other: plain Lean. -/
import Derived.Test.YtcmdkccncfleoaaLa
namespace Go.Proofs.Ytcmdkccncfleoaa
set_option linter.unusedSimpArgs false
set_option linter.unusedVariables false
theorem bit_lt {a n i : Nat} (h : a < 2 ^ n) (hi : a.testBit i = true) : i < n := by
  apply Classical.byContradiction
  intro hc
  have := Nat.testBit_lt_two_pow (Nat.lt_of_lt_of_le h (Nat.pow_le_pow_right (by decide) (Nat.le_of_not_lt hc)))
  rw [this] at hi; cases hi
theorem lt_bits {a n : Nat} (h : ∀ i, a.testBit i = true → i < n) : a < 2 ^ n := by
  apply Classical.byContradiction
  intro hc
  obtain ⟨i, h1, h2⟩ := Nat.exists_ge_and_testBit_of_ge_two_pow (Nat.le_of_not_lt hc)
  have := h i h2
  omega
theorem sub_lt {a b n : Nat} (h : Sub a b) (hb : b < 2 ^ n) : a < 2 ^ n := Nat.lt_of_le_of_lt h.le hb
theorem with_lt {h i n : Nat} (hh : h < 2 ^ n) (hi : i < n) : withN h i < 2 ^ n := lt_bits fun j hj => by
  rw [with_bit, Bool.or_eq_true, decide_eq_true_eq] at hj
  rcases hj with hj | rfl
  · exact bit_lt hh hj
  · exact hi
/-- The elements of a universe that a set lacks. -/
def compl (n s : Nat) : Nat := (2 ^ n - 1) ^^^ s
theorem compl_bit {n s : Nat} (hs : s < 2 ^ n) (i : Nat) : (compl n s).testBit i = (decide (i < n) && !s.testBit i) := by
  unfold compl
  rw [Nat.testBit_xor, Nat.testBit_two_pow_sub_one]
  by_cases hi : i < n
  · simp [hi]
  · have : s.testBit i = false := by
      cases h : s.testBit i with
      | false => rfl
      | true => exact absurd (bit_lt hs h) hi
    simp [hi, this]
theorem compl_eq {n s : Nat} (hs : s < 2 ^ n) : compl n s = 2 ^ n - 1 - s := by
  unfold compl
  apply Nat.eq_of_testBit_eq
  intro i
  rw [show 2 ^ n - 1 - s = 2 ^ n - (s + 1) by omega, Nat.testBit_two_pow_sub_succ hs, Nat.testBit_xor, Nat.testBit_two_pow_sub_one]
  by_cases hi : i < n
  · simp [hi]
  · have : s.testBit i = false := by
      cases h : s.testBit i with
      | false => rfl
      | true => exact absurd (bit_lt hs h) hi
    simp [hi, this]
theorem compl_lt {n s : Nat} (hs : s < 2 ^ n) : compl n s < 2 ^ n := lt_bits fun i hi => by
  rw [compl_bit hs, Bool.and_eq_true, decide_eq_true_eq] at hi; exact hi.1
/-- A set misses the complement of another one exactly if it is its subset. -/
theorem met_compl {n s m : Nat} (hm : m < 2 ^ n) (hs : s < 2 ^ n) : Met (compl n m) s ↔ ¬ Sub s m := by
  constructor
  · rintro ⟨i, h1, h2⟩ h
    rw [compl_bit hm, h i h2] at h1
    simp at h1
  · intro h
    apply Classical.byContradiction
    intro hn
    apply h
    intro i hi
    cases hmi : m.testBit i with
    | true => rfl
    | false => exact absurd ⟨i, by rw [compl_bit hm, hmi, decide_eq_true (bit_lt hs hi)]; rfl, hi⟩ hn
/-- A table of which the sets with true are closed downwards. -/
def Mono (n : Nat) (t : Nat → Bool) : Prop := ∀ s, s < 2 ^ n → t s = true → ∀ i, s.testBit i = true → t (wout s i) = true
theorem mono_sub {n : Nat} {t : Nat → Bool} (h : Mono n t) : ∀ {b a : Nat}, b < 2 ^ n → t b = true → Sub a b → t a = true := by
  intro b
  induction b using Nat.strongRecOn with
  | _ b ih =>
    intro a hb ht hs
    by_cases e : a = b
    · subst e; exact ht
    · obtain ⟨i, h1, h2⟩ : ∃ i, b.testBit i = true ∧ a.testBit i = false := by
        apply Classical.byContradiction
        intro hc
        apply e
        refine hs.anti fun i hi => ?_
        cases hai : a.testBit i with
        | true => rfl
        | false => exact absurd ⟨i, hi, hai⟩ hc
      have hw := wout_sub h1
      have hne : wout b i ≠ b := fun e => by
        have := wout_bit h1 i
        rw [e, h1] at this; simp at this
      refine ih (wout b i) (hw.lt hne) (sub_lt hw hb) (h b hb ht i h1) fun j hj => ?_
      rw [wout_bit h1, hs j hj]
      have : i ≠ j := fun e => by subst e; rw [h2] at hj; cases hj
      simp [this]
/-- Minimal with false; maximal with true. -/
def Core (n : Nat) (t : Nat → Bool) (s : Nat) : Prop := s < 2 ^ n ∧ t s = false ∧ ∀ i, s.testBit i = true → t (wout s i) = true
def Maxi (n : Nat) (t : Nat → Bool) (s : Nat) : Prop := s < 2 ^ n ∧ t s = true ∧ ∀ i, i < n → s.testBit i = false → t (withN s i) = false
theorem core_below {n : Nat} {t : Nat → Bool} : ∀ {s : Nat}, s < 2 ^ n → t s = false → ∃ c, Core n t c ∧ Sub c s := by
  intro s
  induction s using Nat.strongRecOn with
  | _ s ih =>
    intro hs ht
    by_cases h : ∃ i, s.testBit i = true ∧ t (wout s i) = false
    · obtain ⟨i, h1, h2⟩ := h
      have hw := wout_sub h1
      have hne : wout s i ≠ s := fun e => by
        have := wout_bit h1 i
        rw [e, h1] at this; simp at this
      obtain ⟨c, h3, h4⟩ := ih _ (hw.lt hne) (sub_lt hw hs) h2
      exact ⟨c, h3, h4.trans hw⟩
    · refine ⟨s, ⟨hs, ht, fun i hi => ?_⟩, Sub.refl s⟩
      cases hc : t (wout s i) with
      | true => rfl
      | false => exact absurd ⟨i, hi, hc⟩ h
theorem maxi_above {n : Nat} {t : Nat → Bool} : ∀ (k s : Nat), 2 ^ n - s ≤ k → s < 2 ^ n → t s = true → ∃ m, Maxi n t m ∧ Sub s m
  | 0, s, hk, hs, _ => by omega
  | k + 1, s, hk, hs, ht => by
    by_cases h : ∃ i, i < n ∧ s.testBit i = false ∧ t (withN s i) = true
    · obtain ⟨i, h1, h2, h3⟩ := h
      have hw := sub_with s i
      have hne : s ≠ withN s i := fun e => by
        have := with_bit s i i
        rw [← e, h2] at this; simp at this
      have hlt := hw.lt hne
      obtain ⟨m, h4, h5⟩ := maxi_above k (withN s i) (by omega) (with_lt hs h1) h3
      exact ⟨m, h4, hw.trans h5⟩
    · refine ⟨s, ⟨hs, ht, fun i hi hb => ?_⟩, Sub.refl s⟩
      cases hc : t (withN s i) with
      | false => rfl
      | true => exact absurd ⟨i, hi, hb, hc⟩ h
/-- A set has the value true exactly if it lies in a maximal one, exactly if it has no core. -/
theorem true_maxi {n : Nat} {t : Nat → Bool} (hm : Mono n t) {s : Nat} (hs : s < 2 ^ n) : t s = true ↔ ∃ m, Maxi n t m ∧ Sub s m := by
  constructor
  · intro h; exact maxi_above _ s (Nat.le_refl _) hs h
  · rintro ⟨m, h1, h2⟩; exact mono_sub hm h1.1 h1.2.1 h2
theorem false_core {n : Nat} {t : Nat → Bool} (hm : Mono n t) {s : Nat} (hs : s < 2 ^ n) : t s = false ↔ ∃ c, Core n t c ∧ Sub c s := by
  constructor
  · intro h; exact core_below hs h
  · rintro ⟨c, h1, h2⟩
    cases ht : t s with
    | false => rfl
    | true => have h3 := h1.2.1; rw [mono_sub hm hs ht h2] at h3; exact h3
theorem core_anti {n : Nat} {t : Nat → Bool} (hm : Mono n t) {c d : Nat} (hc : Core n t c) (hd : Core n t d) (h : Sub c d) : c = d := by
  apply Classical.byContradiction
  intro e
  obtain ⟨i, h1, h2⟩ : ∃ i, d.testBit i = true ∧ c.testBit i = false := by
    apply Classical.byContradiction
    intro hn
    apply e
    refine h.anti fun i hi => ?_
    cases hai : c.testBit i with
    | true => rfl
    | false => exact absurd ⟨i, hi, hai⟩ hn
  have h3 := mono_sub hm (sub_lt (wout_sub h1) hd.1) (hd.2.2 i h1) (a := c) fun j hj => by
    rw [wout_bit h1, h j hj]
    have : i ≠ j := fun e => by subst e; rw [h2] at hj; cases hj
    simp [this]
  rw [hc.2.1] at h3; cases h3
theorem maxi_anti {n : Nat} {t : Nat → Bool} (hm : Mono n t) {a b : Nat} (ha : Maxi n t a) (hb : Maxi n t b) (h : Sub a b) : a = b := by
  apply Classical.byContradiction
  intro e
  obtain ⟨i, h1, h2⟩ : ∃ i, b.testBit i = true ∧ a.testBit i = false := by
    apply Classical.byContradiction
    intro hn
    apply e
    refine h.anti fun i hi => ?_
    cases hai : a.testBit i with
    | true => rfl
    | false => exact absurd ⟨i, hi, hai⟩ hn
  have h3 := mono_sub hm hb.1 hb.2.1 (with_sub h h1)
  rw [ha.2.2 i (bit_lt hb.1 h1) h2] at h3; cases h3
/-- The cores are the minimal hitting sets of the complements of the maximal sets. -/
theorem dual_cores {n : Nat} {t : Nat → Bool} (hm : Mono n t) {O C : List Nat} (hO : ∀ x, x ∈ O ↔ ∃ m, Maxi n t m ∧ x = compl n m) (hC : ∀ c, c ∈ C ↔ Core n t c) (x : Nat) : IsMin (HitF O) x ↔ x ∈ C := by
  have key : ∀ s, s < 2 ^ n → (HitF O s ↔ t s = false) := fun s hs => by
    constructor
    · intro h
      cases ht : t s with
      | false => rfl
      | true =>
        obtain ⟨m, h1, h2⟩ := (true_maxi hm hs).1 ht
        exact absurd h2 ((met_compl h1.1 hs).1 (h _ ((hO _).2 ⟨m, h1, rfl⟩)))
    · intro h z hz
      obtain ⟨m, h1, rfl⟩ := (hO z).1 hz
      refine (met_compl h1.1 hs).2 fun hsub => ?_
      rw [mono_sub hm h1.1 h1.2.1 hsub] at h; cases h
  rw [min_gen (C := C) (fun c hc => (key c ((hC c).1 hc).1).2 ((hC c).1 hc).2.1) (fun u hu => ?_) x]
  · constructor
    · exact fun h => h.1
    · exact fun h => ⟨h, fun c hc hs => core_anti hm ((hC c).1 hc) ((hC x).1 h) hs⟩
  · -- what lies in the universe hits, too
    have hu2 : HitF O (u &&& (2 ^ n - 1)) := fun z hz => by
      obtain ⟨m, h1, rfl⟩ := (hO z).1 hz
      obtain ⟨i, h2, h3⟩ := hu _ hz
      refine ⟨i, h2, ?_⟩
      rw [Nat.testBit_and, h3, Nat.testBit_two_pow_sub_one, decide_eq_true (bit_lt (compl_lt h1.1) h2)]; rfl
    have hlt : u &&& (2 ^ n - 1) < 2 ^ n := lt_bits fun i hi => by
      rw [Nat.testBit_and, Nat.testBit_two_pow_sub_one] at hi
      simp at hi; exact hi.2
    obtain ⟨c, h1, h2⟩ := core_below hlt ((key _ hlt).1 hu2)
    refine ⟨c, (hC c).2 h1, h2.trans fun i hi => ?_⟩
    rw [Nat.testBit_and, Bool.and_eq_true] at hi; exact hi.1
/-- And the complements of the maximal sets are those of the cores. -/
theorem dual_maxi {n : Nat} {t : Nat → Bool} (hm : Mono n t) {O C : List Nat} (hO : ∀ x, x ∈ O ↔ ∃ m, Maxi n t m ∧ x = compl n m) (hC : ∀ c, c ∈ C ↔ Core n t c) (x : Nat) : IsMin (HitF C) x ↔ x ∈ O := by
  have hF : ∀ s ∈ O, s < 2 ^ n := fun s hs => by obtain ⟨m, h1, rfl⟩ := (hO s).1 hs; exact compl_lt h1.1
  rw [min_twice (F := O) (n := n) hF (fun m => (dual_cores hm hO hC m).symm) x]
  constructor
  · exact fun h => h.1
  · refine fun h => ⟨h, fun c hc hs => ?_⟩
    obtain ⟨m, h1, rfl⟩ := (hO c).1 hc
    obtain ⟨k, h2, rfl⟩ := (hO x).1 h
    have : Sub k m := fun i hi => by
      cases hmi : m.testBit i with
      | true => rfl
      | false =>
        have := hs i (by rw [compl_bit h1.1, hmi, decide_eq_true (bit_lt h2.1 hi)]; rfl)
        rw [compl_bit h2.1, hi] at this; simp at this
    rw [maxi_anti hm h2 h1 this]
end Go.Proofs.Ytcmdkccncfleoaa
