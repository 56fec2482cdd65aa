/- The calendar in plain Lean: months, dates, their numbers; no program in sight. -/
namespace Go.Proofs.YtccjolaolmpifaaDoor
set_option linter.unusedSimpArgs false
set_option linter.unusedVariables false

structure Dt where
  y : Int
  m : Int
  d : Int
  deriving Inhabited, DecidableEq

/-- Is it a leap year? -/
def leapB (y : Int) : Bool := y % 4 == 0 && y != 2100
/-- How many days has a month? -/
def lenM (y m : Int) : Int := if m = 2 then (if leapB y then 29 else 28) else if m = 4 ∨ m = 6 ∨ m = 9 ∨ m = 11 then 30 else 31
def rightB (d : Dt) : Bool := decide (2000 ≤ d.y) && decide (d.y ≤ 2199) && decide (1 ≤ d.m) && decide (d.m ≤ 12) && decide (1 ≤ d.d) && decide (d.d ≤ lenM d.y d.m)
def dayB (n : Int) : Bool := decide (0 ≤ n) && decide (n ≤ 73048)
/-- The days of a leap year before a month. -/
def cumM (m : Int) : Int := if m ≤ 1 then 0 else if m = 2 then 31 else if m = 3 then 60 else if m = 4 then 91 else if m = 5 then 121 else if m = 6 then 152 else if m = 7 then 182 else if m = 8 then 213 else if m = 9 then 244 else if m = 10 then 274 else if m = 11 then 305 else if m = 12 then 335 else 366
/-- The day with which a month begins. -/
def stM (y m : Int) : Int := 365 * (y - 2000) + (y - 2000 + 3) / 4 - (if 2100 < y then 1 else 0) + cumM m - (if 2 < m ∧ leapB y = false then 1 else 0)

theorem leap_iff (y : Int) : leapB y = true ↔ y % 4 = 0 ∧ y ≠ 2100 := by simp [leapB]
theorem months {m : Int} (h : 1 ≤ m ∧ m ≤ 12) : m = 1 ∨ m = 2 ∨ m = 3 ∨ m = 4 ∨ m = 5 ∨ m = 6 ∨ m = 7 ∨ m = 8 ∨ m = 9 ∨ m = 10 ∨ m = 11 ∨ m = 12 := by omega
theorem leap_cases (y : Int) : (leapB y = true ∧ y % 4 = 0 ∧ y ≠ 2100) ∨ (leapB y = false ∧ (y % 4 ≠ 0 ∨ y = 2100)) := by
  cases h : leapB y with
  | true => exact .inl ⟨rfl, (leap_iff y).1 h⟩
  | false =>
    refine .inr ⟨rfl, ?_⟩
    have := mt (leap_iff y).2 (by rw [h]; simp)
    omega
theorem st_next (y : Int) {m : Int} (h : 1 ≤ m ∧ m ≤ 12) : stM y (m + 1) = stM y m + lenM y m := by
  unfold stM lenM
  rcases leap_cases y with ⟨h1, _⟩ | ⟨h1, _⟩ <;> rw [h1] <;> rcases months h with rfl | rfl | rfl | rfl | rfl | rfl | rfl | rfl | rfl | rfl | rfl | rfl <;> simp [cumM] <;> omega
theorem st_year (y : Int) (h : 2000 ≤ y) : stM y 13 = stM (y + 1) 1 := by
  unfold stM
  have e1 : cumM 13 = 366 := rfl
  have e2 : cumM 1 = 0 := rfl
  rw [e1, e2, if_neg (show ¬ ((2 : Int) < 1 ∧ leapB (y + 1) = false) by omega)]
  rcases leap_cases y with ⟨h1, h2, h3⟩ | ⟨h1, h2⟩
  · rw [if_neg (show ¬ ((2 : Int) < 13 ∧ leapB y = false) by rw [h1]; simp)]; split <;> split <;> omega
  · rw [if_pos (show (2 : Int) < 13 ∧ leapB y = false from ⟨by decide, h1⟩)]; split <;> split <;> omega
theorem len_pos (y m : Int) : 28 ≤ lenM y m ∧ lenM y m ≤ 31 := by
  unfold lenM
  split
  · split <;> omega
  · split <;> omega
theorem st_mono_m (y : Int) {m : Int} (hm : 1 ≤ m) : ∀ k : Nat, m + k ≤ 13 → stM y m ≤ stM y (m + k)
  | 0, _ => by simp
  | k + 1, h => by
    have ih := st_mono_m y hm k (by omega)
    have := st_next y (m := m + k) (by omega)
    have := len_pos y (m + k)
    have e : m + ((k + 1 : Nat) : Int) = m + k + 1 := by omega
    rw [e]; omega
theorem st_mono_y {y : Int} (hy : 2000 ≤ y) : ∀ k : Nat, stM y 1 ≤ stM (y + k) 1
  | 0 => by simp
  | k + 1 => by
    have ih := st_mono_y hy k
    have h1 := st_year (y + k) (by omega)
    have h2 := st_mono_m (y + k) (m := 1) (by omega) 12 (by omega)
    have e : y + ((k + 1 : Nat) : Int) = y + k + 1 := by omega
    rw [e, ← h1]
    have e2 : (1 : Int) + ((12 : Nat) : Int) = 13 := by omega
    rw [e2] at h2
    omega
/-- Months follow one another. -/
theorem st_lt {y m y' m' : Int} (hy : 2000 ≤ y) (hm : 1 ≤ m ∧ m ≤ 12) (hm' : 1 ≤ m' ∧ m' ≤ 12) (h : y < y' ∨ y = y' ∧ m < m') : stM y m + lenM y m ≤ stM y' m' := by
  rw [← st_next y hm]
  rcases h with h | ⟨rfl, h⟩
  · have h1 := st_mono_m y (m := m + 1) (by omega) (13 - (m + 1)).toNat (by omega)
    have e1 : m + 1 + (((13 - (m + 1)).toNat : Nat) : Int) = 13 := by omega
    rw [e1, st_year y hy] at h1
    have h2 := st_mono_y (y := y + 1) (by omega) (y' - (y + 1)).toNat
    have e2 : y + 1 + (((y' - (y + 1)).toNat : Nat) : Int) = y' := by omega
    rw [e2] at h2
    have h3 := st_mono_m y' (m := 1) (by omega) (m' - 1).toNat (by omega)
    have e3 : 1 + (((m' - 1).toNat : Nat) : Int) = m' := by omega
    rw [e3] at h3
    omega
  · have h1 := st_mono_m y (m := m + 1) (by omega) (m' - (m + 1)).toNat (by omega)
    have e1 : m + 1 + (((m' - (m + 1)).toNat : Nat) : Int) = m' := by omega
    rw [e1] at h1
    exact h1

/-- The number of a date. -/
def numD (d : Dt) : Int := stM d.y d.m + d.d - 1
theorem right_iff (d : Dt) : rightB d = true ↔ 2000 ≤ d.y ∧ d.y ≤ 2199 ∧ 1 ≤ d.m ∧ d.m ≤ 12 ∧ 1 ≤ d.d ∧ d.d ≤ lenM d.y d.m := by
  unfold rightB; simp [and_assoc]
def lessB (a b : Dt) : Bool := if a.y ≠ b.y then decide (a.y < b.y) else if a.m ≠ b.m then decide (a.m < b.m) else decide (a.d < b.d)
theorem less_num {a b : Dt} (ha : rightB a = true) (hb : rightB b = true) (h : lessB a b = true) : numD a < numD b := by
  obtain ⟨a1, a2, a3, a4, a5, a6⟩ := (right_iff a).1 ha
  obtain ⟨b1, b2, b3, b4, b5, b6⟩ := (right_iff b).1 hb
  unfold lessB at h
  unfold numD
  split at h
  · have := st_lt (y := a.y) (m := a.m) (y' := b.y) (m' := b.m) a1 ⟨a3, a4⟩ ⟨b3, b4⟩ (.inl (by simpa using h))
    omega
  · rename_i hy
    have hy : a.y = b.y := by simpa using hy
    split at h
    · have := st_lt (y := a.y) (m := a.m) (y' := b.y) (m' := b.m) a1 ⟨a3, a4⟩ ⟨b3, b4⟩ (.inr ⟨hy, by simpa using h⟩)
      omega
    · rename_i hm
      have hm : a.m = b.m := by simpa using hm
      have h : a.d < b.d := by simpa using h
      rw [hy, hm]; omega
theorem less_tri (a b : Dt) : lessB a b = true ∨ a = b ∨ lessB b a = true := by
  unfold lessB
  by_cases h1 : a.y = b.y
  · by_cases h2 : a.m = b.m
    · by_cases h3 : a.d = b.d
      · exact .inr (.inl (by cases a; cases b; simp_all))
      · simp [h1, h2]; omega
    · simp [h1, h2, Ne.symm h2]; omega
  · simp [h1, Ne.symm h1]; omega
theorem num_inj {a b : Dt} (ha : rightB a = true) (hb : rightB b = true) (h : numD a = numD b) : a = b := by
  rcases less_tri a b with h1 | h1 | h1
  · have := less_num ha hb h1; omega
  · exact h1
  · have := less_num hb ha h1; omega
theorem less_eq {a b : Dt} (ha : rightB a = true) (hb : rightB b = true) : lessB a b = decide (numD a < numD b) := by
  cases h : lessB a b with
  | true => exact (decide_eq_true (less_num ha hb h)).symm
  | false =>
    symm
    refine decide_eq_false fun h2 => ?_
    rcases less_tri a b with h1 | h1 | h1
    · rw [h] at h1; cases h1
    · subst h1; omega
    · have := less_num hb ha h1; omega

/-- The month of a day of a leap year. -/
def monR (r : Int) : Int := if r < 31 then 1 else if r < 60 then 2 else if r < 91 then 3 else if r < 121 then 4 else if r < 152 then 5 else if r < 182 then 6 else if r < 213 then 7 else if r < 244 then 8 else if r < 274 then 9 else if r < 305 then 10 else if r < 335 then 11 else 12
def yearN (n : Int) : Int := if 366 ≤ n % 1461 then 2000 + n / 1461 * 4 + (1 + (n % 1461 - 366) / 365) else 2000 + n / 1461 * 4
def restN (n : Int) : Int := if 366 ≤ n % 1461 then (if 59 ≤ (n % 1461 - 366) % 365 then (n % 1461 - 366) % 365 + 1 else (n % 1461 - 366) % 365) else n % 1461
def gapN (n : Int) : Int := if 36584 ≤ n then n + 1 else n
/-- The date of a day. -/
def ofD (n : Int) : Dt := ⟨yearN (gapN n), monR (restN (gapN n)), restN (gapN n) - cumM (monR (restN (gapN n))) + 1⟩
theorem mon_spec {r : Int} (h : 0 ≤ r ∧ r < 366) : 1 ≤ monR r ∧ monR r ≤ 12 ∧ cumM (monR r) ≤ r ∧ r < cumM (monR r + 1) ∧ (2 < monR r ↔ 60 ≤ r) ∧ (monR r = 2 ↔ 31 ≤ r ∧ r < 60) := by
  unfold monR
  repeat' split
  all_goals simp [cumM]
  all_goals omega
theorem cum_len (y : Int) {m : Int} (h : 1 ≤ m ∧ m ≤ 12) : cumM (m + 1) - cumM m = if m = 2 then 29 else lenM y m := by
  rcases months h with rfl | rfl | rfl | rfl | rfl | rfl | rfl | rfl | rfl | rfl | rfl | rfl <;> simp [cumM, lenM]
theorem of_right {n : Int} (h : dayB n = true) : rightB (ofD n) = true ∧ numD (ofD n) = n := by
  have h0 : 0 ≤ n ∧ n ≤ 73048 := by simpa [dayB] using h
  have hr : 0 ≤ restN (gapN n) ∧ restN (gapN n) < 366 := by unfold restN gapN; repeat' split
                                                            all_goals omega
  obtain ⟨m1, m2, m3, m4, m5, m6⟩ := mon_spec hr
  have hc := cum_len (yearN (gapN n)) ⟨m1, m2⟩
  have hy : 2000 ≤ yearN (gapN n) ∧ yearN (gapN n) ≤ 2199 := by unfold yearN gapN; repeat' split
                                                                all_goals omega
  have key : 365 * (yearN (gapN n) - 2000) + (yearN (gapN n) - 2000 + 3) / 4 - (if 2100 < yearN (gapN n) then 1 else 0) + restN (gapN n) - (if 60 ≤ restN (gapN n) ∧ leapB (yearN (gapN n)) = false then 1 else 0) = n := by
    rcases leap_cases (yearN (gapN n)) with ⟨h1, h2, h3⟩ | ⟨h1, h2⟩
    · rw [if_neg (show ¬ (60 ≤ restN (gapN n) ∧ leapB (yearN (gapN n)) = false) by rw [h1]; simp)]
      revert h2 h3
      clear hc m1 m2 m3 m4 m5 m6 hr hy h1
      unfold yearN restN gapN
      repeat' split
      all_goals omega
    · have e : (60 ≤ restN (gapN n) ∧ leapB (yearN (gapN n)) = false) ↔ 60 ≤ restN (gapN n) := by rw [h1]; simp
      simp only [e]
      revert h2
      clear hc m1 m2 m3 m4 m5 m6 hr hy h1 e
      unfold yearN restN gapN
      repeat' split
      all_goals omega
  have h59 : leapB (yearN (gapN n)) = false → restN (gapN n) ≠ 59 := by
    intro h1 h2
    rcases leap_cases (yearN (gapN n)) with ⟨h3, _⟩ | ⟨_, h3⟩
    · rw [h1] at h3; cases h3
    · revert h2 h3
      clear key hc m1 m2 m3 m4 m5 m6 hr hy h1
      unfold yearN restN gapN
      repeat' split
      all_goals omega
  constructor
  · refine (right_iff _).2 ⟨hy.1, hy.2, m1, m2, ?_, ?_⟩
    · simp only [ofD]; omega
    · simp only [ofD]
      by_cases e : monR (restN (gapN n)) = 2
      · rw [if_pos e] at hc
        have c2 : cumM (monR (restN (gapN n))) = 31 := by rw [e]; rfl
        have := m6.1 e
        unfold lenM
        rw [if_pos e]
        rcases leap_cases (yearN (gapN n)) with ⟨h3, _⟩ | ⟨h3, _⟩
        · rw [h3, c2, if_pos rfl]; omega
        · have := h59 h3
          rw [h3, c2, if_neg (by decide)]; omega
      · rw [if_neg e] at hc
        omega
  · simp only [numD, ofD, stM, m5]
    omega
theorem num_day {d : Dt} (h : rightB d = true) : dayB (numD d) = true := by
  obtain ⟨a1, a2, a3, a4, a5, a6⟩ := (right_iff d).1 h
  have h1 := st_mono_y (y := 2000) (by omega) (d.y - 2000).toNat
  have e1 : 2000 + (((d.y - 2000).toNat : Nat) : Int) = d.y := by omega
  rw [e1] at h1
  have h2 := st_mono_m d.y (m := 1) (by omega) (d.m - 1).toNat (by omega)
  have e2 : 1 + (((d.m - 1).toNat : Nat) : Int) = d.m := by omega
  rw [e2] at h2
  have h3 : stM 2000 1 = 0 := rfl
  have h4 := st_lt (y := d.y) (m := d.m) (y' := 2200) (m' := 1) a1 ⟨a3, a4⟩ ⟨by omega, by omega⟩ (.inl (by omega))
  have h5 : stM 2200 1 = 73049 := rfl
  unfold dayB numD
  simp only [Bool.and_eq_true, decide_eq_true_eq]
  omega
/-- The date of the number of a date is that date. -/
theorem of_num {d : Dt} (h : rightB d = true) : ofD (numD d) = d := by
  obtain ⟨h1, h2⟩ := of_right (num_day h)
  exact num_inj h1 h h2
end Go.Proofs.YtccjolaolmpifaaDoor
