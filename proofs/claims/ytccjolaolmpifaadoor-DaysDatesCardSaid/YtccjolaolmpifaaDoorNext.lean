import Derived.Test.YtccjolaolmpifaaDoorCal
namespace Go.Proofs.YtccjolaolmpifaaDoor
set_option linter.unusedSimpArgs false
set_option linter.unusedVariables false
/-- The date after a date. -/
def succD (a : Dt) : Dt := if a.d < lenM a.y a.m then ⟨a.y, a.m, a.d + 1⟩ else if a.m < 12 then ⟨a.y, a.m + 1, 1⟩ else ⟨a.y + 1, 1, 1⟩
/-- What DaysDates asks of a date and the next one. -/
def nextB (a x : Dt) : Bool := if x.d ≠ 1 then decide (x.y = a.y) && decide (x.m = a.m) && decide (x.d = a.d + 1) else if a.m < 12 then decide (x.y = a.y) && decide (x.m = a.m + 1) && decide (28 ≤ a.d) else decide (x.y = a.y + 1) && decide (x.m = 1) && decide (a.d = 31)
theorem last_num : numD ⟨2199, 12, 31⟩ = 73048 := by decide
theorem first_right : rightB ⟨2199, 12, 31⟩ = true := by decide
theorem of_last : ofD 73048 = ⟨2199, 12, 31⟩ := by rw [← last_num]; exact of_num first_right
theorem len_dec (y : Int) : lenM y 12 = 31 := by simp [lenM]
theorem succ_num {a : Dt} (h : rightB a = true) : numD (succD a) = numD a + 1 := by
  obtain ⟨a1, a2, a3, a4, a5, a6⟩ := (right_iff a).1 h
  unfold succD
  by_cases h1 : a.d < lenM a.y a.m
  · rw [if_pos h1]; unfold numD; dsimp only; omega
  · rw [if_neg h1]
    by_cases h2 : a.m < 12
    · rw [if_pos h2]; have e := st_next a.y (m := a.m) ⟨a3, a4⟩; unfold numD; dsimp only; omega
    · rw [if_neg h2]
      have e0 : a.m = 12 := by omega
      have e := st_next a.y (m := a.m) ⟨a3, a4⟩
      have e2 := st_year a.y a1
      rw [e0] at e a6 h1
      have e3 : (12 : Int) + 1 = 13 := by omega
      rw [e3] at e
      unfold numD; dsimp only; rw [e0]; omega
theorem succ_right {a : Dt} (h : rightB a = true) (hn : numD a < 73048) : rightB (succD a) = true := by
  obtain ⟨a1, a2, a3, a4, a5, a6⟩ := (right_iff a).1 h
  rw [right_iff]
  unfold succD
  by_cases h1 : a.d < lenM a.y a.m
  · rw [if_pos h1]; dsimp only; omega
  · rw [if_neg h1]
    by_cases h2 : a.m < 12
    · rw [if_pos h2]; have e := len_pos a.y (a.m + 1); dsimp only; omega
    · rw [if_neg h2]
      have e0 : a.m = 12 := by omega
      rw [e0, len_dec] at a6 h1
      have e1 : a.d = 31 := by omega
      have e := len_pos (a.y + 1) 1
      have e2 : a.y ≠ 2199 := by
        intro e2
        have e3 : a = ⟨2199, 12, 31⟩ := by cases a; simp_all
        rw [e3, last_num] at hn; omega
      dsimp only; omega
theorem of_succ {n : Int} (h : dayB n = true) (hn : n < 73048) : ofD (n + 1) = succD (ofD n) := by
  obtain ⟨h1, h2⟩ := of_right h
  have h3 := succ_right h1 (by omega)
  have h4 := of_num h3
  rw [succ_num h1, h2] at h4; exact h4
theorem succ_next {a : Dt} (h : rightB a = true) : nextB a (succD a) = true := by
  obtain ⟨a1, a2, a3, a4, a5, a6⟩ := (right_iff a).1 h
  have hl := len_pos a.y a.m
  unfold succD
  by_cases h1 : a.d < lenM a.y a.m
  · rw [if_pos h1]; unfold nextB; dsimp only; rw [if_pos (by omega)]; simp
  · rw [if_neg h1]
    by_cases h2 : a.m < 12
    · rw [if_pos h2]; unfold nextB; dsimp only; rw [if_neg (by omega), if_pos h2]; simp; omega
    · rw [if_neg h2]
      have e0 : a.m = 12 := by omega
      rw [e0, len_dec] at a6 h1
      unfold nextB; dsimp only; rw [if_neg (by omega), if_neg h2]; simp; omega
/-- The date after another one, as DaysDates says it. -/
theorem next_day {n : Int} (h : dayB n = true) (hn : n < 73048) : nextB (ofD n) (ofD (n + 1)) = true := by
  rw [of_succ h hn]; exact succ_next (of_right h).1
end Go.Proofs.YtccjolaolmpifaaDoor
