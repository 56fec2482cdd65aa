/- What DaysMembers and DaysCounted say of the sets: plain laws. -/
import Derived.Test.YtccjolaolmpifaaDoorDn
namespace Go.Proofs.YtccjolaolmpifaaDoor
set_option linter.unusedSimpArgs false
set_option linter.unusedVariables false
theorem sets_in {a b : List Sp} (op : Int) (ha : checkL a = 0) (hb : checkL b = 0) (hl : a.length + b.length ≤ 256) : setsR (fOp op) a b = (combL (fOp op) a b, 0) := by
  unfold setsR
  rw [if_neg (by omega), if_neg (by omega), if_neg]
  have := comb_len (f := fOp op) (a := a) (b := b) (fOp_zero op)
  omega
theorem comb_ok {a b : List Sp} (op : Int) (ha : checkL a = 0) (hb : checkL b = 0) (hl : a.length + b.length ≤ 256) : checkL (combL (fOp op) a b) = 0 ∧ ∀ n, hasB (combL (fOp op) a b) n = fOp op (hasB a n) (hasB b n) := by
  obtain ⟨h1, h2⟩ := comb_says (f := fOp op) (fOp_zero op) (check_zero ha).2 (check_zero hb).2
  have := comb_len (f := fOp op) (a := a) (b := b) (fOp_zero op)
  refine ⟨?_, h2⟩
  rw [check_in (by omega), if_pos h1]
/-- The meet and the difference have together the first set. -/
theorem again_says {a b : List Sp} (ha : checkL a = 0) (hb : checkL b = 0) (hl : a.length + b.length ≤ 256) : setsR (fOp 1) (combL (fOp 2) a b) (combL (fOp 3) a b) = (a, 0) := by
  obtain ⟨h1, h2⟩ := comb_ok 2 ha hb hl
  obtain ⟨h3, h4⟩ := comb_ok 3 ha hb hl
  obtain ⟨h5, h6⟩ := comb_says (f := fOp 1) (fOp_zero 1) (check_zero h1).2 (check_zero h3).2
  have e : combL (fOp 1) (combL (fOp 2) a b) (combL (fOp 3) a b) = a := by
    refine canon_ext h5 (check_zero ha).2 fun n => ?_
    rw [h6, h2, h4]
    unfold fOp
    cases hasB a n <;> cases hasB b n <;> rfl
  have hA := (check_zero ha).1
  unfold setsR
  rw [if_neg (by omega), if_neg (by omega), e, if_neg (by omega)]
theorem cnt_says {l : List Sp} (h : checkL l = 0) : countL l = (cntL l, 0) ∧ cntL l = numB (hasB l) := by
  unfold countL; rw [if_pos h]; exact ⟨rfl, cnt_num (check_zero h).2⟩
theorem cnt_low {l : List Sp} (h : checkL l = 0) : 0 ≤ cntL l ∧ cntL l ≤ 73049 := by
  rw [(cnt_says h).2]
  unfold numB
  have := List.countP_le_length (p := fun (n : Nat) => hasB l (n : Int)) (l := List.range 73049)
  rw [List.length_range] at this
  constructor
  · exact Int.natCast_nonneg _
  · exact Int.ofNat_le.2 this
/-- The days of a union and of a meet add up to those of both sets. -/
theorem cnt_add {a b : List Sp} (ha : checkL a = 0) (hb : checkL b = 0) (hl : a.length + b.length ≤ 256) : cntL (combL (fOp 1) a b) + cntL (combL (fOp 2) a b) = cntL a + cntL b ∧ cntL (combL (fOp 3) a b) = cntL a - cntL (combL (fOp 2) a b) := by
  obtain ⟨h1, h2⟩ := comb_ok 1 ha hb hl
  obtain ⟨h3, h4⟩ := comb_ok 2 ha hb hl
  obtain ⟨h5, h6⟩ := comb_ok 3 ha hb hl
  have e1 : hasB (combL (fOp 1) a b) = fun n => hasB a n || hasB b n := funext h2
  have e2 : hasB (combL (fOp 2) a b) = fun n => hasB a n && hasB b n := funext h4
  have e3 : hasB (combL (fOp 3) a b) = fun n => hasB a n && !hasB b n := funext h6
  have n1 := num_or (hasB a) (hasB b)
  have n2 := num_not (hasB a) (hasB b)
  rw [← e1, ← e2] at n1
  rw [← e3, ← e2] at n2
  rw [(cnt_says h1).2, (cnt_says h3).2, (cnt_says h5).2, (cnt_says ha).2, (cnt_says hb).2]
  generalize numB (hasB (combL (fOp 1) a b)) = x at *
  generalize numB (hasB (combL (fOp 2) a b)) = y at *
  generalize numB (hasB (combL (fOp 3) a b)) = z at *
  generalize numB (hasB a) = p at *
  generalize numB (hasB b) = q at *
  omega
theorem upto_ok {d : Int} (h : 0 ≤ d ∧ d ≤ 73048) : checkL [⟨0, d⟩] = 0 := by
  rw [check_in (by simp), if_pos]
  exact chk_mk (Int.le_refl _) h.2 h.1 (by show (-2 : Int) + 2 ≤ 0; omega) rfl
theorem up_le : ∀ {m l : List Int}, l.Pairwise (· < ·) → m.Pairwise (· < ·) → (∀ x ∈ l, x ∈ m) → l.length ≤ m.length
  | [], l, _, _, h => by
    cases l with
    | nil => exact Nat.le_refl _
    | cons x s => have := h x (by simp); cases this
  | y :: r, [], _, _, _ => Nat.zero_le _
  | y :: r, x :: s, hl, hm, h => by
    rw [List.pairwise_cons] at hl hm
    by_cases e : x = y
    · subst e
      have := up_le (m := r) (l := s) hl.2 hm.2 fun z hz => by
        rcases List.mem_cons.1 (h z (by simp [hz])) with e | h1
        · have := hl.1 z hz; omega
        · exact h1
      simp only [List.length_cons]; omega
    · have hx : x ∈ r := by
        rcases List.mem_cons.1 (h x (by simp)) with e2 | h1
        · exact absurd e2 e
        · exact h1
      have hxy := hm.1 x hx
      have := up_le (m := r) (l := x :: s) (List.pairwise_cons.2 hl) hm.2 fun z hz => by
        rcases List.mem_cons.1 (h z hz) with e2 | h1
        · rcases List.mem_cons.1 hz with e3 | h3
          · omega
          · have := hl.1 z h3; omega
        · exact h1
      simp only [List.length_cons] at this ⊢; omega
theorem chk_up : ∀ {l : List Sp} {last : Int}, chkFrom last l = true → (l.map (·.f)).Pairwise (· < ·)
  | [], _, _ => List.Pairwise.nil
  | x :: r, last, h => by
    obtain ⟨h1, h2, h3, h4, h5⟩ := chk_cons h
    rw [List.map_cons, List.pairwise_cons]
    refine ⟨fun y hy => ?_, chk_up h5⟩
    obtain ⟨z, hz, rfl⟩ := List.mem_map.1 hy
    have := chk_low h5 z hz
    omega
theorem chk_start : ∀ {l : List Sp} {last : Int}, chkFrom last l = true → ∀ x ∈ l, hasB l x.f = true ∧ hasB l (x.f - 1) = false
  | y :: r, last, h, x, hx => by
    obtain ⟨h1, h2, h3, h4, h5⟩ := chk_cons h
    rw [has_cons, has_cons]
    rcases List.mem_cons.1 hx with rfl | hx
    · rw [has_low h5 (n := x.f - 1) (by omega), decide_eq_true (p := x.f ≤ x.f) (Int.le_refl _), decide_eq_true h3, decide_eq_false (p := x.f ≤ x.f - 1) (by omega)]
      exact ⟨rfl, rfl⟩
    · obtain ⟨k1, k2⟩ := chk_start h5 x hx
      have := chk_low h5 x hx
      rw [k1, k2, decide_eq_false (p := x.f - 1 ≤ y.t) (by omega)]
      simp
theorem start_mem {l : List Sp} {n : Int} (h1 : hasB l n = true) (h2 : hasB l (n - 1) = false) : n ∈ l.map (·.f) := by
  unfold hasB at h1 h2
  obtain ⟨x, hx, h3⟩ := List.any_eq_true.1 h1
  have h4 := List.any_eq_false.1 h2 x hx
  simp only [Bool.and_eq_true, decide_eq_true_eq] at h3 h4
  exact List.mem_map.2 ⟨x, hx, by omega⟩
/-- A meet with one span has no more spans. -/
theorem meet_one {u : List Sp} {d : Int} (hu : checkL u = 0) (hd : 0 ≤ d ∧ d ≤ 73048) : setsR (fOp 2) u [⟨0, d⟩] = (combL (fOp 2) u [⟨0, d⟩], 0) ∧ checkL (combL (fOp 2) u [⟨0, d⟩]) = 0 ∧ ∀ n, hasB (combL (fOp 2) u [⟨0, d⟩]) n = fOp 2 (hasB u n) (hasB [⟨0, d⟩] n) := by
  have ho := upto_ok hd
  obtain ⟨h1, h2⟩ := comb_says (f := fOp 2) (fOp_zero 2) (check_zero hu).2 (check_zero ho).2
  have hlen : (combL (fOp 2) u [⟨0, d⟩]).length ≤ u.length := by
    have := up_le (chk_up h1) (chk_up (check_zero hu).2) fun z hz => by
      obtain ⟨x, hx, rfl⟩ := List.mem_map.1 hz
      obtain ⟨k1, k2⟩ := chk_start h1 x hx
      have hr := chk_low h1 x hx
      rw [h2] at k1 k2
      have k3 : (hasB u x.f && hasB [⟨0, d⟩] x.f) = true := k1
      have k4 : (hasB u (x.f - 1) && hasB [⟨0, d⟩] (x.f - 1)) = false := k2
      rw [Bool.and_eq_true] at k3
      refine start_mem k3.1 ?_
      cases hp : hasB u (x.f - 1) with
      | false => rfl
      | true =>
        rw [hp, Bool.true_and] at k4
        have h0 := has_range (check_zero hu).2 hp
        have k5 := k3.2
        simp only [hasB, List.any_cons, List.any_nil, Bool.or_false, Bool.and_eq_true, decide_eq_true_eq] at k5
        simp only [hasB, List.any_cons, List.any_nil, Bool.or_false, Bool.and_eq_false_iff, decide_eq_false_iff_not] at k4
        omega
    simpa using this
  have hU := (check_zero hu).1
  refine ⟨?_, by rw [check_in (by omega), if_pos h1], h2⟩
  unfold setsR
  rw [if_neg (by omega), if_neg (by omega), if_neg (by omega)]
/-- Nth of a canonical list. -/
theorem nth_says {u : List Sp} {k : Int} (hu : checkL u = 0) (hk : 0 ≤ k) : (k < cntL u → ∃ d, nthR u k = (d, true, 0) ∧ hasB u d = true ∧ setsR (fOp 2) u [⟨0, d⟩] = (combL (fOp 2) u [⟨0, d⟩], 0) ∧ countL (combL (fOp 2) u [⟨0, d⟩]) = (k + 1, 0)) ∧ (¬ k < cntL u → nthR u k = (0, false, 0)) := by
  have hs := nth_isSome (check_zero hu).2 hk
  have hn : nthR u k = match nthL u k with | some d => (d, true, 0) | none => (0, false, 0) := by
    unfold nthR; rw [if_neg (by omega), if_neg (by omega)]
    cases nthL u k <;> rfl
  cases hd : nthL u k with
  | none =>
    rw [hd] at hs hn
    have h2 : ¬ k < cntL u := by simpa using hs.symm
    exact ⟨fun h => absurd h h2, fun _ => hn⟩
  | some d =>
    rw [hd] at hs hn
    have h2 : k < cntL u := by simpa using hs.symm
    refine ⟨fun _ => ?_, fun h => absurd h2 h⟩
    obtain ⟨h3, h4⟩ := nth_some (check_zero hu).2 hk hd
    have hr := has_range (check_zero hu).2 h3
    obtain ⟨h7, h5, h6⟩ := meet_one hu hr
    refine ⟨d, hn, h3, h7, ?_⟩
    rw [(cnt_says h5).1, (cnt_says h5).2, ← h4]
    have e : hasB (combL (fOp 2) u [⟨0, d⟩]) = fun n => hasB u n && (decide (0 ≤ n) && decide (n ≤ d)) := by
      funext n
      rw [h6]
      show (hasB u n && hasB [⟨0, d⟩] n) = _
      unfold hasB
      simp
    rw [e]
theorem nth_neg {u : List Sp} {k : Int} (hu : checkL u = 0) (hk : k < 0) : nthR u k = (0, false, 1) := by unfold nthR; rw [if_neg (by omega), if_pos hk]
end Go.Proofs.YtccjolaolmpifaaDoor
