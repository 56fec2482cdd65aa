/- Hitting: the reference's table, core, greatest, Cores, Shrink. -/
import Derived.Test.YtcmdkccncfleoaaMe
namespace Go.Proofs.Ytcmdkccncfleoaa
set_option linter.unusedSimpArgs false
set_option linter.unusedVariables false
abbrev boolC (b : Bool) : List AV := [.bool b]
abbrev bools (l : List Bool) : AV := .dl 1 (l.map boolC)
/-- A table as a function. -/
abbrev tabF (l : List Bool) (s : Nat) : Bool := l[s]?.getD false
theorem tab_get {l : List Bool} {s : Nat} (h : s < l.length) : l[s]? = some (tabF l s) := by
  unfold tabF; rw [List.getElem?_eq_getElem h]; rfl
theorem tab_cells {l : List Bool} {s : Nat} (h : s < l.length) : (l.map boolC)[s]? = some [.bool (tabF l s)] := by
  rw [List.getElem?_map, tab_get h]; rfl
/-- At one set: each set without one of its elements has the value true, if the set has. -/
def monoAt (t : Nat → Bool) (N s : Nat) : Bool := (List.range N).all fun i => !(s.testBit i && t s && !t (wout s i))
def monoB (t : Nat → Bool) (N k : Nat) : Bool := (List.range k).all (monoAt t N)
theorem monoB_iff {t : Nat → Bool} {N : Nat} : monoB t N (2 ^ N) = true ↔ Mono N t := by
  unfold monoB monoAt Mono
  rw [List.all_eq_true]
  constructor
  · intro h s hs ht i hi
    have := List.all_eq_true.1 (h s (List.mem_range.2 hs)) i (List.mem_range.2 (bit_lt hs hi))
    rw [hi, ht] at this
    simpa using this
  · intro h s hs
    rw [List.all_eq_true]
    intro i _
    cases hi : s.testBit i with
    | false => rfl
    | true =>
      cases ht : t s with
      | false => rfl
      | true => rw [h s (List.mem_range.1 hs) ht i hi]; rfl
def tableH (n : Int) (l : List Bool) : Int := if 12 < n then 2 else if n < 0 then 150 else if (l.length : Int) ≠ ((2 ^ n.toNat : Nat) : Int) then 150 else if monoB (tabF l) n.toNat l.length then 0 else 150
theorem table_n (n : Int) (N : Nat) (l : List Bool) (hN : n = (N : Int)) (hN2 : N ≤ 12) : tableH n l = if (l.length : Int) ≠ ((2 ^ N : Nat) : Int) then 150 else if monoB (tabF l) N l.length then 0 else 150 := by
  unfold tableH
  rw [if_neg (by omega), if_neg (by omega), show n.toNat = N by omega]
theorem table_zero {n : Int} {l : List Bool} (h : tableH n l = 0) : ∃ N : Nat, n = (N : Int) ∧ N ≤ 12 ∧ l.length = 2 ^ N ∧ Mono N (tabF l) := by
  by_cases h1 : 12 < n
  · unfold tableH at h; rw [if_pos h1] at h; exact absurd h (by decide)
  by_cases h2 : n < 0
  · unfold tableH at h; rw [if_neg h1, if_pos h2] at h; exact absurd h (by decide)
  have hn : n = (n.toNat : Int) := by omega
  rw [table_n n n.toNat l hn (by omega)] at h
  by_cases h3 : (l.length : Int) ≠ ((2 ^ n.toNat : Nat) : Int)
  · rw [if_pos h3] at h; exact absurd h (by decide)
  rw [if_neg h3] at h
  have h4 : l.length = 2 ^ n.toNat := by
    generalize 2 ^ n.toNat = p at h3
    omega
  refine ⟨n.toNat, hn, by omega, h4, monoB_iff.1 ?_⟩
  rw [h4] at h
  cases hm : monoB (tabF l) n.toNat (2 ^ n.toNat) with
  | true => rfl
  | false => rw [hm] at h; exact absurd h (by decide)
set_option maxHeartbeats 2000000 in
set_option maxRecDepth 10000 in
theorem rTable_c (n : Int) (l : List Bool) (σ : List Ent) : SCall Try.prog 43 [.int .i64 n, bools l] σ (Is (.int .i64 (tableH n l)) σ) := by
  refine scall_of Try.func43 rfl (by simp) ?_
  by_cases hn : 0 ≤ n ∧ n ≤ 12
  · obtain ⟨N, hN⟩ : ∃ N : Nat, n = N := ⟨n.toNat, by omega⟩
    have hN2 : N ≤ 12 := by omega
    have hp := pow12 hN2
    rw [table_n n N l hN hN2]
    by_cases hl : (l.length : Int) = ((2 ^ N : Nat) : Int)
    · rw [if_neg (by simpa using hl)]
      have hl2 : l.length = 2 ^ N := by generalize 2 ^ N = p at hl; omega
      refine ex_seq ?_;
      refine ex_region ?_;
      apply exl_is; rfl; rfl; rfl; (apply g_assign; rfl);
      refine exl_nilT ?_;
      refine ex_seq ?_;
      refine ex_seq ?_;
      refine ex_region ?_;
      apply exl_is; rfl; rfl; rfl; (apply g_move; rfl);
      apply exl_isB; rfl; rfl; rfl; (apply g_binInt; rfl; rfl; rfl); intro _ _;
      refine exl_nilT ?_;
      refine ex_cond rfl (fun h => ?_) (fun h => ?_) <;> ((first | (subst h; rename BV _ true => h0; have h := h0.eq; clear h0) | (subst h; rename BV _ false => h0; have h := h0.eq; clear h0) | skip); (have hp := h; try simp only [decide_eq_true_eq, decide_eq_false_iff_not, Bool.not_eq_true', Bool.not_eq_false', bne_iff_ne, beq_iff_eq, beq_eq_false_iff_ne, bne_eq_false_iff_eq, Int.not_lt, Int.not_le] at hp); (try (exfalso; first | omega | (cases hp; done))));
      refine ex_skip ?_;
      refine ex_seq ?_;
      refine ex_seq ?_;
      refine ex_region ?_;
      apply exl_is; rfl; rfl; rfl; (apply g_move; rfl);
      apply exl_isB; rfl; rfl; rfl; (apply g_binInt; rfl; rfl; rfl); intro _ _;
      refine exl_nilT ?_;
      refine ex_cond rfl (fun h => ?_) (fun h => ?_) <;> ((first | (subst h; rename BV _ true => h0; have h := h0.eq; clear h0) | (subst h; rename BV _ false => h0; have h := h0.eq; clear h0) | skip); (have hp := h; try simp only [decide_eq_true_eq, decide_eq_false_iff_not, Bool.not_eq_true', Bool.not_eq_false', bne_iff_ne, beq_iff_eq, beq_eq_false_iff_ne, bne_eq_false_iff_eq, Int.not_lt, Int.not_le] at hp); (try (exfalso; first | omega | (cases hp; done))));
      refine ex_skip ?_;
      refine ex_seq ?_;
      refine ex_seq ?_;
      refine ex_region ?_;
      apply exl_is; rfl; rfl; rfl; (apply g_move; rfl);
      apply exl_is; rfl; rfl; rfl; (apply g_len; rfl; rfl; (exact (List.length_map _).symm));
      apply exl_is; rfl; rfl; rfl; (apply g_move; rfl);
      apply exl_is; rfl; rfl; rfl; (apply g_shl1; rfl; rfl; rfl; (assumption); omega);
      apply exl_isB; rfl; rfl; rfl; (apply g_binInt; rfl; rfl; rfl); intro _ _;
      refine exl_nilT ?_;
      refine ex_cond rfl (fun h => ?_) (fun h => ?_) <;> ((first | (subst h; rename BV _ true => h0; have h := h0.eq; clear h0) | (subst h; rename BV _ false => h0; have h := h0.eq; clear h0) | skip); (have hp := h; try simp only [decide_eq_true_eq, decide_eq_false_iff_not, Bool.not_eq_true', Bool.not_eq_false', bne_iff_ne, beq_iff_eq, beq_eq_false_iff_ne, bne_eq_false_iff_eq, Int.not_lt, Int.not_le] at hp); (try (exfalso; first | omega | (cases hp; done))));
      refine ex_skip ?_;
      refine ex_seq ?_;
      refine ex_seq ?_;
      refine ex_region ?_;
      apply exl_is; rfl; rfl; rfl; (apply g_assign; rfl);
      refine exl_nilT ?_;
      refine ex_block ?_;
      rotate_left
      (all_goals (repeat (rename BV _ _ => hbv; cases hbv)))
      all_goals (try (exfalso; first | (rename true = false => hx; cases hx; done) | (rename false = true => hx; cases hx; done)))
      subst hN
      refine ex_loop (fun (s : Nat) => (⟨[(0, .int .i64 N), (1, bools l), (5, .int .i64 s)], σ, [], Try.f43.ntmps⟩ : St)) (fun s => s ≤ l.length ∧ monoB (tabF l) N s = true) (fun s => l.length - s) 0 (⟨Nat.zero_le _, rfl⟩) (St.le_of (by repeat (first | exact trivial | refine ⟨rfl, ?_⟩)) (by repeat (first | exact List.Sublist.refl _ | apply List.Sublist.cons_cons | apply List.Sublist.cons))) ?_
      intro s hI
      obtain ⟨hI1, hI2⟩ := hI
      by_cases hs : s < l.length
      · have hst := range_all s (monoAt (tabF l) N)
        have hg := tab_get hs
        have hgc := tab_cells hs
        have hin : monoAt (tabF l) N s = false → monoB (tabF l) N l.length = false := fun h => by
          unfold monoB
          rw [List.all_eq_false]
          exact ⟨s, List.mem_range.2 hs, by rw [h]; simp⟩
        rw [show (List.range (s + 1)).all (monoAt (tabF l) N) = monoB (tabF l) N (s + 1) from rfl, show (List.range s).all (monoAt (tabF l) N) = monoB (tabF l) N s from rfl, hI2, Bool.true_and] at hst
        obtain ⟨B, hB⟩ : ∃ B, monoB (tabF l) N l.length = B := ⟨_, rfl⟩
        rw [hB] at hin ⊢
        refine ex_seq ?_;
        refine ex_seq ?_;
        refine ex_region ?_;
        apply exl_is; rfl; rfl; rfl; (apply g_move; rfl);
        apply exl_is; rfl; rfl; rfl; (apply g_move; rfl);
        apply exl_is; rfl; rfl; rfl; (apply g_len; rfl; rfl; (exact (List.length_map _).symm));
        apply exl_isB; rfl; rfl; rfl; (apply g_binInt; rfl; rfl; rfl); intro _ _;
        refine exl_nilT ?_;
        refine ex_cond rfl (fun h => ?_) (fun h => ?_) <;> ((first | (subst h; rename BV _ true => h0; have h := h0.eq; clear h0) | (subst h; rename BV _ false => h0; have h := h0.eq; clear h0) | skip); (have hp := h; try simp only [decide_eq_true_eq, decide_eq_false_iff_not, Bool.not_eq_true', Bool.not_eq_false', bne_iff_ne, beq_iff_eq, beq_eq_false_iff_ne, bne_eq_false_iff_eq, Int.not_lt, Int.not_le] at hp); (try (exfalso; first | omega | (cases hp; done))));
        refine ex_skip ?_;
        refine ex_seq ?_;
        refine ex_block ?_;
        refine ex_seq ?_;
        refine ex_region ?_;
        apply exl_is; rfl; rfl; rfl; (apply g_assign; rfl);
        refine exl_nilT ?_;
        refine ex_block ?_;
        rotate_left
        (all_goals (repeat (rename BV _ _ => hbv; cases hbv)))
        all_goals (try (exfalso; first | (rename true = false => hx; cases hx; done) | (rename false = true => hx; cases hx; done)))
        refine ex_loop (fun (i : Nat) => (⟨[(0, .int .i64 N), (1, bools l), (5, .int .i64 s), (6, .int .i64 i)], σ, [], Try.f43.ntmps⟩ : St)) (fun i => i ≤ N ∧ ((List.range i).all fun i => !(s.testBit i && tabF l s && !tabF l (wout s i))) = true) (fun i => N - i) 0 (⟨Nat.zero_le _, rfl⟩) (St.le_of (by repeat (first | exact trivial | refine ⟨rfl, ?_⟩)) (by repeat (first | exact List.Sublist.refl _ | apply List.Sublist.cons_cons | apply List.Sublist.cons))) ?_
        intro i hI
        obtain ⟨hJ1, hJ2⟩ := hI
        by_cases hi : i < N
        · have hst2 := range_all i fun i => !(s.testBit i && tabF l s && !tabF l (wout s i))
          rw [hJ2, Bool.true_and] at hst2
          have hin2 : (!(s.testBit i && tabF l s && !tabF l (wout s i))) = false → B = false := fun h => hin (by
            unfold monoAt
            rw [List.all_eq_false]
            exact ⟨i, List.mem_range.2 hi, by rw [h]; simp⟩)
          clear hin hst hI2
          have hr := shr_one s i
          obtain ⟨q, hq⟩ : ∃ q, s >>> i = q := ⟨_, rfl⟩
          have hqs : q ≤ s := by rw [← hq]; exact Nat.shiftRight_le _ _
          rw [hq] at hr
          have hpw := pow12 (N := i) (by omega)
          cases hb : s.testBit i with
          | true =>
            rw [hb] at hr hst2 hin2
            have hr : q &&& 1 = 1 := hr
            have hw := wout_cast hb
            have hws := (wout_sub hb).le
            have hgw := tab_cells (l := l) (s := wout s i) (by omega)
            obtain ⟨g, hg⟩ : ∃ g, wout s i = g := ⟨_, rfl⟩
            rw [hg] at hw hst2 hin2 hgw
            cases ht : tabF l s with
            | true =>
              rw [ht] at hgc hst2 hin2
              cases hh2 : tabF l g with
              | true =>
                rw [hh2] at hgw hst2 hin2
                refine ex_seq ?_;
                refine ex_seq ?_;
                refine ex_region ?_;
                apply exl_is; rfl; rfl; rfl; (apply g_move; rfl);
                apply exl_is; rfl; rfl; rfl; (apply g_move; rfl);
                apply exl_isB; rfl; rfl; rfl; (apply g_binInt; rfl; rfl; rfl); intro _ _;
                refine exl_nilT ?_;
                refine ex_cond rfl (fun h => ?_) (fun h => ?_) <;> ((first | (subst h; rename BV _ true => h0; have h := h0.eq; clear h0) | (subst h; rename BV _ false => h0; have h := h0.eq; clear h0) | skip); (have hp := h; try simp only [decide_eq_true_eq, decide_eq_false_iff_not, Bool.not_eq_true', Bool.not_eq_false', bne_iff_ne, beq_iff_eq, beq_eq_false_iff_ne, bne_eq_false_iff_eq, Int.not_lt, Int.not_le] at hp); (try (exfalso; first | omega | (cases hp; done))));
                refine ex_skip ?_;
                refine ex_seq ?_;
                refine ex_block ?_;
                refine ex_seq ?_;
                refine ex_region ?_;
                apply exl_is; rfl; rfl; rfl; (apply g_move; rfl);
                apply exl_is; rfl; rfl; rfl; (apply g_move; rfl);
                apply exl_is; rfl; rfl; rfl; (apply g_shrQ; rfl; rfl; rfl; rfl; omega; exact hq);
                apply exl_is; rfl; rfl; rfl; (apply g_andQ; rfl; rfl; rfl; exact (rfl : (1:Int) = ((1:Nat):Int)); omega; exact Nat.le_of_ble_eq_true rfl; exact hr);
                apply exl_isB; rfl; rfl; rfl; (apply g_binInt; rfl; rfl; rfl); intro _ _;
                apply exl_is; rfl; rfl; rfl; (apply g_move; rfl);
                refine exl_caseL rfl (fun h => ?_) (fun h => ?_) <;> ((first | (subst h; rename BV _ true => h0; have h := h0.eq; clear h0) | (subst h; rename BV _ false => h0; have h := h0.eq; clear h0) | skip); (have hp := h; try simp only [decide_eq_true_eq, decide_eq_false_iff_not, Bool.not_eq_true', Bool.not_eq_false', bne_iff_ne, beq_iff_eq, beq_eq_false_iff_ne, bne_eq_false_iff_eq, Int.not_lt, Int.not_le] at hp); (try (exfalso; first | omega | (cases hp; done))));
                apply exl_isW; rfl; (rfl); rfl; rfl; (apply g_move; rfl);
                apply exl_isW; rfl; (rfl); rfl; rfl; (apply g_move; rfl);
                apply exl_isW; rfl; (rfl); rfl; rfl; (apply g_indexDl; rfl; rfl; rfl; (rfl); (assumption));
                apply exl_isW; rfl; (rfl); rfl; rfl; (apply g_load1; rfl; rfl; (exact .e rfl));
                apply exl_is; rfl; rfl; rfl; (apply g_pick_t; rfl; (rfl); rfl);
                apply exl_is; rfl; rfl; rfl; (apply g_move; rfl);
                apply exl_isW; rfl; (rfl); rfl; rfl; (apply g_move; rfl);
                apply exl_isW; rfl; (rfl); rfl; rfl; (apply g_move; rfl);
                apply exl_isW; rfl; (rfl); rfl; rfl; (apply g_move; rfl);
                apply exl_isW; rfl; (rfl); rfl; rfl; (apply g_shl1; rfl; rfl; rfl; (rfl); omega);
                apply exl_isW; rfl; (rfl); rfl; rfl; (apply g_sub; rfl; rfl; rfl; exact ⟨by omega, by omega⟩);
                apply exl_isW; rfl; (rfl); rfl; rfl; (apply g_indexDl; rfl; rfl; rfl; (assumption); (assumption));
                apply exl_isW; rfl; (rfl); rfl; rfl; (apply g_load1; rfl; rfl; (exact .e rfl));
                apply exl_isBW; rfl; (rfl); rfl; rfl; (apply g_not; rfl); intro _ _;
                apply exl_is; rfl; rfl; rfl; (apply g_pick_t; rfl; (rfl); rfl);
                refine exl_nilT ?_;
                refine ex_cond rfl (fun h => ?_) (fun h => ?_) <;> ((first | (subst h; rename BV _ true => h0; have h := h0.eq; clear h0) | (subst h; rename BV _ false => h0; have h := h0.eq; clear h0) | skip); (have hp := h; try simp only [decide_eq_true_eq, decide_eq_false_iff_not, Bool.not_eq_true', Bool.not_eq_false', bne_iff_ne, beq_iff_eq, beq_eq_false_iff_ne, bne_eq_false_iff_eq, Int.not_lt, Int.not_le] at hp); (try (exfalso; first | omega | (cases hp; done))));
                refine ex_skip ?_;
                refine ex_region ?_;
                apply exl_is; rfl; rfl; rfl; (apply g_move; rfl);
                apply exl_is; rfl; rfl; rfl; (apply g_add; rfl; rfl; rfl; exact ⟨by omega, by omega⟩);
                apply exl_is; rfl; rfl; rfl; (apply g_assign; rfl);
                refine exl_nil ?_;
                simp only [thenA, blockA, roundA, noGotoA, retA, ↓reduceIte, Nat.reduceEqDiff];
                rotate_left
                (all_goals (repeat (rename BV _ _ => hbv; cases hbv)))
                all_goals (try (exfalso; first | (rename true = false => hx; cases hx; done) | (rename false = true => hx; cases hx; done)))
                refine ⟨i + 1, ⟨by omega, by rw [hst2]; rfl⟩, by omega, St.le_of (by repeat (first | exact trivial | refine ⟨rfl, ?_⟩)) (by repeat (first | exact List.Sublist.refl _ | apply List.Sublist.cons_cons | apply List.Sublist.cons))⟩
              | false =>
                rw [hh2] at hgw hst2 hin2
                rw [hin2 rfl]
                refine ex_seq ?_;
                refine ex_seq ?_;
                refine ex_region ?_;
                apply exl_is; rfl; rfl; rfl; (apply g_move; rfl);
                apply exl_is; rfl; rfl; rfl; (apply g_move; rfl);
                apply exl_isB; rfl; rfl; rfl; (apply g_binInt; rfl; rfl; rfl); intro _ _;
                refine exl_nilT ?_;
                refine ex_cond rfl (fun h => ?_) (fun h => ?_) <;> ((first | (subst h; rename BV _ true => h0; have h := h0.eq; clear h0) | (subst h; rename BV _ false => h0; have h := h0.eq; clear h0) | skip); (have hp := h; try simp only [decide_eq_true_eq, decide_eq_false_iff_not, Bool.not_eq_true', Bool.not_eq_false', bne_iff_ne, beq_iff_eq, beq_eq_false_iff_ne, bne_eq_false_iff_eq, Int.not_lt, Int.not_le] at hp); (try (exfalso; first | omega | (cases hp; done))));
                refine ex_skip ?_;
                refine ex_seq ?_;
                refine ex_block ?_;
                refine ex_seq ?_;
                refine ex_region ?_;
                apply exl_is; rfl; rfl; rfl; (apply g_move; rfl);
                apply exl_is; rfl; rfl; rfl; (apply g_move; rfl);
                apply exl_is; rfl; rfl; rfl; (apply g_shrQ; rfl; rfl; rfl; rfl; omega; exact hq);
                apply exl_is; rfl; rfl; rfl; (apply g_andQ; rfl; rfl; rfl; exact (rfl : (1:Int) = ((1:Nat):Int)); omega; exact Nat.le_of_ble_eq_true rfl; exact hr);
                apply exl_isB; rfl; rfl; rfl; (apply g_binInt; rfl; rfl; rfl); intro _ _;
                apply exl_is; rfl; rfl; rfl; (apply g_move; rfl);
                refine exl_caseL rfl (fun h => ?_) (fun h => ?_) <;> ((first | (subst h; rename BV _ true => h0; have h := h0.eq; clear h0) | (subst h; rename BV _ false => h0; have h := h0.eq; clear h0) | skip); (have hp := h; try simp only [decide_eq_true_eq, decide_eq_false_iff_not, Bool.not_eq_true', Bool.not_eq_false', bne_iff_ne, beq_iff_eq, beq_eq_false_iff_ne, bne_eq_false_iff_eq, Int.not_lt, Int.not_le] at hp); (try (exfalso; first | omega | (cases hp; done))));
                apply exl_isW; rfl; (rfl); rfl; rfl; (apply g_move; rfl);
                apply exl_isW; rfl; (rfl); rfl; rfl; (apply g_move; rfl);
                apply exl_isW; rfl; (rfl); rfl; rfl; (apply g_indexDl; rfl; rfl; rfl; (rfl); (assumption));
                apply exl_isW; rfl; (rfl); rfl; rfl; (apply g_load1; rfl; rfl; (exact .e rfl));
                apply exl_is; rfl; rfl; rfl; (apply g_pick_t; rfl; (rfl); rfl);
                apply exl_is; rfl; rfl; rfl; (apply g_move; rfl);
                apply exl_isW; rfl; (rfl); rfl; rfl; (apply g_move; rfl);
                apply exl_isW; rfl; (rfl); rfl; rfl; (apply g_move; rfl);
                apply exl_isW; rfl; (rfl); rfl; rfl; (apply g_move; rfl);
                apply exl_isW; rfl; (rfl); rfl; rfl; (apply g_shl1; rfl; rfl; rfl; (rfl); omega);
                apply exl_isW; rfl; (rfl); rfl; rfl; (apply g_sub; rfl; rfl; rfl; exact ⟨by omega, by omega⟩);
                apply exl_isW; rfl; (rfl); rfl; rfl; (apply g_indexDl; rfl; rfl; rfl; (assumption); (assumption));
                apply exl_isW; rfl; (rfl); rfl; rfl; (apply g_load1; rfl; rfl; (exact .e rfl));
                apply exl_isBW; rfl; (rfl); rfl; rfl; (apply g_not; rfl); intro _ _;
                apply exl_is; rfl; rfl; rfl; (apply g_pick_t; rfl; (rfl); rfl);
                refine exl_nilT ?_;
                refine ex_cond rfl (fun h => ?_) (fun h => ?_) <;> ((first | (subst h; rename BV _ true => h0; have h := h0.eq; clear h0) | (subst h; rename BV _ false => h0; have h := h0.eq; clear h0) | skip); (have hp := h; try simp only [decide_eq_true_eq, decide_eq_false_iff_not, Bool.not_eq_true', Bool.not_eq_false', bne_iff_ne, beq_iff_eq, beq_eq_false_iff_ne, bne_eq_false_iff_eq, Int.not_lt, Int.not_le] at hp); (try (exfalso; first | omega | (cases hp; done))));
                refine ex_seq ?_;
                refine ex_region ?_;
                apply exl_is; rfl; rfl; rfl; (apply g_assign; rfl);
                refine exl_nilT ?_;
                refine ex_ret ?_;
                simp only [thenA, blockA, roundA, noGotoA, retA, ↓reduceIte, Nat.reduceEqDiff];
                rotate_left
                (all_goals (repeat (rename BV _ _ => hbv; cases hbv)))
                all_goals (try (exfalso; first | (rename true = false => hx; cases hx; done) | (rename false = true => hx; cases hx; done)))
                refine ret_is .nil (.cons (.ofTmp rfl) .nil) (by repeat (first | exact List.Sublist.refl _ | apply List.Sublist.cons_cons | apply List.Sublist.cons)) ?_
                rfl
            | false =>
              rw [ht] at hgc hst2 hin2
              refine ex_seq ?_;
              refine ex_seq ?_;
              refine ex_region ?_;
              apply exl_is; rfl; rfl; rfl; (apply g_move; rfl);
              apply exl_is; rfl; rfl; rfl; (apply g_move; rfl);
              apply exl_isB; rfl; rfl; rfl; (apply g_binInt; rfl; rfl; rfl); intro _ _;
              refine exl_nilT ?_;
              refine ex_cond rfl (fun h => ?_) (fun h => ?_) <;> ((first | (subst h; rename BV _ true => h0; have h := h0.eq; clear h0) | (subst h; rename BV _ false => h0; have h := h0.eq; clear h0) | skip); (have hp := h; try simp only [decide_eq_true_eq, decide_eq_false_iff_not, Bool.not_eq_true', Bool.not_eq_false', bne_iff_ne, beq_iff_eq, beq_eq_false_iff_ne, bne_eq_false_iff_eq, Int.not_lt, Int.not_le] at hp); (try (exfalso; first | omega | (cases hp; done))));
              refine ex_skip ?_;
              refine ex_seq ?_;
              refine ex_block ?_;
              refine ex_seq ?_;
              refine ex_region ?_;
              apply exl_is; rfl; rfl; rfl; (apply g_move; rfl);
              apply exl_is; rfl; rfl; rfl; (apply g_move; rfl);
              apply exl_is; rfl; rfl; rfl; (apply g_shrQ; rfl; rfl; rfl; rfl; omega; exact hq);
              apply exl_is; rfl; rfl; rfl; (apply g_andQ; rfl; rfl; rfl; exact (rfl : (1:Int) = ((1:Nat):Int)); omega; exact Nat.le_of_ble_eq_true rfl; exact hr);
              apply exl_isB; rfl; rfl; rfl; (apply g_binInt; rfl; rfl; rfl); intro _ _;
              apply exl_is; rfl; rfl; rfl; (apply g_move; rfl);
              refine exl_caseL rfl (fun h => ?_) (fun h => ?_) <;> ((first | (subst h; rename BV _ true => h0; have h := h0.eq; clear h0) | (subst h; rename BV _ false => h0; have h := h0.eq; clear h0) | skip); (have hp := h; try simp only [decide_eq_true_eq, decide_eq_false_iff_not, Bool.not_eq_true', Bool.not_eq_false', bne_iff_ne, beq_iff_eq, beq_eq_false_iff_ne, bne_eq_false_iff_eq, Int.not_lt, Int.not_le] at hp); (try (exfalso; first | omega | (cases hp; done))));
              apply exl_isW; rfl; (rfl); rfl; rfl; (apply g_move; rfl);
              apply exl_isW; rfl; (rfl); rfl; rfl; (apply g_move; rfl);
              apply exl_isW; rfl; (rfl); rfl; rfl; (apply g_indexDl; rfl; rfl; rfl; (rfl); (assumption));
              apply exl_isW; rfl; (rfl); rfl; rfl; (apply g_load1; rfl; rfl; (exact .e rfl));
              apply exl_is; rfl; rfl; rfl; (apply g_pick_t; rfl; (rfl); rfl);
              apply exl_is; rfl; rfl; rfl; (apply g_move; rfl);
              refine exl_skipL rfl (by rfl) rfl rfl ?_;
              refine exl_skipL rfl (by rfl) rfl rfl ?_;
              refine exl_skipL rfl (by rfl) rfl rfl ?_;
              refine exl_skipL rfl (by rfl) rfl rfl ?_;
              refine exl_skipL rfl (by rfl) rfl rfl ?_;
              refine exl_skipL rfl (by rfl) rfl rfl ?_;
              refine exl_skipL rfl (by rfl) rfl rfl ?_;
              refine exl_skipL rfl (by rfl) rfl rfl ?_;
              apply exl_is; rfl; rfl; rfl; (apply g_pick_f; rfl; (rfl); rfl);
              refine exl_nilT ?_;
              refine ex_cond_f rfl (by rfl) ?_;
              refine ex_skip ?_;
              refine ex_region ?_;
              apply exl_is; rfl; rfl; rfl; (apply g_move; rfl);
              apply exl_is; rfl; rfl; rfl; (apply g_add; rfl; rfl; rfl; exact ⟨by omega, by omega⟩);
              apply exl_is; rfl; rfl; rfl; (apply g_assign; rfl);
              refine exl_nil ?_;
              simp only [thenA, blockA, roundA, noGotoA, retA, ↓reduceIte, Nat.reduceEqDiff];
              rotate_left
              (all_goals (repeat (rename BV _ _ => hbv; cases hbv)))
              all_goals (try (exfalso; first | (rename true = false => hx; cases hx; done) | (rename false = true => hx; cases hx; done)))
              refine ⟨i + 1, ⟨by omega, by rw [hst2]; rfl⟩, by omega, St.le_of (by repeat (first | exact trivial | refine ⟨rfl, ?_⟩)) (by repeat (first | exact List.Sublist.refl _ | apply List.Sublist.cons_cons | apply List.Sublist.cons))⟩
          | false =>
            rw [hb] at hr hst2 hin2
            have hr : q &&& 1 = 0 := hr
            refine ex_seq ?_;
            refine ex_seq ?_;
            refine ex_region ?_;
            apply exl_is; rfl; rfl; rfl; (apply g_move; rfl);
            apply exl_is; rfl; rfl; rfl; (apply g_move; rfl);
            apply exl_isB; rfl; rfl; rfl; (apply g_binInt; rfl; rfl; rfl); intro _ _;
            refine exl_nilT ?_;
            refine ex_cond rfl (fun h => ?_) (fun h => ?_) <;> ((first | (subst h; rename BV _ true => h0; have h := h0.eq; clear h0) | (subst h; rename BV _ false => h0; have h := h0.eq; clear h0) | skip); (have hp := h; try simp only [decide_eq_true_eq, decide_eq_false_iff_not, Bool.not_eq_true', Bool.not_eq_false', bne_iff_ne, beq_iff_eq, beq_eq_false_iff_ne, bne_eq_false_iff_eq, Int.not_lt, Int.not_le] at hp); (try (exfalso; first | omega | (cases hp; done))));
            refine ex_skip ?_;
            refine ex_seq ?_;
            refine ex_block ?_;
            refine ex_seq ?_;
            refine ex_region ?_;
            apply exl_is; rfl; rfl; rfl; (apply g_move; rfl);
            apply exl_is; rfl; rfl; rfl; (apply g_move; rfl);
            apply exl_is; rfl; rfl; rfl; (apply g_shrQ; rfl; rfl; rfl; rfl; omega; exact hq);
            apply exl_is; rfl; rfl; rfl; (apply g_andQ; rfl; rfl; rfl; exact (rfl : (1:Int) = ((1:Nat):Int)); omega; exact Nat.le_of_ble_eq_true rfl; exact hr);
            apply exl_isB; rfl; rfl; rfl; (apply g_binInt; rfl; rfl; rfl); intro _ _;
            apply exl_is; rfl; rfl; rfl; (apply g_move; rfl);
            refine exl_caseL rfl (fun h => ?_) (fun h => ?_) <;> ((first | (subst h; rename BV _ true => h0; have h := h0.eq; clear h0) | (subst h; rename BV _ false => h0; have h := h0.eq; clear h0) | skip); (have hp := h; try simp only [decide_eq_true_eq, decide_eq_false_iff_not, Bool.not_eq_true', Bool.not_eq_false', bne_iff_ne, beq_iff_eq, beq_eq_false_iff_ne, bne_eq_false_iff_eq, Int.not_lt, Int.not_le] at hp); (try (exfalso; first | omega | (cases hp; done))));
            refine exl_skipL rfl (by rfl) rfl rfl ?_;
            refine exl_skipL rfl (by rfl) rfl rfl ?_;
            refine exl_skipL rfl (by rfl) rfl rfl ?_;
            refine exl_skipL rfl (by rfl) rfl rfl ?_;
            apply exl_is; rfl; rfl; rfl; (apply g_pick_f; rfl; (rfl); rfl);
            apply exl_is; rfl; rfl; rfl; (apply g_move; rfl);
            refine exl_skipL rfl (by rfl) rfl rfl ?_;
            refine exl_skipL rfl (by rfl) rfl rfl ?_;
            refine exl_skipL rfl (by rfl) rfl rfl ?_;
            refine exl_skipL rfl (by rfl) rfl rfl ?_;
            refine exl_skipL rfl (by rfl) rfl rfl ?_;
            refine exl_skipL rfl (by rfl) rfl rfl ?_;
            refine exl_skipL rfl (by rfl) rfl rfl ?_;
            refine exl_skipL rfl (by rfl) rfl rfl ?_;
            apply exl_is; rfl; rfl; rfl; (apply g_pick_f; rfl; (rfl); rfl);
            refine exl_nilT ?_;
            refine ex_cond_f rfl (by rfl) ?_;
            refine ex_skip ?_;
            refine ex_region ?_;
            apply exl_is; rfl; rfl; rfl; (apply g_move; rfl);
            apply exl_is; rfl; rfl; rfl; (apply g_add; rfl; rfl; rfl; exact ⟨by omega, by omega⟩);
            apply exl_is; rfl; rfl; rfl; (apply g_assign; rfl);
            refine exl_nil ?_;
            simp only [thenA, blockA, roundA, noGotoA, retA, ↓reduceIte, Nat.reduceEqDiff];
            rotate_left
            (all_goals (repeat (rename BV _ _ => hbv; cases hbv)))
            all_goals (try (exfalso; first | (rename true = false => hx; cases hx; done) | (rename false = true => hx; cases hx; done)))
            refine ⟨i + 1, ⟨by omega, by rw [hst2]; rfl⟩, by omega, St.le_of (by repeat (first | exact trivial | refine ⟨rfl, ?_⟩)) (by repeat (first | exact List.Sublist.refl _ | apply List.Sublist.cons_cons | apply List.Sublist.cons))⟩
        · have e : i = N := by omega
          rw [e] at hJ2
          rw [show monoAt (tabF l) N s = true from hJ2] at hst
          clear hin
          refine ex_seq ?_;
          refine ex_seq ?_;
          refine ex_region ?_;
          apply exl_is; rfl; rfl; rfl; (apply g_move; rfl);
          apply exl_is; rfl; rfl; rfl; (apply g_move; rfl);
          apply exl_isB; rfl; rfl; rfl; (apply g_binInt; rfl; rfl; rfl); intro _ _;
          refine exl_nilT ?_;
          refine ex_cond rfl (fun h => ?_) (fun h => ?_) <;> ((first | (subst h; rename BV _ true => h0; have h := h0.eq; clear h0) | (subst h; rename BV _ false => h0; have h := h0.eq; clear h0) | skip); (have hp := h; try simp only [decide_eq_true_eq, decide_eq_false_iff_not, Bool.not_eq_true', Bool.not_eq_false', bne_iff_ne, beq_iff_eq, beq_eq_false_iff_ne, bne_eq_false_iff_eq, Int.not_lt, Int.not_le] at hp); (try (exfalso; first | omega | (cases hp; done))));
          refine ex_exit ?_;
          refine ex_region ?_;
          apply exl_is; rfl; rfl; rfl; (apply g_move; rfl);
          apply exl_is; rfl; rfl; rfl; (apply g_add; rfl; rfl; rfl; exact ⟨by omega, by omega⟩);
          apply exl_is; rfl; rfl; rfl; (apply g_assign; rfl);
          refine exl_nil ?_;
          simp only [thenA, blockA, roundA, noGotoA, retA, ↓reduceIte, Nat.reduceEqDiff];
          rotate_left
          (all_goals (repeat (rename BV _ _ => hbv; cases hbv)))
          all_goals (try (exfalso; first | (rename true = false => hx; cases hx; done) | (rename false = true => hx; cases hx; done)))
          refine ⟨s + 1, ⟨by omega, hst⟩, by omega, St.le_of (by repeat (first | exact trivial | refine ⟨rfl, ?_⟩)) (by repeat (first | exact List.Sublist.refl _ | apply List.Sublist.cons_cons | apply List.Sublist.cons))⟩
      · have e : s = l.length := by omega
        subst e
        rw [hI2]
        refine ex_seq ?_;
        refine ex_seq ?_;
        refine ex_region ?_;
        apply exl_is; rfl; rfl; rfl; (apply g_move; rfl);
        apply exl_is; rfl; rfl; rfl; (apply g_move; rfl);
        apply exl_is; rfl; rfl; rfl; (apply g_len; rfl; rfl; (exact (List.length_map _).symm));
        apply exl_isB; rfl; rfl; rfl; (apply g_binInt; rfl; rfl; rfl); intro _ _;
        refine exl_nilT ?_;
        refine ex_cond rfl (fun h => ?_) (fun h => ?_) <;> ((first | (subst h; rename BV _ true => h0; have h := h0.eq; clear h0) | (subst h; rename BV _ false => h0; have h := h0.eq; clear h0) | skip); (have hp := h; try simp only [decide_eq_true_eq, decide_eq_false_iff_not, Bool.not_eq_true', Bool.not_eq_false', bne_iff_ne, beq_iff_eq, beq_eq_false_iff_ne, bne_eq_false_iff_eq, Int.not_lt, Int.not_le] at hp); (try (exfalso; first | omega | (cases hp; done))));
        refine ex_exit ?_;
        refine ex_seq ?_;
        refine ex_region ?_;
        apply exl_is; rfl; rfl; rfl; (apply g_assign; rfl);
        refine exl_nilT ?_;
        refine ex_ret ?_;
        simp only [thenA, blockA, roundA, noGotoA, retA, ↓reduceIte, Nat.reduceEqDiff];
        rotate_left
        (all_goals (repeat (rename BV _ _ => hbv; cases hbv)))
        all_goals (try (exfalso; first | (rename true = false => hx; cases hx; done) | (rename false = true => hx; cases hx; done)))
        refine ret_is .nil (.cons (.ofTmp rfl) .nil) (by repeat (first | exact List.Sublist.refl _ | apply List.Sublist.cons_cons | apply List.Sublist.cons)) ?_
        rfl
    · rw [if_pos hl]
      refine ex_seq ?_;
      refine ex_region ?_;
      apply exl_is; rfl; rfl; rfl; (apply g_assign; rfl);
      refine exl_nilT ?_;
      refine ex_seq ?_;
      refine ex_seq ?_;
      refine ex_region ?_;
      apply exl_is; rfl; rfl; rfl; (apply g_move; rfl);
      apply exl_isB; rfl; rfl; rfl; (apply g_binInt; rfl; rfl; rfl); intro _ _;
      refine exl_nilT ?_;
      refine ex_cond rfl (fun h => ?_) (fun h => ?_) <;> ((first | (subst h; rename BV _ true => h0; have h := h0.eq; clear h0) | (subst h; rename BV _ false => h0; have h := h0.eq; clear h0) | skip); (have hp := h; try simp only [decide_eq_true_eq, decide_eq_false_iff_not, Bool.not_eq_true', Bool.not_eq_false', bne_iff_ne, beq_iff_eq, beq_eq_false_iff_ne, bne_eq_false_iff_eq, Int.not_lt, Int.not_le] at hp); (try (exfalso; first | omega | (cases hp; done))));
      refine ex_skip ?_;
      refine ex_seq ?_;
      refine ex_seq ?_;
      refine ex_region ?_;
      apply exl_is; rfl; rfl; rfl; (apply g_move; rfl);
      apply exl_isB; rfl; rfl; rfl; (apply g_binInt; rfl; rfl; rfl); intro _ _;
      refine exl_nilT ?_;
      refine ex_cond rfl (fun h => ?_) (fun h => ?_) <;> ((first | (subst h; rename BV _ true => h0; have h := h0.eq; clear h0) | (subst h; rename BV _ false => h0; have h := h0.eq; clear h0) | skip); (have hp := h; try simp only [decide_eq_true_eq, decide_eq_false_iff_not, Bool.not_eq_true', Bool.not_eq_false', bne_iff_ne, beq_iff_eq, beq_eq_false_iff_ne, bne_eq_false_iff_eq, Int.not_lt, Int.not_le] at hp); (try (exfalso; first | omega | (cases hp; done))));
      refine ex_skip ?_;
      refine ex_seq ?_;
      refine ex_seq ?_;
      refine ex_region ?_;
      apply exl_is; rfl; rfl; rfl; (apply g_move; rfl);
      apply exl_is; rfl; rfl; rfl; (apply g_len; rfl; rfl; (exact (List.length_map _).symm));
      apply exl_is; rfl; rfl; rfl; (apply g_move; rfl);
      apply exl_is; rfl; rfl; rfl; (apply g_shl1; rfl; rfl; rfl; (assumption); omega);
      apply exl_isB; rfl; rfl; rfl; (apply g_binInt; rfl; rfl; rfl); intro _ _;
      refine exl_nilT ?_;
      refine ex_cond rfl (fun h => ?_) (fun h => ?_) <;> ((first | (subst h; rename BV _ true => h0; have h := h0.eq; clear h0) | (subst h; rename BV _ false => h0; have h := h0.eq; clear h0) | skip); (have hp := h; try simp only [decide_eq_true_eq, decide_eq_false_iff_not, Bool.not_eq_true', Bool.not_eq_false', bne_iff_ne, beq_iff_eq, beq_eq_false_iff_ne, bne_eq_false_iff_eq, Int.not_lt, Int.not_le] at hp); (try (exfalso; first | omega | (cases hp; done))));
      refine ex_seq ?_;
      refine ex_region ?_;
      apply exl_is; rfl; rfl; rfl; (apply g_assign; rfl);
      refine exl_nilT ?_;
      refine ex_ret ?_;
      simp only [thenA, blockA, roundA, noGotoA, retA, ↓reduceIte, Nat.reduceEqDiff];
      rotate_left
      (all_goals (repeat (rename BV _ _ => hbv; cases hbv)))
      all_goals (try (exfalso; first | (rename true = false => hx; cases hx; done) | (rename false = true => hx; cases hx; done)))
      all_goals
        refine ret_is .nil (.cons (.ofTmp rfl) .nil) (by repeat (first | exact List.Sublist.refl _ | apply List.Sublist.cons_cons | apply List.Sublist.cons)) ?_
        rfl
  · refine ex_seq ?_;
    refine ex_region ?_;
    apply exl_is; rfl; rfl; rfl; (apply g_assign; rfl);
    refine exl_nilT ?_;
    refine ex_seq ?_;
    refine ex_seq ?_;
    refine ex_region ?_;
    apply exl_is; rfl; rfl; rfl; (apply g_move; rfl);
    apply exl_isB; rfl; rfl; rfl; (apply g_binInt; rfl; rfl; rfl); intro _ _;
    refine exl_nilT ?_;
    refine ex_cond rfl (fun h => ?_) (fun h => ?_) <;> ((first | (subst h; rename BV _ true => h0; have h := h0.eq; clear h0) | (subst h; rename BV _ false => h0; have h := h0.eq; clear h0) | skip); (have hp := h; try simp only [decide_eq_true_eq, decide_eq_false_iff_not, Bool.not_eq_true', Bool.not_eq_false', bne_iff_ne, beq_iff_eq, beq_eq_false_iff_ne, bne_eq_false_iff_eq, Int.not_lt, Int.not_le] at hp); (try (exfalso; first | omega | (cases hp; done))));
    refine ex_seq ?_;
    refine ex_region ?_;
    apply exl_is; rfl; rfl; rfl; (apply g_assign; rfl);
    refine exl_nilT ?_;
    refine ex_ret ?_;
    simp only [thenA, blockA, roundA, noGotoA, retA, ↓reduceIte, Nat.reduceEqDiff];
    rotate_left;
    refine ex_skip ?_;
    refine ex_seq ?_;
    refine ex_seq ?_;
    refine ex_region ?_;
    apply exl_is; rfl; rfl; rfl; (apply g_move; rfl);
    apply exl_isB; rfl; rfl; rfl; (apply g_binInt; rfl; rfl; rfl); intro _ _;
    refine exl_nilT ?_;
    refine ex_cond rfl (fun h => ?_) (fun h => ?_) <;> ((first | (subst h; rename BV _ true => h0; have h := h0.eq; clear h0) | (subst h; rename BV _ false => h0; have h := h0.eq; clear h0) | skip); (have hp := h; try simp only [decide_eq_true_eq, decide_eq_false_iff_not, Bool.not_eq_true', Bool.not_eq_false', bne_iff_ne, beq_iff_eq, beq_eq_false_iff_ne, bne_eq_false_iff_eq, Int.not_lt, Int.not_le] at hp); (try (exfalso; first | omega | (cases hp; done))));
    refine ex_seq ?_;
    refine ex_region ?_;
    apply exl_is; rfl; rfl; rfl; (apply g_assign; rfl);
    refine exl_nilT ?_;
    refine ex_ret ?_;
    simp only [thenA, blockA, roundA, noGotoA, retA, ↓reduceIte, Nat.reduceEqDiff];
    rotate_left
    (all_goals (repeat (rename BV _ _ => hbv; cases hbv)))
    all_goals (try (exfalso; first | (rename true = false => hx; cases hx; done) | (rename false = true => hx; cases hx; done)))
    all_goals
      refine ret_is .nil (.cons (.ofTmp rfl) .nil) (by repeat (first | exact List.Sublist.refl _ | apply List.Sublist.cons_cons | apply List.Sublist.cons)) ?_
      refine int_eq ?_
      unfold tableH
      first
        | (rw [if_pos (by omega)]; done)
        | (rw [if_neg (by omega), if_pos (by omega)]; done)
set_option maxHeartbeats 2000000 in
set_option maxRecDepth 10000 in
theorem rCore_c (N : Nat) (l : List Bool) (s : Nat) (hN : N ≤ 12) (hl : l.length = 2 ^ N) (hs : s < 2 ^ N) (σ : List Ent) : SCall Try.prog 44 [.int .i64 N, bools l, .int .i64 s] σ (Is (.bool (coreB N (tabF l) s)) σ) := by
  refine scall_of Try.func44 rfl (by simp) ?_
  have hgc := tab_cells (l := l) (s := s) (by omega)
  have hp := pow12 hN
  unfold coreB
  cases ht : tabF l s with
  | true =>
    rw [ht] at hgc
    refine ex_seq ?_;
    refine ex_region ?_;
    apply exl_is; rfl; rfl; rfl; (apply g_assign; rfl);
    refine exl_nilT ?_;
    refine ex_seq ?_;
    refine ex_seq ?_;
    refine ex_region ?_;
    apply exl_is; rfl; rfl; rfl; (apply g_move; rfl);
    apply exl_is; rfl; rfl; rfl; (apply g_move; rfl);
    apply exl_is; rfl; rfl; rfl; (apply g_indexDl; rfl; rfl; rfl; (rfl); (assumption));
    apply exl_is; rfl; rfl; rfl; (apply g_load1; rfl; rfl; (exact .e rfl));
    refine exl_nilT ?_;
    refine ex_cond_t rfl (by rfl) ?_;
    refine ex_seq ?_;
    refine ex_region ?_;
    apply exl_is; rfl; rfl; rfl; (apply g_assign; rfl);
    refine exl_nilT ?_;
    refine ex_ret ?_;
    simp only [thenA, blockA, roundA, noGotoA, retA, ↓reduceIte, Nat.reduceEqDiff];
    rotate_left
    (all_goals (repeat (rename BV _ _ => hbv; cases hbv)))
    all_goals (try (exfalso; first | (rename true = false => hx; cases hx; done) | (rename false = true => hx; cases hx; done)))
    refine ret_is .nil (.cons (.ofTmp rfl) .nil) (by repeat (first | exact List.Sublist.refl _ | apply List.Sublist.cons_cons | apply List.Sublist.cons)) (bool_eq ?_)
    rfl
  | false =>
    rw [ht] at hgc
    refine ex_seq ?_;
    refine ex_region ?_;
    apply exl_is; rfl; rfl; rfl; (apply g_assign; rfl);
    refine exl_nilT ?_;
    refine ex_seq ?_;
    refine ex_seq ?_;
    refine ex_region ?_;
    apply exl_is; rfl; rfl; rfl; (apply g_move; rfl);
    apply exl_is; rfl; rfl; rfl; (apply g_move; rfl);
    apply exl_is; rfl; rfl; rfl; (apply g_indexDl; rfl; rfl; rfl; (rfl); (assumption));
    apply exl_is; rfl; rfl; rfl; (apply g_load1; rfl; rfl; (exact .e rfl));
    refine exl_nilT ?_;
    refine ex_cond_f rfl (by rfl) ?_;
    refine ex_skip ?_;
    refine ex_seq ?_;
    refine ex_seq ?_;
    refine ex_region ?_;
    apply exl_is; rfl; rfl; rfl; (apply g_assign; rfl);
    refine exl_nilT ?_;
    refine ex_block ?_;
    rotate_left
    (all_goals (repeat (rename BV _ _ => hbv; cases hbv)))
    all_goals (try (exfalso; first | (rename true = false => hx; cases hx; done) | (rename false = true => hx; cases hx; done)))
    refine ex_loop (fun (i : Nat) => (⟨[(0, .int .i64 N), (1, bools l), (2, .int .i64 s), (7, .int .i64 i)], σ, [], Try.f44.ntmps⟩ : St)) (fun i => i ≤ N ∧ ((List.range i).all fun i => !(s.testBit i && !tabF l (wout s i))) = true) (fun i => N - i) 0 (⟨Nat.zero_le _, rfl⟩) (St.le_of (by repeat (first | exact trivial | refine ⟨rfl, ?_⟩)) (by repeat (first | exact List.Sublist.refl _ | apply List.Sublist.cons_cons | apply List.Sublist.cons))) ?_
    intro i hI
    obtain ⟨hI1, hI2⟩ := hI
    by_cases hi : i < N
    · have hst := range_all i fun i => !(s.testBit i && !tabF l (wout s i))
      rw [hI2, Bool.true_and] at hst
      have hin : (!(s.testBit i && !tabF l (wout s i))) = false → ((List.range N).all fun i => !(s.testBit i && !tabF l (wout s i))) = false := fun h => by
        rw [List.all_eq_false]
        exact ⟨i, List.mem_range.2 hi, by rw [h]; simp⟩
      have hr := shr_one s i
      obtain ⟨q, hq⟩ : ∃ q, s >>> i = q := ⟨_, rfl⟩
      have hqs : q ≤ s := by rw [← hq]; exact Nat.shiftRight_le _ _
      rw [hq] at hr
      cases hb : s.testBit i with
      | true =>
        rw [hb] at hr hst hin
        have hr : q &&& 1 = 1 := hr
        have hw := wout_cast hb
        have hws := (wout_sub hb).le
        have hpw := pow12 (N := i) (by omega)
        have hgw := tab_cells (l := l) (s := wout s i) (by omega)
        obtain ⟨g, hg⟩ : ∃ g, wout s i = g := ⟨_, rfl⟩
        rw [hg] at hw hst hin hgw
        cases hh2 : tabF l g with
        | true =>
          rw [hh2] at hgw hst hin
          refine ex_seq ?_;
          refine ex_seq ?_;
          refine ex_region ?_;
          apply exl_is; rfl; rfl; rfl; (apply g_move; rfl);
          apply exl_is; rfl; rfl; rfl; (apply g_move; rfl);
          apply exl_isB; rfl; rfl; rfl; (apply g_binInt; rfl; rfl; rfl); intro _ _;
          refine exl_nilT ?_;
          refine ex_cond rfl (fun h => ?_) (fun h => ?_) <;> ((first | (subst h; rename BV _ true => h0; have h := h0.eq; clear h0) | (subst h; rename BV _ false => h0; have h := h0.eq; clear h0) | skip); (have hp := h; try simp only [decide_eq_true_eq, decide_eq_false_iff_not, Bool.not_eq_true', Bool.not_eq_false', bne_iff_ne, beq_iff_eq, beq_eq_false_iff_ne, bne_eq_false_iff_eq, Int.not_lt, Int.not_le] at hp); (try (exfalso; first | omega | (cases hp; done))));
          refine ex_skip ?_;
          refine ex_seq ?_;
          refine ex_block ?_;
          refine ex_seq ?_;
          refine ex_region ?_;
          apply exl_is; rfl; rfl; rfl; (apply g_move; rfl);
          apply exl_is; rfl; rfl; rfl; (apply g_move; rfl);
          apply exl_is; rfl; rfl; rfl; (apply g_shrQ; rfl; rfl; rfl; rfl; omega; exact hq);
          apply exl_is; rfl; rfl; rfl; (apply g_andQ; rfl; rfl; rfl; exact (rfl : (1:Int) = ((1:Nat):Int)); omega; exact Nat.le_of_ble_eq_true rfl; exact hr);
          apply exl_isB; rfl; rfl; rfl; (apply g_binInt; rfl; rfl; rfl); intro _ _;
          apply exl_is; rfl; rfl; rfl; (apply g_move; rfl);
          refine exl_caseL rfl (fun h => ?_) (fun h => ?_) <;> ((first | (subst h; rename BV _ true => h0; have h := h0.eq; clear h0) | (subst h; rename BV _ false => h0; have h := h0.eq; clear h0) | skip); (have hp := h; try simp only [decide_eq_true_eq, decide_eq_false_iff_not, Bool.not_eq_true', Bool.not_eq_false', bne_iff_ne, beq_iff_eq, beq_eq_false_iff_ne, bne_eq_false_iff_eq, Int.not_lt, Int.not_le] at hp); (try (exfalso; first | omega | (cases hp; done))));
          apply exl_isW; rfl; (rfl); rfl; rfl; (apply g_move; rfl);
          apply exl_isW; rfl; (rfl); rfl; rfl; (apply g_move; rfl);
          apply exl_isW; rfl; (rfl); rfl; rfl; (apply g_move; rfl);
          apply exl_isW; rfl; (rfl); rfl; rfl; (apply g_shl1; rfl; rfl; rfl; (rfl); omega);
          apply exl_isW; rfl; (rfl); rfl; rfl; (apply g_sub; rfl; rfl; rfl; exact ⟨by omega, by omega⟩);
          apply exl_isW; rfl; (rfl); rfl; rfl; (apply g_indexDl; rfl; rfl; rfl; (assumption); (assumption));
          apply exl_isW; rfl; (rfl); rfl; rfl; (apply g_load1; rfl; rfl; (exact .e rfl));
          apply exl_isBW; rfl; (rfl); rfl; rfl; (apply g_not; rfl); intro _ _;
          apply exl_is; rfl; rfl; rfl; (apply g_pick_t; rfl; (rfl); rfl);
          refine exl_nilT ?_;
          refine ex_cond rfl (fun h => ?_) (fun h => ?_) <;> ((first | (subst h; rename BV _ true => h0; have h := h0.eq; clear h0) | (subst h; rename BV _ false => h0; have h := h0.eq; clear h0) | skip); (have hp := h; try simp only [decide_eq_true_eq, decide_eq_false_iff_not, Bool.not_eq_true', Bool.not_eq_false', bne_iff_ne, beq_iff_eq, beq_eq_false_iff_ne, bne_eq_false_iff_eq, Int.not_lt, Int.not_le] at hp); (try (exfalso; first | omega | (cases hp; done))));
          refine ex_skip ?_;
          refine ex_region ?_;
          apply exl_is; rfl; rfl; rfl; (apply g_move; rfl);
          apply exl_is; rfl; rfl; rfl; (apply g_add; rfl; rfl; rfl; exact ⟨by omega, by omega⟩);
          apply exl_is; rfl; rfl; rfl; (apply g_assign; rfl);
          refine exl_nil ?_;
          simp only [thenA, blockA, roundA, noGotoA, retA, ↓reduceIte, Nat.reduceEqDiff];
          rotate_left
          (all_goals (repeat (rename BV _ _ => hbv; cases hbv)))
          all_goals (try (exfalso; first | (rename true = false => hx; cases hx; done) | (rename false = true => hx; cases hx; done)))
          refine ⟨i + 1, ⟨by omega, by rw [hst]; rfl⟩, by omega, St.le_of (by repeat (first | exact trivial | refine ⟨rfl, ?_⟩)) (by repeat (first | exact List.Sublist.refl _ | apply List.Sublist.cons_cons | apply List.Sublist.cons))⟩
        | false =>
          rw [hh2] at hgw hst hin
          refine ex_seq ?_;
          refine ex_seq ?_;
          refine ex_region ?_;
          apply exl_is; rfl; rfl; rfl; (apply g_move; rfl);
          apply exl_is; rfl; rfl; rfl; (apply g_move; rfl);
          apply exl_isB; rfl; rfl; rfl; (apply g_binInt; rfl; rfl; rfl); intro _ _;
          refine exl_nilT ?_;
          refine ex_cond rfl (fun h => ?_) (fun h => ?_) <;> ((first | (subst h; rename BV _ true => h0; have h := h0.eq; clear h0) | (subst h; rename BV _ false => h0; have h := h0.eq; clear h0) | skip); (have hp := h; try simp only [decide_eq_true_eq, decide_eq_false_iff_not, Bool.not_eq_true', Bool.not_eq_false', bne_iff_ne, beq_iff_eq, beq_eq_false_iff_ne, bne_eq_false_iff_eq, Int.not_lt, Int.not_le] at hp); (try (exfalso; first | omega | (cases hp; done))));
          refine ex_skip ?_;
          refine ex_seq ?_;
          refine ex_block ?_;
          refine ex_seq ?_;
          refine ex_region ?_;
          apply exl_is; rfl; rfl; rfl; (apply g_move; rfl);
          apply exl_is; rfl; rfl; rfl; (apply g_move; rfl);
          apply exl_is; rfl; rfl; rfl; (apply g_shrQ; rfl; rfl; rfl; rfl; omega; exact hq);
          apply exl_is; rfl; rfl; rfl; (apply g_andQ; rfl; rfl; rfl; exact (rfl : (1:Int) = ((1:Nat):Int)); omega; exact Nat.le_of_ble_eq_true rfl; exact hr);
          apply exl_isB; rfl; rfl; rfl; (apply g_binInt; rfl; rfl; rfl); intro _ _;
          apply exl_is; rfl; rfl; rfl; (apply g_move; rfl);
          refine exl_caseL rfl (fun h => ?_) (fun h => ?_) <;> ((first | (subst h; rename BV _ true => h0; have h := h0.eq; clear h0) | (subst h; rename BV _ false => h0; have h := h0.eq; clear h0) | skip); (have hp := h; try simp only [decide_eq_true_eq, decide_eq_false_iff_not, Bool.not_eq_true', Bool.not_eq_false', bne_iff_ne, beq_iff_eq, beq_eq_false_iff_ne, bne_eq_false_iff_eq, Int.not_lt, Int.not_le] at hp); (try (exfalso; first | omega | (cases hp; done))));
          apply exl_isW; rfl; (rfl); rfl; rfl; (apply g_move; rfl);
          apply exl_isW; rfl; (rfl); rfl; rfl; (apply g_move; rfl);
          apply exl_isW; rfl; (rfl); rfl; rfl; (apply g_move; rfl);
          apply exl_isW; rfl; (rfl); rfl; rfl; (apply g_shl1; rfl; rfl; rfl; (rfl); omega);
          apply exl_isW; rfl; (rfl); rfl; rfl; (apply g_sub; rfl; rfl; rfl; exact ⟨by omega, by omega⟩);
          apply exl_isW; rfl; (rfl); rfl; rfl; (apply g_indexDl; rfl; rfl; rfl; (assumption); (assumption));
          apply exl_isW; rfl; (rfl); rfl; rfl; (apply g_load1; rfl; rfl; (exact .e rfl));
          apply exl_isBW; rfl; (rfl); rfl; rfl; (apply g_not; rfl); intro _ _;
          apply exl_is; rfl; rfl; rfl; (apply g_pick_t; rfl; (rfl); rfl);
          refine exl_nilT ?_;
          refine ex_cond rfl (fun h => ?_) (fun h => ?_) <;> ((first | (subst h; rename BV _ true => h0; have h := h0.eq; clear h0) | (subst h; rename BV _ false => h0; have h := h0.eq; clear h0) | skip); (have hp := h; try simp only [decide_eq_true_eq, decide_eq_false_iff_not, Bool.not_eq_true', Bool.not_eq_false', bne_iff_ne, beq_iff_eq, beq_eq_false_iff_ne, bne_eq_false_iff_eq, Int.not_lt, Int.not_le] at hp); (try (exfalso; first | omega | (cases hp; done))));
          refine ex_seq ?_;
          refine ex_region ?_;
          apply exl_is; rfl; rfl; rfl; (apply g_assign; rfl);
          refine exl_nilT ?_;
          refine ex_ret ?_;
          simp only [thenA, blockA, roundA, noGotoA, retA, ↓reduceIte, Nat.reduceEqDiff];
          rotate_left
          (all_goals (repeat (rename BV _ _ => hbv; cases hbv)))
          all_goals (try (exfalso; first | (rename true = false => hx; cases hx; done) | (rename false = true => hx; cases hx; done)))
          rw [hin rfl]
          refine ret_is .nil (.cons (.ofTmp rfl) .nil) (by repeat (first | exact List.Sublist.refl _ | apply List.Sublist.cons_cons | apply List.Sublist.cons)) (bool_eq ?_)
          rfl
      | false =>
        rw [hb] at hr hst hin
        have hr : q &&& 1 = 0 := hr
        refine ex_seq ?_;
        refine ex_seq ?_;
        refine ex_region ?_;
        apply exl_is; rfl; rfl; rfl; (apply g_move; rfl);
        apply exl_is; rfl; rfl; rfl; (apply g_move; rfl);
        apply exl_isB; rfl; rfl; rfl; (apply g_binInt; rfl; rfl; rfl); intro _ _;
        refine exl_nilT ?_;
        refine ex_cond rfl (fun h => ?_) (fun h => ?_) <;> ((first | (subst h; rename BV _ true => h0; have h := h0.eq; clear h0) | (subst h; rename BV _ false => h0; have h := h0.eq; clear h0) | skip); (have hp := h; try simp only [decide_eq_true_eq, decide_eq_false_iff_not, Bool.not_eq_true', Bool.not_eq_false', bne_iff_ne, beq_iff_eq, beq_eq_false_iff_ne, bne_eq_false_iff_eq, Int.not_lt, Int.not_le] at hp); (try (exfalso; first | omega | (cases hp; done))));
        refine ex_skip ?_;
        refine ex_seq ?_;
        refine ex_block ?_;
        refine ex_seq ?_;
        refine ex_region ?_;
        apply exl_is; rfl; rfl; rfl; (apply g_move; rfl);
        apply exl_is; rfl; rfl; rfl; (apply g_move; rfl);
        apply exl_is; rfl; rfl; rfl; (apply g_shrQ; rfl; rfl; rfl; rfl; omega; exact hq);
        apply exl_is; rfl; rfl; rfl; (apply g_andQ; rfl; rfl; rfl; exact (rfl : (1:Int) = ((1:Nat):Int)); omega; exact Nat.le_of_ble_eq_true rfl; exact hr);
        apply exl_isB; rfl; rfl; rfl; (apply g_binInt; rfl; rfl; rfl); intro _ _;
        apply exl_is; rfl; rfl; rfl; (apply g_move; rfl);
        refine exl_caseL rfl (fun h => ?_) (fun h => ?_) <;> ((first | (subst h; rename BV _ true => h0; have h := h0.eq; clear h0) | (subst h; rename BV _ false => h0; have h := h0.eq; clear h0) | skip); (have hp := h; try simp only [decide_eq_true_eq, decide_eq_false_iff_not, Bool.not_eq_true', Bool.not_eq_false', bne_iff_ne, beq_iff_eq, beq_eq_false_iff_ne, bne_eq_false_iff_eq, Int.not_lt, Int.not_le] at hp); (try (exfalso; first | omega | (cases hp; done))));
        refine exl_skipL rfl (by rfl) rfl rfl ?_;
        refine exl_skipL rfl (by rfl) rfl rfl ?_;
        refine exl_skipL rfl (by rfl) rfl rfl ?_;
        refine exl_skipL rfl (by rfl) rfl rfl ?_;
        refine exl_skipL rfl (by rfl) rfl rfl ?_;
        refine exl_skipL rfl (by rfl) rfl rfl ?_;
        refine exl_skipL rfl (by rfl) rfl rfl ?_;
        refine exl_skipL rfl (by rfl) rfl rfl ?_;
        apply exl_is; rfl; rfl; rfl; (apply g_pick_f; rfl; (rfl); rfl);
        refine exl_nilT ?_;
        refine ex_cond_f rfl (by rfl) ?_;
        refine ex_skip ?_;
        refine ex_region ?_;
        apply exl_is; rfl; rfl; rfl; (apply g_move; rfl);
        apply exl_is; rfl; rfl; rfl; (apply g_add; rfl; rfl; rfl; exact ⟨by omega, by omega⟩);
        apply exl_is; rfl; rfl; rfl; (apply g_assign; rfl);
        refine exl_nil ?_;
        simp only [thenA, blockA, roundA, noGotoA, retA, ↓reduceIte, Nat.reduceEqDiff];
        rotate_left
        (all_goals (repeat (rename BV _ _ => hbv; cases hbv)))
        all_goals (try (exfalso; first | (rename true = false => hx; cases hx; done) | (rename false = true => hx; cases hx; done)))
        refine ⟨i + 1, ⟨by omega, by rw [hst]; rfl⟩, by omega, St.le_of (by repeat (first | exact trivial | refine ⟨rfl, ?_⟩)) (by repeat (first | exact List.Sublist.refl _ | apply List.Sublist.cons_cons | apply List.Sublist.cons))⟩
    · have e : i = N := by omega
      subst e
      rw [hI2]
      refine ex_seq ?_;
      refine ex_seq ?_;
      refine ex_region ?_;
      apply exl_is; rfl; rfl; rfl; (apply g_move; rfl);
      apply exl_is; rfl; rfl; rfl; (apply g_move; rfl);
      apply exl_isB; rfl; rfl; rfl; (apply g_binInt; rfl; rfl; rfl); intro _ _;
      refine exl_nilT ?_;
      refine ex_cond rfl (fun h => ?_) (fun h => ?_) <;> ((first | (subst h; rename BV _ true => h0; have h := h0.eq; clear h0) | (subst h; rename BV _ false => h0; have h := h0.eq; clear h0) | skip); (have hp := h; try simp only [decide_eq_true_eq, decide_eq_false_iff_not, Bool.not_eq_true', Bool.not_eq_false', bne_iff_ne, beq_iff_eq, beq_eq_false_iff_ne, bne_eq_false_iff_eq, Int.not_lt, Int.not_le] at hp); (try (exfalso; first | omega | (cases hp; done))));
      refine ex_exit ?_;
      refine ex_seq ?_;
      refine ex_region ?_;
      apply exl_is; rfl; rfl; rfl; (apply g_assign; rfl);
      refine exl_nilT ?_;
      refine ex_ret ?_;
      simp only [thenA, blockA, roundA, noGotoA, retA, ↓reduceIte, Nat.reduceEqDiff];
      rotate_left
      (all_goals (repeat (rename BV _ _ => hbv; cases hbv)))
      all_goals (try (exfalso; first | (rename true = false => hx; cases hx; done) | (rename false = true => hx; cases hx; done)))
      refine ret_is .nil (.cons (.ofTmp rfl) .nil) (by repeat (first | exact List.Sublist.refl _ | apply List.Sublist.cons_cons | apply List.Sublist.cons)) (bool_eq ?_)
      rfl
set_option maxHeartbeats 2000000 in
set_option maxRecDepth 10000 in
theorem rGreatest_c (N : Nat) (l : List Bool) (s : Nat) (hN : N ≤ 12) (hl : l.length = 2 ^ N) (hs : s < 2 ^ N) (σ : List Ent) : SCall Try.prog 45 [.int .i64 N, bools l, .int .i64 s] σ (Is (.bool (maxiB N (tabF l) s)) σ) := by
  refine scall_of Try.func45 rfl (by simp) ?_
  have hgc := tab_cells (l := l) (s := s) (by omega)
  have hp := pow12 hN
  unfold maxiB
  cases ht : tabF l s with
  | false =>
    rw [ht] at hgc
    refine ex_seq ?_;
    refine ex_region ?_;
    apply exl_is; rfl; rfl; rfl; (apply g_assign; rfl);
    refine exl_nilT ?_;
    refine ex_seq ?_;
    refine ex_seq ?_;
    refine ex_region ?_;
    apply exl_is; rfl; rfl; rfl; (apply g_move; rfl);
    apply exl_is; rfl; rfl; rfl; (apply g_move; rfl);
    apply exl_is; rfl; rfl; rfl; (apply g_indexDl; rfl; rfl; rfl; (rfl); (assumption));
    apply exl_is; rfl; rfl; rfl; (apply g_load1; rfl; rfl; (exact .e rfl));
    apply exl_isB; rfl; rfl; rfl; (apply g_not; rfl); intro _ _;
    refine exl_nilT ?_;
    refine ex_cond rfl (fun h => ?_) (fun h => ?_) <;> ((first | (subst h; rename BV _ true => h0; have h := h0.eq; clear h0) | (subst h; rename BV _ false => h0; have h := h0.eq; clear h0) | skip); (have hp := h; try simp only [decide_eq_true_eq, decide_eq_false_iff_not, Bool.not_eq_true', Bool.not_eq_false', bne_iff_ne, beq_iff_eq, beq_eq_false_iff_ne, bne_eq_false_iff_eq, Int.not_lt, Int.not_le] at hp); (try (exfalso; first | omega | (cases hp; done))));
    refine ex_seq ?_;
    refine ex_region ?_;
    apply exl_is; rfl; rfl; rfl; (apply g_assign; rfl);
    refine exl_nilT ?_;
    refine ex_ret ?_;
    simp only [thenA, blockA, roundA, noGotoA, retA, ↓reduceIte, Nat.reduceEqDiff];
    rotate_left
    (all_goals (repeat (rename BV _ _ => hbv; cases hbv)))
    all_goals (try (exfalso; first | (rename true = false => hx; cases hx; done) | (rename false = true => hx; cases hx; done)))
    refine ret_is .nil (.cons (.ofTmp rfl) .nil) (by repeat (first | exact List.Sublist.refl _ | apply List.Sublist.cons_cons | apply List.Sublist.cons)) (bool_eq ?_)
    rfl
  | true =>
    rw [ht] at hgc
    refine ex_seq ?_;
    refine ex_region ?_;
    apply exl_is; rfl; rfl; rfl; (apply g_assign; rfl);
    refine exl_nilT ?_;
    refine ex_seq ?_;
    refine ex_seq ?_;
    refine ex_region ?_;
    apply exl_is; rfl; rfl; rfl; (apply g_move; rfl);
    apply exl_is; rfl; rfl; rfl; (apply g_move; rfl);
    apply exl_is; rfl; rfl; rfl; (apply g_indexDl; rfl; rfl; rfl; (rfl); (assumption));
    apply exl_is; rfl; rfl; rfl; (apply g_load1; rfl; rfl; (exact .e rfl));
    apply exl_isB; rfl; rfl; rfl; (apply g_not; rfl); intro _ _;
    refine exl_nilT ?_;
    refine ex_cond rfl (fun h => ?_) (fun h => ?_) <;> ((first | (subst h; rename BV _ true => h0; have h := h0.eq; clear h0) | (subst h; rename BV _ false => h0; have h := h0.eq; clear h0) | skip); (have hp := h; try simp only [decide_eq_true_eq, decide_eq_false_iff_not, Bool.not_eq_true', Bool.not_eq_false', bne_iff_ne, beq_iff_eq, beq_eq_false_iff_ne, bne_eq_false_iff_eq, Int.not_lt, Int.not_le] at hp); (try (exfalso; first | omega | (cases hp; done))));
    refine ex_skip ?_;
    refine ex_seq ?_;
    refine ex_seq ?_;
    refine ex_region ?_;
    apply exl_is; rfl; rfl; rfl; (apply g_assign; rfl);
    refine exl_nilT ?_;
    refine ex_block ?_;
    rotate_left
    (all_goals (repeat (rename BV _ _ => hbv; cases hbv)))
    all_goals (try (exfalso; first | (rename true = false => hx; cases hx; done) | (rename false = true => hx; cases hx; done)))
    refine ex_loop (fun (i : Nat) => (⟨[(0, .int .i64 N), (1, bools l), (2, .int .i64 s), (7, .int .i64 i)], σ, [], Try.f45.ntmps⟩ : St)) (fun i => i ≤ N ∧ ((List.range i).all fun i => !(!s.testBit i && tabF l (withN s i))) = true) (fun i => N - i) 0 (⟨Nat.zero_le _, rfl⟩) (St.le_of (by repeat (first | exact trivial | refine ⟨rfl, ?_⟩)) (by repeat (first | exact List.Sublist.refl _ | apply List.Sublist.cons_cons | apply List.Sublist.cons))) ?_
    intro i hI
    obtain ⟨hI1, hI2⟩ := hI
    by_cases hi : i < N
    · have hst := range_all i fun i => !(!s.testBit i && tabF l (withN s i))
      rw [hI2, Bool.true_and] at hst
      have hin : (!(!s.testBit i && tabF l (withN s i))) = false → ((List.range N).all fun i => !(!s.testBit i && tabF l (withN s i))) = false := fun h => by
        rw [List.all_eq_false]
        exact ⟨i, List.mem_range.2 hi, by rw [h]; simp⟩
      have hr := shr_one s i
      obtain ⟨q, hq⟩ : ∃ q, s >>> i = q := ⟨_, rfl⟩
      have hqs : q ≤ s := by rw [← hq]; exact Nat.shiftRight_le _ _
      rw [hq] at hr
      cases hb : s.testBit i with
      | false =>
        rw [hb] at hr hst hin
        have hr : q &&& 1 = 0 := hr
        have hw := with_add hb
        have hws := with_lt hs hi
        have hpw := pow12 (N := i) (by omega)
        have hgw := tab_cells (l := l) (s := withN s i) (by omega)
        obtain ⟨g, hg⟩ : ∃ g, withN s i = g := ⟨_, rfl⟩
        rw [hg] at hw hst hin hgw hws
        have hix : (s : Int) + ((2 ^ i : Nat) : Int) = ((g : Nat) : Int) := by omega
        cases hh2 : tabF l g with
        | true =>
          rw [hh2] at hgw hst hin
          refine ex_seq ?_;
          refine ex_seq ?_;
          refine ex_region ?_;
          apply exl_is; rfl; rfl; rfl; (apply g_move; rfl);
          apply exl_is; rfl; rfl; rfl; (apply g_move; rfl);
          apply exl_isB; rfl; rfl; rfl; (apply g_binInt; rfl; rfl; rfl); intro _ _;
          refine exl_nilT ?_;
          refine ex_cond rfl (fun h => ?_) (fun h => ?_) <;> ((first | (subst h; rename BV _ true => h0; have h := h0.eq; clear h0) | (subst h; rename BV _ false => h0; have h := h0.eq; clear h0) | skip); (have hp := h; try simp only [decide_eq_true_eq, decide_eq_false_iff_not, Bool.not_eq_true', Bool.not_eq_false', bne_iff_ne, beq_iff_eq, beq_eq_false_iff_ne, bne_eq_false_iff_eq, Int.not_lt, Int.not_le] at hp); (try (exfalso; first | omega | (cases hp; done))));
          refine ex_skip ?_;
          refine ex_seq ?_;
          refine ex_block ?_;
          refine ex_seq ?_;
          refine ex_region ?_;
          apply exl_is; rfl; rfl; rfl; (apply g_move; rfl);
          apply exl_is; rfl; rfl; rfl; (apply g_move; rfl);
          apply exl_is; rfl; rfl; rfl; (apply g_shrQ; rfl; rfl; rfl; rfl; omega; exact hq);
          apply exl_is; rfl; rfl; rfl; (apply g_andQ; rfl; rfl; rfl; exact (rfl : (1:Int) = ((1:Nat):Int)); omega; exact Nat.le_of_ble_eq_true rfl; exact hr);
          apply exl_isB; rfl; rfl; rfl; (apply g_binInt; rfl; rfl; rfl); intro _ _;
          apply exl_is; rfl; rfl; rfl; (apply g_move; rfl);
          refine exl_caseL rfl (fun h => ?_) (fun h => ?_) <;> ((first | (subst h; rename BV _ true => h0; have h := h0.eq; clear h0) | (subst h; rename BV _ false => h0; have h := h0.eq; clear h0) | skip); (have hp := h; try simp only [decide_eq_true_eq, decide_eq_false_iff_not, Bool.not_eq_true', Bool.not_eq_false', bne_iff_ne, beq_iff_eq, beq_eq_false_iff_ne, bne_eq_false_iff_eq, Int.not_lt, Int.not_le] at hp); (try (exfalso; first | omega | (cases hp; done))));
          apply exl_isW; rfl; (rfl); rfl; rfl; (apply g_move; rfl);
          apply exl_isW; rfl; (rfl); rfl; rfl; (apply g_move; rfl);
          apply exl_isW; rfl; (rfl); rfl; rfl; (apply g_move; rfl);
          apply exl_isW; rfl; (rfl); rfl; rfl; (apply g_shl1; rfl; rfl; rfl; (rfl); omega);
          apply exl_isW; rfl; (rfl); rfl; rfl; (apply g_add; rfl; rfl; rfl; exact ⟨by omega, by omega⟩);
          apply exl_isW; rfl; (rfl); rfl; rfl; (apply g_indexDl; rfl; rfl; rfl; (assumption); (assumption));
          apply exl_isW; rfl; (rfl); rfl; rfl; (apply g_load1; rfl; rfl; (exact .e rfl));
          apply exl_is; rfl; rfl; rfl; (apply g_pick_t; rfl; (rfl); rfl);
          refine exl_nilT ?_;
          refine ex_cond_t rfl (by rfl) ?_;
          refine ex_seq ?_;
          refine ex_region ?_;
          apply exl_is; rfl; rfl; rfl; (apply g_assign; rfl);
          refine exl_nilT ?_;
          refine ex_ret ?_;
          simp only [thenA, blockA, roundA, noGotoA, retA, ↓reduceIte, Nat.reduceEqDiff];
          rotate_left
          (all_goals (repeat (rename BV _ _ => hbv; cases hbv)))
          all_goals (try (exfalso; first | (rename true = false => hx; cases hx; done) | (rename false = true => hx; cases hx; done)))
          rw [hin rfl]
          refine ret_is .nil (.cons (.ofTmp rfl) .nil) (by repeat (first | exact List.Sublist.refl _ | apply List.Sublist.cons_cons | apply List.Sublist.cons)) (bool_eq ?_)
          rfl
        | false =>
          rw [hh2] at hgw hst hin
          refine ex_seq ?_;
          refine ex_seq ?_;
          refine ex_region ?_;
          apply exl_is; rfl; rfl; rfl; (apply g_move; rfl);
          apply exl_is; rfl; rfl; rfl; (apply g_move; rfl);
          apply exl_isB; rfl; rfl; rfl; (apply g_binInt; rfl; rfl; rfl); intro _ _;
          refine exl_nilT ?_;
          refine ex_cond rfl (fun h => ?_) (fun h => ?_) <;> ((first | (subst h; rename BV _ true => h0; have h := h0.eq; clear h0) | (subst h; rename BV _ false => h0; have h := h0.eq; clear h0) | skip); (have hp := h; try simp only [decide_eq_true_eq, decide_eq_false_iff_not, Bool.not_eq_true', Bool.not_eq_false', bne_iff_ne, beq_iff_eq, beq_eq_false_iff_ne, bne_eq_false_iff_eq, Int.not_lt, Int.not_le] at hp); (try (exfalso; first | omega | (cases hp; done))));
          refine ex_skip ?_;
          refine ex_seq ?_;
          refine ex_block ?_;
          refine ex_seq ?_;
          refine ex_region ?_;
          apply exl_is; rfl; rfl; rfl; (apply g_move; rfl);
          apply exl_is; rfl; rfl; rfl; (apply g_move; rfl);
          apply exl_is; rfl; rfl; rfl; (apply g_shrQ; rfl; rfl; rfl; rfl; omega; exact hq);
          apply exl_is; rfl; rfl; rfl; (apply g_andQ; rfl; rfl; rfl; exact (rfl : (1:Int) = ((1:Nat):Int)); omega; exact Nat.le_of_ble_eq_true rfl; exact hr);
          apply exl_isB; rfl; rfl; rfl; (apply g_binInt; rfl; rfl; rfl); intro _ _;
          apply exl_is; rfl; rfl; rfl; (apply g_move; rfl);
          refine exl_caseL rfl (fun h => ?_) (fun h => ?_) <;> ((first | (subst h; rename BV _ true => h0; have h := h0.eq; clear h0) | (subst h; rename BV _ false => h0; have h := h0.eq; clear h0) | skip); (have hp := h; try simp only [decide_eq_true_eq, decide_eq_false_iff_not, Bool.not_eq_true', Bool.not_eq_false', bne_iff_ne, beq_iff_eq, beq_eq_false_iff_ne, bne_eq_false_iff_eq, Int.not_lt, Int.not_le] at hp); (try (exfalso; first | omega | (cases hp; done))));
          apply exl_isW; rfl; (rfl); rfl; rfl; (apply g_move; rfl);
          apply exl_isW; rfl; (rfl); rfl; rfl; (apply g_move; rfl);
          apply exl_isW; rfl; (rfl); rfl; rfl; (apply g_move; rfl);
          apply exl_isW; rfl; (rfl); rfl; rfl; (apply g_shl1; rfl; rfl; rfl; (rfl); omega);
          apply exl_isW; rfl; (rfl); rfl; rfl; (apply g_add; rfl; rfl; rfl; exact ⟨by omega, by omega⟩);
          apply exl_isW; rfl; (rfl); rfl; rfl; (apply g_indexDl; rfl; rfl; rfl; (assumption); (assumption));
          apply exl_isW; rfl; (rfl); rfl; rfl; (apply g_load1; rfl; rfl; (exact .e rfl));
          apply exl_is; rfl; rfl; rfl; (apply g_pick_t; rfl; (rfl); rfl);
          refine exl_nilT ?_;
          refine ex_cond_f rfl (by rfl) ?_;
          refine ex_skip ?_;
          refine ex_region ?_;
          apply exl_is; rfl; rfl; rfl; (apply g_move; rfl);
          apply exl_is; rfl; rfl; rfl; (apply g_add; rfl; rfl; rfl; exact ⟨by omega, by omega⟩);
          apply exl_is; rfl; rfl; rfl; (apply g_assign; rfl);
          refine exl_nil ?_;
          simp only [thenA, blockA, roundA, noGotoA, retA, ↓reduceIte, Nat.reduceEqDiff];
          rotate_left
          (all_goals (repeat (rename BV _ _ => hbv; cases hbv)))
          all_goals (try (exfalso; first | (rename true = false => hx; cases hx; done) | (rename false = true => hx; cases hx; done)))
          refine ⟨i + 1, ⟨by omega, by rw [hst]; rfl⟩, by omega, St.le_of (by repeat (first | exact trivial | refine ⟨rfl, ?_⟩)) (by repeat (first | exact List.Sublist.refl _ | apply List.Sublist.cons_cons | apply List.Sublist.cons))⟩
      | true =>
        rw [hb] at hr hst hin
        have hr : q &&& 1 = 1 := hr
        refine ex_seq ?_;
        refine ex_seq ?_;
        refine ex_region ?_;
        apply exl_is; rfl; rfl; rfl; (apply g_move; rfl);
        apply exl_is; rfl; rfl; rfl; (apply g_move; rfl);
        apply exl_isB; rfl; rfl; rfl; (apply g_binInt; rfl; rfl; rfl); intro _ _;
        refine exl_nilT ?_;
        refine ex_cond rfl (fun h => ?_) (fun h => ?_) <;> ((first | (subst h; rename BV _ true => h0; have h := h0.eq; clear h0) | (subst h; rename BV _ false => h0; have h := h0.eq; clear h0) | skip); (have hp := h; try simp only [decide_eq_true_eq, decide_eq_false_iff_not, Bool.not_eq_true', Bool.not_eq_false', bne_iff_ne, beq_iff_eq, beq_eq_false_iff_ne, bne_eq_false_iff_eq, Int.not_lt, Int.not_le] at hp); (try (exfalso; first | omega | (cases hp; done))));
        refine ex_skip ?_;
        refine ex_seq ?_;
        refine ex_block ?_;
        refine ex_seq ?_;
        refine ex_region ?_;
        apply exl_is; rfl; rfl; rfl; (apply g_move; rfl);
        apply exl_is; rfl; rfl; rfl; (apply g_move; rfl);
        apply exl_is; rfl; rfl; rfl; (apply g_shrQ; rfl; rfl; rfl; rfl; omega; exact hq);
        apply exl_is; rfl; rfl; rfl; (apply g_andQ; rfl; rfl; rfl; exact (rfl : (1:Int) = ((1:Nat):Int)); omega; exact Nat.le_of_ble_eq_true rfl; exact hr);
        apply exl_isB; rfl; rfl; rfl; (apply g_binInt; rfl; rfl; rfl); intro _ _;
        apply exl_is; rfl; rfl; rfl; (apply g_move; rfl);
        refine exl_caseL rfl (fun h => ?_) (fun h => ?_) <;> ((first | (subst h; rename BV _ true => h0; have h := h0.eq; clear h0) | (subst h; rename BV _ false => h0; have h := h0.eq; clear h0) | skip); (have hp := h; try simp only [decide_eq_true_eq, decide_eq_false_iff_not, Bool.not_eq_true', Bool.not_eq_false', bne_iff_ne, beq_iff_eq, beq_eq_false_iff_ne, bne_eq_false_iff_eq, Int.not_lt, Int.not_le] at hp); (try (exfalso; first | omega | (cases hp; done))));
        refine exl_skipL rfl (by rfl) rfl rfl ?_;
        refine exl_skipL rfl (by rfl) rfl rfl ?_;
        refine exl_skipL rfl (by rfl) rfl rfl ?_;
        refine exl_skipL rfl (by rfl) rfl rfl ?_;
        refine exl_skipL rfl (by rfl) rfl rfl ?_;
        refine exl_skipL rfl (by rfl) rfl rfl ?_;
        refine exl_skipL rfl (by rfl) rfl rfl ?_;
        apply exl_is; rfl; rfl; rfl; (apply g_pick_f; rfl; (rfl); rfl);
        refine exl_nilT ?_;
        refine ex_cond_f rfl (by rfl) ?_;
        refine ex_skip ?_;
        refine ex_region ?_;
        apply exl_is; rfl; rfl; rfl; (apply g_move; rfl);
        apply exl_is; rfl; rfl; rfl; (apply g_add; rfl; rfl; rfl; exact ⟨by omega, by omega⟩);
        apply exl_is; rfl; rfl; rfl; (apply g_assign; rfl);
        refine exl_nil ?_;
        simp only [thenA, blockA, roundA, noGotoA, retA, ↓reduceIte, Nat.reduceEqDiff];
        rotate_left
        (all_goals (repeat (rename BV _ _ => hbv; cases hbv)))
        all_goals (try (exfalso; first | (rename true = false => hx; cases hx; done) | (rename false = true => hx; cases hx; done)))
        refine ⟨i + 1, ⟨by omega, by rw [hst]; rfl⟩, by omega, St.le_of (by repeat (first | exact trivial | refine ⟨rfl, ?_⟩)) (by repeat (first | exact List.Sublist.refl _ | apply List.Sublist.cons_cons | apply List.Sublist.cons))⟩
    · have e : i = N := by omega
      subst e
      rw [hI2]
      refine ex_seq ?_;
      refine ex_seq ?_;
      refine ex_region ?_;
      apply exl_is; rfl; rfl; rfl; (apply g_move; rfl);
      apply exl_is; rfl; rfl; rfl; (apply g_move; rfl);
      apply exl_isB; rfl; rfl; rfl; (apply g_binInt; rfl; rfl; rfl); intro _ _;
      refine exl_nilT ?_;
      refine ex_cond rfl (fun h => ?_) (fun h => ?_) <;> ((first | (subst h; rename BV _ true => h0; have h := h0.eq; clear h0) | (subst h; rename BV _ false => h0; have h := h0.eq; clear h0) | skip); (have hp := h; try simp only [decide_eq_true_eq, decide_eq_false_iff_not, Bool.not_eq_true', Bool.not_eq_false', bne_iff_ne, beq_iff_eq, beq_eq_false_iff_ne, bne_eq_false_iff_eq, Int.not_lt, Int.not_le] at hp); (try (exfalso; first | omega | (cases hp; done))));
      refine ex_exit ?_;
      refine ex_seq ?_;
      refine ex_region ?_;
      apply exl_is; rfl; rfl; rfl; (apply g_assign; rfl);
      refine exl_nilT ?_;
      refine ex_ret ?_;
      simp only [thenA, blockA, roundA, noGotoA, retA, ↓reduceIte, Nat.reduceEqDiff];
      rotate_left
      (all_goals (repeat (rename BV _ _ => hbv; cases hbv)))
      all_goals (try (exfalso; first | (rename true = false => hx; cases hx; done) | (rename false = true => hx; cases hx; done)))
      refine ret_is .nil (.cons (.ofTmp rfl) .nil) (by repeat (first | exact List.Sublist.refl _ | apply List.Sublist.cons_cons | apply List.Sublist.cons)) (bool_eq ?_)
      rfl
/-- What Cores and Shrink give. -/
def corR (n : Int) (l : List Bool) : List Int := if tableH n l = 0 then natI (coresL n.toNat (tabF l)) else []
def maxR (n : Int) (l : List Bool) : List Int := if tableH n l = 0 then natI (maxisL n.toNat (tabF l)) else []
def shrC (n : Int) (l : List Bool) (s : Int) : Int := if tableH n l = 0 then (if s < 0 then 1 else if (l.length : Int) ≤ s then 1 else if tabF l s.toNat then 1 else 0) else tableH n l
def shrV (n : Int) (l : List Bool) (s : Int) : Int := if shrC n l s = 0 then ((shrinkN (tabF l) s.toNat n.toNat : Nat) : Int) else 0
theorem shr_ok {N s : Nat} {l : List Bool} (h : tableH N l = 0) (hs : s < l.length) (ht : tabF l s = false) : shrC N l s = 0 ∧ shrV N l s = ((shrinkN (tabF l) s N : Nat) : Int) := by
  have e : shrC N l s = 0 := by
    unfold shrC
    rw [if_pos h, if_neg (by omega), if_neg (by omega), show ((s : Int)).toNat = s from rfl, ht]; rfl
  unfold shrV
  rw [if_pos e]; exact ⟨e, rfl⟩
theorem shr_off {N : Nat} {s : Int} {l : List Bool} (h : tableH N l = 0) (hs : s < 0 ∨ (l.length : Int) ≤ s ∨ tabF l s.toNat = true) : shrC N l s = 1 ∧ shrV N l s = 0 := by
  have e : shrC N l s = 1 := by
    unfold shrC
    rw [if_pos h]
    by_cases h1 : s < 0
    · rw [if_pos h1]
    · rw [if_neg h1]
      by_cases h2 : (l.length : Int) ≤ s
      · rw [if_pos h2]
      · rw [if_neg h2]
        rcases hs with hs | hs | hs
        · exact absurd hs h1
        · exact absurd hs h2
        · rw [hs]; rfl
  unfold shrV
  rw [e]; exact ⟨rfl, rfl⟩
theorem shr_bad {n : Int} {l : List Bool} (s : Int) (h : tableH n l ≠ 0) : shrC n l s = tableH n l ∧ shrV n l s = 0 := by
  have e : shrC n l s = tableH n l := by unfold shrC; rw [if_neg h]
  unfold shrV
  rw [e, if_neg h]; exact ⟨rfl, rfl⟩
theorem shrinkN_lt {t : Nat → Bool} {s : Nat} : ∀ k, shrinkN t s k ≤ s
  | 0 => Nat.le_refl _
  | k + 1 => by
    have := shrinkN_lt (t := t) (s := s) k
    rw [shrinkN]; unfold shrinkS
    split
    · rename_i h
      rw [Bool.and_eq_true] at h
      have := (wout_sub h.1).le
      omega
    · exact this
set_option maxHeartbeats 2000000 in
set_option maxRecDepth 10000 in
theorem rShrink_c (n : Int) (l : List Bool) (s : Int) (σ : List Ent) : SCall Try.prog 24 [.int .i64 n, bools l, .int .i64 s] σ (Is (.tup [.int .i64 (shrV n l s), .int .i64 (shrC n l s)]) σ) := by
  refine scall_of Try.func24 rfl (by simp) ?_
  have c1 := rTable_c n l
  by_cases h : tableH n l = 0
  · obtain ⟨N, rfl, hN, hl, hm⟩ := table_zero h
    have hp := pow12 hN
    rw [h] at c1
    clear hm
    by_cases hs : s < 0
    · obtain ⟨e1, e2⟩ := shr_off h (.inl hs)
      rw [e1, e2]
      clear e1 e2
      refine ex_seq ?_;
      refine ex_region ?_;
      apply exl_is; rfl; rfl; rfl; (apply g_assign; rfl);
      apply exl_is; rfl; rfl; rfl; (apply g_assign; rfl);
      refine exl_nilT ?_;
      refine ex_seq ?_;
      refine ex_region ?_;
      apply exl_is; rfl; rfl; rfl; (apply g_move; rfl);
      apply exl_is; rfl; rfl; rfl; (apply g_move; rfl);
      apply exl_is; rfl; rfl; rfl; (exact g_call rfl rfl (enters_b (by kernel_rfl)) (c1 _));
      apply exl_is; rfl; rfl; rfl; (apply g_assign; rfl);
      refine exl_nilT ?_;
      refine ex_seq ?_;
      refine ex_seq ?_;
      refine ex_region ?_;
      apply exl_is; rfl; rfl; rfl; (apply g_move; rfl);
      apply exl_isB; rfl; rfl; rfl; (apply g_binInt; rfl; rfl; rfl); intro _ _;
      refine exl_nilT ?_;
      refine ex_cond rfl (fun h => ?_) (fun h => ?_) <;> ((first | (subst h; rename BV _ true => h0; have h := h0.eq; clear h0) | (subst h; rename BV _ false => h0; have h := h0.eq; clear h0) | skip); (have hp := h; try simp only [decide_eq_true_eq, decide_eq_false_iff_not, Bool.not_eq_true', Bool.not_eq_false', bne_iff_ne, beq_iff_eq, beq_eq_false_iff_ne, bne_eq_false_iff_eq, Int.not_lt, Int.not_le] at hp); (try (exfalso; first | omega | (cases hp; done))));
      refine ex_skip ?_;
      refine ex_seq ?_;
      refine ex_seq ?_;
      refine ex_region ?_;
      apply exl_is; rfl; rfl; rfl; (apply g_move; rfl);
      apply exl_isB; rfl; rfl; rfl; (apply g_binInt; rfl; rfl; rfl); intro _ _;
      apply exl_is; rfl; rfl; rfl; (apply g_move; rfl);
      refine exl_caseL rfl (fun h => ?_) (fun h => ?_) <;> ((first | (subst h; rename BV _ true => h0; have h := h0.eq; clear h0) | (subst h; rename BV _ false => h0; have h := h0.eq; clear h0) | skip); (have hp := h; try simp only [decide_eq_true_eq, decide_eq_false_iff_not, Bool.not_eq_true', Bool.not_eq_false', bne_iff_ne, beq_iff_eq, beq_eq_false_iff_ne, bne_eq_false_iff_eq, Int.not_lt, Int.not_le] at hp); (try (exfalso; first | omega | (cases hp; done))));
      refine exl_skipL rfl (by rfl) rfl rfl ?_;
      refine exl_skipL rfl (by rfl) rfl rfl ?_;
      refine exl_skipL rfl (by rfl) rfl rfl ?_;
      refine exl_skipL rfl (by rfl) rfl rfl ?_;
      apply exl_is; rfl; rfl; rfl; (apply g_pick_t; rfl; (rfl); rfl);
      refine exl_nilT ?_;
      refine ex_cond_t rfl (by rfl) ?_;
      refine ex_seq ?_;
      refine ex_region ?_;
      apply exl_is; rfl; rfl; rfl; (apply g_assign; rfl);
      apply exl_is; rfl; rfl; rfl; (apply g_assign; rfl);
      refine exl_nilT ?_;
      refine ex_ret ?_;
      simp only [thenA, blockA, roundA, noGotoA, retA, ↓reduceIte, Nat.reduceEqDiff];
      rotate_left
      (all_goals (repeat (rename BV _ _ => hbv; cases hbv)))
      all_goals (try (exfalso; first | (rename true = false => hx; cases hx; done) | (rename false = true => hx; cases hx; done)))
      refine ret_is .nil (.cons (.ofTmp rfl) (.cons (.ofTmp rfl) .nil)) (by repeat (first | exact List.Sublist.refl _ | apply List.Sublist.cons_cons | apply List.Sublist.cons)) ?_
      rfl
    by_cases hs2 : (l.length : Int) ≤ s
    · obtain ⟨e1, e2⟩ := shr_off h (.inr (.inl hs2))
      rw [e1, e2]
      clear e1 e2
      refine ex_seq ?_;
      refine ex_region ?_;
      apply exl_is; rfl; rfl; rfl; (apply g_assign; rfl);
      apply exl_is; rfl; rfl; rfl; (apply g_assign; rfl);
      refine exl_nilT ?_;
      refine ex_seq ?_;
      refine ex_region ?_;
      apply exl_is; rfl; rfl; rfl; (apply g_move; rfl);
      apply exl_is; rfl; rfl; rfl; (apply g_move; rfl);
      apply exl_is; rfl; rfl; rfl; (exact g_call rfl rfl (enters_b (by kernel_rfl)) (c1 _));
      apply exl_is; rfl; rfl; rfl; (apply g_assign; rfl);
      refine exl_nilT ?_;
      refine ex_seq ?_;
      refine ex_seq ?_;
      refine ex_region ?_;
      apply exl_is; rfl; rfl; rfl; (apply g_move; rfl);
      apply exl_isB; rfl; rfl; rfl; (apply g_binInt; rfl; rfl; rfl); intro _ _;
      refine exl_nilT ?_;
      refine ex_cond rfl (fun h => ?_) (fun h => ?_) <;> ((first | (subst h; rename BV _ true => h0; have h := h0.eq; clear h0) | (subst h; rename BV _ false => h0; have h := h0.eq; clear h0) | skip); (have hp := h; try simp only [decide_eq_true_eq, decide_eq_false_iff_not, Bool.not_eq_true', Bool.not_eq_false', bne_iff_ne, beq_iff_eq, beq_eq_false_iff_ne, bne_eq_false_iff_eq, Int.not_lt, Int.not_le] at hp); (try (exfalso; first | omega | (cases hp; done))));
      refine ex_skip ?_;
      refine ex_seq ?_;
      refine ex_seq ?_;
      refine ex_region ?_;
      apply exl_is; rfl; rfl; rfl; (apply g_move; rfl);
      apply exl_isB; rfl; rfl; rfl; (apply g_binInt; rfl; rfl; rfl); intro _ _;
      apply exl_is; rfl; rfl; rfl; (apply g_move; rfl);
      refine exl_caseL rfl (fun h => ?_) (fun h => ?_) <;> ((first | (subst h; rename BV _ true => h0; have h := h0.eq; clear h0) | (subst h; rename BV _ false => h0; have h := h0.eq; clear h0) | skip); (have hp := h; try simp only [decide_eq_true_eq, decide_eq_false_iff_not, Bool.not_eq_true', Bool.not_eq_false', bne_iff_ne, beq_iff_eq, beq_eq_false_iff_ne, bne_eq_false_iff_eq, Int.not_lt, Int.not_le] at hp); (try (exfalso; first | omega | (cases hp; done))));
      apply exl_isW; rfl; (rfl); rfl; rfl; (apply g_move; rfl);
      apply exl_isW; rfl; (rfl); rfl; rfl; (apply g_move; rfl);
      apply exl_isW; rfl; (rfl); rfl; rfl; (apply g_len; rfl; rfl; (exact (List.length_map _).symm));
      apply exl_isBW; rfl; (rfl); rfl; rfl; (apply g_binInt; rfl; rfl; rfl); intro _ _;
      apply exl_is; rfl; rfl; rfl; (apply g_pick_f; rfl; (rfl); rfl);
      refine exl_nilT ?_;
      refine ex_cond rfl (fun h => ?_) (fun h => ?_) <;> ((first | (subst h; rename BV _ true => h0; have h := h0.eq; clear h0) | (subst h; rename BV _ false => h0; have h := h0.eq; clear h0) | skip); (have hp := h; try simp only [decide_eq_true_eq, decide_eq_false_iff_not, Bool.not_eq_true', Bool.not_eq_false', bne_iff_ne, beq_iff_eq, beq_eq_false_iff_ne, bne_eq_false_iff_eq, Int.not_lt, Int.not_le] at hp); (try (exfalso; first | omega | (cases hp; done))));
      refine ex_seq ?_;
      refine ex_region ?_;
      apply exl_is; rfl; rfl; rfl; (apply g_assign; rfl);
      apply exl_is; rfl; rfl; rfl; (apply g_assign; rfl);
      refine exl_nilT ?_;
      refine ex_ret ?_;
      simp only [thenA, blockA, roundA, noGotoA, retA, ↓reduceIte, Nat.reduceEqDiff];
      rotate_left
      (all_goals (repeat (rename BV _ _ => hbv; cases hbv)))
      all_goals (try (exfalso; first | (rename true = false => hx; cases hx; done) | (rename false = true => hx; cases hx; done)))
      refine ret_is .nil (.cons (.ofTmp rfl) (.cons (.ofTmp rfl) .nil)) (by repeat (first | exact List.Sublist.refl _ | apply List.Sublist.cons_cons | apply List.Sublist.cons)) ?_
      rfl
    obtain ⟨m, rfl⟩ : ∃ m : Nat, s = (m : Int) := ⟨s.toNat, by omega⟩
    have hml : m < l.length := by omega
    have hgc := tab_cells hml
    cases ht : tabF l m with
    | true =>
      rw [ht] at hgc
      obtain ⟨e1, e2⟩ := shr_off h (.inr (.inr (show tabF l ((m : Int)).toNat = true from ht)))
      rw [e1, e2]
      clear e1 e2
      refine ex_seq ?_;
      refine ex_region ?_;
      apply exl_is; rfl; rfl; rfl; (apply g_assign; rfl);
      apply exl_is; rfl; rfl; rfl; (apply g_assign; rfl);
      refine exl_nilT ?_;
      refine ex_seq ?_;
      refine ex_region ?_;
      apply exl_is; rfl; rfl; rfl; (apply g_move; rfl);
      apply exl_is; rfl; rfl; rfl; (apply g_move; rfl);
      apply exl_is; rfl; rfl; rfl; (exact g_call rfl rfl (enters_b (by kernel_rfl)) (c1 _));
      apply exl_is; rfl; rfl; rfl; (apply g_assign; rfl);
      refine exl_nilT ?_;
      refine ex_seq ?_;
      refine ex_seq ?_;
      refine ex_region ?_;
      apply exl_is; rfl; rfl; rfl; (apply g_move; rfl);
      apply exl_isB; rfl; rfl; rfl; (apply g_binInt; rfl; rfl; rfl); intro _ _;
      refine exl_nilT ?_;
      refine ex_cond rfl (fun h => ?_) (fun h => ?_) <;> ((first | (subst h; rename BV _ true => h0; have h := h0.eq; clear h0) | (subst h; rename BV _ false => h0; have h := h0.eq; clear h0) | skip); (have hp := h; try simp only [decide_eq_true_eq, decide_eq_false_iff_not, Bool.not_eq_true', Bool.not_eq_false', bne_iff_ne, beq_iff_eq, beq_eq_false_iff_ne, bne_eq_false_iff_eq, Int.not_lt, Int.not_le] at hp); (try (exfalso; first | omega | (cases hp; done))));
      refine ex_skip ?_;
      refine ex_seq ?_;
      refine ex_seq ?_;
      refine ex_region ?_;
      apply exl_is; rfl; rfl; rfl; (apply g_move; rfl);
      apply exl_isB; rfl; rfl; rfl; (apply g_binInt; rfl; rfl; rfl); intro _ _;
      apply exl_is; rfl; rfl; rfl; (apply g_move; rfl);
      refine exl_caseL rfl (fun h => ?_) (fun h => ?_) <;> ((first | (subst h; rename BV _ true => h0; have h := h0.eq; clear h0) | (subst h; rename BV _ false => h0; have h := h0.eq; clear h0) | skip); (have hp := h; try simp only [decide_eq_true_eq, decide_eq_false_iff_not, Bool.not_eq_true', Bool.not_eq_false', bne_iff_ne, beq_iff_eq, beq_eq_false_iff_ne, bne_eq_false_iff_eq, Int.not_lt, Int.not_le] at hp); (try (exfalso; first | omega | (cases hp; done))));
      apply exl_isW; rfl; (rfl); rfl; rfl; (apply g_move; rfl);
      apply exl_isW; rfl; (rfl); rfl; rfl; (apply g_move; rfl);
      apply exl_isW; rfl; (rfl); rfl; rfl; (apply g_len; rfl; rfl; (exact (List.length_map _).symm));
      apply exl_isBW; rfl; (rfl); rfl; rfl; (apply g_binInt; rfl; rfl; rfl); intro _ _;
      apply exl_is; rfl; rfl; rfl; (apply g_pick_f; rfl; (rfl); rfl);
      refine exl_nilT ?_;
      refine ex_cond rfl (fun h => ?_) (fun h => ?_) <;> ((first | (subst h; rename BV _ true => h0; have h := h0.eq; clear h0) | (subst h; rename BV _ false => h0; have h := h0.eq; clear h0) | skip); (have hp := h; try simp only [decide_eq_true_eq, decide_eq_false_iff_not, Bool.not_eq_true', Bool.not_eq_false', bne_iff_ne, beq_iff_eq, beq_eq_false_iff_ne, bne_eq_false_iff_eq, Int.not_lt, Int.not_le] at hp); (try (exfalso; first | omega | (cases hp; done))));
      refine ex_skip ?_;
      refine ex_seq ?_;
      refine ex_seq ?_;
      refine ex_region ?_;
      apply exl_is; rfl; rfl; rfl; (apply g_move; rfl);
      apply exl_is; rfl; rfl; rfl; (apply g_move; rfl);
      apply exl_is; rfl; rfl; rfl; (apply g_indexDl; rfl; rfl; rfl; (rfl); (assumption));
      apply exl_is; rfl; rfl; rfl; (apply g_load1; rfl; rfl; (exact .e rfl));
      refine exl_nilT ?_;
      refine ex_cond_t rfl (by rfl) ?_;
      refine ex_seq ?_;
      refine ex_region ?_;
      apply exl_is; rfl; rfl; rfl; (apply g_assign; rfl);
      apply exl_is; rfl; rfl; rfl; (apply g_assign; rfl);
      refine exl_nilT ?_;
      refine ex_ret ?_;
      simp only [thenA, blockA, roundA, noGotoA, retA, ↓reduceIte, Nat.reduceEqDiff];
      rotate_left
      (all_goals (repeat (rename BV _ _ => hbv; cases hbv)))
      all_goals (try (exfalso; first | (rename true = false => hx; cases hx; done) | (rename false = true => hx; cases hx; done)))
      refine ret_is .nil (.cons (.ofTmp rfl) (.cons (.ofTmp rfl) .nil)) (by repeat (first | exact List.Sublist.refl _ | apply List.Sublist.cons_cons | apply List.Sublist.cons)) ?_
      rfl
    | false =>
      rw [ht] at hgc
      obtain ⟨e1, e2⟩ := shr_ok h hml ht
      rw [e1, e2]
      clear e1 e2
      refine ex_seq ?_;
      refine ex_region ?_;
      apply exl_is; rfl; rfl; rfl; (apply g_assign; rfl);
      apply exl_is; rfl; rfl; rfl; (apply g_assign; rfl);
      refine exl_nilT ?_;
      refine ex_seq ?_;
      refine ex_region ?_;
      apply exl_is; rfl; rfl; rfl; (apply g_move; rfl);
      apply exl_is; rfl; rfl; rfl; (apply g_move; rfl);
      apply exl_is; rfl; rfl; rfl; (exact g_call rfl rfl (enters_b (by kernel_rfl)) (c1 _));
      apply exl_is; rfl; rfl; rfl; (apply g_assign; rfl);
      refine exl_nilT ?_;
      refine ex_seq ?_;
      refine ex_seq ?_;
      refine ex_region ?_;
      apply exl_is; rfl; rfl; rfl; (apply g_move; rfl);
      apply exl_isB; rfl; rfl; rfl; (apply g_binInt; rfl; rfl; rfl); intro _ _;
      refine exl_nilT ?_;
      refine ex_cond rfl (fun h => ?_) (fun h => ?_) <;> ((first | (subst h; rename BV _ true => h0; have h := h0.eq; clear h0) | (subst h; rename BV _ false => h0; have h := h0.eq; clear h0) | skip); (have hp := h; try simp only [decide_eq_true_eq, decide_eq_false_iff_not, Bool.not_eq_true', Bool.not_eq_false', bne_iff_ne, beq_iff_eq, beq_eq_false_iff_ne, bne_eq_false_iff_eq, Int.not_lt, Int.not_le] at hp); (try (exfalso; first | omega | (cases hp; done))));
      refine ex_skip ?_;
      refine ex_seq ?_;
      refine ex_seq ?_;
      refine ex_region ?_;
      apply exl_is; rfl; rfl; rfl; (apply g_move; rfl);
      apply exl_isB; rfl; rfl; rfl; (apply g_binInt; rfl; rfl; rfl); intro _ _;
      apply exl_is; rfl; rfl; rfl; (apply g_move; rfl);
      refine exl_caseL rfl (fun h => ?_) (fun h => ?_) <;> ((first | (subst h; rename BV _ true => h0; have h := h0.eq; clear h0) | (subst h; rename BV _ false => h0; have h := h0.eq; clear h0) | skip); (have hp := h; try simp only [decide_eq_true_eq, decide_eq_false_iff_not, Bool.not_eq_true', Bool.not_eq_false', bne_iff_ne, beq_iff_eq, beq_eq_false_iff_ne, bne_eq_false_iff_eq, Int.not_lt, Int.not_le] at hp); (try (exfalso; first | omega | (cases hp; done))));
      apply exl_isW; rfl; (rfl); rfl; rfl; (apply g_move; rfl);
      apply exl_isW; rfl; (rfl); rfl; rfl; (apply g_move; rfl);
      apply exl_isW; rfl; (rfl); rfl; rfl; (apply g_len; rfl; rfl; (exact (List.length_map _).symm));
      apply exl_isBW; rfl; (rfl); rfl; rfl; (apply g_binInt; rfl; rfl; rfl); intro _ _;
      apply exl_is; rfl; rfl; rfl; (apply g_pick_f; rfl; (rfl); rfl);
      refine exl_nilT ?_;
      refine ex_cond rfl (fun h => ?_) (fun h => ?_) <;> ((first | (subst h; rename BV _ true => h0; have h := h0.eq; clear h0) | (subst h; rename BV _ false => h0; have h := h0.eq; clear h0) | skip); (have hp := h; try simp only [decide_eq_true_eq, decide_eq_false_iff_not, Bool.not_eq_true', Bool.not_eq_false', bne_iff_ne, beq_iff_eq, beq_eq_false_iff_ne, bne_eq_false_iff_eq, Int.not_lt, Int.not_le] at hp); (try (exfalso; first | omega | (cases hp; done))));
      refine ex_skip ?_;
      refine ex_seq ?_;
      refine ex_seq ?_;
      refine ex_region ?_;
      apply exl_is; rfl; rfl; rfl; (apply g_move; rfl);
      apply exl_is; rfl; rfl; rfl; (apply g_move; rfl);
      apply exl_is; rfl; rfl; rfl; (apply g_indexDl; rfl; rfl; rfl; (rfl); (assumption));
      apply exl_is; rfl; rfl; rfl; (apply g_load1; rfl; rfl; (exact .e rfl));
      refine exl_nilT ?_;
      refine ex_cond_f rfl (by rfl) ?_;
      refine ex_skip ?_;
      refine ex_seq ?_;
      refine ex_seq ?_;
      refine ex_region ?_;
      apply exl_is; rfl; rfl; rfl; (apply g_assign; rfl);
      refine exl_nilT ?_;
      refine ex_block ?_;
      rotate_left
      (all_goals (repeat (rename BV _ _ => hbv; cases hbv)))
      all_goals (try (exfalso; first | (rename true = false => hx; cases hx; done) | (rename false = true => hx; cases hx; done)))
      clear c1 h hgc
      refine ex_loop (fun (i : Nat) => (⟨[(0, .int .i64 N), (1, bools l), (2, .int .i64 ((shrinkN (tabF l) m i : Nat) : Int)), (9, .int .i64 i)], σ, [], Try.f24.ntmps⟩ : St)) (fun i => i ≤ N) (fun i => N - i) 0 (Nat.zero_le _) (St.le_of (by repeat (first | exact trivial | refine ⟨rfl, ?_⟩)) (by repeat (first | exact List.Sublist.refl _ | apply List.Sublist.cons_cons | apply List.Sublist.cons))) ?_
      intro i hI
      by_cases hi : i < N
      · have hst : shrinkN (tabF l) m (i + 1) = shrinkS (tabF l) (shrinkN (tabF l) m i) i := rfl
        have hlt := shrinkN_lt (t := tabF l) (s := m) i
        generalize shrinkN (tabF l) m i = c at hst hlt ⊢
        unfold shrinkS at hst
        have hr := shr_one c i
        obtain ⟨q, hq⟩ : ∃ q, c >>> i = q := ⟨_, rfl⟩
        have hqs : q ≤ c := by rw [← hq]; exact Nat.shiftRight_le _ _
        rw [hq] at hr
        have hpw := pow12 (N := i) (by omega)
        cases hb : c.testBit i with
        | true =>
          rw [hb] at hr hst
          have hr : q &&& 1 = 1 := hr
          have hw := wout_cast hb
          have hws := (wout_sub hb).le
          have hgw := tab_cells (l := l) (s := wout c i) (by omega)
          obtain ⟨g, hg⟩ : ∃ g, wout c i = g := ⟨_, rfl⟩
          rw [hg] at hw hst hgw
          cases hh2 : tabF l g with
          | true =>
            rw [hh2] at hgw hst
            refine ex_seq ?_;
            refine ex_seq ?_;
            refine ex_region ?_;
            apply exl_is; rfl; rfl; rfl; (apply g_move; rfl);
            apply exl_is; rfl; rfl; rfl; (apply g_move; rfl);
            apply exl_isB; rfl; rfl; rfl; (apply g_binInt; rfl; rfl; rfl); intro _ _;
            refine exl_nilT ?_;
            refine ex_cond rfl (fun h => ?_) (fun h => ?_) <;> ((first | (subst h; rename BV _ true => h0; have h := h0.eq; clear h0) | (subst h; rename BV _ false => h0; have h := h0.eq; clear h0) | skip); (have hp := h; try simp only [decide_eq_true_eq, decide_eq_false_iff_not, Bool.not_eq_true', Bool.not_eq_false', bne_iff_ne, beq_iff_eq, beq_eq_false_iff_ne, bne_eq_false_iff_eq, Int.not_lt, Int.not_le] at hp); (try (exfalso; first | omega | (cases hp; done))));
            refine ex_skip ?_;
            refine ex_seq ?_;
            refine ex_block ?_;
            refine ex_seq ?_;
            refine ex_region ?_;
            apply exl_is; rfl; rfl; rfl; (apply g_move; rfl);
            apply exl_is; rfl; rfl; rfl; (apply g_move; rfl);
            apply exl_is; rfl; rfl; rfl; (apply g_shrQ; rfl; rfl; rfl; rfl; omega; exact hq);
            apply exl_is; rfl; rfl; rfl; (apply g_andQ; rfl; rfl; rfl; exact (rfl : (1:Int) = ((1:Nat):Int)); omega; exact Nat.le_of_ble_eq_true rfl; exact hr);
            apply exl_isB; rfl; rfl; rfl; (apply g_binInt; rfl; rfl; rfl); intro _ _;
            apply exl_is; rfl; rfl; rfl; (apply g_move; rfl);
            refine exl_caseL rfl (fun h => ?_) (fun h => ?_) <;> ((first | (subst h; rename BV _ true => h0; have h := h0.eq; clear h0) | (subst h; rename BV _ false => h0; have h := h0.eq; clear h0) | skip); (have hp := h; try simp only [decide_eq_true_eq, decide_eq_false_iff_not, Bool.not_eq_true', Bool.not_eq_false', bne_iff_ne, beq_iff_eq, beq_eq_false_iff_ne, bne_eq_false_iff_eq, Int.not_lt, Int.not_le] at hp); (try (exfalso; first | omega | (cases hp; done))));
            apply exl_isW; rfl; (rfl); rfl; rfl; (apply g_move; rfl);
            apply exl_isW; rfl; (rfl); rfl; rfl; (apply g_move; rfl);
            apply exl_isW; rfl; (rfl); rfl; rfl; (apply g_move; rfl);
            apply exl_isW; rfl; (rfl); rfl; rfl; (apply g_shl1; rfl; rfl; rfl; (rfl); omega);
            apply exl_isW; rfl; (rfl); rfl; rfl; (apply g_sub; rfl; rfl; rfl; exact ⟨by omega, by omega⟩);
            apply exl_isW; rfl; (rfl); rfl; rfl; (apply g_indexDl; rfl; rfl; rfl; (assumption); (assumption));
            apply exl_isW; rfl; (rfl); rfl; rfl; (apply g_load1; rfl; rfl; (exact .e rfl));
            apply exl_isBW; rfl; (rfl); rfl; rfl; (apply g_not; rfl); intro _ _;
            apply exl_is; rfl; rfl; rfl; (apply g_pick_t; rfl; (rfl); rfl);
            refine exl_nilT ?_;
            refine ex_cond rfl (fun h => ?_) (fun h => ?_) <;> ((first | (subst h; rename BV _ true => h0; have h := h0.eq; clear h0) | (subst h; rename BV _ false => h0; have h := h0.eq; clear h0) | skip); (have hp := h; try simp only [decide_eq_true_eq, decide_eq_false_iff_not, Bool.not_eq_true', Bool.not_eq_false', bne_iff_ne, beq_iff_eq, beq_eq_false_iff_ne, bne_eq_false_iff_eq, Int.not_lt, Int.not_le] at hp); (try (exfalso; first | omega | (cases hp; done))));
            refine ex_skip ?_;
            refine ex_region ?_;
            apply exl_is; rfl; rfl; rfl; (apply g_move; rfl);
            apply exl_is; rfl; rfl; rfl; (apply g_add; rfl; rfl; rfl; exact ⟨by omega, by omega⟩);
            apply exl_is; rfl; rfl; rfl; (apply g_assign; rfl);
            refine exl_nil ?_;
            simp only [thenA, blockA, roundA, noGotoA, retA, ↓reduceIte, Nat.reduceEqDiff];
            rotate_left
            (all_goals (repeat (rename BV _ _ => hbv; cases hbv)))
            all_goals (try (exfalso; first | (rename true = false => hx; cases hx; done) | (rename false = true => hx; cases hx; done)))
            refine ⟨i + 1, hi, by omega, ?_⟩
            rw [hst, if_neg (by simp)]
            exact (St.le_of (by repeat (first | exact trivial | refine ⟨rfl, ?_⟩)) (by repeat (first | exact List.Sublist.refl _ | apply List.Sublist.cons_cons | apply List.Sublist.cons)))
          | false =>
            rw [hh2] at hgw hst
            refine ex_seq ?_;
            refine ex_seq ?_;
            refine ex_region ?_;
            apply exl_is; rfl; rfl; rfl; (apply g_move; rfl);
            apply exl_is; rfl; rfl; rfl; (apply g_move; rfl);
            apply exl_isB; rfl; rfl; rfl; (apply g_binInt; rfl; rfl; rfl); intro _ _;
            refine exl_nilT ?_;
            refine ex_cond rfl (fun h => ?_) (fun h => ?_) <;> ((first | (subst h; rename BV _ true => h0; have h := h0.eq; clear h0) | (subst h; rename BV _ false => h0; have h := h0.eq; clear h0) | skip); (have hp := h; try simp only [decide_eq_true_eq, decide_eq_false_iff_not, Bool.not_eq_true', Bool.not_eq_false', bne_iff_ne, beq_iff_eq, beq_eq_false_iff_ne, bne_eq_false_iff_eq, Int.not_lt, Int.not_le] at hp); (try (exfalso; first | omega | (cases hp; done))));
            refine ex_skip ?_;
            refine ex_seq ?_;
            refine ex_block ?_;
            refine ex_seq ?_;
            refine ex_region ?_;
            apply exl_is; rfl; rfl; rfl; (apply g_move; rfl);
            apply exl_is; rfl; rfl; rfl; (apply g_move; rfl);
            apply exl_is; rfl; rfl; rfl; (apply g_shrQ; rfl; rfl; rfl; rfl; omega; exact hq);
            apply exl_is; rfl; rfl; rfl; (apply g_andQ; rfl; rfl; rfl; exact (rfl : (1:Int) = ((1:Nat):Int)); omega; exact Nat.le_of_ble_eq_true rfl; exact hr);
            apply exl_isB; rfl; rfl; rfl; (apply g_binInt; rfl; rfl; rfl); intro _ _;
            apply exl_is; rfl; rfl; rfl; (apply g_move; rfl);
            refine exl_caseL rfl (fun h => ?_) (fun h => ?_) <;> ((first | (subst h; rename BV _ true => h0; have h := h0.eq; clear h0) | (subst h; rename BV _ false => h0; have h := h0.eq; clear h0) | skip); (have hp := h; try simp only [decide_eq_true_eq, decide_eq_false_iff_not, Bool.not_eq_true', Bool.not_eq_false', bne_iff_ne, beq_iff_eq, beq_eq_false_iff_ne, bne_eq_false_iff_eq, Int.not_lt, Int.not_le] at hp); (try (exfalso; first | omega | (cases hp; done))));
            apply exl_isW; rfl; (rfl); rfl; rfl; (apply g_move; rfl);
            apply exl_isW; rfl; (rfl); rfl; rfl; (apply g_move; rfl);
            apply exl_isW; rfl; (rfl); rfl; rfl; (apply g_move; rfl);
            apply exl_isW; rfl; (rfl); rfl; rfl; (apply g_shl1; rfl; rfl; rfl; (rfl); omega);
            apply exl_isW; rfl; (rfl); rfl; rfl; (apply g_sub; rfl; rfl; rfl; exact ⟨by omega, by omega⟩);
            apply exl_isW; rfl; (rfl); rfl; rfl; (apply g_indexDl; rfl; rfl; rfl; (assumption); (assumption));
            apply exl_isW; rfl; (rfl); rfl; rfl; (apply g_load1; rfl; rfl; (exact .e rfl));
            apply exl_isBW; rfl; (rfl); rfl; rfl; (apply g_not; rfl); intro _ _;
            apply exl_is; rfl; rfl; rfl; (apply g_pick_t; rfl; (rfl); rfl);
            refine exl_nilT ?_;
            refine ex_cond rfl (fun h => ?_) (fun h => ?_) <;> ((first | (subst h; rename BV _ true => h0; have h := h0.eq; clear h0) | (subst h; rename BV _ false => h0; have h := h0.eq; clear h0) | skip); (have hp := h; try simp only [decide_eq_true_eq, decide_eq_false_iff_not, Bool.not_eq_true', Bool.not_eq_false', bne_iff_ne, beq_iff_eq, beq_eq_false_iff_ne, bne_eq_false_iff_eq, Int.not_lt, Int.not_le] at hp); (try (exfalso; first | omega | (cases hp; done))));
            refine ex_region ?_;
            apply exl_is; rfl; rfl; rfl; (apply g_move; rfl);
            apply exl_is; rfl; rfl; rfl; (apply g_move; rfl);
            apply exl_is; rfl; rfl; rfl; (apply g_shl1; rfl; rfl; rfl; (rfl); omega);
            apply exl_is; rfl; rfl; rfl; (apply g_sub; rfl; rfl; rfl; exact ⟨by omega, by omega⟩);
            apply exl_is; rfl; rfl; rfl; (apply g_assign; rfl);
            refine exl_nil ?_;
            refine ex_region ?_;
            apply exl_is; rfl; rfl; rfl; (apply g_move; rfl);
            apply exl_is; rfl; rfl; rfl; (apply g_add; rfl; rfl; rfl; exact ⟨by omega, by omega⟩);
            apply exl_is; rfl; rfl; rfl; (apply g_assign; rfl);
            refine exl_nil ?_;
            simp only [thenA, blockA, roundA, noGotoA, retA, ↓reduceIte, Nat.reduceEqDiff];
            rotate_left
            (all_goals (repeat (rename BV _ _ => hbv; cases hbv)))
            all_goals (try (exfalso; first | (rename true = false => hx; cases hx; done) | (rename false = true => hx; cases hx; done)))
            refine ⟨i + 1, hi, by omega, ?_⟩
            rw [hst, if_pos (by simp), ← hw]
            exact (St.le_of (by repeat (first | exact trivial | refine ⟨rfl, ?_⟩)) (by repeat (first | exact List.Sublist.refl _ | apply List.Sublist.cons_cons | apply List.Sublist.cons)))
        | false =>
          rw [hb] at hr hst
          have hr : q &&& 1 = 0 := hr
          refine ex_seq ?_;
          refine ex_seq ?_;
          refine ex_region ?_;
          apply exl_is; rfl; rfl; rfl; (apply g_move; rfl);
          apply exl_is; rfl; rfl; rfl; (apply g_move; rfl);
          apply exl_isB; rfl; rfl; rfl; (apply g_binInt; rfl; rfl; rfl); intro _ _;
          refine exl_nilT ?_;
          refine ex_cond rfl (fun h => ?_) (fun h => ?_) <;> ((first | (subst h; rename BV _ true => h0; have h := h0.eq; clear h0) | (subst h; rename BV _ false => h0; have h := h0.eq; clear h0) | skip); (have hp := h; try simp only [decide_eq_true_eq, decide_eq_false_iff_not, Bool.not_eq_true', Bool.not_eq_false', bne_iff_ne, beq_iff_eq, beq_eq_false_iff_ne, bne_eq_false_iff_eq, Int.not_lt, Int.not_le] at hp); (try (exfalso; first | omega | (cases hp; done))));
          refine ex_skip ?_;
          refine ex_seq ?_;
          refine ex_block ?_;
          refine ex_seq ?_;
          refine ex_region ?_;
          apply exl_is; rfl; rfl; rfl; (apply g_move; rfl);
          apply exl_is; rfl; rfl; rfl; (apply g_move; rfl);
          apply exl_is; rfl; rfl; rfl; (apply g_shrQ; rfl; rfl; rfl; rfl; omega; exact hq);
          apply exl_is; rfl; rfl; rfl; (apply g_andQ; rfl; rfl; rfl; exact (rfl : (1:Int) = ((1:Nat):Int)); omega; exact Nat.le_of_ble_eq_true rfl; exact hr);
          apply exl_isB; rfl; rfl; rfl; (apply g_binInt; rfl; rfl; rfl); intro _ _;
          apply exl_is; rfl; rfl; rfl; (apply g_move; rfl);
          refine exl_caseL rfl (fun h => ?_) (fun h => ?_) <;> ((first | (subst h; rename BV _ true => h0; have h := h0.eq; clear h0) | (subst h; rename BV _ false => h0; have h := h0.eq; clear h0) | skip); (have hp := h; try simp only [decide_eq_true_eq, decide_eq_false_iff_not, Bool.not_eq_true', Bool.not_eq_false', bne_iff_ne, beq_iff_eq, beq_eq_false_iff_ne, bne_eq_false_iff_eq, Int.not_lt, Int.not_le] at hp); (try (exfalso; first | omega | (cases hp; done))));
          refine exl_skipL rfl (by rfl) rfl rfl ?_;
          refine exl_skipL rfl (by rfl) rfl rfl ?_;
          refine exl_skipL rfl (by rfl) rfl rfl ?_;
          refine exl_skipL rfl (by rfl) rfl rfl ?_;
          refine exl_skipL rfl (by rfl) rfl rfl ?_;
          refine exl_skipL rfl (by rfl) rfl rfl ?_;
          refine exl_skipL rfl (by rfl) rfl rfl ?_;
          refine exl_skipL rfl (by rfl) rfl rfl ?_;
          apply exl_is; rfl; rfl; rfl; (apply g_pick_f; rfl; (rfl); rfl);
          refine exl_nilT ?_;
          refine ex_cond_f rfl (by rfl) ?_;
          refine ex_skip ?_;
          refine ex_region ?_;
          apply exl_is; rfl; rfl; rfl; (apply g_move; rfl);
          apply exl_is; rfl; rfl; rfl; (apply g_add; rfl; rfl; rfl; exact ⟨by omega, by omega⟩);
          apply exl_is; rfl; rfl; rfl; (apply g_assign; rfl);
          refine exl_nil ?_;
          simp only [thenA, blockA, roundA, noGotoA, retA, ↓reduceIte, Nat.reduceEqDiff];
          rotate_left
          (all_goals (repeat (rename BV _ _ => hbv; cases hbv)))
          all_goals (try (exfalso; first | (rename true = false => hx; cases hx; done) | (rename false = true => hx; cases hx; done)))
          refine ⟨i + 1, hi, by omega, ?_⟩
          rw [hst, if_neg (by simp)]
          exact (St.le_of (by repeat (first | exact trivial | refine ⟨rfl, ?_⟩)) (by repeat (first | exact List.Sublist.refl _ | apply List.Sublist.cons_cons | apply List.Sublist.cons)))
      · have e : i = N := by omega
        subst e
        refine ex_seq ?_;
        refine ex_seq ?_;
        refine ex_region ?_;
        apply exl_is; rfl; rfl; rfl; (apply g_move; rfl);
        apply exl_is; rfl; rfl; rfl; (apply g_move; rfl);
        apply exl_isB; rfl; rfl; rfl; (apply g_binInt; rfl; rfl; rfl); intro _ _;
        refine exl_nilT ?_;
        refine ex_cond rfl (fun h => ?_) (fun h => ?_) <;> ((first | (subst h; rename BV _ true => h0; have h := h0.eq; clear h0) | (subst h; rename BV _ false => h0; have h := h0.eq; clear h0) | skip); (have hp := h; try simp only [decide_eq_true_eq, decide_eq_false_iff_not, Bool.not_eq_true', Bool.not_eq_false', bne_iff_ne, beq_iff_eq, beq_eq_false_iff_ne, bne_eq_false_iff_eq, Int.not_lt, Int.not_le] at hp); (try (exfalso; first | omega | (cases hp; done))));
        refine ex_exit ?_;
        refine ex_seq ?_;
        refine ex_region ?_;
        apply exl_is; rfl; rfl; rfl; (apply g_move; rfl);
        apply exl_is; rfl; rfl; rfl; (apply g_assign; rfl);
        apply exl_is; rfl; rfl; rfl; (apply g_assign; rfl);
        refine exl_nilT ?_;
        refine ex_ret ?_;
        simp only [thenA, blockA, roundA, noGotoA, retA, ↓reduceIte, Nat.reduceEqDiff];
        rotate_left
        (all_goals (repeat (rename BV _ _ => hbv; cases hbv)))
        all_goals (try (exfalso; first | (rename true = false => hx; cases hx; done) | (rename false = true => hx; cases hx; done)))
        refine ret_is .nil (.cons (.ofTmp rfl) (.cons (.ofTmp rfl) .nil)) (by repeat (first | exact List.Sublist.refl _ | apply List.Sublist.cons_cons | apply List.Sublist.cons)) ?_
        rfl
  · obtain ⟨e1, e2⟩ := shr_bad s h
    rw [e1, e2]
    refine ex_seq ?_;
    refine ex_region ?_;
    apply exl_is; rfl; rfl; rfl; (apply g_assign; rfl);
    apply exl_is; rfl; rfl; rfl; (apply g_assign; rfl);
    refine exl_nilT ?_;
    refine ex_seq ?_;
    refine ex_region ?_;
    apply exl_is; rfl; rfl; rfl; (apply g_move; rfl);
    apply exl_is; rfl; rfl; rfl; (apply g_move; rfl);
    apply exl_is; rfl; rfl; rfl; (exact g_call rfl rfl (enters_b (by kernel_rfl)) (c1 _));
    apply exl_is; rfl; rfl; rfl; (apply g_assign; rfl);
    refine exl_nilT ?_;
    refine ex_seq ?_;
    refine ex_seq ?_;
    refine ex_region ?_;
    apply exl_is; rfl; rfl; rfl; (apply g_move; rfl);
    apply exl_isB; rfl; rfl; rfl; (apply g_binInt; rfl; rfl; rfl); intro _ _;
    refine exl_nilT ?_;
    refine ex_cond rfl (fun h => ?_) (fun h => ?_) <;> ((first | (subst h; rename BV _ true => h0; have h := h0.eq; clear h0) | (subst h; rename BV _ false => h0; have h := h0.eq; clear h0) | skip); (have hp := h; try simp only [decide_eq_true_eq, decide_eq_false_iff_not, Bool.not_eq_true', Bool.not_eq_false', bne_iff_ne, beq_iff_eq, beq_eq_false_iff_ne, bne_eq_false_iff_eq, Int.not_lt, Int.not_le] at hp); (try (exfalso; first | omega | (cases hp; done))));
    refine ex_seq ?_;
    refine ex_region ?_;
    apply exl_is; rfl; rfl; rfl; (apply g_move; rfl);
    apply exl_is; rfl; rfl; rfl; (apply g_assign; rfl);
    apply exl_is; rfl; rfl; rfl; (apply g_assign; rfl);
    refine exl_nilT ?_;
    refine ex_ret ?_;
    simp only [thenA, blockA, roundA, noGotoA, retA, ↓reduceIte, Nat.reduceEqDiff];
    rotate_left
    (all_goals (repeat (rename BV _ _ => hbv; cases hbv)))
    all_goals (try (exfalso; first | (rename true = false => hx; cases hx; done) | (rename false = true => hx; cases hx; done)))
    refine ret_is .nil (.cons (.ofTmp rfl) (.cons (.ofTmp rfl) .nil)) (by repeat (first | exact List.Sublist.refl _ | apply List.Sublist.cons_cons | apply List.Sublist.cons)) ?_
    rfl
set_option maxHeartbeats 2000000 in
set_option maxRecDepth 10000 in
theorem rCores_c (n : Int) (l : List Bool) (σ : List Ent) : SCall Try.prog 22 [.int .i64 n, bools l] σ (Is (.tup [ints (corR n l), ints (maxR n l), .int .i64 (tableH n l)]) σ) := by
  refine scall_of Try.func22 rfl (by simp) ?_
  have c1 := rTable_c n l
  by_cases h : tableH n l = 0
  · rw [show corR n l = natI (coresL n.toNat (tabF l)) by unfold corR; rw [if_pos h], show maxR n l = natI (maxisL n.toNat (tabF l)) by unfold maxR; rw [if_pos h]]
    obtain ⟨N, rfl, hN, hl, hm⟩ := table_zero h
    have hp := pow12 hN
    rw [show ((N : Int)).toNat = N from rfl]
    rw [h] at c1 ⊢
    clear hm h
    have c2 := fun s hs => rCore_c N l s hN hl hs
    have c3 := fun s hs => rGreatest_c N l s hN hl hs
    refine ex_nilRow 3 1 ?_
    refine ex_nilRow 3 1 ?_
    refine ex_seq ?_;
    refine ex_region ?_;
    apply exl_is; rfl; rfl; rfl; (apply g_assign; rfl);
    apply exl_is; rfl; rfl; rfl; (apply g_assign; rfl);
    apply exl_is; rfl; rfl; rfl; (apply g_assign; rfl);
    refine exl_nilT ?_;
    refine ex_seq ?_;
    refine ex_region ?_;
    apply exl_is; rfl; rfl; rfl; (apply g_move; rfl);
    apply exl_is; rfl; rfl; rfl; (apply g_move; rfl);
    apply exl_is; rfl; rfl; rfl; (exact g_call rfl rfl (enters_b (by kernel_rfl)) (c1 _));
    apply exl_is; rfl; rfl; rfl; (apply g_assign; rfl);
    refine exl_nilT ?_;
    refine ex_seq ?_;
    refine ex_seq ?_;
    refine ex_region ?_;
    apply exl_is; rfl; rfl; rfl; (apply g_move; rfl);
    apply exl_isB; rfl; rfl; rfl; (apply g_binInt; rfl; rfl; rfl); intro _ _;
    refine exl_nilT ?_;
    refine ex_cond rfl (fun h => ?_) (fun h => ?_) <;> ((first | (subst h; rename BV _ true => h0; have h := h0.eq; clear h0) | (subst h; rename BV _ false => h0; have h := h0.eq; clear h0) | skip); (have hp := h; try simp only [decide_eq_true_eq, decide_eq_false_iff_not, Bool.not_eq_true', Bool.not_eq_false', bne_iff_ne, beq_iff_eq, beq_eq_false_iff_ne, bne_eq_false_iff_eq, Int.not_lt, Int.not_le] at hp); (try (exfalso; first | omega | (cases hp; done))));
    refine ex_skip ?_;
    refine ex_seq ?_;
    refine ex_region ?_;
    apply exl_is; rfl; rfl; rfl; (apply g_assign; rfl);
    refine exl_nilT ?_;
    refine ex_seq ?_;
    refine ex_region ?_;
    apply exl_is; rfl; rfl; rfl; (apply g_assign; rfl);
    refine exl_nilT ?_;
    refine ex_seq ?_;
    refine ex_seq ?_;
    refine ex_region ?_;
    apply exl_is; rfl; rfl; rfl; (apply g_assign; rfl);
    refine exl_nilT ?_;
    refine ex_block ?_;
    rotate_left
    (all_goals (repeat (rename BV _ _ => hbv; cases hbv)))
    all_goals (try (exfalso; first | (rename true = false => hx; cases hx; done) | (rename false = true => hx; cases hx; done)))
    clear c1
    refine ex_loop (fun (z : Nat × Value × Value) => (⟨[(0, .int .i64 N), (1, bools l), (10, .int .i64 z.1), (8, .slv z.2.1), (9, .slv z.2.2)], .row z.2.1 3 1 ((natI ((List.range z.1).filter (coreB N (tabF l)))).map intC) :: .row z.2.2 3 1 ((natI ((List.range z.1).filter (maxiB N (tabF l)))).map intC) :: σ, [], Try.f22.ntmps⟩ : St)) (fun z => z.1 ≤ 2 ^ N) (fun z => 2 ^ N - z.1) (0, nilS, nilS) (Nat.zero_le _) (St.le_of (by repeat (first | exact trivial | refine ⟨rfl, ?_⟩)) (by repeat (first | exact List.Sublist.refl _ | apply List.Sublist.cons_cons | apply List.Sublist.cons))) ?_
    intro z hI
    obtain ⟨i, v, u⟩ := z
    dsimp only at hI ⊢
    by_cases hi : i < 2 ^ N
    · have c4 := c2 i hi
      have c5 := c3 i hi
      have hst := range_filter i (coreB N (tabF l))
      have hst2 := range_filter i (maxiB N (tabF l))
      have hlen := filter_len (n := i) (p := coreB N (tabF l))
      have hlen2 := filter_len (n := i) (p := maxiB N (tabF l))
      clear c2 c3
      generalize (List.range i).filter (coreB N (tabF l)) = A at hst hlen ⊢
      generalize (List.range i).filter (maxiB N (tabF l)) = B at hst2 hlen2 ⊢
      have hA : (natI (A ++ [i])).map intC = (natI A).map intC ++ [intC (i : Int)] := by simp
      have hB : (natI (B ++ [i])).map intC = (natI B).map intC ++ [intC (i : Int)] := by simp
      cases hm : coreB N (tabF l) i with
      | true =>
        cases hx : maxiB N (tabF l) i with
        | true =>
          rw [hm] at c4 hst
          rw [hx] at c5 hst2
          refine ex_seq ?_;
          refine ex_seq ?_;
          refine ex_region ?_;
          apply exl_is; rfl; rfl; rfl; (apply g_move; rfl);
          apply exl_is; rfl; rfl; rfl; (apply g_move; rfl);
          apply exl_is; rfl; rfl; rfl; (apply g_len; rfl; rfl; (exact (List.length_map _).symm));
          apply exl_isB; rfl; rfl; rfl; (apply g_binInt; rfl; rfl; rfl); intro _ _;
          refine exl_nilT ?_;
          refine ex_cond rfl (fun h => ?_) (fun h => ?_) <;> ((first | (subst h; rename BV _ true => h0; have h := h0.eq; clear h0) | (subst h; rename BV _ false => h0; have h := h0.eq; clear h0) | skip); (have hp := h; try simp only [decide_eq_true_eq, decide_eq_false_iff_not, Bool.not_eq_true', Bool.not_eq_false', bne_iff_ne, beq_iff_eq, beq_eq_false_iff_ne, bne_eq_false_iff_eq, Int.not_lt, Int.not_le] at hp); (try (exfalso; first | omega | (cases hp; done))));
          refine ex_skip ?_;
          refine ex_seq ?_;
          refine ex_block ?_;
          refine ex_seq ?_;
          refine ex_seq ?_;
          refine ex_region ?_;
          apply exl_is; rfl; rfl; rfl; (apply g_move; rfl);
          apply exl_is; rfl; rfl; rfl; (apply g_move; rfl);
          apply exl_is; rfl; rfl; rfl; (apply g_move; rfl);
          apply exl_isB; rfl; rfl; rfl; (exact g_call rfl rfl (enters_b (by kernel_rfl)) (c4 _)); intro _ _;
          refine exl_nilT ?_;
          refine ex_cond rfl (fun h => ?_) (fun h => ?_) <;> ((first | (subst h; rename BV _ true => h0; have h := h0.eq; clear h0) | (subst h; rename BV _ false => h0; have h := h0.eq; clear h0) | skip); (have hp := h; try simp only [decide_eq_true_eq, decide_eq_false_iff_not, Bool.not_eq_true', Bool.not_eq_false', bne_iff_ne, beq_iff_eq, beq_eq_false_iff_ne, bne_eq_false_iff_eq, Int.not_lt, Int.not_le] at hp); (try (exfalso; first | omega | (cases hp; done))));
          refine ex_region ?_;
          apply exl_is; rfl; rfl; rfl; (apply g_move; rfl);
          apply exl_is; rfl; rfl; rfl; (apply g_move; rfl);
          refine exl_row rfl rfl rfl (by exact g_buildSlice rfl rfl (by decide) rfl rfl (by (simp only [chunkN, List.take_succ_cons, List.take_zero, List.drop_succ_cons, List.drop_zero]; rfl))) ?_; intro _;
          apply exl_grew; rfl; rfl; rfl; (apply g_append; rfl; rfl; rfl; (intro v'; (exact Upd.there (Upd.here))); (exact .r (by ((repeat (first | exact List.Mem.head _ | assumption | refine List.Mem.tail _ ?_)); done))); (intro y hy; simp only [List.mem_map, List.mem_cons, List.not_mem_nil, or_false, List.mem_append] at hy; (focus (obtain ⟨_, _, rfl⟩ := hy; rfl; done))); (refine app_ok ?_ (by kernel_rfl); (try simp only [List.length_append, List.length_map, List.length_cons, List.length_nil, List.length_take, List.length_drop]); omega)); intro _;
          apply exl_is; rfl; rfl; rfl; (apply g_assign; rfl);
          refine exl_nilT ?_;
          refine ex_seq ?_;
          refine ex_region ?_;
          apply exl_is; rfl; rfl; rfl; (apply g_move; rfl);
          apply exl_is; rfl; rfl; rfl; (apply g_move; rfl);
          apply exl_is; rfl; rfl; rfl; (apply g_move; rfl);
          apply exl_isB; rfl; rfl; rfl; (exact g_call rfl rfl (enters_b (by kernel_rfl)) (c5 _)); intro _ _;
          refine exl_nilT ?_;
          refine ex_cond rfl (fun h => ?_) (fun h => ?_) <;> ((first | (subst h; rename BV _ true => h0; have h := h0.eq; clear h0) | (subst h; rename BV _ false => h0; have h := h0.eq; clear h0) | skip); (have hp := h; try simp only [decide_eq_true_eq, decide_eq_false_iff_not, Bool.not_eq_true', Bool.not_eq_false', bne_iff_ne, beq_iff_eq, beq_eq_false_iff_ne, bne_eq_false_iff_eq, Int.not_lt, Int.not_le] at hp); (try (exfalso; first | omega | (cases hp; done))));
          refine ex_region ?_;
          apply exl_is; rfl; rfl; rfl; (apply g_move; rfl);
          apply exl_is; rfl; rfl; rfl; (apply g_move; rfl);
          refine exl_row rfl rfl rfl (by exact g_buildSlice rfl rfl (by decide) rfl rfl (by (simp only [chunkN, List.take_succ_cons, List.take_zero, List.drop_succ_cons, List.drop_zero]; rfl))) ?_; intro _;
          apply exl_grew; rfl; rfl; rfl; (apply g_append; rfl; rfl; rfl; (intro v'; (exact Upd.there (Upd.there (Upd.there (Upd.here))))); (exact .r (by ((repeat (first | exact List.Mem.head _ | assumption | refine List.Mem.tail _ ?_)); done))); (intro y hy; simp only [List.mem_map, List.mem_cons, List.not_mem_nil, or_false, List.mem_append] at hy; (focus (obtain ⟨_, _, rfl⟩ := hy; rfl; done))); (refine app_ok ?_ (by kernel_rfl); (try simp only [List.length_append, List.length_map, List.length_cons, List.length_nil, List.length_take, List.length_drop]); omega)); intro _;
          apply exl_is; rfl; rfl; rfl; (apply g_assign; rfl);
          refine exl_nil ?_;
          refine ex_region ?_;
          apply exl_is; rfl; rfl; rfl; (apply g_move; rfl);
          apply exl_is; rfl; rfl; rfl; (apply g_add; rfl; rfl; rfl; exact ⟨by omega, by omega⟩);
          apply exl_is; rfl; rfl; rfl; (apply g_assign; rfl);
          refine exl_nil ?_;
          simp only [thenA, blockA, roundA, noGotoA, retA, ↓reduceIte, Nat.reduceEqDiff];
          rotate_left
          (all_goals (repeat (rename BV _ _ => hbv; cases hbv)))
          all_goals (try (exfalso; first | (rename true = false => hx; cases hx; done) | (rename false = true => hx; cases hx; done)))
          rename_i v2 v3 v4 v5
          refine ⟨(i + 1, v3, v5), by dsimp only; omega, by dsimp only; omega, ?_⟩
          dsimp only
          rw [hst, hst2, if_pos rfl, hA, hB]
          exact (St.le_of (by repeat (first | exact trivial | refine ⟨rfl, ?_⟩)) (by repeat (first | exact List.Sublist.refl _ | apply List.Sublist.cons_cons | apply List.Sublist.cons)))
        | false =>
          rw [hm] at c4 hst
          rw [hx] at c5 hst2
          refine ex_seq ?_;
          refine ex_seq ?_;
          refine ex_region ?_;
          apply exl_is; rfl; rfl; rfl; (apply g_move; rfl);
          apply exl_is; rfl; rfl; rfl; (apply g_move; rfl);
          apply exl_is; rfl; rfl; rfl; (apply g_len; rfl; rfl; (exact (List.length_map _).symm));
          apply exl_isB; rfl; rfl; rfl; (apply g_binInt; rfl; rfl; rfl); intro _ _;
          refine exl_nilT ?_;
          refine ex_cond rfl (fun h => ?_) (fun h => ?_) <;> ((first | (subst h; rename BV _ true => h0; have h := h0.eq; clear h0) | (subst h; rename BV _ false => h0; have h := h0.eq; clear h0) | skip); (have hp := h; try simp only [decide_eq_true_eq, decide_eq_false_iff_not, Bool.not_eq_true', Bool.not_eq_false', bne_iff_ne, beq_iff_eq, beq_eq_false_iff_ne, bne_eq_false_iff_eq, Int.not_lt, Int.not_le] at hp); (try (exfalso; first | omega | (cases hp; done))));
          refine ex_skip ?_;
          refine ex_seq ?_;
          refine ex_block ?_;
          refine ex_seq ?_;
          refine ex_seq ?_;
          refine ex_region ?_;
          apply exl_is; rfl; rfl; rfl; (apply g_move; rfl);
          apply exl_is; rfl; rfl; rfl; (apply g_move; rfl);
          apply exl_is; rfl; rfl; rfl; (apply g_move; rfl);
          apply exl_isB; rfl; rfl; rfl; (exact g_call rfl rfl (enters_b (by kernel_rfl)) (c4 _)); intro _ _;
          refine exl_nilT ?_;
          refine ex_cond rfl (fun h => ?_) (fun h => ?_) <;> ((first | (subst h; rename BV _ true => h0; have h := h0.eq; clear h0) | (subst h; rename BV _ false => h0; have h := h0.eq; clear h0) | skip); (have hp := h; try simp only [decide_eq_true_eq, decide_eq_false_iff_not, Bool.not_eq_true', Bool.not_eq_false', bne_iff_ne, beq_iff_eq, beq_eq_false_iff_ne, bne_eq_false_iff_eq, Int.not_lt, Int.not_le] at hp); (try (exfalso; first | omega | (cases hp; done))));
          refine ex_region ?_;
          apply exl_is; rfl; rfl; rfl; (apply g_move; rfl);
          apply exl_is; rfl; rfl; rfl; (apply g_move; rfl);
          refine exl_row rfl rfl rfl (by exact g_buildSlice rfl rfl (by decide) rfl rfl (by (simp only [chunkN, List.take_succ_cons, List.take_zero, List.drop_succ_cons, List.drop_zero]; rfl))) ?_; intro _;
          apply exl_grew; rfl; rfl; rfl; (apply g_append; rfl; rfl; rfl; (intro v'; (exact Upd.there (Upd.here))); (exact .r (by ((repeat (first | exact List.Mem.head _ | assumption | refine List.Mem.tail _ ?_)); done))); (intro y hy; simp only [List.mem_map, List.mem_cons, List.not_mem_nil, or_false, List.mem_append] at hy; (focus (obtain ⟨_, _, rfl⟩ := hy; rfl; done))); (refine app_ok ?_ (by kernel_rfl); (try simp only [List.length_append, List.length_map, List.length_cons, List.length_nil, List.length_take, List.length_drop]); omega)); intro _;
          apply exl_is; rfl; rfl; rfl; (apply g_assign; rfl);
          refine exl_nilT ?_;
          refine ex_seq ?_;
          refine ex_region ?_;
          apply exl_is; rfl; rfl; rfl; (apply g_move; rfl);
          apply exl_is; rfl; rfl; rfl; (apply g_move; rfl);
          apply exl_is; rfl; rfl; rfl; (apply g_move; rfl);
          apply exl_isB; rfl; rfl; rfl; (exact g_call rfl rfl (enters_b (by kernel_rfl)) (c5 _)); intro _ _;
          refine exl_nilT ?_;
          refine ex_cond rfl (fun h => ?_) (fun h => ?_) <;> ((first | (subst h; rename BV _ true => h0; have h := h0.eq; clear h0) | (subst h; rename BV _ false => h0; have h := h0.eq; clear h0) | skip); (have hp := h; try simp only [decide_eq_true_eq, decide_eq_false_iff_not, Bool.not_eq_true', Bool.not_eq_false', bne_iff_ne, beq_iff_eq, beq_eq_false_iff_ne, bne_eq_false_iff_eq, Int.not_lt, Int.not_le] at hp); (try (exfalso; first | omega | (cases hp; done))));
          refine ex_skip ?_;
          refine ex_region ?_;
          apply exl_is; rfl; rfl; rfl; (apply g_move; rfl);
          apply exl_is; rfl; rfl; rfl; (apply g_add; rfl; rfl; rfl; exact ⟨by omega, by omega⟩);
          apply exl_is; rfl; rfl; rfl; (apply g_assign; rfl);
          refine exl_nil ?_;
          simp only [thenA, blockA, roundA, noGotoA, retA, ↓reduceIte, Nat.reduceEqDiff];
          rotate_left
          (all_goals (repeat (rename BV _ _ => hbv; cases hbv)))
          all_goals (try (exfalso; first | (rename true = false => hx; cases hx; done) | (rename false = true => hx; cases hx; done)))
          rename_i v2 v3
          refine ⟨(i + 1, v3, u), by dsimp only; omega, by dsimp only; omega, ?_⟩
          dsimp only
          rw [hst, hst2, if_pos rfl, if_neg (by simp), hA, List.append_nil]
          exact (St.le_of (by repeat (first | exact trivial | refine ⟨rfl, ?_⟩)) (by repeat (first | exact List.Sublist.refl _ | apply List.Sublist.cons_cons | apply List.Sublist.cons)))
      | false =>
        cases hx : maxiB N (tabF l) i with
        | true =>
          rw [hm] at c4 hst
          rw [hx] at c5 hst2
          refine ex_seq ?_;
          refine ex_seq ?_;
          refine ex_region ?_;
          apply exl_is; rfl; rfl; rfl; (apply g_move; rfl);
          apply exl_is; rfl; rfl; rfl; (apply g_move; rfl);
          apply exl_is; rfl; rfl; rfl; (apply g_len; rfl; rfl; (exact (List.length_map _).symm));
          apply exl_isB; rfl; rfl; rfl; (apply g_binInt; rfl; rfl; rfl); intro _ _;
          refine exl_nilT ?_;
          refine ex_cond rfl (fun h => ?_) (fun h => ?_) <;> ((first | (subst h; rename BV _ true => h0; have h := h0.eq; clear h0) | (subst h; rename BV _ false => h0; have h := h0.eq; clear h0) | skip); (have hp := h; try simp only [decide_eq_true_eq, decide_eq_false_iff_not, Bool.not_eq_true', Bool.not_eq_false', bne_iff_ne, beq_iff_eq, beq_eq_false_iff_ne, bne_eq_false_iff_eq, Int.not_lt, Int.not_le] at hp); (try (exfalso; first | omega | (cases hp; done))));
          refine ex_skip ?_;
          refine ex_seq ?_;
          refine ex_block ?_;
          refine ex_seq ?_;
          refine ex_seq ?_;
          refine ex_region ?_;
          apply exl_is; rfl; rfl; rfl; (apply g_move; rfl);
          apply exl_is; rfl; rfl; rfl; (apply g_move; rfl);
          apply exl_is; rfl; rfl; rfl; (apply g_move; rfl);
          apply exl_isB; rfl; rfl; rfl; (exact g_call rfl rfl (enters_b (by kernel_rfl)) (c4 _)); intro _ _;
          refine exl_nilT ?_;
          refine ex_cond rfl (fun h => ?_) (fun h => ?_) <;> ((first | (subst h; rename BV _ true => h0; have h := h0.eq; clear h0) | (subst h; rename BV _ false => h0; have h := h0.eq; clear h0) | skip); (have hp := h; try simp only [decide_eq_true_eq, decide_eq_false_iff_not, Bool.not_eq_true', Bool.not_eq_false', bne_iff_ne, beq_iff_eq, beq_eq_false_iff_ne, bne_eq_false_iff_eq, Int.not_lt, Int.not_le] at hp); (try (exfalso; first | omega | (cases hp; done))));
          refine ex_skip ?_;
          refine ex_seq ?_;
          refine ex_region ?_;
          apply exl_is; rfl; rfl; rfl; (apply g_move; rfl);
          apply exl_is; rfl; rfl; rfl; (apply g_move; rfl);
          apply exl_is; rfl; rfl; rfl; (apply g_move; rfl);
          apply exl_isB; rfl; rfl; rfl; (exact g_call rfl rfl (enters_b (by kernel_rfl)) (c5 _)); intro _ _;
          refine exl_nilT ?_;
          refine ex_cond rfl (fun h => ?_) (fun h => ?_) <;> ((first | (subst h; rename BV _ true => h0; have h := h0.eq; clear h0) | (subst h; rename BV _ false => h0; have h := h0.eq; clear h0) | skip); (have hp := h; try simp only [decide_eq_true_eq, decide_eq_false_iff_not, Bool.not_eq_true', Bool.not_eq_false', bne_iff_ne, beq_iff_eq, beq_eq_false_iff_ne, bne_eq_false_iff_eq, Int.not_lt, Int.not_le] at hp); (try (exfalso; first | omega | (cases hp; done))));
          refine ex_region ?_;
          apply exl_is; rfl; rfl; rfl; (apply g_move; rfl);
          apply exl_is; rfl; rfl; rfl; (apply g_move; rfl);
          refine exl_row rfl rfl rfl (by exact g_buildSlice rfl rfl (by decide) rfl rfl (by (simp only [chunkN, List.take_succ_cons, List.take_zero, List.drop_succ_cons, List.drop_zero]; rfl))) ?_; intro _;
          apply exl_grew; rfl; rfl; rfl; (apply g_append; rfl; rfl; rfl; (intro v'; (exact Upd.there (Upd.there (Upd.here)))); (exact .r (by ((repeat (first | exact List.Mem.head _ | assumption | refine List.Mem.tail _ ?_)); done))); (intro y hy; simp only [List.mem_map, List.mem_cons, List.not_mem_nil, or_false, List.mem_append] at hy; (focus (obtain ⟨_, _, rfl⟩ := hy; rfl; done))); (refine app_ok ?_ (by kernel_rfl); (try simp only [List.length_append, List.length_map, List.length_cons, List.length_nil, List.length_take, List.length_drop]); omega)); intro _;
          apply exl_is; rfl; rfl; rfl; (apply g_assign; rfl);
          refine exl_nil ?_;
          refine ex_region ?_;
          apply exl_is; rfl; rfl; rfl; (apply g_move; rfl);
          apply exl_is; rfl; rfl; rfl; (apply g_add; rfl; rfl; rfl; exact ⟨by omega, by omega⟩);
          apply exl_is; rfl; rfl; rfl; (apply g_assign; rfl);
          refine exl_nil ?_;
          simp only [thenA, blockA, roundA, noGotoA, retA, ↓reduceIte, Nat.reduceEqDiff];
          rotate_left
          (all_goals (repeat (rename BV _ _ => hbv; cases hbv)))
          all_goals (try (exfalso; first | (rename true = false => hx; cases hx; done) | (rename false = true => hx; cases hx; done)))
          rename_i v2 v3
          refine ⟨(i + 1, v, v3), by dsimp only; omega, by dsimp only; omega, ?_⟩
          dsimp only
          rw [hst, hst2, if_neg (by simp), if_pos rfl, hB, List.append_nil]
          exact (St.le_of (by repeat (first | exact trivial | refine ⟨rfl, ?_⟩)) (by repeat (first | exact List.Sublist.refl _ | apply List.Sublist.cons_cons | apply List.Sublist.cons)))
        | false =>
          rw [hm] at c4 hst
          rw [hx] at c5 hst2
          refine ex_seq ?_;
          refine ex_seq ?_;
          refine ex_region ?_;
          apply exl_is; rfl; rfl; rfl; (apply g_move; rfl);
          apply exl_is; rfl; rfl; rfl; (apply g_move; rfl);
          apply exl_is; rfl; rfl; rfl; (apply g_len; rfl; rfl; (exact (List.length_map _).symm));
          apply exl_isB; rfl; rfl; rfl; (apply g_binInt; rfl; rfl; rfl); intro _ _;
          refine exl_nilT ?_;
          refine ex_cond rfl (fun h => ?_) (fun h => ?_) <;> ((first | (subst h; rename BV _ true => h0; have h := h0.eq; clear h0) | (subst h; rename BV _ false => h0; have h := h0.eq; clear h0) | skip); (have hp := h; try simp only [decide_eq_true_eq, decide_eq_false_iff_not, Bool.not_eq_true', Bool.not_eq_false', bne_iff_ne, beq_iff_eq, beq_eq_false_iff_ne, bne_eq_false_iff_eq, Int.not_lt, Int.not_le] at hp); (try (exfalso; first | omega | (cases hp; done))));
          refine ex_skip ?_;
          refine ex_seq ?_;
          refine ex_block ?_;
          refine ex_seq ?_;
          refine ex_seq ?_;
          refine ex_region ?_;
          apply exl_is; rfl; rfl; rfl; (apply g_move; rfl);
          apply exl_is; rfl; rfl; rfl; (apply g_move; rfl);
          apply exl_is; rfl; rfl; rfl; (apply g_move; rfl);
          apply exl_isB; rfl; rfl; rfl; (exact g_call rfl rfl (enters_b (by kernel_rfl)) (c4 _)); intro _ _;
          refine exl_nilT ?_;
          refine ex_cond rfl (fun h => ?_) (fun h => ?_) <;> ((first | (subst h; rename BV _ true => h0; have h := h0.eq; clear h0) | (subst h; rename BV _ false => h0; have h := h0.eq; clear h0) | skip); (have hp := h; try simp only [decide_eq_true_eq, decide_eq_false_iff_not, Bool.not_eq_true', Bool.not_eq_false', bne_iff_ne, beq_iff_eq, beq_eq_false_iff_ne, bne_eq_false_iff_eq, Int.not_lt, Int.not_le] at hp); (try (exfalso; first | omega | (cases hp; done))));
          refine ex_skip ?_;
          refine ex_seq ?_;
          refine ex_region ?_;
          apply exl_is; rfl; rfl; rfl; (apply g_move; rfl);
          apply exl_is; rfl; rfl; rfl; (apply g_move; rfl);
          apply exl_is; rfl; rfl; rfl; (apply g_move; rfl);
          apply exl_isB; rfl; rfl; rfl; (exact g_call rfl rfl (enters_b (by kernel_rfl)) (c5 _)); intro _ _;
          refine exl_nilT ?_;
          refine ex_cond rfl (fun h => ?_) (fun h => ?_) <;> ((first | (subst h; rename BV _ true => h0; have h := h0.eq; clear h0) | (subst h; rename BV _ false => h0; have h := h0.eq; clear h0) | skip); (have hp := h; try simp only [decide_eq_true_eq, decide_eq_false_iff_not, Bool.not_eq_true', Bool.not_eq_false', bne_iff_ne, beq_iff_eq, beq_eq_false_iff_ne, bne_eq_false_iff_eq, Int.not_lt, Int.not_le] at hp); (try (exfalso; first | omega | (cases hp; done))));
          refine ex_skip ?_;
          refine ex_region ?_;
          apply exl_is; rfl; rfl; rfl; (apply g_move; rfl);
          apply exl_is; rfl; rfl; rfl; (apply g_add; rfl; rfl; rfl; exact ⟨by omega, by omega⟩);
          apply exl_is; rfl; rfl; rfl; (apply g_assign; rfl);
          refine exl_nil ?_;
          simp only [thenA, blockA, roundA, noGotoA, retA, ↓reduceIte, Nat.reduceEqDiff];
          rotate_left
          (all_goals (repeat (rename BV _ _ => hbv; cases hbv)))
          all_goals (try (exfalso; first | (rename true = false => hx; cases hx; done) | (rename false = true => hx; cases hx; done)))
          skip
          refine ⟨(i + 1, v, u), by dsimp only; omega, by dsimp only; omega, ?_⟩
          dsimp only
          rw [hst, hst2, if_neg (by simp), List.append_nil, List.append_nil]
          exact (St.le_of (by repeat (first | exact trivial | refine ⟨rfl, ?_⟩)) (by repeat (first | exact List.Sublist.refl _ | apply List.Sublist.cons_cons | apply List.Sublist.cons)))
    · have e : i = 2 ^ N := by omega
      subst e
      clear c2 c3
      rw [show (List.range (2 ^ N)).filter (coreB N (tabF l)) = coresL N (tabF l) from rfl, show (List.range (2 ^ N)).filter (maxiB N (tabF l)) = maxisL N (tabF l) from rfl]
      refine ex_seq ?_;
      refine ex_seq ?_;
      refine ex_region ?_;
      apply exl_is; rfl; rfl; rfl; (apply g_move; rfl);
      apply exl_is; rfl; rfl; rfl; (apply g_move; rfl);
      apply exl_is; rfl; rfl; rfl; (apply g_len; rfl; rfl; (exact (List.length_map _).symm));
      apply exl_isB; rfl; rfl; rfl; (apply g_binInt; rfl; rfl; rfl); intro _ _;
      refine exl_nilT ?_;
      refine ex_cond rfl (fun h => ?_) (fun h => ?_) <;> ((first | (subst h; rename BV _ true => h0; have h := h0.eq; clear h0) | (subst h; rename BV _ false => h0; have h := h0.eq; clear h0) | skip); (have hp := h; try simp only [decide_eq_true_eq, decide_eq_false_iff_not, Bool.not_eq_true', Bool.not_eq_false', bne_iff_ne, beq_iff_eq, beq_eq_false_iff_ne, bne_eq_false_iff_eq, Int.not_lt, Int.not_le] at hp); (try (exfalso; first | omega | (cases hp; done))));
      refine ex_exit ?_;
      refine ex_seq ?_;
      refine ex_region ?_;
      apply exl_is; rfl; rfl; rfl; (apply g_move; rfl);
      apply exl_is; rfl; rfl; rfl; (apply g_move; rfl);
      apply exl_is; rfl; rfl; rfl; (apply g_assign; rfl);
      apply exl_is; rfl; rfl; rfl; (apply g_assign; rfl);
      apply exl_is; rfl; rfl; rfl; (apply g_assign; rfl);
      refine exl_nilT ?_;
      refine ex_ret ?_;
      simp only [thenA, blockA, roundA, noGotoA, retA, ↓reduceIte, Nat.reduceEqDiff];
      rotate_left
      (all_goals (repeat (rename BV _ _ => hbv; cases hbv)))
      all_goals (try (exfalso; first | (rename true = false => hx; cases hx; done) | (rename false = true => hx; cases hx; done)))
      refine ret_q (σ3 := .row v 3 1 ((natI (coresL N (tabF l))).map intC) :: .row u 3 1 ((natI (maxisL N (tabF l))).map intC) :: σ) .nil (.cons (.ofTmp rfl) (.cons (.ofTmp rfl) (.cons (.ofTmp rfl) .nil))) (by repeat (first | exact List.Sublist.refl _ | apply List.Sublist.cons_cons | apply List.Sublist.cons)) ?_
      refine fin_seal .here (.tup (.here (.same (.same .nil))) .nil) ?_
      exact fin_seal .here (.tup (.same (.here (.same .nil))) .nil) (fin_done .mk)
  · rw [show corR n l = [] by unfold corR; rw [if_neg h], show maxR n l = [] by unfold maxR; rw [if_neg h]]
    refine ex_seq ?_;
    refine ex_region ?_;
    apply exl_is; rfl; rfl; rfl; (apply g_assign; rfl);
    apply exl_is; rfl; rfl; rfl; (apply g_assign; rfl);
    apply exl_is; rfl; rfl; rfl; (apply g_assign; rfl);
    refine exl_nilT ?_;
    refine ex_seq ?_;
    refine ex_region ?_;
    apply exl_is; rfl; rfl; rfl; (apply g_move; rfl);
    apply exl_is; rfl; rfl; rfl; (apply g_move; rfl);
    apply exl_is; rfl; rfl; rfl; (exact g_call rfl rfl (enters_b (by kernel_rfl)) (c1 _));
    apply exl_is; rfl; rfl; rfl; (apply g_assign; rfl);
    refine exl_nilT ?_;
    refine ex_seq ?_;
    refine ex_seq ?_;
    refine ex_region ?_;
    apply exl_is; rfl; rfl; rfl; (apply g_move; rfl);
    apply exl_isB; rfl; rfl; rfl; (apply g_binInt; rfl; rfl; rfl); intro _ _;
    refine exl_nilT ?_;
    refine ex_cond rfl (fun h => ?_) (fun h => ?_) <;> ((first | (subst h; rename BV _ true => h0; have h := h0.eq; clear h0) | (subst h; rename BV _ false => h0; have h := h0.eq; clear h0) | skip); (have hp := h; try simp only [decide_eq_true_eq, decide_eq_false_iff_not, Bool.not_eq_true', Bool.not_eq_false', bne_iff_ne, beq_iff_eq, beq_eq_false_iff_ne, bne_eq_false_iff_eq, Int.not_lt, Int.not_le] at hp); (try (exfalso; first | omega | (cases hp; done))));
    refine ex_seq ?_;
    refine ex_region ?_;
    apply exl_is; rfl; rfl; rfl; (apply g_move; rfl);
    apply exl_is; rfl; rfl; rfl; (apply g_assign; rfl);
    apply exl_is; rfl; rfl; rfl; (apply g_assign; rfl);
    apply exl_is; rfl; rfl; rfl; (apply g_assign; rfl);
    refine exl_nilT ?_;
    refine ex_ret ?_;
    simp only [thenA, blockA, roundA, noGotoA, retA, ↓reduceIte, Nat.reduceEqDiff];
    rotate_left
    (all_goals (repeat (rename BV _ _ => hbv; cases hbv)))
    all_goals (try (exfalso; first | (rename true = false => hx; cases hx; done) | (rename false = true => hx; cases hx; done)))
    refine ret_q (σ3 := σ) .nil (.cons (.ofTmp rfl) (.cons (.ofTmp rfl) (.cons (.ofTmp rfl) .nil))) (by repeat (first | exact List.Sublist.refl _ | apply List.Sublist.cons_cons | apply List.Sublist.cons)) ?_
    refine fin_nil (sz := 1) (.tup (.here (.same (.same .nil))) .nil) ?_
    exact fin_nil (sz := 1) (.tup (.same (.here (.same .nil))) .nil) (fin_done .mk)
end Go.Proofs.Ytcmdkccncfleoaa
