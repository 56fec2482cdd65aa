/- Clocks: the reference's within, right, Check, said, At, asked, Add, Few, SameFacts, SameEras, SameRanges. -/
import Derived.Test.YtobcnochlkdpaaaKe
namespace Go.Proofs.Ytobcnochlkdpaaa
set_option linter.unusedSimpArgs false
set_option linter.unusedVariables false
set_option maxRecDepth 10000 in
theorem within_c (n lo hi : Int) (σ : List Ent) : SCall Try.prog 37 [.int .i64 n, .int .i64 lo, .int .i64 hi] σ (Is (.bool (inR n lo hi)) σ) := by
  refine scall_of Try.func37 rfl (by simp) ?_
  refine ex_seq ?_;
  refine ex_region ?_;
  apply exl_is; rfl; rfl; rfl; (apply g_assign; rfl);
  refine exl_nilT ?_;
  refine ex_seq ?_;
  refine ex_region ?_;
  apply exl_is; rfl; rfl; rfl; (apply g_move; rfl);
  apply exl_is; rfl; rfl; rfl; (apply g_move; rfl);
  apply exl_isB; rfl; rfl; rfl; (apply g_binInt; rfl; rfl; rfl); intro _ _;
  apply exl_is; rfl; rfl; rfl; (apply g_move; rfl);
  refine exl_caseL rfl (fun h => ?_) (fun h => ?_) <;> ((first | (subst h; rename BV _ true => h0; have h := h0.eq; clear h0) | (subst h; rename BV _ false => h0; have h := h0.eq; clear h0) | skip); (have hp := h; try simp only [decide_eq_true_eq, decide_eq_false_iff_not, Bool.not_eq_true', Bool.not_eq_false', bne_iff_ne, beq_iff_eq, beq_eq_false_iff_ne, bne_eq_false_iff_eq, Int.not_lt, Int.not_le] at hp); (try (exfalso; first | omega | (cases hp; done))));
  apply exl_isW; rfl; (rfl); rfl; rfl; (apply g_move; rfl);
  apply exl_isW; rfl; (rfl); rfl; rfl; (apply g_move; rfl);
  apply exl_isBW; rfl; (rfl); rfl; rfl; (apply g_binInt; rfl; rfl; rfl); intro _ _;
  apply exl_is; rfl; rfl; rfl; (apply g_pick_t; rfl; (rfl); rfl);
  apply exl_is; rfl; rfl; rfl; (apply g_assign; rfl);
  refine exl_nilT ?_;
  refine ex_ret ?_;
  simp only [thenA, blockA, roundA, noGotoA, retA, ↓reduceIte, Nat.reduceEqDiff];
  rotate_left;
  refine exl_skipL rfl (by rfl) rfl rfl ?_;
  refine exl_skipL rfl (by rfl) rfl rfl ?_;
  refine exl_skipL rfl (by rfl) rfl rfl ?_;
  apply exl_is; rfl; rfl; rfl; (apply g_pick_f; rfl; (rfl); rfl);
  apply exl_is; rfl; rfl; rfl; (apply g_assign; rfl);
  refine exl_nilT ?_;
  refine ex_ret ?_;
  simp only [thenA, blockA, roundA, noGotoA, retA, ↓reduceIte, Nat.reduceEqDiff];
  rotate_left
  (all_goals (repeat (rename BV _ _ => hbv; cases hbv)))
  all_goals (try (exfalso; first | (rename true = false => hx; cases hx; done) | (rename false = true => hx; cases hx; done)))
  all_goals
    refine ret_is .nil (.cons (.ofTmp rfl) .nil) (by repeat (first | exact List.Sublist.refl _ | apply List.Sublist.cons_cons | apply List.Sublist.cons)) (bool_eq ?_)
    unfold inR
    first
      | (rw [decide_eq_false (p := lo ≤ n) (by omega)]; rfl)
      | (rw [decide_eq_true (p := lo ≤ n) (by omega), Bool.true_and])
set_option maxRecDepth 10000 in
theorem right_c (key : Int) (l : List Int) (σ : List Ent) : SCall Try.prog 35 [.int .i64 key, ints l] σ (Is (.bool (rightK key l)) σ) := by
  refine scall_of Try.func35 rfl (by simp) ?_
  refine ex_len (t := 1) rfl ((List.length_map _).symm) (fun hlen => ?_)
  unfold rightK
  have c1 := within_c key 0 1048576
  generalize inR key 0 1048576 = b1 at c1 ⊢
  cases b1 with
  | false =>
    refine ex_seq ?_;
    refine ex_region ?_;
    apply exl_is; rfl; rfl; rfl; (apply g_assign; rfl);
    refine exl_nilT ?_;
    refine ex_seq ?_;
    refine ex_seq ?_;
    refine ex_region ?_;
    apply exl_is; rfl; rfl; rfl; (apply g_move; rfl);
    apply exl_isB; rfl; rfl; rfl; (exact g_call rfl rfl (enters_b (by kernel_rfl)) (c1 _)); intro _ _;
    apply exl_isB; rfl; rfl; rfl; (apply g_not; rfl); intro _ _;
    refine exl_nilT ?_;
    refine ex_cond rfl (fun h => ?_) (fun h => ?_) <;> ((first | (subst h; rename BV _ true => h0; have h := h0.eq; clear h0) | (subst h; rename BV _ false => h0; have h := h0.eq; clear h0) | skip); (have hp := h; try simp only [decide_eq_true_eq, decide_eq_false_iff_not, Bool.not_eq_true', Bool.not_eq_false', bne_iff_ne, beq_iff_eq, beq_eq_false_iff_ne, bne_eq_false_iff_eq, Int.not_lt, Int.not_le] at hp); (try (exfalso; first | omega | (cases hp; done))));
    refine ex_seq ?_;
    refine ex_region ?_;
    apply exl_is; rfl; rfl; rfl; (apply g_assign; rfl);
    refine exl_nilT ?_;
    refine ex_ret ?_;
    simp only [thenA, blockA, roundA, noGotoA, retA, ↓reduceIte, Nat.reduceEqDiff];
    rotate_left;
    refine ex_skip ?_;
    refine ex_seq ?_;
    refine ex_seq ?_;
    refine ex_region ?_;
    apply exl_is; rfl; rfl; rfl; (apply g_assign; rfl);
    refine exl_nilT ?_;
    refine ex_block ?_;
    rotate_left
    (all_goals (repeat (rename BV _ _ => hbv; cases hbv)))
    all_goals (try (exfalso; first | (rename true = false => hx; cases hx; done) | (rename false = true => hx; cases hx; done)))
    refine ret_is .nil (.cons (.ofTmp rfl) .nil) (by repeat (first | exact List.Sublist.refl _ | apply List.Sublist.cons_cons | apply List.Sublist.cons)) (bool_eq ?_)
    rfl
  | true =>
    refine ex_seq ?_;
    refine ex_region ?_;
    apply exl_is; rfl; rfl; rfl; (apply g_assign; rfl);
    refine exl_nilT ?_;
    refine ex_seq ?_;
    refine ex_seq ?_;
    refine ex_region ?_;
    apply exl_is; rfl; rfl; rfl; (apply g_move; rfl);
    apply exl_isB; rfl; rfl; rfl; (exact g_call rfl rfl (enters_b (by kernel_rfl)) (c1 _)); intro _ _;
    apply exl_isB; rfl; rfl; rfl; (apply g_not; rfl); intro _ _;
    refine exl_nilT ?_;
    refine ex_cond rfl (fun h => ?_) (fun h => ?_) <;> ((first | (subst h; rename BV _ true => h0; have h := h0.eq; clear h0) | (subst h; rename BV _ false => h0; have h := h0.eq; clear h0) | skip); (have hp := h; try simp only [decide_eq_true_eq, decide_eq_false_iff_not, Bool.not_eq_true', Bool.not_eq_false', bne_iff_ne, beq_iff_eq, beq_eq_false_iff_ne, bne_eq_false_iff_eq, Int.not_lt, Int.not_le] at hp); (try (exfalso; first | omega | (cases hp; done))));
    refine ex_seq ?_;
    refine ex_region ?_;
    apply exl_is; rfl; rfl; rfl; (apply g_assign; rfl);
    refine exl_nilT ?_;
    refine ex_ret ?_;
    simp only [thenA, blockA, roundA, noGotoA, retA, ↓reduceIte, Nat.reduceEqDiff];
    rotate_left;
    refine ex_skip ?_;
    refine ex_seq ?_;
    refine ex_seq ?_;
    refine ex_region ?_;
    apply exl_is; rfl; rfl; rfl; (apply g_assign; rfl);
    refine exl_nilT ?_;
    refine ex_block ?_;
    rotate_left
    (all_goals (repeat (rename BV _ _ => hbv; cases hbv)))
    all_goals (try (exfalso; first | (rename true = false => hx; cases hx; done) | (rename false = true => hx; cases hx; done)))
    obtain ⟨R, hR⟩ : ∃ R, (l.all fun h => inR h 0 4096) = R := ⟨_, rfl⟩
    rw [hR]
    clear c1
    refine ex_loop (fun (i : Nat) => (⟨[(1, ints l), (5, .int .i64 i)], σ, [], Try.f35.ntmps⟩ : St)) (fun i => i ≤ l.length ∧ R = (l.drop i).all fun h => inR h 0 4096) (fun i => l.length - i) 0 (⟨Nat.zero_le _, hR.symm⟩) (St.le_of (by repeat (first | exact trivial | refine ⟨rfl, ?_⟩)) (by repeat (first | exact List.Sublist.refl _ | apply List.Sublist.cons_cons | apply List.Sublist.cons))) ?_
    intro i hI
    obtain ⟨hI1, hI2⟩ := hI
    clear hR
    by_cases hi : i < l.length
    · obtain ⟨c, hc⟩ : ∃ c, l[i]? = some c := ⟨_, List.getElem?_eq_getElem hi⟩
      rw [fc_drop hc, List.all_cons] at hI2
      have c2 := within_c c 0 4096
      generalize inR c 0 4096 = b2 at c2 hI2
      cases b2 with
      | false =>
        have hI2 : R = false := hI2
        subst hI2
        refine ex_seq ?_;
        refine ex_seq ?_;
        refine ex_region ?_;
        apply exl_is; rfl; rfl; rfl; (apply g_move; rfl);
        apply exl_is; rfl; rfl; rfl; (apply g_move; rfl);
        apply exl_is; rfl; rfl; rfl; (apply g_len; rfl; rfl; (exact (List.length_map _).symm));
        apply exl_isB; rfl; rfl; rfl; (apply g_binInt; rfl; rfl; rfl); intro _ _;
        refine exl_nilT ?_;
        refine ex_cond rfl (fun h => ?_) (fun h => ?_) <;> ((first | (subst h; rename BV _ true => h0; have h := h0.eq; clear h0) | (subst h; rename BV _ false => h0; have h := h0.eq; clear h0) | skip); (have hp := h; try simp only [decide_eq_true_eq, decide_eq_false_iff_not, Bool.not_eq_true', Bool.not_eq_false', bne_iff_ne, beq_iff_eq, beq_eq_false_iff_ne, bne_eq_false_iff_eq, Int.not_lt, Int.not_le] at hp); (try (exfalso; first | omega | (cases hp; done))));
        refine ex_skip ?_;
        refine ex_seq ?_;
        refine ex_block ?_;
        refine ex_seq ?_;
        refine ex_region ?_;
        apply exl_is; rfl; rfl; rfl; (apply g_move; rfl);
        apply exl_is; rfl; rfl; rfl; (apply g_move; rfl);
        apply exl_is; rfl; rfl; rfl; (apply g_indexDl; rfl; rfl; rfl; (rfl); (exact get_map (by assumption)));
        apply exl_is; rfl; rfl; rfl; (apply g_load1; rfl; rfl; (exact .e rfl));
        apply exl_isB; rfl; rfl; rfl; (exact g_call rfl rfl (enters_b (by kernel_rfl)) (c2 _)); intro _ _;
        apply exl_isB; rfl; rfl; rfl; (apply g_not; rfl); intro _ _;
        refine exl_nilT ?_;
        refine ex_cond rfl (fun h => ?_) (fun h => ?_) <;> ((first | (subst h; rename BV _ true => h0; have h := h0.eq; clear h0) | (subst h; rename BV _ false => h0; have h := h0.eq; clear h0) | skip); (have hp := h; try simp only [decide_eq_true_eq, decide_eq_false_iff_not, Bool.not_eq_true', Bool.not_eq_false', bne_iff_ne, beq_iff_eq, beq_eq_false_iff_ne, bne_eq_false_iff_eq, Int.not_lt, Int.not_le] at hp); (try (exfalso; first | omega | (cases hp; done))));
        refine ex_seq ?_;
        refine ex_region ?_;
        apply exl_is; rfl; rfl; rfl; (apply g_assign; rfl);
        refine exl_nilT ?_;
        refine ex_ret ?_;
        simp only [thenA, blockA, roundA, noGotoA, retA, ↓reduceIte, Nat.reduceEqDiff];
        rotate_left;
        refine ex_skip ?_;
        refine ex_region ?_;
        apply exl_is; rfl; rfl; rfl; (apply g_move; rfl);
        apply exl_is; rfl; rfl; rfl; (apply g_add; rfl; rfl; rfl; exact ⟨by omega, by omega⟩);
        apply exl_is; rfl; rfl; rfl; (apply g_assign; rfl);
        refine exl_nil ?_;
        simp only [thenA, blockA, roundA, noGotoA, retA, ↓reduceIte, Nat.reduceEqDiff];
        rotate_left
        (all_goals (repeat (rename BV _ _ => hbv; cases hbv)))
        all_goals (try (exfalso; first | (rename true = false => hx; cases hx; done) | (rename false = true => hx; cases hx; done)))
        refine ret_is .nil (.cons (.ofTmp rfl) .nil) (by repeat (first | exact List.Sublist.refl _ | apply List.Sublist.cons_cons | apply List.Sublist.cons)) (bool_eq ?_)
        rfl
      | true =>
        refine ex_seq ?_;
        refine ex_seq ?_;
        refine ex_region ?_;
        apply exl_is; rfl; rfl; rfl; (apply g_move; rfl);
        apply exl_is; rfl; rfl; rfl; (apply g_move; rfl);
        apply exl_is; rfl; rfl; rfl; (apply g_len; rfl; rfl; (exact (List.length_map _).symm));
        apply exl_isB; rfl; rfl; rfl; (apply g_binInt; rfl; rfl; rfl); intro _ _;
        refine exl_nilT ?_;
        refine ex_cond rfl (fun h => ?_) (fun h => ?_) <;> ((first | (subst h; rename BV _ true => h0; have h := h0.eq; clear h0) | (subst h; rename BV _ false => h0; have h := h0.eq; clear h0) | skip); (have hp := h; try simp only [decide_eq_true_eq, decide_eq_false_iff_not, Bool.not_eq_true', Bool.not_eq_false', bne_iff_ne, beq_iff_eq, beq_eq_false_iff_ne, bne_eq_false_iff_eq, Int.not_lt, Int.not_le] at hp); (try (exfalso; first | omega | (cases hp; done))));
        refine ex_skip ?_;
        refine ex_seq ?_;
        refine ex_block ?_;
        refine ex_seq ?_;
        refine ex_region ?_;
        apply exl_is; rfl; rfl; rfl; (apply g_move; rfl);
        apply exl_is; rfl; rfl; rfl; (apply g_move; rfl);
        apply exl_is; rfl; rfl; rfl; (apply g_indexDl; rfl; rfl; rfl; (rfl); (exact get_map (by assumption)));
        apply exl_is; rfl; rfl; rfl; (apply g_load1; rfl; rfl; (exact .e rfl));
        apply exl_isB; rfl; rfl; rfl; (exact g_call rfl rfl (enters_b (by kernel_rfl)) (c2 _)); intro _ _;
        apply exl_isB; rfl; rfl; rfl; (apply g_not; rfl); intro _ _;
        refine exl_nilT ?_;
        refine ex_cond rfl (fun h => ?_) (fun h => ?_) <;> ((first | (subst h; rename BV _ true => h0; have h := h0.eq; clear h0) | (subst h; rename BV _ false => h0; have h := h0.eq; clear h0) | skip); (have hp := h; try simp only [decide_eq_true_eq, decide_eq_false_iff_not, Bool.not_eq_true', Bool.not_eq_false', bne_iff_ne, beq_iff_eq, beq_eq_false_iff_ne, bne_eq_false_iff_eq, Int.not_lt, Int.not_le] at hp); (try (exfalso; first | omega | (cases hp; done))));
        refine ex_seq ?_;
        refine ex_region ?_;
        apply exl_is; rfl; rfl; rfl; (apply g_assign; rfl);
        refine exl_nilT ?_;
        refine ex_ret ?_;
        simp only [thenA, blockA, roundA, noGotoA, retA, ↓reduceIte, Nat.reduceEqDiff];
        rotate_left;
        refine ex_skip ?_;
        refine ex_region ?_;
        apply exl_is; rfl; rfl; rfl; (apply g_move; rfl);
        apply exl_is; rfl; rfl; rfl; (apply g_add; rfl; rfl; rfl; exact ⟨by omega, by omega⟩);
        apply exl_is; rfl; rfl; rfl; (apply g_assign; rfl);
        refine exl_nil ?_;
        simp only [thenA, blockA, roundA, noGotoA, retA, ↓reduceIte, Nat.reduceEqDiff];
        rotate_left
        (all_goals (repeat (rename BV _ _ => hbv; cases hbv)))
        all_goals (try (exfalso; first | (rename true = false => hx; cases hx; done) | (rename false = true => hx; cases hx; done)))
        refine ⟨i + 1, ⟨hi, hI2⟩, by omega, St.le_of (by repeat (first | exact trivial | refine ⟨rfl, ?_⟩)) (by repeat (first | exact List.Sublist.refl _ | apply List.Sublist.cons_cons | apply List.Sublist.cons))⟩
    · rw [List.drop_of_length_le (by omega)] at hI2
      have hI2 : R = true := hI2
      subst hI2
      refine ex_seq ?_;
      refine ex_seq ?_;
      refine ex_region ?_;
      apply exl_is; rfl; rfl; rfl; (apply g_move; rfl);
      apply exl_is; rfl; rfl; rfl; (apply g_move; rfl);
      apply exl_is; rfl; rfl; rfl; (apply g_len; rfl; rfl; (exact (List.length_map _).symm));
      apply exl_isB; rfl; rfl; rfl; (apply g_binInt; rfl; rfl; rfl); intro _ _;
      refine exl_nilT ?_;
      refine ex_cond rfl (fun h => ?_) (fun h => ?_) <;> ((first | (subst h; rename BV _ true => h0; have h := h0.eq; clear h0) | (subst h; rename BV _ false => h0; have h := h0.eq; clear h0) | skip); (have hp := h; try simp only [decide_eq_true_eq, decide_eq_false_iff_not, Bool.not_eq_true', Bool.not_eq_false', bne_iff_ne, beq_iff_eq, beq_eq_false_iff_ne, bne_eq_false_iff_eq, Int.not_lt, Int.not_le] at hp); (try (exfalso; first | omega | (cases hp; done))));
      refine ex_exit ?_;
      refine ex_seq ?_;
      refine ex_region ?_;
      apply exl_is; rfl; rfl; rfl; (apply g_assign; rfl);
      refine exl_nilT ?_;
      refine ex_ret ?_;
      simp only [thenA, blockA, roundA, noGotoA, retA, ↓reduceIte, Nat.reduceEqDiff];
      rotate_left
      (all_goals (repeat (rename BV _ _ => hbv; cases hbv)))
      all_goals (try (exfalso; first | (rename true = false => hx; cases hx; done) | (rename false = true => hx; cases hx; done)))
      refine ret_is .nil (.cons (.ofTmp rfl) .nil) (by repeat (first | exact List.Sublist.refl _ | apply List.Sublist.cons_cons | apply List.Sublist.cons)) (bool_eq ?_)
      rfl
theorem right_w (x : Fc) : rightF x = (inR x.no 0 1048576 && inR x.key 0 1048576 && inR x.val (-1073741824) 1073741824 && inR x.frm 0 x.to && decide (x.to ≤ 4096) && inR x.kn 0 4096) := by
  rw [Bool.eq_iff_iff, rightF_iff]
  simp only [inR, Bool.and_eq_true, decide_eq_true_eq]
  omega
def lastF (l : List Fc) : Nat → Int
  | 0 => -1
  | k + 1 => ((l[k]?).map fun x => x.no).getD (-1)
theorem last_succ {l : List Fc} {i : Nat} {x : Fc} (h : l[i]? = some x) : lastF l (i + 1) = x.no := by
  show ((l[i]?).map fun x => x.no).getD (-1) = x.no
  rw [h]; rfl
set_option maxHeartbeats 4000000 in
set_option maxRecDepth 10000 in
theorem rCheck_c (l : List Fc) (σ : List Ent) : SCall Try.prog 16 [fcs l] σ (Is (.int .i64 (checkF l)) σ) := by
  refine scall_of Try.func16 rfl (by simp) ?_
  by_cases h512 : (512 : Int) < l.length
  · rw [show checkF l = 2 by unfold checkF; rw [if_pos h512]]
    refine ex_seq ?_;
    refine ex_region ?_;
    apply exl_is; rfl; rfl; rfl; (apply g_assign; rfl);
    refine exl_nilT ?_;
    refine ex_seq ?_;
    refine ex_seq ?_;
    refine ex_region ?_;
    apply exl_is; rfl; rfl; rfl; (apply g_move; rfl);
    apply exl_is; rfl; rfl; rfl; (apply g_len; rfl; rfl; (exact (List.length_map _).symm));
    apply exl_isB; rfl; rfl; rfl; (apply g_binInt; rfl; rfl; rfl); intro _ _;
    refine exl_nilT ?_;
    refine ex_cond rfl (fun h => ?_) (fun h => ?_) <;> ((first | (subst h; rename BV _ true => h0; have h := h0.eq; clear h0) | (subst h; rename BV _ false => h0; have h := h0.eq; clear h0) | skip); (have hp := h; try simp only [decide_eq_true_eq, decide_eq_false_iff_not, Bool.not_eq_true', Bool.not_eq_false', bne_iff_ne, beq_iff_eq, beq_eq_false_iff_ne, bne_eq_false_iff_eq, Int.not_lt, Int.not_le] at hp); (try (exfalso; first | omega | (cases hp; done))));
    refine ex_seq ?_;
    refine ex_region ?_;
    apply exl_is; rfl; rfl; rfl; (apply g_assign; rfl);
    refine exl_nilT ?_;
    refine ex_ret ?_;
    simp only [thenA, blockA, roundA, noGotoA, retA, ↓reduceIte, Nat.reduceEqDiff];
    rotate_left
    (all_goals (repeat (rename BV _ _ => hbv; cases hbv)))
    all_goals (try (exfalso; first | (rename true = false => hx; cases hx; done) | (rename false = true => hx; cases hx; done)))
    refine ret_is .nil (.cons (.ofTmp rfl) .nil) (by repeat (first | exact List.Sublist.refl _ | apply List.Sublist.cons_cons | apply List.Sublist.cons)) ?_
    rfl
  · rw [show checkF l = if okF (-1) l then 0 else 550 by unfold checkF; rw [if_neg h512]]
    obtain ⟨ok, hok⟩ : ∃ ok, okF (-1) l = ok := ⟨_, rfl⟩
    rw [hok]
    refine ex_seq ?_;
    refine ex_region ?_;
    apply exl_is; rfl; rfl; rfl; (apply g_assign; rfl);
    refine exl_nilT ?_;
    refine ex_seq ?_;
    refine ex_seq ?_;
    refine ex_region ?_;
    apply exl_is; rfl; rfl; rfl; (apply g_move; rfl);
    apply exl_is; rfl; rfl; rfl; (apply g_len; rfl; rfl; (exact (List.length_map _).symm));
    apply exl_isB; rfl; rfl; rfl; (apply g_binInt; rfl; rfl; rfl); intro _ _;
    refine exl_nilT ?_;
    refine ex_cond rfl (fun h => ?_) (fun h => ?_) <;> ((first | (subst h; rename BV _ true => h0; have h := h0.eq; clear h0) | (subst h; rename BV _ false => h0; have h := h0.eq; clear h0) | skip); (have hp := h; try simp only [decide_eq_true_eq, decide_eq_false_iff_not, Bool.not_eq_true', Bool.not_eq_false', bne_iff_ne, beq_iff_eq, beq_eq_false_iff_ne, bne_eq_false_iff_eq, Int.not_lt, Int.not_le] at hp); (try (exfalso; first | omega | (cases hp; done))));
    refine ex_skip ?_;
    refine ex_seq ?_;
    refine ex_seq ?_;
    refine ex_region ?_;
    apply exl_is; rfl; rfl; rfl; (apply g_assign; rfl);
    refine exl_nilT ?_;
    refine ex_block ?_;
    rotate_left
    (all_goals (repeat (rename BV _ _ => hbv; cases hbv)))
    all_goals (try (exfalso; first | (rename true = false => hx; cases hx; done) | (rename false = true => hx; cases hx; done)))
    refine ex_loop (fun (i : Nat) => (⟨[(0, fcs l), (3, .int .i64 i)], σ, [], Try.f16.ntmps⟩ : St)) (fun i => i ≤ l.length ∧ ok = okF (lastF l i) (l.drop i)) (fun i => l.length - i) 0 (⟨Nat.zero_le _, hok.symm⟩) (St.le_of (by repeat (first | exact trivial | refine ⟨rfl, ?_⟩)) (by repeat (first | exact List.Sublist.refl _ | apply List.Sublist.cons_cons | apply List.Sublist.cons))) ?_
    intro i hI
    obtain ⟨hI1, hI2⟩ := hI
    clear hok
    by_cases hi : i < l.length
    · obtain ⟨x, hx⟩ : ∃ x, l[i]? = some x := ⟨_, List.getElem?_eq_getElem hi⟩
      have hg := fc_get hx
      have hls := last_succ hx
      rw [fc_drop hx, show okF (lastF l i) (x :: l.drop (i + 1)) = (decide (lastF l i < x.no) && rightF x && okF x.no (l.drop (i + 1))) from rfl, right_w] at hI2
      have c1 := within_c x.no 0 1048576
      have c2 := within_c x.key 0 1048576
      have c3 := within_c x.val (-1073741824) 1073741824
      have c4 := within_c x.frm 0 x.to
      have c5 := within_c x.kn 0 4096
      have hb1 : inR x.no 0 1048576 = true → -1 < x.no := fun h => by simp only [inR, Bool.and_eq_true, decide_eq_true_eq] at h; omega
      generalize inR x.no 0 1048576 = b1 at c1 hI2 hb1
      generalize inR x.key 0 1048576 = b2 at c2 hI2
      generalize inR x.val (-1073741824) 1073741824 = b3 at c3 hI2
      generalize inR x.frm 0 x.to = b4 at c4 hI2
      generalize inR x.kn 0 4096 = b5 at c5 hI2
      by_cases hall : (decide (lastF l i < x.no) && (b1 && b2 && b3 && b4 && decide (x.to ≤ 4096) && b5)) = true
      · have hI3 : ok = okF (lastF l (i + 1)) (l.drop (i + 1)) := by rw [hI2, hall, hls]; rfl
        clear hI2 hb1
        simp only [Bool.and_eq_true, decide_eq_true_eq] at hall
        obtain ⟨a1, ⟨⟨⟨⟨rfl, rfl⟩, rfl⟩, rfl⟩, a5⟩, rfl⟩ := hall
        by_cases h0 : i = 0
        · subst h0
          refine ex_seq ?_;
          refine ex_seq ?_;
          refine ex_region ?_;
          apply exl_is; rfl; rfl; rfl; (apply g_move; rfl);
          apply exl_is; rfl; rfl; rfl; (apply g_move; rfl);
          apply exl_is; rfl; rfl; rfl; (apply g_len; rfl; rfl; (exact (List.length_map _).symm));
          apply exl_isB; rfl; rfl; rfl; (apply g_binInt; rfl; rfl; rfl); intro _ _;
          refine exl_nilT ?_;
          refine ex_cond rfl (fun h => ?_) (fun h => ?_) <;> ((first | (subst h; rename BV _ true => h0; have h := h0.eq; clear h0) | (subst h; rename BV _ false => h0; have h := h0.eq; clear h0) | skip); (have hp := h; try simp only [decide_eq_true_eq, decide_eq_false_iff_not, Bool.not_eq_true', Bool.not_eq_false', bne_iff_ne, beq_iff_eq, beq_eq_false_iff_ne, bne_eq_false_iff_eq, Int.not_lt, Int.not_le] at hp); (try (exfalso; first | omega | (cases hp; done))));
          refine ex_skip ?_;
          refine ex_seq ?_;
          refine ex_block ?_;
          refine ex_seq ?_;
          refine ex_region ?_;
          apply exl_is; rfl; rfl; rfl; (apply g_move; rfl);
          apply exl_is; rfl; rfl; rfl; (apply g_move; rfl);
          apply exl_is; rfl; rfl; rfl; (apply g_indexDl; rfl; rfl; rfl; (rfl); (assumption));
          apply exl_is; rfl; rfl; rfl; (apply g_loadAgg; rfl; decide; rfl; (exact .e rfl rfl));
          refine exl_box rfl rfl rfl (g_alloc rfl) ?_; intro _;
          apply exl_do; rfl; rfl; (apply g_store'; rfl; rfl; rfl; (exact Upd.here); (simp only [setL, List.set_cons_zero, List.set_cons_succ, AV.cells]; rfl); rfl; rfl; rfl; exact Nat.le_of_ble_eq_true rfl);
          refine exl_nilT ?_;
          refine ex_seq ?_;
          refine ex_seq ?_;
          refine ex_drawC rfl rfl (by kernel_rfl) rfl ?_; refine ex_drawQ rfl (by kernel_rfl) rfl ?_;
          apply wl_is; rfl; rfl; rfl; (intro σ' hl; (apply g_fieldAddr; rfl; rfl; rfl));
          apply wl_is; rfl; rfl; rfl; (intro σ' hl; (apply g_load1; rfl; rfl; (exact .p (hl _ (True.intro) (by ((repeat (first | exact List.Mem.head _ | assumption | refine List.Mem.tail _ ?_)); done))) rfl)));
          apply wl_isB; rfl; rfl; rfl; (intro σ' hl; (exact g_call rfl rfl (enters_b (by kernel_rfl)) (c1 _))); intro _ _;
          apply wl_isB; rfl; rfl; rfl; (intro σ' hl; (apply g_not; rfl)); intro _ _;
          apply wl_is; rfl; rfl; rfl; (intro σ' hl; (apply g_move; rfl));
          refine wl_case rfl (fun h => ?_) (fun h => ?_) <;> ((first | (subst h; rename BV _ true => h0; have h := h0.eq; clear h0) | (subst h; rename BV _ false => h0; have h := h0.eq; clear h0) | skip); (have hp := h; try simp only [decide_eq_true_eq, decide_eq_false_iff_not, Bool.not_eq_true', Bool.not_eq_false', bne_iff_ne, beq_iff_eq, beq_eq_false_iff_ne, bne_eq_false_iff_eq, Int.not_lt, Int.not_le] at hp); (try (exfalso; first | omega | (cases hp; done))));
          refine wl_skip rfl (by rfl) rfl rfl ?_;
          refine wl_skip rfl (by rfl) rfl rfl ?_;
          refine wl_skip rfl (by rfl) rfl rfl ?_;
          refine wl_skip_raw rfl rfl rfl ?_;
          refine wl_skip_raw rfl rfl rfl ?_;
          refine wl_skip_raw rfl rfl rfl ?_;
          refine wl_skip_raw rfl rfl rfl ?_;
          refine wl_skip_raw rfl rfl rfl ?_;
          refine wl_skip_raw rfl rfl rfl ?_;
          refine wl_skip_raw rfl rfl rfl ?_;
          refine wl_skip_raw rfl rfl rfl ?_;
          refine wl_skip_raw rfl rfl rfl ?_;
          refine wl_skip rfl (by rfl) rfl rfl ?_;
          apply wl_is; rfl; rfl; rfl; (intro σ' hl; (apply g_pick_t; rfl; (rfl); rfl));
          apply wl_is; rfl; rfl; rfl; (intro σ' hl; (apply g_move; rfl));
          refine wl_skip rfl (by rfl) rfl rfl ?_;
          refine wl_skip rfl (by rfl) rfl rfl ?_;
          refine wl_skip rfl (by rfl) rfl rfl ?_;
          refine wl_skip rfl (by rfl) rfl rfl ?_;
          apply wl_is; rfl; rfl; rfl; (intro σ' hl; (apply g_pick_t; rfl; (rfl); rfl));
          apply wl_is; rfl; rfl; rfl; (intro σ' hl; (apply g_move; rfl));
          refine wl_skip rfl (by rfl) rfl rfl ?_;
          refine wl_skip rfl (by rfl) rfl rfl ?_;
          refine wl_skip rfl (by rfl) rfl rfl ?_;
          refine wl_skip rfl (by rfl) rfl rfl ?_;
          apply wl_is; rfl; rfl; rfl; (intro σ' hl; (apply g_pick_t; rfl; (rfl); rfl));
          refine wl_nil ?_; show EX _ _ _ _ _;
          refine ex_cond_t rfl (by rfl) ?_;
          refine ex_seq ?_;
          refine ex_region ?_;
          apply exl_is; rfl; rfl; rfl; (apply g_assign; rfl);
          refine exl_nilT ?_;
          refine ex_ret ?_;
          simp only [thenA, blockA, roundA, noGotoA, retA, ↓reduceIte, Nat.reduceEqDiff];
          rotate_left;
          apply wl_isW; rfl; (rfl); rfl; rfl; (intro σ' hl; (apply g_move; rfl));
          apply wl_isBW; rfl; (rfl); rfl; rfl; (intro σ' hl; (apply g_binInt; rfl; rfl; rfl)); intro _ _;
          apply wl_isW; rfl; (rfl); rfl; rfl; (intro σ' hl; (apply g_move; rfl));
          refine wl_case rfl (fun h => ?_) (fun h => ?_) <;> ((first | (subst h; rename BV _ true => h0; have h := h0.eq; clear h0) | (subst h; rename BV _ false => h0; have h := h0.eq; clear h0) | skip); (have hp := h; try simp only [decide_eq_true_eq, decide_eq_false_iff_not, Bool.not_eq_true', Bool.not_eq_false', bne_iff_ne, beq_iff_eq, beq_eq_false_iff_ne, bne_eq_false_iff_eq, Int.not_lt, Int.not_le] at hp); (try (exfalso; first | omega | (cases hp; done))));
          refine wl_skip rfl (by rfl) rfl rfl ?_;
          refine wl_skip rfl (by rfl) rfl rfl ?_;
          refine wl_skip rfl (by rfl) rfl rfl ?_;
          refine wl_skip rfl (by rfl) rfl rfl ?_;
          refine wl_skip rfl (by rfl) rfl rfl ?_;
          refine wl_skip rfl (by rfl) rfl rfl ?_;
          refine wl_skip rfl (by rfl) rfl rfl ?_;
          refine wl_skip rfl (by rfl) rfl rfl ?_;
          refine wl_skip rfl (by rfl) rfl rfl ?_;
          apply wl_isW; rfl; (rfl); rfl; rfl; (intro σ' hl; (apply g_pick_f; rfl; (rfl); rfl));
          apply wl_is; rfl; rfl; rfl; (intro σ' hl; (apply g_pick_f; rfl; (rfl); rfl));
          apply wl_is; rfl; rfl; rfl; (intro σ' hl; (apply g_move; rfl));
          apply wl_isW; rfl; (rfl); rfl; rfl; (intro σ' hl; (apply g_fieldAddr; rfl; rfl; rfl));
          apply wl_isW; rfl; (rfl); rfl; rfl; (intro σ' hl; (apply g_load1; rfl; rfl; (exact .p (hl _ (True.intro) (by ((repeat (first | exact List.Mem.head _ | assumption | refine List.Mem.tail _ ?_)); done))) rfl)));
          apply wl_isBW; rfl; (rfl); rfl; rfl; (intro σ' hl; (exact g_call rfl rfl (enters_b (by kernel_rfl)) (c2 _))); intro _ _;
          apply wl_isBW; rfl; (rfl); rfl; rfl; (intro σ' hl; (apply g_not; rfl)); intro _ _;
          apply wl_is; rfl; rfl; rfl; (intro σ' hl; (apply g_pick_f; rfl; (rfl); rfl));
          apply wl_is; rfl; rfl; rfl; (intro σ' hl; (apply g_move; rfl));
          refine wl_case rfl (fun h => ?_) (fun h => ?_) <;> ((first | (subst h; rename BV _ true => h0; have h := h0.eq; clear h0) | (subst h; rename BV _ false => h0; have h := h0.eq; clear h0) | skip); (have hp := h; try simp only [decide_eq_true_eq, decide_eq_false_iff_not, Bool.not_eq_true', Bool.not_eq_false', bne_iff_ne, beq_iff_eq, beq_eq_false_iff_ne, bne_eq_false_iff_eq, Int.not_lt, Int.not_le] at hp); (try (exfalso; first | omega | (cases hp; done))));
          refine wl_skip rfl (by rfl) rfl rfl ?_;
          refine wl_skip rfl (by rfl) rfl rfl ?_;
          refine wl_skip rfl (by rfl) rfl rfl ?_;
          refine wl_skip rfl (by rfl) rfl rfl ?_;
          apply wl_is; rfl; rfl; rfl; (intro σ' hl; (apply g_pick_t; rfl; (rfl); rfl));
          refine wl_nil ?_; show EX _ _ _ _ _;
          refine ex_cond_t rfl (by rfl) ?_;
          refine ex_seq ?_;
          refine ex_region ?_;
          apply exl_is; rfl; rfl; rfl; (apply g_assign; rfl);
          refine exl_nilT ?_;
          refine ex_ret ?_;
          simp only [thenA, blockA, roundA, noGotoA, retA, ↓reduceIte, Nat.reduceEqDiff];
          rotate_left;
          apply wl_isW; rfl; (rfl); rfl; rfl; (intro σ' hl; (apply g_fieldAddr; rfl; rfl; rfl));
          apply wl_isW; rfl; (rfl); rfl; rfl; (intro σ' hl; (apply g_load1; rfl; rfl; (exact .p (hl _ (True.intro) (by ((repeat (first | exact List.Mem.head _ | assumption | refine List.Mem.tail _ ?_)); done))) rfl)));
          apply wl_isBW; rfl; (rfl); rfl; rfl; (intro σ' hl; (exact g_call rfl rfl (enters_b (by kernel_rfl)) (c3 _))); intro _ _;
          apply wl_isBW; rfl; (rfl); rfl; rfl; (intro σ' hl; (apply g_not; rfl)); intro _ _;
          apply wl_is; rfl; rfl; rfl; (intro σ' hl; (apply g_pick_f; rfl; (rfl); rfl));
          refine wl_nil ?_; show EX _ _ _ _ _;
          refine ex_cond rfl (fun h => ?_) (fun h => ?_) <;> ((first | (subst h; rename BV _ true => h0; have h := h0.eq; clear h0) | (subst h; rename BV _ false => h0; have h := h0.eq; clear h0) | skip); (have hp := h; try simp only [decide_eq_true_eq, decide_eq_false_iff_not, Bool.not_eq_true', Bool.not_eq_false', bne_iff_ne, beq_iff_eq, beq_eq_false_iff_ne, bne_eq_false_iff_eq, Int.not_lt, Int.not_le] at hp); (try (exfalso; first | omega | (cases hp; done))));
          refine ex_seq ?_;
          refine ex_region ?_;
          apply exl_is; rfl; rfl; rfl; (apply g_assign; rfl);
          refine exl_nilT ?_;
          refine ex_ret ?_;
          simp only [thenA, blockA, roundA, noGotoA, retA, ↓reduceIte, Nat.reduceEqDiff];
          rotate_left;
          refine ex_skip ?_;
          refine ex_seq ?_;
          refine ex_region ?_;
          apply exl_is; rfl; rfl; rfl; (apply g_fieldAddr; rfl; rfl; rfl);
          apply exl_is; rfl; rfl; rfl; (apply g_load1; rfl; rfl; (exact .p (by ((repeat (first | exact List.Mem.head _ | assumption | refine List.Mem.tail _ ?_)); done)) rfl));
          apply exl_is; rfl; rfl; rfl; (apply g_fieldAddr; rfl; rfl; rfl);
          apply exl_is; rfl; rfl; rfl; (apply g_load1; rfl; rfl; (exact .p (by ((repeat (first | exact List.Mem.head _ | assumption | refine List.Mem.tail _ ?_)); done)) rfl));
          apply exl_isB; rfl; rfl; rfl; (exact g_call rfl rfl (enters_b (by kernel_rfl)) (c4 _)); intro _ _;
          apply exl_isB; rfl; rfl; rfl; (apply g_not; rfl); intro _ _;
          apply exl_is; rfl; rfl; rfl; (apply g_move; rfl);
          refine exl_caseL rfl (fun h => ?_) (fun h => ?_) <;> ((first | (subst h; rename BV _ true => h0; have h := h0.eq; clear h0) | (subst h; rename BV _ false => h0; have h := h0.eq; clear h0) | skip); (have hp := h; try simp only [decide_eq_true_eq, decide_eq_false_iff_not, Bool.not_eq_true', Bool.not_eq_false', bne_iff_ne, beq_iff_eq, beq_eq_false_iff_ne, bne_eq_false_iff_eq, Int.not_lt, Int.not_le] at hp); (try (exfalso; first | omega | (cases hp; done))));
          refine exl_skipL rfl (by rfl) rfl rfl ?_;
          refine exl_skipL rfl (by rfl) rfl rfl ?_;
          refine exl_skipL rfl (by rfl) rfl rfl ?_;
          apply exl_is; rfl; rfl; rfl; (apply g_pick_t; rfl; (rfl); rfl);
          apply exl_is; rfl; rfl; rfl; (apply g_move; rfl);
          refine exl_skipL rfl (by rfl) rfl rfl ?_;
          refine exl_skipL rfl (by rfl) rfl rfl ?_;
          refine exl_skipL rfl (by rfl) rfl rfl ?_;
          refine exl_skipL rfl (by rfl) rfl rfl ?_;
          apply exl_is; rfl; rfl; rfl; (apply g_pick_t; rfl; (rfl); rfl);
          refine exl_nilT ?_;
          refine ex_cond_t rfl (by rfl) ?_;
          refine ex_seq ?_;
          refine ex_region ?_;
          apply exl_is; rfl; rfl; rfl; (apply g_assign; rfl);
          refine exl_nilT ?_;
          refine ex_ret ?_;
          simp only [thenA, blockA, roundA, noGotoA, retA, ↓reduceIte, Nat.reduceEqDiff];
          rotate_left;
          apply exl_isW; rfl; (rfl); rfl; rfl; (apply g_fieldAddr; rfl; rfl; rfl);
          apply exl_isW; rfl; (rfl); rfl; rfl; (apply g_load1; rfl; rfl; (exact .p (by ((repeat (first | exact List.Mem.head _ | assumption | refine List.Mem.tail _ ?_)); done)) rfl));
          apply exl_isBW; rfl; (rfl); rfl; rfl; (apply g_binInt; rfl; rfl; rfl); intro _ _;
          apply exl_is; rfl; rfl; rfl; (apply g_pick_f; rfl; (rfl); rfl);
          apply exl_is; rfl; rfl; rfl; (apply g_move; rfl);
          refine exl_caseL rfl (fun h => ?_) (fun h => ?_) <;> ((first | (subst h; rename BV _ true => h0; have h := h0.eq; clear h0) | (subst h; rename BV _ false => h0; have h := h0.eq; clear h0) | skip); (have hp := h; try simp only [decide_eq_true_eq, decide_eq_false_iff_not, Bool.not_eq_true', Bool.not_eq_false', bne_iff_ne, beq_iff_eq, beq_eq_false_iff_ne, bne_eq_false_iff_eq, Int.not_lt, Int.not_le] at hp); (try (exfalso; first | omega | (cases hp; done))));
          apply exl_isW; rfl; (rfl); rfl; rfl; (apply g_fieldAddr; rfl; rfl; rfl);
          apply exl_isW; rfl; (rfl); rfl; rfl; (apply g_load1; rfl; rfl; (exact .p (by ((repeat (first | exact List.Mem.head _ | assumption | refine List.Mem.tail _ ?_)); done)) rfl));
          apply exl_isBW; rfl; (rfl); rfl; rfl; (exact g_call rfl rfl (enters_b (by kernel_rfl)) (c5 _)); intro _ _;
          apply exl_isBW; rfl; (rfl); rfl; rfl; (apply g_not; rfl); intro _ _;
          apply exl_is; rfl; rfl; rfl; (apply g_pick_f; rfl; (rfl); rfl);
          refine exl_nilT ?_;
          refine ex_cond rfl (fun h => ?_) (fun h => ?_) <;> ((first | (subst h; rename BV _ true => h0; have h := h0.eq; clear h0) | (subst h; rename BV _ false => h0; have h := h0.eq; clear h0) | skip); (have hp := h; try simp only [decide_eq_true_eq, decide_eq_false_iff_not, Bool.not_eq_true', Bool.not_eq_false', bne_iff_ne, beq_iff_eq, beq_eq_false_iff_ne, bne_eq_false_iff_eq, Int.not_lt, Int.not_le] at hp); (try (exfalso; first | omega | (cases hp; done))));
          refine ex_seq ?_;
          refine ex_region ?_;
          apply exl_is; rfl; rfl; rfl; (apply g_assign; rfl);
          refine exl_nilT ?_;
          refine ex_ret ?_;
          simp only [thenA, blockA, roundA, noGotoA, retA, ↓reduceIte, Nat.reduceEqDiff];
          rotate_left;
          refine ex_skip ?_;
          refine ex_region ?_;
          apply exl_is; rfl; rfl; rfl; (apply g_move; rfl);
          apply exl_is; rfl; rfl; rfl; (apply g_add; rfl; rfl; rfl; exact ⟨by omega, by omega⟩);
          apply exl_is; rfl; rfl; rfl; (apply g_assign; rfl);
          refine exl_nil ?_;
          simp only [thenA, blockA, roundA, noGotoA, retA, ↓reduceIte, Nat.reduceEqDiff];
          rotate_left
          (all_goals (repeat (rename BV _ _ => hbv; cases hbv)))
          all_goals (try (exfalso; first | (rename true = false => hx; cases hx; done) | (rename false = true => hx; cases hx; done)))
          refine ⟨0 + 1, ⟨hi, hI3⟩, by omega, St.le_of (by repeat (first | exact trivial | refine ⟨rfl, ?_⟩)) (by repeat (first | exact List.Sublist.refl _ | apply List.Sublist.cons_cons | apply List.Sublist.cons))⟩
        · obtain ⟨k, rfl⟩ : ∃ k, i = k + 1 := ⟨i - 1, by omega⟩
          obtain ⟨p, hp⟩ : ∃ p, l[k]? = some p := ⟨_, List.getElem?_eq_getElem (by omega)⟩
          have hgp := fc_get hp
          have hkz : ((k + 1 : Nat) : Int) - 1 = ((k : Nat) : Int) := by omega
          rw [last_succ hp] at a1
          refine ex_seq ?_;
          refine ex_seq ?_;
          refine ex_region ?_;
          apply exl_is; rfl; rfl; rfl; (apply g_move; rfl);
          apply exl_is; rfl; rfl; rfl; (apply g_move; rfl);
          apply exl_is; rfl; rfl; rfl; (apply g_len; rfl; rfl; (exact (List.length_map _).symm));
          apply exl_isB; rfl; rfl; rfl; (apply g_binInt; rfl; rfl; rfl); intro _ _;
          refine exl_nilT ?_;
          refine ex_cond rfl (fun h => ?_) (fun h => ?_) <;> ((first | (subst h; rename BV _ true => h0; have h := h0.eq; clear h0) | (subst h; rename BV _ false => h0; have h := h0.eq; clear h0) | skip); (have hp := h; try simp only [decide_eq_true_eq, decide_eq_false_iff_not, Bool.not_eq_true', Bool.not_eq_false', bne_iff_ne, beq_iff_eq, beq_eq_false_iff_ne, bne_eq_false_iff_eq, Int.not_lt, Int.not_le] at hp); (try (exfalso; first | omega | (cases hp; done))));
          refine ex_skip ?_;
          refine ex_seq ?_;
          refine ex_block ?_;
          refine ex_seq ?_;
          refine ex_region ?_;
          apply exl_is; rfl; rfl; rfl; (apply g_move; rfl);
          apply exl_is; rfl; rfl; rfl; (apply g_move; rfl);
          apply exl_is; rfl; rfl; rfl; (apply g_indexDl; rfl; rfl; rfl; (rfl); (assumption));
          apply exl_is; rfl; rfl; rfl; (apply g_loadAgg; rfl; decide; rfl; (exact .e rfl rfl));
          refine exl_box rfl rfl rfl (g_alloc rfl) ?_; intro _;
          apply exl_do; rfl; rfl; (apply g_store'; rfl; rfl; rfl; (exact Upd.here); (simp only [setL, List.set_cons_zero, List.set_cons_succ, AV.cells]; rfl); rfl; rfl; rfl; exact Nat.le_of_ble_eq_true rfl);
          refine exl_nilT ?_;
          refine ex_seq ?_;
          refine ex_seq ?_;
          refine ex_drawC rfl rfl (by kernel_rfl) rfl ?_; refine ex_drawQ rfl (by kernel_rfl) rfl ?_;
          apply wl_is; rfl; rfl; rfl; (intro σ' hl; (apply g_fieldAddr; rfl; rfl; rfl));
          apply wl_is; rfl; rfl; rfl; (intro σ' hl; (apply g_load1; rfl; rfl; (exact .p (hl _ (True.intro) (by ((repeat (first | exact List.Mem.head _ | assumption | refine List.Mem.tail _ ?_)); done))) rfl)));
          apply wl_isB; rfl; rfl; rfl; (intro σ' hl; (exact g_call rfl rfl (enters_b (by kernel_rfl)) (c1 _))); intro _ _;
          apply wl_isB; rfl; rfl; rfl; (intro σ' hl; (apply g_not; rfl)); intro _ _;
          apply wl_is; rfl; rfl; rfl; (intro σ' hl; (apply g_move; rfl));
          refine wl_case rfl (fun h => ?_) (fun h => ?_) <;> ((first | (subst h; rename BV _ true => h0; have h := h0.eq; clear h0) | (subst h; rename BV _ false => h0; have h := h0.eq; clear h0) | skip); (have hp := h; try simp only [decide_eq_true_eq, decide_eq_false_iff_not, Bool.not_eq_true', Bool.not_eq_false', bne_iff_ne, beq_iff_eq, beq_eq_false_iff_ne, bne_eq_false_iff_eq, Int.not_lt, Int.not_le] at hp); (try (exfalso; first | omega | (cases hp; done))));
          refine wl_skip rfl (by rfl) rfl rfl ?_;
          refine wl_skip rfl (by rfl) rfl rfl ?_;
          refine wl_skip rfl (by rfl) rfl rfl ?_;
          refine wl_skip_raw rfl rfl rfl ?_;
          refine wl_skip_raw rfl rfl rfl ?_;
          refine wl_skip_raw rfl rfl rfl ?_;
          refine wl_skip_raw rfl rfl rfl ?_;
          refine wl_skip_raw rfl rfl rfl ?_;
          refine wl_skip_raw rfl rfl rfl ?_;
          refine wl_skip_raw rfl rfl rfl ?_;
          refine wl_skip_raw rfl rfl rfl ?_;
          refine wl_skip_raw rfl rfl rfl ?_;
          refine wl_skip rfl (by rfl) rfl rfl ?_;
          apply wl_is; rfl; rfl; rfl; (intro σ' hl; (apply g_pick_t; rfl; (rfl); rfl));
          apply wl_is; rfl; rfl; rfl; (intro σ' hl; (apply g_move; rfl));
          refine wl_skip rfl (by rfl) rfl rfl ?_;
          refine wl_skip rfl (by rfl) rfl rfl ?_;
          refine wl_skip rfl (by rfl) rfl rfl ?_;
          refine wl_skip rfl (by rfl) rfl rfl ?_;
          apply wl_is; rfl; rfl; rfl; (intro σ' hl; (apply g_pick_t; rfl; (rfl); rfl));
          apply wl_is; rfl; rfl; rfl; (intro σ' hl; (apply g_move; rfl));
          refine wl_skip rfl (by rfl) rfl rfl ?_;
          refine wl_skip rfl (by rfl) rfl rfl ?_;
          refine wl_skip rfl (by rfl) rfl rfl ?_;
          refine wl_skip rfl (by rfl) rfl rfl ?_;
          apply wl_is; rfl; rfl; rfl; (intro σ' hl; (apply g_pick_t; rfl; (rfl); rfl));
          refine wl_nil ?_; show EX _ _ _ _ _;
          refine ex_cond_t rfl (by rfl) ?_;
          refine ex_seq ?_;
          refine ex_region ?_;
          apply exl_is; rfl; rfl; rfl; (apply g_assign; rfl);
          refine exl_nilT ?_;
          refine ex_ret ?_;
          simp only [thenA, blockA, roundA, noGotoA, retA, ↓reduceIte, Nat.reduceEqDiff];
          rotate_left;
          apply wl_isW; rfl; (rfl); rfl; rfl; (intro σ' hl; (apply g_move; rfl));
          apply wl_isBW; rfl; (rfl); rfl; rfl; (intro σ' hl; (apply g_binInt; rfl; rfl; rfl)); intro _ _;
          apply wl_isW; rfl; (rfl); rfl; rfl; (intro σ' hl; (apply g_move; rfl));
          refine wl_case rfl (fun h => ?_) (fun h => ?_) <;> ((first | (subst h; rename BV _ true => h0; have h := h0.eq; clear h0) | (subst h; rename BV _ false => h0; have h := h0.eq; clear h0) | skip); (have hp := h; try simp only [decide_eq_true_eq, decide_eq_false_iff_not, Bool.not_eq_true', Bool.not_eq_false', bne_iff_ne, beq_iff_eq, beq_eq_false_iff_ne, bne_eq_false_iff_eq, Int.not_lt, Int.not_le] at hp); (try (exfalso; first | omega | (cases hp; done))));
          apply wl_isW; rfl; (rfl); rfl; rfl; (intro σ' hl; (apply g_fieldAddr; rfl; rfl; rfl));
          apply wl_isW; rfl; (rfl); rfl; rfl; (intro σ' hl; (apply g_load1; rfl; rfl; (exact .p (hl _ (True.intro) (by ((repeat (first | exact List.Mem.head _ | assumption | refine List.Mem.tail _ ?_)); done))) rfl)));
          apply wl_isW; rfl; (rfl); rfl; rfl; (intro σ' hl; (apply g_move; rfl));
          apply wl_isW; rfl; (rfl); rfl; rfl; (intro σ' hl; (apply g_move; rfl));
          apply wl_isW; rfl; (rfl); rfl; rfl; (intro σ' hl; (apply g_sub; rfl; rfl; rfl; exact ⟨by omega, by omega⟩));
          apply wl_isW; rfl; (rfl); rfl; rfl; (intro σ' hl; (apply g_indexDl; rfl; rfl; rfl; (assumption); (assumption)));
          apply wl_isW; rfl; (rfl); rfl; rfl; (intro σ' hl; (apply g_fieldAddr; rfl; rfl; rfl));
          apply wl_isW; rfl; (rfl); rfl; rfl; (intro σ' hl; (apply g_load1; rfl; rfl; (exact .e rfl)));
          apply wl_isBW; rfl; (rfl); rfl; rfl; (intro σ' hl; (apply g_binInt; rfl; rfl; rfl)); intro _ _;
          apply wl_isW; rfl; (rfl); rfl; rfl; (intro σ' hl; (apply g_pick_t; rfl; (rfl); rfl));
          apply wl_is; rfl; rfl; rfl; (intro σ' hl; (apply g_pick_f; rfl; (rfl); rfl));
          apply wl_is; rfl; rfl; rfl; (intro σ' hl; (apply g_move; rfl));
          refine wl_case rfl (fun h => ?_) (fun h => ?_) <;> ((first | (subst h; rename BV _ true => h0; have h := h0.eq; clear h0) | (subst h; rename BV _ false => h0; have h := h0.eq; clear h0) | skip); (have hp := h; try simp only [decide_eq_true_eq, decide_eq_false_iff_not, Bool.not_eq_true', Bool.not_eq_false', bne_iff_ne, beq_iff_eq, beq_eq_false_iff_ne, bne_eq_false_iff_eq, Int.not_lt, Int.not_le] at hp); (try (exfalso; first | omega | (cases hp; done))));
          apply wl_isW; rfl; (rfl); rfl; rfl; (intro σ' hl; (apply g_fieldAddr; rfl; rfl; rfl));
          apply wl_isW; rfl; (rfl); rfl; rfl; (intro σ' hl; (apply g_load1; rfl; rfl; (exact .p (hl _ (True.intro) (by ((repeat (first | exact List.Mem.head _ | assumption | refine List.Mem.tail _ ?_)); done))) rfl)));
          apply wl_isBW; rfl; (rfl); rfl; rfl; (intro σ' hl; (exact g_call rfl rfl (enters_b (by kernel_rfl)) (c2 _))); intro _ _;
          apply wl_isBW; rfl; (rfl); rfl; rfl; (intro σ' hl; (apply g_not; rfl)); intro _ _;
          apply wl_is; rfl; rfl; rfl; (intro σ' hl; (apply g_pick_f; rfl; (rfl); rfl));
          apply wl_is; rfl; rfl; rfl; (intro σ' hl; (apply g_move; rfl));
          refine wl_case rfl (fun h => ?_) (fun h => ?_) <;> ((first | (subst h; rename BV _ true => h0; have h := h0.eq; clear h0) | (subst h; rename BV _ false => h0; have h := h0.eq; clear h0) | skip); (have hp := h; try simp only [decide_eq_true_eq, decide_eq_false_iff_not, Bool.not_eq_true', Bool.not_eq_false', bne_iff_ne, beq_iff_eq, beq_eq_false_iff_ne, bne_eq_false_iff_eq, Int.not_lt, Int.not_le] at hp); (try (exfalso; first | omega | (cases hp; done))));
          refine wl_skip rfl (by rfl) rfl rfl ?_;
          refine wl_skip rfl (by rfl) rfl rfl ?_;
          refine wl_skip rfl (by rfl) rfl rfl ?_;
          refine wl_skip rfl (by rfl) rfl rfl ?_;
          apply wl_is; rfl; rfl; rfl; (intro σ' hl; (apply g_pick_t; rfl; (rfl); rfl));
          refine wl_nil ?_; show EX _ _ _ _ _;
          refine ex_cond_t rfl (by rfl) ?_;
          refine ex_seq ?_;
          refine ex_region ?_;
          apply exl_is; rfl; rfl; rfl; (apply g_assign; rfl);
          refine exl_nilT ?_;
          refine ex_ret ?_;
          simp only [thenA, blockA, roundA, noGotoA, retA, ↓reduceIte, Nat.reduceEqDiff];
          rotate_left;
          apply wl_isW; rfl; (rfl); rfl; rfl; (intro σ' hl; (apply g_fieldAddr; rfl; rfl; rfl));
          apply wl_isW; rfl; (rfl); rfl; rfl; (intro σ' hl; (apply g_load1; rfl; rfl; (exact .p (hl _ (True.intro) (by ((repeat (first | exact List.Mem.head _ | assumption | refine List.Mem.tail _ ?_)); done))) rfl)));
          apply wl_isBW; rfl; (rfl); rfl; rfl; (intro σ' hl; (exact g_call rfl rfl (enters_b (by kernel_rfl)) (c3 _))); intro _ _;
          apply wl_isBW; rfl; (rfl); rfl; rfl; (intro σ' hl; (apply g_not; rfl)); intro _ _;
          apply wl_is; rfl; rfl; rfl; (intro σ' hl; (apply g_pick_f; rfl; (rfl); rfl));
          refine wl_nil ?_; show EX _ _ _ _ _;
          refine ex_cond rfl (fun h => ?_) (fun h => ?_) <;> ((first | (subst h; rename BV _ true => h0; have h := h0.eq; clear h0) | (subst h; rename BV _ false => h0; have h := h0.eq; clear h0) | skip); (have hp := h; try simp only [decide_eq_true_eq, decide_eq_false_iff_not, Bool.not_eq_true', Bool.not_eq_false', bne_iff_ne, beq_iff_eq, beq_eq_false_iff_ne, bne_eq_false_iff_eq, Int.not_lt, Int.not_le] at hp); (try (exfalso; first | omega | (cases hp; done))));
          refine ex_seq ?_;
          refine ex_region ?_;
          apply exl_is; rfl; rfl; rfl; (apply g_assign; rfl);
          refine exl_nilT ?_;
          refine ex_ret ?_;
          simp only [thenA, blockA, roundA, noGotoA, retA, ↓reduceIte, Nat.reduceEqDiff];
          rotate_left;
          refine ex_skip ?_;
          refine ex_seq ?_;
          refine ex_region ?_;
          apply exl_is; rfl; rfl; rfl; (apply g_fieldAddr; rfl; rfl; rfl);
          apply exl_is; rfl; rfl; rfl; (apply g_load1; rfl; rfl; (exact .p (by ((repeat (first | exact List.Mem.head _ | assumption | refine List.Mem.tail _ ?_)); done)) rfl));
          apply exl_is; rfl; rfl; rfl; (apply g_fieldAddr; rfl; rfl; rfl);
          apply exl_is; rfl; rfl; rfl; (apply g_load1; rfl; rfl; (exact .p (by ((repeat (first | exact List.Mem.head _ | assumption | refine List.Mem.tail _ ?_)); done)) rfl));
          apply exl_isB; rfl; rfl; rfl; (exact g_call rfl rfl (enters_b (by kernel_rfl)) (c4 _)); intro _ _;
          apply exl_isB; rfl; rfl; rfl; (apply g_not; rfl); intro _ _;
          apply exl_is; rfl; rfl; rfl; (apply g_move; rfl);
          refine exl_caseL rfl (fun h => ?_) (fun h => ?_) <;> ((first | (subst h; rename BV _ true => h0; have h := h0.eq; clear h0) | (subst h; rename BV _ false => h0; have h := h0.eq; clear h0) | skip); (have hp := h; try simp only [decide_eq_true_eq, decide_eq_false_iff_not, Bool.not_eq_true', Bool.not_eq_false', bne_iff_ne, beq_iff_eq, beq_eq_false_iff_ne, bne_eq_false_iff_eq, Int.not_lt, Int.not_le] at hp); (try (exfalso; first | omega | (cases hp; done))));
          refine exl_skipL rfl (by rfl) rfl rfl ?_;
          refine exl_skipL rfl (by rfl) rfl rfl ?_;
          refine exl_skipL rfl (by rfl) rfl rfl ?_;
          apply exl_is; rfl; rfl; rfl; (apply g_pick_t; rfl; (rfl); rfl);
          apply exl_is; rfl; rfl; rfl; (apply g_move; rfl);
          refine exl_skipL rfl (by rfl) rfl rfl ?_;
          refine exl_skipL rfl (by rfl) rfl rfl ?_;
          refine exl_skipL rfl (by rfl) rfl rfl ?_;
          refine exl_skipL rfl (by rfl) rfl rfl ?_;
          apply exl_is; rfl; rfl; rfl; (apply g_pick_t; rfl; (rfl); rfl);
          refine exl_nilT ?_;
          refine ex_cond_t rfl (by rfl) ?_;
          refine ex_seq ?_;
          refine ex_region ?_;
          apply exl_is; rfl; rfl; rfl; (apply g_assign; rfl);
          refine exl_nilT ?_;
          refine ex_ret ?_;
          simp only [thenA, blockA, roundA, noGotoA, retA, ↓reduceIte, Nat.reduceEqDiff];
          rotate_left;
          apply exl_isW; rfl; (rfl); rfl; rfl; (apply g_fieldAddr; rfl; rfl; rfl);
          apply exl_isW; rfl; (rfl); rfl; rfl; (apply g_load1; rfl; rfl; (exact .p (by ((repeat (first | exact List.Mem.head _ | assumption | refine List.Mem.tail _ ?_)); done)) rfl));
          apply exl_isBW; rfl; (rfl); rfl; rfl; (apply g_binInt; rfl; rfl; rfl); intro _ _;
          apply exl_is; rfl; rfl; rfl; (apply g_pick_f; rfl; (rfl); rfl);
          apply exl_is; rfl; rfl; rfl; (apply g_move; rfl);
          refine exl_caseL rfl (fun h => ?_) (fun h => ?_) <;> ((first | (subst h; rename BV _ true => h0; have h := h0.eq; clear h0) | (subst h; rename BV _ false => h0; have h := h0.eq; clear h0) | skip); (have hp := h; try simp only [decide_eq_true_eq, decide_eq_false_iff_not, Bool.not_eq_true', Bool.not_eq_false', bne_iff_ne, beq_iff_eq, beq_eq_false_iff_ne, bne_eq_false_iff_eq, Int.not_lt, Int.not_le] at hp); (try (exfalso; first | omega | (cases hp; done))));
          apply exl_isW; rfl; (rfl); rfl; rfl; (apply g_fieldAddr; rfl; rfl; rfl);
          apply exl_isW; rfl; (rfl); rfl; rfl; (apply g_load1; rfl; rfl; (exact .p (by ((repeat (first | exact List.Mem.head _ | assumption | refine List.Mem.tail _ ?_)); done)) rfl));
          apply exl_isBW; rfl; (rfl); rfl; rfl; (exact g_call rfl rfl (enters_b (by kernel_rfl)) (c5 _)); intro _ _;
          apply exl_isBW; rfl; (rfl); rfl; rfl; (apply g_not; rfl); intro _ _;
          apply exl_is; rfl; rfl; rfl; (apply g_pick_f; rfl; (rfl); rfl);
          refine exl_nilT ?_;
          refine ex_cond rfl (fun h => ?_) (fun h => ?_) <;> ((first | (subst h; rename BV _ true => h0; have h := h0.eq; clear h0) | (subst h; rename BV _ false => h0; have h := h0.eq; clear h0) | skip); (have hp := h; try simp only [decide_eq_true_eq, decide_eq_false_iff_not, Bool.not_eq_true', Bool.not_eq_false', bne_iff_ne, beq_iff_eq, beq_eq_false_iff_ne, bne_eq_false_iff_eq, Int.not_lt, Int.not_le] at hp); (try (exfalso; first | omega | (cases hp; done))));
          refine ex_seq ?_;
          refine ex_region ?_;
          apply exl_is; rfl; rfl; rfl; (apply g_assign; rfl);
          refine exl_nilT ?_;
          refine ex_ret ?_;
          simp only [thenA, blockA, roundA, noGotoA, retA, ↓reduceIte, Nat.reduceEqDiff];
          rotate_left;
          refine ex_skip ?_;
          refine ex_region ?_;
          apply exl_is; rfl; rfl; rfl; (apply g_move; rfl);
          apply exl_is; rfl; rfl; rfl; (apply g_add; rfl; rfl; rfl; exact ⟨by omega, by omega⟩);
          apply exl_is; rfl; rfl; rfl; (apply g_assign; rfl);
          refine exl_nil ?_;
          simp only [thenA, blockA, roundA, noGotoA, retA, ↓reduceIte, Nat.reduceEqDiff];
          rotate_left
          (all_goals (repeat (rename BV _ _ => hbv; cases hbv)))
          all_goals (try (exfalso; first | (rename true = false => hx; cases hx; done) | (rename false = true => hx; cases hx; done)))
          refine ⟨k + 1 + 1, ⟨hi, hI3⟩, by omega, St.le_of (by repeat (first | exact trivial | refine ⟨rfl, ?_⟩)) (by repeat (first | exact List.Sublist.refl _ | apply List.Sublist.cons_cons | apply List.Sublist.cons))⟩
      · have hbad : ok = false := by
          rw [hI2, Bool.eq_false_iff.2 hall]; rfl
        subst hbad
        clear hI2 hls
        by_cases h0 : i = 0
        · subst h0
          have hl0 : lastF l 0 = -1 := rfl
          rw [hl0] at hall
          refine ex_seq ?_;
          refine ex_seq ?_;
          refine ex_region ?_;
          apply exl_is; rfl; rfl; rfl; (apply g_move; rfl);
          apply exl_is; rfl; rfl; rfl; (apply g_move; rfl);
          apply exl_is; rfl; rfl; rfl; (apply g_len; rfl; rfl; (exact (List.length_map _).symm));
          apply exl_isB; rfl; rfl; rfl; (apply g_binInt; rfl; rfl; rfl); intro _ _;
          refine exl_nilT ?_;
          refine ex_cond rfl (fun h => ?_) (fun h => ?_) <;> ((first | (subst h; rename BV _ true => h0; have h := h0.eq; clear h0) | (subst h; rename BV _ false => h0; have h := h0.eq; clear h0) | skip); (have hp := h; try simp only [decide_eq_true_eq, decide_eq_false_iff_not, Bool.not_eq_true', Bool.not_eq_false', bne_iff_ne, beq_iff_eq, beq_eq_false_iff_ne, bne_eq_false_iff_eq, Int.not_lt, Int.not_le] at hp); (try (exfalso; first | omega | (cases hp; done))));
          refine ex_skip ?_;
          refine ex_seq ?_;
          refine ex_block ?_;
          refine ex_seq ?_;
          refine ex_region ?_;
          apply exl_is; rfl; rfl; rfl; (apply g_move; rfl);
          apply exl_is; rfl; rfl; rfl; (apply g_move; rfl);
          apply exl_is; rfl; rfl; rfl; (apply g_indexDl; rfl; rfl; rfl; (rfl); (assumption));
          apply exl_is; rfl; rfl; rfl; (apply g_loadAgg; rfl; decide; rfl; (exact .e rfl rfl));
          refine exl_box rfl rfl rfl (g_alloc rfl) ?_; intro _;
          apply exl_do; rfl; rfl; (apply g_store'; rfl; rfl; rfl; (exact Upd.here); (simp only [setL, List.set_cons_zero, List.set_cons_succ, AV.cells]; rfl); rfl; rfl; rfl; exact Nat.le_of_ble_eq_true rfl);
          refine exl_nilT ?_;
          refine ex_seq ?_;
          refine ex_seq ?_;
          refine ex_drawC rfl rfl (by kernel_rfl) rfl ?_; refine ex_drawQ rfl (by kernel_rfl) rfl ?_;
          apply wl_is; rfl; rfl; rfl; (intro σ' hl; (apply g_fieldAddr; rfl; rfl; rfl));
          apply wl_is; rfl; rfl; rfl; (intro σ' hl; (apply g_load1; rfl; rfl; (exact .p (hl _ (True.intro) (by ((repeat (first | exact List.Mem.head _ | assumption | refine List.Mem.tail _ ?_)); done))) rfl)));
          apply wl_isB; rfl; rfl; rfl; (intro σ' hl; (exact g_call rfl rfl (enters_b (by kernel_rfl)) (c1 _))); intro _ _;
          apply wl_isB; rfl; rfl; rfl; (intro σ' hl; (apply g_not; rfl)); intro _ _;
          apply wl_is; rfl; rfl; rfl; (intro σ' hl; (apply g_move; rfl));
          refine wl_case rfl (fun h => ?_) (fun h => ?_) <;> ((first | (subst h; rename BV _ true => h0; have h := h0.eq; clear h0) | (subst h; rename BV _ false => h0; have h := h0.eq; clear h0) | skip); (have hp := h; try simp only [decide_eq_true_eq, decide_eq_false_iff_not, Bool.not_eq_true', Bool.not_eq_false', bne_iff_ne, beq_iff_eq, beq_eq_false_iff_ne, bne_eq_false_iff_eq, Int.not_lt, Int.not_le] at hp); (try (exfalso; first | omega | (cases hp; done))));
          refine wl_skip rfl (by rfl) rfl rfl ?_;
          refine wl_skip rfl (by rfl) rfl rfl ?_;
          refine wl_skip rfl (by rfl) rfl rfl ?_;
          refine wl_skip_raw rfl rfl rfl ?_;
          refine wl_skip_raw rfl rfl rfl ?_;
          refine wl_skip_raw rfl rfl rfl ?_;
          refine wl_skip_raw rfl rfl rfl ?_;
          refine wl_skip_raw rfl rfl rfl ?_;
          refine wl_skip_raw rfl rfl rfl ?_;
          refine wl_skip_raw rfl rfl rfl ?_;
          refine wl_skip_raw rfl rfl rfl ?_;
          refine wl_skip_raw rfl rfl rfl ?_;
          refine wl_skip rfl (by rfl) rfl rfl ?_;
          apply wl_is; rfl; rfl; rfl; (intro σ' hl; (apply g_pick_t; rfl; (rfl); rfl));
          apply wl_is; rfl; rfl; rfl; (intro σ' hl; (apply g_move; rfl));
          refine wl_skip rfl (by rfl) rfl rfl ?_;
          refine wl_skip rfl (by rfl) rfl rfl ?_;
          refine wl_skip rfl (by rfl) rfl rfl ?_;
          refine wl_skip rfl (by rfl) rfl rfl ?_;
          apply wl_is; rfl; rfl; rfl; (intro σ' hl; (apply g_pick_t; rfl; (rfl); rfl));
          apply wl_is; rfl; rfl; rfl; (intro σ' hl; (apply g_move; rfl));
          refine wl_skip rfl (by rfl) rfl rfl ?_;
          refine wl_skip rfl (by rfl) rfl rfl ?_;
          refine wl_skip rfl (by rfl) rfl rfl ?_;
          refine wl_skip rfl (by rfl) rfl rfl ?_;
          apply wl_is; rfl; rfl; rfl; (intro σ' hl; (apply g_pick_t; rfl; (rfl); rfl));
          refine wl_nil ?_; show EX _ _ _ _ _;
          refine ex_cond_t rfl (by rfl) ?_;
          refine ex_seq ?_;
          refine ex_region ?_;
          apply exl_is; rfl; rfl; rfl; (apply g_assign; rfl);
          refine exl_nilT ?_;
          refine ex_ret ?_;
          simp only [thenA, blockA, roundA, noGotoA, retA, ↓reduceIte, Nat.reduceEqDiff];
          rotate_left;
          apply wl_isW; rfl; (rfl); rfl; rfl; (intro σ' hl; (apply g_move; rfl));
          apply wl_isBW; rfl; (rfl); rfl; rfl; (intro σ' hl; (apply g_binInt; rfl; rfl; rfl)); intro _ _;
          apply wl_isW; rfl; (rfl); rfl; rfl; (intro σ' hl; (apply g_move; rfl));
          refine wl_case rfl (fun h => ?_) (fun h => ?_) <;> ((first | (subst h; rename BV _ true => h0; have h := h0.eq; clear h0) | (subst h; rename BV _ false => h0; have h := h0.eq; clear h0) | skip); (have hp := h; try simp only [decide_eq_true_eq, decide_eq_false_iff_not, Bool.not_eq_true', Bool.not_eq_false', bne_iff_ne, beq_iff_eq, beq_eq_false_iff_ne, bne_eq_false_iff_eq, Int.not_lt, Int.not_le] at hp); (try (exfalso; first | omega | (cases hp; done))));
          refine wl_skip rfl (by rfl) rfl rfl ?_;
          refine wl_skip rfl (by rfl) rfl rfl ?_;
          refine wl_skip rfl (by rfl) rfl rfl ?_;
          refine wl_skip rfl (by rfl) rfl rfl ?_;
          refine wl_skip rfl (by rfl) rfl rfl ?_;
          refine wl_skip rfl (by rfl) rfl rfl ?_;
          refine wl_skip rfl (by rfl) rfl rfl ?_;
          refine wl_skip rfl (by rfl) rfl rfl ?_;
          refine wl_skip rfl (by rfl) rfl rfl ?_;
          apply wl_isW; rfl; (rfl); rfl; rfl; (intro σ' hl; (apply g_pick_f; rfl; (rfl); rfl));
          apply wl_is; rfl; rfl; rfl; (intro σ' hl; (apply g_pick_f; rfl; (rfl); rfl));
          apply wl_is; rfl; rfl; rfl; (intro σ' hl; (apply g_move; rfl));
          apply wl_isW; rfl; (rfl); rfl; rfl; (intro σ' hl; (apply g_fieldAddr; rfl; rfl; rfl));
          apply wl_isW; rfl; (rfl); rfl; rfl; (intro σ' hl; (apply g_load1; rfl; rfl; (exact .p (hl _ (True.intro) (by ((repeat (first | exact List.Mem.head _ | assumption | refine List.Mem.tail _ ?_)); done))) rfl)));
          apply wl_isBW; rfl; (rfl); rfl; rfl; (intro σ' hl; (exact g_call rfl rfl (enters_b (by kernel_rfl)) (c2 _))); intro _ _;
          apply wl_isBW; rfl; (rfl); rfl; rfl; (intro σ' hl; (apply g_not; rfl)); intro _ _;
          apply wl_is; rfl; rfl; rfl; (intro σ' hl; (apply g_pick_f; rfl; (rfl); rfl));
          apply wl_is; rfl; rfl; rfl; (intro σ' hl; (apply g_move; rfl));
          refine wl_case rfl (fun h => ?_) (fun h => ?_) <;> ((first | (subst h; rename BV _ true => h0; have h := h0.eq; clear h0) | (subst h; rename BV _ false => h0; have h := h0.eq; clear h0) | skip); (have hp := h; try simp only [decide_eq_true_eq, decide_eq_false_iff_not, Bool.not_eq_true', Bool.not_eq_false', bne_iff_ne, beq_iff_eq, beq_eq_false_iff_ne, bne_eq_false_iff_eq, Int.not_lt, Int.not_le] at hp); (try (exfalso; first | omega | (cases hp; done))));
          refine wl_skip rfl (by rfl) rfl rfl ?_;
          refine wl_skip rfl (by rfl) rfl rfl ?_;
          refine wl_skip rfl (by rfl) rfl rfl ?_;
          refine wl_skip rfl (by rfl) rfl rfl ?_;
          apply wl_is; rfl; rfl; rfl; (intro σ' hl; (apply g_pick_t; rfl; (rfl); rfl));
          refine wl_nil ?_; show EX _ _ _ _ _;
          refine ex_cond_t rfl (by rfl) ?_;
          refine ex_seq ?_;
          refine ex_region ?_;
          apply exl_is; rfl; rfl; rfl; (apply g_assign; rfl);
          refine exl_nilT ?_;
          refine ex_ret ?_;
          simp only [thenA, blockA, roundA, noGotoA, retA, ↓reduceIte, Nat.reduceEqDiff];
          rotate_left;
          apply wl_isW; rfl; (rfl); rfl; rfl; (intro σ' hl; (apply g_fieldAddr; rfl; rfl; rfl));
          apply wl_isW; rfl; (rfl); rfl; rfl; (intro σ' hl; (apply g_load1; rfl; rfl; (exact .p (hl _ (True.intro) (by ((repeat (first | exact List.Mem.head _ | assumption | refine List.Mem.tail _ ?_)); done))) rfl)));
          apply wl_isBW; rfl; (rfl); rfl; rfl; (intro σ' hl; (exact g_call rfl rfl (enters_b (by kernel_rfl)) (c3 _))); intro _ _;
          apply wl_isBW; rfl; (rfl); rfl; rfl; (intro σ' hl; (apply g_not; rfl)); intro _ _;
          apply wl_is; rfl; rfl; rfl; (intro σ' hl; (apply g_pick_f; rfl; (rfl); rfl));
          refine wl_nil ?_; show EX _ _ _ _ _;
          refine ex_cond rfl (fun h => ?_) (fun h => ?_) <;> ((first | (subst h; rename BV _ true => h0; have h := h0.eq; clear h0) | (subst h; rename BV _ false => h0; have h := h0.eq; clear h0) | skip); (have hp := h; try simp only [decide_eq_true_eq, decide_eq_false_iff_not, Bool.not_eq_true', Bool.not_eq_false', bne_iff_ne, beq_iff_eq, beq_eq_false_iff_ne, bne_eq_false_iff_eq, Int.not_lt, Int.not_le] at hp); (try (exfalso; first | omega | (cases hp; done))));
          refine ex_seq ?_;
          refine ex_region ?_;
          apply exl_is; rfl; rfl; rfl; (apply g_assign; rfl);
          refine exl_nilT ?_;
          refine ex_ret ?_;
          simp only [thenA, blockA, roundA, noGotoA, retA, ↓reduceIte, Nat.reduceEqDiff];
          rotate_left;
          refine ex_skip ?_;
          refine ex_seq ?_;
          refine ex_region ?_;
          apply exl_is; rfl; rfl; rfl; (apply g_fieldAddr; rfl; rfl; rfl);
          apply exl_is; rfl; rfl; rfl; (apply g_load1; rfl; rfl; (exact .p (by ((repeat (first | exact List.Mem.head _ | assumption | refine List.Mem.tail _ ?_)); done)) rfl));
          apply exl_is; rfl; rfl; rfl; (apply g_fieldAddr; rfl; rfl; rfl);
          apply exl_is; rfl; rfl; rfl; (apply g_load1; rfl; rfl; (exact .p (by ((repeat (first | exact List.Mem.head _ | assumption | refine List.Mem.tail _ ?_)); done)) rfl));
          apply exl_isB; rfl; rfl; rfl; (exact g_call rfl rfl (enters_b (by kernel_rfl)) (c4 _)); intro _ _;
          apply exl_isB; rfl; rfl; rfl; (apply g_not; rfl); intro _ _;
          apply exl_is; rfl; rfl; rfl; (apply g_move; rfl);
          refine exl_caseL rfl (fun h => ?_) (fun h => ?_) <;> ((first | (subst h; rename BV _ true => h0; have h := h0.eq; clear h0) | (subst h; rename BV _ false => h0; have h := h0.eq; clear h0) | skip); (have hp := h; try simp only [decide_eq_true_eq, decide_eq_false_iff_not, Bool.not_eq_true', Bool.not_eq_false', bne_iff_ne, beq_iff_eq, beq_eq_false_iff_ne, bne_eq_false_iff_eq, Int.not_lt, Int.not_le] at hp); (try (exfalso; first | omega | (cases hp; done))));
          refine exl_skipL rfl (by rfl) rfl rfl ?_;
          refine exl_skipL rfl (by rfl) rfl rfl ?_;
          refine exl_skipL rfl (by rfl) rfl rfl ?_;
          apply exl_is; rfl; rfl; rfl; (apply g_pick_t; rfl; (rfl); rfl);
          apply exl_is; rfl; rfl; rfl; (apply g_move; rfl);
          refine exl_skipL rfl (by rfl) rfl rfl ?_;
          refine exl_skipL rfl (by rfl) rfl rfl ?_;
          refine exl_skipL rfl (by rfl) rfl rfl ?_;
          refine exl_skipL rfl (by rfl) rfl rfl ?_;
          apply exl_is; rfl; rfl; rfl; (apply g_pick_t; rfl; (rfl); rfl);
          refine exl_nilT ?_;
          refine ex_cond_t rfl (by rfl) ?_;
          refine ex_seq ?_;
          refine ex_region ?_;
          apply exl_is; rfl; rfl; rfl; (apply g_assign; rfl);
          refine exl_nilT ?_;
          refine ex_ret ?_;
          simp only [thenA, blockA, roundA, noGotoA, retA, ↓reduceIte, Nat.reduceEqDiff];
          rotate_left;
          apply exl_isW; rfl; (rfl); rfl; rfl; (apply g_fieldAddr; rfl; rfl; rfl);
          apply exl_isW; rfl; (rfl); rfl; rfl; (apply g_load1; rfl; rfl; (exact .p (by ((repeat (first | exact List.Mem.head _ | assumption | refine List.Mem.tail _ ?_)); done)) rfl));
          apply exl_isBW; rfl; (rfl); rfl; rfl; (apply g_binInt; rfl; rfl; rfl); intro _ _;
          apply exl_is; rfl; rfl; rfl; (apply g_pick_f; rfl; (rfl); rfl);
          apply exl_is; rfl; rfl; rfl; (apply g_move; rfl);
          refine exl_caseL rfl (fun h => ?_) (fun h => ?_) <;> ((first | (subst h; rename BV _ true => h0; have h := h0.eq; clear h0) | (subst h; rename BV _ false => h0; have h := h0.eq; clear h0) | skip); (have hp := h; try simp only [decide_eq_true_eq, decide_eq_false_iff_not, Bool.not_eq_true', Bool.not_eq_false', bne_iff_ne, beq_iff_eq, beq_eq_false_iff_ne, bne_eq_false_iff_eq, Int.not_lt, Int.not_le] at hp); (try (exfalso; first | omega | (cases hp; done))));
          refine exl_skipL rfl (by rfl) rfl rfl ?_;
          refine exl_skipL rfl (by rfl) rfl rfl ?_;
          refine exl_skipL rfl (by rfl) rfl rfl ?_;
          refine exl_skipL rfl (by rfl) rfl rfl ?_;
          apply exl_is; rfl; rfl; rfl; (apply g_pick_t; rfl; (rfl); rfl);
          refine exl_nilT ?_;
          refine ex_cond_t rfl (by rfl) ?_;
          refine ex_seq ?_;
          refine ex_region ?_;
          apply exl_is; rfl; rfl; rfl; (apply g_assign; rfl);
          refine exl_nilT ?_;
          refine ex_ret ?_;
          simp only [thenA, blockA, roundA, noGotoA, retA, ↓reduceIte, Nat.reduceEqDiff];
          rotate_left;
          apply exl_isW; rfl; (rfl); rfl; rfl; (apply g_fieldAddr; rfl; rfl; rfl);
          apply exl_isW; rfl; (rfl); rfl; rfl; (apply g_load1; rfl; rfl; (exact .p (by ((repeat (first | exact List.Mem.head _ | assumption | refine List.Mem.tail _ ?_)); done)) rfl));
          apply exl_isBW; rfl; (rfl); rfl; rfl; (exact g_call rfl rfl (enters_b (by kernel_rfl)) (c5 _)); intro _ _;
          apply exl_isBW; rfl; (rfl); rfl; rfl; (apply g_not; rfl); intro _ _;
          apply exl_is; rfl; rfl; rfl; (apply g_pick_f; rfl; (rfl); rfl);
          refine exl_nilT ?_;
          refine ex_cond rfl (fun h => ?_) (fun h => ?_) <;> ((first | (subst h; rename BV _ true => h0; have h := h0.eq; clear h0) | (subst h; rename BV _ false => h0; have h := h0.eq; clear h0) | skip); (have hp := h; try simp only [decide_eq_true_eq, decide_eq_false_iff_not, Bool.not_eq_true', Bool.not_eq_false', bne_iff_ne, beq_iff_eq, beq_eq_false_iff_ne, bne_eq_false_iff_eq, Int.not_lt, Int.not_le] at hp); (try (exfalso; first | omega | (cases hp; done))));
          refine ex_seq ?_;
          refine ex_region ?_;
          apply exl_is; rfl; rfl; rfl; (apply g_assign; rfl);
          refine exl_nilT ?_;
          refine ex_ret ?_;
          simp only [thenA, blockA, roundA, noGotoA, retA, ↓reduceIte, Nat.reduceEqDiff];
          rotate_left;
          refine ex_skip ?_;
          refine ex_region ?_;
          apply exl_is; rfl; rfl; rfl; (apply g_move; rfl);
          apply exl_is; rfl; rfl; rfl; (apply g_add; rfl; rfl; rfl; exact ⟨by omega, by omega⟩);
          apply exl_is; rfl; rfl; rfl; (apply g_assign; rfl);
          refine exl_nil ?_;
          simp only [thenA, blockA, roundA, noGotoA, retA, ↓reduceIte, Nat.reduceEqDiff];
          rotate_left
          (all_goals (repeat (rename BV _ _ => hbv; cases hbv)))
          all_goals (try (exfalso; first | (rename true = false => hx; cases hx; done) | (rename false = true => hx; cases hx; done)))
          all_goals
            first
              | (refine ret_is .nil (by first | exact .cons (.ofTmp rfl) .nil | exact .cons (.ofTmp rfl) (.cons (.ofTmp rfl) .nil) | exact .cons (.ofTmp rfl) (.cons (.ofTmp rfl) (.cons (.ofTmp rfl) .nil)) | exact (by repeat (first | exact Res.nil | (apply Res.cons; (first | (apply Res1.ofTmp; rfl) | (apply Res1.ofCell; rfl; rfl; (first | exact .e rfl | exact .p (by ((repeat (first | exact List.Mem.head _ | assumption | refine List.Mem.tail _ ?_)); done)) rfl | exact .r (by ((repeat (first | exact List.Mem.head _ | assumption | refine List.Mem.tail _ ?_)); done)) rfl)) | (apply Res1.ofAgg; rfl; rfl; decide; (first | exact .e rfl rfl | exact .p (by ((repeat (first | exact List.Mem.head _ | assumption | refine List.Mem.tail _ ?_)); done)) rfl rfl | exact .r (by ((repeat (first | exact List.Mem.head _ | assumption | refine List.Mem.tail _ ?_)); done)) rfl rfl))))))) (by repeat (first | exact List.Sublist.refl _ | apply List.Sublist.cons_cons | apply List.Sublist.cons)) ?_; rfl)
              | (exfalso; have hb2 := hb1 (by assumption); apply hall; simp only [Bool.and_eq_true, decide_eq_true_eq]; exact ⟨by omega, ⟨⟨⟨⟨by assumption, by assumption⟩, by assumption⟩, by assumption⟩, by omega⟩, by assumption⟩)
        · obtain ⟨k, rfl⟩ : ∃ k, i = k + 1 := ⟨i - 1, by omega⟩
          obtain ⟨p, hp⟩ : ∃ p, l[k]? = some p := ⟨_, List.getElem?_eq_getElem (by omega)⟩
          have hgp := fc_get hp
          have hkz : ((k + 1 : Nat) : Int) - 1 = ((k : Nat) : Int) := by omega
          rw [last_succ hp] at hall
          refine ex_seq ?_;
          refine ex_seq ?_;
          refine ex_region ?_;
          apply exl_is; rfl; rfl; rfl; (apply g_move; rfl);
          apply exl_is; rfl; rfl; rfl; (apply g_move; rfl);
          apply exl_is; rfl; rfl; rfl; (apply g_len; rfl; rfl; (exact (List.length_map _).symm));
          apply exl_isB; rfl; rfl; rfl; (apply g_binInt; rfl; rfl; rfl); intro _ _;
          refine exl_nilT ?_;
          refine ex_cond rfl (fun h => ?_) (fun h => ?_) <;> ((first | (subst h; rename BV _ true => h0; have h := h0.eq; clear h0) | (subst h; rename BV _ false => h0; have h := h0.eq; clear h0) | skip); (have hp := h; try simp only [decide_eq_true_eq, decide_eq_false_iff_not, Bool.not_eq_true', Bool.not_eq_false', bne_iff_ne, beq_iff_eq, beq_eq_false_iff_ne, bne_eq_false_iff_eq, Int.not_lt, Int.not_le] at hp); (try (exfalso; first | omega | (cases hp; done))));
          refine ex_skip ?_;
          refine ex_seq ?_;
          refine ex_block ?_;
          refine ex_seq ?_;
          refine ex_region ?_;
          apply exl_is; rfl; rfl; rfl; (apply g_move; rfl);
          apply exl_is; rfl; rfl; rfl; (apply g_move; rfl);
          apply exl_is; rfl; rfl; rfl; (apply g_indexDl; rfl; rfl; rfl; (rfl); (assumption));
          apply exl_is; rfl; rfl; rfl; (apply g_loadAgg; rfl; decide; rfl; (exact .e rfl rfl));
          refine exl_box rfl rfl rfl (g_alloc rfl) ?_; intro _;
          apply exl_do; rfl; rfl; (apply g_store'; rfl; rfl; rfl; (exact Upd.here); (simp only [setL, List.set_cons_zero, List.set_cons_succ, AV.cells]; rfl); rfl; rfl; rfl; exact Nat.le_of_ble_eq_true rfl);
          refine exl_nilT ?_;
          refine ex_seq ?_;
          refine ex_seq ?_;
          refine ex_drawC rfl rfl (by kernel_rfl) rfl ?_; refine ex_drawQ rfl (by kernel_rfl) rfl ?_;
          apply wl_is; rfl; rfl; rfl; (intro σ' hl; (apply g_fieldAddr; rfl; rfl; rfl));
          apply wl_is; rfl; rfl; rfl; (intro σ' hl; (apply g_load1; rfl; rfl; (exact .p (hl _ (True.intro) (by ((repeat (first | exact List.Mem.head _ | assumption | refine List.Mem.tail _ ?_)); done))) rfl)));
          apply wl_isB; rfl; rfl; rfl; (intro σ' hl; (exact g_call rfl rfl (enters_b (by kernel_rfl)) (c1 _))); intro _ _;
          apply wl_isB; rfl; rfl; rfl; (intro σ' hl; (apply g_not; rfl)); intro _ _;
          apply wl_is; rfl; rfl; rfl; (intro σ' hl; (apply g_move; rfl));
          refine wl_case rfl (fun h => ?_) (fun h => ?_) <;> ((first | (subst h; rename BV _ true => h0; have h := h0.eq; clear h0) | (subst h; rename BV _ false => h0; have h := h0.eq; clear h0) | skip); (have hp := h; try simp only [decide_eq_true_eq, decide_eq_false_iff_not, Bool.not_eq_true', Bool.not_eq_false', bne_iff_ne, beq_iff_eq, beq_eq_false_iff_ne, bne_eq_false_iff_eq, Int.not_lt, Int.not_le] at hp); (try (exfalso; first | omega | (cases hp; done))));
          refine wl_skip rfl (by rfl) rfl rfl ?_;
          refine wl_skip rfl (by rfl) rfl rfl ?_;
          refine wl_skip rfl (by rfl) rfl rfl ?_;
          refine wl_skip_raw rfl rfl rfl ?_;
          refine wl_skip_raw rfl rfl rfl ?_;
          refine wl_skip_raw rfl rfl rfl ?_;
          refine wl_skip_raw rfl rfl rfl ?_;
          refine wl_skip_raw rfl rfl rfl ?_;
          refine wl_skip_raw rfl rfl rfl ?_;
          refine wl_skip_raw rfl rfl rfl ?_;
          refine wl_skip_raw rfl rfl rfl ?_;
          refine wl_skip_raw rfl rfl rfl ?_;
          refine wl_skip rfl (by rfl) rfl rfl ?_;
          apply wl_is; rfl; rfl; rfl; (intro σ' hl; (apply g_pick_t; rfl; (rfl); rfl));
          apply wl_is; rfl; rfl; rfl; (intro σ' hl; (apply g_move; rfl));
          refine wl_skip rfl (by rfl) rfl rfl ?_;
          refine wl_skip rfl (by rfl) rfl rfl ?_;
          refine wl_skip rfl (by rfl) rfl rfl ?_;
          refine wl_skip rfl (by rfl) rfl rfl ?_;
          apply wl_is; rfl; rfl; rfl; (intro σ' hl; (apply g_pick_t; rfl; (rfl); rfl));
          apply wl_is; rfl; rfl; rfl; (intro σ' hl; (apply g_move; rfl));
          refine wl_skip rfl (by rfl) rfl rfl ?_;
          refine wl_skip rfl (by rfl) rfl rfl ?_;
          refine wl_skip rfl (by rfl) rfl rfl ?_;
          refine wl_skip rfl (by rfl) rfl rfl ?_;
          apply wl_is; rfl; rfl; rfl; (intro σ' hl; (apply g_pick_t; rfl; (rfl); rfl));
          refine wl_nil ?_; show EX _ _ _ _ _;
          refine ex_cond_t rfl (by rfl) ?_;
          refine ex_seq ?_;
          refine ex_region ?_;
          apply exl_is; rfl; rfl; rfl; (apply g_assign; rfl);
          refine exl_nilT ?_;
          refine ex_ret ?_;
          simp only [thenA, blockA, roundA, noGotoA, retA, ↓reduceIte, Nat.reduceEqDiff];
          rotate_left;
          apply wl_isW; rfl; (rfl); rfl; rfl; (intro σ' hl; (apply g_move; rfl));
          apply wl_isBW; rfl; (rfl); rfl; rfl; (intro σ' hl; (apply g_binInt; rfl; rfl; rfl)); intro _ _;
          apply wl_isW; rfl; (rfl); rfl; rfl; (intro σ' hl; (apply g_move; rfl));
          refine wl_case rfl (fun h => ?_) (fun h => ?_) <;> ((first | (subst h; rename BV _ true => h0; have h := h0.eq; clear h0) | (subst h; rename BV _ false => h0; have h := h0.eq; clear h0) | skip); (have hp := h; try simp only [decide_eq_true_eq, decide_eq_false_iff_not, Bool.not_eq_true', Bool.not_eq_false', bne_iff_ne, beq_iff_eq, beq_eq_false_iff_ne, bne_eq_false_iff_eq, Int.not_lt, Int.not_le] at hp); (try (exfalso; first | omega | (cases hp; done))));
          apply wl_isW; rfl; (rfl); rfl; rfl; (intro σ' hl; (apply g_fieldAddr; rfl; rfl; rfl));
          apply wl_isW; rfl; (rfl); rfl; rfl; (intro σ' hl; (apply g_load1; rfl; rfl; (exact .p (hl _ (True.intro) (by ((repeat (first | exact List.Mem.head _ | assumption | refine List.Mem.tail _ ?_)); done))) rfl)));
          apply wl_isW; rfl; (rfl); rfl; rfl; (intro σ' hl; (apply g_move; rfl));
          apply wl_isW; rfl; (rfl); rfl; rfl; (intro σ' hl; (apply g_move; rfl));
          apply wl_isW; rfl; (rfl); rfl; rfl; (intro σ' hl; (apply g_sub; rfl; rfl; rfl; exact ⟨by omega, by omega⟩));
          apply wl_isW; rfl; (rfl); rfl; rfl; (intro σ' hl; (apply g_indexDl; rfl; rfl; rfl; (assumption); (assumption)));
          apply wl_isW; rfl; (rfl); rfl; rfl; (intro σ' hl; (apply g_fieldAddr; rfl; rfl; rfl));
          apply wl_isW; rfl; (rfl); rfl; rfl; (intro σ' hl; (apply g_load1; rfl; rfl; (exact .e rfl)));
          apply wl_isBW; rfl; (rfl); rfl; rfl; (intro σ' hl; (apply g_binInt; rfl; rfl; rfl)); intro _ _;
          apply wl_isW; rfl; (rfl); rfl; rfl; (intro σ' hl; (apply g_pick_t; rfl; (rfl); rfl));
          apply wl_is; rfl; rfl; rfl; (intro σ' hl; (apply g_pick_f; rfl; (rfl); rfl));
          apply wl_is; rfl; rfl; rfl; (intro σ' hl; (apply g_move; rfl));
          refine wl_case rfl (fun h => ?_) (fun h => ?_) <;> ((first | (subst h; rename BV _ true => h0; have h := h0.eq; clear h0) | (subst h; rename BV _ false => h0; have h := h0.eq; clear h0) | skip); (have hp := h; try simp only [decide_eq_true_eq, decide_eq_false_iff_not, Bool.not_eq_true', Bool.not_eq_false', bne_iff_ne, beq_iff_eq, beq_eq_false_iff_ne, bne_eq_false_iff_eq, Int.not_lt, Int.not_le] at hp); (try (exfalso; first | omega | (cases hp; done))));
          refine wl_skip rfl (by rfl) rfl rfl ?_;
          refine wl_skip rfl (by rfl) rfl rfl ?_;
          refine wl_skip rfl (by rfl) rfl rfl ?_;
          refine wl_skip rfl (by rfl) rfl rfl ?_;
          apply wl_is; rfl; rfl; rfl; (intro σ' hl; (apply g_pick_t; rfl; (rfl); rfl));
          apply wl_is; rfl; rfl; rfl; (intro σ' hl; (apply g_move; rfl));
          refine wl_skip rfl (by rfl) rfl rfl ?_;
          refine wl_skip rfl (by rfl) rfl rfl ?_;
          refine wl_skip rfl (by rfl) rfl rfl ?_;
          refine wl_skip rfl (by rfl) rfl rfl ?_;
          apply wl_is; rfl; rfl; rfl; (intro σ' hl; (apply g_pick_t; rfl; (rfl); rfl));
          refine wl_nil ?_; show EX _ _ _ _ _;
          refine ex_cond_t rfl (by rfl) ?_;
          refine ex_seq ?_;
          refine ex_region ?_;
          apply exl_is; rfl; rfl; rfl; (apply g_assign; rfl);
          refine exl_nilT ?_;
          refine ex_ret ?_;
          simp only [thenA, blockA, roundA, noGotoA, retA, ↓reduceIte, Nat.reduceEqDiff];
          rotate_left;
          apply wl_isW; rfl; (rfl); rfl; rfl; (intro σ' hl; (apply g_fieldAddr; rfl; rfl; rfl));
          apply wl_isW; rfl; (rfl); rfl; rfl; (intro σ' hl; (apply g_load1; rfl; rfl; (exact .p (hl _ (True.intro) (by ((repeat (first | exact List.Mem.head _ | assumption | refine List.Mem.tail _ ?_)); done))) rfl)));
          apply wl_isBW; rfl; (rfl); rfl; rfl; (intro σ' hl; (exact g_call rfl rfl (enters_b (by kernel_rfl)) (c2 _))); intro _ _;
          apply wl_isBW; rfl; (rfl); rfl; rfl; (intro σ' hl; (apply g_not; rfl)); intro _ _;
          apply wl_is; rfl; rfl; rfl; (intro σ' hl; (apply g_pick_f; rfl; (rfl); rfl));
          apply wl_is; rfl; rfl; rfl; (intro σ' hl; (apply g_move; rfl));
          refine wl_case rfl (fun h => ?_) (fun h => ?_) <;> ((first | (subst h; rename BV _ true => h0; have h := h0.eq; clear h0) | (subst h; rename BV _ false => h0; have h := h0.eq; clear h0) | skip); (have hp := h; try simp only [decide_eq_true_eq, decide_eq_false_iff_not, Bool.not_eq_true', Bool.not_eq_false', bne_iff_ne, beq_iff_eq, beq_eq_false_iff_ne, bne_eq_false_iff_eq, Int.not_lt, Int.not_le] at hp); (try (exfalso; first | omega | (cases hp; done))));
          refine wl_skip rfl (by rfl) rfl rfl ?_;
          refine wl_skip rfl (by rfl) rfl rfl ?_;
          refine wl_skip rfl (by rfl) rfl rfl ?_;
          refine wl_skip rfl (by rfl) rfl rfl ?_;
          apply wl_is; rfl; rfl; rfl; (intro σ' hl; (apply g_pick_t; rfl; (rfl); rfl));
          refine wl_nil ?_; show EX _ _ _ _ _;
          refine ex_cond_t rfl (by rfl) ?_;
          refine ex_seq ?_;
          refine ex_region ?_;
          apply exl_is; rfl; rfl; rfl; (apply g_assign; rfl);
          refine exl_nilT ?_;
          refine ex_ret ?_;
          simp only [thenA, blockA, roundA, noGotoA, retA, ↓reduceIte, Nat.reduceEqDiff];
          rotate_left;
          apply wl_isW; rfl; (rfl); rfl; rfl; (intro σ' hl; (apply g_fieldAddr; rfl; rfl; rfl));
          apply wl_isW; rfl; (rfl); rfl; rfl; (intro σ' hl; (apply g_load1; rfl; rfl; (exact .p (hl _ (True.intro) (by ((repeat (first | exact List.Mem.head _ | assumption | refine List.Mem.tail _ ?_)); done))) rfl)));
          apply wl_isBW; rfl; (rfl); rfl; rfl; (intro σ' hl; (exact g_call rfl rfl (enters_b (by kernel_rfl)) (c3 _))); intro _ _;
          apply wl_isBW; rfl; (rfl); rfl; rfl; (intro σ' hl; (apply g_not; rfl)); intro _ _;
          apply wl_is; rfl; rfl; rfl; (intro σ' hl; (apply g_pick_f; rfl; (rfl); rfl));
          refine wl_nil ?_; show EX _ _ _ _ _;
          refine ex_cond rfl (fun h => ?_) (fun h => ?_) <;> ((first | (subst h; rename BV _ true => h0; have h := h0.eq; clear h0) | (subst h; rename BV _ false => h0; have h := h0.eq; clear h0) | skip); (have hp := h; try simp only [decide_eq_true_eq, decide_eq_false_iff_not, Bool.not_eq_true', Bool.not_eq_false', bne_iff_ne, beq_iff_eq, beq_eq_false_iff_ne, bne_eq_false_iff_eq, Int.not_lt, Int.not_le] at hp); (try (exfalso; first | omega | (cases hp; done))));
          refine ex_seq ?_;
          refine ex_region ?_;
          apply exl_is; rfl; rfl; rfl; (apply g_assign; rfl);
          refine exl_nilT ?_;
          refine ex_ret ?_;
          simp only [thenA, blockA, roundA, noGotoA, retA, ↓reduceIte, Nat.reduceEqDiff];
          rotate_left;
          refine ex_skip ?_;
          refine ex_seq ?_;
          refine ex_region ?_;
          apply exl_is; rfl; rfl; rfl; (apply g_fieldAddr; rfl; rfl; rfl);
          apply exl_is; rfl; rfl; rfl; (apply g_load1; rfl; rfl; (exact .p (by ((repeat (first | exact List.Mem.head _ | assumption | refine List.Mem.tail _ ?_)); done)) rfl));
          apply exl_is; rfl; rfl; rfl; (apply g_fieldAddr; rfl; rfl; rfl);
          apply exl_is; rfl; rfl; rfl; (apply g_load1; rfl; rfl; (exact .p (by ((repeat (first | exact List.Mem.head _ | assumption | refine List.Mem.tail _ ?_)); done)) rfl));
          apply exl_isB; rfl; rfl; rfl; (exact g_call rfl rfl (enters_b (by kernel_rfl)) (c4 _)); intro _ _;
          apply exl_isB; rfl; rfl; rfl; (apply g_not; rfl); intro _ _;
          apply exl_is; rfl; rfl; rfl; (apply g_move; rfl);
          refine exl_caseL rfl (fun h => ?_) (fun h => ?_) <;> ((first | (subst h; rename BV _ true => h0; have h := h0.eq; clear h0) | (subst h; rename BV _ false => h0; have h := h0.eq; clear h0) | skip); (have hp := h; try simp only [decide_eq_true_eq, decide_eq_false_iff_not, Bool.not_eq_true', Bool.not_eq_false', bne_iff_ne, beq_iff_eq, beq_eq_false_iff_ne, bne_eq_false_iff_eq, Int.not_lt, Int.not_le] at hp); (try (exfalso; first | omega | (cases hp; done))));
          refine exl_skipL rfl (by rfl) rfl rfl ?_;
          refine exl_skipL rfl (by rfl) rfl rfl ?_;
          refine exl_skipL rfl (by rfl) rfl rfl ?_;
          apply exl_is; rfl; rfl; rfl; (apply g_pick_t; rfl; (rfl); rfl);
          apply exl_is; rfl; rfl; rfl; (apply g_move; rfl);
          refine exl_skipL rfl (by rfl) rfl rfl ?_;
          refine exl_skipL rfl (by rfl) rfl rfl ?_;
          refine exl_skipL rfl (by rfl) rfl rfl ?_;
          refine exl_skipL rfl (by rfl) rfl rfl ?_;
          apply exl_is; rfl; rfl; rfl; (apply g_pick_t; rfl; (rfl); rfl);
          refine exl_nilT ?_;
          refine ex_cond_t rfl (by rfl) ?_;
          refine ex_seq ?_;
          refine ex_region ?_;
          apply exl_is; rfl; rfl; rfl; (apply g_assign; rfl);
          refine exl_nilT ?_;
          refine ex_ret ?_;
          simp only [thenA, blockA, roundA, noGotoA, retA, ↓reduceIte, Nat.reduceEqDiff];
          rotate_left;
          apply exl_isW; rfl; (rfl); rfl; rfl; (apply g_fieldAddr; rfl; rfl; rfl);
          apply exl_isW; rfl; (rfl); rfl; rfl; (apply g_load1; rfl; rfl; (exact .p (by ((repeat (first | exact List.Mem.head _ | assumption | refine List.Mem.tail _ ?_)); done)) rfl));
          apply exl_isBW; rfl; (rfl); rfl; rfl; (apply g_binInt; rfl; rfl; rfl); intro _ _;
          apply exl_is; rfl; rfl; rfl; (apply g_pick_f; rfl; (rfl); rfl);
          apply exl_is; rfl; rfl; rfl; (apply g_move; rfl);
          refine exl_caseL rfl (fun h => ?_) (fun h => ?_) <;> ((first | (subst h; rename BV _ true => h0; have h := h0.eq; clear h0) | (subst h; rename BV _ false => h0; have h := h0.eq; clear h0) | skip); (have hp := h; try simp only [decide_eq_true_eq, decide_eq_false_iff_not, Bool.not_eq_true', Bool.not_eq_false', bne_iff_ne, beq_iff_eq, beq_eq_false_iff_ne, bne_eq_false_iff_eq, Int.not_lt, Int.not_le] at hp); (try (exfalso; first | omega | (cases hp; done))));
          refine exl_skipL rfl (by rfl) rfl rfl ?_;
          refine exl_skipL rfl (by rfl) rfl rfl ?_;
          refine exl_skipL rfl (by rfl) rfl rfl ?_;
          refine exl_skipL rfl (by rfl) rfl rfl ?_;
          apply exl_is; rfl; rfl; rfl; (apply g_pick_t; rfl; (rfl); rfl);
          refine exl_nilT ?_;
          refine ex_cond_t rfl (by rfl) ?_;
          refine ex_seq ?_;
          refine ex_region ?_;
          apply exl_is; rfl; rfl; rfl; (apply g_assign; rfl);
          refine exl_nilT ?_;
          refine ex_ret ?_;
          simp only [thenA, blockA, roundA, noGotoA, retA, ↓reduceIte, Nat.reduceEqDiff];
          rotate_left;
          apply exl_isW; rfl; (rfl); rfl; rfl; (apply g_fieldAddr; rfl; rfl; rfl);
          apply exl_isW; rfl; (rfl); rfl; rfl; (apply g_load1; rfl; rfl; (exact .p (by ((repeat (first | exact List.Mem.head _ | assumption | refine List.Mem.tail _ ?_)); done)) rfl));
          apply exl_isBW; rfl; (rfl); rfl; rfl; (exact g_call rfl rfl (enters_b (by kernel_rfl)) (c5 _)); intro _ _;
          apply exl_isBW; rfl; (rfl); rfl; rfl; (apply g_not; rfl); intro _ _;
          apply exl_is; rfl; rfl; rfl; (apply g_pick_f; rfl; (rfl); rfl);
          refine exl_nilT ?_;
          refine ex_cond rfl (fun h => ?_) (fun h => ?_) <;> ((first | (subst h; rename BV _ true => h0; have h := h0.eq; clear h0) | (subst h; rename BV _ false => h0; have h := h0.eq; clear h0) | skip); (have hp := h; try simp only [decide_eq_true_eq, decide_eq_false_iff_not, Bool.not_eq_true', Bool.not_eq_false', bne_iff_ne, beq_iff_eq, beq_eq_false_iff_ne, bne_eq_false_iff_eq, Int.not_lt, Int.not_le] at hp); (try (exfalso; first | omega | (cases hp; done))));
          refine ex_seq ?_;
          refine ex_region ?_;
          apply exl_is; rfl; rfl; rfl; (apply g_assign; rfl);
          refine exl_nilT ?_;
          refine ex_ret ?_;
          simp only [thenA, blockA, roundA, noGotoA, retA, ↓reduceIte, Nat.reduceEqDiff];
          rotate_left;
          refine ex_skip ?_;
          refine ex_region ?_;
          apply exl_is; rfl; rfl; rfl; (apply g_move; rfl);
          apply exl_is; rfl; rfl; rfl; (apply g_add; rfl; rfl; rfl; exact ⟨by omega, by omega⟩);
          apply exl_is; rfl; rfl; rfl; (apply g_assign; rfl);
          refine exl_nil ?_;
          simp only [thenA, blockA, roundA, noGotoA, retA, ↓reduceIte, Nat.reduceEqDiff];
          rotate_left
          (all_goals (repeat (rename BV _ _ => hbv; cases hbv)))
          all_goals (try (exfalso; first | (rename true = false => hx; cases hx; done) | (rename false = true => hx; cases hx; done)))
          all_goals
            first
              | (refine ret_is .nil (by first | exact .cons (.ofTmp rfl) .nil | exact .cons (.ofTmp rfl) (.cons (.ofTmp rfl) .nil) | exact .cons (.ofTmp rfl) (.cons (.ofTmp rfl) (.cons (.ofTmp rfl) .nil)) | exact (by repeat (first | exact Res.nil | (apply Res.cons; (first | (apply Res1.ofTmp; rfl) | (apply Res1.ofCell; rfl; rfl; (first | exact .e rfl | exact .p (by ((repeat (first | exact List.Mem.head _ | assumption | refine List.Mem.tail _ ?_)); done)) rfl | exact .r (by ((repeat (first | exact List.Mem.head _ | assumption | refine List.Mem.tail _ ?_)); done)) rfl)) | (apply Res1.ofAgg; rfl; rfl; decide; (first | exact .e rfl rfl | exact .p (by ((repeat (first | exact List.Mem.head _ | assumption | refine List.Mem.tail _ ?_)); done)) rfl rfl | exact .r (by ((repeat (first | exact List.Mem.head _ | assumption | refine List.Mem.tail _ ?_)); done)) rfl rfl))))))) (by repeat (first | exact List.Sublist.refl _ | apply List.Sublist.cons_cons | apply List.Sublist.cons)) ?_; rfl)
              | (exfalso; apply hall; simp only [Bool.and_eq_true, decide_eq_true_eq]; exact ⟨by omega, ⟨⟨⟨⟨by assumption, by assumption⟩, by assumption⟩, by assumption⟩, by omega⟩, by assumption⟩)
    · rw [List.drop_of_length_le (by omega)] at hI2
      have hI2 : ok = true := hI2
      subst hI2
      refine ex_seq ?_;
      refine ex_seq ?_;
      refine ex_region ?_;
      apply exl_is; rfl; rfl; rfl; (apply g_move; rfl);
      apply exl_is; rfl; rfl; rfl; (apply g_move; rfl);
      apply exl_is; rfl; rfl; rfl; (apply g_len; rfl; rfl; (exact (List.length_map _).symm));
      apply exl_isB; rfl; rfl; rfl; (apply g_binInt; rfl; rfl; rfl); intro _ _;
      refine exl_nilT ?_;
      refine ex_cond rfl (fun h => ?_) (fun h => ?_) <;> ((first | (subst h; rename BV _ true => h0; have h := h0.eq; clear h0) | (subst h; rename BV _ false => h0; have h := h0.eq; clear h0) | skip); (have hp := h; try simp only [decide_eq_true_eq, decide_eq_false_iff_not, Bool.not_eq_true', Bool.not_eq_false', bne_iff_ne, beq_iff_eq, beq_eq_false_iff_ne, bne_eq_false_iff_eq, Int.not_lt, Int.not_le] at hp); (try (exfalso; first | omega | (cases hp; done))));
      refine ex_exit ?_;
      refine ex_seq ?_;
      refine ex_region ?_;
      apply exl_is; rfl; rfl; rfl; (apply g_assign; rfl);
      refine exl_nilT ?_;
      refine ex_ret ?_;
      simp only [thenA, blockA, roundA, noGotoA, retA, ↓reduceIte, Nat.reduceEqDiff];
      rotate_left
      (all_goals (repeat (rename BV _ _ => hbv; cases hbv)))
      all_goals (try (exfalso; first | (rename true = false => hx; cases hx; done) | (rename false = true => hx; cases hx; done)))
      refine ret_is .nil (.cons (.ofTmp rfl) .nil) (by repeat (first | exact List.Sublist.refl _ | apply List.Sublist.cons_cons | apply List.Sublist.cons)) ?_
      rfl
set_option maxHeartbeats 4000000 in
set_option maxRecDepth 10000 in
theorem rSaid_c (l : List Fc) (key hour known : Int) (hl : l.length ≤ 1000) (hr : ∀ x ∈ l, 0 ≤ x.kn) (σ : List Ent) : SCall Try.prog 36 [fcs l, .int .i64 key, .int .i64 hour, .int .i64 known] σ (Is (.tup [.int .i64 (sayL l key hour known).v, .bool (sayL l key hour known).k]) σ) := by
  refine scall_of Try.func36 rfl (by simp) ?_
  refine ex_seq ?_;
  refine ex_region ?_;
  apply exl_is; rfl; rfl; rfl; (apply g_assign; rfl);
  apply exl_is; rfl; rfl; rfl; (apply g_assign; rfl);
  refine exl_nilT ?_;
  refine ex_seq ?_;
  refine ex_region ?_;
  apply exl_is; rfl; rfl; rfl; (apply g_assign; rfl);
  refine exl_nilT ?_;
  refine ex_seq ?_;
  refine ex_seq ?_;
  refine ex_region ?_;
  apply exl_is; rfl; rfl; rfl; (apply g_assign; rfl);
  refine exl_nilT ?_;
  refine ex_block ?_;
  rotate_left
  (all_goals (repeat (rename BV _ _ => hbv; cases hbv)))
  all_goals (try (exfalso; first | (rename true = false => hx; cases hx; done) | (rename false = true => hx; cases hx; done)))
  refine ex_loop (fun (z : Nat × Int) => (⟨[(0, fcs l), (1, .int .i64 key), (2, .int .i64 hour), (3, .int .i64 known), (10, .int .i64 z.2), (11, .int .i64 z.1)], σ, [], Try.f36.ntmps⟩ : St)) (fun z => z.1 ≤ l.length ∧ ((z.2 = -1 ∧ sayS (l.take z.1) key hour known = (-1, ⟨0, false⟩)) ∨ ∃ (b : Nat) (y : Fc), z.2 = (b : Int) ∧ l[b]? = some y ∧ sayS (l.take z.1) key hour known = (y.kn, ⟨y.val, true⟩))) (fun z => l.length - z.1) (0, -1) (⟨Nat.zero_le _, .inl ⟨rfl, rfl⟩⟩) (St.le_of (by repeat (first | exact trivial | refine ⟨rfl, ?_⟩)) (by repeat (first | exact List.Sublist.refl _ | apply List.Sublist.cons_cons | apply List.Sublist.cons))) ?_
  intro z hI
  obtain ⟨i, best⟩ := z
  obtain ⟨hI1, hI2⟩ := hI
  dsimp only at hI1 hI2 ⊢
  by_cases hi : i < l.length
  · obtain ⟨x, hx⟩ : ∃ x, l[i]? = some x := ⟨_, List.getElem?_eq_getElem hi⟩
    have hg := fc_get hx
    have hkn := hr x (List.mem_of_getElem? hx)
    have hst := say_take hx key hour known
    have c1 := within_c hour x.frm x.to
    unfold sayStep fitsB at hst
    generalize inR hour x.frm x.to = b1 at c1 hst
    rcases hI2 with ⟨rfl, hs⟩ | ⟨b, y, rfl, hy, hs⟩
    · rw [hs] at hst
      dsimp only at hst
      by_cases hc : x.key = key ∧ b1 = true ∧ x.kn ≤ known
      · obtain ⟨a1, rfl, a3⟩ := hc
        rw [if_pos (by simp only [Bool.and_true, Bool.and_eq_true, decide_eq_true_eq]; omega)] at hst
        clear hr
        refine ex_seq ?_;
        refine ex_seq ?_;
        refine ex_region ?_;
        apply exl_is; rfl; rfl; rfl; (apply g_move; rfl);
        apply exl_is; rfl; rfl; rfl; (apply g_move; rfl);
        apply exl_is; rfl; rfl; rfl; (apply g_len; rfl; rfl; (exact (List.length_map _).symm));
        apply exl_isB; rfl; rfl; rfl; (apply g_binInt; rfl; rfl; rfl); intro _ _;
        refine exl_nilT ?_;
        refine ex_cond rfl (fun h => ?_) (fun h => ?_) <;> ((first | (subst h; rename BV _ true => h0; have h := h0.eq; clear h0) | (subst h; rename BV _ false => h0; have h := h0.eq; clear h0) | skip); (have hp := h; try simp only [decide_eq_true_eq, decide_eq_false_iff_not, Bool.not_eq_true', Bool.not_eq_false', bne_iff_ne, beq_iff_eq, beq_eq_false_iff_ne, bne_eq_false_iff_eq, Int.not_lt, Int.not_le] at hp); (try (exfalso; first | omega | (cases hp; done))));
        refine ex_skip ?_;
        refine ex_seq ?_;
        refine ex_block ?_;
        refine ex_seq ?_;
        refine ex_region ?_;
        apply exl_is; rfl; rfl; rfl; (apply g_move; rfl);
        apply exl_is; rfl; rfl; rfl; (apply g_move; rfl);
        apply exl_is; rfl; rfl; rfl; (apply g_indexDl; rfl; rfl; rfl; (rfl); (assumption));
        apply exl_is; rfl; rfl; rfl; (apply g_loadAgg; rfl; decide; rfl; (exact .e rfl rfl));
        refine exl_box rfl rfl rfl (g_alloc rfl) ?_; intro _;
        apply exl_do; rfl; rfl; (apply g_store'; rfl; rfl; rfl; (exact Upd.here); (simp only [setL, List.set_cons_zero, List.set_cons_succ, AV.cells]; rfl); rfl; rfl; rfl; exact Nat.le_of_ble_eq_true rfl);
        refine exl_nilT ?_;
        refine ex_seq ?_;
        refine ex_seq ?_;
        refine ex_region ?_;
        apply exl_is; rfl; rfl; rfl; (apply g_fieldAddr; rfl; rfl; rfl);
        apply exl_is; rfl; rfl; rfl; (apply g_load1; rfl; rfl; (exact .p (by ((repeat (first | exact List.Mem.head _ | assumption | refine List.Mem.tail _ ?_)); done)) rfl));
        apply exl_is; rfl; rfl; rfl; (apply g_move; rfl);
        apply exl_isB; rfl; rfl; rfl; (apply g_binInt; rfl; rfl; rfl); intro _ _;
        apply exl_is; rfl; rfl; rfl; (apply g_move; rfl);
        refine exl_caseL rfl (fun h => ?_) (fun h => ?_) <;> ((first | (subst h; rename BV _ true => h0; have h := h0.eq; clear h0) | (subst h; rename BV _ false => h0; have h := h0.eq; clear h0) | skip); (have hp := h; try simp only [decide_eq_true_eq, decide_eq_false_iff_not, Bool.not_eq_true', Bool.not_eq_false', bne_iff_ne, beq_iff_eq, beq_eq_false_iff_ne, bne_eq_false_iff_eq, Int.not_lt, Int.not_le] at hp); (try (exfalso; first | omega | (cases hp; done))));
        apply exl_isW; rfl; (rfl); rfl; rfl; (apply g_fieldAddr; rfl; rfl; rfl);
        apply exl_isW; rfl; (rfl); rfl; rfl; (apply g_load1; rfl; rfl; (exact .p (by ((repeat (first | exact List.Mem.head _ | assumption | refine List.Mem.tail _ ?_)); done)) rfl));
        apply exl_isW; rfl; (rfl); rfl; rfl; (apply g_move; rfl);
        apply exl_isBW; rfl; (rfl); rfl; rfl; (apply g_binInt; rfl; rfl; rfl); intro _ _;
        apply exl_is; rfl; rfl; rfl; (apply g_pick_f; rfl; (rfl); rfl);
        apply exl_is; rfl; rfl; rfl; (apply g_move; rfl);
        refine exl_caseL rfl (fun h => ?_) (fun h => ?_) <;> ((first | (subst h; rename BV _ true => h0; have h := h0.eq; clear h0) | (subst h; rename BV _ false => h0; have h := h0.eq; clear h0) | skip); (have hp := h; try simp only [decide_eq_true_eq, decide_eq_false_iff_not, Bool.not_eq_true', Bool.not_eq_false', bne_iff_ne, beq_iff_eq, beq_eq_false_iff_ne, bne_eq_false_iff_eq, Int.not_lt, Int.not_le] at hp); (try (exfalso; first | omega | (cases hp; done))));
        apply exl_isW; rfl; (rfl); rfl; rfl; (apply g_move; rfl);
        apply exl_isW; rfl; (rfl); rfl; rfl; (apply g_fieldAddr; rfl; rfl; rfl);
        apply exl_isW; rfl; (rfl); rfl; rfl; (apply g_load1; rfl; rfl; (exact .p (by ((repeat (first | exact List.Mem.head _ | assumption | refine List.Mem.tail _ ?_)); done)) rfl));
        apply exl_isW; rfl; (rfl); rfl; rfl; (apply g_fieldAddr; rfl; rfl; rfl);
        apply exl_isW; rfl; (rfl); rfl; rfl; (apply g_load1; rfl; rfl; (exact .p (by ((repeat (first | exact List.Mem.head _ | assumption | refine List.Mem.tail _ ?_)); done)) rfl));
        apply exl_isBW; rfl; (rfl); rfl; rfl; (exact g_call rfl rfl (enters_b (by kernel_rfl)) (c1 _)); intro _ _;
        apply exl_isBW; rfl; (rfl); rfl; rfl; (apply g_not; rfl); intro _ _;
        apply exl_is; rfl; rfl; rfl; (apply g_pick_f; rfl; (rfl); rfl);
        refine exl_nilT ?_;
        refine ex_cond rfl (fun h => ?_) (fun h => ?_) <;> ((first | (subst h; rename BV _ true => h0; have h := h0.eq; clear h0) | (subst h; rename BV _ false => h0; have h := h0.eq; clear h0) | skip); (have hp := h; try simp only [decide_eq_true_eq, decide_eq_false_iff_not, Bool.not_eq_true', Bool.not_eq_false', bne_iff_ne, beq_iff_eq, beq_eq_false_iff_ne, bne_eq_false_iff_eq, Int.not_lt, Int.not_le] at hp); (try (exfalso; first | omega | (cases hp; done))));
        refine ex_exit ?_;
        refine ex_region ?_;
        apply exl_is; rfl; rfl; rfl; (apply g_move; rfl);
        apply exl_is; rfl; rfl; rfl; (apply g_add; rfl; rfl; rfl; exact ⟨by omega, by omega⟩);
        apply exl_is; rfl; rfl; rfl; (apply g_assign; rfl);
        refine exl_nil ?_;
        simp only [thenA, blockA, roundA, noGotoA, retA, ↓reduceIte, Nat.reduceEqDiff];
        rotate_left;
        refine ex_skip ?_;
        refine ex_seq ?_;
        refine ex_drawP rfl rfl (by kernel_rfl) rfl ?_; refine ex_drawQ rfl (by kernel_rfl) rfl ?_;
        apply wl_is; rfl; rfl; rfl; (intro σ' hl; (apply g_move; rfl));
        apply wl_isB; rfl; rfl; rfl; (intro σ' hl; (apply g_binInt; rfl; rfl; rfl)); intro _ _;
        apply wl_is; rfl; rfl; rfl; (intro σ' hl; (apply g_move; rfl));
        refine wl_case rfl (fun h => ?_) (fun h => ?_) <;> ((first | (subst h; rename BV _ true => h0; have h := h0.eq; clear h0) | (subst h; rename BV _ false => h0; have h := h0.eq; clear h0) | skip); (have hp := h; try simp only [decide_eq_true_eq, decide_eq_false_iff_not, Bool.not_eq_true', Bool.not_eq_false', bne_iff_ne, beq_iff_eq, beq_eq_false_iff_ne, bne_eq_false_iff_eq, Int.not_lt, Int.not_le] at hp); (try (exfalso; first | omega | (cases hp; done))));
        refine wl_skip rfl (by rfl) rfl rfl ?_;
        refine wl_skip rfl (by rfl) rfl rfl ?_;
        refine wl_skip rfl (by rfl) rfl rfl ?_;
        refine wl_skip rfl (by rfl) rfl rfl ?_;
        refine wl_skip rfl (by rfl) rfl rfl ?_;
        refine wl_skip rfl (by rfl) rfl rfl ?_;
        refine wl_skip rfl (by rfl) rfl rfl ?_;
        refine wl_skip rfl (by rfl) rfl rfl ?_;
        apply wl_is; rfl; rfl; rfl; (intro σ' hl; (apply g_pick_t; rfl; (rfl); rfl));
        refine wl_nil ?_; show EX _ _ _ _ _;
        refine ex_cond_t rfl (by rfl) ?_;
        refine ex_region ?_;
        apply exl_is; rfl; rfl; rfl; (apply g_move; rfl);
        apply exl_is; rfl; rfl; rfl; (apply g_assign; rfl);
        refine exl_nil ?_;
        refine ex_region ?_;
        apply exl_is; rfl; rfl; rfl; (apply g_move; rfl);
        apply exl_is; rfl; rfl; rfl; (apply g_add; rfl; rfl; rfl; exact ⟨by omega, by omega⟩);
        apply exl_is; rfl; rfl; rfl; (apply g_assign; rfl);
        refine exl_nil ?_;
        simp only [thenA, blockA, roundA, noGotoA, retA, ↓reduceIte, Nat.reduceEqDiff];
        rotate_left
        (all_goals (repeat (rename BV _ _ => hbv; cases hbv)))
        all_goals (try (exfalso; first | (rename true = false => hx; cases hx; done) | (rename false = true => hx; cases hx; done)))
        exact ⟨(i + 1, (i : Int)), ⟨hi, .inr ⟨i, x, rfl, hx, hst⟩⟩, by dsimp only; omega, (St.le_of (by repeat (first | exact trivial | refine ⟨rfl, ?_⟩)) (by repeat (first | exact List.Sublist.refl _ | apply List.Sublist.cons_cons | apply List.Sublist.cons)))⟩
      · rw [if_neg (by simp only [Bool.and_eq_true, decide_eq_true_eq]; exact fun h => hc ⟨h.1.1.1, h.1.1.2, h.1.2⟩)] at hst
        have hc2 : x.key = key → x.kn ≤ known → b1 = false := fun h1 h2 => by cases b1 <;> first | rfl | exact absurd ⟨h1, rfl, h2⟩ hc
        clear hr hc
        by_cases hq : x.key = key ∧ x.kn ≤ known
        · rw [hc2 hq.1 hq.2] at c1
          refine ex_seq ?_;
          refine ex_seq ?_;
          refine ex_region ?_;
          apply exl_is; rfl; rfl; rfl; (apply g_move; rfl);
          apply exl_is; rfl; rfl; rfl; (apply g_move; rfl);
          apply exl_is; rfl; rfl; rfl; (apply g_len; rfl; rfl; (exact (List.length_map _).symm));
          apply exl_isB; rfl; rfl; rfl; (apply g_binInt; rfl; rfl; rfl); intro _ _;
          refine exl_nilT ?_;
          refine ex_cond rfl (fun h => ?_) (fun h => ?_) <;> ((first | (subst h; rename BV _ true => h0; have h := h0.eq; clear h0) | (subst h; rename BV _ false => h0; have h := h0.eq; clear h0) | skip); (have hp := h; try simp only [decide_eq_true_eq, decide_eq_false_iff_not, Bool.not_eq_true', Bool.not_eq_false', bne_iff_ne, beq_iff_eq, beq_eq_false_iff_ne, bne_eq_false_iff_eq, Int.not_lt, Int.not_le] at hp); (try (exfalso; first | omega | (cases hp; done))));
          refine ex_skip ?_;
          refine ex_seq ?_;
          refine ex_block ?_;
          refine ex_seq ?_;
          refine ex_region ?_;
          apply exl_is; rfl; rfl; rfl; (apply g_move; rfl);
          apply exl_is; rfl; rfl; rfl; (apply g_move; rfl);
          apply exl_is; rfl; rfl; rfl; (apply g_indexDl; rfl; rfl; rfl; (rfl); (assumption));
          apply exl_is; rfl; rfl; rfl; (apply g_loadAgg; rfl; decide; rfl; (exact .e rfl rfl));
          refine exl_box rfl rfl rfl (g_alloc rfl) ?_; intro _;
          apply exl_do; rfl; rfl; (apply g_store'; rfl; rfl; rfl; (exact Upd.here); (simp only [setL, List.set_cons_zero, List.set_cons_succ, AV.cells]; rfl); rfl; rfl; rfl; exact Nat.le_of_ble_eq_true rfl);
          refine exl_nilT ?_;
          refine ex_seq ?_;
          refine ex_seq ?_;
          refine ex_region ?_;
          apply exl_is; rfl; rfl; rfl; (apply g_fieldAddr; rfl; rfl; rfl);
          apply exl_is; rfl; rfl; rfl; (apply g_load1; rfl; rfl; (exact .p (by ((repeat (first | exact List.Mem.head _ | assumption | refine List.Mem.tail _ ?_)); done)) rfl));
          apply exl_is; rfl; rfl; rfl; (apply g_move; rfl);
          apply exl_isB; rfl; rfl; rfl; (apply g_binInt; rfl; rfl; rfl); intro _ _;
          apply exl_is; rfl; rfl; rfl; (apply g_move; rfl);
          refine exl_caseL rfl (fun h => ?_) (fun h => ?_) <;> ((first | (subst h; rename BV _ true => h0; have h := h0.eq; clear h0) | (subst h; rename BV _ false => h0; have h := h0.eq; clear h0) | skip); (have hp := h; try simp only [decide_eq_true_eq, decide_eq_false_iff_not, Bool.not_eq_true', Bool.not_eq_false', bne_iff_ne, beq_iff_eq, beq_eq_false_iff_ne, bne_eq_false_iff_eq, Int.not_lt, Int.not_le] at hp); (try (exfalso; first | omega | (cases hp; done))));
          apply exl_isW; rfl; (rfl); rfl; rfl; (apply g_fieldAddr; rfl; rfl; rfl);
          apply exl_isW; rfl; (rfl); rfl; rfl; (apply g_load1; rfl; rfl; (exact .p (by ((repeat (first | exact List.Mem.head _ | assumption | refine List.Mem.tail _ ?_)); done)) rfl));
          apply exl_isW; rfl; (rfl); rfl; rfl; (apply g_move; rfl);
          apply exl_isBW; rfl; (rfl); rfl; rfl; (apply g_binInt; rfl; rfl; rfl); intro _ _;
          apply exl_is; rfl; rfl; rfl; (apply g_pick_f; rfl; (rfl); rfl);
          apply exl_is; rfl; rfl; rfl; (apply g_move; rfl);
          refine exl_caseL rfl (fun h => ?_) (fun h => ?_) <;> ((first | (subst h; rename BV _ true => h0; have h := h0.eq; clear h0) | (subst h; rename BV _ false => h0; have h := h0.eq; clear h0) | skip); (have hp := h; try simp only [decide_eq_true_eq, decide_eq_false_iff_not, Bool.not_eq_true', Bool.not_eq_false', bne_iff_ne, beq_iff_eq, beq_eq_false_iff_ne, bne_eq_false_iff_eq, Int.not_lt, Int.not_le] at hp); (try (exfalso; first | omega | (cases hp; done))));
          apply exl_isW; rfl; (rfl); rfl; rfl; (apply g_move; rfl);
          apply exl_isW; rfl; (rfl); rfl; rfl; (apply g_fieldAddr; rfl; rfl; rfl);
          apply exl_isW; rfl; (rfl); rfl; rfl; (apply g_load1; rfl; rfl; (exact .p (by ((repeat (first | exact List.Mem.head _ | assumption | refine List.Mem.tail _ ?_)); done)) rfl));
          apply exl_isW; rfl; (rfl); rfl; rfl; (apply g_fieldAddr; rfl; rfl; rfl);
          apply exl_isW; rfl; (rfl); rfl; rfl; (apply g_load1; rfl; rfl; (exact .p (by ((repeat (first | exact List.Mem.head _ | assumption | refine List.Mem.tail _ ?_)); done)) rfl));
          apply exl_isBW; rfl; (rfl); rfl; rfl; (exact g_call rfl rfl (enters_b (by kernel_rfl)) (c1 _)); intro _ _;
          apply exl_isBW; rfl; (rfl); rfl; rfl; (apply g_not; rfl); intro _ _;
          apply exl_is; rfl; rfl; rfl; (apply g_pick_f; rfl; (rfl); rfl);
          refine exl_nilT ?_;
          refine ex_cond rfl (fun h => ?_) (fun h => ?_) <;> ((first | (subst h; rename BV _ true => h0; have h := h0.eq; clear h0) | (subst h; rename BV _ false => h0; have h := h0.eq; clear h0) | skip); (have hp := h; try simp only [decide_eq_true_eq, decide_eq_false_iff_not, Bool.not_eq_true', Bool.not_eq_false', bne_iff_ne, beq_iff_eq, beq_eq_false_iff_ne, bne_eq_false_iff_eq, Int.not_lt, Int.not_le] at hp); (try (exfalso; first | omega | (cases hp; done))));
          refine ex_exit ?_;
          refine ex_region ?_;
          apply exl_is; rfl; rfl; rfl; (apply g_move; rfl);
          apply exl_is; rfl; rfl; rfl; (apply g_add; rfl; rfl; rfl; exact ⟨by omega, by omega⟩);
          apply exl_is; rfl; rfl; rfl; (apply g_assign; rfl);
          refine exl_nil ?_;
          simp only [thenA, blockA, roundA, noGotoA, retA, ↓reduceIte, Nat.reduceEqDiff];
          rotate_left;
          refine ex_skip ?_;
          refine ex_seq ?_;
          refine ex_drawP rfl rfl (by kernel_rfl) rfl ?_; refine ex_drawQ rfl (by kernel_rfl) rfl ?_;
          apply wl_is; rfl; rfl; rfl; (intro σ' hl; (apply g_move; rfl));
          apply wl_isB; rfl; rfl; rfl; (intro σ' hl; (apply g_binInt; rfl; rfl; rfl)); intro _ _;
          apply wl_is; rfl; rfl; rfl; (intro σ' hl; (apply g_move; rfl));
          refine wl_case rfl (fun h => ?_) (fun h => ?_) <;> ((first | (subst h; rename BV _ true => h0; have h := h0.eq; clear h0) | (subst h; rename BV _ false => h0; have h := h0.eq; clear h0) | skip); (have hp := h; try simp only [decide_eq_true_eq, decide_eq_false_iff_not, Bool.not_eq_true', Bool.not_eq_false', bne_iff_ne, beq_iff_eq, beq_eq_false_iff_ne, bne_eq_false_iff_eq, Int.not_lt, Int.not_le] at hp); (try (exfalso; first | omega | (cases hp; done))));
          refine wl_skip rfl (by rfl) rfl rfl ?_;
          refine wl_skip rfl (by rfl) rfl rfl ?_;
          refine wl_skip rfl (by rfl) rfl rfl ?_;
          refine wl_skip rfl (by rfl) rfl rfl ?_;
          refine wl_skip rfl (by rfl) rfl rfl ?_;
          refine wl_skip rfl (by rfl) rfl rfl ?_;
          refine wl_skip rfl (by rfl) rfl rfl ?_;
          refine wl_skip rfl (by rfl) rfl rfl ?_;
          apply wl_is; rfl; rfl; rfl; (intro σ' hl; (apply g_pick_t; rfl; (rfl); rfl));
          refine wl_nil ?_; show EX _ _ _ _ _;
          refine ex_cond_t rfl (by rfl) ?_;
          refine ex_region ?_;
          apply exl_is; rfl; rfl; rfl; (apply g_move; rfl);
          apply exl_is; rfl; rfl; rfl; (apply g_assign; rfl);
          refine exl_nil ?_;
          refine ex_region ?_;
          apply exl_is; rfl; rfl; rfl; (apply g_move; rfl);
          apply exl_is; rfl; rfl; rfl; (apply g_add; rfl; rfl; rfl; exact ⟨by omega, by omega⟩);
          apply exl_is; rfl; rfl; rfl; (apply g_assign; rfl);
          refine exl_nil ?_;
          simp only [thenA, blockA, roundA, noGotoA, retA, ↓reduceIte, Nat.reduceEqDiff];
          rotate_left
          (all_goals (repeat (rename BV _ _ => hbv; cases hbv)))
          all_goals (try (exfalso; first | (rename true = false => hx; cases hx; done) | (rename false = true => hx; cases hx; done)))
          all_goals exact ⟨(i + 1, -1), ⟨hi, .inl ⟨rfl, hst⟩⟩, by dsimp only; omega, (St.le_of (by repeat (first | exact trivial | refine ⟨rfl, ?_⟩)) (by repeat (first | exact List.Sublist.refl _ | apply List.Sublist.cons_cons | apply List.Sublist.cons)))⟩
        · refine ex_seq ?_;
          refine ex_seq ?_;
          refine ex_region ?_;
          apply exl_is; rfl; rfl; rfl; (apply g_move; rfl);
          apply exl_is; rfl; rfl; rfl; (apply g_move; rfl);
          apply exl_is; rfl; rfl; rfl; (apply g_len; rfl; rfl; (exact (List.length_map _).symm));
          apply exl_isB; rfl; rfl; rfl; (apply g_binInt; rfl; rfl; rfl); intro _ _;
          refine exl_nilT ?_;
          refine ex_cond rfl (fun h => ?_) (fun h => ?_) <;> ((first | (subst h; rename BV _ true => h0; have h := h0.eq; clear h0) | (subst h; rename BV _ false => h0; have h := h0.eq; clear h0) | skip); (have hp := h; try simp only [decide_eq_true_eq, decide_eq_false_iff_not, Bool.not_eq_true', Bool.not_eq_false', bne_iff_ne, beq_iff_eq, beq_eq_false_iff_ne, bne_eq_false_iff_eq, Int.not_lt, Int.not_le] at hp); (try (exfalso; first | omega | (cases hp; done))));
          refine ex_skip ?_;
          refine ex_seq ?_;
          refine ex_block ?_;
          refine ex_seq ?_;
          refine ex_region ?_;
          apply exl_is; rfl; rfl; rfl; (apply g_move; rfl);
          apply exl_is; rfl; rfl; rfl; (apply g_move; rfl);
          apply exl_is; rfl; rfl; rfl; (apply g_indexDl; rfl; rfl; rfl; (rfl); (assumption));
          apply exl_is; rfl; rfl; rfl; (apply g_loadAgg; rfl; decide; rfl; (exact .e rfl rfl));
          refine exl_box rfl rfl rfl (g_alloc rfl) ?_; intro _;
          apply exl_do; rfl; rfl; (apply g_store'; rfl; rfl; rfl; (exact Upd.here); (simp only [setL, List.set_cons_zero, List.set_cons_succ, AV.cells]; rfl); rfl; rfl; rfl; exact Nat.le_of_ble_eq_true rfl);
          refine exl_nilT ?_;
          refine ex_seq ?_;
          refine ex_seq ?_;
          refine ex_region ?_;
          apply exl_is; rfl; rfl; rfl; (apply g_fieldAddr; rfl; rfl; rfl);
          apply exl_is; rfl; rfl; rfl; (apply g_load1; rfl; rfl; (exact .p (by ((repeat (first | exact List.Mem.head _ | assumption | refine List.Mem.tail _ ?_)); done)) rfl));
          apply exl_is; rfl; rfl; rfl; (apply g_move; rfl);
          apply exl_isB; rfl; rfl; rfl; (apply g_binInt; rfl; rfl; rfl); intro _ _;
          apply exl_is; rfl; rfl; rfl; (apply g_move; rfl);
          refine exl_caseL rfl (fun h => ?_) (fun h => ?_) <;> ((first | (subst h; rename BV _ true => h0; have h := h0.eq; clear h0) | (subst h; rename BV _ false => h0; have h := h0.eq; clear h0) | skip); (have hp := h; try simp only [decide_eq_true_eq, decide_eq_false_iff_not, Bool.not_eq_true', Bool.not_eq_false', bne_iff_ne, beq_iff_eq, beq_eq_false_iff_ne, bne_eq_false_iff_eq, Int.not_lt, Int.not_le] at hp); (try (exfalso; first | omega | (cases hp; done))));
          refine exl_skipL rfl (by rfl) rfl rfl ?_;
          refine exl_skipL rfl (by rfl) rfl rfl ?_;
          refine exl_skipL rfl (by rfl) rfl rfl ?_;
          refine exl_skipL rfl (by rfl) rfl rfl ?_;
          apply exl_is; rfl; rfl; rfl; (apply g_pick_t; rfl; (rfl); rfl);
          apply exl_is; rfl; rfl; rfl; (apply g_move; rfl);
          refine exl_skipL rfl (by rfl) rfl rfl ?_;
          refine exl_skipL rfl (by rfl) rfl rfl ?_;
          refine exl_skipL rfl (by rfl) rfl rfl ?_;
          refine exl_skipL rfl (by rfl) rfl rfl ?_;
          refine exl_skipL rfl (by rfl) rfl rfl ?_;
          refine exl_skipL rfl (by rfl) rfl rfl ?_;
          refine exl_skipL rfl (by rfl) rfl rfl ?_;
          apply exl_is; rfl; rfl; rfl; (apply g_pick_t; rfl; (rfl); rfl);
          refine exl_nilT ?_;
          refine ex_cond_t rfl (by rfl) ?_;
          refine ex_exit ?_;
          refine ex_region ?_;
          apply exl_is; rfl; rfl; rfl; (apply g_move; rfl);
          apply exl_is; rfl; rfl; rfl; (apply g_add; rfl; rfl; rfl; exact ⟨by omega, by omega⟩);
          apply exl_is; rfl; rfl; rfl; (apply g_assign; rfl);
          refine exl_nil ?_;
          simp only [thenA, blockA, roundA, noGotoA, retA, ↓reduceIte, Nat.reduceEqDiff];
          rotate_left;
          apply exl_isW; rfl; (rfl); rfl; rfl; (apply g_fieldAddr; rfl; rfl; rfl);
          apply exl_isW; rfl; (rfl); rfl; rfl; (apply g_load1; rfl; rfl; (exact .p (by ((repeat (first | exact List.Mem.head _ | assumption | refine List.Mem.tail _ ?_)); done)) rfl));
          apply exl_isW; rfl; (rfl); rfl; rfl; (apply g_move; rfl);
          apply exl_isBW; rfl; (rfl); rfl; rfl; (apply g_binInt; rfl; rfl; rfl); intro _ _;
          apply exl_is; rfl; rfl; rfl; (apply g_pick_f; rfl; (rfl); rfl);
          apply exl_is; rfl; rfl; rfl; (apply g_move; rfl);
          refine exl_caseL rfl (fun h => ?_) (fun h => ?_) <;> ((first | (subst h; rename BV _ true => h0; have h := h0.eq; clear h0) | (subst h; rename BV _ false => h0; have h := h0.eq; clear h0) | skip); (have hp := h; try simp only [decide_eq_true_eq, decide_eq_false_iff_not, Bool.not_eq_true', Bool.not_eq_false', bne_iff_ne, beq_iff_eq, beq_eq_false_iff_ne, bne_eq_false_iff_eq, Int.not_lt, Int.not_le] at hp); (try (exfalso; first | omega | (cases hp; done))));
          refine exl_skipL rfl (by rfl) rfl rfl ?_;
          refine exl_skipL rfl (by rfl) rfl rfl ?_;
          refine exl_skipL rfl (by rfl) rfl rfl ?_;
          refine exl_skipL rfl (by rfl) rfl rfl ?_;
          refine exl_skipL rfl (by rfl) rfl rfl ?_;
          refine exl_skipL rfl (by rfl) rfl rfl ?_;
          refine exl_skipL rfl (by rfl) rfl rfl ?_;
          apply exl_is; rfl; rfl; rfl; (apply g_pick_t; rfl; (rfl); rfl);
          refine exl_nilT ?_;
          refine ex_cond_t rfl (by rfl) ?_;
          refine ex_exit ?_;
          refine ex_region ?_;
          apply exl_is; rfl; rfl; rfl; (apply g_move; rfl);
          apply exl_is; rfl; rfl; rfl; (apply g_add; rfl; rfl; rfl; exact ⟨by omega, by omega⟩);
          apply exl_is; rfl; rfl; rfl; (apply g_assign; rfl);
          refine exl_nil ?_;
          simp only [thenA, blockA, roundA, noGotoA, retA, ↓reduceIte, Nat.reduceEqDiff];
          rotate_left
          (all_goals (repeat (rename BV _ _ => hbv; cases hbv)))
          all_goals (try (exfalso; first | (rename true = false => hx; cases hx; done) | (rename false = true => hx; cases hx; done)))
          all_goals exact ⟨(i + 1, -1), ⟨hi, .inl ⟨rfl, hst⟩⟩, by dsimp only; omega, (St.le_of (by repeat (first | exact trivial | refine ⟨rfl, ?_⟩)) (by repeat (first | exact List.Sublist.refl _ | apply List.Sublist.cons_cons | apply List.Sublist.cons)))⟩
    · have hgy := fc_get hy
      rw [hs] at hst
      dsimp only at hst
      by_cases hc : x.key = key ∧ b1 = true ∧ x.kn ≤ known
      · obtain ⟨a1, rfl, a3⟩ := hc
        by_cases hle : y.kn ≤ x.kn
        · rw [if_pos (by simp only [Bool.and_true, Bool.and_eq_true, decide_eq_true_eq]; omega)] at hst
          clear hr
          refine ex_seq ?_;
          refine ex_seq ?_;
          refine ex_region ?_;
          apply exl_is; rfl; rfl; rfl; (apply g_move; rfl);
          apply exl_is; rfl; rfl; rfl; (apply g_move; rfl);
          apply exl_is; rfl; rfl; rfl; (apply g_len; rfl; rfl; (exact (List.length_map _).symm));
          apply exl_isB; rfl; rfl; rfl; (apply g_binInt; rfl; rfl; rfl); intro _ _;
          refine exl_nilT ?_;
          refine ex_cond rfl (fun h => ?_) (fun h => ?_) <;> ((first | (subst h; rename BV _ true => h0; have h := h0.eq; clear h0) | (subst h; rename BV _ false => h0; have h := h0.eq; clear h0) | skip); (have hp := h; try simp only [decide_eq_true_eq, decide_eq_false_iff_not, Bool.not_eq_true', Bool.not_eq_false', bne_iff_ne, beq_iff_eq, beq_eq_false_iff_ne, bne_eq_false_iff_eq, Int.not_lt, Int.not_le] at hp); (try (exfalso; first | omega | (cases hp; done))));
          refine ex_skip ?_;
          refine ex_seq ?_;
          refine ex_block ?_;
          refine ex_seq ?_;
          refine ex_region ?_;
          apply exl_is; rfl; rfl; rfl; (apply g_move; rfl);
          apply exl_is; rfl; rfl; rfl; (apply g_move; rfl);
          apply exl_is; rfl; rfl; rfl; (apply g_indexDl; rfl; rfl; rfl; (rfl); (assumption));
          apply exl_is; rfl; rfl; rfl; (apply g_loadAgg; rfl; decide; rfl; (exact .e rfl rfl));
          refine exl_box rfl rfl rfl (g_alloc rfl) ?_; intro _;
          apply exl_do; rfl; rfl; (apply g_store'; rfl; rfl; rfl; (exact Upd.here); (simp only [setL, List.set_cons_zero, List.set_cons_succ, AV.cells]; rfl); rfl; rfl; rfl; exact Nat.le_of_ble_eq_true rfl);
          refine exl_nilT ?_;
          refine ex_seq ?_;
          refine ex_seq ?_;
          refine ex_region ?_;
          apply exl_is; rfl; rfl; rfl; (apply g_fieldAddr; rfl; rfl; rfl);
          apply exl_is; rfl; rfl; rfl; (apply g_load1; rfl; rfl; (exact .p (by ((repeat (first | exact List.Mem.head _ | assumption | refine List.Mem.tail _ ?_)); done)) rfl));
          apply exl_is; rfl; rfl; rfl; (apply g_move; rfl);
          apply exl_isB; rfl; rfl; rfl; (apply g_binInt; rfl; rfl; rfl); intro _ _;
          apply exl_is; rfl; rfl; rfl; (apply g_move; rfl);
          refine exl_caseL rfl (fun h => ?_) (fun h => ?_) <;> ((first | (subst h; rename BV _ true => h0; have h := h0.eq; clear h0) | (subst h; rename BV _ false => h0; have h := h0.eq; clear h0) | skip); (have hp := h; try simp only [decide_eq_true_eq, decide_eq_false_iff_not, Bool.not_eq_true', Bool.not_eq_false', bne_iff_ne, beq_iff_eq, beq_eq_false_iff_ne, bne_eq_false_iff_eq, Int.not_lt, Int.not_le] at hp); (try (exfalso; first | omega | (cases hp; done))));
          apply exl_isW; rfl; (rfl); rfl; rfl; (apply g_fieldAddr; rfl; rfl; rfl);
          apply exl_isW; rfl; (rfl); rfl; rfl; (apply g_load1; rfl; rfl; (exact .p (by ((repeat (first | exact List.Mem.head _ | assumption | refine List.Mem.tail _ ?_)); done)) rfl));
          apply exl_isW; rfl; (rfl); rfl; rfl; (apply g_move; rfl);
          apply exl_isBW; rfl; (rfl); rfl; rfl; (apply g_binInt; rfl; rfl; rfl); intro _ _;
          apply exl_is; rfl; rfl; rfl; (apply g_pick_f; rfl; (rfl); rfl);
          apply exl_is; rfl; rfl; rfl; (apply g_move; rfl);
          refine exl_caseL rfl (fun h => ?_) (fun h => ?_) <;> ((first | (subst h; rename BV _ true => h0; have h := h0.eq; clear h0) | (subst h; rename BV _ false => h0; have h := h0.eq; clear h0) | skip); (have hp := h; try simp only [decide_eq_true_eq, decide_eq_false_iff_not, Bool.not_eq_true', Bool.not_eq_false', bne_iff_ne, beq_iff_eq, beq_eq_false_iff_ne, bne_eq_false_iff_eq, Int.not_lt, Int.not_le] at hp); (try (exfalso; first | omega | (cases hp; done))));
          apply exl_isW; rfl; (rfl); rfl; rfl; (apply g_move; rfl);
          apply exl_isW; rfl; (rfl); rfl; rfl; (apply g_fieldAddr; rfl; rfl; rfl);
          apply exl_isW; rfl; (rfl); rfl; rfl; (apply g_load1; rfl; rfl; (exact .p (by ((repeat (first | exact List.Mem.head _ | assumption | refine List.Mem.tail _ ?_)); done)) rfl));
          apply exl_isW; rfl; (rfl); rfl; rfl; (apply g_fieldAddr; rfl; rfl; rfl);
          apply exl_isW; rfl; (rfl); rfl; rfl; (apply g_load1; rfl; rfl; (exact .p (by ((repeat (first | exact List.Mem.head _ | assumption | refine List.Mem.tail _ ?_)); done)) rfl));
          apply exl_isBW; rfl; (rfl); rfl; rfl; (exact g_call rfl rfl (enters_b (by kernel_rfl)) (c1 _)); intro _ _;
          apply exl_isBW; rfl; (rfl); rfl; rfl; (apply g_not; rfl); intro _ _;
          apply exl_is; rfl; rfl; rfl; (apply g_pick_f; rfl; (rfl); rfl);
          refine exl_nilT ?_;
          refine ex_cond rfl (fun h => ?_) (fun h => ?_) <;> ((first | (subst h; rename BV _ true => h0; have h := h0.eq; clear h0) | (subst h; rename BV _ false => h0; have h := h0.eq; clear h0) | skip); (have hp := h; try simp only [decide_eq_true_eq, decide_eq_false_iff_not, Bool.not_eq_true', Bool.not_eq_false', bne_iff_ne, beq_iff_eq, beq_eq_false_iff_ne, bne_eq_false_iff_eq, Int.not_lt, Int.not_le] at hp); (try (exfalso; first | omega | (cases hp; done))));
          refine ex_exit ?_;
          refine ex_region ?_;
          apply exl_is; rfl; rfl; rfl; (apply g_move; rfl);
          apply exl_is; rfl; rfl; rfl; (apply g_add; rfl; rfl; rfl; exact ⟨by omega, by omega⟩);
          apply exl_is; rfl; rfl; rfl; (apply g_assign; rfl);
          refine exl_nil ?_;
          simp only [thenA, blockA, roundA, noGotoA, retA, ↓reduceIte, Nat.reduceEqDiff];
          rotate_left;
          refine ex_skip ?_;
          refine ex_seq ?_;
          refine ex_drawP rfl rfl (by kernel_rfl) rfl ?_; refine ex_drawQ rfl (by kernel_rfl) rfl ?_;
          apply wl_is; rfl; rfl; rfl; (intro σ' hl; (apply g_move; rfl));
          apply wl_isB; rfl; rfl; rfl; (intro σ' hl; (apply g_binInt; rfl; rfl; rfl)); intro _ _;
          apply wl_is; rfl; rfl; rfl; (intro σ' hl; (apply g_move; rfl));
          refine wl_case rfl (fun h => ?_) (fun h => ?_) <;> ((first | (subst h; rename BV _ true => h0; have h := h0.eq; clear h0) | (subst h; rename BV _ false => h0; have h := h0.eq; clear h0) | skip); (have hp := h; try simp only [decide_eq_true_eq, decide_eq_false_iff_not, Bool.not_eq_true', Bool.not_eq_false', bne_iff_ne, beq_iff_eq, beq_eq_false_iff_ne, bne_eq_false_iff_eq, Int.not_lt, Int.not_le] at hp); (try (exfalso; first | omega | (cases hp; done))));
          apply wl_isW; rfl; (rfl); rfl; rfl; (intro σ' hl; (apply g_fieldAddr; rfl; rfl; rfl));
          apply wl_isW; rfl; (rfl); rfl; rfl; (intro σ' hl; (apply g_load1; rfl; rfl; (exact .p (hl _ (True.intro) (by ((repeat (first | exact List.Mem.head _ | assumption | refine List.Mem.tail _ ?_)); done))) rfl)));
          apply wl_isW; rfl; (rfl); rfl; rfl; (intro σ' hl; (apply g_move; rfl));
          apply wl_isW; rfl; (rfl); rfl; rfl; (intro σ' hl; (apply g_move; rfl));
          apply wl_isW; rfl; (rfl); rfl; rfl; (intro σ' hl; (apply g_indexDl; rfl; rfl; rfl; (rfl); (assumption)));
          apply wl_isW; rfl; (rfl); rfl; rfl; (intro σ' hl; (apply g_fieldAddr; rfl; rfl; rfl));
          apply wl_isW; rfl; (rfl); rfl; rfl; (intro σ' hl; (apply g_load1; rfl; rfl; (exact .e rfl)));
          apply wl_isBW; rfl; (rfl); rfl; rfl; (intro σ' hl; (apply g_binInt; rfl; rfl; rfl)); intro _ _;
          apply wl_is; rfl; rfl; rfl; (intro σ' hl; (apply g_pick_f; rfl; (rfl); rfl));
          refine wl_nil ?_; show EX _ _ _ _ _;
          refine ex_cond rfl (fun h => ?_) (fun h => ?_) <;> ((first | (subst h; rename BV _ true => h0; have h := h0.eq; clear h0) | (subst h; rename BV _ false => h0; have h := h0.eq; clear h0) | skip); (have hp := h; try simp only [decide_eq_true_eq, decide_eq_false_iff_not, Bool.not_eq_true', Bool.not_eq_false', bne_iff_ne, beq_iff_eq, beq_eq_false_iff_ne, bne_eq_false_iff_eq, Int.not_lt, Int.not_le] at hp); (try (exfalso; first | omega | (cases hp; done))));
          refine ex_region ?_;
          apply exl_is; rfl; rfl; rfl; (apply g_move; rfl);
          apply exl_is; rfl; rfl; rfl; (apply g_assign; rfl);
          refine exl_nil ?_;
          refine ex_region ?_;
          apply exl_is; rfl; rfl; rfl; (apply g_move; rfl);
          apply exl_is; rfl; rfl; rfl; (apply g_add; rfl; rfl; rfl; exact ⟨by omega, by omega⟩);
          apply exl_is; rfl; rfl; rfl; (apply g_assign; rfl);
          refine exl_nil ?_;
          simp only [thenA, blockA, roundA, noGotoA, retA, ↓reduceIte, Nat.reduceEqDiff];
          rotate_left
          (all_goals (repeat (rename BV _ _ => hbv; cases hbv)))
          all_goals (try (exfalso; first | (rename true = false => hx; cases hx; done) | (rename false = true => hx; cases hx; done)))
          exact ⟨(i + 1, (i : Int)), ⟨hi, .inr ⟨i, x, rfl, hx, hst⟩⟩, by dsimp only; omega, (St.le_of (by repeat (first | exact trivial | refine ⟨rfl, ?_⟩)) (by repeat (first | exact List.Sublist.refl _ | apply List.Sublist.cons_cons | apply List.Sublist.cons)))⟩
        · rw [if_neg (by simp only [Bool.and_true, Bool.and_eq_true, decide_eq_true_eq]; omega)] at hst
          clear hr
          refine ex_seq ?_;
          refine ex_seq ?_;
          refine ex_region ?_;
          apply exl_is; rfl; rfl; rfl; (apply g_move; rfl);
          apply exl_is; rfl; rfl; rfl; (apply g_move; rfl);
          apply exl_is; rfl; rfl; rfl; (apply g_len; rfl; rfl; (exact (List.length_map _).symm));
          apply exl_isB; rfl; rfl; rfl; (apply g_binInt; rfl; rfl; rfl); intro _ _;
          refine exl_nilT ?_;
          refine ex_cond rfl (fun h => ?_) (fun h => ?_) <;> ((first | (subst h; rename BV _ true => h0; have h := h0.eq; clear h0) | (subst h; rename BV _ false => h0; have h := h0.eq; clear h0) | skip); (have hp := h; try simp only [decide_eq_true_eq, decide_eq_false_iff_not, Bool.not_eq_true', Bool.not_eq_false', bne_iff_ne, beq_iff_eq, beq_eq_false_iff_ne, bne_eq_false_iff_eq, Int.not_lt, Int.not_le] at hp); (try (exfalso; first | omega | (cases hp; done))));
          refine ex_skip ?_;
          refine ex_seq ?_;
          refine ex_block ?_;
          refine ex_seq ?_;
          refine ex_region ?_;
          apply exl_is; rfl; rfl; rfl; (apply g_move; rfl);
          apply exl_is; rfl; rfl; rfl; (apply g_move; rfl);
          apply exl_is; rfl; rfl; rfl; (apply g_indexDl; rfl; rfl; rfl; (rfl); (assumption));
          apply exl_is; rfl; rfl; rfl; (apply g_loadAgg; rfl; decide; rfl; (exact .e rfl rfl));
          refine exl_box rfl rfl rfl (g_alloc rfl) ?_; intro _;
          apply exl_do; rfl; rfl; (apply g_store'; rfl; rfl; rfl; (exact Upd.here); (simp only [setL, List.set_cons_zero, List.set_cons_succ, AV.cells]; rfl); rfl; rfl; rfl; exact Nat.le_of_ble_eq_true rfl);
          refine exl_nilT ?_;
          refine ex_seq ?_;
          refine ex_seq ?_;
          refine ex_region ?_;
          apply exl_is; rfl; rfl; rfl; (apply g_fieldAddr; rfl; rfl; rfl);
          apply exl_is; rfl; rfl; rfl; (apply g_load1; rfl; rfl; (exact .p (by ((repeat (first | exact List.Mem.head _ | assumption | refine List.Mem.tail _ ?_)); done)) rfl));
          apply exl_is; rfl; rfl; rfl; (apply g_move; rfl);
          apply exl_isB; rfl; rfl; rfl; (apply g_binInt; rfl; rfl; rfl); intro _ _;
          apply exl_is; rfl; rfl; rfl; (apply g_move; rfl);
          refine exl_caseL rfl (fun h => ?_) (fun h => ?_) <;> ((first | (subst h; rename BV _ true => h0; have h := h0.eq; clear h0) | (subst h; rename BV _ false => h0; have h := h0.eq; clear h0) | skip); (have hp := h; try simp only [decide_eq_true_eq, decide_eq_false_iff_not, Bool.not_eq_true', Bool.not_eq_false', bne_iff_ne, beq_iff_eq, beq_eq_false_iff_ne, bne_eq_false_iff_eq, Int.not_lt, Int.not_le] at hp); (try (exfalso; first | omega | (cases hp; done))));
          apply exl_isW; rfl; (rfl); rfl; rfl; (apply g_fieldAddr; rfl; rfl; rfl);
          apply exl_isW; rfl; (rfl); rfl; rfl; (apply g_load1; rfl; rfl; (exact .p (by ((repeat (first | exact List.Mem.head _ | assumption | refine List.Mem.tail _ ?_)); done)) rfl));
          apply exl_isW; rfl; (rfl); rfl; rfl; (apply g_move; rfl);
          apply exl_isBW; rfl; (rfl); rfl; rfl; (apply g_binInt; rfl; rfl; rfl); intro _ _;
          apply exl_is; rfl; rfl; rfl; (apply g_pick_f; rfl; (rfl); rfl);
          apply exl_is; rfl; rfl; rfl; (apply g_move; rfl);
          refine exl_caseL rfl (fun h => ?_) (fun h => ?_) <;> ((first | (subst h; rename BV _ true => h0; have h := h0.eq; clear h0) | (subst h; rename BV _ false => h0; have h := h0.eq; clear h0) | skip); (have hp := h; try simp only [decide_eq_true_eq, decide_eq_false_iff_not, Bool.not_eq_true', Bool.not_eq_false', bne_iff_ne, beq_iff_eq, beq_eq_false_iff_ne, bne_eq_false_iff_eq, Int.not_lt, Int.not_le] at hp); (try (exfalso; first | omega | (cases hp; done))));
          apply exl_isW; rfl; (rfl); rfl; rfl; (apply g_move; rfl);
          apply exl_isW; rfl; (rfl); rfl; rfl; (apply g_fieldAddr; rfl; rfl; rfl);
          apply exl_isW; rfl; (rfl); rfl; rfl; (apply g_load1; rfl; rfl; (exact .p (by ((repeat (first | exact List.Mem.head _ | assumption | refine List.Mem.tail _ ?_)); done)) rfl));
          apply exl_isW; rfl; (rfl); rfl; rfl; (apply g_fieldAddr; rfl; rfl; rfl);
          apply exl_isW; rfl; (rfl); rfl; rfl; (apply g_load1; rfl; rfl; (exact .p (by ((repeat (first | exact List.Mem.head _ | assumption | refine List.Mem.tail _ ?_)); done)) rfl));
          apply exl_isBW; rfl; (rfl); rfl; rfl; (exact g_call rfl rfl (enters_b (by kernel_rfl)) (c1 _)); intro _ _;
          apply exl_isBW; rfl; (rfl); rfl; rfl; (apply g_not; rfl); intro _ _;
          apply exl_is; rfl; rfl; rfl; (apply g_pick_f; rfl; (rfl); rfl);
          refine exl_nilT ?_;
          refine ex_cond rfl (fun h => ?_) (fun h => ?_) <;> ((first | (subst h; rename BV _ true => h0; have h := h0.eq; clear h0) | (subst h; rename BV _ false => h0; have h := h0.eq; clear h0) | skip); (have hp := h; try simp only [decide_eq_true_eq, decide_eq_false_iff_not, Bool.not_eq_true', Bool.not_eq_false', bne_iff_ne, beq_iff_eq, beq_eq_false_iff_ne, bne_eq_false_iff_eq, Int.not_lt, Int.not_le] at hp); (try (exfalso; first | omega | (cases hp; done))));
          refine ex_exit ?_;
          refine ex_region ?_;
          apply exl_is; rfl; rfl; rfl; (apply g_move; rfl);
          apply exl_is; rfl; rfl; rfl; (apply g_add; rfl; rfl; rfl; exact ⟨by omega, by omega⟩);
          apply exl_is; rfl; rfl; rfl; (apply g_assign; rfl);
          refine exl_nil ?_;
          simp only [thenA, blockA, roundA, noGotoA, retA, ↓reduceIte, Nat.reduceEqDiff];
          rotate_left;
          refine ex_skip ?_;
          refine ex_seq ?_;
          refine ex_drawP rfl rfl (by kernel_rfl) rfl ?_; refine ex_drawQ rfl (by kernel_rfl) rfl ?_;
          apply wl_is; rfl; rfl; rfl; (intro σ' hl; (apply g_move; rfl));
          apply wl_isB; rfl; rfl; rfl; (intro σ' hl; (apply g_binInt; rfl; rfl; rfl)); intro _ _;
          apply wl_is; rfl; rfl; rfl; (intro σ' hl; (apply g_move; rfl));
          refine wl_case rfl (fun h => ?_) (fun h => ?_) <;> ((first | (subst h; rename BV _ true => h0; have h := h0.eq; clear h0) | (subst h; rename BV _ false => h0; have h := h0.eq; clear h0) | skip); (have hp := h; try simp only [decide_eq_true_eq, decide_eq_false_iff_not, Bool.not_eq_true', Bool.not_eq_false', bne_iff_ne, beq_iff_eq, beq_eq_false_iff_ne, bne_eq_false_iff_eq, Int.not_lt, Int.not_le] at hp); (try (exfalso; first | omega | (cases hp; done))));
          apply wl_isW; rfl; (rfl); rfl; rfl; (intro σ' hl; (apply g_fieldAddr; rfl; rfl; rfl));
          apply wl_isW; rfl; (rfl); rfl; rfl; (intro σ' hl; (apply g_load1; rfl; rfl; (exact .p (hl _ (True.intro) (by ((repeat (first | exact List.Mem.head _ | assumption | refine List.Mem.tail _ ?_)); done))) rfl)));
          apply wl_isW; rfl; (rfl); rfl; rfl; (intro σ' hl; (apply g_move; rfl));
          apply wl_isW; rfl; (rfl); rfl; rfl; (intro σ' hl; (apply g_move; rfl));
          apply wl_isW; rfl; (rfl); rfl; rfl; (intro σ' hl; (apply g_indexDl; rfl; rfl; rfl; (rfl); (assumption)));
          apply wl_isW; rfl; (rfl); rfl; rfl; (intro σ' hl; (apply g_fieldAddr; rfl; rfl; rfl));
          apply wl_isW; rfl; (rfl); rfl; rfl; (intro σ' hl; (apply g_load1; rfl; rfl; (exact .e rfl)));
          apply wl_isBW; rfl; (rfl); rfl; rfl; (intro σ' hl; (apply g_binInt; rfl; rfl; rfl)); intro _ _;
          apply wl_is; rfl; rfl; rfl; (intro σ' hl; (apply g_pick_f; rfl; (rfl); rfl));
          refine wl_nil ?_; show EX _ _ _ _ _;
          refine ex_cond rfl (fun h => ?_) (fun h => ?_) <;> ((first | (subst h; rename BV _ true => h0; have h := h0.eq; clear h0) | (subst h; rename BV _ false => h0; have h := h0.eq; clear h0) | skip); (have hp := h; try simp only [decide_eq_true_eq, decide_eq_false_iff_not, Bool.not_eq_true', Bool.not_eq_false', bne_iff_ne, beq_iff_eq, beq_eq_false_iff_ne, bne_eq_false_iff_eq, Int.not_lt, Int.not_le] at hp); (try (exfalso; first | omega | (cases hp; done))));
          refine ex_skip ?_;
          refine ex_region ?_;
          apply exl_is; rfl; rfl; rfl; (apply g_move; rfl);
          apply exl_is; rfl; rfl; rfl; (apply g_add; rfl; rfl; rfl; exact ⟨by omega, by omega⟩);
          apply exl_is; rfl; rfl; rfl; (apply g_assign; rfl);
          refine exl_nil ?_;
          simp only [thenA, blockA, roundA, noGotoA, retA, ↓reduceIte, Nat.reduceEqDiff];
          rotate_left
          (all_goals (repeat (rename BV _ _ => hbv; cases hbv)))
          all_goals (try (exfalso; first | (rename true = false => hx; cases hx; done) | (rename false = true => hx; cases hx; done)))
          exact ⟨(i + 1, (b : Int)), ⟨hi, .inr ⟨b, y, rfl, hy, hst⟩⟩, by dsimp only; omega, (St.le_of (by repeat (first | exact trivial | refine ⟨rfl, ?_⟩)) (by repeat (first | exact List.Sublist.refl _ | apply List.Sublist.cons_cons | apply List.Sublist.cons)))⟩
      · rw [if_neg (by simp only [Bool.and_eq_true, decide_eq_true_eq]; exact fun h => hc ⟨h.1.1.1, h.1.1.2, h.1.2⟩)] at hst
        have hc2 : x.key = key → x.kn ≤ known → b1 = false := fun h1 h2 => by cases b1 <;> first | rfl | exact absurd ⟨h1, rfl, h2⟩ hc
        clear hr hc
        by_cases hq : x.key = key ∧ x.kn ≤ known
        · rw [hc2 hq.1 hq.2] at c1
          refine ex_seq ?_;
          refine ex_seq ?_;
          refine ex_region ?_;
          apply exl_is; rfl; rfl; rfl; (apply g_move; rfl);
          apply exl_is; rfl; rfl; rfl; (apply g_move; rfl);
          apply exl_is; rfl; rfl; rfl; (apply g_len; rfl; rfl; (exact (List.length_map _).symm));
          apply exl_isB; rfl; rfl; rfl; (apply g_binInt; rfl; rfl; rfl); intro _ _;
          refine exl_nilT ?_;
          refine ex_cond rfl (fun h => ?_) (fun h => ?_) <;> ((first | (subst h; rename BV _ true => h0; have h := h0.eq; clear h0) | (subst h; rename BV _ false => h0; have h := h0.eq; clear h0) | skip); (have hp := h; try simp only [decide_eq_true_eq, decide_eq_false_iff_not, Bool.not_eq_true', Bool.not_eq_false', bne_iff_ne, beq_iff_eq, beq_eq_false_iff_ne, bne_eq_false_iff_eq, Int.not_lt, Int.not_le] at hp); (try (exfalso; first | omega | (cases hp; done))));
          refine ex_skip ?_;
          refine ex_seq ?_;
          refine ex_block ?_;
          refine ex_seq ?_;
          refine ex_region ?_;
          apply exl_is; rfl; rfl; rfl; (apply g_move; rfl);
          apply exl_is; rfl; rfl; rfl; (apply g_move; rfl);
          apply exl_is; rfl; rfl; rfl; (apply g_indexDl; rfl; rfl; rfl; (rfl); (assumption));
          apply exl_is; rfl; rfl; rfl; (apply g_loadAgg; rfl; decide; rfl; (exact .e rfl rfl));
          refine exl_box rfl rfl rfl (g_alloc rfl) ?_; intro _;
          apply exl_do; rfl; rfl; (apply g_store'; rfl; rfl; rfl; (exact Upd.here); (simp only [setL, List.set_cons_zero, List.set_cons_succ, AV.cells]; rfl); rfl; rfl; rfl; exact Nat.le_of_ble_eq_true rfl);
          refine exl_nilT ?_;
          refine ex_seq ?_;
          refine ex_seq ?_;
          refine ex_region ?_;
          apply exl_is; rfl; rfl; rfl; (apply g_fieldAddr; rfl; rfl; rfl);
          apply exl_is; rfl; rfl; rfl; (apply g_load1; rfl; rfl; (exact .p (by ((repeat (first | exact List.Mem.head _ | assumption | refine List.Mem.tail _ ?_)); done)) rfl));
          apply exl_is; rfl; rfl; rfl; (apply g_move; rfl);
          apply exl_isB; rfl; rfl; rfl; (apply g_binInt; rfl; rfl; rfl); intro _ _;
          apply exl_is; rfl; rfl; rfl; (apply g_move; rfl);
          refine exl_caseL rfl (fun h => ?_) (fun h => ?_) <;> ((first | (subst h; rename BV _ true => h0; have h := h0.eq; clear h0) | (subst h; rename BV _ false => h0; have h := h0.eq; clear h0) | skip); (have hp := h; try simp only [decide_eq_true_eq, decide_eq_false_iff_not, Bool.not_eq_true', Bool.not_eq_false', bne_iff_ne, beq_iff_eq, beq_eq_false_iff_ne, bne_eq_false_iff_eq, Int.not_lt, Int.not_le] at hp); (try (exfalso; first | omega | (cases hp; done))));
          apply exl_isW; rfl; (rfl); rfl; rfl; (apply g_fieldAddr; rfl; rfl; rfl);
          apply exl_isW; rfl; (rfl); rfl; rfl; (apply g_load1; rfl; rfl; (exact .p (by ((repeat (first | exact List.Mem.head _ | assumption | refine List.Mem.tail _ ?_)); done)) rfl));
          apply exl_isW; rfl; (rfl); rfl; rfl; (apply g_move; rfl);
          apply exl_isBW; rfl; (rfl); rfl; rfl; (apply g_binInt; rfl; rfl; rfl); intro _ _;
          apply exl_is; rfl; rfl; rfl; (apply g_pick_f; rfl; (rfl); rfl);
          apply exl_is; rfl; rfl; rfl; (apply g_move; rfl);
          refine exl_caseL rfl (fun h => ?_) (fun h => ?_) <;> ((first | (subst h; rename BV _ true => h0; have h := h0.eq; clear h0) | (subst h; rename BV _ false => h0; have h := h0.eq; clear h0) | skip); (have hp := h; try simp only [decide_eq_true_eq, decide_eq_false_iff_not, Bool.not_eq_true', Bool.not_eq_false', bne_iff_ne, beq_iff_eq, beq_eq_false_iff_ne, bne_eq_false_iff_eq, Int.not_lt, Int.not_le] at hp); (try (exfalso; first | omega | (cases hp; done))));
          apply exl_isW; rfl; (rfl); rfl; rfl; (apply g_move; rfl);
          apply exl_isW; rfl; (rfl); rfl; rfl; (apply g_fieldAddr; rfl; rfl; rfl);
          apply exl_isW; rfl; (rfl); rfl; rfl; (apply g_load1; rfl; rfl; (exact .p (by ((repeat (first | exact List.Mem.head _ | assumption | refine List.Mem.tail _ ?_)); done)) rfl));
          apply exl_isW; rfl; (rfl); rfl; rfl; (apply g_fieldAddr; rfl; rfl; rfl);
          apply exl_isW; rfl; (rfl); rfl; rfl; (apply g_load1; rfl; rfl; (exact .p (by ((repeat (first | exact List.Mem.head _ | assumption | refine List.Mem.tail _ ?_)); done)) rfl));
          apply exl_isBW; rfl; (rfl); rfl; rfl; (exact g_call rfl rfl (enters_b (by kernel_rfl)) (c1 _)); intro _ _;
          apply exl_isBW; rfl; (rfl); rfl; rfl; (apply g_not; rfl); intro _ _;
          apply exl_is; rfl; rfl; rfl; (apply g_pick_f; rfl; (rfl); rfl);
          refine exl_nilT ?_;
          refine ex_cond rfl (fun h => ?_) (fun h => ?_) <;> ((first | (subst h; rename BV _ true => h0; have h := h0.eq; clear h0) | (subst h; rename BV _ false => h0; have h := h0.eq; clear h0) | skip); (have hp := h; try simp only [decide_eq_true_eq, decide_eq_false_iff_not, Bool.not_eq_true', Bool.not_eq_false', bne_iff_ne, beq_iff_eq, beq_eq_false_iff_ne, bne_eq_false_iff_eq, Int.not_lt, Int.not_le] at hp); (try (exfalso; first | omega | (cases hp; done))));
          refine ex_exit ?_;
          refine ex_region ?_;
          apply exl_is; rfl; rfl; rfl; (apply g_move; rfl);
          apply exl_is; rfl; rfl; rfl; (apply g_add; rfl; rfl; rfl; exact ⟨by omega, by omega⟩);
          apply exl_is; rfl; rfl; rfl; (apply g_assign; rfl);
          refine exl_nil ?_;
          simp only [thenA, blockA, roundA, noGotoA, retA, ↓reduceIte, Nat.reduceEqDiff];
          rotate_left;
          refine ex_skip ?_;
          refine ex_seq ?_;
          refine ex_drawP rfl rfl (by kernel_rfl) rfl ?_; refine ex_drawQ rfl (by kernel_rfl) rfl ?_;
          apply wl_is; rfl; rfl; rfl; (intro σ' hl; (apply g_move; rfl));
          apply wl_isB; rfl; rfl; rfl; (intro σ' hl; (apply g_binInt; rfl; rfl; rfl)); intro _ _;
          apply wl_is; rfl; rfl; rfl; (intro σ' hl; (apply g_move; rfl));
          refine wl_case rfl (fun h => ?_) (fun h => ?_) <;> ((first | (subst h; rename BV _ true => h0; have h := h0.eq; clear h0) | (subst h; rename BV _ false => h0; have h := h0.eq; clear h0) | skip); (have hp := h; try simp only [decide_eq_true_eq, decide_eq_false_iff_not, Bool.not_eq_true', Bool.not_eq_false', bne_iff_ne, beq_iff_eq, beq_eq_false_iff_ne, bne_eq_false_iff_eq, Int.not_lt, Int.not_le] at hp); (try (exfalso; first | omega | (cases hp; done))));
          apply wl_isW; rfl; (rfl); rfl; rfl; (intro σ' hl; (apply g_fieldAddr; rfl; rfl; rfl));
          apply wl_isW; rfl; (rfl); rfl; rfl; (intro σ' hl; (apply g_load1; rfl; rfl; (exact .p (hl _ (True.intro) (by ((repeat (first | exact List.Mem.head _ | assumption | refine List.Mem.tail _ ?_)); done))) rfl)));
          apply wl_isW; rfl; (rfl); rfl; rfl; (intro σ' hl; (apply g_move; rfl));
          apply wl_isW; rfl; (rfl); rfl; rfl; (intro σ' hl; (apply g_move; rfl));
          apply wl_isW; rfl; (rfl); rfl; rfl; (intro σ' hl; (apply g_indexDl; rfl; rfl; rfl; (rfl); (assumption)));
          apply wl_isW; rfl; (rfl); rfl; rfl; (intro σ' hl; (apply g_fieldAddr; rfl; rfl; rfl));
          apply wl_isW; rfl; (rfl); rfl; rfl; (intro σ' hl; (apply g_load1; rfl; rfl; (exact .e rfl)));
          apply wl_isBW; rfl; (rfl); rfl; rfl; (intro σ' hl; (apply g_binInt; rfl; rfl; rfl)); intro _ _;
          apply wl_is; rfl; rfl; rfl; (intro σ' hl; (apply g_pick_f; rfl; (rfl); rfl));
          refine wl_nil ?_; show EX _ _ _ _ _;
          refine ex_cond rfl (fun h => ?_) (fun h => ?_) <;> ((first | (subst h; rename BV _ true => h0; have h := h0.eq; clear h0) | (subst h; rename BV _ false => h0; have h := h0.eq; clear h0) | skip); (have hp := h; try simp only [decide_eq_true_eq, decide_eq_false_iff_not, Bool.not_eq_true', Bool.not_eq_false', bne_iff_ne, beq_iff_eq, beq_eq_false_iff_ne, bne_eq_false_iff_eq, Int.not_lt, Int.not_le] at hp); (try (exfalso; first | omega | (cases hp; done))));
          refine ex_region ?_;
          apply exl_is; rfl; rfl; rfl; (apply g_move; rfl);
          apply exl_is; rfl; rfl; rfl; (apply g_assign; rfl);
          refine exl_nil ?_;
          refine ex_region ?_;
          apply exl_is; rfl; rfl; rfl; (apply g_move; rfl);
          apply exl_is; rfl; rfl; rfl; (apply g_add; rfl; rfl; rfl; exact ⟨by omega, by omega⟩);
          apply exl_is; rfl; rfl; rfl; (apply g_assign; rfl);
          refine exl_nil ?_;
          simp only [thenA, blockA, roundA, noGotoA, retA, ↓reduceIte, Nat.reduceEqDiff];
          rotate_left;
          refine ex_skip ?_;
          refine ex_region ?_;
          apply exl_is; rfl; rfl; rfl; (apply g_move; rfl);
          apply exl_is; rfl; rfl; rfl; (apply g_add; rfl; rfl; rfl; exact ⟨by omega, by omega⟩);
          apply exl_is; rfl; rfl; rfl; (apply g_assign; rfl);
          refine exl_nil ?_;
          simp only [thenA, blockA, roundA, noGotoA, retA, ↓reduceIte, Nat.reduceEqDiff];
          rotate_left
          (all_goals (repeat (rename BV _ _ => hbv; cases hbv)))
          all_goals (try (exfalso; first | (rename true = false => hx; cases hx; done) | (rename false = true => hx; cases hx; done)))
          all_goals exact ⟨(i + 1, (b : Int)), ⟨hi, .inr ⟨b, y, rfl, hy, hst⟩⟩, by dsimp only; omega, (St.le_of (by repeat (first | exact trivial | refine ⟨rfl, ?_⟩)) (by repeat (first | exact List.Sublist.refl _ | apply List.Sublist.cons_cons | apply List.Sublist.cons)))⟩
        · refine ex_seq ?_;
          refine ex_seq ?_;
          refine ex_region ?_;
          apply exl_is; rfl; rfl; rfl; (apply g_move; rfl);
          apply exl_is; rfl; rfl; rfl; (apply g_move; rfl);
          apply exl_is; rfl; rfl; rfl; (apply g_len; rfl; rfl; (exact (List.length_map _).symm));
          apply exl_isB; rfl; rfl; rfl; (apply g_binInt; rfl; rfl; rfl); intro _ _;
          refine exl_nilT ?_;
          refine ex_cond rfl (fun h => ?_) (fun h => ?_) <;> ((first | (subst h; rename BV _ true => h0; have h := h0.eq; clear h0) | (subst h; rename BV _ false => h0; have h := h0.eq; clear h0) | skip); (have hp := h; try simp only [decide_eq_true_eq, decide_eq_false_iff_not, Bool.not_eq_true', Bool.not_eq_false', bne_iff_ne, beq_iff_eq, beq_eq_false_iff_ne, bne_eq_false_iff_eq, Int.not_lt, Int.not_le] at hp); (try (exfalso; first | omega | (cases hp; done))));
          refine ex_skip ?_;
          refine ex_seq ?_;
          refine ex_block ?_;
          refine ex_seq ?_;
          refine ex_region ?_;
          apply exl_is; rfl; rfl; rfl; (apply g_move; rfl);
          apply exl_is; rfl; rfl; rfl; (apply g_move; rfl);
          apply exl_is; rfl; rfl; rfl; (apply g_indexDl; rfl; rfl; rfl; (rfl); (assumption));
          apply exl_is; rfl; rfl; rfl; (apply g_loadAgg; rfl; decide; rfl; (exact .e rfl rfl));
          refine exl_box rfl rfl rfl (g_alloc rfl) ?_; intro _;
          apply exl_do; rfl; rfl; (apply g_store'; rfl; rfl; rfl; (exact Upd.here); (simp only [setL, List.set_cons_zero, List.set_cons_succ, AV.cells]; rfl); rfl; rfl; rfl; exact Nat.le_of_ble_eq_true rfl);
          refine exl_nilT ?_;
          refine ex_seq ?_;
          refine ex_seq ?_;
          refine ex_region ?_;
          apply exl_is; rfl; rfl; rfl; (apply g_fieldAddr; rfl; rfl; rfl);
          apply exl_is; rfl; rfl; rfl; (apply g_load1; rfl; rfl; (exact .p (by ((repeat (first | exact List.Mem.head _ | assumption | refine List.Mem.tail _ ?_)); done)) rfl));
          apply exl_is; rfl; rfl; rfl; (apply g_move; rfl);
          apply exl_isB; rfl; rfl; rfl; (apply g_binInt; rfl; rfl; rfl); intro _ _;
          apply exl_is; rfl; rfl; rfl; (apply g_move; rfl);
          refine exl_caseL rfl (fun h => ?_) (fun h => ?_) <;> ((first | (subst h; rename BV _ true => h0; have h := h0.eq; clear h0) | (subst h; rename BV _ false => h0; have h := h0.eq; clear h0) | skip); (have hp := h; try simp only [decide_eq_true_eq, decide_eq_false_iff_not, Bool.not_eq_true', Bool.not_eq_false', bne_iff_ne, beq_iff_eq, beq_eq_false_iff_ne, bne_eq_false_iff_eq, Int.not_lt, Int.not_le] at hp); (try (exfalso; first | omega | (cases hp; done))));
          refine exl_skipL rfl (by rfl) rfl rfl ?_;
          refine exl_skipL rfl (by rfl) rfl rfl ?_;
          refine exl_skipL rfl (by rfl) rfl rfl ?_;
          refine exl_skipL rfl (by rfl) rfl rfl ?_;
          apply exl_is; rfl; rfl; rfl; (apply g_pick_t; rfl; (rfl); rfl);
          apply exl_is; rfl; rfl; rfl; (apply g_move; rfl);
          refine exl_skipL rfl (by rfl) rfl rfl ?_;
          refine exl_skipL rfl (by rfl) rfl rfl ?_;
          refine exl_skipL rfl (by rfl) rfl rfl ?_;
          refine exl_skipL rfl (by rfl) rfl rfl ?_;
          refine exl_skipL rfl (by rfl) rfl rfl ?_;
          refine exl_skipL rfl (by rfl) rfl rfl ?_;
          refine exl_skipL rfl (by rfl) rfl rfl ?_;
          apply exl_is; rfl; rfl; rfl; (apply g_pick_t; rfl; (rfl); rfl);
          refine exl_nilT ?_;
          refine ex_cond_t rfl (by rfl) ?_;
          refine ex_exit ?_;
          refine ex_region ?_;
          apply exl_is; rfl; rfl; rfl; (apply g_move; rfl);
          apply exl_is; rfl; rfl; rfl; (apply g_add; rfl; rfl; rfl; exact ⟨by omega, by omega⟩);
          apply exl_is; rfl; rfl; rfl; (apply g_assign; rfl);
          refine exl_nil ?_;
          simp only [thenA, blockA, roundA, noGotoA, retA, ↓reduceIte, Nat.reduceEqDiff];
          rotate_left;
          apply exl_isW; rfl; (rfl); rfl; rfl; (apply g_fieldAddr; rfl; rfl; rfl);
          apply exl_isW; rfl; (rfl); rfl; rfl; (apply g_load1; rfl; rfl; (exact .p (by ((repeat (first | exact List.Mem.head _ | assumption | refine List.Mem.tail _ ?_)); done)) rfl));
          apply exl_isW; rfl; (rfl); rfl; rfl; (apply g_move; rfl);
          apply exl_isBW; rfl; (rfl); rfl; rfl; (apply g_binInt; rfl; rfl; rfl); intro _ _;
          apply exl_is; rfl; rfl; rfl; (apply g_pick_f; rfl; (rfl); rfl);
          apply exl_is; rfl; rfl; rfl; (apply g_move; rfl);
          refine exl_caseL rfl (fun h => ?_) (fun h => ?_) <;> ((first | (subst h; rename BV _ true => h0; have h := h0.eq; clear h0) | (subst h; rename BV _ false => h0; have h := h0.eq; clear h0) | skip); (have hp := h; try simp only [decide_eq_true_eq, decide_eq_false_iff_not, Bool.not_eq_true', Bool.not_eq_false', bne_iff_ne, beq_iff_eq, beq_eq_false_iff_ne, bne_eq_false_iff_eq, Int.not_lt, Int.not_le] at hp); (try (exfalso; first | omega | (cases hp; done))));
          refine exl_skipL rfl (by rfl) rfl rfl ?_;
          refine exl_skipL rfl (by rfl) rfl rfl ?_;
          refine exl_skipL rfl (by rfl) rfl rfl ?_;
          refine exl_skipL rfl (by rfl) rfl rfl ?_;
          refine exl_skipL rfl (by rfl) rfl rfl ?_;
          refine exl_skipL rfl (by rfl) rfl rfl ?_;
          refine exl_skipL rfl (by rfl) rfl rfl ?_;
          apply exl_is; rfl; rfl; rfl; (apply g_pick_t; rfl; (rfl); rfl);
          refine exl_nilT ?_;
          refine ex_cond_t rfl (by rfl) ?_;
          refine ex_exit ?_;
          refine ex_region ?_;
          apply exl_is; rfl; rfl; rfl; (apply g_move; rfl);
          apply exl_is; rfl; rfl; rfl; (apply g_add; rfl; rfl; rfl; exact ⟨by omega, by omega⟩);
          apply exl_is; rfl; rfl; rfl; (apply g_assign; rfl);
          refine exl_nil ?_;
          simp only [thenA, blockA, roundA, noGotoA, retA, ↓reduceIte, Nat.reduceEqDiff];
          rotate_left
          (all_goals (repeat (rename BV _ _ => hbv; cases hbv)))
          all_goals (try (exfalso; first | (rename true = false => hx; cases hx; done) | (rename false = true => hx; cases hx; done)))
          all_goals exact ⟨(i + 1, (b : Int)), ⟨hi, .inr ⟨b, y, rfl, hy, hst⟩⟩, by dsimp only; omega, (St.le_of (by repeat (first | exact trivial | refine ⟨rfl, ?_⟩)) (by repeat (first | exact List.Sublist.refl _ | apply List.Sublist.cons_cons | apply List.Sublist.cons)))⟩
  · rw [List.take_of_length_le (by omega)] at hI2
    unfold sayL
    rcases hI2 with ⟨rfl, hs⟩ | ⟨b, y, rfl, hy, hs⟩
    · rw [hs]
      clear hr
      refine ex_seq ?_;
      refine ex_seq ?_;
      refine ex_region ?_;
      apply exl_is; rfl; rfl; rfl; (apply g_move; rfl);
      apply exl_is; rfl; rfl; rfl; (apply g_move; rfl);
      apply exl_is; rfl; rfl; rfl; (apply g_len; rfl; rfl; (exact (List.length_map _).symm));
      apply exl_isB; rfl; rfl; rfl; (apply g_binInt; rfl; rfl; rfl); intro _ _;
      refine exl_nilT ?_;
      refine ex_cond rfl (fun h => ?_) (fun h => ?_) <;> ((first | (subst h; rename BV _ true => h0; have h := h0.eq; clear h0) | (subst h; rename BV _ false => h0; have h := h0.eq; clear h0) | skip); (have hp := h; try simp only [decide_eq_true_eq, decide_eq_false_iff_not, Bool.not_eq_true', Bool.not_eq_false', bne_iff_ne, beq_iff_eq, beq_eq_false_iff_ne, bne_eq_false_iff_eq, Int.not_lt, Int.not_le] at hp); (try (exfalso; first | omega | (cases hp; done))));
      refine ex_exit ?_;
      refine ex_seq ?_;
      refine ex_seq ?_;
      refine ex_region ?_;
      apply exl_is; rfl; rfl; rfl; (apply g_move; rfl);
      apply exl_isB; rfl; rfl; rfl; (apply g_binInt; rfl; rfl; rfl); intro _ _;
      refine exl_nilT ?_;
      refine ex_cond rfl (fun h => ?_) (fun h => ?_) <;> ((first | (subst h; rename BV _ true => h0; have h := h0.eq; clear h0) | (subst h; rename BV _ false => h0; have h := h0.eq; clear h0) | skip); (have hp := h; try simp only [decide_eq_true_eq, decide_eq_false_iff_not, Bool.not_eq_true', Bool.not_eq_false', bne_iff_ne, beq_iff_eq, beq_eq_false_iff_ne, bne_eq_false_iff_eq, Int.not_lt, Int.not_le] at hp); (try (exfalso; first | omega | (cases hp; done))));
      refine ex_seq ?_;
      refine ex_region ?_;
      apply exl_is; rfl; rfl; rfl; (apply g_assign; rfl);
      apply exl_is; rfl; rfl; rfl; (apply g_assign; rfl);
      refine exl_nilT ?_;
      refine ex_ret ?_;
      simp only [thenA, blockA, roundA, noGotoA, retA, ↓reduceIte, Nat.reduceEqDiff];
      rotate_left
      (all_goals (repeat (rename BV _ _ => hbv; cases hbv)))
      all_goals (try (exfalso; first | (rename true = false => hx; cases hx; done) | (rename false = true => hx; cases hx; done)))
      refine ret_is .nil (.cons (.ofTmp rfl) (.cons (.ofTmp rfl) .nil)) (by repeat (first | exact List.Sublist.refl _ | apply List.Sublist.cons_cons | apply List.Sublist.cons)) ?_
      rfl
    · rw [hs]
      have hgy := fc_get hy
      clear hr
      refine ex_seq ?_;
      refine ex_seq ?_;
      refine ex_region ?_;
      apply exl_is; rfl; rfl; rfl; (apply g_move; rfl);
      apply exl_is; rfl; rfl; rfl; (apply g_move; rfl);
      apply exl_is; rfl; rfl; rfl; (apply g_len; rfl; rfl; (exact (List.length_map _).symm));
      apply exl_isB; rfl; rfl; rfl; (apply g_binInt; rfl; rfl; rfl); intro _ _;
      refine exl_nilT ?_;
      refine ex_cond rfl (fun h => ?_) (fun h => ?_) <;> ((first | (subst h; rename BV _ true => h0; have h := h0.eq; clear h0) | (subst h; rename BV _ false => h0; have h := h0.eq; clear h0) | skip); (have hp := h; try simp only [decide_eq_true_eq, decide_eq_false_iff_not, Bool.not_eq_true', Bool.not_eq_false', bne_iff_ne, beq_iff_eq, beq_eq_false_iff_ne, bne_eq_false_iff_eq, Int.not_lt, Int.not_le] at hp); (try (exfalso; first | omega | (cases hp; done))));
      refine ex_exit ?_;
      refine ex_seq ?_;
      refine ex_seq ?_;
      refine ex_region ?_;
      apply exl_is; rfl; rfl; rfl; (apply g_move; rfl);
      apply exl_isB; rfl; rfl; rfl; (apply g_binInt; rfl; rfl; rfl); intro _ _;
      refine exl_nilT ?_;
      refine ex_cond rfl (fun h => ?_) (fun h => ?_) <;> ((first | (subst h; rename BV _ true => h0; have h := h0.eq; clear h0) | (subst h; rename BV _ false => h0; have h := h0.eq; clear h0) | skip); (have hp := h; try simp only [decide_eq_true_eq, decide_eq_false_iff_not, Bool.not_eq_true', Bool.not_eq_false', bne_iff_ne, beq_iff_eq, beq_eq_false_iff_ne, bne_eq_false_iff_eq, Int.not_lt, Int.not_le] at hp); (try (exfalso; first | omega | (cases hp; done))));
      refine ex_skip ?_;
      refine ex_seq ?_;
      refine ex_region ?_;
      apply exl_is; rfl; rfl; rfl; (apply g_move; rfl);
      apply exl_is; rfl; rfl; rfl; (apply g_move; rfl);
      apply exl_is; rfl; rfl; rfl; (apply g_indexDl; rfl; rfl; rfl; (rfl); (assumption));
      apply exl_is; rfl; rfl; rfl; (apply g_fieldAddr; rfl; rfl; rfl);
      apply exl_is; rfl; rfl; rfl; (apply g_load1; rfl; rfl; (exact .e rfl));
      apply exl_is; rfl; rfl; rfl; (apply g_assign; rfl);
      apply exl_is; rfl; rfl; rfl; (apply g_assign; rfl);
      refine exl_nilT ?_;
      refine ex_ret ?_;
      simp only [thenA, blockA, roundA, noGotoA, retA, ↓reduceIte, Nat.reduceEqDiff];
      rotate_left
      (all_goals (repeat (rename BV _ _ => hbv; cases hbv)))
      all_goals (try (exfalso; first | (rename true = false => hx; cases hx; done) | (rename false = true => hx; cases hx; done)))
      refine ret_is .nil (.cons (.ofTmp rfl) (.cons (.ofTmp rfl) .nil)) (by repeat (first | exact List.Sublist.refl _ | apply List.Sublist.cons_cons | apply List.Sublist.cons)) ?_
      rfl
theorem right_kn {l : List Fc} (h : checkF l = 0) : ∀ x ∈ l, 0 ≤ x.kn := fun x hx => by
  have := (okF_iff.1 (check_zero.1 h).2).1 x hx
  have := rightF_iff.1 this.2
  omega
set_option maxHeartbeats 2000000 in
set_option maxRecDepth 10000 in
theorem rAt_c (l : List Fc) (key hour known : Int) (σ : List Ent) : SCall Try.prog 14 [fcs l, .int .i64 key, .int .i64 hour, .int .i64 known] σ (Is (.tup [.int .i64 (atF l key hour known).1, .bool (atF l key hour known).2.1, .int .i64 (atF l key hour known).2.2]) σ) := by
  refine scall_of Try.func14 rfl (by simp) ?_
  have c0 := rCheck_c l
  unfold atF
  by_cases h : checkF l = 0
  · have hl := (check_zero.1 h).1
    have c3 := rSaid_c l key hour known (by omega) (right_kn h)
    rw [h] at c0
    rw [if_neg (by rw [h]; simp)]
    have c1 := right_c key [hour, known]
    generalize rightK key [hour, known] = p1 at c1 ⊢
    generalize sayL l key hour known = s at c3 ⊢
    obtain ⟨s2, s3⟩ := s
    cases p1
    all_goals
      refine ex_seq ?_;
      refine ex_region ?_;
      apply exl_is; rfl; rfl; rfl; (apply g_assign; rfl);
      apply exl_is; rfl; rfl; rfl; (apply g_assign; rfl);
      apply exl_is; rfl; rfl; rfl; (apply g_assign; rfl);
      refine exl_nilT ?_;
      refine ex_seq ?_;
      refine ex_region ?_;
      apply exl_is; rfl; rfl; rfl; (apply g_move; rfl);
      apply exl_is; rfl; rfl; rfl; (exact g_call rfl rfl (enters_b (by kernel_rfl)) (c0 _));
      apply exl_is; rfl; rfl; rfl; (apply g_assign; rfl);
      refine exl_nilT ?_;
      refine ex_seq ?_;
      refine ex_seq ?_;
      refine ex_region ?_;
      apply exl_is; rfl; rfl; rfl; (apply g_move; rfl);
      apply exl_isB; rfl; rfl; rfl; (apply g_binInt; rfl; rfl; rfl); intro _ _;
      refine exl_nilT ?_;
      refine ex_cond rfl (fun h => ?_) (fun h => ?_) <;> ((first | (subst h; rename BV _ true => h0; have h := h0.eq; clear h0) | (subst h; rename BV _ false => h0; have h := h0.eq; clear h0) | skip); (have hp := h; try simp only [decide_eq_true_eq, decide_eq_false_iff_not, Bool.not_eq_true', Bool.not_eq_false', bne_iff_ne, beq_iff_eq, beq_eq_false_iff_ne, bne_eq_false_iff_eq, Int.not_lt, Int.not_le] at hp); (try (exfalso; first | omega | (cases hp; done))));
      refine ex_skip ?_;
      refine ex_seq ?_;
      refine ex_seq ?_;
      refine ex_region ?_;
      apply exl_is; rfl; rfl; rfl; (apply g_move; rfl);
      apply exl_is; rfl; rfl; rfl; (apply g_move; rfl);
      apply exl_is; rfl; rfl; rfl; (apply g_move; rfl);
      apply exl_is; rfl; rfl; rfl; (exact gop_sealed (g_buildSlice rfl rfl (by decide) rfl rfl (by (simp only [chunkN, List.take_succ_cons, List.take_zero, List.drop_succ_cons, List.drop_zero]; rfl))));
      apply exl_isB; rfl; rfl; rfl; (exact g_call rfl rfl (enters_b (by kernel_rfl)) (c1 _)); intro _ _;
      apply exl_isB; rfl; rfl; rfl; (apply g_not; rfl); intro _ _;
      refine exl_nilT ?_;
      refine ex_cond rfl (fun h => ?_) (fun h => ?_) <;> ((first | (subst h; rename BV _ true => h0; have h := h0.eq; clear h0) | (subst h; rename BV _ false => h0; have h := h0.eq; clear h0) | skip); (have hp := h; try simp only [decide_eq_true_eq, decide_eq_false_iff_not, Bool.not_eq_true', Bool.not_eq_false', bne_iff_ne, beq_iff_eq, beq_eq_false_iff_ne, bne_eq_false_iff_eq, Int.not_lt, Int.not_le] at hp); (try (exfalso; first | omega | (cases hp; done))));
      refine ex_seq ?_;
      refine ex_region ?_;
      apply exl_is; rfl; rfl; rfl; (apply g_assign; rfl);
      apply exl_is; rfl; rfl; rfl; (apply g_assign; rfl);
      apply exl_is; rfl; rfl; rfl; (apply g_assign; rfl);
      refine exl_nilT ?_;
      refine ex_ret ?_;
      simp only [thenA, blockA, roundA, noGotoA, retA, ↓reduceIte, Nat.reduceEqDiff];
      rotate_left;
      refine ex_skip ?_;
      refine ex_seq ?_;
      refine ex_region ?_;
      apply exl_is; rfl; rfl; rfl; (apply g_move; rfl);
      apply exl_is; rfl; rfl; rfl; (apply g_move; rfl);
      apply exl_is; rfl; rfl; rfl; (apply g_move; rfl);
      apply exl_is; rfl; rfl; rfl; (apply g_move; rfl);
      apply exl_is; rfl; rfl; rfl; (exact g_call rfl rfl (enters_b (by kernel_rfl)) (c3 _));
      apply exl_is; rfl; rfl; rfl; (apply g_move; rfl);
      apply exl_is; rfl; rfl; rfl; (apply g_extract; rfl; rfl);
      apply exl_is; rfl; rfl; rfl; (apply g_extract; rfl; rfl);
      apply exl_is; rfl; rfl; rfl; (apply g_assign; rfl);
      apply exl_is; rfl; rfl; rfl; (apply g_assign; rfl);
      refine exl_nilT ?_;
      refine ex_seq ?_;
      refine ex_region ?_;
      apply exl_is; rfl; rfl; rfl; (apply g_move; rfl);
      apply exl_is; rfl; rfl; rfl; (apply g_move; rfl);
      apply exl_is; rfl; rfl; rfl; (apply g_assign; rfl);
      apply exl_is; rfl; rfl; rfl; (apply g_assign; rfl);
      apply exl_is; rfl; rfl; rfl; (apply g_assign; rfl);
      refine exl_nilT ?_;
      refine ex_ret ?_;
      simp only [thenA, blockA, roundA, noGotoA, retA, ↓reduceIte, Nat.reduceEqDiff];
      rotate_left
      (all_goals (repeat (rename BV _ _ => hbv; cases hbv)))
      all_goals (try (exfalso; first | (rename true = false => hx; cases hx; done) | (rename false = true => hx; cases hx; done)))
      refine ret_is .nil (.cons (.ofTmp rfl) (.cons (.ofTmp rfl) (.cons (.ofTmp rfl) .nil))) (by repeat (first | exact List.Sublist.refl _ | apply List.Sublist.cons_cons | apply List.Sublist.cons)) ?_
      rfl
  · rw [if_pos h]
    refine ex_seq ?_;
    refine ex_region ?_;
    apply exl_is; rfl; rfl; rfl; (apply g_assign; rfl);
    apply exl_is; rfl; rfl; rfl; (apply g_assign; rfl);
    apply exl_is; rfl; rfl; rfl; (apply g_assign; rfl);
    refine exl_nilT ?_;
    refine ex_seq ?_;
    refine ex_region ?_;
    apply exl_is; rfl; rfl; rfl; (apply g_move; rfl);
    apply exl_is; rfl; rfl; rfl; (exact g_call rfl rfl (enters_b (by kernel_rfl)) (c0 _));
    apply exl_is; rfl; rfl; rfl; (apply g_assign; rfl);
    refine exl_nilT ?_;
    refine ex_seq ?_;
    refine ex_seq ?_;
    refine ex_region ?_;
    apply exl_is; rfl; rfl; rfl; (apply g_move; rfl);
    apply exl_isB; rfl; rfl; rfl; (apply g_binInt; rfl; rfl; rfl); intro _ _;
    refine exl_nilT ?_;
    refine ex_cond rfl (fun h => ?_) (fun h => ?_) <;> ((first | (subst h; rename BV _ true => h0; have h := h0.eq; clear h0) | (subst h; rename BV _ false => h0; have h := h0.eq; clear h0) | skip); (have hp := h; try simp only [decide_eq_true_eq, decide_eq_false_iff_not, Bool.not_eq_true', Bool.not_eq_false', bne_iff_ne, beq_iff_eq, beq_eq_false_iff_ne, bne_eq_false_iff_eq, Int.not_lt, Int.not_le] at hp); (try (exfalso; first | omega | (cases hp; done))));
    refine ex_seq ?_;
    refine ex_region ?_;
    apply exl_is; rfl; rfl; rfl; (apply g_move; rfl);
    apply exl_is; rfl; rfl; rfl; (apply g_assign; rfl);
    apply exl_is; rfl; rfl; rfl; (apply g_assign; rfl);
    apply exl_is; rfl; rfl; rfl; (apply g_assign; rfl);
    refine exl_nilT ?_;
    refine ex_ret ?_;
    simp only [thenA, blockA, roundA, noGotoA, retA, ↓reduceIte, Nat.reduceEqDiff];
    rotate_left
    (all_goals (repeat (rename BV _ _ => hbv; cases hbv)))
    all_goals (try (exfalso; first | (rename true = false => hx; cases hx; done) | (rename false = true => hx; cases hx; done)))
    refine ret_is .nil (.cons (.ofTmp rfl) (.cons (.ofTmp rfl) (.cons (.ofTmp rfl) .nil))) (by repeat (first | exact List.Sublist.refl _ | apply List.Sublist.cons_cons | apply List.Sublist.cons)) ?_
    rfl
theorem ask_four (l : List Fc) (key a b : Int) (r : Rg) : askF l key [a, b] r = if checkF l ≠ 0 then checkF l else if rightK key [a, b, r.lo, r.hi] && decide (r.lo ≤ r.hi) then 0 else 1 := by
  unfold askF
  have e : (rightK key [a, b] && inR r.lo 0 4096 && inR r.hi 0 4096 && decide (r.lo ≤ r.hi)) = (rightK key [a, b, r.lo, r.hi] && decide (r.lo ≤ r.hi)) := by
    unfold rightK; simp [Bool.and_assoc]
  rw [e]
theorem ask_two (l : List Fc) (key a : Int) (r : Rg) : askF l key [a, a] r = askF l key [a] r := by
  unfold askF
  have e : rightK key [a, a] = rightK key [a] := by unfold rightK; simp
  rw [e]
set_option maxHeartbeats 2000000 in
set_option maxRecDepth 10000 in
theorem rAsked_c (l : List Fc) (key a b : Int) (r : Rg) (σ : List Ent) : SCall Try.prog 40 [fcs l, .int .i64 key, .int .i64 a, .int .i64 b, .agg (rgC r)] σ (Is (.int .i64 (askF l key [a, b] r)) σ) := by
  refine scall_of Try.func40 rfl (by simp) ?_
  have c0 := rCheck_c l
  rw [ask_four]
  by_cases h : checkF l = 0
  · rw [h] at c0
    rw [if_neg (by rw [h]; simp)]
    have c1 := right_c key [a, b, r.lo, r.hi]
    generalize rightK key [a, b, r.lo, r.hi] = p1 at c1 ⊢
    by_cases hle : r.lo ≤ r.hi
    · rw [decide_eq_true hle]
      cases p1
      all_goals
        refine ex_seq ?_;
        refine ex_region ?_;
        refine exl_box rfl rfl rfl (g_box rfl rfl) ?_; intro _;
        apply exl_is; rfl; rfl; rfl; (apply g_assign; rfl);
        refine exl_nilT ?_;
        refine ex_seq ?_;
        refine ex_region ?_;
        apply exl_is; rfl; rfl; rfl; (apply g_move; rfl);
        apply exl_is; rfl; rfl; rfl; (exact g_call rfl rfl (enters_b (by kernel_rfl)) (c0 _));
        apply exl_is; rfl; rfl; rfl; (apply g_assign; rfl);
        refine exl_nilT ?_;
        refine ex_seq ?_;
        refine ex_seq ?_;
        refine ex_region ?_;
        apply exl_is; rfl; rfl; rfl; (apply g_move; rfl);
        apply exl_isB; rfl; rfl; rfl; (apply g_binInt; rfl; rfl; rfl); intro _ _;
        refine exl_nilT ?_;
        refine ex_cond rfl (fun h => ?_) (fun h => ?_) <;> ((first | (subst h; rename BV _ true => h0; have h := h0.eq; clear h0) | (subst h; rename BV _ false => h0; have h := h0.eq; clear h0) | skip); (have hp := h; try simp only [decide_eq_true_eq, decide_eq_false_iff_not, Bool.not_eq_true', Bool.not_eq_false', bne_iff_ne, beq_iff_eq, beq_eq_false_iff_ne, bne_eq_false_iff_eq, Int.not_lt, Int.not_le] at hp); (try (exfalso; first | omega | (cases hp; done))));
        refine ex_skip ?_;
        refine ex_seq ?_;
        refine ex_seq ?_;
        refine ex_region ?_;
        apply exl_is; rfl; rfl; rfl; (apply g_move; rfl);
        apply exl_is; rfl; rfl; rfl; (apply g_move; rfl);
        apply exl_is; rfl; rfl; rfl; (apply g_move; rfl);
        apply exl_is; rfl; rfl; rfl; (apply g_fieldAddr; rfl; rfl; rfl);
        apply exl_is; rfl; rfl; rfl; (apply g_load1; rfl; rfl; (exact .p (by ((repeat (first | exact List.Mem.head _ | assumption | refine List.Mem.tail _ ?_)); done)) rfl));
        apply exl_is; rfl; rfl; rfl; (apply g_fieldAddr; rfl; rfl; rfl);
        apply exl_is; rfl; rfl; rfl; (apply g_load1; rfl; rfl; (exact .p (by ((repeat (first | exact List.Mem.head _ | assumption | refine List.Mem.tail _ ?_)); done)) rfl));
        apply exl_is; rfl; rfl; rfl; (exact gop_sealed (g_buildSlice rfl rfl (by decide) rfl rfl (by (simp only [chunkN, List.take_succ_cons, List.take_zero, List.drop_succ_cons, List.drop_zero]; rfl))));
        apply exl_isB; rfl; rfl; rfl; (exact g_call rfl rfl (enters_b (by kernel_rfl)) (c1 _)); intro _ _;
        apply exl_isB; rfl; rfl; rfl; (apply g_not; rfl); intro _ _;
        apply exl_is; rfl; rfl; rfl; (apply g_move; rfl);
        refine exl_caseL rfl (fun h => ?_) (fun h => ?_) <;> ((first | (subst h; rename BV _ true => h0; have h := h0.eq; clear h0) | (subst h; rename BV _ false => h0; have h := h0.eq; clear h0) | skip); (have hp := h; try simp only [decide_eq_true_eq, decide_eq_false_iff_not, Bool.not_eq_true', Bool.not_eq_false', bne_iff_ne, beq_iff_eq, beq_eq_false_iff_ne, bne_eq_false_iff_eq, Int.not_lt, Int.not_le] at hp); (try (exfalso; first | omega | (cases hp; done))));
        refine exl_skipL rfl (by rfl) rfl rfl ?_;
        refine exl_skipL rfl (by rfl) rfl rfl ?_;
        refine exl_skipL rfl (by rfl) rfl rfl ?_;
        refine exl_skipL rfl (by rfl) rfl rfl ?_;
        refine exl_skipL rfl (by rfl) rfl rfl ?_;
        apply exl_is; rfl; rfl; rfl; (apply g_pick_t; rfl; (rfl); rfl);
        refine exl_nilT ?_;
        refine ex_cond_t rfl (by rfl) ?_;
        refine ex_seq ?_;
        refine ex_region ?_;
        apply exl_is; rfl; rfl; rfl; (apply g_assign; rfl);
        refine exl_nilT ?_;
        refine ex_ret ?_;
        simp only [thenA, blockA, roundA, noGotoA, retA, ↓reduceIte, Nat.reduceEqDiff];
        rotate_left;
        apply exl_isW; rfl; (rfl); rfl; rfl; (apply g_fieldAddr; rfl; rfl; rfl);
        apply exl_isW; rfl; (rfl); rfl; rfl; (apply g_load1; rfl; rfl; (exact .p (by ((repeat (first | exact List.Mem.head _ | assumption | refine List.Mem.tail _ ?_)); done)) rfl));
        apply exl_isW; rfl; (rfl); rfl; rfl; (apply g_fieldAddr; rfl; rfl; rfl);
        apply exl_isW; rfl; (rfl); rfl; rfl; (apply g_load1; rfl; rfl; (exact .p (by ((repeat (first | exact List.Mem.head _ | assumption | refine List.Mem.tail _ ?_)); done)) rfl));
        apply exl_isBW; rfl; (rfl); rfl; rfl; (apply g_binInt; rfl; rfl; rfl); intro _ _;
        apply exl_is; rfl; rfl; rfl; (apply g_pick_f; rfl; (rfl); rfl);
        refine exl_nilT ?_;
        refine ex_cond rfl (fun h => ?_) (fun h => ?_) <;> ((first | (subst h; rename BV _ true => h0; have h := h0.eq; clear h0) | (subst h; rename BV _ false => h0; have h := h0.eq; clear h0) | skip); (have hp := h; try simp only [decide_eq_true_eq, decide_eq_false_iff_not, Bool.not_eq_true', Bool.not_eq_false', bne_iff_ne, beq_iff_eq, beq_eq_false_iff_ne, bne_eq_false_iff_eq, Int.not_lt, Int.not_le] at hp); (try (exfalso; first | omega | (cases hp; done))));
        refine ex_skip ?_;
        refine ex_seq ?_;
        refine ex_region ?_;
        apply exl_is; rfl; rfl; rfl; (apply g_assign; rfl);
        refine exl_nilT ?_;
        refine ex_ret ?_;
        simp only [thenA, blockA, roundA, noGotoA, retA, ↓reduceIte, Nat.reduceEqDiff];
        rotate_left
        (all_goals (repeat (rename BV _ _ => hbv; cases hbv)))
        all_goals (try (exfalso; first | (rename true = false => hx; cases hx; done) | (rename false = true => hx; cases hx; done)))
        refine ret_is .nil (.cons (.ofTmp rfl) .nil) (by repeat (first | exact List.Sublist.refl _ | apply List.Sublist.cons_cons | apply List.Sublist.cons)) ?_
        rfl
    · rw [decide_eq_false hle]
      cases p1
      all_goals
        refine ex_seq ?_;
        refine ex_region ?_;
        refine exl_box rfl rfl rfl (g_box rfl rfl) ?_; intro _;
        apply exl_is; rfl; rfl; rfl; (apply g_assign; rfl);
        refine exl_nilT ?_;
        refine ex_seq ?_;
        refine ex_region ?_;
        apply exl_is; rfl; rfl; rfl; (apply g_move; rfl);
        apply exl_is; rfl; rfl; rfl; (exact g_call rfl rfl (enters_b (by kernel_rfl)) (c0 _));
        apply exl_is; rfl; rfl; rfl; (apply g_assign; rfl);
        refine exl_nilT ?_;
        refine ex_seq ?_;
        refine ex_seq ?_;
        refine ex_region ?_;
        apply exl_is; rfl; rfl; rfl; (apply g_move; rfl);
        apply exl_isB; rfl; rfl; rfl; (apply g_binInt; rfl; rfl; rfl); intro _ _;
        refine exl_nilT ?_;
        refine ex_cond rfl (fun h => ?_) (fun h => ?_) <;> ((first | (subst h; rename BV _ true => h0; have h := h0.eq; clear h0) | (subst h; rename BV _ false => h0; have h := h0.eq; clear h0) | skip); (have hp := h; try simp only [decide_eq_true_eq, decide_eq_false_iff_not, Bool.not_eq_true', Bool.not_eq_false', bne_iff_ne, beq_iff_eq, beq_eq_false_iff_ne, bne_eq_false_iff_eq, Int.not_lt, Int.not_le] at hp); (try (exfalso; first | omega | (cases hp; done))));
        refine ex_skip ?_;
        refine ex_seq ?_;
        refine ex_seq ?_;
        refine ex_region ?_;
        apply exl_is; rfl; rfl; rfl; (apply g_move; rfl);
        apply exl_is; rfl; rfl; rfl; (apply g_move; rfl);
        apply exl_is; rfl; rfl; rfl; (apply g_move; rfl);
        apply exl_is; rfl; rfl; rfl; (apply g_fieldAddr; rfl; rfl; rfl);
        apply exl_is; rfl; rfl; rfl; (apply g_load1; rfl; rfl; (exact .p (by ((repeat (first | exact List.Mem.head _ | assumption | refine List.Mem.tail _ ?_)); done)) rfl));
        apply exl_is; rfl; rfl; rfl; (apply g_fieldAddr; rfl; rfl; rfl);
        apply exl_is; rfl; rfl; rfl; (apply g_load1; rfl; rfl; (exact .p (by ((repeat (first | exact List.Mem.head _ | assumption | refine List.Mem.tail _ ?_)); done)) rfl));
        apply exl_is; rfl; rfl; rfl; (exact gop_sealed (g_buildSlice rfl rfl (by decide) rfl rfl (by (simp only [chunkN, List.take_succ_cons, List.take_zero, List.drop_succ_cons, List.drop_zero]; rfl))));
        apply exl_isB; rfl; rfl; rfl; (exact g_call rfl rfl (enters_b (by kernel_rfl)) (c1 _)); intro _ _;
        apply exl_isB; rfl; rfl; rfl; (apply g_not; rfl); intro _ _;
        apply exl_is; rfl; rfl; rfl; (apply g_move; rfl);
        refine exl_caseL rfl (fun h => ?_) (fun h => ?_) <;> ((first | (subst h; rename BV _ true => h0; have h := h0.eq; clear h0) | (subst h; rename BV _ false => h0; have h := h0.eq; clear h0) | skip); (have hp := h; try simp only [decide_eq_true_eq, decide_eq_false_iff_not, Bool.not_eq_true', Bool.not_eq_false', bne_iff_ne, beq_iff_eq, beq_eq_false_iff_ne, bne_eq_false_iff_eq, Int.not_lt, Int.not_le] at hp); (try (exfalso; first | omega | (cases hp; done))));
        refine exl_skipL rfl (by rfl) rfl rfl ?_;
        refine exl_skipL rfl (by rfl) rfl rfl ?_;
        refine exl_skipL rfl (by rfl) rfl rfl ?_;
        refine exl_skipL rfl (by rfl) rfl rfl ?_;
        refine exl_skipL rfl (by rfl) rfl rfl ?_;
        apply exl_is; rfl; rfl; rfl; (apply g_pick_t; rfl; (rfl); rfl);
        refine exl_nilT ?_;
        refine ex_cond_t rfl (by rfl) ?_;
        refine ex_seq ?_;
        refine ex_region ?_;
        apply exl_is; rfl; rfl; rfl; (apply g_assign; rfl);
        refine exl_nilT ?_;
        refine ex_ret ?_;
        simp only [thenA, blockA, roundA, noGotoA, retA, ↓reduceIte, Nat.reduceEqDiff];
        rotate_left;
        apply exl_isW; rfl; (rfl); rfl; rfl; (apply g_fieldAddr; rfl; rfl; rfl);
        apply exl_isW; rfl; (rfl); rfl; rfl; (apply g_load1; rfl; rfl; (exact .p (by ((repeat (first | exact List.Mem.head _ | assumption | refine List.Mem.tail _ ?_)); done)) rfl));
        apply exl_isW; rfl; (rfl); rfl; rfl; (apply g_fieldAddr; rfl; rfl; rfl);
        apply exl_isW; rfl; (rfl); rfl; rfl; (apply g_load1; rfl; rfl; (exact .p (by ((repeat (first | exact List.Mem.head _ | assumption | refine List.Mem.tail _ ?_)); done)) rfl));
        apply exl_isBW; rfl; (rfl); rfl; rfl; (apply g_binInt; rfl; rfl; rfl); intro _ _;
        apply exl_is; rfl; rfl; rfl; (apply g_pick_f; rfl; (rfl); rfl);
        refine exl_nilT ?_;
        refine ex_cond rfl (fun h => ?_) (fun h => ?_) <;> ((first | (subst h; rename BV _ true => h0; have h := h0.eq; clear h0) | (subst h; rename BV _ false => h0; have h := h0.eq; clear h0) | skip); (have hp := h; try simp only [decide_eq_true_eq, decide_eq_false_iff_not, Bool.not_eq_true', Bool.not_eq_false', bne_iff_ne, beq_iff_eq, beq_eq_false_iff_ne, bne_eq_false_iff_eq, Int.not_lt, Int.not_le] at hp); (try (exfalso; first | omega | (cases hp; done))));
        refine ex_seq ?_;
        refine ex_region ?_;
        apply exl_is; rfl; rfl; rfl; (apply g_assign; rfl);
        refine exl_nilT ?_;
        refine ex_ret ?_;
        simp only [thenA, blockA, roundA, noGotoA, retA, ↓reduceIte, Nat.reduceEqDiff];
        rotate_left
        (all_goals (repeat (rename BV _ _ => hbv; cases hbv)))
        all_goals (try (exfalso; first | (rename true = false => hx; cases hx; done) | (rename false = true => hx; cases hx; done)))
        refine ret_is .nil (.cons (.ofTmp rfl) .nil) (by repeat (first | exact List.Sublist.refl _ | apply List.Sublist.cons_cons | apply List.Sublist.cons)) ?_
        rfl
  · rw [if_pos h]
    refine ex_seq ?_;
    refine ex_region ?_;
    refine exl_box rfl rfl rfl (g_box rfl rfl) ?_; intro _;
    apply exl_is; rfl; rfl; rfl; (apply g_assign; rfl);
    refine exl_nilT ?_;
    refine ex_seq ?_;
    refine ex_region ?_;
    apply exl_is; rfl; rfl; rfl; (apply g_move; rfl);
    apply exl_is; rfl; rfl; rfl; (exact g_call rfl rfl (enters_b (by kernel_rfl)) (c0 _));
    apply exl_is; rfl; rfl; rfl; (apply g_assign; rfl);
    refine exl_nilT ?_;
    refine ex_seq ?_;
    refine ex_seq ?_;
    refine ex_region ?_;
    apply exl_is; rfl; rfl; rfl; (apply g_move; rfl);
    apply exl_isB; rfl; rfl; rfl; (apply g_binInt; rfl; rfl; rfl); intro _ _;
    refine exl_nilT ?_;
    refine ex_cond rfl (fun h => ?_) (fun h => ?_) <;> ((first | (subst h; rename BV _ true => h0; have h := h0.eq; clear h0) | (subst h; rename BV _ false => h0; have h := h0.eq; clear h0) | skip); (have hp := h; try simp only [decide_eq_true_eq, decide_eq_false_iff_not, Bool.not_eq_true', Bool.not_eq_false', bne_iff_ne, beq_iff_eq, beq_eq_false_iff_ne, bne_eq_false_iff_eq, Int.not_lt, Int.not_le] at hp); (try (exfalso; first | omega | (cases hp; done))));
    refine ex_seq ?_;
    refine ex_region ?_;
    apply exl_is; rfl; rfl; rfl; (apply g_move; rfl);
    apply exl_is; rfl; rfl; rfl; (apply g_assign; rfl);
    refine exl_nilT ?_;
    refine ex_ret ?_;
    simp only [thenA, blockA, roundA, noGotoA, retA, ↓reduceIte, Nat.reduceEqDiff];
    rotate_left
    (all_goals (repeat (rename BV _ _ => hbv; cases hbv)))
    all_goals (try (exfalso; first | (rename true = false => hx; cases hx; done) | (rename false = true => hx; cases hx; done)))
    refine ret_is .nil (.cons (.ofTmp rfl) .nil) (by repeat (first | exact List.Sublist.refl _ | apply List.Sublist.cons_cons | apply List.Sublist.cons)) ?_
    rfl
def fewB (l : List Fc) : Bool := decide ((l.length : Int) ≤ 60) || (decide ((512 : Int) < l.length) && decide ((l.length : Int) ≤ 600))
set_option maxRecDepth 10000 in
theorem few_c (l : List Fc) (σ : List Ent) : SCall Try.prog 10 [fcs l] σ (Is (.bool (fewB l)) σ) := by
  refine scall_of Try.func10 rfl (by simp) ?_
  refine ex_seq ?_;
  refine ex_region ?_;
  apply exl_is; rfl; rfl; rfl; (apply g_assign; rfl);
  refine exl_nilT ?_;
  refine ex_seq ?_;
  refine ex_region ?_;
  apply exl_is; rfl; rfl; rfl; (apply g_move; rfl);
  apply exl_is; rfl; rfl; rfl; (apply g_len; rfl; rfl; (exact (List.length_map _).symm));
  apply exl_isB; rfl; rfl; rfl; (apply g_binInt; rfl; rfl; rfl); intro _ _;
  apply exl_is; rfl; rfl; rfl; (apply g_move; rfl);
  refine exl_caseL rfl (fun h => ?_) (fun h => ?_) <;> ((first | (subst h; rename BV _ true => h0; have h := h0.eq; clear h0) | (subst h; rename BV _ false => h0; have h := h0.eq; clear h0) | skip); (have hp := h; try simp only [decide_eq_true_eq, decide_eq_false_iff_not, Bool.not_eq_true', Bool.not_eq_false', bne_iff_ne, beq_iff_eq, beq_eq_false_iff_ne, bne_eq_false_iff_eq, Int.not_lt, Int.not_le] at hp); (try (exfalso; first | omega | (cases hp; done))));
  refine exl_skipL rfl (by rfl) rfl rfl ?_;
  refine exl_skipL rfl (by rfl) rfl rfl ?_;
  refine exl_skipL rfl (by rfl) rfl rfl ?_;
  refine exl_skipL rfl (by rfl) rfl rfl ?_;
  refine exl_skipR rfl rfl rfl ?_;
  refine exl_skipR rfl rfl rfl ?_;
  refine exl_skipR rfl rfl rfl ?_;
  refine exl_skipL rfl (by rfl) rfl rfl ?_;
  apply exl_is; rfl; rfl; rfl; (apply g_pick_t; rfl; (rfl); rfl);
  apply exl_is; rfl; rfl; rfl; (apply g_assign; rfl);
  refine exl_nilT ?_;
  refine ex_ret ?_;
  simp only [thenA, blockA, roundA, noGotoA, retA, ↓reduceIte, Nat.reduceEqDiff];
  rotate_left;
  apply exl_isW; rfl; (rfl); rfl; rfl; (apply g_move; rfl);
  apply exl_isW; rfl; (rfl); rfl; rfl; (apply g_len; rfl; rfl; (exact (List.length_map _).symm));
  apply exl_isBW; rfl; (rfl); rfl; rfl; (apply g_binInt; rfl; rfl; rfl); intro _ _;
  apply exl_isW; rfl; (rfl); rfl; rfl; (apply g_move; rfl);
  refine exl_caseL rfl (fun h => ?_) (fun h => ?_) <;> ((first | (subst h; rename BV _ true => h0; have h := h0.eq; clear h0) | (subst h; rename BV _ false => h0; have h := h0.eq; clear h0) | skip); (have hp := h; try simp only [decide_eq_true_eq, decide_eq_false_iff_not, Bool.not_eq_true', Bool.not_eq_false', bne_iff_ne, beq_iff_eq, beq_eq_false_iff_ne, bne_eq_false_iff_eq, Int.not_lt, Int.not_le] at hp); (try (exfalso; first | omega | (cases hp; done))));
  apply exl_isW; rfl; (rfl); rfl; rfl; (apply g_move; rfl);
  apply exl_isW; rfl; (rfl); rfl; rfl; (apply g_len; rfl; rfl; (exact (List.length_map _).symm));
  apply exl_isBW; rfl; (rfl); rfl; rfl; (apply g_binInt; rfl; rfl; rfl); intro _ _;
  apply exl_isW; rfl; (rfl); rfl; rfl; (apply g_pick_t; rfl; (rfl); rfl);
  apply exl_is; rfl; rfl; rfl; (apply g_pick_f; rfl; (rfl); rfl);
  apply exl_is; rfl; rfl; rfl; (apply g_assign; rfl);
  refine exl_nilT ?_;
  refine ex_ret ?_;
  simp only [thenA, blockA, roundA, noGotoA, retA, ↓reduceIte, Nat.reduceEqDiff];
  rotate_left;
  refine exl_skipL rfl (by rfl) rfl rfl ?_;
  refine exl_skipL rfl (by rfl) rfl rfl ?_;
  refine exl_skipL rfl (by rfl) rfl rfl ?_;
  apply exl_isW; rfl; (rfl); rfl; rfl; (apply g_pick_f; rfl; (rfl); rfl);
  apply exl_is; rfl; rfl; rfl; (apply g_pick_f; rfl; (rfl); rfl);
  apply exl_is; rfl; rfl; rfl; (apply g_assign; rfl);
  refine exl_nilT ?_;
  refine ex_ret ?_;
  simp only [thenA, blockA, roundA, noGotoA, retA, ↓reduceIte, Nat.reduceEqDiff];
  rotate_left
  (all_goals (repeat (rename BV _ _ => hbv; cases hbv)))
  all_goals (try (exfalso; first | (rename true = false => hx; cases hx; done) | (rename false = true => hx; cases hx; done)))
  all_goals
    refine ret_is .nil (.cons (.ofTmp rfl) .nil) (by repeat (first | exact List.Sublist.refl _ | apply List.Sublist.cons_cons | apply List.Sublist.cons)) (bool_eq ?_)
    simp [fewB, *]
end Go.Proofs.Ytobcnochlkdpaaa
