/- Hitting: Each. -/
import Derived.Test.YtcmdkccncfleoaaMk
namespace Go.Proofs.Ytcmdkccncfleoaa
set_option linter.unusedSimpArgs false
set_option linter.unusedVariables false
theorem miss_pos {F : List Nat} {s : Nat} : 0 < missN F s ↔ ¬ HitF F s := by
  have h := miss_zero F s
  rw [← hitB_iff]
  cases hb : hitB F s with
  | true => rw [hb, decide_eq_true_eq] at h; simp; omega
  | false => rw [hb, decide_eq_false_iff_not] at h; simp; omega
set_option maxHeartbeats 8000000 in
set_option maxRecDepth 10000 in
theorem hittingEach_c (x : Fam) (s : Int) (σ : List Ent) : SCall Try.prog 7 [.agg (famC x), .int .i64 s] σ (Is (.bool true) σ) := by
  refine scall_of Try.func7 rfl (by simp) ?_
  have c0 := few_c x.n x.sets
  have c1 := check_c x
  have c2 := hitting_c x
  generalize fewH x.n x.sets = f at c0
  by_cases h : checkH x = 0
  · rw [h] at c1 c2
    obtain ⟨N, F, rfl, hN, hl, hF⟩ := check_zero h
    rw [hitR_ok h] at c2
    have hp := pow12 hN
    have hlt := natI_len (trL F N)
    have hTl : (trL F N).length ≤ 4096 := by have := trL_len F N; omega
    have hF3 : ∀ t ∈ F, t < 4096 := fun t ht => by have := hF t ht; omega
    have c3 : ∀ (g b : Nat) (τ : List Ent), g < 4096 → Ent.cells b (famC ⟨N, natI F⟩) 24 ∈ τ → SCall Try.prog 28 ([] ++ [.int .i64 g] ++ [.ptr b 0]) τ (Is (.int .i64 (missN F g)) τ) := fun g b τ hg hm => missed_c F N g hF3 hl hg hm
    have hfam : (∀ m ∈ trL F N, m < 2 ^ N ∧ missN F m = 0 ∧ ∀ i, m.testBit i = true → 0 < missN F (wout m i)) ∧ ∀ g, missN F g = 0 → ∃ m ∈ trL F N, Sub m g := by
      refine ⟨fun m hm => ?_, fun g hg => ?_⟩
      · obtain ⟨h1, h2, h3⟩ := tr_hits hF hm
        refine ⟨h1, ?_, fun i hi => miss_pos.2 (h3 i hi)⟩
        have : ¬ 0 < missN F m := fun h => miss_pos.1 h h2
        omega
      · refine tr_below hF ?_
        apply Classical.byContradiction
        intro hn
        have := miss_pos.2 hn; omega
    obtain ⟨hT, hB⟩ := hfam
    clear hF hF3 hl h
    generalize trL F N = T at c2 hlt hTl hT hB
    refine ex_seq ?_;
    refine ex_region ?_;
    refine exl_box rfl rfl rfl (g_box rfl rfl) ?_; intro _;
    apply exl_is; rfl; rfl; rfl; (apply g_assign; rfl);
    refine exl_nilT ?_;
    refine ex_seq ?_;
    refine ex_seq ?_;
    refine ex_region ?_;
    apply exl_isB; rfl; rfl; rfl; (exact g_call rfl rfl (enters_b (by kernel_rfl)) (sane_c _)); intro _ _;
    apply exl_isB; rfl; rfl; rfl; (apply g_not; rfl); intro _ _;
    refine exl_nilT ?_;
    refine ex_cond rfl (fun h => ?_) (fun h => ?_) <;> ((first | (subst h; rename BV _ true => h0; have h := h0.eq; clear h0) | (subst h; rename BV _ false => h0; have h := h0.eq; clear h0) | skip); (have hp := h; try simp only [decide_eq_true_eq, decide_eq_false_iff_not, Bool.not_eq_true', Bool.not_eq_false', bne_iff_ne, beq_iff_eq, beq_eq_false_iff_ne, bne_eq_false_iff_eq, Int.not_lt, Int.not_le] at hp); (try (exfalso; first | omega | (cases hp; done))));
    refine ex_seq ?_;
    refine ex_region ?_;
    apply exl_is; rfl; rfl; rfl; (apply g_assign; rfl);
    refine exl_nilT ?_;
    refine ex_ret ?_;
    simp only [thenA, blockA, roundA, noGotoA, retA, ↓reduceIte, Nat.reduceEqDiff];
    rotate_left;
    refine ex_skip ?_;
    refine ex_seq ?_;
    refine ex_seq ?_;
    refine ex_region ?_;
    apply exl_is; rfl; rfl; rfl; (apply g_fieldAddr; rfl; rfl; rfl);
    apply exl_is; rfl; rfl; rfl; (apply g_load1; rfl; rfl; (exact .p (by ((repeat (first | exact List.Mem.head _ | assumption | refine List.Mem.tail _ ?_)); done)) rfl));
    apply exl_is; rfl; rfl; rfl; (apply g_fieldAddr; rfl; rfl; rfl);
    apply exl_is; rfl; rfl; rfl; (apply g_load1; rfl; rfl; (exact .p (by ((repeat (first | exact List.Mem.head _ | assumption | refine List.Mem.tail _ ?_)); done)) rfl));
    apply exl_isB; rfl; rfl; rfl; (exact g_call rfl rfl (enters_b (by kernel_rfl)) (c0 _)); intro _ _;
    apply exl_isB; rfl; rfl; rfl; (apply g_not; rfl); intro _ _;
    refine exl_nilT ?_;
    refine ex_cond rfl (fun h => ?_) (fun h => ?_) <;> ((first | (subst h; rename BV _ true => h0; have h := h0.eq; clear h0) | (subst h; rename BV _ false => h0; have h := h0.eq; clear h0) | skip); (have hp := h; try simp only [decide_eq_true_eq, decide_eq_false_iff_not, Bool.not_eq_true', Bool.not_eq_false', bne_iff_ne, beq_iff_eq, beq_eq_false_iff_ne, bne_eq_false_iff_eq, Int.not_lt, Int.not_le] at hp); (try (exfalso; first | omega | (cases hp; done))));
    refine ex_seq ?_;
    refine ex_region ?_;
    apply exl_is; rfl; rfl; rfl; (apply g_assign; rfl);
    refine exl_nilT ?_;
    refine ex_ret ?_;
    simp only [thenA, blockA, roundA, noGotoA, retA, ↓reduceIte, Nat.reduceEqDiff];
    rotate_left;
    refine ex_skip ?_;
    refine ex_seq ?_;
    refine ex_region ?_;
    apply exl_is; rfl; rfl; rfl; (apply g_loadAgg; rfl; decide; rfl; (exact .p (by ((repeat (first | exact List.Mem.head _ | assumption | refine List.Mem.tail _ ?_)); done)) rfl rfl));
    apply exl_is; rfl; rfl; rfl; (exact g_call rfl rfl (enters_b (by kernel_rfl)) (c2 _));
    apply exl_is; rfl; rfl; rfl; (apply g_move; rfl);
    apply exl_is; rfl; rfl; rfl; (apply g_extract; rfl; rfl);
    apply exl_is; rfl; rfl; rfl; (apply g_extract; rfl; rfl);
    apply exl_is; rfl; rfl; rfl; (apply g_assign; rfl);
    apply exl_is; rfl; rfl; rfl; (apply g_assign; rfl);
    refine exl_nilT ?_;
    refine ex_seq ?_;
    refine ex_seq ?_;
    refine ex_region ?_;
    apply exl_is; rfl; rfl; rfl; (apply g_move; rfl);
    apply exl_isB; rfl; rfl; rfl; (apply g_binInt; rfl; rfl; rfl); intro _ _;
    refine exl_nilT ?_;
    refine ex_cond rfl (fun h => ?_) (fun h => ?_) <;> ((first | (subst h; rename BV _ true => h0; have h := h0.eq; clear h0) | (subst h; rename BV _ false => h0; have h := h0.eq; clear h0) | skip); (have hp := h; try simp only [decide_eq_true_eq, decide_eq_false_iff_not, Bool.not_eq_true', Bool.not_eq_false', bne_iff_ne, beq_iff_eq, beq_eq_false_iff_ne, bne_eq_false_iff_eq, Int.not_lt, Int.not_le] at hp); (try (exfalso; first | omega | (cases hp; done))));
    refine ex_skip ?_;
    refine ex_seq ?_;
    refine ex_region ?_;
    apply exl_is; rfl; rfl; rfl; (apply g_makeFunc; rfl; rfl);
    apply exl_is; rfl; rfl; rfl; (apply g_assign; rfl);
    refine exl_nilT ?_;
    refine ex_seq ?_;
    refine ex_seq ?_;
    refine ex_region ?_;
    apply exl_is; rfl; rfl; rfl; (apply g_move; rfl);
    apply exl_is; rfl; rfl; rfl; (apply g_len; rfl; rfl; (exact (List.length_map _).symm));
    apply exl_is; rfl; rfl; rfl; (apply g_move; rfl);
    refine exl_nilT ?_;
    refine ex_block ?_;
    simp only [thenA, blockA, roundA, noGotoA, retA, ↓reduceIte, Nat.reduceEqDiff];
    rotate_left
    (all_goals (repeat (rename BV _ _ => hbv; cases hbv)))
    all_goals (try (exfalso; first | (rename true = false => hx; cases hx; done) | (rename false = true => hx; cases hx; done)))
    · refine ret_is .nil (.cons (.ofTmp rfl) .nil) (by repeat (first | exact List.Sublist.refl _ | apply List.Sublist.cons_cons | apply List.Sublist.cons)) (bool_eq ?_)
      rfl
    · rename Nat => b; revert b
      intro b
      clear c0 c1 c2
      refine ex_loop (fun (i : Nat) => (⟨[(1, .int .i64 s), (2, .ptr b 0), (5, ints (natI T)), (7, .fn (.func 28) [] [.ptr b 0]), (38, ints (natI T)), (39, .int .i64 (natI T).length), (40, .int .i64 i)], .cells b (famC ⟨N, natI F⟩) 24 :: σ, [], Try.f7.ntmps⟩ : St)) (fun i => i ≤ T.length) (fun i => T.length - i) 0 (Nat.zero_le _) (St.le_of (by repeat (first | exact trivial | refine ⟨rfl, ?_⟩)) (by repeat (first | exact List.Sublist.refl _ | apply List.Sublist.cons_cons | apply List.Sublist.cons))) ?_
      intro i hI
      by_cases hi : i < T.length
      · obtain ⟨m, hm⟩ : ∃ m, T[i]? = some m := ⟨_, List.getElem?_eq_getElem hi⟩
        have hg := natI_get hm
        have hi2 : i < (natI T).length := by omega
        obtain ⟨h1, h2, h3⟩ := hT m (List.mem_of_getElem? hm)
        have c4 := fun b τ => c3 m b τ (by omega)
        rw [h2] at c4
        clear hT hB
        refine ex_seq ?_;
        refine ex_region ?_;
        apply exl_isB; rfl; rfl; rfl; (apply g_binInt; rfl; rfl; rfl); intro _ _;
        refine exl_nilT ?_;
        refine ex_seq ?_;
        refine ex_cond rfl (fun h => ?_) (fun h => ?_) <;> ((first | (subst h; rename BV _ true => h0; have h := h0.eq; clear h0) | (subst h; rename BV _ false => h0; have h := h0.eq; clear h0) | skip); (have hp := h; try simp only [decide_eq_true_eq, decide_eq_false_iff_not, Bool.not_eq_true', Bool.not_eq_false', bne_iff_ne, beq_iff_eq, beq_eq_false_iff_ne, bne_eq_false_iff_eq, Int.not_lt, Int.not_le] at hp); (try (exfalso; first | omega | (cases hp; done))));
        refine ex_skip ?_;
        refine ex_seq ?_;
        refine ex_block ?_;
        refine ex_seq ?_;
        refine ex_region ?_;
        apply exl_is; rfl; rfl; rfl; (apply g_indexDl; rfl; rfl; rfl; (rfl); (exact get_map (by assumption)));
        apply exl_is; rfl; rfl; rfl; (apply g_load1; rfl; rfl; (exact .e rfl));
        apply exl_is; rfl; rfl; rfl; (apply g_assign; rfl);
        refine exl_nilT ?_;
        refine ex_seq ?_;
        refine ex_seq ?_;
        refine ex_region ?_;
        apply exl_is; rfl; rfl; rfl; (apply g_move; rfl);
        apply exl_isB; rfl; rfl; rfl; (apply g_binInt; rfl; rfl; rfl); intro _ _;
        apply exl_is; rfl; rfl; rfl; (apply g_move; rfl);
        refine exl_caseL rfl (fun h => ?_) (fun h => ?_) <;> ((first | (subst h; rename BV _ true => h0; have h := h0.eq; clear h0) | (subst h; rename BV _ false => h0; have h := h0.eq; clear h0) | skip); (have hp := h; try simp only [decide_eq_true_eq, decide_eq_false_iff_not, Bool.not_eq_true', Bool.not_eq_false', bne_iff_ne, beq_iff_eq, beq_eq_false_iff_ne, bne_eq_false_iff_eq, Int.not_lt, Int.not_le] at hp); (try (exfalso; first | omega | (cases hp; done))));
        apply exl_isW; rfl; (rfl); rfl; rfl; (apply g_move; rfl);
        apply exl_isW; rfl; (rfl); rfl; rfl; (apply g_fieldAddr; rfl; rfl; rfl);
        apply exl_isW; rfl; (rfl); rfl; rfl; (apply g_load1; rfl; rfl; (exact .p (by ((repeat (first | exact List.Mem.head _ | assumption | refine List.Mem.tail _ ?_)); done)) rfl));
        apply exl_isW; rfl; (rfl); rfl; rfl; (apply g_shl1; rfl; rfl; rfl; (rfl); omega);
        apply exl_isBW; rfl; (rfl); rfl; rfl; (apply g_binInt; rfl; rfl; rfl); intro _ _;
        apply exl_is; rfl; rfl; rfl; (apply g_pick_f; rfl; (rfl); rfl);
        apply exl_is; rfl; rfl; rfl; (apply g_move; rfl);
        refine exl_caseL rfl (fun h => ?_) (fun h => ?_) <;> ((first | (subst h; rename BV _ true => h0; have h := h0.eq; clear h0) | (subst h; rename BV _ false => h0; have h := h0.eq; clear h0) | skip); (have hp := h; try simp only [decide_eq_true_eq, decide_eq_false_iff_not, Bool.not_eq_true', Bool.not_eq_false', bne_iff_ne, beq_iff_eq, beq_eq_false_iff_ne, bne_eq_false_iff_eq, Int.not_lt, Int.not_le] at hp); (try (exfalso; first | omega | (cases hp; done))));
        apply exl_isW; rfl; (rfl); rfl; rfl; (apply g_move; rfl);
        apply exl_isW; rfl; (rfl); rfl; rfl; (apply g_move; rfl);
        apply exl_isW; rfl; (rfl); rfl; rfl; (exact g_call rfl rfl (enters_b (by kernel_rfl)) (c4 _ _ (by ((repeat (first | exact List.Mem.head _ | assumption | refine List.Mem.tail _ ?_)); done))));
        apply exl_isBW; rfl; (rfl); rfl; rfl; (apply g_binInt; rfl; rfl; rfl); intro _ _;
        apply exl_is; rfl; rfl; rfl; (apply g_pick_f; rfl; (rfl); rfl);
        refine exl_nilT ?_;
        refine ex_cond rfl (fun h => ?_) (fun h => ?_) <;> ((first | (subst h; rename BV _ true => h0; have h := h0.eq; clear h0) | (subst h; rename BV _ false => h0; have h := h0.eq; clear h0) | skip); (have hp := h; try simp only [decide_eq_true_eq, decide_eq_false_iff_not, Bool.not_eq_true', Bool.not_eq_false', bne_iff_ne, beq_iff_eq, beq_eq_false_iff_ne, bne_eq_false_iff_eq, Int.not_lt, Int.not_le] at hp); (try (exfalso; first | omega | (cases hp; done))));
        refine ex_skip ?_;
        refine ex_seq ?_;
        refine ex_region ?_;
        apply exl_is; rfl; rfl; rfl; (apply g_fieldAddr; rfl; rfl; rfl);
        apply exl_is; rfl; rfl; rfl; (apply g_load1; rfl; rfl; (exact .p (by ((repeat (first | exact List.Mem.head _ | assumption | refine List.Mem.tail _ ?_)); done)) rfl));
        apply exl_is; rfl; rfl; rfl; (apply g_move; rfl);
        refine exl_nilT ?_;
        refine ex_block ?_;
        simp only [thenA, blockA, roundA, noGotoA, retA, ↓reduceIte, Nat.reduceEqDiff];
        rotate_left
        (all_goals (repeat (rename BV _ _ => hbv; cases hbv)))
        all_goals (try (exfalso; first | (rename true = false => hx; cases hx; done) | (rename false = true => hx; cases hx; done)))
        clear c4
        refine ex_loop (fun (k : Nat) => (⟨[(1, .int .i64 s), (2, .ptr b 0), (5, ints (natI T)), (7, .fn (.func 28) [] [.ptr b 0]), (38, ints (natI T)), (39, .int .i64 (natI T).length), (40, .int .i64 i), (9, .int .i64 m), (60, .int .i64 N), (61, .int .i64 k)], .cells b (famC ⟨N, natI F⟩) 24 :: σ, [], Try.f7.ntmps⟩ : St)) (fun k => k ≤ N) (fun k => N - k) 0 (Nat.zero_le _) (St.le_of (by repeat (first | exact trivial | refine ⟨rfl, ?_⟩)) (by repeat (first | exact List.Sublist.refl _ | apply List.Sublist.cons_cons | apply List.Sublist.cons))) ?_
        intro k hI
        by_cases hk : k < N
        · have hr := shr_one m k
          obtain ⟨q, hq⟩ : ∃ q, m >>> k = q := ⟨_, rfl⟩
          have hqs : q ≤ m := by rw [← hq]; exact Nat.shiftRight_le _ _
          rw [hq] at hr
          have hpw := pow12 (N := k) (by omega)
          cases hb : m.testBit k with
          | true =>
            rw [hb] at hr
            have hr : q &&& 1 = 1 := hr
            have h4 := h3 k hb
            have hqa := andNot_pow hb
            have hws := (wout_sub hb).le
            obtain ⟨g, hg2⟩ : ∃ g, wout m k = g := ⟨_, rfl⟩
            rw [hg2] at h4 hqa hws
            have c4 := fun b τ => c3 g b τ (by omega)
            generalize missN F g = u at c4 h4
            clear c3 h3
            refine ex_seq ?_;
            refine ex_region ?_;
            apply exl_isB; rfl; rfl; rfl; (apply g_binInt; rfl; rfl; rfl); intro _ _;
            refine exl_nilT ?_;
            refine ex_seq ?_;
            refine ex_cond rfl (fun h => ?_) (fun h => ?_) <;> ((first | (subst h; rename BV _ true => h0; have h := h0.eq; clear h0) | (subst h; rename BV _ false => h0; have h := h0.eq; clear h0) | skip); (have hp := h; try simp only [decide_eq_true_eq, decide_eq_false_iff_not, Bool.not_eq_true', Bool.not_eq_false', bne_iff_ne, beq_iff_eq, beq_eq_false_iff_ne, bne_eq_false_iff_eq, Int.not_lt, Int.not_le] at hp); (try (exfalso; first | omega | (cases hp; done))));
            refine ex_skip ?_;
            refine ex_seq ?_;
            refine ex_block ?_;
            refine ex_seq ?_;
            refine ex_region ?_;
            apply exl_is; rfl; rfl; rfl; (apply g_move; rfl);
            apply exl_is; rfl; rfl; rfl; (apply g_assign; rfl);
            refine exl_nilT ?_;
            refine ex_seq ?_;
            refine ex_region ?_;
            apply exl_is; rfl; rfl; rfl; (apply g_move; rfl);
            apply exl_is; rfl; rfl; rfl; (apply g_move; rfl);
            apply exl_is; rfl; rfl; rfl; (apply g_shrQ; rfl; rfl; rfl; rfl; omega; exact hq);
            apply exl_is; rfl; rfl; rfl; (apply g_andQ; rfl; rfl; rfl; exact (rfl : (1:Int) = ((1:Nat):Int)); omega; exact Nat.le_of_ble_eq_true rfl; exact hr);
            apply exl_isB; rfl; rfl; rfl; (apply g_binInt; rfl; rfl; rfl); intro _ _;
            apply exl_is; rfl; rfl; rfl; (apply g_move; rfl);
            refine exl_caseL rfl (fun h => ?_) (fun h => ?_) <;> ((first | (subst h; rename BV _ true => h0; have h := h0.eq; clear h0) | (subst h; rename BV _ false => h0; have h := h0.eq; clear h0) | skip); (have hp := h; try simp only [decide_eq_true_eq, decide_eq_false_iff_not, Bool.not_eq_true', Bool.not_eq_false', bne_iff_ne, beq_iff_eq, beq_eq_false_iff_ne, bne_eq_false_iff_eq, Int.not_lt, Int.not_le] at hp); (try (exfalso; first | omega | (cases hp; done))));
            apply exl_isW; rfl; (rfl); rfl; rfl; (apply g_move; rfl);
            apply exl_isW; rfl; (rfl); rfl; rfl; (apply g_move; rfl);
            apply exl_isW; rfl; (rfl); rfl; rfl; (apply g_move; rfl);
            apply exl_isW; rfl; (rfl); rfl; rfl; (apply g_shl1; rfl; rfl; rfl; (rfl); omega);
            apply exl_isW; rfl; (rfl); rfl; rfl; (apply g_andNotQ; rfl; rfl; rfl; rfl; omega; omega; exact hqa);
            apply exl_isW; rfl; (rfl); rfl; rfl; (exact g_call rfl rfl (enters_b (by kernel_rfl)) (c4 _ _ (by ((repeat (first | exact List.Mem.head _ | assumption | refine List.Mem.tail _ ?_)); done))));
            apply exl_isBW; rfl; (rfl); rfl; rfl; (apply g_binInt; rfl; rfl; rfl); intro _ _;
            apply exl_is; rfl; rfl; rfl; (apply g_pick_t; rfl; (rfl); rfl);
            refine exl_nilT ?_;
            refine ex_cond rfl (fun h => ?_) (fun h => ?_) <;> ((first | (subst h; rename BV _ true => h0; have h := h0.eq; clear h0) | (subst h; rename BV _ false => h0; have h := h0.eq; clear h0) | skip); (have hp := h; try simp only [decide_eq_true_eq, decide_eq_false_iff_not, Bool.not_eq_true', Bool.not_eq_false', bne_iff_ne, beq_iff_eq, beq_eq_false_iff_ne, bne_eq_false_iff_eq, Int.not_lt, Int.not_le] at hp); (try (exfalso; first | omega | (cases hp; done))));
            refine ex_skip ?_;
            refine ex_region ?_;
            apply exl_is; rfl; rfl; rfl; (apply g_add; rfl; rfl; rfl; exact ⟨by omega, by omega⟩);
            apply exl_is; rfl; rfl; rfl; (apply g_move; rfl);
            refine exl_nil ?_;
            simp only [thenA, blockA, roundA, noGotoA, retA, ↓reduceIte, Nat.reduceEqDiff];
            rotate_left
            (all_goals (repeat (rename BV _ _ => hbv; cases hbv)))
            all_goals (try (exfalso; first | (rename true = false => hx; cases hx; done) | (rename false = true => hx; cases hx; done)))
            refine ⟨k + 1, by omega, by omega, St.le_of (by repeat (first | exact trivial | refine ⟨rfl, ?_⟩)) (by repeat (first | exact List.Sublist.refl _ | apply List.Sublist.cons_cons | apply List.Sublist.cons))⟩
          | false =>
            rw [hb] at hr
            have hr : q &&& 1 = 0 := hr
            clear c3 h3
            refine ex_seq ?_;
            refine ex_region ?_;
            apply exl_isB; rfl; rfl; rfl; (apply g_binInt; rfl; rfl; rfl); intro _ _;
            refine exl_nilT ?_;
            refine ex_seq ?_;
            refine ex_cond rfl (fun h => ?_) (fun h => ?_) <;> ((first | (subst h; rename BV _ true => h0; have h := h0.eq; clear h0) | (subst h; rename BV _ false => h0; have h := h0.eq; clear h0) | skip); (have hp := h; try simp only [decide_eq_true_eq, decide_eq_false_iff_not, Bool.not_eq_true', Bool.not_eq_false', bne_iff_ne, beq_iff_eq, beq_eq_false_iff_ne, bne_eq_false_iff_eq, Int.not_lt, Int.not_le] at hp); (try (exfalso; first | omega | (cases hp; done))));
            refine ex_skip ?_;
            refine ex_seq ?_;
            refine ex_block ?_;
            refine ex_seq ?_;
            refine ex_region ?_;
            apply exl_is; rfl; rfl; rfl; (apply g_move; rfl);
            apply exl_is; rfl; rfl; rfl; (apply g_assign; rfl);
            refine exl_nilT ?_;
            refine ex_seq ?_;
            refine ex_region ?_;
            apply exl_is; rfl; rfl; rfl; (apply g_move; rfl);
            apply exl_is; rfl; rfl; rfl; (apply g_move; rfl);
            apply exl_is; rfl; rfl; rfl; (apply g_shrQ; rfl; rfl; rfl; rfl; omega; exact hq);
            apply exl_is; rfl; rfl; rfl; (apply g_andQ; rfl; rfl; rfl; exact (rfl : (1:Int) = ((1:Nat):Int)); omega; exact Nat.le_of_ble_eq_true rfl; exact hr);
            apply exl_isB; rfl; rfl; rfl; (apply g_binInt; rfl; rfl; rfl); intro _ _;
            apply exl_is; rfl; rfl; rfl; (apply g_move; rfl);
            refine exl_caseL rfl (fun h => ?_) (fun h => ?_) <;> ((first | (subst h; rename BV _ true => h0; have h := h0.eq; clear h0) | (subst h; rename BV _ false => h0; have h := h0.eq; clear h0) | skip); (have hp := h; try simp only [decide_eq_true_eq, decide_eq_false_iff_not, Bool.not_eq_true', Bool.not_eq_false', bne_iff_ne, beq_iff_eq, beq_eq_false_iff_ne, bne_eq_false_iff_eq, Int.not_lt, Int.not_le] at hp); (try (exfalso; first | omega | (cases hp; done))));
            refine exl_skipL rfl (by rfl) rfl rfl ?_;
            refine exl_skipL rfl (by rfl) rfl rfl ?_;
            refine exl_skipL rfl (by rfl) rfl rfl ?_;
            refine exl_skipL rfl (by rfl) rfl rfl ?_;
            refine exl_skipL rfl (by rfl) rfl rfl ?_;
            refine exl_skipL rfl (by rfl) rfl rfl ?_;
            refine exl_skipL rfl (by rfl) rfl rfl ?_;
            apply exl_is; rfl; rfl; rfl; (apply g_pick_f; rfl; (rfl); rfl);
            refine exl_nilT ?_;
            refine ex_cond_f rfl (by rfl) ?_;
            refine ex_skip ?_;
            refine ex_region ?_;
            apply exl_is; rfl; rfl; rfl; (apply g_add; rfl; rfl; rfl; exact ⟨by omega, by omega⟩);
            apply exl_is; rfl; rfl; rfl; (apply g_move; rfl);
            refine exl_nil ?_;
            simp only [thenA, blockA, roundA, noGotoA, retA, ↓reduceIte, Nat.reduceEqDiff];
            rotate_left
            (all_goals (repeat (rename BV _ _ => hbv; cases hbv)))
            all_goals (try (exfalso; first | (rename true = false => hx; cases hx; done) | (rename false = true => hx; cases hx; done)))
            refine ⟨k + 1, by omega, by omega, St.le_of (by repeat (first | exact trivial | refine ⟨rfl, ?_⟩)) (by repeat (first | exact List.Sublist.refl _ | apply List.Sublist.cons_cons | apply List.Sublist.cons))⟩
        · have e : k = N := by omega
          subst e
          clear c3 h3
          refine ex_seq ?_;
          refine ex_region ?_;
          apply exl_isB; rfl; rfl; rfl; (apply g_binInt; rfl; rfl; rfl); intro _ _;
          refine exl_nilT ?_;
          refine ex_seq ?_;
          refine ex_cond rfl (fun h => ?_) (fun h => ?_) <;> ((first | (subst h; rename BV _ true => h0; have h := h0.eq; clear h0) | (subst h; rename BV _ false => h0; have h := h0.eq; clear h0) | skip); (have hp := h; try simp only [decide_eq_true_eq, decide_eq_false_iff_not, Bool.not_eq_true', Bool.not_eq_false', bne_iff_ne, beq_iff_eq, beq_eq_false_iff_ne, bne_eq_false_iff_eq, Int.not_lt, Int.not_le] at hp); (try (exfalso; first | omega | (cases hp; done))));
          refine ex_exit ?_;
          refine ex_region ?_;
          apply exl_is; rfl; rfl; rfl; (apply g_add; rfl; rfl; rfl; exact ⟨by omega, by omega⟩);
          apply exl_is; rfl; rfl; rfl; (apply g_move; rfl);
          refine exl_nil ?_;
          simp only [thenA, blockA, roundA, noGotoA, retA, ↓reduceIte, Nat.reduceEqDiff];
          rotate_left
          (all_goals (repeat (rename BV _ _ => hbv; cases hbv)))
          all_goals (try (exfalso; first | (rename true = false => hx; cases hx; done) | (rename false = true => hx; cases hx; done)))
          refine ⟨i + 1, by omega, by omega, St.le_of (by repeat (first | exact trivial | refine ⟨rfl, ?_⟩)) (by repeat (first | exact List.Sublist.refl _ | apply List.Sublist.cons_cons | apply List.Sublist.cons))⟩
      · have e : i = T.length := by omega
        subst e
        have hi2 : ¬ T.length < (natI T).length := by omega
        have hT4 : ∀ t ∈ T, t < 4096 := fun t ht => by have := (hT t ht).1; omega
        clear hT
        by_cases hs : s < 0 ∨ ((2 ^ N : Nat) : Int) ≤ s
        · by_cases h0 : s < 0
          · clear hs
            refine ex_seq ?_;
            refine ex_region ?_;
            apply exl_isB; rfl; rfl; rfl; (apply g_binInt; rfl; rfl; rfl); intro _ _;
            refine exl_nilT ?_;
            refine ex_seq ?_;
            refine ex_cond rfl (fun h => ?_) (fun h => ?_) <;> ((first | (subst h; rename BV _ true => h0; have h := h0.eq; clear h0) | (subst h; rename BV _ false => h0; have h := h0.eq; clear h0) | skip); (have hp := h; try simp only [decide_eq_true_eq, decide_eq_false_iff_not, Bool.not_eq_true', Bool.not_eq_false', bne_iff_ne, beq_iff_eq, beq_eq_false_iff_ne, bne_eq_false_iff_eq, Int.not_lt, Int.not_le] at hp); (try (exfalso; first | omega | (cases hp; done))));
            refine ex_exit ?_;
            refine ex_seq ?_;
            refine ex_seq ?_;
            refine ex_region ?_;
            apply exl_is; rfl; rfl; rfl; (apply g_move; rfl);
            apply exl_isB; rfl; rfl; rfl; (apply g_binInt; rfl; rfl; rfl); intro _ _;
            apply exl_is; rfl; rfl; rfl; (apply g_move; rfl);
            refine exl_caseL rfl (fun h => ?_) (fun h => ?_) <;> ((first | (subst h; rename BV _ true => h0; have h := h0.eq; clear h0) | (subst h; rename BV _ false => h0; have h := h0.eq; clear h0) | skip); (have hp := h; try simp only [decide_eq_true_eq, decide_eq_false_iff_not, Bool.not_eq_true', Bool.not_eq_false', bne_iff_ne, beq_iff_eq, beq_eq_false_iff_ne, bne_eq_false_iff_eq, Int.not_lt, Int.not_le] at hp); (try (exfalso; first | omega | (cases hp; done))));
            refine exl_skipL rfl (by rfl) rfl rfl ?_;
            refine exl_skipL rfl (by rfl) rfl rfl ?_;
            refine exl_skipL rfl (by rfl) rfl rfl ?_;
            refine exl_skipL rfl (by rfl) rfl rfl ?_;
            refine exl_skipL rfl (by rfl) rfl rfl ?_;
            apply exl_is; rfl; rfl; rfl; (apply g_pick_t; rfl; (rfl); rfl);
            apply exl_is; rfl; rfl; rfl; (apply g_move; rfl);
            refine exl_skipL rfl (by rfl) rfl rfl ?_;
            refine exl_skipL rfl (by rfl) rfl rfl ?_;
            refine exl_skipL rfl (by rfl) rfl rfl ?_;
            refine exl_skipL rfl (by rfl) rfl rfl ?_;
            apply exl_is; rfl; rfl; rfl; (apply g_pick_t; rfl; (rfl); rfl);
            refine exl_nilT ?_;
            refine ex_cond_t rfl (by rfl) ?_;
            refine ex_seq ?_;
            refine ex_region ?_;
            apply exl_is; rfl; rfl; rfl; (apply g_assign; rfl);
            refine exl_nilT ?_;
            refine ex_ret ?_;
            simp only [thenA, blockA, roundA, noGotoA, retA, ↓reduceIte, Nat.reduceEqDiff];
            rotate_left
            (all_goals (repeat (rename BV _ _ => hbv; cases hbv)))
            all_goals (try (exfalso; first | (rename true = false => hx; cases hx; done) | (rename false = true => hx; cases hx; done)))
            refine ret_is .nil (.cons (.ofTmp rfl) .nil) (by repeat (first | exact List.Sublist.refl _ | apply List.Sublist.cons_cons | apply List.Sublist.cons)) (bool_eq ?_)
            rfl
          · have hs : ((2 ^ N : Nat) : Int) ≤ s := by omega
            refine ex_seq ?_;
            refine ex_region ?_;
            apply exl_isB; rfl; rfl; rfl; (apply g_binInt; rfl; rfl; rfl); intro _ _;
            refine exl_nilT ?_;
            refine ex_seq ?_;
            refine ex_cond rfl (fun h => ?_) (fun h => ?_) <;> ((first | (subst h; rename BV _ true => h0; have h := h0.eq; clear h0) | (subst h; rename BV _ false => h0; have h := h0.eq; clear h0) | skip); (have hp := h; try simp only [decide_eq_true_eq, decide_eq_false_iff_not, Bool.not_eq_true', Bool.not_eq_false', bne_iff_ne, beq_iff_eq, beq_eq_false_iff_ne, bne_eq_false_iff_eq, Int.not_lt, Int.not_le] at hp); (try (exfalso; first | omega | (cases hp; done))));
            refine ex_exit ?_;
            refine ex_seq ?_;
            refine ex_seq ?_;
            refine ex_region ?_;
            apply exl_is; rfl; rfl; rfl; (apply g_move; rfl);
            apply exl_isB; rfl; rfl; rfl; (apply g_binInt; rfl; rfl; rfl); intro _ _;
            apply exl_is; rfl; rfl; rfl; (apply g_move; rfl);
            refine exl_caseL rfl (fun h => ?_) (fun h => ?_) <;> ((first | (subst h; rename BV _ true => h0; have h := h0.eq; clear h0) | (subst h; rename BV _ false => h0; have h := h0.eq; clear h0) | skip); (have hp := h; try simp only [decide_eq_true_eq, decide_eq_false_iff_not, Bool.not_eq_true', Bool.not_eq_false', bne_iff_ne, beq_iff_eq, beq_eq_false_iff_ne, bne_eq_false_iff_eq, Int.not_lt, Int.not_le] at hp); (try (exfalso; first | omega | (cases hp; done))));
            apply exl_isW; rfl; (rfl); rfl; rfl; (apply g_move; rfl);
            apply exl_isW; rfl; (rfl); rfl; rfl; (apply g_fieldAddr; rfl; rfl; rfl);
            apply exl_isW; rfl; (rfl); rfl; rfl; (apply g_load1; rfl; rfl; (exact .p (by ((repeat (first | exact List.Mem.head _ | assumption | refine List.Mem.tail _ ?_)); done)) rfl));
            apply exl_isW; rfl; (rfl); rfl; rfl; (apply g_shl1; rfl; rfl; rfl; (rfl); omega);
            apply exl_isBW; rfl; (rfl); rfl; rfl; (apply g_binInt; rfl; rfl; rfl); intro _ _;
            apply exl_is; rfl; rfl; rfl; (apply g_pick_f; rfl; (rfl); rfl);
            apply exl_is; rfl; rfl; rfl; (apply g_move; rfl);
            refine exl_caseL rfl (fun h => ?_) (fun h => ?_) <;> ((first | (subst h; rename BV _ true => h0; have h := h0.eq; clear h0) | (subst h; rename BV _ false => h0; have h := h0.eq; clear h0) | skip); (have hp := h; try simp only [decide_eq_true_eq, decide_eq_false_iff_not, Bool.not_eq_true', Bool.not_eq_false', bne_iff_ne, beq_iff_eq, beq_eq_false_iff_ne, bne_eq_false_iff_eq, Int.not_lt, Int.not_le] at hp); (try (exfalso; first | omega | (cases hp; done))));
            refine exl_skipL rfl (by rfl) rfl rfl ?_;
            refine exl_skipL rfl (by rfl) rfl rfl ?_;
            refine exl_skipL rfl (by rfl) rfl rfl ?_;
            refine exl_skipL rfl (by rfl) rfl rfl ?_;
            apply exl_is; rfl; rfl; rfl; (apply g_pick_t; rfl; (rfl); rfl);
            refine exl_nilT ?_;
            refine ex_cond_t rfl (by rfl) ?_;
            refine ex_seq ?_;
            refine ex_region ?_;
            apply exl_is; rfl; rfl; rfl; (apply g_assign; rfl);
            refine exl_nilT ?_;
            refine ex_ret ?_;
            simp only [thenA, blockA, roundA, noGotoA, retA, ↓reduceIte, Nat.reduceEqDiff];
            rotate_left
            (all_goals (repeat (rename BV _ _ => hbv; cases hbv)))
            all_goals (try (exfalso; first | (rename true = false => hx; cases hx; done) | (rename false = true => hx; cases hx; done)))
            refine ret_is .nil (.cons (.ofTmp rfl) .nil) (by repeat (first | exact List.Sublist.refl _ | apply List.Sublist.cons_cons | apply List.Sublist.cons)) (bool_eq ?_)
            rfl
        · obtain ⟨g, rfl⟩ : ∃ g : Nat, s = (g : Int) := ⟨s.toNat, by omega⟩
          have hgl : g < 2 ^ N := by omega
          have c4 := fun b τ => c3 g b τ (by omega)
          clear hs c3
          by_cases hz : missN F g = 0
          · obtain ⟨m, hm, hsub⟩ := hB g hz
            rw [hz] at c4
            clear hB hz
            refine ex_seq ?_;
            refine ex_region ?_;
            apply exl_isB; rfl; rfl; rfl; (apply g_binInt; rfl; rfl; rfl); intro _ _;
            refine exl_nilT ?_;
            refine ex_seq ?_;
            refine ex_cond rfl (fun h => ?_) (fun h => ?_) <;> ((first | (subst h; rename BV _ true => h0; have h := h0.eq; clear h0) | (subst h; rename BV _ false => h0; have h := h0.eq; clear h0) | skip); (have hp := h; try simp only [decide_eq_true_eq, decide_eq_false_iff_not, Bool.not_eq_true', Bool.not_eq_false', bne_iff_ne, beq_iff_eq, beq_eq_false_iff_ne, bne_eq_false_iff_eq, Int.not_lt, Int.not_le] at hp); (try (exfalso; first | omega | (cases hp; done))));
            refine ex_exit ?_;
            refine ex_seq ?_;
            refine ex_seq ?_;
            refine ex_region ?_;
            apply exl_is; rfl; rfl; rfl; (apply g_move; rfl);
            apply exl_isB; rfl; rfl; rfl; (apply g_binInt; rfl; rfl; rfl); intro _ _;
            apply exl_is; rfl; rfl; rfl; (apply g_move; rfl);
            refine exl_caseL rfl (fun h => ?_) (fun h => ?_) <;> ((first | (subst h; rename BV _ true => h0; have h := h0.eq; clear h0) | (subst h; rename BV _ false => h0; have h := h0.eq; clear h0) | skip); (have hp := h; try simp only [decide_eq_true_eq, decide_eq_false_iff_not, Bool.not_eq_true', Bool.not_eq_false', bne_iff_ne, beq_iff_eq, beq_eq_false_iff_ne, bne_eq_false_iff_eq, Int.not_lt, Int.not_le] at hp); (try (exfalso; first | omega | (cases hp; done))));
            apply exl_isW; rfl; (rfl); rfl; rfl; (apply g_move; rfl);
            apply exl_isW; rfl; (rfl); rfl; rfl; (apply g_fieldAddr; rfl; rfl; rfl);
            apply exl_isW; rfl; (rfl); rfl; rfl; (apply g_load1; rfl; rfl; (exact .p (by ((repeat (first | exact List.Mem.head _ | assumption | refine List.Mem.tail _ ?_)); done)) rfl));
            apply exl_isW; rfl; (rfl); rfl; rfl; (apply g_shl1; rfl; rfl; rfl; (rfl); omega);
            apply exl_isBW; rfl; (rfl); rfl; rfl; (apply g_binInt; rfl; rfl; rfl); intro _ _;
            apply exl_is; rfl; rfl; rfl; (apply g_pick_f; rfl; (rfl); rfl);
            apply exl_is; rfl; rfl; rfl; (apply g_move; rfl);
            refine exl_caseL rfl (fun h => ?_) (fun h => ?_) <;> ((first | (subst h; rename BV _ true => h0; have h := h0.eq; clear h0) | (subst h; rename BV _ false => h0; have h := h0.eq; clear h0) | skip); (have hp := h; try simp only [decide_eq_true_eq, decide_eq_false_iff_not, Bool.not_eq_true', Bool.not_eq_false', bne_iff_ne, beq_iff_eq, beq_eq_false_iff_ne, bne_eq_false_iff_eq, Int.not_lt, Int.not_le] at hp); (try (exfalso; first | omega | (cases hp; done))));
            apply exl_isW; rfl; (rfl); rfl; rfl; (apply g_move; rfl);
            apply exl_isW; rfl; (rfl); rfl; rfl; (apply g_move; rfl);
            apply exl_isW; rfl; (rfl); rfl; rfl; (exact g_call rfl rfl (enters_b (by kernel_rfl)) (c4 _ _ (by ((repeat (first | exact List.Mem.head _ | assumption | refine List.Mem.tail _ ?_)); done))));
            apply exl_isBW; rfl; (rfl); rfl; rfl; (apply g_binInt; rfl; rfl; rfl); intro _ _;
            apply exl_is; rfl; rfl; rfl; (apply g_pick_f; rfl; (rfl); rfl);
            refine exl_nilT ?_;
            refine ex_cond rfl (fun h => ?_) (fun h => ?_) <;> ((first | (subst h; rename BV _ true => h0; have h := h0.eq; clear h0) | (subst h; rename BV _ false => h0; have h := h0.eq; clear h0) | skip); (have hp := h; try simp only [decide_eq_true_eq, decide_eq_false_iff_not, Bool.not_eq_true', Bool.not_eq_false', bne_iff_ne, beq_iff_eq, beq_eq_false_iff_ne, bne_eq_false_iff_eq, Int.not_lt, Int.not_le] at hp); (try (exfalso; first | omega | (cases hp; done))));
            refine ex_skip ?_;
            refine ex_seq ?_;
            refine ex_seq ?_;
            refine ex_region ?_;
            apply exl_is; rfl; rfl; rfl; (apply g_move; rfl);
            apply exl_is; rfl; rfl; rfl; (apply g_len; rfl; rfl; (exact (List.length_map _).symm));
            apply exl_is; rfl; rfl; rfl; (apply g_move; rfl);
            refine exl_nilT ?_;
            refine ex_block ?_;
            simp only [thenA, blockA, roundA, noGotoA, retA, ↓reduceIte, Nat.reduceEqDiff];
            rotate_left
            (all_goals (repeat (rename BV _ _ => hbv; cases hbv)))
            all_goals (try (exfalso; first | (rename true = false => hx; cases hx; done) | (rename false = true => hx; cases hx; done)))
            clear c4
            refine ex_loop (fun (j : Nat) => (⟨[(1, .int .i64 g), (95, ints (natI T)), (96, .int .i64 (natI T).length), (97, .int .i64 j)], σ, [], Try.f7.ntmps⟩ : St)) (fun j => j ≤ T.length ∧ ∀ t ∈ T.take j, ¬ Sub t g) (fun j => T.length - j) 0 (⟨Nat.zero_le _, by simp⟩) (St.le_of (by repeat (first | exact trivial | refine ⟨rfl, ?_⟩)) (by repeat (first | exact List.Sublist.refl _ | apply List.Sublist.cons_cons | apply List.Sublist.cons))) ?_
            intro j hI
            obtain ⟨hI1, hI2⟩ := hI
            by_cases hj : j < T.length
            · obtain ⟨t, ht⟩ : ∃ t, T[j]? = some t := ⟨_, List.getElem?_eq_getElem hj⟩
              have hgt := natI_get ht
              have hj2 : j < (natI T).length := by omega
              have htb := hT4 t (List.mem_of_getElem? ht)
              have hq := andNot_sub t g
              obtain ⟨q, hqe⟩ : ∃ q, andNot t g = q := ⟨_, rfl⟩
              rw [hqe] at hq
              cases hsb : subB t g with
              | true =>
                rw [hsb, beq_iff_eq] at hq
                clear hI2
                refine ex_seq ?_;
                refine ex_region ?_;
                apply exl_isB; rfl; rfl; rfl; (apply g_binInt; rfl; rfl; rfl); intro _ _;
                refine exl_nilT ?_;
                refine ex_seq ?_;
                refine ex_cond rfl (fun h => ?_) (fun h => ?_) <;> ((first | (subst h; rename BV _ true => h0; have h := h0.eq; clear h0) | (subst h; rename BV _ false => h0; have h := h0.eq; clear h0) | skip); (have hp := h; try simp only [decide_eq_true_eq, decide_eq_false_iff_not, Bool.not_eq_true', Bool.not_eq_false', bne_iff_ne, beq_iff_eq, beq_eq_false_iff_ne, bne_eq_false_iff_eq, Int.not_lt, Int.not_le] at hp); (try (exfalso; first | omega | (cases hp; done))));
                refine ex_skip ?_;
                refine ex_seq ?_;
                refine ex_block ?_;
                refine ex_seq ?_;
                refine ex_region ?_;
                apply exl_is; rfl; rfl; rfl; (apply g_indexDl; rfl; rfl; rfl; (rfl); (exact get_map (by assumption)));
                apply exl_is; rfl; rfl; rfl; (apply g_load1; rfl; rfl; (exact .e rfl));
                apply exl_is; rfl; rfl; rfl; (apply g_assign; rfl);
                refine exl_nilT ?_;
                refine ex_seq ?_;
                refine ex_region ?_;
                apply exl_is; rfl; rfl; rfl; (apply g_move; rfl);
                apply exl_is; rfl; rfl; rfl; (apply g_move; rfl);
                apply exl_is; rfl; rfl; rfl; (apply g_andNotQ; rfl; rfl; rfl; rfl; omega; omega; exact hqe);
                apply exl_isB; rfl; rfl; rfl; (apply g_binInt; rfl; rfl; rfl); intro _ _;
                refine exl_nilT ?_;
                refine ex_cond rfl (fun h => ?_) (fun h => ?_) <;> ((first | (subst h; rename BV _ true => h0; have h := h0.eq; clear h0) | (subst h; rename BV _ false => h0; have h := h0.eq; clear h0) | skip); (have hp := h; try simp only [decide_eq_true_eq, decide_eq_false_iff_not, Bool.not_eq_true', Bool.not_eq_false', bne_iff_ne, beq_iff_eq, beq_eq_false_iff_ne, bne_eq_false_iff_eq, Int.not_lt, Int.not_le] at hp); (try (exfalso; first | omega | (cases hp; done))));
                refine ex_seq ?_;
                refine ex_region ?_;
                apply exl_is; rfl; rfl; rfl; (apply g_assign; rfl);
                refine exl_nilT ?_;
                refine ex_ret ?_;
                simp only [thenA, blockA, roundA, noGotoA, retA, ↓reduceIte, Nat.reduceEqDiff];
                rotate_left
                (all_goals (repeat (rename BV _ _ => hbv; cases hbv)))
                all_goals (try (exfalso; first | (rename true = false => hx; cases hx; done) | (rename false = true => hx; cases hx; done)))
                refine ret_is .nil (.cons (.ofTmp rfl) .nil) (by repeat (first | exact List.Sublist.refl _ | apply List.Sublist.cons_cons | apply List.Sublist.cons)) (bool_eq ?_)
                rfl
              | false =>
                rw [hsb, beq_eq_false_iff_ne] at hq
                have hI3 : ∀ t ∈ T.take (j + 1), ¬ Sub t g := fun u hu => by
                  rw [List.take_add_one, ht] at hu
                  rcases List.mem_append.1 hu with hu | hu
                  · exact hI2 u hu
                  · simp only [Option.toList_some, List.mem_singleton] at hu
                    subst hu
                    intro h; rw [subB_iff.2 h] at hsb; cases hsb
                clear hI2
                refine ex_seq ?_;
                refine ex_region ?_;
                apply exl_isB; rfl; rfl; rfl; (apply g_binInt; rfl; rfl; rfl); intro _ _;
                refine exl_nilT ?_;
                refine ex_seq ?_;
                refine ex_cond rfl (fun h => ?_) (fun h => ?_) <;> ((first | (subst h; rename BV _ true => h0; have h := h0.eq; clear h0) | (subst h; rename BV _ false => h0; have h := h0.eq; clear h0) | skip); (have hp := h; try simp only [decide_eq_true_eq, decide_eq_false_iff_not, Bool.not_eq_true', Bool.not_eq_false', bne_iff_ne, beq_iff_eq, beq_eq_false_iff_ne, bne_eq_false_iff_eq, Int.not_lt, Int.not_le] at hp); (try (exfalso; first | omega | (cases hp; done))));
                refine ex_skip ?_;
                refine ex_seq ?_;
                refine ex_block ?_;
                refine ex_seq ?_;
                refine ex_region ?_;
                apply exl_is; rfl; rfl; rfl; (apply g_indexDl; rfl; rfl; rfl; (rfl); (exact get_map (by assumption)));
                apply exl_is; rfl; rfl; rfl; (apply g_load1; rfl; rfl; (exact .e rfl));
                apply exl_is; rfl; rfl; rfl; (apply g_assign; rfl);
                refine exl_nilT ?_;
                refine ex_seq ?_;
                refine ex_region ?_;
                apply exl_is; rfl; rfl; rfl; (apply g_move; rfl);
                apply exl_is; rfl; rfl; rfl; (apply g_move; rfl);
                apply exl_is; rfl; rfl; rfl; (apply g_andNotQ; rfl; rfl; rfl; rfl; omega; omega; exact hqe);
                apply exl_isB; rfl; rfl; rfl; (apply g_binInt; rfl; rfl; rfl); intro _ _;
                refine exl_nilT ?_;
                refine ex_cond rfl (fun h => ?_) (fun h => ?_) <;> ((first | (subst h; rename BV _ true => h0; have h := h0.eq; clear h0) | (subst h; rename BV _ false => h0; have h := h0.eq; clear h0) | skip); (have hp := h; try simp only [decide_eq_true_eq, decide_eq_false_iff_not, Bool.not_eq_true', Bool.not_eq_false', bne_iff_ne, beq_iff_eq, beq_eq_false_iff_ne, bne_eq_false_iff_eq, Int.not_lt, Int.not_le] at hp); (try (exfalso; first | omega | (cases hp; done))));
                refine ex_skip ?_;
                refine ex_region ?_;
                apply exl_is; rfl; rfl; rfl; (apply g_add; rfl; rfl; rfl; exact ⟨by omega, by omega⟩);
                apply exl_is; rfl; rfl; rfl; (apply g_move; rfl);
                refine exl_nil ?_;
                simp only [thenA, blockA, roundA, noGotoA, retA, ↓reduceIte, Nat.reduceEqDiff];
                rotate_left
                (all_goals (repeat (rename BV _ _ => hbv; cases hbv)))
                all_goals (try (exfalso; first | (rename true = false => hx; cases hx; done) | (rename false = true => hx; cases hx; done)))
                refine ⟨j + 1, ⟨by omega, hI3⟩, by omega, St.le_of (by repeat (first | exact trivial | refine ⟨rfl, ?_⟩)) (by repeat (first | exact List.Sublist.refl _ | apply List.Sublist.cons_cons | apply List.Sublist.cons))⟩
            · rw [List.take_of_length_le (by omega)] at hI2
              exact absurd hsub (hI2 m hm)
          · have hz : 0 < missN F g := by omega
            generalize missN F g = u at c4 hz
            clear hB
            refine ex_seq ?_;
            refine ex_region ?_;
            apply exl_isB; rfl; rfl; rfl; (apply g_binInt; rfl; rfl; rfl); intro _ _;
            refine exl_nilT ?_;
            refine ex_seq ?_;
            refine ex_cond rfl (fun h => ?_) (fun h => ?_) <;> ((first | (subst h; rename BV _ true => h0; have h := h0.eq; clear h0) | (subst h; rename BV _ false => h0; have h := h0.eq; clear h0) | skip); (have hp := h; try simp only [decide_eq_true_eq, decide_eq_false_iff_not, Bool.not_eq_true', Bool.not_eq_false', bne_iff_ne, beq_iff_eq, beq_eq_false_iff_ne, bne_eq_false_iff_eq, Int.not_lt, Int.not_le] at hp); (try (exfalso; first | omega | (cases hp; done))));
            refine ex_exit ?_;
            refine ex_seq ?_;
            refine ex_seq ?_;
            refine ex_region ?_;
            apply exl_is; rfl; rfl; rfl; (apply g_move; rfl);
            apply exl_isB; rfl; rfl; rfl; (apply g_binInt; rfl; rfl; rfl); intro _ _;
            apply exl_is; rfl; rfl; rfl; (apply g_move; rfl);
            refine exl_caseL rfl (fun h => ?_) (fun h => ?_) <;> ((first | (subst h; rename BV _ true => h0; have h := h0.eq; clear h0) | (subst h; rename BV _ false => h0; have h := h0.eq; clear h0) | skip); (have hp := h; try simp only [decide_eq_true_eq, decide_eq_false_iff_not, Bool.not_eq_true', Bool.not_eq_false', bne_iff_ne, beq_iff_eq, beq_eq_false_iff_ne, bne_eq_false_iff_eq, Int.not_lt, Int.not_le] at hp); (try (exfalso; first | omega | (cases hp; done))));
            apply exl_isW; rfl; (rfl); rfl; rfl; (apply g_move; rfl);
            apply exl_isW; rfl; (rfl); rfl; rfl; (apply g_fieldAddr; rfl; rfl; rfl);
            apply exl_isW; rfl; (rfl); rfl; rfl; (apply g_load1; rfl; rfl; (exact .p (by ((repeat (first | exact List.Mem.head _ | assumption | refine List.Mem.tail _ ?_)); done)) rfl));
            apply exl_isW; rfl; (rfl); rfl; rfl; (apply g_shl1; rfl; rfl; rfl; (rfl); omega);
            apply exl_isBW; rfl; (rfl); rfl; rfl; (apply g_binInt; rfl; rfl; rfl); intro _ _;
            apply exl_is; rfl; rfl; rfl; (apply g_pick_f; rfl; (rfl); rfl);
            apply exl_is; rfl; rfl; rfl; (apply g_move; rfl);
            refine exl_caseL rfl (fun h => ?_) (fun h => ?_) <;> ((first | (subst h; rename BV _ true => h0; have h := h0.eq; clear h0) | (subst h; rename BV _ false => h0; have h := h0.eq; clear h0) | skip); (have hp := h; try simp only [decide_eq_true_eq, decide_eq_false_iff_not, Bool.not_eq_true', Bool.not_eq_false', bne_iff_ne, beq_iff_eq, beq_eq_false_iff_ne, bne_eq_false_iff_eq, Int.not_lt, Int.not_le] at hp); (try (exfalso; first | omega | (cases hp; done))));
            apply exl_isW; rfl; (rfl); rfl; rfl; (apply g_move; rfl);
            apply exl_isW; rfl; (rfl); rfl; rfl; (apply g_move; rfl);
            apply exl_isW; rfl; (rfl); rfl; rfl; (exact g_call rfl rfl (enters_b (by kernel_rfl)) (c4 _ _ (by ((repeat (first | exact List.Mem.head _ | assumption | refine List.Mem.tail _ ?_)); done))));
            apply exl_isBW; rfl; (rfl); rfl; rfl; (apply g_binInt; rfl; rfl; rfl); intro _ _;
            apply exl_is; rfl; rfl; rfl; (apply g_pick_f; rfl; (rfl); rfl);
            refine exl_nilT ?_;
            refine ex_cond rfl (fun h => ?_) (fun h => ?_) <;> ((first | (subst h; rename BV _ true => h0; have h := h0.eq; clear h0) | (subst h; rename BV _ false => h0; have h := h0.eq; clear h0) | skip); (have hp := h; try simp only [decide_eq_true_eq, decide_eq_false_iff_not, Bool.not_eq_true', Bool.not_eq_false', bne_iff_ne, beq_iff_eq, beq_eq_false_iff_ne, bne_eq_false_iff_eq, Int.not_lt, Int.not_le] at hp); (try (exfalso; first | omega | (cases hp; done))));
            refine ex_seq ?_;
            refine ex_region ?_;
            apply exl_is; rfl; rfl; rfl; (apply g_assign; rfl);
            refine exl_nilT ?_;
            refine ex_ret ?_;
            simp only [thenA, blockA, roundA, noGotoA, retA, ↓reduceIte, Nat.reduceEqDiff];
            rotate_left
            (all_goals (repeat (rename BV _ _ => hbv; cases hbv)))
            all_goals (try (exfalso; first | (rename true = false => hx; cases hx; done) | (rename false = true => hx; cases hx; done)))
            refine ret_is .nil (.cons (.ofTmp rfl) .nil) (by repeat (first | exact List.Sublist.refl _ | apply List.Sublist.cons_cons | apply List.Sublist.cons)) (bool_eq ?_)
            rfl
  · rw [hitR_bad h] at c2
    generalize checkH x = e at c1 c2 h
    refine ex_seq ?_;
    refine ex_region ?_;
    refine exl_box rfl rfl rfl (g_box rfl rfl) ?_; intro _;
    apply exl_is; rfl; rfl; rfl; (apply g_assign; rfl);
    refine exl_nilT ?_;
    refine ex_seq ?_;
    refine ex_seq ?_;
    refine ex_region ?_;
    apply exl_isB; rfl; rfl; rfl; (exact g_call rfl rfl (enters_b (by kernel_rfl)) (sane_c _)); intro _ _;
    apply exl_isB; rfl; rfl; rfl; (apply g_not; rfl); intro _ _;
    refine exl_nilT ?_;
    refine ex_cond rfl (fun h => ?_) (fun h => ?_) <;> ((first | (subst h; rename BV _ true => h0; have h := h0.eq; clear h0) | (subst h; rename BV _ false => h0; have h := h0.eq; clear h0) | skip); (have hp := h; try simp only [decide_eq_true_eq, decide_eq_false_iff_not, Bool.not_eq_true', Bool.not_eq_false', bne_iff_ne, beq_iff_eq, beq_eq_false_iff_ne, bne_eq_false_iff_eq, Int.not_lt, Int.not_le] at hp); (try (exfalso; first | omega | (cases hp; done))));
    refine ex_seq ?_;
    refine ex_region ?_;
    apply exl_is; rfl; rfl; rfl; (apply g_assign; rfl);
    refine exl_nilT ?_;
    refine ex_ret ?_;
    simp only [thenA, blockA, roundA, noGotoA, retA, ↓reduceIte, Nat.reduceEqDiff];
    rotate_left;
    refine ex_skip ?_;
    refine ex_seq ?_;
    refine ex_seq ?_;
    refine ex_region ?_;
    apply exl_is; rfl; rfl; rfl; (apply g_fieldAddr; rfl; rfl; rfl);
    apply exl_is; rfl; rfl; rfl; (apply g_load1; rfl; rfl; (exact .p (by ((repeat (first | exact List.Mem.head _ | assumption | refine List.Mem.tail _ ?_)); done)) rfl));
    apply exl_is; rfl; rfl; rfl; (apply g_fieldAddr; rfl; rfl; rfl);
    apply exl_is; rfl; rfl; rfl; (apply g_load1; rfl; rfl; (exact .p (by ((repeat (first | exact List.Mem.head _ | assumption | refine List.Mem.tail _ ?_)); done)) rfl));
    apply exl_isB; rfl; rfl; rfl; (exact g_call rfl rfl (enters_b (by kernel_rfl)) (c0 _)); intro _ _;
    apply exl_isB; rfl; rfl; rfl; (apply g_not; rfl); intro _ _;
    refine exl_nilT ?_;
    refine ex_cond rfl (fun h => ?_) (fun h => ?_) <;> ((first | (subst h; rename BV _ true => h0; have h := h0.eq; clear h0) | (subst h; rename BV _ false => h0; have h := h0.eq; clear h0) | skip); (have hp := h; try simp only [decide_eq_true_eq, decide_eq_false_iff_not, Bool.not_eq_true', Bool.not_eq_false', bne_iff_ne, beq_iff_eq, beq_eq_false_iff_ne, bne_eq_false_iff_eq, Int.not_lt, Int.not_le] at hp); (try (exfalso; first | omega | (cases hp; done))));
    refine ex_seq ?_;
    refine ex_region ?_;
    apply exl_is; rfl; rfl; rfl; (apply g_assign; rfl);
    refine exl_nilT ?_;
    refine ex_ret ?_;
    simp only [thenA, blockA, roundA, noGotoA, retA, ↓reduceIte, Nat.reduceEqDiff];
    rotate_left;
    refine ex_skip ?_;
    refine ex_seq ?_;
    refine ex_region ?_;
    apply exl_is; rfl; rfl; rfl; (apply g_loadAgg; rfl; decide; rfl; (exact .p (by ((repeat (first | exact List.Mem.head _ | assumption | refine List.Mem.tail _ ?_)); done)) rfl rfl));
    apply exl_is; rfl; rfl; rfl; (exact g_call rfl rfl (enters_b (by kernel_rfl)) (c2 _));
    apply exl_is; rfl; rfl; rfl; (apply g_move; rfl);
    apply exl_is; rfl; rfl; rfl; (apply g_extract; rfl; rfl);
    apply exl_is; rfl; rfl; rfl; (apply g_extract; rfl; rfl);
    apply exl_is; rfl; rfl; rfl; (apply g_assign; rfl);
    apply exl_is; rfl; rfl; rfl; (apply g_assign; rfl);
    refine exl_nilT ?_;
    refine ex_seq ?_;
    refine ex_seq ?_;
    refine ex_region ?_;
    apply exl_is; rfl; rfl; rfl; (apply g_move; rfl);
    apply exl_isB; rfl; rfl; rfl; (apply g_binInt; rfl; rfl; rfl); intro _ _;
    refine exl_nilT ?_;
    refine ex_cond rfl (fun h => ?_) (fun h => ?_) <;> ((first | (subst h; rename BV _ true => h0; have h := h0.eq; clear h0) | (subst h; rename BV _ false => h0; have h := h0.eq; clear h0) | skip); (have hp := h; try simp only [decide_eq_true_eq, decide_eq_false_iff_not, Bool.not_eq_true', Bool.not_eq_false', bne_iff_ne, beq_iff_eq, beq_eq_false_iff_ne, bne_eq_false_iff_eq, Int.not_lt, Int.not_le] at hp); (try (exfalso; first | omega | (cases hp; done))));
    refine ex_seq ?_;
    refine ex_region ?_;
    apply exl_is; rfl; rfl; rfl; (apply g_move; rfl);
    apply exl_is; rfl; rfl; rfl; (apply g_len; rfl; rfl; (exact (List.length_map _).symm));
    apply exl_isB; rfl; rfl; rfl; (apply g_binInt; rfl; rfl; rfl); intro _ _;
    apply exl_is; rfl; rfl; rfl; (apply g_move; rfl);
    refine exl_caseL rfl (fun h => ?_) (fun h => ?_) <;> ((first | (subst h; rename BV _ true => h0; have h := h0.eq; clear h0) | (subst h; rename BV _ false => h0; have h := h0.eq; clear h0) | skip); (have hp := h; try simp only [decide_eq_true_eq, decide_eq_false_iff_not, Bool.not_eq_true', Bool.not_eq_false', bne_iff_ne, beq_iff_eq, beq_eq_false_iff_ne, bne_eq_false_iff_eq, Int.not_lt, Int.not_le] at hp); (try (exfalso; first | omega | (cases hp; done))));
    apply exl_isW; rfl; (rfl); rfl; rfl; (apply g_loadAgg; rfl; decide; rfl; (exact .p (by ((repeat (first | exact List.Mem.head _ | assumption | refine List.Mem.tail _ ?_)); done)) rfl rfl));
    apply exl_isW; rfl; (rfl); rfl; rfl; (exact g_call rfl rfl (enters_b (by kernel_rfl)) (c1 _));
    apply exl_isW; rfl; (rfl); rfl; rfl; (apply g_move; rfl);
    apply exl_isBW; rfl; (rfl); rfl; rfl; (apply g_binInt; rfl; rfl; rfl); intro _ _;
    apply exl_is; rfl; rfl; rfl; (apply g_pick_t; rfl; (rfl); rfl);
    apply exl_is; rfl; rfl; rfl; (apply g_assign; rfl);
    refine exl_nilT ?_;
    refine ex_ret ?_;
    simp only [thenA, blockA, roundA, noGotoA, retA, ↓reduceIte, Nat.reduceEqDiff];
    rotate_left;
    refine exl_skipL rfl (by rfl) rfl rfl ?_;
    refine exl_skipL rfl (by rfl) rfl rfl ?_;
    refine exl_skipL rfl (by rfl) rfl rfl ?_;
    refine exl_skipL rfl (by rfl) rfl rfl ?_;
    apply exl_is; rfl; rfl; rfl; (apply g_pick_f; rfl; (rfl); rfl);
    apply exl_is; rfl; rfl; rfl; (apply g_assign; rfl);
    refine exl_nilT ?_;
    refine ex_ret ?_;
    simp only [thenA, blockA, roundA, noGotoA, retA, ↓reduceIte, Nat.reduceEqDiff];
    rotate_left
    (all_goals (repeat (rename BV _ _ => hbv; cases hbv)))
    all_goals (try (exfalso; first | (rename true = false => hx; cases hx; done) | (rename false = true => hx; cases hx; done)))
    all_goals
      refine ret_is .nil (.cons (.ofTmp rfl) .nil) (by repeat (first | exact List.Sublist.refl _ | apply List.Sublist.cons_cons | apply List.Sublist.cons)) (bool_eq ?_)
      first | rfl | simp_all
end Go.Proofs.Ytcmdkccncfleoaa
