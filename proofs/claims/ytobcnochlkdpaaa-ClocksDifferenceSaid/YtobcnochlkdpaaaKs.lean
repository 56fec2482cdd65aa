/- Clocks: Difference's law. -/
import Derived.Test.YtobcnochlkdpaaaKr
namespace Go.Proofs.Ytobcnochlkdpaaa
set_option linter.unusedSimpArgs false
set_option linter.unusedVariables false
set_option maxHeartbeats 8000000 in
set_option maxRecDepth 10000 in
theorem difference_c (l : List Fc) (key a b : Int) (r : Rg) (w : Nat) (hw : w < 65536) (σ : List Ent) : SCall Try.prog 8 [fcs l, .int .i64 key, .int .i64 a, .int .i64 b, .agg (rgC r), .int .u16 w] σ (Is (.bool true) σ) := by
  refine scall_of Try.func8 rfl (by simp) ?_
  have c0 := sane_c
  have c1 := few_c l
  have c2 := changed_c l key a b r
  have c3 := total_c l key a r
  have c4 := total_c l key b r
  generalize fewB l = f at c1
  by_cases h : askF l key [a, b] r = 0
  · obtain ⟨X, eX, hD⟩ := diff_ok h
    obtain ⟨hch, _, hlo, hhi, hle⟩ := ask_zero.1 h
    obtain ⟨hka, hkb⟩ := ask_one h (y := r) (Int.le_refl _) hle (Int.le_refl _)
    have hr : ∀ x ∈ l, rightF x = true := fun x hx => ((okF_iff.1 (check_zero.1 hch).2).1 x hx).2
    have hTa := dT_bound (key := key) (a := a) (b := b) hr (y := r) hlo.1 hle hhi.2 a
    have hTb := dT_bound (key := key) (a := a) (b := b) hr (y := r) hlo.1 hle hhi.2 b
    have hsum := hD.sum
    unfold dT at hsum
    rw [eX] at c2
    unfold totF at c3 c4
    rw [if_neg (by rw [hka]; simp)] at c3
    rw [if_neg (by rw [hkb]; simp)] at c4
    generalize totH (fun h => (sayL l key h a).v) (hoursR r) = TA at c3 hTa hsum
    generalize totH (fun h => (sayL l key h b).v) (hoursR r) = TB at c4 hTb hsum
    dsimp only at c2 c3 c4
    clear eX hch h
    cases f with
    | false =>
      clear hD hr hsum
      refine ex_seq ?_;
      refine ex_region ?_;
      refine exl_box rfl rfl rfl (g_box rfl rfl) ?_; intro _;
      refine exl_box rfl rfl rfl (g_box rfl rfl) ?_; intro _;
      refine exl_box rfl rfl rfl (g_box rfl rfl) ?_; intro _;
      refine exl_box rfl rfl rfl (g_box rfl rfl) ?_; intro _;
      refine exl_box rfl rfl rfl (g_box rfl rfl) ?_; intro _;
      apply exl_is; rfl; rfl; rfl; (apply g_assign; rfl);
      refine exl_nilT ?_;
      refine ex_seq ?_;
      refine ex_seq ?_;
      refine ex_region ?_;
      apply exl_isB; rfl; rfl; rfl; (refine g_call rfl rfl (enters_b (by kernel_rfl)) ?_; exact c0 _); intro _ _;
      apply exl_isB; rfl; rfl; rfl; (apply g_not; rfl); intro _ _;
      refine exl_nilT ?_;
      refine ex_cond rfl (fun h => ?_) (fun h => ?_) <;> ((first | (subst h; rename BV _ true => h0; have h := h0.eq; clear h0) | (subst h; rename BV _ false => h0; have h := h0.eq; clear h0) | skip); (have hp := h; try simp only [decide_eq_true_eq, decide_eq_false_iff_not, Bool.not_eq_true', Bool.not_eq_false', bne_iff_ne, beq_iff_eq, beq_eq_false_iff_ne, bne_eq_false_iff_eq, Int.not_lt, Int.not_le] at hp); (try (exfalso; first | omega | (cases hp; done))));
      refine ex_seq ?_;
      refine ex_region ?_;
      apply exl_is; rfl; rfl; rfl; (apply g_assign; rfl);
      refine exl_nilT ?_;
      refine ex_ret ?_;
      simp only [thenA, blockA, roundA, noGotoA, retA, ↓reduceIte, Nat.reduceEqDiff];
      rotate_left;
      refine ex_skip ?_;
      refine ex_seq ?_;
      refine ex_seq ?_;
      refine ex_region ?_;
      apply exl_is; rfl; rfl; rfl; (apply g_load1; rfl; rfl; (exact .p (by ((repeat (first | exact List.Mem.head _ | refine List.Mem.tail _ ?_ | assumption)); done)) rfl));
      apply exl_isB; rfl; rfl; rfl; (refine g_call rfl rfl (enters_b (by kernel_rfl)) ?_; exact c1 _); intro _ _;
      apply exl_isB; rfl; rfl; rfl; (apply g_not; rfl); intro _ _;
      refine exl_nilT ?_;
      refine ex_cond rfl (fun h => ?_) (fun h => ?_) <;> ((first | (subst h; rename BV _ true => h0; have h := h0.eq; clear h0) | (subst h; rename BV _ false => h0; have h := h0.eq; clear h0) | skip); (have hp := h; try simp only [decide_eq_true_eq, decide_eq_false_iff_not, Bool.not_eq_true', Bool.not_eq_false', bne_iff_ne, beq_iff_eq, beq_eq_false_iff_ne, bne_eq_false_iff_eq, Int.not_lt, Int.not_le] at hp); (try (exfalso; first | omega | (cases hp; done))));
      refine ex_seq ?_;
      refine ex_region ?_;
      apply exl_is; rfl; rfl; rfl; (apply g_assign; rfl);
      refine exl_nilT ?_;
      refine ex_ret ?_;
      simp only [thenA, blockA, roundA, noGotoA, retA, ↓reduceIte, Nat.reduceEqDiff];
      rotate_left;
      refine ex_skip ?_;
      refine ex_seq ?_;
      refine ex_region ?_;
      apply exl_is; rfl; rfl; rfl; (apply g_load1; rfl; rfl; (exact .p (by ((repeat (first | exact List.Mem.head _ | refine List.Mem.tail _ ?_ | assumption)); done)) rfl));
      apply exl_is; rfl; rfl; rfl; (apply g_load1; rfl; rfl; (exact .p (by ((repeat (first | exact List.Mem.head _ | refine List.Mem.tail _ ?_ | assumption)); done)) rfl));
      apply exl_is; rfl; rfl; rfl; (apply g_load1; rfl; rfl; (exact .p (by ((repeat (first | exact List.Mem.head _ | refine List.Mem.tail _ ?_ | assumption)); done)) rfl));
      apply exl_is; rfl; rfl; rfl; (apply g_load1; rfl; rfl; (exact .p (by ((repeat (first | exact List.Mem.head _ | refine List.Mem.tail _ ?_ | assumption)); done)) rfl));
      apply exl_is; rfl; rfl; rfl; (apply g_loadAgg; rfl; decide; rfl; (exact .p (by ((repeat (first | exact List.Mem.head _ | refine List.Mem.tail _ ?_ | assumption)); done)) rfl rfl));
      rotate_left
      (all_goals (repeat (rename BV _ _ => hbv; cases hbv)))
      all_goals (try (exfalso; first | (rename true = false => hx; cases hx; done) | (rename false = true => hx; cases hx; done)))
      refine ret_is .nil (.cons (.ofTmp rfl) .nil) (by repeat (first | exact List.Sublist.refl _ | apply List.Sublist.cons_cons | apply List.Sublist.cons)) (bool_eq ?_)
      rfl
    | true =>
      obtain ⟨n, hn⟩ : ∃ n : Nat, r.hi - r.lo + 1 = ((n : Nat) : Int) := ⟨(r.hi - r.lo + 1).toNat, by omega⟩
      have hn0 : n ≠ 0 := by omega
      have hwn := Nat.mod_lt w (show 0 < n by omega)
      have hbd := sumD_bound hr hlo.1 hhi.2 hD
      have hXl := hD.len
      generalize hm : w % n = m at hwn
      have hmz : ((w % n : Nat) : Int) = (m : Int) := by rw [hm]
      refine ex_seq ?_;
      refine ex_region ?_;
      refine exl_box rfl rfl rfl (g_box rfl rfl) ?_; intro _;
      refine exl_box rfl rfl rfl (g_box rfl rfl) ?_; intro _;
      refine exl_box rfl rfl rfl (g_box rfl rfl) ?_; intro _;
      refine exl_box rfl rfl rfl (g_box rfl rfl) ?_; intro _;
      refine exl_box rfl rfl rfl (g_box rfl rfl) ?_; intro _;
      apply exl_is; rfl; rfl; rfl; (apply g_assign; rfl);
      refine exl_nilT ?_;
      refine ex_seq ?_;
      refine ex_seq ?_;
      refine ex_region ?_;
      apply exl_isB; rfl; rfl; rfl; (refine g_call rfl rfl (enters_b (by kernel_rfl)) ?_; exact c0 _); intro _ _;
      apply exl_isB; rfl; rfl; rfl; (apply g_not; rfl); intro _ _;
      refine exl_nilT ?_;
      refine ex_cond rfl (fun h => ?_) (fun h => ?_) <;> ((first | (subst h; rename BV _ true => h0; have h := h0.eq; clear h0) | (subst h; rename BV _ false => h0; have h := h0.eq; clear h0) | skip); (have hp := h; try simp only [decide_eq_true_eq, decide_eq_false_iff_not, Bool.not_eq_true', Bool.not_eq_false', bne_iff_ne, beq_iff_eq, beq_eq_false_iff_ne, bne_eq_false_iff_eq, Int.not_lt, Int.not_le] at hp); (try (exfalso; first | omega | (cases hp; done))));
      refine ex_seq ?_;
      refine ex_region ?_;
      apply exl_is; rfl; rfl; rfl; (apply g_assign; rfl);
      refine exl_nilT ?_;
      refine ex_ret ?_;
      simp only [thenA, blockA, roundA, noGotoA, retA, ↓reduceIte, Nat.reduceEqDiff];
      rotate_left;
      refine ex_skip ?_;
      refine ex_seq ?_;
      refine ex_seq ?_;
      refine ex_region ?_;
      apply exl_is; rfl; rfl; rfl; (apply g_load1; rfl; rfl; (exact .p (by ((repeat (first | exact List.Mem.head _ | refine List.Mem.tail _ ?_ | assumption)); done)) rfl));
      apply exl_isB; rfl; rfl; rfl; (refine g_call rfl rfl (enters_b (by kernel_rfl)) ?_; exact c1 _); intro _ _;
      apply exl_isB; rfl; rfl; rfl; (apply g_not; rfl); intro _ _;
      refine exl_nilT ?_;
      refine ex_cond rfl (fun h => ?_) (fun h => ?_) <;> ((first | (subst h; rename BV _ true => h0; have h := h0.eq; clear h0) | (subst h; rename BV _ false => h0; have h := h0.eq; clear h0) | skip); (have hp := h; try simp only [decide_eq_true_eq, decide_eq_false_iff_not, Bool.not_eq_true', Bool.not_eq_false', bne_iff_ne, beq_iff_eq, beq_eq_false_iff_ne, bne_eq_false_iff_eq, Int.not_lt, Int.not_le] at hp); (try (exfalso; first | omega | (cases hp; done))));
      refine ex_seq ?_;
      refine ex_region ?_;
      apply exl_is; rfl; rfl; rfl; (apply g_assign; rfl);
      refine exl_nilT ?_;
      refine ex_ret ?_;
      simp only [thenA, blockA, roundA, noGotoA, retA, ↓reduceIte, Nat.reduceEqDiff];
      rotate_left;
      refine ex_skip ?_;
      refine ex_seq ?_;
      refine ex_region ?_;
      apply exl_is; rfl; rfl; rfl; (apply g_load1; rfl; rfl; (exact .p (by ((repeat (first | exact List.Mem.head _ | refine List.Mem.tail _ ?_ | assumption)); done)) rfl));
      apply exl_is; rfl; rfl; rfl; (apply g_load1; rfl; rfl; (exact .p (by ((repeat (first | exact List.Mem.head _ | refine List.Mem.tail _ ?_ | assumption)); done)) rfl));
      apply exl_is; rfl; rfl; rfl; (apply g_load1; rfl; rfl; (exact .p (by ((repeat (first | exact List.Mem.head _ | refine List.Mem.tail _ ?_ | assumption)); done)) rfl));
      apply exl_is; rfl; rfl; rfl; (apply g_load1; rfl; rfl; (exact .p (by ((repeat (first | exact List.Mem.head _ | refine List.Mem.tail _ ?_ | assumption)); done)) rfl));
      apply exl_is; rfl; rfl; rfl; (apply g_loadAgg; rfl; decide; rfl; (exact .p (by ((repeat (first | exact List.Mem.head _ | refine List.Mem.tail _ ?_ | assumption)); done)) rfl rfl));
      apply exl_is; rfl; rfl; rfl; (refine g_call rfl rfl (enters_b (by kernel_rfl)) ?_; exact c2 _);
      apply exl_is; rfl; rfl; rfl; (apply g_move; rfl);
      apply exl_is; rfl; rfl; rfl; (apply g_extract; rfl; rfl);
      apply exl_is; rfl; rfl; rfl; (apply g_extract; rfl; rfl);
      apply exl_is; rfl; rfl; rfl; (apply g_assign; rfl);
      apply exl_is; rfl; rfl; rfl; (apply g_assign; rfl);
      refine exl_nilT ?_;
      refine ex_seq ?_;
      refine ex_region ?_;
      apply exl_is; rfl; rfl; rfl; (apply g_load1; rfl; rfl; (exact .p (by ((repeat (first | exact List.Mem.head _ | refine List.Mem.tail _ ?_ | assumption)); done)) rfl));
      apply exl_is; rfl; rfl; rfl; (apply g_load1; rfl; rfl; (exact .p (by ((repeat (first | exact List.Mem.head _ | refine List.Mem.tail _ ?_ | assumption)); done)) rfl));
      apply exl_is; rfl; rfl; rfl; (apply g_load1; rfl; rfl; (exact .p (by ((repeat (first | exact List.Mem.head _ | refine List.Mem.tail _ ?_ | assumption)); done)) rfl));
      apply exl_is; rfl; rfl; rfl; (apply g_loadAgg; rfl; decide; rfl; (exact .p (by ((repeat (first | exact List.Mem.head _ | refine List.Mem.tail _ ?_ | assumption)); done)) rfl rfl));
      apply exl_is; rfl; rfl; rfl; (refine g_call rfl rfl (enters_b (by kernel_rfl)) ?_; exact c3 _);
      apply exl_is; rfl; rfl; rfl; (apply g_move; rfl);
      apply exl_is; rfl; rfl; rfl; (apply g_extract; rfl; rfl);
      apply exl_is; rfl; rfl; rfl; (apply g_extract; rfl; rfl);
      apply exl_is; rfl; rfl; rfl; (apply g_assign; rfl);
      apply exl_is; rfl; rfl; rfl; (apply g_assign; rfl);
      refine exl_nilT ?_;
      refine ex_seq ?_;
      refine ex_region ?_;
      apply exl_is; rfl; rfl; rfl; (apply g_load1; rfl; rfl; (exact .p (by ((repeat (first | exact List.Mem.head _ | refine List.Mem.tail _ ?_ | assumption)); done)) rfl));
      apply exl_is; rfl; rfl; rfl; (apply g_load1; rfl; rfl; (exact .p (by ((repeat (first | exact List.Mem.head _ | refine List.Mem.tail _ ?_ | assumption)); done)) rfl));
      apply exl_is; rfl; rfl; rfl; (apply g_load1; rfl; rfl; (exact .p (by ((repeat (first | exact List.Mem.head _ | refine List.Mem.tail _ ?_ | assumption)); done)) rfl));
      apply exl_is; rfl; rfl; rfl; (apply g_loadAgg; rfl; decide; rfl; (exact .p (by ((repeat (first | exact List.Mem.head _ | refine List.Mem.tail _ ?_ | assumption)); done)) rfl rfl));
      apply exl_is; rfl; rfl; rfl; (refine g_call rfl rfl (enters_b (by kernel_rfl)) ?_; exact c4 _);
      apply exl_is; rfl; rfl; rfl; (apply g_move; rfl);
      apply exl_is; rfl; rfl; rfl; (apply g_extract; rfl; rfl);
      apply exl_is; rfl; rfl; rfl; (apply g_extract; rfl; rfl);
      apply exl_is; rfl; rfl; rfl; (apply g_assign; rfl);
      apply exl_is; rfl; rfl; rfl; (apply g_assign; rfl);
      refine exl_nilT ?_;
      refine ex_seq ?_;
      refine ex_seq ?_;
      refine ex_region ?_;
      apply exl_is; rfl; rfl; rfl; (apply g_move; rfl);
      apply exl_isB; rfl; rfl; rfl; (apply g_binInt; rfl; rfl; rfl); intro _ _;
      refine exl_nilT ?_;
      refine ex_cond rfl (fun h => ?_) (fun h => ?_) <;> ((first | (subst h; rename BV _ true => h0; have h := h0.eq; clear h0) | (subst h; rename BV _ false => h0; have h := h0.eq; clear h0) | skip); (have hp := h; try simp only [decide_eq_true_eq, decide_eq_false_iff_not, Bool.not_eq_true', Bool.not_eq_false', bne_iff_ne, beq_iff_eq, beq_eq_false_iff_ne, bne_eq_false_iff_eq, Int.not_lt, Int.not_le] at hp); (try (exfalso; first | omega | (cases hp; done))));
      refine ex_skip ?_;
      refine ex_seq ?_;
      refine ex_seq ?_;
      refine ex_region ?_;
      apply exl_is; rfl; rfl; rfl; (apply g_move; rfl);
      apply exl_isB; rfl; rfl; rfl; (apply g_binInt; rfl; rfl; rfl); intro _ _;
      apply exl_is; rfl; rfl; rfl; (apply g_move; rfl);
      refine exl_caseL rfl (fun h => ?_) (fun h => ?_) <;> ((first | (subst h; rename BV _ true => h0; have h := h0.eq; clear h0) | (subst h; rename BV _ false => h0; have h := h0.eq; clear h0) | skip); (have hp := h; try simp only [decide_eq_true_eq, decide_eq_false_iff_not, Bool.not_eq_true', Bool.not_eq_false', bne_iff_ne, beq_iff_eq, beq_eq_false_iff_ne, bne_eq_false_iff_eq, Int.not_lt, Int.not_le] at hp); (try (exfalso; first | omega | (cases hp; done))));
      apply exl_isW; rfl; (rfl); rfl; rfl; (apply g_move; rfl);
      apply exl_isBW; rfl; (rfl); rfl; rfl; (apply g_binInt; rfl; rfl; rfl); intro _ _;
      apply exl_is; rfl; rfl; rfl; (apply g_pick_f; rfl; (rfl); rfl);
      apply exl_is; rfl; rfl; rfl; (apply g_move; rfl);
      refine exl_caseL rfl (fun h => ?_) (fun h => ?_) <;> ((first | (subst h; rename BV _ true => h0; have h := h0.eq; clear h0) | (subst h; rename BV _ false => h0; have h := h0.eq; clear h0) | skip); (have hp := h; try simp only [decide_eq_true_eq, decide_eq_false_iff_not, Bool.not_eq_true', Bool.not_eq_false', bne_iff_ne, beq_iff_eq, beq_eq_false_iff_ne, bne_eq_false_iff_eq, Int.not_lt, Int.not_le] at hp); (try (exfalso; first | omega | (cases hp; done))));
      apply exl_isW; rfl; (rfl); rfl; rfl; (apply g_fieldAddr; rfl; rfl; rfl);
      apply exl_isW; rfl; (rfl); rfl; rfl; (apply g_load1; rfl; rfl; (exact .p (by ((repeat (first | exact List.Mem.head _ | refine List.Mem.tail _ ?_ | assumption)); done)) rfl));
      apply exl_isW; rfl; (rfl); rfl; rfl; (apply g_fieldAddr; rfl; rfl; rfl);
      apply exl_isW; rfl; (rfl); rfl; rfl; (apply g_load1; rfl; rfl; (exact .p (by ((repeat (first | exact List.Mem.head _ | refine List.Mem.tail _ ?_ | assumption)); done)) rfl));
      apply exl_isBW; rfl; (rfl); rfl; rfl; (apply g_binInt; rfl; rfl; rfl); intro _ _;
      apply exl_is; rfl; rfl; rfl; (apply g_pick_f; rfl; (rfl); rfl);
      refine exl_nilT ?_;
      refine ex_cond rfl (fun h => ?_) (fun h => ?_) <;> ((first | (subst h; rename BV _ true => h0; have h := h0.eq; clear h0) | (subst h; rename BV _ false => h0; have h := h0.eq; clear h0) | skip); (have hp := h; try simp only [decide_eq_true_eq, decide_eq_false_iff_not, Bool.not_eq_true', Bool.not_eq_false', bne_iff_ne, beq_iff_eq, beq_eq_false_iff_ne, bne_eq_false_iff_eq, Int.not_lt, Int.not_le] at hp); (try (exfalso; first | omega | (cases hp; done))));
      refine ex_skip ?_;
      refine ex_seq ?_;
      refine ex_region ?_;
      apply exl_is; rfl; rfl; rfl; (apply g_makeFunc; rfl; rfl);
      apply exl_is; rfl; rfl; rfl; (apply g_assign; rfl);
      refine exl_nilT ?_;
      refine ex_seq ?_;
      refine ex_drawP rfl rfl (by kernel_rfl) rfl ?_; refine ex_drawQ rfl (by kernel_rfl) rfl ?_;
      apply wl_is; rfl; rfl; rfl; (intro σ' hl; (apply g_fieldAddr; rfl; rfl; rfl));
      apply wl_is; rfl; rfl; rfl; (intro σ' hl; (apply g_load1; rfl; rfl; (exact .p (hl _ (by (exact True.intro)) (by ((repeat (first | exact List.Mem.head _ | refine List.Mem.tail _ ?_ | assumption)); done))) rfl)));
      apply wl_is; rfl; rfl; rfl; (intro σ' hl; (apply g_move; rfl));
      apply wl_is; rfl; rfl; rfl; (intro σ' hl; (apply g_conv64; rfl; rfl; rfl; exact ⟨by omega, by omega⟩));
      apply wl_is; rfl; rfl; rfl; (intro σ' hl; (apply g_fieldAddr; rfl; rfl; rfl));
      apply wl_is; rfl; rfl; rfl; (intro σ' hl; (apply g_load1; rfl; rfl; (exact .p (hl _ (by (exact True.intro)) (by ((repeat (first | exact List.Mem.head _ | refine List.Mem.tail _ ?_ | assumption)); done))) rfl)));
      apply wl_is; rfl; rfl; rfl; (intro σ' hl; (apply g_fieldAddr; rfl; rfl; rfl));
      apply wl_is; rfl; rfl; rfl; (intro σ' hl; (apply g_load1; rfl; rfl; (exact .p (hl _ (by (exact True.intro)) (by ((repeat (first | exact List.Mem.head _ | refine List.Mem.tail _ ?_ | assumption)); done))) rfl)));
      apply wl_is; rfl; rfl; rfl; (intro σ' hl; (apply g_sub; rfl; rfl; rfl; exact ⟨by omega, by omega⟩));
      apply wl_is; rfl; rfl; rfl; (intro σ' hl; (apply g_add; rfl; rfl; rfl; exact ⟨by omega, by omega⟩));
      apply wl_is; rfl; rfl; rfl; (intro σ' hl; (apply g_remN; rfl; rfl; (rfl); (assumption); omega));
      apply wl_is; rfl; rfl; rfl; (intro σ' hl; (apply g_add; rfl; rfl; rfl; exact ⟨by omega, by omega⟩));
      apply wl_is; rfl; rfl; rfl; (intro σ' hl; (apply g_assign; rfl));
      refine wl_nil ?_; show EX _ _ _ _ _;
      refine ex_seq ?_;
      refine ex_region ?_;
      apply exl_is; rfl; rfl; rfl; (apply g_assign; rfl);
      refine exl_nilT ?_;
      refine ex_seq ?_;
      refine ex_region ?_;
      apply exl_is; rfl; rfl; rfl; (apply g_assign; rfl);
      refine exl_nilT ?_;
      refine ex_seq ?_;
      refine ex_seq ?_;
      refine ex_region ?_;
      apply exl_is; rfl; rfl; rfl; (apply g_move; rfl);
      apply exl_is; rfl; rfl; rfl; (apply g_len; rfl; rfl; (exact (List.length_map _).symm));
      apply exl_is; rfl; rfl; rfl; (apply g_move; rfl);
      refine exl_nilT ?_;
      refine ex_block ?_;
      rotate_left
      (all_goals (repeat (rename BV _ _ => hbv; cases hbv)))
      all_goals (try (exfalso; first | (rename true = false => hx; cases hx; done) | (rename false = true => hx; cases hx; done)))
      rename Nat => b10; revert b10; rename Nat => b9; revert b9; rename Nat => b8; revert b8; rename Nat => b7; revert b7; rename Nat => b6; revert b6
      intro b6 b7 b8 b9 b10
      clear c0 c1 c2 c3 c4
      rw [hm]
      obtain ⟨u, hu⟩ : ∃ u : Int, r.lo + (m : Int) = u := ⟨_, rfl⟩
      rw [hu]
      have hu1 : r.lo ≤ u := by omega
      have hu2 : u ≤ r.hi := by omega
      clear hm hmz hn hn0 hwn hu hw
      refine ex_loop (fun (i : Nat) => (⟨[(6, .ptr b6 0), (7, .ptr b7 0), (8, .ptr b8 0), (9, .ptr b9 0), (10, .ptr b10 0), (13, rgs X), (15, .int .i64 TA), (17, .int .i64 TB), (19, .fn (.func 26) [] [.ptr b6 0, .ptr b7 0, .ptr b8 0, .ptr b9 0]), (20, .int .i64 u), (21, .bool (anyD u (X.take i))), (22, .int .i64 (sumD l key a b (X.take i))), (90, rgs X), (91, .int .i64 X.length), (92, .int .i64 i)], .cells b10 (rgC r) 36 :: .cells b9 [.int .i64 b] 3 :: .cells b8 [.int .i64 a] 3 :: .cells b7 [.int .i64 key] 3 :: .cells b6 [fcs l] 22 :: σ, [], Try.f8.ntmps⟩ : St)) (fun i => i ≤ X.length) (fun i => X.length - i) 0 (Nat.zero_le _) (St.le_of (by repeat (first | exact trivial | refine ⟨rfl, ?_⟩)) (by repeat (first | exact List.Sublist.refl _ | apply List.Sublist.cons_cons | apply List.Sublist.cons))) ?_
      intro i hI
      by_cases hi : i < X.length
      · obtain ⟨y, hy⟩ : ∃ y, X[i]? = some y := ⟨_, List.getElem?_eq_getElem hi⟩
        have hg : (X.map rgC)[i]? = some (rgC y) := by rw [List.getElem?_map, hy]; rfl
        obtain ⟨g1, g2, g3, g4, g5, g6, g7⟩ := hD.each i y hy
        have d1 := differ_c l key a b y.lo r hka hkb (by omega) (by omega) b6 b7 b8 b9 22 3 3 3
        have d2 := differ_c l key a b y.hi r hka hkb (by omega) (by omega) b6 b7 b8 b9 22 3 3 3
        rw [g4] at d1
        rw [g5] at d2
        have e1 := total_c l key a y
        have e2 := total_c l key b y
        have hya := dT_bound (key := key) (a := a) (b := b) hr (y := y) (by omega) g1 (by omega) a
        have hyb := dT_bound (key := key) (a := a) (b := b) hr (y := y) (by omega) g1 (by omega) b
        have hst := sumD_take (l := l) (key := key) (a := a) (b := b) hy
        have hany := anyD_take (u := u) hy
        unfold dT at hst
        unfold totF at e1 e2
        rw [if_neg (by rw [g6]; simp)] at e1
        rw [if_neg (by rw [g7]; simp)] at e2
        generalize totH (fun h => (sayL l key h a).v) (hoursR y) = ta at e1 hya hst
        generalize totH (fun h => (sayL l key h b).v) (hoursR y) = tb at e2 hyb hst
        have hs1 := hbd i (by omega)
        generalize sumD l key a b (X.take i) = s at hs1 hst ⊢
        generalize anyD u (X.take i) = fd at hany ⊢
        have htwo : ∀ j z, i = j + 1 → X[j]? = some z → z.hi + 1 < y.lo ∧ z.hi ≤ r.hi ∧ r.lo ≤ z.hi := fun j z hj hz => by
          have k1 := hD.two j z y hz (by rw [← hj]; exact hy)
          have k2 := hD.each j z hz
          omega
        dsimp only at e1 e2
        clear hD hbd hr g4 g5 g6 g7 hka hkb hTa hTb hsum
        have hcase : (fd = true ∧ anyD u (X.take (i + 1)) = true) ∨ (fd = false ∧ y.lo ≤ u ∧ anyD u (X.take (i + 1)) = decide (u ≤ y.hi)) ∨ (fd = false ∧ ¬ y.lo ≤ u ∧ anyD u (X.take (i + 1)) = false) := by
          cases fd with
          | true => exact .inl ⟨rfl, by rw [hany]; rfl⟩
          | false =>
            by_cases hin : y.lo ≤ u
            · exact .inr (.inl ⟨rfl, hin, by rw [hany, decide_eq_true hin]; rfl⟩)
            · exact .inr (.inr ⟨rfl, hin, by rw [hany, decide_eq_false hin]; rfl⟩)
        clear hany
        cases i with
        | zero =>
          clear htwo
          rcases hcase with ⟨rfl, han⟩ | ⟨rfl, hin, han⟩ | ⟨rfl, hin, han⟩
          · refine ex_seq ?_;
            refine ex_region ?_;
            apply exl_isB; rfl; rfl; rfl; (apply g_binInt; rfl; rfl; rfl); intro _ _;
            refine exl_nilT ?_;
            refine ex_seq ?_;
            refine ex_cond rfl (fun h => ?_) (fun h => ?_) <;> ((first | (subst h; rename BV _ true => h0; have h := h0.eq; clear h0) | (subst h; rename BV _ false => h0; have h := h0.eq; clear h0) | skip); (have hp := h; try simp only [decide_eq_true_eq, decide_eq_false_iff_not, Bool.not_eq_true', Bool.not_eq_false', bne_iff_ne, beq_iff_eq, beq_eq_false_iff_ne, bne_eq_false_iff_eq, Int.not_lt, Int.not_le] at hp); (try (exfalso; first | omega | (cases hp; done))));
            refine ex_skip ?_;
            refine ex_seq ?_;
            refine ex_block ?_;
            refine ex_seq ?_;
            refine ex_region ?_;
            apply exl_is; rfl; rfl; rfl; (apply g_move; rfl);
            apply exl_is; rfl; rfl; rfl; (apply g_indexDl; rfl; rfl; rfl; (rfl); (assumption));
            apply exl_is; rfl; rfl; rfl; (apply g_loadAgg; rfl; decide; rfl; (exact .e rfl rfl));
            refine exl_box rfl rfl rfl (g_alloc rfl) ?_; intro _;
            apply exl_is; rfl; rfl; rfl; (apply g_assign; rfl);
            apply exl_do; rfl; rfl; (apply g_store'; rfl; rfl; rfl; (exact Upd.here); (simp only [setL, List.set_cons_zero, List.set_cons_succ, AV.cells]; rfl); rfl; rfl; rfl; exact Nat.le_of_ble_eq_true rfl);
            refine exl_nilT ?_;
            refine ex_seq ?_;
            refine ex_seq ?_;
            refine ex_drawC rfl rfl (by kernel_rfl) rfl ?_; refine ex_drawQ rfl (by kernel_rfl) rfl ?_;
            apply wl_is; rfl; rfl; rfl; (intro σ' hl; (apply g_fieldAddr; rfl; rfl; rfl));
            apply wl_is; rfl; rfl; rfl; (intro σ' hl; (apply g_load1; rfl; rfl; (exact .p (hl _ (by (exact True.intro)) (by ((repeat (first | exact List.Mem.head _ | refine List.Mem.tail _ ?_ | assumption)); done))) rfl)));
            apply wl_is; rfl; rfl; rfl; (intro σ' hl; (apply g_fieldAddr; rfl; rfl; rfl));
            apply wl_is; rfl; rfl; rfl; (intro σ' hl; (apply g_load1; rfl; rfl; (exact .p (hl _ (by (exact True.intro)) (by ((repeat (first | exact List.Mem.head _ | refine List.Mem.tail _ ?_ | assumption)); done))) rfl)));
            apply wl_isB; rfl; rfl; rfl; (intro σ' hl; (apply g_binInt; rfl; rfl; rfl)); intro _ _;
            apply wl_is; rfl; rfl; rfl; (intro σ' hl; (apply g_move; rfl));
            refine wl_case rfl (fun h => ?_) (fun h => ?_) <;> ((first | (subst h; rename BV _ true => h0; have h := h0.eq; clear h0) | (subst h; rename BV _ false => h0; have h := h0.eq; clear h0) | skip); (have hp := h; try simp only [decide_eq_true_eq, decide_eq_false_iff_not, Bool.not_eq_true', Bool.not_eq_false', bne_iff_ne, beq_iff_eq, beq_eq_false_iff_ne, bne_eq_false_iff_eq, Int.not_lt, Int.not_le] at hp); (try (exfalso; first | omega | (cases hp; done))));
            apply wl_isW; rfl; (rfl); rfl; rfl; (intro σ' hl; (apply g_fieldAddr; rfl; rfl; rfl));
            apply wl_isW; rfl; (rfl); rfl; rfl; (intro σ' hl; (apply g_load1; rfl; rfl; (exact .p (hl _ (by (exact True.intro)) (by ((repeat (first | exact List.Mem.head _ | refine List.Mem.tail _ ?_ | assumption)); done))) rfl)));
            apply wl_isW; rfl; (rfl); rfl; rfl; (intro σ' hl; (apply g_fieldAddr; rfl; rfl; rfl));
            apply wl_isW; rfl; (rfl); rfl; rfl; (intro σ' hl; (apply g_load1; rfl; rfl; (exact .p (hl _ (by (exact True.intro)) (by ((repeat (first | exact List.Mem.head _ | refine List.Mem.tail _ ?_ | assumption)); done))) rfl)));
            apply wl_isBW; rfl; (rfl); rfl; rfl; (intro σ' hl; (apply g_binInt; rfl; rfl; rfl)); intro _ _;
            apply wl_is; rfl; rfl; rfl; (intro σ' hl; (apply g_pick_f; rfl; (rfl); rfl));
            apply wl_is; rfl; rfl; rfl; (intro σ' hl; (apply g_move; rfl));
            refine wl_case rfl (fun h => ?_) (fun h => ?_) <;> ((first | (subst h; rename BV _ true => h0; have h := h0.eq; clear h0) | (subst h; rename BV _ false => h0; have h := h0.eq; clear h0) | skip); (have hp := h; try simp only [decide_eq_true_eq, decide_eq_false_iff_not, Bool.not_eq_true', Bool.not_eq_false', bne_iff_ne, beq_iff_eq, beq_eq_false_iff_ne, bne_eq_false_iff_eq, Int.not_lt, Int.not_le] at hp); (try (exfalso; first | omega | (cases hp; done))));
            apply wl_isW; rfl; (rfl); rfl; rfl; (intro σ' hl; (apply g_fieldAddr; rfl; rfl; rfl));
            apply wl_isW; rfl; (rfl); rfl; rfl; (intro σ' hl; (apply g_load1; rfl; rfl; (exact .p (hl _ (by (exact True.intro)) (by ((repeat (first | exact List.Mem.head _ | refine List.Mem.tail _ ?_ | assumption)); done))) rfl)));
            apply wl_isW; rfl; (rfl); rfl; rfl; (intro σ' hl; (apply g_fieldAddr; rfl; rfl; rfl));
            apply wl_isW; rfl; (rfl); rfl; rfl; (intro σ' hl; (apply g_load1; rfl; rfl; (exact .p (hl _ (by (exact True.intro)) (by ((repeat (first | exact List.Mem.head _ | refine List.Mem.tail _ ?_ | assumption)); done))) rfl)));
            apply wl_isBW; rfl; (rfl); rfl; rfl; (intro σ' hl; (apply g_binInt; rfl; rfl; rfl)); intro _ _;
            apply wl_is; rfl; rfl; rfl; (intro σ' hl; (apply g_pick_f; rfl; (rfl); rfl));
            apply wl_is; rfl; rfl; rfl; (intro σ' hl; (apply g_move; rfl));
            refine wl_case rfl (fun h => ?_) (fun h => ?_) <;> ((first | (subst h; rename BV _ true => h0; have h := h0.eq; clear h0) | (subst h; rename BV _ false => h0; have h := h0.eq; clear h0) | skip); (have hp := h; try simp only [decide_eq_true_eq, decide_eq_false_iff_not, Bool.not_eq_true', Bool.not_eq_false', bne_iff_ne, beq_iff_eq, beq_eq_false_iff_ne, bne_eq_false_iff_eq, Int.not_lt, Int.not_le] at hp); (try (exfalso; first | omega | (cases hp; done))));
            apply wl_isW; rfl; (rfl); rfl; rfl; (intro σ' hl; (apply g_move; rfl));
            apply wl_isBW; rfl; (rfl); rfl; rfl; (intro σ' hl; (apply g_binInt; rfl; rfl; rfl)); intro _ _;
            apply wl_isW; rfl; (rfl); rfl; rfl; (intro σ' hl; (apply g_move; rfl));
            refine wl_case rfl (fun h => ?_) (fun h => ?_) <;> ((first | (subst h; rename BV _ true => h0; have h := h0.eq; clear h0) | (subst h; rename BV _ false => h0; have h := h0.eq; clear h0) | skip); (have hp := h; try simp only [decide_eq_true_eq, decide_eq_false_iff_not, Bool.not_eq_true', Bool.not_eq_false', bne_iff_ne, beq_iff_eq, beq_eq_false_iff_ne, bne_eq_false_iff_eq, Int.not_lt, Int.not_le] at hp); (try (exfalso; first | omega | (cases hp; done))));
            refine wl_skip rfl (by rfl) rfl rfl ?_;
            refine wl_skip rfl (by rfl) rfl rfl ?_;
            refine wl_skip rfl (by rfl) rfl rfl ?_;
            refine wl_skip rfl (by rfl) rfl rfl ?_;
            refine wl_skip rfl (by rfl) rfl rfl ?_;
            refine wl_skip rfl (by rfl) rfl rfl ?_;
            refine wl_skip rfl (by rfl) rfl rfl ?_;
            refine wl_skip rfl (by rfl) rfl rfl ?_;
            refine wl_skip rfl (by rfl) rfl rfl ?_;
            refine wl_skip rfl (by rfl) rfl rfl ?_;
            apply wl_isW; rfl; (rfl); rfl; rfl; (intro σ' hl; (apply g_pick_f; rfl; (rfl); rfl));
            apply wl_is; rfl; rfl; rfl; (intro σ' hl; (apply g_pick_f; rfl; (rfl); rfl));
            apply wl_is; rfl; rfl; rfl; (intro σ' hl; (apply g_move; rfl));
            apply wl_isW; rfl; (rfl); rfl; rfl; (intro σ' hl; (apply g_move; rfl));
            apply wl_isW; rfl; (rfl); rfl; rfl; (intro σ' hl; (apply g_fieldAddr; rfl; rfl; rfl));
            apply wl_isW; rfl; (rfl); rfl; rfl; (intro σ' hl; (apply g_load1; rfl; rfl; (exact .p (hl _ (by (exact True.intro)) (by ((repeat (first | exact List.Mem.head _ | refine List.Mem.tail _ ?_ | assumption)); done))) rfl)));
            apply wl_isW; rfl; (rfl); rfl; rfl; (intro σ' hl; (refine g_call rfl rfl (enters_b (by kernel_rfl)) ?_; refine d1 _ ?_ ?_ ?_ ?_; exact (hl _ (by (exact True.intro)) (by ((repeat (first | exact List.Mem.head _ | refine List.Mem.tail _ ?_ | assumption)); done))); exact (hl _ (by (exact True.intro)) (by ((repeat (first | exact List.Mem.head _ | refine List.Mem.tail _ ?_ | assumption)); done))); exact (hl _ (by (exact True.intro)) (by ((repeat (first | exact List.Mem.head _ | refine List.Mem.tail _ ?_ | assumption)); done))); exact (hl _ (by (exact True.intro)) (by ((repeat (first | exact List.Mem.head _ | refine List.Mem.tail _ ?_ | assumption)); done)))));
            apply wl_isBW; rfl; (rfl); rfl; rfl; (intro σ' hl; (apply g_not; rfl)); intro _ _;
            apply wl_is; rfl; rfl; rfl; (intro σ' hl; (apply g_pick_f; rfl; (rfl); rfl));
            apply wl_is; rfl; rfl; rfl; (intro σ' hl; (apply g_move; rfl));
            refine wl_case rfl (fun h => ?_) (fun h => ?_) <;> ((first | (subst h; rename BV _ true => h0; have h := h0.eq; clear h0) | (subst h; rename BV _ false => h0; have h := h0.eq; clear h0) | skip); (have hp := h; try simp only [decide_eq_true_eq, decide_eq_false_iff_not, Bool.not_eq_true', Bool.not_eq_false', bne_iff_ne, beq_iff_eq, beq_eq_false_iff_ne, bne_eq_false_iff_eq, Int.not_lt, Int.not_le] at hp); (try (exfalso; first | omega | (cases hp; done))));
            apply wl_isW; rfl; (rfl); rfl; rfl; (intro σ' hl; (apply g_move; rfl));
            apply wl_isW; rfl; (rfl); rfl; rfl; (intro σ' hl; (apply g_fieldAddr; rfl; rfl; rfl));
            apply wl_isW; rfl; (rfl); rfl; rfl; (intro σ' hl; (apply g_load1; rfl; rfl; (exact .p (hl _ (by (exact True.intro)) (by ((repeat (first | exact List.Mem.head _ | refine List.Mem.tail _ ?_ | assumption)); done))) rfl)));
            apply wl_isW; rfl; (rfl); rfl; rfl; (intro σ' hl; (refine g_call rfl rfl (enters_b (by kernel_rfl)) ?_; refine d2 _ ?_ ?_ ?_ ?_; exact (hl _ (by (exact True.intro)) (by ((repeat (first | exact List.Mem.head _ | refine List.Mem.tail _ ?_ | assumption)); done))); exact (hl _ (by (exact True.intro)) (by ((repeat (first | exact List.Mem.head _ | refine List.Mem.tail _ ?_ | assumption)); done))); exact (hl _ (by (exact True.intro)) (by ((repeat (first | exact List.Mem.head _ | refine List.Mem.tail _ ?_ | assumption)); done))); exact (hl _ (by (exact True.intro)) (by ((repeat (first | exact List.Mem.head _ | refine List.Mem.tail _ ?_ | assumption)); done)))));
            apply wl_isBW; rfl; (rfl); rfl; rfl; (intro σ' hl; (apply g_not; rfl)); intro _ _;
            apply wl_is; rfl; rfl; rfl; (intro σ' hl; (apply g_pick_f; rfl; (rfl); rfl));
            refine wl_nil ?_; show EX _ _ _ _ _;
            refine ex_cond rfl (fun h => ?_) (fun h => ?_) <;> ((first | (subst h; rename BV _ true => h0; have h := h0.eq; clear h0) | (subst h; rename BV _ false => h0; have h := h0.eq; clear h0) | skip); (have hp := h; try simp only [decide_eq_true_eq, decide_eq_false_iff_not, Bool.not_eq_true', Bool.not_eq_false', bne_iff_ne, beq_iff_eq, beq_eq_false_iff_ne, bne_eq_false_iff_eq, Int.not_lt, Int.not_le] at hp); (try (exfalso; first | omega | (cases hp; done))));
            refine ex_skip ?_;
            refine ex_seq ?_;
            refine ex_region ?_;
            apply exl_is; rfl; rfl; rfl; (apply g_move; rfl);
            apply exl_is; rfl; rfl; rfl; (apply g_move; rfl);
            refine exl_skipL rfl (by rfl) rfl rfl ?_;
            refine exl_skipL rfl (by rfl) rfl rfl ?_;
            refine exl_skipL rfl (by rfl) rfl rfl ?_;
            refine exl_skipL rfl (by rfl) rfl rfl ?_;
            refine exl_skipL rfl (by rfl) rfl rfl ?_;
            refine exl_skipR rfl rfl rfl ?_;
            refine exl_skipR rfl rfl rfl ?_;
            refine exl_skipR rfl rfl rfl ?_;
            refine exl_skipR rfl rfl rfl ?_;
            refine exl_skipL rfl (by rfl) rfl rfl ?_;
            apply exl_is; rfl; rfl; rfl; (apply g_pick_t; rfl; (rfl); rfl);
            apply exl_is; rfl; rfl; rfl; (apply g_assign; rfl);
            refine exl_nilT ?_;
            refine ex_seq ?_;
            refine ex_region ?_;
            apply exl_is; rfl; rfl; rfl; (apply g_load1; rfl; rfl; (exact .p (by ((repeat (first | exact List.Mem.head _ | refine List.Mem.tail _ ?_ | assumption)); done)) rfl));
            apply exl_is; rfl; rfl; rfl; (apply g_load1; rfl; rfl; (exact .p (by ((repeat (first | exact List.Mem.head _ | refine List.Mem.tail _ ?_ | assumption)); done)) rfl));
            apply exl_is; rfl; rfl; rfl; (apply g_load1; rfl; rfl; (exact .p (by ((repeat (first | exact List.Mem.head _ | refine List.Mem.tail _ ?_ | assumption)); done)) rfl));
            apply exl_is; rfl; rfl; rfl; (apply g_loadAgg; rfl; decide; rfl; (exact .p (by ((repeat (first | exact List.Mem.head _ | refine List.Mem.tail _ ?_ | assumption)); done)) rfl rfl));
            apply exl_is; rfl; rfl; rfl; (refine g_call rfl rfl (enters_b (by kernel_rfl)) ?_; exact e1 _);
            apply exl_is; rfl; rfl; rfl; (apply g_move; rfl);
            apply exl_is; rfl; rfl; rfl; (apply g_extract; rfl; rfl);
            apply exl_is; rfl; rfl; rfl; (apply g_extract; rfl; rfl);
            apply exl_is; rfl; rfl; rfl; (apply g_assign; rfl);
            apply exl_is; rfl; rfl; rfl; (apply g_assign; rfl);
            refine exl_nilT ?_;
            refine ex_seq ?_;
            refine ex_region ?_;
            apply exl_is; rfl; rfl; rfl; (apply g_load1; rfl; rfl; (exact .p (by ((repeat (first | exact List.Mem.head _ | refine List.Mem.tail _ ?_ | assumption)); done)) rfl));
            apply exl_is; rfl; rfl; rfl; (apply g_load1; rfl; rfl; (exact .p (by ((repeat (first | exact List.Mem.head _ | refine List.Mem.tail _ ?_ | assumption)); done)) rfl));
            apply exl_is; rfl; rfl; rfl; (apply g_load1; rfl; rfl; (exact .p (by ((repeat (first | exact List.Mem.head _ | refine List.Mem.tail _ ?_ | assumption)); done)) rfl));
            apply exl_is; rfl; rfl; rfl; (apply g_loadAgg; rfl; decide; rfl; (exact .p (by ((repeat (first | exact List.Mem.head _ | refine List.Mem.tail _ ?_ | assumption)); done)) rfl rfl));
            apply exl_is; rfl; rfl; rfl; (refine g_call rfl rfl (enters_b (by kernel_rfl)) ?_; exact e2 _);
            apply exl_is; rfl; rfl; rfl; (apply g_move; rfl);
            apply exl_is; rfl; rfl; rfl; (apply g_extract; rfl; rfl);
            apply exl_is; rfl; rfl; rfl; (apply g_extract; rfl; rfl);
            apply exl_is; rfl; rfl; rfl; (apply g_assign; rfl);
            apply exl_is; rfl; rfl; rfl; (apply g_assign; rfl);
            refine exl_nilT ?_;
            refine ex_seq ?_;
            refine ex_seq ?_;
            refine ex_region ?_;
            apply exl_is; rfl; rfl; rfl; (apply g_move; rfl);
            apply exl_isB; rfl; rfl; rfl; (apply g_binInt; rfl; rfl; rfl); intro _ _;
            apply exl_is; rfl; rfl; rfl; (apply g_move; rfl);
            refine exl_caseL rfl (fun h => ?_) (fun h => ?_) <;> ((first | (subst h; rename BV _ true => h0; have h := h0.eq; clear h0) | (subst h; rename BV _ false => h0; have h := h0.eq; clear h0) | skip); (have hp := h; try simp only [decide_eq_true_eq, decide_eq_false_iff_not, Bool.not_eq_true', Bool.not_eq_false', bne_iff_ne, beq_iff_eq, beq_eq_false_iff_ne, bne_eq_false_iff_eq, Int.not_lt, Int.not_le] at hp); (try (exfalso; first | omega | (cases hp; done))));
            apply exl_isW; rfl; (rfl); rfl; rfl; (apply g_move; rfl);
            apply exl_isBW; rfl; (rfl); rfl; rfl; (apply g_binInt; rfl; rfl; rfl); intro _ _;
            apply exl_is; rfl; rfl; rfl; (apply g_pick_f; rfl; (rfl); rfl);
            refine exl_nilT ?_;
            refine ex_cond rfl (fun h => ?_) (fun h => ?_) <;> ((first | (subst h; rename BV _ true => h0; have h := h0.eq; clear h0) | (subst h; rename BV _ false => h0; have h := h0.eq; clear h0) | skip); (have hp := h; try simp only [decide_eq_true_eq, decide_eq_false_iff_not, Bool.not_eq_true', Bool.not_eq_false', bne_iff_ne, beq_iff_eq, beq_eq_false_iff_ne, bne_eq_false_iff_eq, Int.not_lt, Int.not_le] at hp); (try (exfalso; first | omega | (cases hp; done))));
            refine ex_skip ?_;
            refine ex_region ?_;
            apply exl_is; rfl; rfl; rfl; (apply g_move; rfl);
            apply exl_is; rfl; rfl; rfl; (apply g_move; rfl);
            apply exl_is; rfl; rfl; rfl; (apply g_move; rfl);
            apply exl_is; rfl; rfl; rfl; (apply g_sub; rfl; rfl; rfl; exact ⟨by omega, by omega⟩);
            apply exl_is; rfl; rfl; rfl; (apply g_add; rfl; rfl; rfl; exact ⟨by omega, by omega⟩);
            apply exl_is; rfl; rfl; rfl; (apply g_assign; rfl);
            refine exl_nil ?_;
            refine ex_region ?_;
            apply exl_is; rfl; rfl; rfl; (apply g_add; rfl; rfl; rfl; exact ⟨by omega, by omega⟩);
            apply exl_is; rfl; rfl; rfl; (apply g_move; rfl);
            refine exl_nil ?_;
            simp only [thenA, blockA, roundA, noGotoA, retA, ↓reduceIte, Nat.reduceEqDiff];
            rotate_left
            (all_goals (repeat (rename BV _ _ => hbv; cases hbv)))
            all_goals (try (exfalso; first | (rename true = false => hx; cases hx; done) | (rename false = true => hx; cases hx; done)))
            refine ⟨0 + 1, by omega, by omega, ?_⟩
            rw [hst, han]
            exact (St.le_of (by repeat (first | exact trivial | refine ⟨rfl, ?_⟩)) (by repeat (first | exact List.Sublist.refl _ | apply List.Sublist.cons_cons | apply List.Sublist.cons)))
          · refine ex_seq ?_;
            refine ex_region ?_;
            apply exl_isB; rfl; rfl; rfl; (apply g_binInt; rfl; rfl; rfl); intro _ _;
            refine exl_nilT ?_;
            refine ex_seq ?_;
            refine ex_cond rfl (fun h => ?_) (fun h => ?_) <;> ((first | (subst h; rename BV _ true => h0; have h := h0.eq; clear h0) | (subst h; rename BV _ false => h0; have h := h0.eq; clear h0) | skip); (have hp := h; try simp only [decide_eq_true_eq, decide_eq_false_iff_not, Bool.not_eq_true', Bool.not_eq_false', bne_iff_ne, beq_iff_eq, beq_eq_false_iff_ne, bne_eq_false_iff_eq, Int.not_lt, Int.not_le] at hp); (try (exfalso; first | omega | (cases hp; done))));
            refine ex_skip ?_;
            refine ex_seq ?_;
            refine ex_block ?_;
            refine ex_seq ?_;
            refine ex_region ?_;
            apply exl_is; rfl; rfl; rfl; (apply g_move; rfl);
            apply exl_is; rfl; rfl; rfl; (apply g_indexDl; rfl; rfl; rfl; (rfl); (assumption));
            apply exl_is; rfl; rfl; rfl; (apply g_loadAgg; rfl; decide; rfl; (exact .e rfl rfl));
            refine exl_box rfl rfl rfl (g_alloc rfl) ?_; intro _;
            apply exl_is; rfl; rfl; rfl; (apply g_assign; rfl);
            apply exl_do; rfl; rfl; (apply g_store'; rfl; rfl; rfl; (exact Upd.here); (simp only [setL, List.set_cons_zero, List.set_cons_succ, AV.cells]; rfl); rfl; rfl; rfl; exact Nat.le_of_ble_eq_true rfl);
            refine exl_nilT ?_;
            refine ex_seq ?_;
            refine ex_seq ?_;
            refine ex_drawC rfl rfl (by kernel_rfl) rfl ?_; refine ex_drawQ rfl (by kernel_rfl) rfl ?_;
            apply wl_is; rfl; rfl; rfl; (intro σ' hl; (apply g_fieldAddr; rfl; rfl; rfl));
            apply wl_is; rfl; rfl; rfl; (intro σ' hl; (apply g_load1; rfl; rfl; (exact .p (hl _ (by (exact True.intro)) (by ((repeat (first | exact List.Mem.head _ | refine List.Mem.tail _ ?_ | assumption)); done))) rfl)));
            apply wl_is; rfl; rfl; rfl; (intro σ' hl; (apply g_fieldAddr; rfl; rfl; rfl));
            apply wl_is; rfl; rfl; rfl; (intro σ' hl; (apply g_load1; rfl; rfl; (exact .p (hl _ (by (exact True.intro)) (by ((repeat (first | exact List.Mem.head _ | refine List.Mem.tail _ ?_ | assumption)); done))) rfl)));
            apply wl_isB; rfl; rfl; rfl; (intro σ' hl; (apply g_binInt; rfl; rfl; rfl)); intro _ _;
            apply wl_is; rfl; rfl; rfl; (intro σ' hl; (apply g_move; rfl));
            refine wl_case rfl (fun h => ?_) (fun h => ?_) <;> ((first | (subst h; rename BV _ true => h0; have h := h0.eq; clear h0) | (subst h; rename BV _ false => h0; have h := h0.eq; clear h0) | skip); (have hp := h; try simp only [decide_eq_true_eq, decide_eq_false_iff_not, Bool.not_eq_true', Bool.not_eq_false', bne_iff_ne, beq_iff_eq, beq_eq_false_iff_ne, bne_eq_false_iff_eq, Int.not_lt, Int.not_le] at hp); (try (exfalso; first | omega | (cases hp; done))));
            apply wl_isW; rfl; (rfl); rfl; rfl; (intro σ' hl; (apply g_fieldAddr; rfl; rfl; rfl));
            apply wl_isW; rfl; (rfl); rfl; rfl; (intro σ' hl; (apply g_load1; rfl; rfl; (exact .p (hl _ (by (exact True.intro)) (by ((repeat (first | exact List.Mem.head _ | refine List.Mem.tail _ ?_ | assumption)); done))) rfl)));
            apply wl_isW; rfl; (rfl); rfl; rfl; (intro σ' hl; (apply g_fieldAddr; rfl; rfl; rfl));
            apply wl_isW; rfl; (rfl); rfl; rfl; (intro σ' hl; (apply g_load1; rfl; rfl; (exact .p (hl _ (by (exact True.intro)) (by ((repeat (first | exact List.Mem.head _ | refine List.Mem.tail _ ?_ | assumption)); done))) rfl)));
            apply wl_isBW; rfl; (rfl); rfl; rfl; (intro σ' hl; (apply g_binInt; rfl; rfl; rfl)); intro _ _;
            apply wl_is; rfl; rfl; rfl; (intro σ' hl; (apply g_pick_f; rfl; (rfl); rfl));
            apply wl_is; rfl; rfl; rfl; (intro σ' hl; (apply g_move; rfl));
            refine wl_case rfl (fun h => ?_) (fun h => ?_) <;> ((first | (subst h; rename BV _ true => h0; have h := h0.eq; clear h0) | (subst h; rename BV _ false => h0; have h := h0.eq; clear h0) | skip); (have hp := h; try simp only [decide_eq_true_eq, decide_eq_false_iff_not, Bool.not_eq_true', Bool.not_eq_false', bne_iff_ne, beq_iff_eq, beq_eq_false_iff_ne, bne_eq_false_iff_eq, Int.not_lt, Int.not_le] at hp); (try (exfalso; first | omega | (cases hp; done))));
            apply wl_isW; rfl; (rfl); rfl; rfl; (intro σ' hl; (apply g_fieldAddr; rfl; rfl; rfl));
            apply wl_isW; rfl; (rfl); rfl; rfl; (intro σ' hl; (apply g_load1; rfl; rfl; (exact .p (hl _ (by (exact True.intro)) (by ((repeat (first | exact List.Mem.head _ | refine List.Mem.tail _ ?_ | assumption)); done))) rfl)));
            apply wl_isW; rfl; (rfl); rfl; rfl; (intro σ' hl; (apply g_fieldAddr; rfl; rfl; rfl));
            apply wl_isW; rfl; (rfl); rfl; rfl; (intro σ' hl; (apply g_load1; rfl; rfl; (exact .p (hl _ (by (exact True.intro)) (by ((repeat (first | exact List.Mem.head _ | refine List.Mem.tail _ ?_ | assumption)); done))) rfl)));
            apply wl_isBW; rfl; (rfl); rfl; rfl; (intro σ' hl; (apply g_binInt; rfl; rfl; rfl)); intro _ _;
            apply wl_is; rfl; rfl; rfl; (intro σ' hl; (apply g_pick_f; rfl; (rfl); rfl));
            apply wl_is; rfl; rfl; rfl; (intro σ' hl; (apply g_move; rfl));
            refine wl_case rfl (fun h => ?_) (fun h => ?_) <;> ((first | (subst h; rename BV _ true => h0; have h := h0.eq; clear h0) | (subst h; rename BV _ false => h0; have h := h0.eq; clear h0) | skip); (have hp := h; try simp only [decide_eq_true_eq, decide_eq_false_iff_not, Bool.not_eq_true', Bool.not_eq_false', bne_iff_ne, beq_iff_eq, beq_eq_false_iff_ne, bne_eq_false_iff_eq, Int.not_lt, Int.not_le] at hp); (try (exfalso; first | omega | (cases hp; done))));
            apply wl_isW; rfl; (rfl); rfl; rfl; (intro σ' hl; (apply g_move; rfl));
            apply wl_isBW; rfl; (rfl); rfl; rfl; (intro σ' hl; (apply g_binInt; rfl; rfl; rfl)); intro _ _;
            apply wl_isW; rfl; (rfl); rfl; rfl; (intro σ' hl; (apply g_move; rfl));
            refine wl_case rfl (fun h => ?_) (fun h => ?_) <;> ((first | (subst h; rename BV _ true => h0; have h := h0.eq; clear h0) | (subst h; rename BV _ false => h0; have h := h0.eq; clear h0) | skip); (have hp := h; try simp only [decide_eq_true_eq, decide_eq_false_iff_not, Bool.not_eq_true', Bool.not_eq_false', bne_iff_ne, beq_iff_eq, beq_eq_false_iff_ne, bne_eq_false_iff_eq, Int.not_lt, Int.not_le] at hp); (try (exfalso; first | omega | (cases hp; done))));
            refine wl_skip rfl (by rfl) rfl rfl ?_;
            refine wl_skip rfl (by rfl) rfl rfl ?_;
            refine wl_skip rfl (by rfl) rfl rfl ?_;
            refine wl_skip rfl (by rfl) rfl rfl ?_;
            refine wl_skip rfl (by rfl) rfl rfl ?_;
            refine wl_skip rfl (by rfl) rfl rfl ?_;
            refine wl_skip rfl (by rfl) rfl rfl ?_;
            refine wl_skip rfl (by rfl) rfl rfl ?_;
            refine wl_skip rfl (by rfl) rfl rfl ?_;
            refine wl_skip rfl (by rfl) rfl rfl ?_;
            apply wl_isW; rfl; (rfl); rfl; rfl; (intro σ' hl; (apply g_pick_f; rfl; (rfl); rfl));
            apply wl_is; rfl; rfl; rfl; (intro σ' hl; (apply g_pick_f; rfl; (rfl); rfl));
            apply wl_is; rfl; rfl; rfl; (intro σ' hl; (apply g_move; rfl));
            apply wl_isW; rfl; (rfl); rfl; rfl; (intro σ' hl; (apply g_move; rfl));
            apply wl_isW; rfl; (rfl); rfl; rfl; (intro σ' hl; (apply g_fieldAddr; rfl; rfl; rfl));
            apply wl_isW; rfl; (rfl); rfl; rfl; (intro σ' hl; (apply g_load1; rfl; rfl; (exact .p (hl _ (by (exact True.intro)) (by ((repeat (first | exact List.Mem.head _ | refine List.Mem.tail _ ?_ | assumption)); done))) rfl)));
            apply wl_isW; rfl; (rfl); rfl; rfl; (intro σ' hl; (refine g_call rfl rfl (enters_b (by kernel_rfl)) ?_; refine d1 _ ?_ ?_ ?_ ?_; exact (hl _ (by (exact True.intro)) (by ((repeat (first | exact List.Mem.head _ | refine List.Mem.tail _ ?_ | assumption)); done))); exact (hl _ (by (exact True.intro)) (by ((repeat (first | exact List.Mem.head _ | refine List.Mem.tail _ ?_ | assumption)); done))); exact (hl _ (by (exact True.intro)) (by ((repeat (first | exact List.Mem.head _ | refine List.Mem.tail _ ?_ | assumption)); done))); exact (hl _ (by (exact True.intro)) (by ((repeat (first | exact List.Mem.head _ | refine List.Mem.tail _ ?_ | assumption)); done)))));
            apply wl_isBW; rfl; (rfl); rfl; rfl; (intro σ' hl; (apply g_not; rfl)); intro _ _;
            apply wl_is; rfl; rfl; rfl; (intro σ' hl; (apply g_pick_f; rfl; (rfl); rfl));
            apply wl_is; rfl; rfl; rfl; (intro σ' hl; (apply g_move; rfl));
            refine wl_case rfl (fun h => ?_) (fun h => ?_) <;> ((first | (subst h; rename BV _ true => h0; have h := h0.eq; clear h0) | (subst h; rename BV _ false => h0; have h := h0.eq; clear h0) | skip); (have hp := h; try simp only [decide_eq_true_eq, decide_eq_false_iff_not, Bool.not_eq_true', Bool.not_eq_false', bne_iff_ne, beq_iff_eq, beq_eq_false_iff_ne, bne_eq_false_iff_eq, Int.not_lt, Int.not_le] at hp); (try (exfalso; first | omega | (cases hp; done))));
            apply wl_isW; rfl; (rfl); rfl; rfl; (intro σ' hl; (apply g_move; rfl));
            apply wl_isW; rfl; (rfl); rfl; rfl; (intro σ' hl; (apply g_fieldAddr; rfl; rfl; rfl));
            apply wl_isW; rfl; (rfl); rfl; rfl; (intro σ' hl; (apply g_load1; rfl; rfl; (exact .p (hl _ (by (exact True.intro)) (by ((repeat (first | exact List.Mem.head _ | refine List.Mem.tail _ ?_ | assumption)); done))) rfl)));
            apply wl_isW; rfl; (rfl); rfl; rfl; (intro σ' hl; (refine g_call rfl rfl (enters_b (by kernel_rfl)) ?_; refine d2 _ ?_ ?_ ?_ ?_; exact (hl _ (by (exact True.intro)) (by ((repeat (first | exact List.Mem.head _ | refine List.Mem.tail _ ?_ | assumption)); done))); exact (hl _ (by (exact True.intro)) (by ((repeat (first | exact List.Mem.head _ | refine List.Mem.tail _ ?_ | assumption)); done))); exact (hl _ (by (exact True.intro)) (by ((repeat (first | exact List.Mem.head _ | refine List.Mem.tail _ ?_ | assumption)); done))); exact (hl _ (by (exact True.intro)) (by ((repeat (first | exact List.Mem.head _ | refine List.Mem.tail _ ?_ | assumption)); done)))));
            apply wl_isBW; rfl; (rfl); rfl; rfl; (intro σ' hl; (apply g_not; rfl)); intro _ _;
            apply wl_is; rfl; rfl; rfl; (intro σ' hl; (apply g_pick_f; rfl; (rfl); rfl));
            refine wl_nil ?_; show EX _ _ _ _ _;
            refine ex_cond rfl (fun h => ?_) (fun h => ?_) <;> ((first | (subst h; rename BV _ true => h0; have h := h0.eq; clear h0) | (subst h; rename BV _ false => h0; have h := h0.eq; clear h0) | skip); (have hp := h; try simp only [decide_eq_true_eq, decide_eq_false_iff_not, Bool.not_eq_true', Bool.not_eq_false', bne_iff_ne, beq_iff_eq, beq_eq_false_iff_ne, bne_eq_false_iff_eq, Int.not_lt, Int.not_le] at hp); (try (exfalso; first | omega | (cases hp; done))));
            refine ex_skip ?_;
            refine ex_seq ?_;
            refine ex_region ?_;
            apply exl_is; rfl; rfl; rfl; (apply g_move; rfl);
            apply exl_is; rfl; rfl; rfl; (apply g_move; rfl);
            apply exl_isW; rfl; (rfl); rfl; rfl; (apply g_fieldAddr; rfl; rfl; rfl);
            apply exl_isW; rfl; (rfl); rfl; rfl; (apply g_load1; rfl; rfl; (exact .p (by ((repeat (first | exact List.Mem.head _ | refine List.Mem.tail _ ?_ | assumption)); done)) rfl));
            apply exl_isW; rfl; (rfl); rfl; rfl; (apply g_move; rfl);
            apply exl_isBW; rfl; (rfl); rfl; rfl; (apply g_binInt; rfl; rfl; rfl); intro _ _;
            apply exl_isW; rfl; (rfl); rfl; rfl; (apply g_move; rfl);
            refine exl_caseL rfl (fun h => ?_) (fun h => ?_) <;> ((first | (subst h; rename BV _ true => h0; have h := h0.eq; clear h0) | (subst h; rename BV _ false => h0; have h := h0.eq; clear h0) | skip); (have hp := h; try simp only [decide_eq_true_eq, decide_eq_false_iff_not, Bool.not_eq_true', Bool.not_eq_false', bne_iff_ne, beq_iff_eq, beq_eq_false_iff_ne, bne_eq_false_iff_eq, Int.not_lt, Int.not_le] at hp); (try (exfalso; first | omega | (cases hp; done))));
            apply exl_isW; rfl; (rfl); rfl; rfl; (apply g_move; rfl);
            apply exl_isW; rfl; (rfl); rfl; rfl; (apply g_fieldAddr; rfl; rfl; rfl);
            apply exl_isW; rfl; (rfl); rfl; rfl; (apply g_load1; rfl; rfl; (exact .p (by ((repeat (first | exact List.Mem.head _ | refine List.Mem.tail _ ?_ | assumption)); done)) rfl));
            apply exl_isBW; rfl; (rfl); rfl; rfl; (apply g_binInt; rfl; rfl; rfl); intro _ _;
            apply exl_isW; rfl; (rfl); rfl; rfl; (apply g_pick_t; rfl; (rfl); rfl);
            apply exl_is; rfl; rfl; rfl; (apply g_pick_f; rfl; (rfl); rfl);
            apply exl_is; rfl; rfl; rfl; (apply g_assign; rfl);
            refine exl_nilT ?_;
            refine ex_seq ?_;
            refine ex_region ?_;
            apply exl_is; rfl; rfl; rfl; (apply g_load1; rfl; rfl; (exact .p (by ((repeat (first | exact List.Mem.head _ | refine List.Mem.tail _ ?_ | assumption)); done)) rfl));
            apply exl_is; rfl; rfl; rfl; (apply g_load1; rfl; rfl; (exact .p (by ((repeat (first | exact List.Mem.head _ | refine List.Mem.tail _ ?_ | assumption)); done)) rfl));
            apply exl_is; rfl; rfl; rfl; (apply g_load1; rfl; rfl; (exact .p (by ((repeat (first | exact List.Mem.head _ | refine List.Mem.tail _ ?_ | assumption)); done)) rfl));
            apply exl_is; rfl; rfl; rfl; (apply g_loadAgg; rfl; decide; rfl; (exact .p (by ((repeat (first | exact List.Mem.head _ | refine List.Mem.tail _ ?_ | assumption)); done)) rfl rfl));
            apply exl_is; rfl; rfl; rfl; (refine g_call rfl rfl (enters_b (by kernel_rfl)) ?_; exact e1 _);
            apply exl_is; rfl; rfl; rfl; (apply g_move; rfl);
            apply exl_is; rfl; rfl; rfl; (apply g_extract; rfl; rfl);
            apply exl_is; rfl; rfl; rfl; (apply g_extract; rfl; rfl);
            apply exl_is; rfl; rfl; rfl; (apply g_assign; rfl);
            apply exl_is; rfl; rfl; rfl; (apply g_assign; rfl);
            refine exl_nilT ?_;
            refine ex_seq ?_;
            refine ex_region ?_;
            apply exl_is; rfl; rfl; rfl; (apply g_load1; rfl; rfl; (exact .p (by ((repeat (first | exact List.Mem.head _ | refine List.Mem.tail _ ?_ | assumption)); done)) rfl));
            apply exl_is; rfl; rfl; rfl; (apply g_load1; rfl; rfl; (exact .p (by ((repeat (first | exact List.Mem.head _ | refine List.Mem.tail _ ?_ | assumption)); done)) rfl));
            apply exl_is; rfl; rfl; rfl; (apply g_load1; rfl; rfl; (exact .p (by ((repeat (first | exact List.Mem.head _ | refine List.Mem.tail _ ?_ | assumption)); done)) rfl));
            apply exl_is; rfl; rfl; rfl; (apply g_loadAgg; rfl; decide; rfl; (exact .p (by ((repeat (first | exact List.Mem.head _ | refine List.Mem.tail _ ?_ | assumption)); done)) rfl rfl));
            apply exl_is; rfl; rfl; rfl; (refine g_call rfl rfl (enters_b (by kernel_rfl)) ?_; exact e2 _);
            apply exl_is; rfl; rfl; rfl; (apply g_move; rfl);
            apply exl_is; rfl; rfl; rfl; (apply g_extract; rfl; rfl);
            apply exl_is; rfl; rfl; rfl; (apply g_extract; rfl; rfl);
            apply exl_is; rfl; rfl; rfl; (apply g_assign; rfl);
            apply exl_is; rfl; rfl; rfl; (apply g_assign; rfl);
            refine exl_nilT ?_;
            refine ex_seq ?_;
            refine ex_seq ?_;
            refine ex_region ?_;
            apply exl_is; rfl; rfl; rfl; (apply g_move; rfl);
            apply exl_isB; rfl; rfl; rfl; (apply g_binInt; rfl; rfl; rfl); intro _ _;
            apply exl_is; rfl; rfl; rfl; (apply g_move; rfl);
            refine exl_caseL rfl (fun h => ?_) (fun h => ?_) <;> ((first | (subst h; rename BV _ true => h0; have h := h0.eq; clear h0) | (subst h; rename BV _ false => h0; have h := h0.eq; clear h0) | skip); (have hp := h; try simp only [decide_eq_true_eq, decide_eq_false_iff_not, Bool.not_eq_true', Bool.not_eq_false', bne_iff_ne, beq_iff_eq, beq_eq_false_iff_ne, bne_eq_false_iff_eq, Int.not_lt, Int.not_le] at hp); (try (exfalso; first | omega | (cases hp; done))));
            apply exl_isW; rfl; (rfl); rfl; rfl; (apply g_move; rfl);
            apply exl_isBW; rfl; (rfl); rfl; rfl; (apply g_binInt; rfl; rfl; rfl); intro _ _;
            apply exl_is; rfl; rfl; rfl; (apply g_pick_f; rfl; (rfl); rfl);
            refine exl_nilT ?_;
            refine ex_cond rfl (fun h => ?_) (fun h => ?_) <;> ((first | (subst h; rename BV _ true => h0; have h := h0.eq; clear h0) | (subst h; rename BV _ false => h0; have h := h0.eq; clear h0) | skip); (have hp := h; try simp only [decide_eq_true_eq, decide_eq_false_iff_not, Bool.not_eq_true', Bool.not_eq_false', bne_iff_ne, beq_iff_eq, beq_eq_false_iff_ne, bne_eq_false_iff_eq, Int.not_lt, Int.not_le] at hp); (try (exfalso; first | omega | (cases hp; done))));
            refine ex_skip ?_;
            refine ex_region ?_;
            apply exl_is; rfl; rfl; rfl; (apply g_move; rfl);
            apply exl_is; rfl; rfl; rfl; (apply g_move; rfl);
            apply exl_is; rfl; rfl; rfl; (apply g_move; rfl);
            apply exl_is; rfl; rfl; rfl; (apply g_sub; rfl; rfl; rfl; exact ⟨by omega, by omega⟩);
            apply exl_is; rfl; rfl; rfl; (apply g_add; rfl; rfl; rfl; exact ⟨by omega, by omega⟩);
            apply exl_is; rfl; rfl; rfl; (apply g_assign; rfl);
            refine exl_nil ?_;
            refine ex_region ?_;
            apply exl_is; rfl; rfl; rfl; (apply g_add; rfl; rfl; rfl; exact ⟨by omega, by omega⟩);
            apply exl_is; rfl; rfl; rfl; (apply g_move; rfl);
            refine exl_nil ?_;
            simp only [thenA, blockA, roundA, noGotoA, retA, ↓reduceIte, Nat.reduceEqDiff];
            rotate_left
            (all_goals (repeat (rename BV _ _ => hbv; cases hbv)))
            all_goals (try (exfalso; first | (rename true = false => hx; cases hx; done) | (rename false = true => hx; cases hx; done)))
            refine ⟨0 + 1, by omega, by omega, ?_⟩
            rw [hst, han]
            exact (St.le_of (by repeat (first | exact trivial | refine ⟨rfl, ?_⟩)) (by repeat (first | exact List.Sublist.refl _ | apply List.Sublist.cons_cons | apply List.Sublist.cons)))
          · refine ex_seq ?_;
            refine ex_region ?_;
            apply exl_isB; rfl; rfl; rfl; (apply g_binInt; rfl; rfl; rfl); intro _ _;
            refine exl_nilT ?_;
            refine ex_seq ?_;
            refine ex_cond rfl (fun h => ?_) (fun h => ?_) <;> ((first | (subst h; rename BV _ true => h0; have h := h0.eq; clear h0) | (subst h; rename BV _ false => h0; have h := h0.eq; clear h0) | skip); (have hp := h; try simp only [decide_eq_true_eq, decide_eq_false_iff_not, Bool.not_eq_true', Bool.not_eq_false', bne_iff_ne, beq_iff_eq, beq_eq_false_iff_ne, bne_eq_false_iff_eq, Int.not_lt, Int.not_le] at hp); (try (exfalso; first | omega | (cases hp; done))));
            refine ex_skip ?_;
            refine ex_seq ?_;
            refine ex_block ?_;
            refine ex_seq ?_;
            refine ex_region ?_;
            apply exl_is; rfl; rfl; rfl; (apply g_move; rfl);
            apply exl_is; rfl; rfl; rfl; (apply g_indexDl; rfl; rfl; rfl; (rfl); (assumption));
            apply exl_is; rfl; rfl; rfl; (apply g_loadAgg; rfl; decide; rfl; (exact .e rfl rfl));
            refine exl_box rfl rfl rfl (g_alloc rfl) ?_; intro _;
            apply exl_is; rfl; rfl; rfl; (apply g_assign; rfl);
            apply exl_do; rfl; rfl; (apply g_store'; rfl; rfl; rfl; (exact Upd.here); (simp only [setL, List.set_cons_zero, List.set_cons_succ, AV.cells]; rfl); rfl; rfl; rfl; exact Nat.le_of_ble_eq_true rfl);
            refine exl_nilT ?_;
            refine ex_seq ?_;
            refine ex_seq ?_;
            refine ex_drawC rfl rfl (by kernel_rfl) rfl ?_; refine ex_drawQ rfl (by kernel_rfl) rfl ?_;
            apply wl_is; rfl; rfl; rfl; (intro σ' hl; (apply g_fieldAddr; rfl; rfl; rfl));
            apply wl_is; rfl; rfl; rfl; (intro σ' hl; (apply g_load1; rfl; rfl; (exact .p (hl _ (by (exact True.intro)) (by ((repeat (first | exact List.Mem.head _ | refine List.Mem.tail _ ?_ | assumption)); done))) rfl)));
            apply wl_is; rfl; rfl; rfl; (intro σ' hl; (apply g_fieldAddr; rfl; rfl; rfl));
            apply wl_is; rfl; rfl; rfl; (intro σ' hl; (apply g_load1; rfl; rfl; (exact .p (hl _ (by (exact True.intro)) (by ((repeat (first | exact List.Mem.head _ | refine List.Mem.tail _ ?_ | assumption)); done))) rfl)));
            apply wl_isB; rfl; rfl; rfl; (intro σ' hl; (apply g_binInt; rfl; rfl; rfl)); intro _ _;
            apply wl_is; rfl; rfl; rfl; (intro σ' hl; (apply g_move; rfl));
            refine wl_case rfl (fun h => ?_) (fun h => ?_) <;> ((first | (subst h; rename BV _ true => h0; have h := h0.eq; clear h0) | (subst h; rename BV _ false => h0; have h := h0.eq; clear h0) | skip); (have hp := h; try simp only [decide_eq_true_eq, decide_eq_false_iff_not, Bool.not_eq_true', Bool.not_eq_false', bne_iff_ne, beq_iff_eq, beq_eq_false_iff_ne, bne_eq_false_iff_eq, Int.not_lt, Int.not_le] at hp); (try (exfalso; first | omega | (cases hp; done))));
            apply wl_isW; rfl; (rfl); rfl; rfl; (intro σ' hl; (apply g_fieldAddr; rfl; rfl; rfl));
            apply wl_isW; rfl; (rfl); rfl; rfl; (intro σ' hl; (apply g_load1; rfl; rfl; (exact .p (hl _ (by (exact True.intro)) (by ((repeat (first | exact List.Mem.head _ | refine List.Mem.tail _ ?_ | assumption)); done))) rfl)));
            apply wl_isW; rfl; (rfl); rfl; rfl; (intro σ' hl; (apply g_fieldAddr; rfl; rfl; rfl));
            apply wl_isW; rfl; (rfl); rfl; rfl; (intro σ' hl; (apply g_load1; rfl; rfl; (exact .p (hl _ (by (exact True.intro)) (by ((repeat (first | exact List.Mem.head _ | refine List.Mem.tail _ ?_ | assumption)); done))) rfl)));
            apply wl_isBW; rfl; (rfl); rfl; rfl; (intro σ' hl; (apply g_binInt; rfl; rfl; rfl)); intro _ _;
            apply wl_is; rfl; rfl; rfl; (intro σ' hl; (apply g_pick_f; rfl; (rfl); rfl));
            apply wl_is; rfl; rfl; rfl; (intro σ' hl; (apply g_move; rfl));
            refine wl_case rfl (fun h => ?_) (fun h => ?_) <;> ((first | (subst h; rename BV _ true => h0; have h := h0.eq; clear h0) | (subst h; rename BV _ false => h0; have h := h0.eq; clear h0) | skip); (have hp := h; try simp only [decide_eq_true_eq, decide_eq_false_iff_not, Bool.not_eq_true', Bool.not_eq_false', bne_iff_ne, beq_iff_eq, beq_eq_false_iff_ne, bne_eq_false_iff_eq, Int.not_lt, Int.not_le] at hp); (try (exfalso; first | omega | (cases hp; done))));
            apply wl_isW; rfl; (rfl); rfl; rfl; (intro σ' hl; (apply g_fieldAddr; rfl; rfl; rfl));
            apply wl_isW; rfl; (rfl); rfl; rfl; (intro σ' hl; (apply g_load1; rfl; rfl; (exact .p (hl _ (by (exact True.intro)) (by ((repeat (first | exact List.Mem.head _ | refine List.Mem.tail _ ?_ | assumption)); done))) rfl)));
            apply wl_isW; rfl; (rfl); rfl; rfl; (intro σ' hl; (apply g_fieldAddr; rfl; rfl; rfl));
            apply wl_isW; rfl; (rfl); rfl; rfl; (intro σ' hl; (apply g_load1; rfl; rfl; (exact .p (hl _ (by (exact True.intro)) (by ((repeat (first | exact List.Mem.head _ | refine List.Mem.tail _ ?_ | assumption)); done))) rfl)));
            apply wl_isBW; rfl; (rfl); rfl; rfl; (intro σ' hl; (apply g_binInt; rfl; rfl; rfl)); intro _ _;
            apply wl_is; rfl; rfl; rfl; (intro σ' hl; (apply g_pick_f; rfl; (rfl); rfl));
            apply wl_is; rfl; rfl; rfl; (intro σ' hl; (apply g_move; rfl));
            refine wl_case rfl (fun h => ?_) (fun h => ?_) <;> ((first | (subst h; rename BV _ true => h0; have h := h0.eq; clear h0) | (subst h; rename BV _ false => h0; have h := h0.eq; clear h0) | skip); (have hp := h; try simp only [decide_eq_true_eq, decide_eq_false_iff_not, Bool.not_eq_true', Bool.not_eq_false', bne_iff_ne, beq_iff_eq, beq_eq_false_iff_ne, bne_eq_false_iff_eq, Int.not_lt, Int.not_le] at hp); (try (exfalso; first | omega | (cases hp; done))));
            apply wl_isW; rfl; (rfl); rfl; rfl; (intro σ' hl; (apply g_move; rfl));
            apply wl_isBW; rfl; (rfl); rfl; rfl; (intro σ' hl; (apply g_binInt; rfl; rfl; rfl)); intro _ _;
            apply wl_isW; rfl; (rfl); rfl; rfl; (intro σ' hl; (apply g_move; rfl));
            refine wl_case rfl (fun h => ?_) (fun h => ?_) <;> ((first | (subst h; rename BV _ true => h0; have h := h0.eq; clear h0) | (subst h; rename BV _ false => h0; have h := h0.eq; clear h0) | skip); (have hp := h; try simp only [decide_eq_true_eq, decide_eq_false_iff_not, Bool.not_eq_true', Bool.not_eq_false', bne_iff_ne, beq_iff_eq, beq_eq_false_iff_ne, bne_eq_false_iff_eq, Int.not_lt, Int.not_le] at hp); (try (exfalso; first | omega | (cases hp; done))));
            refine wl_skip rfl (by rfl) rfl rfl ?_;
            refine wl_skip rfl (by rfl) rfl rfl ?_;
            refine wl_skip rfl (by rfl) rfl rfl ?_;
            refine wl_skip rfl (by rfl) rfl rfl ?_;
            refine wl_skip rfl (by rfl) rfl rfl ?_;
            refine wl_skip rfl (by rfl) rfl rfl ?_;
            refine wl_skip rfl (by rfl) rfl rfl ?_;
            refine wl_skip rfl (by rfl) rfl rfl ?_;
            refine wl_skip rfl (by rfl) rfl rfl ?_;
            refine wl_skip rfl (by rfl) rfl rfl ?_;
            apply wl_isW; rfl; (rfl); rfl; rfl; (intro σ' hl; (apply g_pick_f; rfl; (rfl); rfl));
            apply wl_is; rfl; rfl; rfl; (intro σ' hl; (apply g_pick_f; rfl; (rfl); rfl));
            apply wl_is; rfl; rfl; rfl; (intro σ' hl; (apply g_move; rfl));
            apply wl_isW; rfl; (rfl); rfl; rfl; (intro σ' hl; (apply g_move; rfl));
            apply wl_isW; rfl; (rfl); rfl; rfl; (intro σ' hl; (apply g_fieldAddr; rfl; rfl; rfl));
            apply wl_isW; rfl; (rfl); rfl; rfl; (intro σ' hl; (apply g_load1; rfl; rfl; (exact .p (hl _ (by (exact True.intro)) (by ((repeat (first | exact List.Mem.head _ | refine List.Mem.tail _ ?_ | assumption)); done))) rfl)));
            apply wl_isW; rfl; (rfl); rfl; rfl; (intro σ' hl; (refine g_call rfl rfl (enters_b (by kernel_rfl)) ?_; refine d1 _ ?_ ?_ ?_ ?_; exact (hl _ (by (exact True.intro)) (by ((repeat (first | exact List.Mem.head _ | refine List.Mem.tail _ ?_ | assumption)); done))); exact (hl _ (by (exact True.intro)) (by ((repeat (first | exact List.Mem.head _ | refine List.Mem.tail _ ?_ | assumption)); done))); exact (hl _ (by (exact True.intro)) (by ((repeat (first | exact List.Mem.head _ | refine List.Mem.tail _ ?_ | assumption)); done))); exact (hl _ (by (exact True.intro)) (by ((repeat (first | exact List.Mem.head _ | refine List.Mem.tail _ ?_ | assumption)); done)))));
            apply wl_isBW; rfl; (rfl); rfl; rfl; (intro σ' hl; (apply g_not; rfl)); intro _ _;
            apply wl_is; rfl; rfl; rfl; (intro σ' hl; (apply g_pick_f; rfl; (rfl); rfl));
            apply wl_is; rfl; rfl; rfl; (intro σ' hl; (apply g_move; rfl));
            refine wl_case rfl (fun h => ?_) (fun h => ?_) <;> ((first | (subst h; rename BV _ true => h0; have h := h0.eq; clear h0) | (subst h; rename BV _ false => h0; have h := h0.eq; clear h0) | skip); (have hp := h; try simp only [decide_eq_true_eq, decide_eq_false_iff_not, Bool.not_eq_true', Bool.not_eq_false', bne_iff_ne, beq_iff_eq, beq_eq_false_iff_ne, bne_eq_false_iff_eq, Int.not_lt, Int.not_le] at hp); (try (exfalso; first | omega | (cases hp; done))));
            apply wl_isW; rfl; (rfl); rfl; rfl; (intro σ' hl; (apply g_move; rfl));
            apply wl_isW; rfl; (rfl); rfl; rfl; (intro σ' hl; (apply g_fieldAddr; rfl; rfl; rfl));
            apply wl_isW; rfl; (rfl); rfl; rfl; (intro σ' hl; (apply g_load1; rfl; rfl; (exact .p (hl _ (by (exact True.intro)) (by ((repeat (first | exact List.Mem.head _ | refine List.Mem.tail _ ?_ | assumption)); done))) rfl)));
            apply wl_isW; rfl; (rfl); rfl; rfl; (intro σ' hl; (refine g_call rfl rfl (enters_b (by kernel_rfl)) ?_; refine d2 _ ?_ ?_ ?_ ?_; exact (hl _ (by (exact True.intro)) (by ((repeat (first | exact List.Mem.head _ | refine List.Mem.tail _ ?_ | assumption)); done))); exact (hl _ (by (exact True.intro)) (by ((repeat (first | exact List.Mem.head _ | refine List.Mem.tail _ ?_ | assumption)); done))); exact (hl _ (by (exact True.intro)) (by ((repeat (first | exact List.Mem.head _ | refine List.Mem.tail _ ?_ | assumption)); done))); exact (hl _ (by (exact True.intro)) (by ((repeat (first | exact List.Mem.head _ | refine List.Mem.tail _ ?_ | assumption)); done)))));
            apply wl_isBW; rfl; (rfl); rfl; rfl; (intro σ' hl; (apply g_not; rfl)); intro _ _;
            apply wl_is; rfl; rfl; rfl; (intro σ' hl; (apply g_pick_f; rfl; (rfl); rfl));
            refine wl_nil ?_; show EX _ _ _ _ _;
            refine ex_cond rfl (fun h => ?_) (fun h => ?_) <;> ((first | (subst h; rename BV _ true => h0; have h := h0.eq; clear h0) | (subst h; rename BV _ false => h0; have h := h0.eq; clear h0) | skip); (have hp := h; try simp only [decide_eq_true_eq, decide_eq_false_iff_not, Bool.not_eq_true', Bool.not_eq_false', bne_iff_ne, beq_iff_eq, beq_eq_false_iff_ne, bne_eq_false_iff_eq, Int.not_lt, Int.not_le] at hp); (try (exfalso; first | omega | (cases hp; done))));
            refine ex_skip ?_;
            refine ex_seq ?_;
            refine ex_region ?_;
            apply exl_is; rfl; rfl; rfl; (apply g_move; rfl);
            apply exl_is; rfl; rfl; rfl; (apply g_move; rfl);
            apply exl_isW; rfl; (rfl); rfl; rfl; (apply g_fieldAddr; rfl; rfl; rfl);
            apply exl_isW; rfl; (rfl); rfl; rfl; (apply g_load1; rfl; rfl; (exact .p (by ((repeat (first | exact List.Mem.head _ | refine List.Mem.tail _ ?_ | assumption)); done)) rfl));
            apply exl_isW; rfl; (rfl); rfl; rfl; (apply g_move; rfl);
            apply exl_isBW; rfl; (rfl); rfl; rfl; (apply g_binInt; rfl; rfl; rfl); intro _ _;
            apply exl_isW; rfl; (rfl); rfl; rfl; (apply g_move; rfl);
            refine exl_caseL rfl (fun h => ?_) (fun h => ?_) <;> ((first | (subst h; rename BV _ true => h0; have h := h0.eq; clear h0) | (subst h; rename BV _ false => h0; have h := h0.eq; clear h0) | skip); (have hp := h; try simp only [decide_eq_true_eq, decide_eq_false_iff_not, Bool.not_eq_true', Bool.not_eq_false', bne_iff_ne, beq_iff_eq, beq_eq_false_iff_ne, bne_eq_false_iff_eq, Int.not_lt, Int.not_le] at hp); (try (exfalso; first | omega | (cases hp; done))));
            refine exl_skipL rfl (by rfl) rfl rfl ?_;
            refine exl_skipL rfl (by rfl) rfl rfl ?_;
            refine exl_skipL rfl (by rfl) rfl rfl ?_;
            refine exl_skipL rfl (by rfl) rfl rfl ?_;
            apply exl_isW; rfl; (rfl); rfl; rfl; (apply g_pick_f; rfl; (rfl); rfl);
            apply exl_is; rfl; rfl; rfl; (apply g_pick_f; rfl; (rfl); rfl);
            apply exl_is; rfl; rfl; rfl; (apply g_assign; rfl);
            refine exl_nilT ?_;
            refine ex_seq ?_;
            refine ex_region ?_;
            apply exl_is; rfl; rfl; rfl; (apply g_load1; rfl; rfl; (exact .p (by ((repeat (first | exact List.Mem.head _ | refine List.Mem.tail _ ?_ | assumption)); done)) rfl));
            apply exl_is; rfl; rfl; rfl; (apply g_load1; rfl; rfl; (exact .p (by ((repeat (first | exact List.Mem.head _ | refine List.Mem.tail _ ?_ | assumption)); done)) rfl));
            apply exl_is; rfl; rfl; rfl; (apply g_load1; rfl; rfl; (exact .p (by ((repeat (first | exact List.Mem.head _ | refine List.Mem.tail _ ?_ | assumption)); done)) rfl));
            apply exl_is; rfl; rfl; rfl; (apply g_loadAgg; rfl; decide; rfl; (exact .p (by ((repeat (first | exact List.Mem.head _ | refine List.Mem.tail _ ?_ | assumption)); done)) rfl rfl));
            apply exl_is; rfl; rfl; rfl; (refine g_call rfl rfl (enters_b (by kernel_rfl)) ?_; exact e1 _);
            apply exl_is; rfl; rfl; rfl; (apply g_move; rfl);
            apply exl_is; rfl; rfl; rfl; (apply g_extract; rfl; rfl);
            apply exl_is; rfl; rfl; rfl; (apply g_extract; rfl; rfl);
            apply exl_is; rfl; rfl; rfl; (apply g_assign; rfl);
            apply exl_is; rfl; rfl; rfl; (apply g_assign; rfl);
            refine exl_nilT ?_;
            refine ex_seq ?_;
            refine ex_region ?_;
            apply exl_is; rfl; rfl; rfl; (apply g_load1; rfl; rfl; (exact .p (by ((repeat (first | exact List.Mem.head _ | refine List.Mem.tail _ ?_ | assumption)); done)) rfl));
            apply exl_is; rfl; rfl; rfl; (apply g_load1; rfl; rfl; (exact .p (by ((repeat (first | exact List.Mem.head _ | refine List.Mem.tail _ ?_ | assumption)); done)) rfl));
            apply exl_is; rfl; rfl; rfl; (apply g_load1; rfl; rfl; (exact .p (by ((repeat (first | exact List.Mem.head _ | refine List.Mem.tail _ ?_ | assumption)); done)) rfl));
            apply exl_is; rfl; rfl; rfl; (apply g_loadAgg; rfl; decide; rfl; (exact .p (by ((repeat (first | exact List.Mem.head _ | refine List.Mem.tail _ ?_ | assumption)); done)) rfl rfl));
            apply exl_is; rfl; rfl; rfl; (refine g_call rfl rfl (enters_b (by kernel_rfl)) ?_; exact e2 _);
            apply exl_is; rfl; rfl; rfl; (apply g_move; rfl);
            apply exl_is; rfl; rfl; rfl; (apply g_extract; rfl; rfl);
            apply exl_is; rfl; rfl; rfl; (apply g_extract; rfl; rfl);
            apply exl_is; rfl; rfl; rfl; (apply g_assign; rfl);
            apply exl_is; rfl; rfl; rfl; (apply g_assign; rfl);
            refine exl_nilT ?_;
            refine ex_seq ?_;
            refine ex_seq ?_;
            refine ex_region ?_;
            apply exl_is; rfl; rfl; rfl; (apply g_move; rfl);
            apply exl_isB; rfl; rfl; rfl; (apply g_binInt; rfl; rfl; rfl); intro _ _;
            apply exl_is; rfl; rfl; rfl; (apply g_move; rfl);
            refine exl_caseL rfl (fun h => ?_) (fun h => ?_) <;> ((first | (subst h; rename BV _ true => h0; have h := h0.eq; clear h0) | (subst h; rename BV _ false => h0; have h := h0.eq; clear h0) | skip); (have hp := h; try simp only [decide_eq_true_eq, decide_eq_false_iff_not, Bool.not_eq_true', Bool.not_eq_false', bne_iff_ne, beq_iff_eq, beq_eq_false_iff_ne, bne_eq_false_iff_eq, Int.not_lt, Int.not_le] at hp); (try (exfalso; first | omega | (cases hp; done))));
            apply exl_isW; rfl; (rfl); rfl; rfl; (apply g_move; rfl);
            apply exl_isBW; rfl; (rfl); rfl; rfl; (apply g_binInt; rfl; rfl; rfl); intro _ _;
            apply exl_is; rfl; rfl; rfl; (apply g_pick_f; rfl; (rfl); rfl);
            refine exl_nilT ?_;
            refine ex_cond rfl (fun h => ?_) (fun h => ?_) <;> ((first | (subst h; rename BV _ true => h0; have h := h0.eq; clear h0) | (subst h; rename BV _ false => h0; have h := h0.eq; clear h0) | skip); (have hp := h; try simp only [decide_eq_true_eq, decide_eq_false_iff_not, Bool.not_eq_true', Bool.not_eq_false', bne_iff_ne, beq_iff_eq, beq_eq_false_iff_ne, bne_eq_false_iff_eq, Int.not_lt, Int.not_le] at hp); (try (exfalso; first | omega | (cases hp; done))));
            refine ex_skip ?_;
            refine ex_region ?_;
            apply exl_is; rfl; rfl; rfl; (apply g_move; rfl);
            apply exl_is; rfl; rfl; rfl; (apply g_move; rfl);
            apply exl_is; rfl; rfl; rfl; (apply g_move; rfl);
            apply exl_is; rfl; rfl; rfl; (apply g_sub; rfl; rfl; rfl; exact ⟨by omega, by omega⟩);
            apply exl_is; rfl; rfl; rfl; (apply g_add; rfl; rfl; rfl; exact ⟨by omega, by omega⟩);
            apply exl_is; rfl; rfl; rfl; (apply g_assign; rfl);
            refine exl_nil ?_;
            refine ex_region ?_;
            apply exl_is; rfl; rfl; rfl; (apply g_add; rfl; rfl; rfl; exact ⟨by omega, by omega⟩);
            apply exl_is; rfl; rfl; rfl; (apply g_move; rfl);
            refine exl_nil ?_;
            simp only [thenA, blockA, roundA, noGotoA, retA, ↓reduceIte, Nat.reduceEqDiff];
            rotate_left
            (all_goals (repeat (rename BV _ _ => hbv; cases hbv)))
            all_goals (try (exfalso; first | (rename true = false => hx; cases hx; done) | (rename false = true => hx; cases hx; done)))
            all_goals
              refine ⟨0 + 1, by omega, by omega, ?_⟩
              rw [hst, han]
              exact (St.le_of (by repeat (first | exact trivial | refine ⟨rfl, ?_⟩)) (by repeat (first | exact List.Sublist.refl _ | apply List.Sublist.cons_cons | apply List.Sublist.cons)))
        | succ j =>
          obtain ⟨z, hz⟩ : ∃ z, X[j]? = some z := ⟨_, List.getElem?_eq_getElem (by omega)⟩
          have hgz : (X.map rgC)[j]? = some (rgC z) := by rw [List.getElem?_map, hz]; rfl
          obtain ⟨hz1, hz2, hz3⟩ := htwo j z rfl hz
          have hjz : ((j + 1 : Nat) : Int) - 1 = ((j : Nat) : Int) := by omega
          clear htwo
          rcases hcase with ⟨rfl, han⟩ | ⟨rfl, hin, han⟩ | ⟨rfl, hin, han⟩
          · refine ex_seq ?_;
            refine ex_region ?_;
            apply exl_isB; rfl; rfl; rfl; (apply g_binInt; rfl; rfl; rfl); intro _ _;
            refine exl_nilT ?_;
            refine ex_seq ?_;
            refine ex_cond rfl (fun h => ?_) (fun h => ?_) <;> ((first | (subst h; rename BV _ true => h0; have h := h0.eq; clear h0) | (subst h; rename BV _ false => h0; have h := h0.eq; clear h0) | skip); (have hp := h; try simp only [decide_eq_true_eq, decide_eq_false_iff_not, Bool.not_eq_true', Bool.not_eq_false', bne_iff_ne, beq_iff_eq, beq_eq_false_iff_ne, bne_eq_false_iff_eq, Int.not_lt, Int.not_le] at hp); (try (exfalso; first | omega | (cases hp; done))));
            refine ex_skip ?_;
            refine ex_seq ?_;
            refine ex_block ?_;
            refine ex_seq ?_;
            refine ex_region ?_;
            apply exl_is; rfl; rfl; rfl; (apply g_move; rfl);
            apply exl_is; rfl; rfl; rfl; (apply g_indexDl; rfl; rfl; rfl; (rfl); (assumption));
            apply exl_is; rfl; rfl; rfl; (apply g_loadAgg; rfl; decide; rfl; (exact .e rfl rfl));
            refine exl_box rfl rfl rfl (g_alloc rfl) ?_; intro _;
            apply exl_is; rfl; rfl; rfl; (apply g_assign; rfl);
            apply exl_do; rfl; rfl; (apply g_store'; rfl; rfl; rfl; (exact Upd.here); (simp only [setL, List.set_cons_zero, List.set_cons_succ, AV.cells]; rfl); rfl; rfl; rfl; exact Nat.le_of_ble_eq_true rfl);
            refine exl_nilT ?_;
            refine ex_seq ?_;
            refine ex_seq ?_;
            refine ex_drawC rfl rfl (by kernel_rfl) rfl ?_; refine ex_drawQ rfl (by kernel_rfl) rfl ?_;
            apply wl_is; rfl; rfl; rfl; (intro σ' hl; (apply g_fieldAddr; rfl; rfl; rfl));
            apply wl_is; rfl; rfl; rfl; (intro σ' hl; (apply g_load1; rfl; rfl; (exact .p (hl _ (by (exact True.intro)) (by ((repeat (first | exact List.Mem.head _ | refine List.Mem.tail _ ?_ | assumption)); done))) rfl)));
            apply wl_is; rfl; rfl; rfl; (intro σ' hl; (apply g_fieldAddr; rfl; rfl; rfl));
            apply wl_is; rfl; rfl; rfl; (intro σ' hl; (apply g_load1; rfl; rfl; (exact .p (hl _ (by (exact True.intro)) (by ((repeat (first | exact List.Mem.head _ | refine List.Mem.tail _ ?_ | assumption)); done))) rfl)));
            apply wl_isB; rfl; rfl; rfl; (intro σ' hl; (apply g_binInt; rfl; rfl; rfl)); intro _ _;
            apply wl_is; rfl; rfl; rfl; (intro σ' hl; (apply g_move; rfl));
            refine wl_case rfl (fun h => ?_) (fun h => ?_) <;> ((first | (subst h; rename BV _ true => h0; have h := h0.eq; clear h0) | (subst h; rename BV _ false => h0; have h := h0.eq; clear h0) | skip); (have hp := h; try simp only [decide_eq_true_eq, decide_eq_false_iff_not, Bool.not_eq_true', Bool.not_eq_false', bne_iff_ne, beq_iff_eq, beq_eq_false_iff_ne, bne_eq_false_iff_eq, Int.not_lt, Int.not_le] at hp); (try (exfalso; first | omega | (cases hp; done))));
            apply wl_isW; rfl; (rfl); rfl; rfl; (intro σ' hl; (apply g_fieldAddr; rfl; rfl; rfl));
            apply wl_isW; rfl; (rfl); rfl; rfl; (intro σ' hl; (apply g_load1; rfl; rfl; (exact .p (hl _ (by (exact True.intro)) (by ((repeat (first | exact List.Mem.head _ | refine List.Mem.tail _ ?_ | assumption)); done))) rfl)));
            apply wl_isW; rfl; (rfl); rfl; rfl; (intro σ' hl; (apply g_fieldAddr; rfl; rfl; rfl));
            apply wl_isW; rfl; (rfl); rfl; rfl; (intro σ' hl; (apply g_load1; rfl; rfl; (exact .p (hl _ (by (exact True.intro)) (by ((repeat (first | exact List.Mem.head _ | refine List.Mem.tail _ ?_ | assumption)); done))) rfl)));
            apply wl_isBW; rfl; (rfl); rfl; rfl; (intro σ' hl; (apply g_binInt; rfl; rfl; rfl)); intro _ _;
            apply wl_is; rfl; rfl; rfl; (intro σ' hl; (apply g_pick_f; rfl; (rfl); rfl));
            apply wl_is; rfl; rfl; rfl; (intro σ' hl; (apply g_move; rfl));
            refine wl_case rfl (fun h => ?_) (fun h => ?_) <;> ((first | (subst h; rename BV _ true => h0; have h := h0.eq; clear h0) | (subst h; rename BV _ false => h0; have h := h0.eq; clear h0) | skip); (have hp := h; try simp only [decide_eq_true_eq, decide_eq_false_iff_not, Bool.not_eq_true', Bool.not_eq_false', bne_iff_ne, beq_iff_eq, beq_eq_false_iff_ne, bne_eq_false_iff_eq, Int.not_lt, Int.not_le] at hp); (try (exfalso; first | omega | (cases hp; done))));
            apply wl_isW; rfl; (rfl); rfl; rfl; (intro σ' hl; (apply g_fieldAddr; rfl; rfl; rfl));
            apply wl_isW; rfl; (rfl); rfl; rfl; (intro σ' hl; (apply g_load1; rfl; rfl; (exact .p (hl _ (by (exact True.intro)) (by ((repeat (first | exact List.Mem.head _ | refine List.Mem.tail _ ?_ | assumption)); done))) rfl)));
            apply wl_isW; rfl; (rfl); rfl; rfl; (intro σ' hl; (apply g_fieldAddr; rfl; rfl; rfl));
            apply wl_isW; rfl; (rfl); rfl; rfl; (intro σ' hl; (apply g_load1; rfl; rfl; (exact .p (hl _ (by (exact True.intro)) (by ((repeat (first | exact List.Mem.head _ | refine List.Mem.tail _ ?_ | assumption)); done))) rfl)));
            apply wl_isBW; rfl; (rfl); rfl; rfl; (intro σ' hl; (apply g_binInt; rfl; rfl; rfl)); intro _ _;
            apply wl_is; rfl; rfl; rfl; (intro σ' hl; (apply g_pick_f; rfl; (rfl); rfl));
            apply wl_is; rfl; rfl; rfl; (intro σ' hl; (apply g_move; rfl));
            refine wl_case rfl (fun h => ?_) (fun h => ?_) <;> ((first | (subst h; rename BV _ true => h0; have h := h0.eq; clear h0) | (subst h; rename BV _ false => h0; have h := h0.eq; clear h0) | skip); (have hp := h; try simp only [decide_eq_true_eq, decide_eq_false_iff_not, Bool.not_eq_true', Bool.not_eq_false', bne_iff_ne, beq_iff_eq, beq_eq_false_iff_ne, bne_eq_false_iff_eq, Int.not_lt, Int.not_le] at hp); (try (exfalso; first | omega | (cases hp; done))));
            apply wl_isW; rfl; (rfl); rfl; rfl; (intro σ' hl; (apply g_move; rfl));
            apply wl_isBW; rfl; (rfl); rfl; rfl; (intro σ' hl; (apply g_binInt; rfl; rfl; rfl)); intro _ _;
            apply wl_isW; rfl; (rfl); rfl; rfl; (intro σ' hl; (apply g_move; rfl));
            refine wl_case rfl (fun h => ?_) (fun h => ?_) <;> ((first | (subst h; rename BV _ true => h0; have h := h0.eq; clear h0) | (subst h; rename BV _ false => h0; have h := h0.eq; clear h0) | skip); (have hp := h; try simp only [decide_eq_true_eq, decide_eq_false_iff_not, Bool.not_eq_true', Bool.not_eq_false', bne_iff_ne, beq_iff_eq, beq_eq_false_iff_ne, bne_eq_false_iff_eq, Int.not_lt, Int.not_le] at hp); (try (exfalso; first | omega | (cases hp; done))));
            apply wl_isW; rfl; (rfl); rfl; rfl; (intro σ' hl; (apply g_fieldAddr; rfl; rfl; rfl));
            apply wl_isW; rfl; (rfl); rfl; rfl; (intro σ' hl; (apply g_load1; rfl; rfl; (exact .p (hl _ (by (exact True.intro)) (by ((repeat (first | exact List.Mem.head _ | refine List.Mem.tail _ ?_ | assumption)); done))) rfl)));
            apply wl_isW; rfl; (rfl); rfl; rfl; (intro σ' hl; (apply g_move; rfl));
            apply wl_isW; rfl; (rfl); rfl; rfl; (intro σ' hl; (apply g_move; rfl));
            apply wl_isW; rfl; (rfl); rfl; rfl; (intro σ' hl; (apply g_sub; rfl; rfl; rfl; exact ⟨by omega, by omega⟩));
            apply wl_isW; rfl; (rfl); rfl; rfl; (intro σ' hl; (apply g_indexDl; rfl; rfl; rfl; (assumption); (assumption)));
            apply wl_isW; rfl; (rfl); rfl; rfl; (intro σ' hl; (apply g_fieldAddr; rfl; rfl; rfl));
            apply wl_isW; rfl; (rfl); rfl; rfl; (intro σ' hl; (apply g_load1; rfl; rfl; (exact .e rfl)));
            apply wl_isW; rfl; (rfl); rfl; rfl; (intro σ' hl; (apply g_add; rfl; rfl; rfl; exact ⟨by omega, by omega⟩));
            apply wl_isBW; rfl; (rfl); rfl; rfl; (intro σ' hl; (apply g_binInt; rfl; rfl; rfl)); intro _ _;
            apply wl_isW; rfl; (rfl); rfl; rfl; (intro σ' hl; (apply g_pick_t; rfl; (rfl); rfl));
            apply wl_is; rfl; rfl; rfl; (intro σ' hl; (apply g_pick_f; rfl; (rfl); rfl));
            apply wl_is; rfl; rfl; rfl; (intro σ' hl; (apply g_move; rfl));
            refine wl_case rfl (fun h => ?_) (fun h => ?_) <;> ((first | (subst h; rename BV _ true => h0; have h := h0.eq; clear h0) | (subst h; rename BV _ false => h0; have h := h0.eq; clear h0) | skip); (have hp := h; try simp only [decide_eq_true_eq, decide_eq_false_iff_not, Bool.not_eq_true', Bool.not_eq_false', bne_iff_ne, beq_iff_eq, beq_eq_false_iff_ne, bne_eq_false_iff_eq, Int.not_lt, Int.not_le] at hp); (try (exfalso; first | omega | (cases hp; done))));
            apply wl_isW; rfl; (rfl); rfl; rfl; (intro σ' hl; (apply g_move; rfl));
            apply wl_isW; rfl; (rfl); rfl; rfl; (intro σ' hl; (apply g_fieldAddr; rfl; rfl; rfl));
            apply wl_isW; rfl; (rfl); rfl; rfl; (intro σ' hl; (apply g_load1; rfl; rfl; (exact .p (hl _ (by (exact True.intro)) (by ((repeat (first | exact List.Mem.head _ | refine List.Mem.tail _ ?_ | assumption)); done))) rfl)));
            apply wl_isW; rfl; (rfl); rfl; rfl; (intro σ' hl; (refine g_call rfl rfl (enters_b (by kernel_rfl)) ?_; refine d1 _ ?_ ?_ ?_ ?_; exact (hl _ (by (exact True.intro)) (by ((repeat (first | exact List.Mem.head _ | refine List.Mem.tail _ ?_ | assumption)); done))); exact (hl _ (by (exact True.intro)) (by ((repeat (first | exact List.Mem.head _ | refine List.Mem.tail _ ?_ | assumption)); done))); exact (hl _ (by (exact True.intro)) (by ((repeat (first | exact List.Mem.head _ | refine List.Mem.tail _ ?_ | assumption)); done))); exact (hl _ (by (exact True.intro)) (by ((repeat (first | exact List.Mem.head _ | refine List.Mem.tail _ ?_ | assumption)); done)))));
            apply wl_isBW; rfl; (rfl); rfl; rfl; (intro σ' hl; (apply g_not; rfl)); intro _ _;
            apply wl_is; rfl; rfl; rfl; (intro σ' hl; (apply g_pick_f; rfl; (rfl); rfl));
            apply wl_is; rfl; rfl; rfl; (intro σ' hl; (apply g_move; rfl));
            refine wl_case rfl (fun h => ?_) (fun h => ?_) <;> ((first | (subst h; rename BV _ true => h0; have h := h0.eq; clear h0) | (subst h; rename BV _ false => h0; have h := h0.eq; clear h0) | skip); (have hp := h; try simp only [decide_eq_true_eq, decide_eq_false_iff_not, Bool.not_eq_true', Bool.not_eq_false', bne_iff_ne, beq_iff_eq, beq_eq_false_iff_ne, bne_eq_false_iff_eq, Int.not_lt, Int.not_le] at hp); (try (exfalso; first | omega | (cases hp; done))));
            apply wl_isW; rfl; (rfl); rfl; rfl; (intro σ' hl; (apply g_move; rfl));
            apply wl_isW; rfl; (rfl); rfl; rfl; (intro σ' hl; (apply g_fieldAddr; rfl; rfl; rfl));
            apply wl_isW; rfl; (rfl); rfl; rfl; (intro σ' hl; (apply g_load1; rfl; rfl; (exact .p (hl _ (by (exact True.intro)) (by ((repeat (first | exact List.Mem.head _ | refine List.Mem.tail _ ?_ | assumption)); done))) rfl)));
            apply wl_isW; rfl; (rfl); rfl; rfl; (intro σ' hl; (refine g_call rfl rfl (enters_b (by kernel_rfl)) ?_; refine d2 _ ?_ ?_ ?_ ?_; exact (hl _ (by (exact True.intro)) (by ((repeat (first | exact List.Mem.head _ | refine List.Mem.tail _ ?_ | assumption)); done))); exact (hl _ (by (exact True.intro)) (by ((repeat (first | exact List.Mem.head _ | refine List.Mem.tail _ ?_ | assumption)); done))); exact (hl _ (by (exact True.intro)) (by ((repeat (first | exact List.Mem.head _ | refine List.Mem.tail _ ?_ | assumption)); done))); exact (hl _ (by (exact True.intro)) (by ((repeat (first | exact List.Mem.head _ | refine List.Mem.tail _ ?_ | assumption)); done)))));
            apply wl_isBW; rfl; (rfl); rfl; rfl; (intro σ' hl; (apply g_not; rfl)); intro _ _;
            apply wl_is; rfl; rfl; rfl; (intro σ' hl; (apply g_pick_f; rfl; (rfl); rfl));
            refine wl_nil ?_; show EX _ _ _ _ _;
            refine ex_cond rfl (fun h => ?_) (fun h => ?_) <;> ((first | (subst h; rename BV _ true => h0; have h := h0.eq; clear h0) | (subst h; rename BV _ false => h0; have h := h0.eq; clear h0) | skip); (have hp := h; try simp only [decide_eq_true_eq, decide_eq_false_iff_not, Bool.not_eq_true', Bool.not_eq_false', bne_iff_ne, beq_iff_eq, beq_eq_false_iff_ne, bne_eq_false_iff_eq, Int.not_lt, Int.not_le] at hp); (try (exfalso; first | omega | (cases hp; done))));
            refine ex_skip ?_;
            refine ex_seq ?_;
            refine ex_region ?_;
            apply exl_is; rfl; rfl; rfl; (apply g_move; rfl);
            apply exl_is; rfl; rfl; rfl; (apply g_move; rfl);
            refine exl_skipL rfl (by rfl) rfl rfl ?_;
            refine exl_skipL rfl (by rfl) rfl rfl ?_;
            refine exl_skipL rfl (by rfl) rfl rfl ?_;
            refine exl_skipL rfl (by rfl) rfl rfl ?_;
            refine exl_skipL rfl (by rfl) rfl rfl ?_;
            refine exl_skipR rfl rfl rfl ?_;
            refine exl_skipR rfl rfl rfl ?_;
            refine exl_skipR rfl rfl rfl ?_;
            refine exl_skipR rfl rfl rfl ?_;
            refine exl_skipL rfl (by rfl) rfl rfl ?_;
            apply exl_is; rfl; rfl; rfl; (apply g_pick_t; rfl; (rfl); rfl);
            apply exl_is; rfl; rfl; rfl; (apply g_assign; rfl);
            refine exl_nilT ?_;
            refine ex_seq ?_;
            refine ex_region ?_;
            apply exl_is; rfl; rfl; rfl; (apply g_load1; rfl; rfl; (exact .p (by ((repeat (first | exact List.Mem.head _ | refine List.Mem.tail _ ?_ | assumption)); done)) rfl));
            apply exl_is; rfl; rfl; rfl; (apply g_load1; rfl; rfl; (exact .p (by ((repeat (first | exact List.Mem.head _ | refine List.Mem.tail _ ?_ | assumption)); done)) rfl));
            apply exl_is; rfl; rfl; rfl; (apply g_load1; rfl; rfl; (exact .p (by ((repeat (first | exact List.Mem.head _ | refine List.Mem.tail _ ?_ | assumption)); done)) rfl));
            apply exl_is; rfl; rfl; rfl; (apply g_loadAgg; rfl; decide; rfl; (exact .p (by ((repeat (first | exact List.Mem.head _ | refine List.Mem.tail _ ?_ | assumption)); done)) rfl rfl));
            apply exl_is; rfl; rfl; rfl; (refine g_call rfl rfl (enters_b (by kernel_rfl)) ?_; exact e1 _);
            apply exl_is; rfl; rfl; rfl; (apply g_move; rfl);
            apply exl_is; rfl; rfl; rfl; (apply g_extract; rfl; rfl);
            apply exl_is; rfl; rfl; rfl; (apply g_extract; rfl; rfl);
            apply exl_is; rfl; rfl; rfl; (apply g_assign; rfl);
            apply exl_is; rfl; rfl; rfl; (apply g_assign; rfl);
            refine exl_nilT ?_;
            refine ex_seq ?_;
            refine ex_region ?_;
            apply exl_is; rfl; rfl; rfl; (apply g_load1; rfl; rfl; (exact .p (by ((repeat (first | exact List.Mem.head _ | refine List.Mem.tail _ ?_ | assumption)); done)) rfl));
            apply exl_is; rfl; rfl; rfl; (apply g_load1; rfl; rfl; (exact .p (by ((repeat (first | exact List.Mem.head _ | refine List.Mem.tail _ ?_ | assumption)); done)) rfl));
            apply exl_is; rfl; rfl; rfl; (apply g_load1; rfl; rfl; (exact .p (by ((repeat (first | exact List.Mem.head _ | refine List.Mem.tail _ ?_ | assumption)); done)) rfl));
            apply exl_is; rfl; rfl; rfl; (apply g_loadAgg; rfl; decide; rfl; (exact .p (by ((repeat (first | exact List.Mem.head _ | refine List.Mem.tail _ ?_ | assumption)); done)) rfl rfl));
            apply exl_is; rfl; rfl; rfl; (refine g_call rfl rfl (enters_b (by kernel_rfl)) ?_; exact e2 _);
            apply exl_is; rfl; rfl; rfl; (apply g_move; rfl);
            apply exl_is; rfl; rfl; rfl; (apply g_extract; rfl; rfl);
            apply exl_is; rfl; rfl; rfl; (apply g_extract; rfl; rfl);
            apply exl_is; rfl; rfl; rfl; (apply g_assign; rfl);
            apply exl_is; rfl; rfl; rfl; (apply g_assign; rfl);
            refine exl_nilT ?_;
            refine ex_seq ?_;
            refine ex_seq ?_;
            refine ex_region ?_;
            apply exl_is; rfl; rfl; rfl; (apply g_move; rfl);
            apply exl_isB; rfl; rfl; rfl; (apply g_binInt; rfl; rfl; rfl); intro _ _;
            apply exl_is; rfl; rfl; rfl; (apply g_move; rfl);
            refine exl_caseL rfl (fun h => ?_) (fun h => ?_) <;> ((first | (subst h; rename BV _ true => h0; have h := h0.eq; clear h0) | (subst h; rename BV _ false => h0; have h := h0.eq; clear h0) | skip); (have hp := h; try simp only [decide_eq_true_eq, decide_eq_false_iff_not, Bool.not_eq_true', Bool.not_eq_false', bne_iff_ne, beq_iff_eq, beq_eq_false_iff_ne, bne_eq_false_iff_eq, Int.not_lt, Int.not_le] at hp); (try (exfalso; first | omega | (cases hp; done))));
            apply exl_isW; rfl; (rfl); rfl; rfl; (apply g_move; rfl);
            apply exl_isBW; rfl; (rfl); rfl; rfl; (apply g_binInt; rfl; rfl; rfl); intro _ _;
            apply exl_is; rfl; rfl; rfl; (apply g_pick_f; rfl; (rfl); rfl);
            refine exl_nilT ?_;
            refine ex_cond rfl (fun h => ?_) (fun h => ?_) <;> ((first | (subst h; rename BV _ true => h0; have h := h0.eq; clear h0) | (subst h; rename BV _ false => h0; have h := h0.eq; clear h0) | skip); (have hp := h; try simp only [decide_eq_true_eq, decide_eq_false_iff_not, Bool.not_eq_true', Bool.not_eq_false', bne_iff_ne, beq_iff_eq, beq_eq_false_iff_ne, bne_eq_false_iff_eq, Int.not_lt, Int.not_le] at hp); (try (exfalso; first | omega | (cases hp; done))));
            refine ex_skip ?_;
            refine ex_region ?_;
            apply exl_is; rfl; rfl; rfl; (apply g_move; rfl);
            apply exl_is; rfl; rfl; rfl; (apply g_move; rfl);
            apply exl_is; rfl; rfl; rfl; (apply g_move; rfl);
            apply exl_is; rfl; rfl; rfl; (apply g_sub; rfl; rfl; rfl; exact ⟨by omega, by omega⟩);
            apply exl_is; rfl; rfl; rfl; (apply g_add; rfl; rfl; rfl; exact ⟨by omega, by omega⟩);
            apply exl_is; rfl; rfl; rfl; (apply g_assign; rfl);
            refine exl_nil ?_;
            refine ex_region ?_;
            apply exl_is; rfl; rfl; rfl; (apply g_add; rfl; rfl; rfl; exact ⟨by omega, by omega⟩);
            apply exl_is; rfl; rfl; rfl; (apply g_move; rfl);
            refine exl_nil ?_;
            simp only [thenA, blockA, roundA, noGotoA, retA, ↓reduceIte, Nat.reduceEqDiff];
            rotate_left
            (all_goals (repeat (rename BV _ _ => hbv; cases hbv)))
            all_goals (try (exfalso; first | (rename true = false => hx; cases hx; done) | (rename false = true => hx; cases hx; done)))
            refine ⟨j + 1 + 1, by omega, by omega, ?_⟩
            rw [hst, han]
            exact (St.le_of (by repeat (first | exact trivial | refine ⟨rfl, ?_⟩)) (by repeat (first | exact List.Sublist.refl _ | apply List.Sublist.cons_cons | apply List.Sublist.cons)))
          · refine ex_seq ?_;
            refine ex_region ?_;
            apply exl_isB; rfl; rfl; rfl; (apply g_binInt; rfl; rfl; rfl); intro _ _;
            refine exl_nilT ?_;
            refine ex_seq ?_;
            refine ex_cond rfl (fun h => ?_) (fun h => ?_) <;> ((first | (subst h; rename BV _ true => h0; have h := h0.eq; clear h0) | (subst h; rename BV _ false => h0; have h := h0.eq; clear h0) | skip); (have hp := h; try simp only [decide_eq_true_eq, decide_eq_false_iff_not, Bool.not_eq_true', Bool.not_eq_false', bne_iff_ne, beq_iff_eq, beq_eq_false_iff_ne, bne_eq_false_iff_eq, Int.not_lt, Int.not_le] at hp); (try (exfalso; first | omega | (cases hp; done))));
            refine ex_skip ?_;
            refine ex_seq ?_;
            refine ex_block ?_;
            refine ex_seq ?_;
            refine ex_region ?_;
            apply exl_is; rfl; rfl; rfl; (apply g_move; rfl);
            apply exl_is; rfl; rfl; rfl; (apply g_indexDl; rfl; rfl; rfl; (rfl); (assumption));
            apply exl_is; rfl; rfl; rfl; (apply g_loadAgg; rfl; decide; rfl; (exact .e rfl rfl));
            refine exl_box rfl rfl rfl (g_alloc rfl) ?_; intro _;
            apply exl_is; rfl; rfl; rfl; (apply g_assign; rfl);
            apply exl_do; rfl; rfl; (apply g_store'; rfl; rfl; rfl; (exact Upd.here); (simp only [setL, List.set_cons_zero, List.set_cons_succ, AV.cells]; rfl); rfl; rfl; rfl; exact Nat.le_of_ble_eq_true rfl);
            refine exl_nilT ?_;
            refine ex_seq ?_;
            refine ex_seq ?_;
            refine ex_drawC rfl rfl (by kernel_rfl) rfl ?_; refine ex_drawQ rfl (by kernel_rfl) rfl ?_;
            apply wl_is; rfl; rfl; rfl; (intro σ' hl; (apply g_fieldAddr; rfl; rfl; rfl));
            apply wl_is; rfl; rfl; rfl; (intro σ' hl; (apply g_load1; rfl; rfl; (exact .p (hl _ (by (exact True.intro)) (by ((repeat (first | exact List.Mem.head _ | refine List.Mem.tail _ ?_ | assumption)); done))) rfl)));
            apply wl_is; rfl; rfl; rfl; (intro σ' hl; (apply g_fieldAddr; rfl; rfl; rfl));
            apply wl_is; rfl; rfl; rfl; (intro σ' hl; (apply g_load1; rfl; rfl; (exact .p (hl _ (by (exact True.intro)) (by ((repeat (first | exact List.Mem.head _ | refine List.Mem.tail _ ?_ | assumption)); done))) rfl)));
            apply wl_isB; rfl; rfl; rfl; (intro σ' hl; (apply g_binInt; rfl; rfl; rfl)); intro _ _;
            apply wl_is; rfl; rfl; rfl; (intro σ' hl; (apply g_move; rfl));
            refine wl_case rfl (fun h => ?_) (fun h => ?_) <;> ((first | (subst h; rename BV _ true => h0; have h := h0.eq; clear h0) | (subst h; rename BV _ false => h0; have h := h0.eq; clear h0) | skip); (have hp := h; try simp only [decide_eq_true_eq, decide_eq_false_iff_not, Bool.not_eq_true', Bool.not_eq_false', bne_iff_ne, beq_iff_eq, beq_eq_false_iff_ne, bne_eq_false_iff_eq, Int.not_lt, Int.not_le] at hp); (try (exfalso; first | omega | (cases hp; done))));
            apply wl_isW; rfl; (rfl); rfl; rfl; (intro σ' hl; (apply g_fieldAddr; rfl; rfl; rfl));
            apply wl_isW; rfl; (rfl); rfl; rfl; (intro σ' hl; (apply g_load1; rfl; rfl; (exact .p (hl _ (by (exact True.intro)) (by ((repeat (first | exact List.Mem.head _ | refine List.Mem.tail _ ?_ | assumption)); done))) rfl)));
            apply wl_isW; rfl; (rfl); rfl; rfl; (intro σ' hl; (apply g_fieldAddr; rfl; rfl; rfl));
            apply wl_isW; rfl; (rfl); rfl; rfl; (intro σ' hl; (apply g_load1; rfl; rfl; (exact .p (hl _ (by (exact True.intro)) (by ((repeat (first | exact List.Mem.head _ | refine List.Mem.tail _ ?_ | assumption)); done))) rfl)));
            apply wl_isBW; rfl; (rfl); rfl; rfl; (intro σ' hl; (apply g_binInt; rfl; rfl; rfl)); intro _ _;
            apply wl_is; rfl; rfl; rfl; (intro σ' hl; (apply g_pick_f; rfl; (rfl); rfl));
            apply wl_is; rfl; rfl; rfl; (intro σ' hl; (apply g_move; rfl));
            refine wl_case rfl (fun h => ?_) (fun h => ?_) <;> ((first | (subst h; rename BV _ true => h0; have h := h0.eq; clear h0) | (subst h; rename BV _ false => h0; have h := h0.eq; clear h0) | skip); (have hp := h; try simp only [decide_eq_true_eq, decide_eq_false_iff_not, Bool.not_eq_true', Bool.not_eq_false', bne_iff_ne, beq_iff_eq, beq_eq_false_iff_ne, bne_eq_false_iff_eq, Int.not_lt, Int.not_le] at hp); (try (exfalso; first | omega | (cases hp; done))));
            apply wl_isW; rfl; (rfl); rfl; rfl; (intro σ' hl; (apply g_fieldAddr; rfl; rfl; rfl));
            apply wl_isW; rfl; (rfl); rfl; rfl; (intro σ' hl; (apply g_load1; rfl; rfl; (exact .p (hl _ (by (exact True.intro)) (by ((repeat (first | exact List.Mem.head _ | refine List.Mem.tail _ ?_ | assumption)); done))) rfl)));
            apply wl_isW; rfl; (rfl); rfl; rfl; (intro σ' hl; (apply g_fieldAddr; rfl; rfl; rfl));
            apply wl_isW; rfl; (rfl); rfl; rfl; (intro σ' hl; (apply g_load1; rfl; rfl; (exact .p (hl _ (by (exact True.intro)) (by ((repeat (first | exact List.Mem.head _ | refine List.Mem.tail _ ?_ | assumption)); done))) rfl)));
            apply wl_isBW; rfl; (rfl); rfl; rfl; (intro σ' hl; (apply g_binInt; rfl; rfl; rfl)); intro _ _;
            apply wl_is; rfl; rfl; rfl; (intro σ' hl; (apply g_pick_f; rfl; (rfl); rfl));
            apply wl_is; rfl; rfl; rfl; (intro σ' hl; (apply g_move; rfl));
            refine wl_case rfl (fun h => ?_) (fun h => ?_) <;> ((first | (subst h; rename BV _ true => h0; have h := h0.eq; clear h0) | (subst h; rename BV _ false => h0; have h := h0.eq; clear h0) | skip); (have hp := h; try simp only [decide_eq_true_eq, decide_eq_false_iff_not, Bool.not_eq_true', Bool.not_eq_false', bne_iff_ne, beq_iff_eq, beq_eq_false_iff_ne, bne_eq_false_iff_eq, Int.not_lt, Int.not_le] at hp); (try (exfalso; first | omega | (cases hp; done))));
            apply wl_isW; rfl; (rfl); rfl; rfl; (intro σ' hl; (apply g_move; rfl));
            apply wl_isBW; rfl; (rfl); rfl; rfl; (intro σ' hl; (apply g_binInt; rfl; rfl; rfl)); intro _ _;
            apply wl_isW; rfl; (rfl); rfl; rfl; (intro σ' hl; (apply g_move; rfl));
            refine wl_case rfl (fun h => ?_) (fun h => ?_) <;> ((first | (subst h; rename BV _ true => h0; have h := h0.eq; clear h0) | (subst h; rename BV _ false => h0; have h := h0.eq; clear h0) | skip); (have hp := h; try simp only [decide_eq_true_eq, decide_eq_false_iff_not, Bool.not_eq_true', Bool.not_eq_false', bne_iff_ne, beq_iff_eq, beq_eq_false_iff_ne, bne_eq_false_iff_eq, Int.not_lt, Int.not_le] at hp); (try (exfalso; first | omega | (cases hp; done))));
            apply wl_isW; rfl; (rfl); rfl; rfl; (intro σ' hl; (apply g_fieldAddr; rfl; rfl; rfl));
            apply wl_isW; rfl; (rfl); rfl; rfl; (intro σ' hl; (apply g_load1; rfl; rfl; (exact .p (hl _ (by (exact True.intro)) (by ((repeat (first | exact List.Mem.head _ | refine List.Mem.tail _ ?_ | assumption)); done))) rfl)));
            apply wl_isW; rfl; (rfl); rfl; rfl; (intro σ' hl; (apply g_move; rfl));
            apply wl_isW; rfl; (rfl); rfl; rfl; (intro σ' hl; (apply g_move; rfl));
            apply wl_isW; rfl; (rfl); rfl; rfl; (intro σ' hl; (apply g_sub; rfl; rfl; rfl; exact ⟨by omega, by omega⟩));
            apply wl_isW; rfl; (rfl); rfl; rfl; (intro σ' hl; (apply g_indexDl; rfl; rfl; rfl; (assumption); (assumption)));
            apply wl_isW; rfl; (rfl); rfl; rfl; (intro σ' hl; (apply g_fieldAddr; rfl; rfl; rfl));
            apply wl_isW; rfl; (rfl); rfl; rfl; (intro σ' hl; (apply g_load1; rfl; rfl; (exact .e rfl)));
            apply wl_isW; rfl; (rfl); rfl; rfl; (intro σ' hl; (apply g_add; rfl; rfl; rfl; exact ⟨by omega, by omega⟩));
            apply wl_isBW; rfl; (rfl); rfl; rfl; (intro σ' hl; (apply g_binInt; rfl; rfl; rfl)); intro _ _;
            apply wl_isW; rfl; (rfl); rfl; rfl; (intro σ' hl; (apply g_pick_t; rfl; (rfl); rfl));
            apply wl_is; rfl; rfl; rfl; (intro σ' hl; (apply g_pick_f; rfl; (rfl); rfl));
            apply wl_is; rfl; rfl; rfl; (intro σ' hl; (apply g_move; rfl));
            refine wl_case rfl (fun h => ?_) (fun h => ?_) <;> ((first | (subst h; rename BV _ true => h0; have h := h0.eq; clear h0) | (subst h; rename BV _ false => h0; have h := h0.eq; clear h0) | skip); (have hp := h; try simp only [decide_eq_true_eq, decide_eq_false_iff_not, Bool.not_eq_true', Bool.not_eq_false', bne_iff_ne, beq_iff_eq, beq_eq_false_iff_ne, bne_eq_false_iff_eq, Int.not_lt, Int.not_le] at hp); (try (exfalso; first | omega | (cases hp; done))));
            apply wl_isW; rfl; (rfl); rfl; rfl; (intro σ' hl; (apply g_move; rfl));
            apply wl_isW; rfl; (rfl); rfl; rfl; (intro σ' hl; (apply g_fieldAddr; rfl; rfl; rfl));
            apply wl_isW; rfl; (rfl); rfl; rfl; (intro σ' hl; (apply g_load1; rfl; rfl; (exact .p (hl _ (by (exact True.intro)) (by ((repeat (first | exact List.Mem.head _ | refine List.Mem.tail _ ?_ | assumption)); done))) rfl)));
            apply wl_isW; rfl; (rfl); rfl; rfl; (intro σ' hl; (refine g_call rfl rfl (enters_b (by kernel_rfl)) ?_; refine d1 _ ?_ ?_ ?_ ?_; exact (hl _ (by (exact True.intro)) (by ((repeat (first | exact List.Mem.head _ | refine List.Mem.tail _ ?_ | assumption)); done))); exact (hl _ (by (exact True.intro)) (by ((repeat (first | exact List.Mem.head _ | refine List.Mem.tail _ ?_ | assumption)); done))); exact (hl _ (by (exact True.intro)) (by ((repeat (first | exact List.Mem.head _ | refine List.Mem.tail _ ?_ | assumption)); done))); exact (hl _ (by (exact True.intro)) (by ((repeat (first | exact List.Mem.head _ | refine List.Mem.tail _ ?_ | assumption)); done)))));
            apply wl_isBW; rfl; (rfl); rfl; rfl; (intro σ' hl; (apply g_not; rfl)); intro _ _;
            apply wl_is; rfl; rfl; rfl; (intro σ' hl; (apply g_pick_f; rfl; (rfl); rfl));
            apply wl_is; rfl; rfl; rfl; (intro σ' hl; (apply g_move; rfl));
            refine wl_case rfl (fun h => ?_) (fun h => ?_) <;> ((first | (subst h; rename BV _ true => h0; have h := h0.eq; clear h0) | (subst h; rename BV _ false => h0; have h := h0.eq; clear h0) | skip); (have hp := h; try simp only [decide_eq_true_eq, decide_eq_false_iff_not, Bool.not_eq_true', Bool.not_eq_false', bne_iff_ne, beq_iff_eq, beq_eq_false_iff_ne, bne_eq_false_iff_eq, Int.not_lt, Int.not_le] at hp); (try (exfalso; first | omega | (cases hp; done))));
            apply wl_isW; rfl; (rfl); rfl; rfl; (intro σ' hl; (apply g_move; rfl));
            apply wl_isW; rfl; (rfl); rfl; rfl; (intro σ' hl; (apply g_fieldAddr; rfl; rfl; rfl));
            apply wl_isW; rfl; (rfl); rfl; rfl; (intro σ' hl; (apply g_load1; rfl; rfl; (exact .p (hl _ (by (exact True.intro)) (by ((repeat (first | exact List.Mem.head _ | refine List.Mem.tail _ ?_ | assumption)); done))) rfl)));
            apply wl_isW; rfl; (rfl); rfl; rfl; (intro σ' hl; (refine g_call rfl rfl (enters_b (by kernel_rfl)) ?_; refine d2 _ ?_ ?_ ?_ ?_; exact (hl _ (by (exact True.intro)) (by ((repeat (first | exact List.Mem.head _ | refine List.Mem.tail _ ?_ | assumption)); done))); exact (hl _ (by (exact True.intro)) (by ((repeat (first | exact List.Mem.head _ | refine List.Mem.tail _ ?_ | assumption)); done))); exact (hl _ (by (exact True.intro)) (by ((repeat (first | exact List.Mem.head _ | refine List.Mem.tail _ ?_ | assumption)); done))); exact (hl _ (by (exact True.intro)) (by ((repeat (first | exact List.Mem.head _ | refine List.Mem.tail _ ?_ | assumption)); done)))));
            apply wl_isBW; rfl; (rfl); rfl; rfl; (intro σ' hl; (apply g_not; rfl)); intro _ _;
            apply wl_is; rfl; rfl; rfl; (intro σ' hl; (apply g_pick_f; rfl; (rfl); rfl));
            refine wl_nil ?_; show EX _ _ _ _ _;
            refine ex_cond rfl (fun h => ?_) (fun h => ?_) <;> ((first | (subst h; rename BV _ true => h0; have h := h0.eq; clear h0) | (subst h; rename BV _ false => h0; have h := h0.eq; clear h0) | skip); (have hp := h; try simp only [decide_eq_true_eq, decide_eq_false_iff_not, Bool.not_eq_true', Bool.not_eq_false', bne_iff_ne, beq_iff_eq, beq_eq_false_iff_ne, bne_eq_false_iff_eq, Int.not_lt, Int.not_le] at hp); (try (exfalso; first | omega | (cases hp; done))));
            refine ex_skip ?_;
            refine ex_seq ?_;
            refine ex_region ?_;
            apply exl_is; rfl; rfl; rfl; (apply g_move; rfl);
            apply exl_is; rfl; rfl; rfl; (apply g_move; rfl);
            apply exl_isW; rfl; (rfl); rfl; rfl; (apply g_fieldAddr; rfl; rfl; rfl);
            apply exl_isW; rfl; (rfl); rfl; rfl; (apply g_load1; rfl; rfl; (exact .p (by ((repeat (first | exact List.Mem.head _ | refine List.Mem.tail _ ?_ | assumption)); done)) rfl));
            apply exl_isW; rfl; (rfl); rfl; rfl; (apply g_move; rfl);
            apply exl_isBW; rfl; (rfl); rfl; rfl; (apply g_binInt; rfl; rfl; rfl); intro _ _;
            apply exl_isW; rfl; (rfl); rfl; rfl; (apply g_move; rfl);
            refine exl_caseL rfl (fun h => ?_) (fun h => ?_) <;> ((first | (subst h; rename BV _ true => h0; have h := h0.eq; clear h0) | (subst h; rename BV _ false => h0; have h := h0.eq; clear h0) | skip); (have hp := h; try simp only [decide_eq_true_eq, decide_eq_false_iff_not, Bool.not_eq_true', Bool.not_eq_false', bne_iff_ne, beq_iff_eq, beq_eq_false_iff_ne, bne_eq_false_iff_eq, Int.not_lt, Int.not_le] at hp); (try (exfalso; first | omega | (cases hp; done))));
            apply exl_isW; rfl; (rfl); rfl; rfl; (apply g_move; rfl);
            apply exl_isW; rfl; (rfl); rfl; rfl; (apply g_fieldAddr; rfl; rfl; rfl);
            apply exl_isW; rfl; (rfl); rfl; rfl; (apply g_load1; rfl; rfl; (exact .p (by ((repeat (first | exact List.Mem.head _ | refine List.Mem.tail _ ?_ | assumption)); done)) rfl));
            apply exl_isBW; rfl; (rfl); rfl; rfl; (apply g_binInt; rfl; rfl; rfl); intro _ _;
            apply exl_isW; rfl; (rfl); rfl; rfl; (apply g_pick_t; rfl; (rfl); rfl);
            apply exl_is; rfl; rfl; rfl; (apply g_pick_f; rfl; (rfl); rfl);
            apply exl_is; rfl; rfl; rfl; (apply g_assign; rfl);
            refine exl_nilT ?_;
            refine ex_seq ?_;
            refine ex_region ?_;
            apply exl_is; rfl; rfl; rfl; (apply g_load1; rfl; rfl; (exact .p (by ((repeat (first | exact List.Mem.head _ | refine List.Mem.tail _ ?_ | assumption)); done)) rfl));
            apply exl_is; rfl; rfl; rfl; (apply g_load1; rfl; rfl; (exact .p (by ((repeat (first | exact List.Mem.head _ | refine List.Mem.tail _ ?_ | assumption)); done)) rfl));
            apply exl_is; rfl; rfl; rfl; (apply g_load1; rfl; rfl; (exact .p (by ((repeat (first | exact List.Mem.head _ | refine List.Mem.tail _ ?_ | assumption)); done)) rfl));
            apply exl_is; rfl; rfl; rfl; (apply g_loadAgg; rfl; decide; rfl; (exact .p (by ((repeat (first | exact List.Mem.head _ | refine List.Mem.tail _ ?_ | assumption)); done)) rfl rfl));
            apply exl_is; rfl; rfl; rfl; (refine g_call rfl rfl (enters_b (by kernel_rfl)) ?_; exact e1 _);
            apply exl_is; rfl; rfl; rfl; (apply g_move; rfl);
            apply exl_is; rfl; rfl; rfl; (apply g_extract; rfl; rfl);
            apply exl_is; rfl; rfl; rfl; (apply g_extract; rfl; rfl);
            apply exl_is; rfl; rfl; rfl; (apply g_assign; rfl);
            apply exl_is; rfl; rfl; rfl; (apply g_assign; rfl);
            refine exl_nilT ?_;
            refine ex_seq ?_;
            refine ex_region ?_;
            apply exl_is; rfl; rfl; rfl; (apply g_load1; rfl; rfl; (exact .p (by ((repeat (first | exact List.Mem.head _ | refine List.Mem.tail _ ?_ | assumption)); done)) rfl));
            apply exl_is; rfl; rfl; rfl; (apply g_load1; rfl; rfl; (exact .p (by ((repeat (first | exact List.Mem.head _ | refine List.Mem.tail _ ?_ | assumption)); done)) rfl));
            apply exl_is; rfl; rfl; rfl; (apply g_load1; rfl; rfl; (exact .p (by ((repeat (first | exact List.Mem.head _ | refine List.Mem.tail _ ?_ | assumption)); done)) rfl));
            apply exl_is; rfl; rfl; rfl; (apply g_loadAgg; rfl; decide; rfl; (exact .p (by ((repeat (first | exact List.Mem.head _ | refine List.Mem.tail _ ?_ | assumption)); done)) rfl rfl));
            apply exl_is; rfl; rfl; rfl; (refine g_call rfl rfl (enters_b (by kernel_rfl)) ?_; exact e2 _);
            apply exl_is; rfl; rfl; rfl; (apply g_move; rfl);
            apply exl_is; rfl; rfl; rfl; (apply g_extract; rfl; rfl);
            apply exl_is; rfl; rfl; rfl; (apply g_extract; rfl; rfl);
            apply exl_is; rfl; rfl; rfl; (apply g_assign; rfl);
            apply exl_is; rfl; rfl; rfl; (apply g_assign; rfl);
            refine exl_nilT ?_;
            refine ex_seq ?_;
            refine ex_seq ?_;
            refine ex_region ?_;
            apply exl_is; rfl; rfl; rfl; (apply g_move; rfl);
            apply exl_isB; rfl; rfl; rfl; (apply g_binInt; rfl; rfl; rfl); intro _ _;
            apply exl_is; rfl; rfl; rfl; (apply g_move; rfl);
            refine exl_caseL rfl (fun h => ?_) (fun h => ?_) <;> ((first | (subst h; rename BV _ true => h0; have h := h0.eq; clear h0) | (subst h; rename BV _ false => h0; have h := h0.eq; clear h0) | skip); (have hp := h; try simp only [decide_eq_true_eq, decide_eq_false_iff_not, Bool.not_eq_true', Bool.not_eq_false', bne_iff_ne, beq_iff_eq, beq_eq_false_iff_ne, bne_eq_false_iff_eq, Int.not_lt, Int.not_le] at hp); (try (exfalso; first | omega | (cases hp; done))));
            apply exl_isW; rfl; (rfl); rfl; rfl; (apply g_move; rfl);
            apply exl_isBW; rfl; (rfl); rfl; rfl; (apply g_binInt; rfl; rfl; rfl); intro _ _;
            apply exl_is; rfl; rfl; rfl; (apply g_pick_f; rfl; (rfl); rfl);
            refine exl_nilT ?_;
            refine ex_cond rfl (fun h => ?_) (fun h => ?_) <;> ((first | (subst h; rename BV _ true => h0; have h := h0.eq; clear h0) | (subst h; rename BV _ false => h0; have h := h0.eq; clear h0) | skip); (have hp := h; try simp only [decide_eq_true_eq, decide_eq_false_iff_not, Bool.not_eq_true', Bool.not_eq_false', bne_iff_ne, beq_iff_eq, beq_eq_false_iff_ne, bne_eq_false_iff_eq, Int.not_lt, Int.not_le] at hp); (try (exfalso; first | omega | (cases hp; done))));
            refine ex_skip ?_;
            refine ex_region ?_;
            apply exl_is; rfl; rfl; rfl; (apply g_move; rfl);
            apply exl_is; rfl; rfl; rfl; (apply g_move; rfl);
            apply exl_is; rfl; rfl; rfl; (apply g_move; rfl);
            apply exl_is; rfl; rfl; rfl; (apply g_sub; rfl; rfl; rfl; exact ⟨by omega, by omega⟩);
            apply exl_is; rfl; rfl; rfl; (apply g_add; rfl; rfl; rfl; exact ⟨by omega, by omega⟩);
            apply exl_is; rfl; rfl; rfl; (apply g_assign; rfl);
            refine exl_nil ?_;
            refine ex_region ?_;
            apply exl_is; rfl; rfl; rfl; (apply g_add; rfl; rfl; rfl; exact ⟨by omega, by omega⟩);
            apply exl_is; rfl; rfl; rfl; (apply g_move; rfl);
            refine exl_nil ?_;
            simp only [thenA, blockA, roundA, noGotoA, retA, ↓reduceIte, Nat.reduceEqDiff];
            rotate_left
            (all_goals (repeat (rename BV _ _ => hbv; cases hbv)))
            all_goals (try (exfalso; first | (rename true = false => hx; cases hx; done) | (rename false = true => hx; cases hx; done)))
            refine ⟨j + 1 + 1, by omega, by omega, ?_⟩
            rw [hst, han]
            exact (St.le_of (by repeat (first | exact trivial | refine ⟨rfl, ?_⟩)) (by repeat (first | exact List.Sublist.refl _ | apply List.Sublist.cons_cons | apply List.Sublist.cons)))
          · refine ex_seq ?_;
            refine ex_region ?_;
            apply exl_isB; rfl; rfl; rfl; (apply g_binInt; rfl; rfl; rfl); intro _ _;
            refine exl_nilT ?_;
            refine ex_seq ?_;
            refine ex_cond rfl (fun h => ?_) (fun h => ?_) <;> ((first | (subst h; rename BV _ true => h0; have h := h0.eq; clear h0) | (subst h; rename BV _ false => h0; have h := h0.eq; clear h0) | skip); (have hp := h; try simp only [decide_eq_true_eq, decide_eq_false_iff_not, Bool.not_eq_true', Bool.not_eq_false', bne_iff_ne, beq_iff_eq, beq_eq_false_iff_ne, bne_eq_false_iff_eq, Int.not_lt, Int.not_le] at hp); (try (exfalso; first | omega | (cases hp; done))));
            refine ex_skip ?_;
            refine ex_seq ?_;
            refine ex_block ?_;
            refine ex_seq ?_;
            refine ex_region ?_;
            apply exl_is; rfl; rfl; rfl; (apply g_move; rfl);
            apply exl_is; rfl; rfl; rfl; (apply g_indexDl; rfl; rfl; rfl; (rfl); (assumption));
            apply exl_is; rfl; rfl; rfl; (apply g_loadAgg; rfl; decide; rfl; (exact .e rfl rfl));
            refine exl_box rfl rfl rfl (g_alloc rfl) ?_; intro _;
            apply exl_is; rfl; rfl; rfl; (apply g_assign; rfl);
            apply exl_do; rfl; rfl; (apply g_store'; rfl; rfl; rfl; (exact Upd.here); (simp only [setL, List.set_cons_zero, List.set_cons_succ, AV.cells]; rfl); rfl; rfl; rfl; exact Nat.le_of_ble_eq_true rfl);
            refine exl_nilT ?_;
            refine ex_seq ?_;
            refine ex_seq ?_;
            refine ex_drawC rfl rfl (by kernel_rfl) rfl ?_; refine ex_drawQ rfl (by kernel_rfl) rfl ?_;
            apply wl_is; rfl; rfl; rfl; (intro σ' hl; (apply g_fieldAddr; rfl; rfl; rfl));
            apply wl_is; rfl; rfl; rfl; (intro σ' hl; (apply g_load1; rfl; rfl; (exact .p (hl _ (by (exact True.intro)) (by ((repeat (first | exact List.Mem.head _ | refine List.Mem.tail _ ?_ | assumption)); done))) rfl)));
            apply wl_is; rfl; rfl; rfl; (intro σ' hl; (apply g_fieldAddr; rfl; rfl; rfl));
            apply wl_is; rfl; rfl; rfl; (intro σ' hl; (apply g_load1; rfl; rfl; (exact .p (hl _ (by (exact True.intro)) (by ((repeat (first | exact List.Mem.head _ | refine List.Mem.tail _ ?_ | assumption)); done))) rfl)));
            apply wl_isB; rfl; rfl; rfl; (intro σ' hl; (apply g_binInt; rfl; rfl; rfl)); intro _ _;
            apply wl_is; rfl; rfl; rfl; (intro σ' hl; (apply g_move; rfl));
            refine wl_case rfl (fun h => ?_) (fun h => ?_) <;> ((first | (subst h; rename BV _ true => h0; have h := h0.eq; clear h0) | (subst h; rename BV _ false => h0; have h := h0.eq; clear h0) | skip); (have hp := h; try simp only [decide_eq_true_eq, decide_eq_false_iff_not, Bool.not_eq_true', Bool.not_eq_false', bne_iff_ne, beq_iff_eq, beq_eq_false_iff_ne, bne_eq_false_iff_eq, Int.not_lt, Int.not_le] at hp); (try (exfalso; first | omega | (cases hp; done))));
            apply wl_isW; rfl; (rfl); rfl; rfl; (intro σ' hl; (apply g_fieldAddr; rfl; rfl; rfl));
            apply wl_isW; rfl; (rfl); rfl; rfl; (intro σ' hl; (apply g_load1; rfl; rfl; (exact .p (hl _ (by (exact True.intro)) (by ((repeat (first | exact List.Mem.head _ | refine List.Mem.tail _ ?_ | assumption)); done))) rfl)));
            apply wl_isW; rfl; (rfl); rfl; rfl; (intro σ' hl; (apply g_fieldAddr; rfl; rfl; rfl));
            apply wl_isW; rfl; (rfl); rfl; rfl; (intro σ' hl; (apply g_load1; rfl; rfl; (exact .p (hl _ (by (exact True.intro)) (by ((repeat (first | exact List.Mem.head _ | refine List.Mem.tail _ ?_ | assumption)); done))) rfl)));
            apply wl_isBW; rfl; (rfl); rfl; rfl; (intro σ' hl; (apply g_binInt; rfl; rfl; rfl)); intro _ _;
            apply wl_is; rfl; rfl; rfl; (intro σ' hl; (apply g_pick_f; rfl; (rfl); rfl));
            apply wl_is; rfl; rfl; rfl; (intro σ' hl; (apply g_move; rfl));
            refine wl_case rfl (fun h => ?_) (fun h => ?_) <;> ((first | (subst h; rename BV _ true => h0; have h := h0.eq; clear h0) | (subst h; rename BV _ false => h0; have h := h0.eq; clear h0) | skip); (have hp := h; try simp only [decide_eq_true_eq, decide_eq_false_iff_not, Bool.not_eq_true', Bool.not_eq_false', bne_iff_ne, beq_iff_eq, beq_eq_false_iff_ne, bne_eq_false_iff_eq, Int.not_lt, Int.not_le] at hp); (try (exfalso; first | omega | (cases hp; done))));
            apply wl_isW; rfl; (rfl); rfl; rfl; (intro σ' hl; (apply g_fieldAddr; rfl; rfl; rfl));
            apply wl_isW; rfl; (rfl); rfl; rfl; (intro σ' hl; (apply g_load1; rfl; rfl; (exact .p (hl _ (by (exact True.intro)) (by ((repeat (first | exact List.Mem.head _ | refine List.Mem.tail _ ?_ | assumption)); done))) rfl)));
            apply wl_isW; rfl; (rfl); rfl; rfl; (intro σ' hl; (apply g_fieldAddr; rfl; rfl; rfl));
            apply wl_isW; rfl; (rfl); rfl; rfl; (intro σ' hl; (apply g_load1; rfl; rfl; (exact .p (hl _ (by (exact True.intro)) (by ((repeat (first | exact List.Mem.head _ | refine List.Mem.tail _ ?_ | assumption)); done))) rfl)));
            apply wl_isBW; rfl; (rfl); rfl; rfl; (intro σ' hl; (apply g_binInt; rfl; rfl; rfl)); intro _ _;
            apply wl_is; rfl; rfl; rfl; (intro σ' hl; (apply g_pick_f; rfl; (rfl); rfl));
            apply wl_is; rfl; rfl; rfl; (intro σ' hl; (apply g_move; rfl));
            refine wl_case rfl (fun h => ?_) (fun h => ?_) <;> ((first | (subst h; rename BV _ true => h0; have h := h0.eq; clear h0) | (subst h; rename BV _ false => h0; have h := h0.eq; clear h0) | skip); (have hp := h; try simp only [decide_eq_true_eq, decide_eq_false_iff_not, Bool.not_eq_true', Bool.not_eq_false', bne_iff_ne, beq_iff_eq, beq_eq_false_iff_ne, bne_eq_false_iff_eq, Int.not_lt, Int.not_le] at hp); (try (exfalso; first | omega | (cases hp; done))));
            apply wl_isW; rfl; (rfl); rfl; rfl; (intro σ' hl; (apply g_move; rfl));
            apply wl_isBW; rfl; (rfl); rfl; rfl; (intro σ' hl; (apply g_binInt; rfl; rfl; rfl)); intro _ _;
            apply wl_isW; rfl; (rfl); rfl; rfl; (intro σ' hl; (apply g_move; rfl));
            refine wl_case rfl (fun h => ?_) (fun h => ?_) <;> ((first | (subst h; rename BV _ true => h0; have h := h0.eq; clear h0) | (subst h; rename BV _ false => h0; have h := h0.eq; clear h0) | skip); (have hp := h; try simp only [decide_eq_true_eq, decide_eq_false_iff_not, Bool.not_eq_true', Bool.not_eq_false', bne_iff_ne, beq_iff_eq, beq_eq_false_iff_ne, bne_eq_false_iff_eq, Int.not_lt, Int.not_le] at hp); (try (exfalso; first | omega | (cases hp; done))));
            apply wl_isW; rfl; (rfl); rfl; rfl; (intro σ' hl; (apply g_fieldAddr; rfl; rfl; rfl));
            apply wl_isW; rfl; (rfl); rfl; rfl; (intro σ' hl; (apply g_load1; rfl; rfl; (exact .p (hl _ (by (exact True.intro)) (by ((repeat (first | exact List.Mem.head _ | refine List.Mem.tail _ ?_ | assumption)); done))) rfl)));
            apply wl_isW; rfl; (rfl); rfl; rfl; (intro σ' hl; (apply g_move; rfl));
            apply wl_isW; rfl; (rfl); rfl; rfl; (intro σ' hl; (apply g_move; rfl));
            apply wl_isW; rfl; (rfl); rfl; rfl; (intro σ' hl; (apply g_sub; rfl; rfl; rfl; exact ⟨by omega, by omega⟩));
            apply wl_isW; rfl; (rfl); rfl; rfl; (intro σ' hl; (apply g_indexDl; rfl; rfl; rfl; (assumption); (assumption)));
            apply wl_isW; rfl; (rfl); rfl; rfl; (intro σ' hl; (apply g_fieldAddr; rfl; rfl; rfl));
            apply wl_isW; rfl; (rfl); rfl; rfl; (intro σ' hl; (apply g_load1; rfl; rfl; (exact .e rfl)));
            apply wl_isW; rfl; (rfl); rfl; rfl; (intro σ' hl; (apply g_add; rfl; rfl; rfl; exact ⟨by omega, by omega⟩));
            apply wl_isBW; rfl; (rfl); rfl; rfl; (intro σ' hl; (apply g_binInt; rfl; rfl; rfl)); intro _ _;
            apply wl_isW; rfl; (rfl); rfl; rfl; (intro σ' hl; (apply g_pick_t; rfl; (rfl); rfl));
            apply wl_is; rfl; rfl; rfl; (intro σ' hl; (apply g_pick_f; rfl; (rfl); rfl));
            apply wl_is; rfl; rfl; rfl; (intro σ' hl; (apply g_move; rfl));
            refine wl_case rfl (fun h => ?_) (fun h => ?_) <;> ((first | (subst h; rename BV _ true => h0; have h := h0.eq; clear h0) | (subst h; rename BV _ false => h0; have h := h0.eq; clear h0) | skip); (have hp := h; try simp only [decide_eq_true_eq, decide_eq_false_iff_not, Bool.not_eq_true', Bool.not_eq_false', bne_iff_ne, beq_iff_eq, beq_eq_false_iff_ne, bne_eq_false_iff_eq, Int.not_lt, Int.not_le] at hp); (try (exfalso; first | omega | (cases hp; done))));
            apply wl_isW; rfl; (rfl); rfl; rfl; (intro σ' hl; (apply g_move; rfl));
            apply wl_isW; rfl; (rfl); rfl; rfl; (intro σ' hl; (apply g_fieldAddr; rfl; rfl; rfl));
            apply wl_isW; rfl; (rfl); rfl; rfl; (intro σ' hl; (apply g_load1; rfl; rfl; (exact .p (hl _ (by (exact True.intro)) (by ((repeat (first | exact List.Mem.head _ | refine List.Mem.tail _ ?_ | assumption)); done))) rfl)));
            apply wl_isW; rfl; (rfl); rfl; rfl; (intro σ' hl; (refine g_call rfl rfl (enters_b (by kernel_rfl)) ?_; refine d1 _ ?_ ?_ ?_ ?_; exact (hl _ (by (exact True.intro)) (by ((repeat (first | exact List.Mem.head _ | refine List.Mem.tail _ ?_ | assumption)); done))); exact (hl _ (by (exact True.intro)) (by ((repeat (first | exact List.Mem.head _ | refine List.Mem.tail _ ?_ | assumption)); done))); exact (hl _ (by (exact True.intro)) (by ((repeat (first | exact List.Mem.head _ | refine List.Mem.tail _ ?_ | assumption)); done))); exact (hl _ (by (exact True.intro)) (by ((repeat (first | exact List.Mem.head _ | refine List.Mem.tail _ ?_ | assumption)); done)))));
            apply wl_isBW; rfl; (rfl); rfl; rfl; (intro σ' hl; (apply g_not; rfl)); intro _ _;
            apply wl_is; rfl; rfl; rfl; (intro σ' hl; (apply g_pick_f; rfl; (rfl); rfl));
            apply wl_is; rfl; rfl; rfl; (intro σ' hl; (apply g_move; rfl));
            refine wl_case rfl (fun h => ?_) (fun h => ?_) <;> ((first | (subst h; rename BV _ true => h0; have h := h0.eq; clear h0) | (subst h; rename BV _ false => h0; have h := h0.eq; clear h0) | skip); (have hp := h; try simp only [decide_eq_true_eq, decide_eq_false_iff_not, Bool.not_eq_true', Bool.not_eq_false', bne_iff_ne, beq_iff_eq, beq_eq_false_iff_ne, bne_eq_false_iff_eq, Int.not_lt, Int.not_le] at hp); (try (exfalso; first | omega | (cases hp; done))));
            apply wl_isW; rfl; (rfl); rfl; rfl; (intro σ' hl; (apply g_move; rfl));
            apply wl_isW; rfl; (rfl); rfl; rfl; (intro σ' hl; (apply g_fieldAddr; rfl; rfl; rfl));
            apply wl_isW; rfl; (rfl); rfl; rfl; (intro σ' hl; (apply g_load1; rfl; rfl; (exact .p (hl _ (by (exact True.intro)) (by ((repeat (first | exact List.Mem.head _ | refine List.Mem.tail _ ?_ | assumption)); done))) rfl)));
            apply wl_isW; rfl; (rfl); rfl; rfl; (intro σ' hl; (refine g_call rfl rfl (enters_b (by kernel_rfl)) ?_; refine d2 _ ?_ ?_ ?_ ?_; exact (hl _ (by (exact True.intro)) (by ((repeat (first | exact List.Mem.head _ | refine List.Mem.tail _ ?_ | assumption)); done))); exact (hl _ (by (exact True.intro)) (by ((repeat (first | exact List.Mem.head _ | refine List.Mem.tail _ ?_ | assumption)); done))); exact (hl _ (by (exact True.intro)) (by ((repeat (first | exact List.Mem.head _ | refine List.Mem.tail _ ?_ | assumption)); done))); exact (hl _ (by (exact True.intro)) (by ((repeat (first | exact List.Mem.head _ | refine List.Mem.tail _ ?_ | assumption)); done)))));
            apply wl_isBW; rfl; (rfl); rfl; rfl; (intro σ' hl; (apply g_not; rfl)); intro _ _;
            apply wl_is; rfl; rfl; rfl; (intro σ' hl; (apply g_pick_f; rfl; (rfl); rfl));
            refine wl_nil ?_; show EX _ _ _ _ _;
            refine ex_cond rfl (fun h => ?_) (fun h => ?_) <;> ((first | (subst h; rename BV _ true => h0; have h := h0.eq; clear h0) | (subst h; rename BV _ false => h0; have h := h0.eq; clear h0) | skip); (have hp := h; try simp only [decide_eq_true_eq, decide_eq_false_iff_not, Bool.not_eq_true', Bool.not_eq_false', bne_iff_ne, beq_iff_eq, beq_eq_false_iff_ne, bne_eq_false_iff_eq, Int.not_lt, Int.not_le] at hp); (try (exfalso; first | omega | (cases hp; done))));
            refine ex_skip ?_;
            refine ex_seq ?_;
            refine ex_region ?_;
            apply exl_is; rfl; rfl; rfl; (apply g_move; rfl);
            apply exl_is; rfl; rfl; rfl; (apply g_move; rfl);
            apply exl_isW; rfl; (rfl); rfl; rfl; (apply g_fieldAddr; rfl; rfl; rfl);
            apply exl_isW; rfl; (rfl); rfl; rfl; (apply g_load1; rfl; rfl; (exact .p (by ((repeat (first | exact List.Mem.head _ | refine List.Mem.tail _ ?_ | assumption)); done)) rfl));
            apply exl_isW; rfl; (rfl); rfl; rfl; (apply g_move; rfl);
            apply exl_isBW; rfl; (rfl); rfl; rfl; (apply g_binInt; rfl; rfl; rfl); intro _ _;
            apply exl_isW; rfl; (rfl); rfl; rfl; (apply g_move; rfl);
            refine exl_caseL rfl (fun h => ?_) (fun h => ?_) <;> ((first | (subst h; rename BV _ true => h0; have h := h0.eq; clear h0) | (subst h; rename BV _ false => h0; have h := h0.eq; clear h0) | skip); (have hp := h; try simp only [decide_eq_true_eq, decide_eq_false_iff_not, Bool.not_eq_true', Bool.not_eq_false', bne_iff_ne, beq_iff_eq, beq_eq_false_iff_ne, bne_eq_false_iff_eq, Int.not_lt, Int.not_le] at hp); (try (exfalso; first | omega | (cases hp; done))));
            refine exl_skipL rfl (by rfl) rfl rfl ?_;
            refine exl_skipL rfl (by rfl) rfl rfl ?_;
            refine exl_skipL rfl (by rfl) rfl rfl ?_;
            refine exl_skipL rfl (by rfl) rfl rfl ?_;
            apply exl_isW; rfl; (rfl); rfl; rfl; (apply g_pick_f; rfl; (rfl); rfl);
            apply exl_is; rfl; rfl; rfl; (apply g_pick_f; rfl; (rfl); rfl);
            apply exl_is; rfl; rfl; rfl; (apply g_assign; rfl);
            refine exl_nilT ?_;
            refine ex_seq ?_;
            refine ex_region ?_;
            apply exl_is; rfl; rfl; rfl; (apply g_load1; rfl; rfl; (exact .p (by ((repeat (first | exact List.Mem.head _ | refine List.Mem.tail _ ?_ | assumption)); done)) rfl));
            apply exl_is; rfl; rfl; rfl; (apply g_load1; rfl; rfl; (exact .p (by ((repeat (first | exact List.Mem.head _ | refine List.Mem.tail _ ?_ | assumption)); done)) rfl));
            apply exl_is; rfl; rfl; rfl; (apply g_load1; rfl; rfl; (exact .p (by ((repeat (first | exact List.Mem.head _ | refine List.Mem.tail _ ?_ | assumption)); done)) rfl));
            apply exl_is; rfl; rfl; rfl; (apply g_loadAgg; rfl; decide; rfl; (exact .p (by ((repeat (first | exact List.Mem.head _ | refine List.Mem.tail _ ?_ | assumption)); done)) rfl rfl));
            apply exl_is; rfl; rfl; rfl; (refine g_call rfl rfl (enters_b (by kernel_rfl)) ?_; exact e1 _);
            apply exl_is; rfl; rfl; rfl; (apply g_move; rfl);
            apply exl_is; rfl; rfl; rfl; (apply g_extract; rfl; rfl);
            apply exl_is; rfl; rfl; rfl; (apply g_extract; rfl; rfl);
            apply exl_is; rfl; rfl; rfl; (apply g_assign; rfl);
            apply exl_is; rfl; rfl; rfl; (apply g_assign; rfl);
            refine exl_nilT ?_;
            refine ex_seq ?_;
            refine ex_region ?_;
            apply exl_is; rfl; rfl; rfl; (apply g_load1; rfl; rfl; (exact .p (by ((repeat (first | exact List.Mem.head _ | refine List.Mem.tail _ ?_ | assumption)); done)) rfl));
            apply exl_is; rfl; rfl; rfl; (apply g_load1; rfl; rfl; (exact .p (by ((repeat (first | exact List.Mem.head _ | refine List.Mem.tail _ ?_ | assumption)); done)) rfl));
            apply exl_is; rfl; rfl; rfl; (apply g_load1; rfl; rfl; (exact .p (by ((repeat (first | exact List.Mem.head _ | refine List.Mem.tail _ ?_ | assumption)); done)) rfl));
            apply exl_is; rfl; rfl; rfl; (apply g_loadAgg; rfl; decide; rfl; (exact .p (by ((repeat (first | exact List.Mem.head _ | refine List.Mem.tail _ ?_ | assumption)); done)) rfl rfl));
            apply exl_is; rfl; rfl; rfl; (refine g_call rfl rfl (enters_b (by kernel_rfl)) ?_; exact e2 _);
            apply exl_is; rfl; rfl; rfl; (apply g_move; rfl);
            apply exl_is; rfl; rfl; rfl; (apply g_extract; rfl; rfl);
            apply exl_is; rfl; rfl; rfl; (apply g_extract; rfl; rfl);
            apply exl_is; rfl; rfl; rfl; (apply g_assign; rfl);
            apply exl_is; rfl; rfl; rfl; (apply g_assign; rfl);
            refine exl_nilT ?_;
            refine ex_seq ?_;
            refine ex_seq ?_;
            refine ex_region ?_;
            apply exl_is; rfl; rfl; rfl; (apply g_move; rfl);
            apply exl_isB; rfl; rfl; rfl; (apply g_binInt; rfl; rfl; rfl); intro _ _;
            apply exl_is; rfl; rfl; rfl; (apply g_move; rfl);
            refine exl_caseL rfl (fun h => ?_) (fun h => ?_) <;> ((first | (subst h; rename BV _ true => h0; have h := h0.eq; clear h0) | (subst h; rename BV _ false => h0; have h := h0.eq; clear h0) | skip); (have hp := h; try simp only [decide_eq_true_eq, decide_eq_false_iff_not, Bool.not_eq_true', Bool.not_eq_false', bne_iff_ne, beq_iff_eq, beq_eq_false_iff_ne, bne_eq_false_iff_eq, Int.not_lt, Int.not_le] at hp); (try (exfalso; first | omega | (cases hp; done))));
            apply exl_isW; rfl; (rfl); rfl; rfl; (apply g_move; rfl);
            apply exl_isBW; rfl; (rfl); rfl; rfl; (apply g_binInt; rfl; rfl; rfl); intro _ _;
            apply exl_is; rfl; rfl; rfl; (apply g_pick_f; rfl; (rfl); rfl);
            refine exl_nilT ?_;
            refine ex_cond rfl (fun h => ?_) (fun h => ?_) <;> ((first | (subst h; rename BV _ true => h0; have h := h0.eq; clear h0) | (subst h; rename BV _ false => h0; have h := h0.eq; clear h0) | skip); (have hp := h; try simp only [decide_eq_true_eq, decide_eq_false_iff_not, Bool.not_eq_true', Bool.not_eq_false', bne_iff_ne, beq_iff_eq, beq_eq_false_iff_ne, bne_eq_false_iff_eq, Int.not_lt, Int.not_le] at hp); (try (exfalso; first | omega | (cases hp; done))));
            refine ex_skip ?_;
            refine ex_region ?_;
            apply exl_is; rfl; rfl; rfl; (apply g_move; rfl);
            apply exl_is; rfl; rfl; rfl; (apply g_move; rfl);
            apply exl_is; rfl; rfl; rfl; (apply g_move; rfl);
            apply exl_is; rfl; rfl; rfl; (apply g_sub; rfl; rfl; rfl; exact ⟨by omega, by omega⟩);
            apply exl_is; rfl; rfl; rfl; (apply g_add; rfl; rfl; rfl; exact ⟨by omega, by omega⟩);
            apply exl_is; rfl; rfl; rfl; (apply g_assign; rfl);
            refine exl_nil ?_;
            refine ex_region ?_;
            apply exl_is; rfl; rfl; rfl; (apply g_add; rfl; rfl; rfl; exact ⟨by omega, by omega⟩);
            apply exl_is; rfl; rfl; rfl; (apply g_move; rfl);
            refine exl_nil ?_;
            simp only [thenA, blockA, roundA, noGotoA, retA, ↓reduceIte, Nat.reduceEqDiff];
            rotate_left
            (all_goals (repeat (rename BV _ _ => hbv; cases hbv)))
            all_goals (try (exfalso; first | (rename true = false => hx; cases hx; done) | (rename false = true => hx; cases hx; done)))
            all_goals
              refine ⟨j + 1 + 1, by omega, by omega, ?_⟩
              rw [hst, han]
              exact (St.le_of (by repeat (first | exact trivial | refine ⟨rfl, ?_⟩)) (by repeat (first | exact List.Sublist.refl _ | apply List.Sublist.cons_cons | apply List.Sublist.cons)))
      · rw [List.take_of_length_le (by omega), hsum, hD.all u hu1 hu2]
        have d1 := differ_c l key a b u r hka hkb (by omega) (by omega) b6 b7 b8 b9 22 3 3 3
        clear hD hbd hr hka hkb
        generalize difB l key a b u = D at d1 ⊢
        refine ex_seq ?_;
        refine ex_region ?_;
        apply exl_isB; rfl; rfl; rfl; (apply g_binInt; rfl; rfl; rfl); intro _ _;
        refine exl_nilT ?_;
        refine ex_seq ?_;
        refine ex_cond rfl (fun h => ?_) (fun h => ?_) <;> ((first | (subst h; rename BV _ true => h0; have h := h0.eq; clear h0) | (subst h; rename BV _ false => h0; have h := h0.eq; clear h0) | skip); (have hp := h; try simp only [decide_eq_true_eq, decide_eq_false_iff_not, Bool.not_eq_true', Bool.not_eq_false', bne_iff_ne, beq_iff_eq, beq_eq_false_iff_ne, bne_eq_false_iff_eq, Int.not_lt, Int.not_le] at hp); (try (exfalso; first | omega | (cases hp; done))));
        refine ex_exit ?_;
        refine ex_seq ?_;
        refine ex_region ?_;
        apply exl_is; rfl; rfl; rfl; (apply g_move; rfl);
        apply exl_is; rfl; rfl; rfl; (apply g_move; rfl);
        apply exl_is; rfl; rfl; rfl; (apply g_move; rfl);
        apply exl_is; rfl; rfl; rfl; (apply g_sub; rfl; rfl; rfl; exact ⟨by omega, by omega⟩);
        apply exl_isB; rfl; rfl; rfl; (apply g_binInt; rfl; rfl; rfl); intro _ _;
        apply exl_is; rfl; rfl; rfl; (apply g_move; rfl);
        refine exl_caseL rfl (fun h => ?_) (fun h => ?_) <;> ((first | (subst h; rename BV _ true => h0; have h := h0.eq; clear h0) | (subst h; rename BV _ false => h0; have h := h0.eq; clear h0) | skip); (have hp := h; try simp only [decide_eq_true_eq, decide_eq_false_iff_not, Bool.not_eq_true', Bool.not_eq_false', bne_iff_ne, beq_iff_eq, beq_eq_false_iff_ne, bne_eq_false_iff_eq, Int.not_lt, Int.not_le] at hp); (try (exfalso; first | omega | (cases hp; done))));
        apply exl_isW; rfl; (rfl); rfl; rfl; (apply g_move; rfl);
        apply exl_isW; rfl; (rfl); rfl; rfl; (apply g_move; rfl);
        apply exl_isW; rfl; (rfl); rfl; rfl; (apply g_move; rfl);
        apply exl_isW; rfl; (rfl); rfl; rfl; (refine g_call rfl rfl (enters_b (by kernel_rfl)) ?_; refine d1 _ ?_ ?_ ?_ ?_; exact (by ((repeat (first | exact List.Mem.head _ | refine List.Mem.tail _ ?_ | assumption)); done)); exact (by ((repeat (first | exact List.Mem.head _ | refine List.Mem.tail _ ?_ | assumption)); done)); exact (by ((repeat (first | exact List.Mem.head _ | refine List.Mem.tail _ ?_ | assumption)); done)); exact (by ((repeat (first | exact List.Mem.head _ | refine List.Mem.tail _ ?_ | assumption)); done)));
        apply exl_isBW; rfl; (rfl); rfl; rfl; (apply g_eqlBool; rfl; rfl; rfl); intro _ _;
        apply exl_is; rfl; rfl; rfl; (apply g_pick_t; rfl; (rfl); rfl);
        apply exl_is; rfl; rfl; rfl; (apply g_assign; rfl);
        refine exl_nilT ?_;
        refine ex_ret ?_;
        simp only [thenA, blockA, roundA, noGotoA, retA, ↓reduceIte, Nat.reduceEqDiff];
        rotate_left
        (all_goals (repeat (rename BV _ _ => hbv; cases hbv)))
        all_goals (try (exfalso; first | (rename true = false => hx; cases hx; done) | (rename false = true => hx; cases hx; done)))
        all_goals
          refine ret_is .nil (.cons (.ofTmp rfl) .nil) (by repeat (first | exact List.Sublist.refl _ | apply List.Sublist.cons_cons | apply List.Sublist.cons)) (bool_eq ?_)
          clear d1
          simp_all
  · rw [show chgF l key a b r = ([], askF l key [a, b] r) by unfold chgF; rw [if_pos h]] at c2
    dsimp only at c2
    generalize askF l key [a, b] r = A at c2 h
    generalize totF l key a r = T1 at c3
    generalize totF l key b r = T2 at c4
    refine ex_seq ?_;
    refine ex_region ?_;
    refine exl_box rfl rfl rfl (g_box rfl rfl) ?_; intro _;
    refine exl_box rfl rfl rfl (g_box rfl rfl) ?_; intro _;
    refine exl_box rfl rfl rfl (g_box rfl rfl) ?_; intro _;
    refine exl_box rfl rfl rfl (g_box rfl rfl) ?_; intro _;
    refine exl_box rfl rfl rfl (g_box rfl rfl) ?_; intro _;
    apply exl_is; rfl; rfl; rfl; (apply g_assign; rfl);
    refine exl_nilT ?_;
    refine ex_seq ?_;
    refine ex_seq ?_;
    refine ex_region ?_;
    apply exl_isB; rfl; rfl; rfl; (refine g_call rfl rfl (enters_b (by kernel_rfl)) ?_; exact c0 _); intro _ _;
    apply exl_isB; rfl; rfl; rfl; (apply g_not; rfl); intro _ _;
    refine exl_nilT ?_;
    refine ex_cond rfl (fun h => ?_) (fun h => ?_) <;> ((first | (subst h; rename BV _ true => h0; have h := h0.eq; clear h0) | (subst h; rename BV _ false => h0; have h := h0.eq; clear h0) | skip); (have hp := h; try simp only [decide_eq_true_eq, decide_eq_false_iff_not, Bool.not_eq_true', Bool.not_eq_false', bne_iff_ne, beq_iff_eq, beq_eq_false_iff_ne, bne_eq_false_iff_eq, Int.not_lt, Int.not_le] at hp); (try (exfalso; first | omega | (cases hp; done))));
    refine ex_seq ?_;
    refine ex_region ?_;
    apply exl_is; rfl; rfl; rfl; (apply g_assign; rfl);
    refine exl_nilT ?_;
    refine ex_ret ?_;
    simp only [thenA, blockA, roundA, noGotoA, retA, ↓reduceIte, Nat.reduceEqDiff];
    rotate_left;
    refine ex_skip ?_;
    refine ex_seq ?_;
    refine ex_seq ?_;
    refine ex_region ?_;
    apply exl_is; rfl; rfl; rfl; (apply g_load1; rfl; rfl; (exact .p (by ((repeat (first | exact List.Mem.head _ | refine List.Mem.tail _ ?_ | assumption)); done)) rfl));
    apply exl_isB; rfl; rfl; rfl; (refine g_call rfl rfl (enters_b (by kernel_rfl)) ?_; exact c1 _); intro _ _;
    apply exl_isB; rfl; rfl; rfl; (apply g_not; rfl); intro _ _;
    refine exl_nilT ?_;
    refine ex_cond rfl (fun h => ?_) (fun h => ?_) <;> ((first | (subst h; rename BV _ true => h0; have h := h0.eq; clear h0) | (subst h; rename BV _ false => h0; have h := h0.eq; clear h0) | skip); (have hp := h; try simp only [decide_eq_true_eq, decide_eq_false_iff_not, Bool.not_eq_true', Bool.not_eq_false', bne_iff_ne, beq_iff_eq, beq_eq_false_iff_ne, bne_eq_false_iff_eq, Int.not_lt, Int.not_le] at hp); (try (exfalso; first | omega | (cases hp; done))));
    refine ex_seq ?_;
    refine ex_region ?_;
    apply exl_is; rfl; rfl; rfl; (apply g_assign; rfl);
    refine exl_nilT ?_;
    refine ex_ret ?_;
    simp only [thenA, blockA, roundA, noGotoA, retA, ↓reduceIte, Nat.reduceEqDiff];
    rotate_left;
    refine ex_skip ?_;
    refine ex_seq ?_;
    refine ex_region ?_;
    apply exl_is; rfl; rfl; rfl; (apply g_load1; rfl; rfl; (exact .p (by ((repeat (first | exact List.Mem.head _ | refine List.Mem.tail _ ?_ | assumption)); done)) rfl));
    apply exl_is; rfl; rfl; rfl; (apply g_load1; rfl; rfl; (exact .p (by ((repeat (first | exact List.Mem.head _ | refine List.Mem.tail _ ?_ | assumption)); done)) rfl));
    apply exl_is; rfl; rfl; rfl; (apply g_load1; rfl; rfl; (exact .p (by ((repeat (first | exact List.Mem.head _ | refine List.Mem.tail _ ?_ | assumption)); done)) rfl));
    apply exl_is; rfl; rfl; rfl; (apply g_load1; rfl; rfl; (exact .p (by ((repeat (first | exact List.Mem.head _ | refine List.Mem.tail _ ?_ | assumption)); done)) rfl));
    apply exl_is; rfl; rfl; rfl; (apply g_loadAgg; rfl; decide; rfl; (exact .p (by ((repeat (first | exact List.Mem.head _ | refine List.Mem.tail _ ?_ | assumption)); done)) rfl rfl));
    apply exl_is; rfl; rfl; rfl; (refine g_call rfl rfl (enters_b (by kernel_rfl)) ?_; exact c2 _);
    apply exl_is; rfl; rfl; rfl; (apply g_move; rfl);
    apply exl_is; rfl; rfl; rfl; (apply g_extract; rfl; rfl);
    apply exl_is; rfl; rfl; rfl; (apply g_extract; rfl; rfl);
    apply exl_is; rfl; rfl; rfl; (apply g_assign; rfl);
    apply exl_is; rfl; rfl; rfl; (apply g_assign; rfl);
    refine exl_nilT ?_;
    refine ex_seq ?_;
    refine ex_region ?_;
    apply exl_is; rfl; rfl; rfl; (apply g_load1; rfl; rfl; (exact .p (by ((repeat (first | exact List.Mem.head _ | refine List.Mem.tail _ ?_ | assumption)); done)) rfl));
    apply exl_is; rfl; rfl; rfl; (apply g_load1; rfl; rfl; (exact .p (by ((repeat (first | exact List.Mem.head _ | refine List.Mem.tail _ ?_ | assumption)); done)) rfl));
    apply exl_is; rfl; rfl; rfl; (apply g_load1; rfl; rfl; (exact .p (by ((repeat (first | exact List.Mem.head _ | refine List.Mem.tail _ ?_ | assumption)); done)) rfl));
    apply exl_is; rfl; rfl; rfl; (apply g_loadAgg; rfl; decide; rfl; (exact .p (by ((repeat (first | exact List.Mem.head _ | refine List.Mem.tail _ ?_ | assumption)); done)) rfl rfl));
    apply exl_is; rfl; rfl; rfl; (refine g_call rfl rfl (enters_b (by kernel_rfl)) ?_; exact c3 _);
    apply exl_is; rfl; rfl; rfl; (apply g_move; rfl);
    apply exl_is; rfl; rfl; rfl; (apply g_extract; rfl; rfl);
    apply exl_is; rfl; rfl; rfl; (apply g_extract; rfl; rfl);
    apply exl_is; rfl; rfl; rfl; (apply g_assign; rfl);
    apply exl_is; rfl; rfl; rfl; (apply g_assign; rfl);
    refine exl_nilT ?_;
    refine ex_seq ?_;
    refine ex_region ?_;
    apply exl_is; rfl; rfl; rfl; (apply g_load1; rfl; rfl; (exact .p (by ((repeat (first | exact List.Mem.head _ | refine List.Mem.tail _ ?_ | assumption)); done)) rfl));
    apply exl_is; rfl; rfl; rfl; (apply g_load1; rfl; rfl; (exact .p (by ((repeat (first | exact List.Mem.head _ | refine List.Mem.tail _ ?_ | assumption)); done)) rfl));
    apply exl_is; rfl; rfl; rfl; (apply g_load1; rfl; rfl; (exact .p (by ((repeat (first | exact List.Mem.head _ | refine List.Mem.tail _ ?_ | assumption)); done)) rfl));
    apply exl_is; rfl; rfl; rfl; (apply g_loadAgg; rfl; decide; rfl; (exact .p (by ((repeat (first | exact List.Mem.head _ | refine List.Mem.tail _ ?_ | assumption)); done)) rfl rfl));
    apply exl_is; rfl; rfl; rfl; (refine g_call rfl rfl (enters_b (by kernel_rfl)) ?_; exact c4 _);
    apply exl_is; rfl; rfl; rfl; (apply g_move; rfl);
    apply exl_is; rfl; rfl; rfl; (apply g_extract; rfl; rfl);
    apply exl_is; rfl; rfl; rfl; (apply g_extract; rfl; rfl);
    apply exl_is; rfl; rfl; rfl; (apply g_assign; rfl);
    apply exl_is; rfl; rfl; rfl; (apply g_assign; rfl);
    refine exl_nilT ?_;
    refine ex_seq ?_;
    refine ex_seq ?_;
    refine ex_region ?_;
    apply exl_is; rfl; rfl; rfl; (apply g_move; rfl);
    apply exl_isB; rfl; rfl; rfl; (apply g_binInt; rfl; rfl; rfl); intro _ _;
    refine exl_nilT ?_;
    refine ex_cond rfl (fun h => ?_) (fun h => ?_) <;> ((first | (subst h; rename BV _ true => h0; have h := h0.eq; clear h0) | (subst h; rename BV _ false => h0; have h := h0.eq; clear h0) | skip); (have hp := h; try simp only [decide_eq_true_eq, decide_eq_false_iff_not, Bool.not_eq_true', Bool.not_eq_false', bne_iff_ne, beq_iff_eq, beq_eq_false_iff_ne, bne_eq_false_iff_eq, Int.not_lt, Int.not_le] at hp); (try (exfalso; first | omega | (cases hp; done))));
    refine ex_seq ?_;
    refine ex_region ?_;
    apply exl_is; rfl; rfl; rfl; (apply g_move; rfl);
    apply exl_is; rfl; rfl; rfl; (apply g_len; rfl; rfl; (exact (List.length_map _).symm));
    apply exl_isB; rfl; rfl; rfl; (apply g_binInt; rfl; rfl; rfl); intro _ _;
    apply exl_is; rfl; rfl; rfl; (apply g_assign; rfl);
    refine exl_nilT ?_;
    refine ex_ret ?_;
    simp only [thenA, blockA, roundA, noGotoA, retA, ↓reduceIte, Nat.reduceEqDiff];
    rotate_left
    (all_goals (repeat (rename BV _ _ => hbv; cases hbv)))
    all_goals (try (exfalso; first | (rename true = false => hx; cases hx; done) | (rename false = true => hx; cases hx; done)))
    all_goals
      refine ret_is .nil (.cons (.ofTmp rfl) .nil) (by repeat (first | exact List.Sublist.refl _ | apply List.Sublist.cons_cons | apply List.Sublist.cons)) (bool_eq ?_)
      clear c0 c1 c2 c3 c4
      simp_all
end Go.Proofs.Ytobcnochlkdpaaa
