/- PleasAccepted, walked. -/
import Derived.Test.YthdgmimhaidmnaaPo
import Derived.Test.YthdgmimhaidmnaaPure3
namespace Go.Proofs.Ythdgmimhaidmnaa
set_option linter.unusedSimpArgs false
set_option linter.unusedVariables false
theorem accepts_lit {p : Pl} {S : Int → Bool} : ∀ (l : List Rs) (K : Known), acceptsFrom p S K l = true → ∀ x ∈ l, litB x.lit = true
  | [], _, _, x, hx => by cases hx
  | y :: r, K, h, x, hx => by
    rw [acceptsFrom, Bool.and_eq_true] at h
    rcases List.mem_cons.1 hx with rfl | hx
    · exact (follows_right h.1).1
    · exact accepts_lit r _ h.2 x hx
set_option maxHeartbeats 4000000 in
set_option maxRecDepth 10000 in
theorem accepted_c (p : Pl) (l : List Rs) (k : Nat) (hk : k ≤ 255) (σ : List Ent) : SCall Try.prog 5 [.agg (plC p), rss l, .int .u8 (k : Int)] σ (Is (.bool true) σ) := by
  refine scall_of Try.func5 rfl (by simp) ?_
  refine ex_len (t := 1) rfl ((List.length_map _).symm) (fun hll => ?_)
  by_cases hc : checkB lits p = 0
  · by_cases ha : acceptsFrom p (strictOf p).contains (fun _ => 0) l = true
    · have hac : ∀ σ, SCall Try.prog 13 [.agg (plC p), rss l] σ (Is (.tup [.bool true, .int .i64 0]) σ) := fun σ => by
        have := accepts_c p l σ
        rwa [show acceptsB lits p l = (true, 0) by unfold acceptsB; simp [hc, ha]] at this
      have hpart : ∀ i σ, SCall Try.prog 13 [.agg (plC p), rss (l.take i)] σ (Is (.tup [.bool true, .int .i64 0]) σ) := fun i σ => by
        have := accepts_c p (l.take i) σ
        rw [show acceptsB lits p (l.take i) = (true, 0) by unfold acceptsB; simp [hc, accepts_take l _ i ha]] at this
        exact this
      have htwice : ∀ (i : Nat) x, l[i]? = some x → ∀ σ, SCall Try.prog 13 [.agg (plC p), .dl 3 (l.map rsC ++ [rsC x])] σ (Is (.tup [.bool false, .int .i64 0]) σ) := fun i x hx σ => by
        have := accepts_c p (l ++ [x]) σ
        rw [show acceptsB lits p (l ++ [x]) = (false, 0) by unfold acceptsB; simp [hc, accepts_twice x l _ (List.mem_of_getElem? hx)]] at this
        have e : (l ++ [x]).map rsC = l.map rsC ++ [rsC x] := by rw [List.map_append]; rfl
        unfold rss at this
        rw [e] at this
        exact this
      have hans : ∀ x ∈ l, ∀ σ, SCall Try.prog 19 [.agg (plC p), .int .i64 x.lit] σ (Is (.tup [.int .i64 (if x.proved then 1 else 2), .int .i64 0]) σ) := fun x hx σ => by
        have := answer_c p x.lit σ
        rwa [answer_by hc l ha x hx (accepts_lit l _ ha x hx)] at this
      clear ha hc
      refine ex_seq ?_;
      refine ex_region ?_;
      refine exl_box rfl rfl rfl (g_box rfl rfl) ?_; intro _;
      apply exl_is; rfl; rfl; rfl; (apply g_assign; rfl);
      refine exl_nilT ?_;
      refine ex_seq ?_;
      refine ex_seq ?_;
      refine ex_region ?_;
      apply exl_isB; rfl; rfl; rfl; (exact g_call rfl rfl (enters_b (by kernel_rfl)) (sane_c _)); intro _ _;
      apply exl_isB; rfl; rfl; rfl; (apply g_not; rfl); intro _ _;
      refine exl_nilT ?_;
      refine ex_cond rfl (fun h => ?_) (fun h => ?_) <;> ((first | (subst h; rename BV _ true => h0; have h := h0.eq; clear h0) | (subst h; rename BV _ false => h0; have h := h0.eq; clear h0) | skip); (have hp := h; try simp only [decide_eq_true_eq, decide_eq_false_iff_not, Bool.not_eq_true', Bool.not_eq_false', bne_iff_ne, beq_iff_eq, beq_eq_false_iff_ne, bne_eq_false_iff_eq, Int.not_lt, Int.not_le] at hp); (try (exfalso; first | omega | (cases hp; done))));
      refine ex_seq ?_;
      refine ex_region ?_;
      apply exl_is; rfl; rfl; rfl; (apply g_assign; rfl);
      refine exl_nilT ?_;
      refine ex_ret ?_;
      simp only [thenA, blockA, roundA, noGotoA, retA, ↓reduceIte, Nat.reduceEqDiff];
      rotate_left;
      refine ex_skip ?_;
      refine ex_seq ?_;
      refine ex_seq ?_;
      refine ex_region ?_;
      apply exl_is; rfl; rfl; rfl; (apply g_loadAgg; rfl; decide; rfl; (exact .p (by ((repeat (first | exact List.Mem.head _ | assumption | refine List.Mem.tail _ ?_)); done)) rfl rfl));
      apply exl_isB; rfl; rfl; rfl; (exact g_call rfl rfl (enters_b (by kernel_rfl)) (few_c p _)); intro _ _;
      apply exl_isB; rfl; rfl; rfl; (apply g_not; rfl); intro _ _;
      apply exl_is; rfl; rfl; rfl; (apply g_move; rfl);
      refine exl_caseL rfl (fun h => ?_) (fun h => ?_) <;> ((first | (subst h; rename BV _ true => h0; have h := h0.eq; clear h0) | (subst h; rename BV _ false => h0; have h := h0.eq; clear h0) | skip); (have hp := h; try simp only [decide_eq_true_eq, decide_eq_false_iff_not, Bool.not_eq_true', Bool.not_eq_false', bne_iff_ne, beq_iff_eq, beq_eq_false_iff_ne, bne_eq_false_iff_eq, Int.not_lt, Int.not_le] at hp); (try (exfalso; first | omega | (cases hp; done))));
      refine exl_skipL rfl (by rfl) rfl rfl ?_;
      refine exl_skipL rfl (by rfl) rfl rfl ?_;
      refine exl_skipL rfl (by rfl) rfl rfl ?_;
      apply exl_is; rfl; rfl; rfl; (apply g_pick_t; rfl; (rfl); rfl);
      refine exl_nilT ?_;
      refine ex_cond_t rfl (by rfl) ?_;
      refine ex_seq ?_;
      refine ex_region ?_;
      apply exl_is; rfl; rfl; rfl; (apply g_assign; rfl);
      refine exl_nilT ?_;
      refine ex_ret ?_;
      simp only [thenA, blockA, roundA, noGotoA, retA, ↓reduceIte, Nat.reduceEqDiff];
      rotate_left;
      apply exl_isW; rfl; (rfl); rfl; rfl; (apply g_move; rfl);
      apply exl_isW; rfl; (rfl); rfl; rfl; (apply g_len; rfl; rfl; (exact (List.length_map _).symm));
      apply exl_isBW; rfl; (rfl); rfl; rfl; (apply g_binInt; rfl; rfl; rfl); intro _ _;
      apply exl_is; rfl; rfl; rfl; (apply g_pick_f; rfl; (rfl); rfl);
      refine exl_nilT ?_;
      refine ex_cond rfl (fun h => ?_) (fun h => ?_) <;> ((first | (subst h; rename BV _ true => h0; have h := h0.eq; clear h0) | (subst h; rename BV _ false => h0; have h := h0.eq; clear h0) | skip); (have hp := h; try simp only [decide_eq_true_eq, decide_eq_false_iff_not, Bool.not_eq_true', Bool.not_eq_false', bne_iff_ne, beq_iff_eq, beq_eq_false_iff_ne, bne_eq_false_iff_eq, Int.not_lt, Int.not_le] at hp); (try (exfalso; first | omega | (cases hp; done))));
      refine ex_seq ?_;
      refine ex_region ?_;
      apply exl_is; rfl; rfl; rfl; (apply g_assign; rfl);
      refine exl_nilT ?_;
      refine ex_ret ?_;
      simp only [thenA, blockA, roundA, noGotoA, retA, ↓reduceIte, Nat.reduceEqDiff];
      rotate_left;
      refine ex_skip ?_;
      refine ex_seq ?_;
      refine ex_region ?_;
      apply exl_is; rfl; rfl; rfl; (apply g_loadAgg; rfl; decide; rfl; (exact .p (by ((repeat (first | exact List.Mem.head _ | assumption | refine List.Mem.tail _ ?_)); done)) rfl rfl));
      apply exl_is; rfl; rfl; rfl; (apply g_move; rfl);
      apply exl_is; rfl; rfl; rfl; (exact g_call rfl rfl (enters_b (by kernel_rfl)) (hac _));
      apply exl_is; rfl; rfl; rfl; (apply g_move; rfl);
      apply exl_is; rfl; rfl; rfl; (apply g_extract; rfl; rfl);
      apply exl_is; rfl; rfl; rfl; (apply g_extract; rfl; rfl);
      apply exl_is; rfl; rfl; rfl; (apply g_assign; rfl);
      apply exl_is; rfl; rfl; rfl; (apply g_assign; rfl);
      refine exl_nilT ?_;
      refine ex_seq ?_;
      refine ex_seq ?_;
      refine ex_region ?_;
      apply exl_is; rfl; rfl; rfl; (apply g_move; rfl);
      apply exl_isB; rfl; rfl; rfl; (apply g_binInt; rfl; rfl; rfl); intro _ _;
      apply exl_is; rfl; rfl; rfl; (apply g_move; rfl);
      refine exl_caseL rfl (fun h => ?_) (fun h => ?_) <;> ((first | (subst h; rename BV _ true => h0; have h := h0.eq; clear h0) | (subst h; rename BV _ false => h0; have h := h0.eq; clear h0) | skip); (have hp := h; try simp only [decide_eq_true_eq, decide_eq_false_iff_not, Bool.not_eq_true', Bool.not_eq_false', bne_iff_ne, beq_iff_eq, beq_eq_false_iff_ne, bne_eq_false_iff_eq, Int.not_lt, Int.not_le] at hp); (try (exfalso; first | omega | (cases hp; done))));
      apply exl_isW; rfl; (rfl); rfl; rfl; (apply g_move; rfl);
      apply exl_isBW; rfl; (rfl); rfl; rfl; (apply g_not; rfl); intro _ _;
      apply exl_is; rfl; rfl; rfl; (apply g_pick_f; rfl; (rfl); rfl);
      refine exl_nilT ?_;
      refine ex_cond rfl (fun h => ?_) (fun h => ?_) <;> ((first | (subst h; rename BV _ true => h0; have h := h0.eq; clear h0) | (subst h; rename BV _ false => h0; have h := h0.eq; clear h0) | skip); (have hp := h; try simp only [decide_eq_true_eq, decide_eq_false_iff_not, Bool.not_eq_true', Bool.not_eq_false', bne_iff_ne, beq_iff_eq, beq_eq_false_iff_ne, bne_eq_false_iff_eq, Int.not_lt, Int.not_le] at hp); (try (exfalso; first | omega | (cases hp; done))));
      refine ex_skip ?_;
      refine ex_seq ?_;
      refine ex_seq ?_;
      refine ex_region ?_;
      apply exl_is; rfl; rfl; rfl; (apply g_move; rfl);
      apply exl_is; rfl; rfl; rfl; (apply g_len; rfl; rfl; (exact (List.length_map _).symm));
      apply exl_is; rfl; rfl; rfl; (apply g_move; rfl);
      refine exl_nilT ?_;
      refine ex_block ?_;
      rotate_left
      (all_goals (repeat (rename BV _ _ => hbv; cases hbv)))
      all_goals (try (exfalso; first | (rename true = false => hx; cases hx; done) | (rename false = true => hx; cases hx; done)))
      · refine ret_is .nil (.cons (.ofTmp rfl) .nil) (by repeat (first | exact List.Sublist.refl _ | apply List.Sublist.cons_cons | apply List.Sublist.cons)) (bool_eq ?_)
        rfl
      · refine ret_is .nil (.cons (.ofTmp rfl) .nil) (by repeat (first | exact List.Sublist.refl _ | apply List.Sublist.cons_cons | apply List.Sublist.cons)) (bool_eq ?_)
        rfl
      rename_i b1 _ _ _ _ _ _ _ _
      have hl100 : l.length ≤ 100 := by omega
      clear hac
      refine ex_loop (fun (i : Nat) => (⟨[(0, .agg (plC p)), (1, rss l), (2, .int .u8 (k : Int)), (3, .ptr b1 0), (52, rss l), (53, .int .i64 l.length), (54, .int .i64 (i : Int))], .cells b1 (plC p) 25 :: σ, [], Try.f5.ntmps⟩ : St)) (fun i => i ≤ l.length) (fun i => l.length - i) 0 (Nat.zero_le _) (St.le_of (by repeat (first | exact trivial | refine ⟨rfl, ?_⟩)) (by repeat (first | exact List.Sublist.refl _ | apply List.Sublist.cons_cons | apply List.Sublist.cons))) ?_
      intro i hI
      by_cases hi : i < l.length
      · obtain ⟨x, hx⟩ : ∃ x, l[i]? = some x := ⟨_, List.getElem?_eq_getElem hi⟩
        have hxa := hans x (List.mem_of_getElem? hx)
        clear hans hpart htwice
        obtain ⟨q, c, pv⟩ := x
        cases pv
        · simp only [Bool.false_eq_true, if_false] at hxa
          refine ex_seq ?_;
          refine ex_region ?_;
          apply exl_isB; rfl; rfl; rfl; (apply g_binInt; rfl; rfl; rfl); intro _ _;
          refine exl_nilT ?_;
          refine ex_seq ?_;
          refine ex_cond rfl (fun h => ?_) (fun h => ?_) <;> ((first | (subst h; rename BV _ true => h0; have h := h0.eq; clear h0) | (subst h; rename BV _ false => h0; have h := h0.eq; clear h0) | skip); (have hp := h; try simp only [decide_eq_true_eq, decide_eq_false_iff_not, Bool.not_eq_true', Bool.not_eq_false', bne_iff_ne, beq_iff_eq, beq_eq_false_iff_ne, bne_eq_false_iff_eq, Int.not_lt, Int.not_le] at hp); (try (exfalso; first | omega | (cases hp; done))));
          refine ex_skip ?_;
          refine ex_seq ?_;
          refine ex_block ?_;
          refine ex_seq ?_;
          refine ex_region ?_;
          apply exl_is; rfl; rfl; rfl; (apply g_indexDl; rfl; rfl; rfl; (rfl); (exact get_map (by assumption)));
          apply exl_is; rfl; rfl; rfl; (apply g_loadAgg; rfl; decide; rfl; (exact .e rfl rfl));
          refine exl_box rfl rfl rfl (g_alloc rfl) ?_; intro _;
          apply exl_do; rfl; rfl; (apply g_store'; rfl; rfl; rfl; (exact Upd.here); (simp only [setL, List.set_cons_zero, List.set_cons_succ, AV.cells]; rfl); rfl; rfl; rfl; exact Nat.le_of_ble_eq_true rfl);
          refine exl_nilT ?_;
          refine ex_seq ?_;
          refine ex_region ?_;
          apply exl_is; rfl; rfl; rfl; (apply g_loadAgg; rfl; decide; rfl; (exact .p (by ((repeat (first | exact List.Mem.head _ | assumption | refine List.Mem.tail _ ?_)); done)) rfl rfl));
          apply exl_is; rfl; rfl; rfl; (apply g_fieldAddr; rfl; rfl; rfl);
          apply exl_is; rfl; rfl; rfl; (apply g_load1; rfl; rfl; (exact .p (by ((repeat (first | exact List.Mem.head _ | assumption | refine List.Mem.tail _ ?_)); done)) rfl));
          apply exl_is; rfl; rfl; rfl; (exact g_call rfl rfl (enters_b (by kernel_rfl)) (hxa _));
          apply exl_is; rfl; rfl; rfl; (apply g_move; rfl);
          apply exl_is; rfl; rfl; rfl; (apply g_extract; rfl; rfl);
          apply exl_is; rfl; rfl; rfl; (apply g_extract; rfl; rfl);
          apply exl_is; rfl; rfl; rfl; (apply g_assign; rfl);
          apply exl_is; rfl; rfl; rfl; (apply g_assign; rfl);
          refine exl_nilT ?_;
          refine ex_seq ?_;
          refine ex_region ?_;
          apply exl_is; rfl; rfl; rfl; (apply g_move; rfl);
          apply exl_isB; rfl; rfl; rfl; (apply g_binInt; rfl; rfl; rfl); intro _ _;
          apply exl_is; rfl; rfl; rfl; (apply g_move; rfl);
          refine exl_caseL rfl (fun h => ?_) (fun h => ?_) <;> ((first | (subst h; rename BV _ true => h0; have h := h0.eq; clear h0) | (subst h; rename BV _ false => h0; have h := h0.eq; clear h0) | skip); (have hp := h; try simp only [decide_eq_true_eq, decide_eq_false_iff_not, Bool.not_eq_true', Bool.not_eq_false', bne_iff_ne, beq_iff_eq, beq_eq_false_iff_ne, bne_eq_false_iff_eq, Int.not_lt, Int.not_le] at hp); (try (exfalso; first | omega | (cases hp; done))));
          apply exl_isW; rfl; (rfl); rfl; rfl; (apply g_move; rfl);
          apply exl_isBW; rfl; (rfl); rfl; rfl; (apply g_binInt; rfl; rfl; rfl); intro _ _;
          apply exl_isW; rfl; (rfl); rfl; rfl; (apply g_fieldAddr; rfl; rfl; rfl);
          apply exl_isW; rfl; (rfl); rfl; rfl; (apply g_load1; rfl; rfl; (exact .p (by ((repeat (first | exact List.Mem.head _ | assumption | refine List.Mem.tail _ ?_)); done)) rfl));
          apply exl_isBW; rfl; (rfl); rfl; rfl; (apply g_neqBool; rfl; rfl; rfl); intro _ _;
          apply exl_is; rfl; rfl; rfl; (apply g_pick_f; rfl; (rfl); rfl);
          apply exl_is; rfl; rfl; rfl; (apply g_move; rfl);
          refine exl_caseL rfl (fun h => ?_) (fun h => ?_) <;> ((first | (subst h; rename BV _ true => h0; have h := h0.eq; clear h0) | (subst h; rename BV _ false => h0; have h := h0.eq; clear h0) | skip); (have hp := h; try simp only [decide_eq_true_eq, decide_eq_false_iff_not, Bool.not_eq_true', Bool.not_eq_false', bne_iff_ne, beq_iff_eq, beq_eq_false_iff_ne, bne_eq_false_iff_eq, Int.not_lt, Int.not_le] at hp); (try (exfalso; first | omega | (cases hp; done))));
          refine exl_skipL rfl (by rfl) rfl rfl ?_;
          refine exl_skipL rfl (by rfl) rfl rfl ?_;
          apply exl_is; rfl; rfl; rfl; (apply g_pick_t; rfl; (rfl); rfl);
          refine exl_nilT ?_;
          refine ex_cond_t rfl (by rfl) ?_;
          refine ex_seq ?_;
          refine ex_region ?_;
          apply exl_is; rfl; rfl; rfl; (apply g_assign; rfl);
          refine exl_nilT ?_;
          refine ex_ret ?_;
          simp only [thenA, blockA, roundA, noGotoA, retA, ↓reduceIte, Nat.reduceEqDiff];
          rotate_left;
          apply exl_isW; rfl; (rfl); rfl; rfl; (apply g_move; rfl);
          apply exl_isBW; rfl; (rfl); rfl; rfl; (apply g_binInt; rfl; rfl; rfl); intro _ _;
          apply exl_is; rfl; rfl; rfl; (apply g_pick_f; rfl; (rfl); rfl);
          refine exl_nilT ?_;
          refine ex_cond rfl (fun h => ?_) (fun h => ?_) <;> ((first | (subst h; rename BV _ true => h0; have h := h0.eq; clear h0) | (subst h; rename BV _ false => h0; have h := h0.eq; clear h0) | skip); (have hp := h; try simp only [decide_eq_true_eq, decide_eq_false_iff_not, Bool.not_eq_true', Bool.not_eq_false', bne_iff_ne, beq_iff_eq, beq_eq_false_iff_ne, bne_eq_false_iff_eq, Int.not_lt, Int.not_le] at hp); (try (exfalso; first | omega | (cases hp; done))));
          refine ex_skip ?_;
          refine ex_region ?_;
          apply exl_is; rfl; rfl; rfl; (apply g_add; rfl; rfl; rfl; exact ⟨by omega, by omega⟩);
          apply exl_is; rfl; rfl; rfl; (apply g_move; rfl);
          refine exl_nil ?_;
          simp only [thenA, blockA, roundA, noGotoA, retA, ↓reduceIte, Nat.reduceEqDiff];
          rotate_left
          (all_goals (repeat (rename BV _ _ => hbv; cases hbv)))
          all_goals (try (exfalso; first | (rename true = false => hx; cases hx; done) | (rename false = true => hx; cases hx; done)))
          refine ⟨i + 1, hi, by omega, St.le_of (by repeat (first | exact trivial | refine ⟨rfl, ?_⟩)) (by repeat (first | exact List.Sublist.refl _ | apply List.Sublist.cons_cons | apply List.Sublist.cons))⟩
        · simp only [if_true] at hxa
          refine ex_seq ?_;
          refine ex_region ?_;
          apply exl_isB; rfl; rfl; rfl; (apply g_binInt; rfl; rfl; rfl); intro _ _;
          refine exl_nilT ?_;
          refine ex_seq ?_;
          refine ex_cond rfl (fun h => ?_) (fun h => ?_) <;> ((first | (subst h; rename BV _ true => h0; have h := h0.eq; clear h0) | (subst h; rename BV _ false => h0; have h := h0.eq; clear h0) | skip); (have hp := h; try simp only [decide_eq_true_eq, decide_eq_false_iff_not, Bool.not_eq_true', Bool.not_eq_false', bne_iff_ne, beq_iff_eq, beq_eq_false_iff_ne, bne_eq_false_iff_eq, Int.not_lt, Int.not_le] at hp); (try (exfalso; first | omega | (cases hp; done))));
          refine ex_skip ?_;
          refine ex_seq ?_;
          refine ex_block ?_;
          refine ex_seq ?_;
          refine ex_region ?_;
          apply exl_is; rfl; rfl; rfl; (apply g_indexDl; rfl; rfl; rfl; (rfl); (exact get_map (by assumption)));
          apply exl_is; rfl; rfl; rfl; (apply g_loadAgg; rfl; decide; rfl; (exact .e rfl rfl));
          refine exl_box rfl rfl rfl (g_alloc rfl) ?_; intro _;
          apply exl_do; rfl; rfl; (apply g_store'; rfl; rfl; rfl; (exact Upd.here); (simp only [setL, List.set_cons_zero, List.set_cons_succ, AV.cells]; rfl); rfl; rfl; rfl; exact Nat.le_of_ble_eq_true rfl);
          refine exl_nilT ?_;
          refine ex_seq ?_;
          refine ex_region ?_;
          apply exl_is; rfl; rfl; rfl; (apply g_loadAgg; rfl; decide; rfl; (exact .p (by ((repeat (first | exact List.Mem.head _ | assumption | refine List.Mem.tail _ ?_)); done)) rfl rfl));
          apply exl_is; rfl; rfl; rfl; (apply g_fieldAddr; rfl; rfl; rfl);
          apply exl_is; rfl; rfl; rfl; (apply g_load1; rfl; rfl; (exact .p (by ((repeat (first | exact List.Mem.head _ | assumption | refine List.Mem.tail _ ?_)); done)) rfl));
          apply exl_is; rfl; rfl; rfl; (exact g_call rfl rfl (enters_b (by kernel_rfl)) (hxa _));
          apply exl_is; rfl; rfl; rfl; (apply g_move; rfl);
          apply exl_is; rfl; rfl; rfl; (apply g_extract; rfl; rfl);
          apply exl_is; rfl; rfl; rfl; (apply g_extract; rfl; rfl);
          apply exl_is; rfl; rfl; rfl; (apply g_assign; rfl);
          apply exl_is; rfl; rfl; rfl; (apply g_assign; rfl);
          refine exl_nilT ?_;
          refine ex_seq ?_;
          refine ex_region ?_;
          apply exl_is; rfl; rfl; rfl; (apply g_move; rfl);
          apply exl_isB; rfl; rfl; rfl; (apply g_binInt; rfl; rfl; rfl); intro _ _;
          apply exl_is; rfl; rfl; rfl; (apply g_move; rfl);
          refine exl_caseL rfl (fun h => ?_) (fun h => ?_) <;> ((first | (subst h; rename BV _ true => h0; have h := h0.eq; clear h0) | (subst h; rename BV _ false => h0; have h := h0.eq; clear h0) | skip); (have hp := h; try simp only [decide_eq_true_eq, decide_eq_false_iff_not, Bool.not_eq_true', Bool.not_eq_false', bne_iff_ne, beq_iff_eq, beq_eq_false_iff_ne, bne_eq_false_iff_eq, Int.not_lt, Int.not_le] at hp); (try (exfalso; first | omega | (cases hp; done))));
          apply exl_isW; rfl; (rfl); rfl; rfl; (apply g_move; rfl);
          apply exl_isBW; rfl; (rfl); rfl; rfl; (apply g_binInt; rfl; rfl; rfl); intro _ _;
          apply exl_isW; rfl; (rfl); rfl; rfl; (apply g_fieldAddr; rfl; rfl; rfl);
          apply exl_isW; rfl; (rfl); rfl; rfl; (apply g_load1; rfl; rfl; (exact .p (by ((repeat (first | exact List.Mem.head _ | assumption | refine List.Mem.tail _ ?_)); done)) rfl));
          apply exl_isBW; rfl; (rfl); rfl; rfl; (apply g_neqBool; rfl; rfl; rfl); intro _ _;
          apply exl_is; rfl; rfl; rfl; (apply g_pick_f; rfl; (rfl); rfl);
          apply exl_is; rfl; rfl; rfl; (apply g_move; rfl);
          refine exl_caseL rfl (fun h => ?_) (fun h => ?_) <;> ((first | (subst h; rename BV _ true => h0; have h := h0.eq; clear h0) | (subst h; rename BV _ false => h0; have h := h0.eq; clear h0) | skip); (have hp := h; try simp only [decide_eq_true_eq, decide_eq_false_iff_not, Bool.not_eq_true', Bool.not_eq_false', bne_iff_ne, beq_iff_eq, beq_eq_false_iff_ne, bne_eq_false_iff_eq, Int.not_lt, Int.not_le] at hp); (try (exfalso; first | omega | (cases hp; done))));
          refine exl_skipL rfl (by rfl) rfl rfl ?_;
          refine exl_skipL rfl (by rfl) rfl rfl ?_;
          apply exl_is; rfl; rfl; rfl; (apply g_pick_t; rfl; (rfl); rfl);
          refine exl_nilT ?_;
          refine ex_cond_t rfl (by rfl) ?_;
          refine ex_seq ?_;
          refine ex_region ?_;
          apply exl_is; rfl; rfl; rfl; (apply g_assign; rfl);
          refine exl_nilT ?_;
          refine ex_ret ?_;
          simp only [thenA, blockA, roundA, noGotoA, retA, ↓reduceIte, Nat.reduceEqDiff];
          rotate_left;
          apply exl_isW; rfl; (rfl); rfl; rfl; (apply g_move; rfl);
          apply exl_isBW; rfl; (rfl); rfl; rfl; (apply g_binInt; rfl; rfl; rfl); intro _ _;
          apply exl_is; rfl; rfl; rfl; (apply g_pick_f; rfl; (rfl); rfl);
          refine exl_nilT ?_;
          refine ex_cond rfl (fun h => ?_) (fun h => ?_) <;> ((first | (subst h; rename BV _ true => h0; have h := h0.eq; clear h0) | (subst h; rename BV _ false => h0; have h := h0.eq; clear h0) | skip); (have hp := h; try simp only [decide_eq_true_eq, decide_eq_false_iff_not, Bool.not_eq_true', Bool.not_eq_false', bne_iff_ne, beq_iff_eq, beq_eq_false_iff_ne, bne_eq_false_iff_eq, Int.not_lt, Int.not_le] at hp); (try (exfalso; first | omega | (cases hp; done))));
          refine ex_skip ?_;
          refine ex_region ?_;
          apply exl_is; rfl; rfl; rfl; (apply g_add; rfl; rfl; rfl; exact ⟨by omega, by omega⟩);
          apply exl_is; rfl; rfl; rfl; (apply g_move; rfl);
          refine exl_nil ?_;
          simp only [thenA, blockA, roundA, noGotoA, retA, ↓reduceIte, Nat.reduceEqDiff];
          rotate_left
          (all_goals (repeat (rename BV _ _ => hbv; cases hbv)))
          all_goals (try (exfalso; first | (rename true = false => hx; cases hx; done) | (rename false = true => hx; cases hx; done)))
          refine ⟨i + 1, hi, by omega, St.le_of (by repeat (first | exact trivial | refine ⟨rfl, ?_⟩)) (by repeat (first | exact List.Sublist.refl _ | apply List.Sublist.cons_cons | apply List.Sublist.cons))⟩
      · clear hans
        by_cases h0 : l.length = 0
        · clear hpart htwice
          refine ex_seq ?_;
          refine ex_region ?_;
          apply exl_isB; rfl; rfl; rfl; (apply g_binInt; rfl; rfl; rfl); intro _ _;
          refine exl_nilT ?_;
          refine ex_seq ?_;
          refine ex_cond rfl (fun h => ?_) (fun h => ?_) <;> ((first | (subst h; rename BV _ true => h0; have h := h0.eq; clear h0) | (subst h; rename BV _ false => h0; have h := h0.eq; clear h0) | skip); (have hp := h; try simp only [decide_eq_true_eq, decide_eq_false_iff_not, Bool.not_eq_true', Bool.not_eq_false', bne_iff_ne, beq_iff_eq, beq_eq_false_iff_ne, bne_eq_false_iff_eq, Int.not_lt, Int.not_le] at hp); (try (exfalso; first | omega | (cases hp; done))));
          refine ex_exit ?_;
          refine ex_seq ?_;
          refine ex_seq ?_;
          refine ex_region ?_;
          apply exl_is; rfl; rfl; rfl; (apply g_move; rfl);
          apply exl_is; rfl; rfl; rfl; (apply g_len; rfl; rfl; (exact (List.length_map _).symm));
          apply exl_isB; rfl; rfl; rfl; (apply g_binInt; rfl; rfl; rfl); intro _ _;
          refine exl_nilT ?_;
          refine ex_cond rfl (fun h => ?_) (fun h => ?_) <;> ((first | (subst h; rename BV _ true => h0; have h := h0.eq; clear h0) | (subst h; rename BV _ false => h0; have h := h0.eq; clear h0) | skip); (have hp := h; try simp only [decide_eq_true_eq, decide_eq_false_iff_not, Bool.not_eq_true', Bool.not_eq_false', bne_iff_ne, beq_iff_eq, beq_eq_false_iff_ne, bne_eq_false_iff_eq, Int.not_lt, Int.not_le] at hp); (try (exfalso; first | omega | (cases hp; done))));
          refine ex_seq ?_;
          refine ex_region ?_;
          apply exl_is; rfl; rfl; rfl; (apply g_assign; rfl);
          refine exl_nilT ?_;
          refine ex_ret ?_;
          simp only [thenA, blockA, roundA, noGotoA, retA, ↓reduceIte, Nat.reduceEqDiff];
          rotate_left
          (all_goals (repeat (rename BV _ _ => hbv; cases hbv)))
          all_goals (try (exfalso; first | (rename true = false => hx; cases hx; done) | (rename false = true => hx; cases hx; done)))
          refine ret_is .nil (.cons (.ofTmp rfl) .nil) (by repeat (first | exact List.Sublist.refl _ | apply List.Sublist.cons_cons | apply List.Sublist.cons)) (bool_eq ?_)
          rfl
        have hkl : k % l.length < l.length := Nat.mod_lt _ (by omega)
        obtain ⟨x, hx⟩ : ∃ x, l[k % l.length]? = some x := ⟨_, List.getElem?_eq_getElem hkl⟩
        have ht := htwice _ x hx
        clear htwice
        refine ex_seq ?_;
        refine ex_region ?_;
        apply exl_isB; rfl; rfl; rfl; (apply g_binInt; rfl; rfl; rfl); intro _ _;
        refine exl_nilT ?_;
        refine ex_seq ?_;
        refine ex_cond rfl (fun h => ?_) (fun h => ?_) <;> ((first | (subst h; rename BV _ true => h0; have h := h0.eq; clear h0) | (subst h; rename BV _ false => h0; have h := h0.eq; clear h0) | skip); (have hp := h; try simp only [decide_eq_true_eq, decide_eq_false_iff_not, Bool.not_eq_true', Bool.not_eq_false', bne_iff_ne, beq_iff_eq, beq_eq_false_iff_ne, bne_eq_false_iff_eq, Int.not_lt, Int.not_le] at hp); (try (exfalso; first | omega | (cases hp; done))));
        refine ex_exit ?_;
        refine ex_seq ?_;
        refine ex_seq ?_;
        refine ex_region ?_;
        apply exl_is; rfl; rfl; rfl; (apply g_move; rfl);
        apply exl_is; rfl; rfl; rfl; (apply g_len; rfl; rfl; (exact (List.length_map _).symm));
        apply exl_isB; rfl; rfl; rfl; (apply g_binInt; rfl; rfl; rfl); intro _ _;
        refine exl_nilT ?_;
        refine ex_cond rfl (fun h => ?_) (fun h => ?_) <;> ((first | (subst h; rename BV _ true => h0; have h := h0.eq; clear h0) | (subst h; rename BV _ false => h0; have h := h0.eq; clear h0) | skip); (have hp := h; try simp only [decide_eq_true_eq, decide_eq_false_iff_not, Bool.not_eq_true', Bool.not_eq_false', bne_iff_ne, beq_iff_eq, beq_eq_false_iff_ne, bne_eq_false_iff_eq, Int.not_lt, Int.not_le] at hp); (try (exfalso; first | omega | (cases hp; done))));
        refine ex_skip ?_;
        refine ex_seq ?_;
        refine ex_region ?_;
        apply exl_is; rfl; rfl; rfl; (apply g_move; rfl);
        apply exl_is; rfl; rfl; rfl; (apply g_conv64; rfl; rfl; rfl; exact ⟨by omega, by omega⟩);
        apply exl_is; rfl; rfl; rfl; (apply g_move; rfl);
        apply exl_is; rfl; rfl; rfl; (apply g_len; rfl; rfl; (exact (List.length_map _).symm));
        apply exl_is; rfl; rfl; rfl; (apply g_remN; rfl; rfl; (rfl); (rfl); omega);
        apply exl_is; rfl; rfl; rfl; (apply g_assign; rfl);
        refine exl_nilT ?_;
        refine ex_seq ?_;
        refine ex_drawC rfl rfl (by kernel_rfl) rfl ?_; refine ex_drawQ rfl (by kernel_rfl) rfl ?_;
        apply wl_is; rfl; rfl; rfl; (intro σ' hl; (apply g_loadAgg; rfl; decide; rfl; (exact .p (hl _ (True.intro) (by ((repeat (first | exact List.Mem.head _ | assumption | refine List.Mem.tail _ ?_)); done))) rfl rfl)));
        apply wl_is; rfl; rfl; rfl; (intro σ' hl; (apply g_move; rfl));
        apply wl_is; rfl; rfl; rfl; (intro σ' hl; (apply g_move; rfl));
        apply wl_is; rfl; rfl; rfl; (intro σ' hl; (apply g_sliceHi; rfl; rfl; rfl; (rfl); omega));
        apply wl_is; rfl; rfl; rfl; (intro σ' hl; (exact g_call rfl rfl (enters_b (by kernel_rfl)) (hpart _ _)));
        apply wl_is; rfl; rfl; rfl; (intro σ' hl; (apply g_move; rfl));
        apply wl_is; rfl; rfl; rfl; (intro σ' hl; (apply g_extract; rfl; rfl));
        apply wl_is; rfl; rfl; rfl; (intro σ' hl; (apply g_extract; rfl; rfl));
        apply wl_is; rfl; rfl; rfl; (intro σ' hl; (apply g_assign; rfl));
        apply wl_is; rfl; rfl; rfl; (intro σ' hl; (apply g_assign; rfl));
        refine wl_nil ?_; show EX _ _ _ _ _;
        refine ex_seq ?_;
        rotate_left
        (all_goals (repeat (rename BV _ _ => hbv; cases hbv)))
        all_goals (try (exfalso; first | (rename true = false => hx; cases hx; done) | (rename false = true => hx; cases hx; done)))
        refine ex_drawLO (fun e => e = .cells b1 (plC p) 25) 16 [0, 2, 4, 5, 6, 7, 8, 1, 3, 9, 10, 11, 12, 13, 14, 15] [7, 8, 9, 10] rfl (by kernel_rfl) rfl (by kernel_rfl) rfl ?_
        simp only [pick, List.filterMap_cons, List.filterMap_nil, List.getElem?_cons_zero, List.getElem?_cons_succ, List.take_succ_cons, List.take_zero, List.drop_succ_cons, List.drop_zero]
        apply wl_is; rfl; rfl; rfl; (intro σ' hl; (apply g_loadAgg; rfl; decide; rfl; (exact .p (hl _ (by rfl) (by ((repeat (first | exact List.Mem.head _ | assumption | refine List.Mem.tail _ ?_)); done))) rfl rfl)));
        apply wl_is; rfl; rfl; rfl; (intro σ' hl; (apply g_move; rfl));
        apply wl_is; rfl; rfl; rfl; (intro σ' hl; (apply g_move; rfl));
        apply wl_is; rfl; rfl; rfl; (intro σ' hl; (apply g_move; rfl));
        apply wl_is; rfl; rfl; rfl; (intro σ' hl; (apply g_indexDl; rfl; rfl; rfl; (rfl); (exact get_map (by assumption))));
        apply wl_is; rfl; rfl; rfl; (intro σ' hl; (apply g_loadAgg; rfl; decide; rfl; (exact .e rfl rfl)));
        apply wl_is; rfl; rfl; rfl; (intro σ' hl; (exact gop_sealed (g_buildSlice rfl rfl (by decide) rfl rfl (by (simp only [chunkN, List.take_succ_cons, List.take_zero, List.drop_succ_cons, List.drop_zero]; rfl)))));
        refine wl_row rfl rfl rfl (by exact g_buildSlice rfl rfl (by decide) rfl rfl (by (simp only [chunkN, List.take_succ_cons, List.take_zero, List.drop_succ_cons, List.drop_zero]; rfl))) ?_; intro _;
        refine wl_eff rfl rfl rfl (by apply g_append; rfl; rfl; rfl; (intro v'; (exact Upd.here)); (exact .d); (intro y hy; simp only [List.mem_map, List.mem_cons, List.not_mem_nil, or_false, List.mem_append] at hy; (obtain ⟨_, _, rfl⟩ := hy; rfl)); (refine app_ok ?_ (by kernel_rfl); (try simp only [List.length_append, List.length_map, List.length_cons, List.length_nil, List.length_take, List.length_drop]); omega)) ?_; rintro _ _ ⟨v'⟩; refine ⟨(by (rintro _ (rfl | rfl) _ <;> exact (by ((repeat (first | exact List.Mem.head _ | assumption | refine List.Mem.tail _ ?_)); done)))), ?_⟩;
        refine wl_eff rfl rfl rfl (by apply g_append; rfl; rfl; rfl; (intro v'; (exact Upd.here)); (exact .d); (intro y hy; simp only [List.mem_map, List.mem_cons, List.not_mem_nil, or_false, List.mem_append] at hy; (obtain ⟨_, _, rfl⟩ := hy; rfl)); (refine app_ok ?_ (by kernel_rfl); (try simp only [List.length_append, List.length_map, List.length_cons, List.length_nil, List.length_take, List.length_drop]); omega)) ?_; rintro _ _ ⟨v'⟩; refine ⟨(by (rintro _ (rfl | rfl) _ <;> exact (by ((repeat (first | exact List.Mem.head _ | assumption | refine List.Mem.tail _ ?_)); done)))), ?_⟩;
        refine wl_eff rfl rfl rfl (g_call rfl rfl (enters_b (by kernel_rfl)) (scall_lend (.step (by ((repeat (first | exact List.Mem.head _ | assumption | refine List.Mem.tail _ ?_)); done)) (.same (.here .nil)) .refl) rfl (ht _))) ?_; rintro _ _ ⟨⟩; refine ⟨fun _ _ h => h, ?_⟩;
        apply wl_is; rfl; rfl; rfl; (intro σ' hl; (apply g_move; rfl));
        apply wl_is; rfl; rfl; rfl; (intro σ' hl; (apply g_extract; rfl; rfl));
        apply wl_is; rfl; rfl; rfl; (intro σ' hl; (apply g_extract; rfl; rfl));
        apply wl_is; rfl; rfl; rfl; (intro σ' hl; (apply g_assign; rfl));
        apply wl_is; rfl; rfl; rfl; (intro σ' hl; (apply g_assign; rfl));
        refine wl_nil ?_;
        refine exl_nilT ?_;
        refine ex_seq ?_;
        refine ex_region ?_;
        apply exl_is; rfl; rfl; rfl; (apply g_move; rfl);
        apply exl_isB; rfl; rfl; rfl; (apply g_binInt; rfl; rfl; rfl); intro _ _;
        apply exl_is; rfl; rfl; rfl; (apply g_move; rfl);
        refine exl_caseL rfl (fun h => ?_) (fun h => ?_) <;> ((first | (subst h; rename BV _ true => h0; have h := h0.eq; clear h0) | (subst h; rename BV _ false => h0; have h := h0.eq; clear h0) | skip); (have hp := h; try simp only [decide_eq_true_eq, decide_eq_false_iff_not, Bool.not_eq_true', Bool.not_eq_false', bne_iff_ne, beq_iff_eq, beq_eq_false_iff_ne, bne_eq_false_iff_eq, Int.not_lt, Int.not_le] at hp); (try (exfalso; first | omega | (cases hp; done))));
        apply exl_isW; rfl; (rfl); rfl; rfl; (apply g_move; rfl);
        apply exl_isBW; rfl; (rfl); rfl; rfl; (apply g_binInt; rfl; rfl; rfl); intro _ _;
        apply exl_is; rfl; rfl; rfl; (apply g_pick_t; rfl; (rfl); rfl);
        apply exl_is; rfl; rfl; rfl; (apply g_move; rfl);
        refine exl_caseL rfl (fun h => ?_) (fun h => ?_) <;> ((first | (subst h; rename BV _ true => h0; have h := h0.eq; clear h0) | (subst h; rename BV _ false => h0; have h := h0.eq; clear h0) | skip); (have hp := h; try simp only [decide_eq_true_eq, decide_eq_false_iff_not, Bool.not_eq_true', Bool.not_eq_false', bne_iff_ne, beq_iff_eq, beq_eq_false_iff_ne, bne_eq_false_iff_eq, Int.not_lt, Int.not_le] at hp); (try (exfalso; first | omega | (cases hp; done))));
        apply exl_isW; rfl; (rfl); rfl; rfl; (apply g_move; rfl);
        apply exl_is; rfl; rfl; rfl; (apply g_pick_t; rfl; (rfl); rfl);
        apply exl_is; rfl; rfl; rfl; (apply g_move; rfl);
        apply exl_isW; rfl; (rfl); rfl; rfl; (apply g_move; rfl);
        apply exl_isBW; rfl; (rfl); rfl; rfl; (apply g_not; rfl); intro _ _;
        apply exl_is; rfl; rfl; rfl; (apply g_pick_t; rfl; (rfl); rfl);
        apply exl_is; rfl; rfl; rfl; (apply g_assign; rfl);
        refine exl_nilT ?_;
        refine ex_ret ?_;
        simp only [thenA, blockA, roundA, noGotoA, retA, ↓reduceIte, Nat.reduceEqDiff];
        rotate_left
        (all_goals (repeat (rename BV _ _ => hbv; cases hbv)))
        all_goals (try (exfalso; first | (rename true = false => hx; cases hx; done) | (rename false = true => hx; cases hx; done)))
        refine ret_is .nil (.cons (.ofTmp rfl) .nil) (by repeat (first | exact List.Sublist.refl _ | apply List.Sublist.cons_cons | apply List.Sublist.cons)) (bool_eq ?_)
        rfl
    · have hac : ∀ σ, SCall Try.prog 13 [.agg (plC p), rss l] σ (Is (.tup [.bool false, .int .i64 0]) σ) := fun σ => by
        have := accepts_c p l σ
        rwa [show acceptsB lits p l = (false, 0) by unfold acceptsB; simp [hc, ha]] at this
      refine ex_seq ?_;
      refine ex_region ?_;
      refine exl_box rfl rfl rfl (g_box rfl rfl) ?_; intro _;
      apply exl_is; rfl; rfl; rfl; (apply g_assign; rfl);
      refine exl_nilT ?_;
      refine ex_seq ?_;
      refine ex_seq ?_;
      refine ex_region ?_;
      apply exl_isB; rfl; rfl; rfl; (exact g_call rfl rfl (enters_b (by kernel_rfl)) (sane_c _)); intro _ _;
      apply exl_isB; rfl; rfl; rfl; (apply g_not; rfl); intro _ _;
      refine exl_nilT ?_;
      refine ex_cond rfl (fun h => ?_) (fun h => ?_) <;> ((first | (subst h; rename BV _ true => h0; have h := h0.eq; clear h0) | (subst h; rename BV _ false => h0; have h := h0.eq; clear h0) | skip); (have hp := h; try simp only [decide_eq_true_eq, decide_eq_false_iff_not, Bool.not_eq_true', Bool.not_eq_false', bne_iff_ne, beq_iff_eq, beq_eq_false_iff_ne, bne_eq_false_iff_eq, Int.not_lt, Int.not_le] at hp); (try (exfalso; first | omega | (cases hp; done))));
      refine ex_seq ?_;
      refine ex_region ?_;
      apply exl_is; rfl; rfl; rfl; (apply g_assign; rfl);
      refine exl_nilT ?_;
      refine ex_ret ?_;
      simp only [thenA, blockA, roundA, noGotoA, retA, ↓reduceIte, Nat.reduceEqDiff];
      rotate_left;
      refine ex_skip ?_;
      refine ex_seq ?_;
      refine ex_seq ?_;
      refine ex_region ?_;
      apply exl_is; rfl; rfl; rfl; (apply g_loadAgg; rfl; decide; rfl; (exact .p (by ((repeat (first | exact List.Mem.head _ | assumption | refine List.Mem.tail _ ?_)); done)) rfl rfl));
      apply exl_isB; rfl; rfl; rfl; (exact g_call rfl rfl (enters_b (by kernel_rfl)) (few_c p _)); intro _ _;
      apply exl_isB; rfl; rfl; rfl; (apply g_not; rfl); intro _ _;
      apply exl_is; rfl; rfl; rfl; (apply g_move; rfl);
      refine exl_caseL rfl (fun h => ?_) (fun h => ?_) <;> ((first | (subst h; rename BV _ true => h0; have h := h0.eq; clear h0) | (subst h; rename BV _ false => h0; have h := h0.eq; clear h0) | skip); (have hp := h; try simp only [decide_eq_true_eq, decide_eq_false_iff_not, Bool.not_eq_true', Bool.not_eq_false', bne_iff_ne, beq_iff_eq, beq_eq_false_iff_ne, bne_eq_false_iff_eq, Int.not_lt, Int.not_le] at hp); (try (exfalso; first | omega | (cases hp; done))));
      refine exl_skipL rfl (by rfl) rfl rfl ?_;
      refine exl_skipL rfl (by rfl) rfl rfl ?_;
      refine exl_skipL rfl (by rfl) rfl rfl ?_;
      apply exl_is; rfl; rfl; rfl; (apply g_pick_t; rfl; (rfl); rfl);
      refine exl_nilT ?_;
      refine ex_cond_t rfl (by rfl) ?_;
      refine ex_seq ?_;
      refine ex_region ?_;
      apply exl_is; rfl; rfl; rfl; (apply g_assign; rfl);
      refine exl_nilT ?_;
      refine ex_ret ?_;
      simp only [thenA, blockA, roundA, noGotoA, retA, ↓reduceIte, Nat.reduceEqDiff];
      rotate_left;
      apply exl_isW; rfl; (rfl); rfl; rfl; (apply g_move; rfl);
      apply exl_isW; rfl; (rfl); rfl; rfl; (apply g_len; rfl; rfl; (exact (List.length_map _).symm));
      apply exl_isBW; rfl; (rfl); rfl; rfl; (apply g_binInt; rfl; rfl; rfl); intro _ _;
      apply exl_is; rfl; rfl; rfl; (apply g_pick_f; rfl; (rfl); rfl);
      refine exl_nilT ?_;
      refine ex_cond rfl (fun h => ?_) (fun h => ?_) <;> ((first | (subst h; rename BV _ true => h0; have h := h0.eq; clear h0) | (subst h; rename BV _ false => h0; have h := h0.eq; clear h0) | skip); (have hp := h; try simp only [decide_eq_true_eq, decide_eq_false_iff_not, Bool.not_eq_true', Bool.not_eq_false', bne_iff_ne, beq_iff_eq, beq_eq_false_iff_ne, bne_eq_false_iff_eq, Int.not_lt, Int.not_le] at hp); (try (exfalso; first | omega | (cases hp; done))));
      refine ex_seq ?_;
      refine ex_region ?_;
      apply exl_is; rfl; rfl; rfl; (apply g_assign; rfl);
      refine exl_nilT ?_;
      refine ex_ret ?_;
      simp only [thenA, blockA, roundA, noGotoA, retA, ↓reduceIte, Nat.reduceEqDiff];
      rotate_left;
      refine ex_skip ?_;
      refine ex_seq ?_;
      refine ex_region ?_;
      apply exl_is; rfl; rfl; rfl; (apply g_loadAgg; rfl; decide; rfl; (exact .p (by ((repeat (first | exact List.Mem.head _ | assumption | refine List.Mem.tail _ ?_)); done)) rfl rfl));
      apply exl_is; rfl; rfl; rfl; (apply g_move; rfl);
      apply exl_is; rfl; rfl; rfl; (exact g_call rfl rfl (enters_b (by kernel_rfl)) (hac _));
      apply exl_is; rfl; rfl; rfl; (apply g_move; rfl);
      apply exl_is; rfl; rfl; rfl; (apply g_extract; rfl; rfl);
      apply exl_is; rfl; rfl; rfl; (apply g_extract; rfl; rfl);
      apply exl_is; rfl; rfl; rfl; (apply g_assign; rfl);
      apply exl_is; rfl; rfl; rfl; (apply g_assign; rfl);
      refine exl_nilT ?_;
      refine ex_seq ?_;
      refine ex_seq ?_;
      refine ex_region ?_;
      apply exl_is; rfl; rfl; rfl; (apply g_move; rfl);
      apply exl_isB; rfl; rfl; rfl; (apply g_binInt; rfl; rfl; rfl); intro _ _;
      apply exl_is; rfl; rfl; rfl; (apply g_move; rfl);
      refine exl_caseL rfl (fun h => ?_) (fun h => ?_) <;> ((first | (subst h; rename BV _ true => h0; have h := h0.eq; clear h0) | (subst h; rename BV _ false => h0; have h := h0.eq; clear h0) | skip); (have hp := h; try simp only [decide_eq_true_eq, decide_eq_false_iff_not, Bool.not_eq_true', Bool.not_eq_false', bne_iff_ne, beq_iff_eq, beq_eq_false_iff_ne, bne_eq_false_iff_eq, Int.not_lt, Int.not_le] at hp); (try (exfalso; first | omega | (cases hp; done))));
      apply exl_isW; rfl; (rfl); rfl; rfl; (apply g_move; rfl);
      apply exl_isBW; rfl; (rfl); rfl; rfl; (apply g_not; rfl); intro _ _;
      apply exl_is; rfl; rfl; rfl; (apply g_pick_f; rfl; (rfl); rfl);
      refine exl_nilT ?_;
      refine ex_cond rfl (fun h => ?_) (fun h => ?_) <;> ((first | (subst h; rename BV _ true => h0; have h := h0.eq; clear h0) | (subst h; rename BV _ false => h0; have h := h0.eq; clear h0) | skip); (have hp := h; try simp only [decide_eq_true_eq, decide_eq_false_iff_not, Bool.not_eq_true', Bool.not_eq_false', bne_iff_ne, beq_iff_eq, beq_eq_false_iff_ne, bne_eq_false_iff_eq, Int.not_lt, Int.not_le] at hp); (try (exfalso; first | omega | (cases hp; done))));
      refine ex_seq ?_;
      refine ex_region ?_;
      apply exl_is; rfl; rfl; rfl; (apply g_move; rfl);
      apply exl_isB; rfl; rfl; rfl; (apply g_binInt; rfl; rfl; rfl); intro _ _;
      apply exl_is; rfl; rfl; rfl; (apply g_move; rfl);
      refine exl_caseL rfl (fun h => ?_) (fun h => ?_) <;> ((first | (subst h; rename BV _ true => h0; have h := h0.eq; clear h0) | (subst h; rename BV _ false => h0; have h := h0.eq; clear h0) | skip); (have hp := h; try simp only [decide_eq_true_eq, decide_eq_false_iff_not, Bool.not_eq_true', Bool.not_eq_false', bne_iff_ne, beq_iff_eq, beq_eq_false_iff_ne, bne_eq_false_iff_eq, Int.not_lt, Int.not_le] at hp); (try (exfalso; first | omega | (cases hp; done))));
      refine exl_skipL rfl (by rfl) rfl rfl ?_;
      refine exl_skipL rfl (by rfl) rfl rfl ?_;
      refine exl_skipL rfl (by rfl) rfl rfl ?_;
      refine exl_skipR rfl rfl rfl ?_;
      refine exl_skipR rfl rfl rfl ?_;
      refine exl_skipR rfl rfl rfl ?_;
      refine exl_skipR rfl rfl rfl ?_;
      refine exl_skipL rfl (by rfl) rfl rfl ?_;
      apply exl_is; rfl; rfl; rfl; (apply g_pick_t; rfl; (rfl); rfl);
      apply exl_is; rfl; rfl; rfl; (apply g_assign; rfl);
      refine exl_nilT ?_;
      refine ex_ret ?_;
      simp only [thenA, blockA, roundA, noGotoA, retA, ↓reduceIte, Nat.reduceEqDiff];
      rotate_left
      (all_goals (repeat (rename BV _ _ => hbv; cases hbv)))
      all_goals (try (exfalso; first | (rename true = false => hx; cases hx; done) | (rename false = true => hx; cases hx; done)))
      all_goals
        refine ret_is .nil (.cons (.ofTmp rfl) .nil) (by repeat (first | exact List.Sublist.refl _ | apply List.Sublist.cons_cons | apply List.Sublist.cons)) (bool_eq ?_)
        rfl
  · obtain ⟨e, he⟩ : ∃ e, checkB lits p = e := ⟨_, rfl⟩
    rw [he] at hc
    have hac : ∀ σ, SCall Try.prog 13 [.agg (plC p), rss l] σ (Is (.tup [.bool false, .int .i64 e]) σ) := fun σ => by
      have := accepts_c p l σ
      rwa [show acceptsB lits p l = (false, e) by unfold acceptsB; simp [he, hc]] at this
    have hcc := check_c p
    rw [he] at hcc
    refine ex_seq ?_;
    refine ex_region ?_;
    refine exl_box rfl rfl rfl (g_box rfl rfl) ?_; intro _;
    apply exl_is; rfl; rfl; rfl; (apply g_assign; rfl);
    refine exl_nilT ?_;
    refine ex_seq ?_;
    refine ex_seq ?_;
    refine ex_region ?_;
    apply exl_isB; rfl; rfl; rfl; (exact g_call rfl rfl (enters_b (by kernel_rfl)) (sane_c _)); intro _ _;
    apply exl_isB; rfl; rfl; rfl; (apply g_not; rfl); intro _ _;
    refine exl_nilT ?_;
    refine ex_cond rfl (fun h => ?_) (fun h => ?_) <;> ((first | (subst h; rename BV _ true => h0; have h := h0.eq; clear h0) | (subst h; rename BV _ false => h0; have h := h0.eq; clear h0) | skip); (have hp := h; try simp only [decide_eq_true_eq, decide_eq_false_iff_not, Bool.not_eq_true', Bool.not_eq_false', bne_iff_ne, beq_iff_eq, beq_eq_false_iff_ne, bne_eq_false_iff_eq, Int.not_lt, Int.not_le] at hp); (try (exfalso; first | omega | (cases hp; done))));
    refine ex_seq ?_;
    refine ex_region ?_;
    apply exl_is; rfl; rfl; rfl; (apply g_assign; rfl);
    refine exl_nilT ?_;
    refine ex_ret ?_;
    simp only [thenA, blockA, roundA, noGotoA, retA, ↓reduceIte, Nat.reduceEqDiff];
    rotate_left;
    refine ex_skip ?_;
    refine ex_seq ?_;
    refine ex_seq ?_;
    refine ex_region ?_;
    apply exl_is; rfl; rfl; rfl; (apply g_loadAgg; rfl; decide; rfl; (exact .p (by ((repeat (first | exact List.Mem.head _ | assumption | refine List.Mem.tail _ ?_)); done)) rfl rfl));
    apply exl_isB; rfl; rfl; rfl; (exact g_call rfl rfl (enters_b (by kernel_rfl)) (few_c p _)); intro _ _;
    apply exl_isB; rfl; rfl; rfl; (apply g_not; rfl); intro _ _;
    apply exl_is; rfl; rfl; rfl; (apply g_move; rfl);
    refine exl_caseL rfl (fun h => ?_) (fun h => ?_) <;> ((first | (subst h; rename BV _ true => h0; have h := h0.eq; clear h0) | (subst h; rename BV _ false => h0; have h := h0.eq; clear h0) | skip); (have hp := h; try simp only [decide_eq_true_eq, decide_eq_false_iff_not, Bool.not_eq_true', Bool.not_eq_false', bne_iff_ne, beq_iff_eq, beq_eq_false_iff_ne, bne_eq_false_iff_eq, Int.not_lt, Int.not_le] at hp); (try (exfalso; first | omega | (cases hp; done))));
    refine exl_skipL rfl (by rfl) rfl rfl ?_;
    refine exl_skipL rfl (by rfl) rfl rfl ?_;
    refine exl_skipL rfl (by rfl) rfl rfl ?_;
    apply exl_is; rfl; rfl; rfl; (apply g_pick_t; rfl; (rfl); rfl);
    refine exl_nilT ?_;
    refine ex_cond_t rfl (by rfl) ?_;
    refine ex_seq ?_;
    refine ex_region ?_;
    apply exl_is; rfl; rfl; rfl; (apply g_assign; rfl);
    refine exl_nilT ?_;
    refine ex_ret ?_;
    simp only [thenA, blockA, roundA, noGotoA, retA, ↓reduceIte, Nat.reduceEqDiff];
    rotate_left;
    apply exl_isW; rfl; (rfl); rfl; rfl; (apply g_move; rfl);
    apply exl_isW; rfl; (rfl); rfl; rfl; (apply g_len; rfl; rfl; (exact (List.length_map _).symm));
    apply exl_isBW; rfl; (rfl); rfl; rfl; (apply g_binInt; rfl; rfl; rfl); intro _ _;
    apply exl_is; rfl; rfl; rfl; (apply g_pick_f; rfl; (rfl); rfl);
    refine exl_nilT ?_;
    refine ex_cond rfl (fun h => ?_) (fun h => ?_) <;> ((first | (subst h; rename BV _ true => h0; have h := h0.eq; clear h0) | (subst h; rename BV _ false => h0; have h := h0.eq; clear h0) | skip); (have hp := h; try simp only [decide_eq_true_eq, decide_eq_false_iff_not, Bool.not_eq_true', Bool.not_eq_false', bne_iff_ne, beq_iff_eq, beq_eq_false_iff_ne, bne_eq_false_iff_eq, Int.not_lt, Int.not_le] at hp); (try (exfalso; first | omega | (cases hp; done))));
    refine ex_seq ?_;
    refine ex_region ?_;
    apply exl_is; rfl; rfl; rfl; (apply g_assign; rfl);
    refine exl_nilT ?_;
    refine ex_ret ?_;
    simp only [thenA, blockA, roundA, noGotoA, retA, ↓reduceIte, Nat.reduceEqDiff];
    rotate_left;
    refine ex_skip ?_;
    refine ex_seq ?_;
    refine ex_region ?_;
    apply exl_is; rfl; rfl; rfl; (apply g_loadAgg; rfl; decide; rfl; (exact .p (by ((repeat (first | exact List.Mem.head _ | assumption | refine List.Mem.tail _ ?_)); done)) rfl rfl));
    apply exl_is; rfl; rfl; rfl; (apply g_move; rfl);
    apply exl_is; rfl; rfl; rfl; (exact g_call rfl rfl (enters_b (by kernel_rfl)) (hac _));
    apply exl_is; rfl; rfl; rfl; (apply g_move; rfl);
    apply exl_is; rfl; rfl; rfl; (apply g_extract; rfl; rfl);
    apply exl_is; rfl; rfl; rfl; (apply g_extract; rfl; rfl);
    apply exl_is; rfl; rfl; rfl; (apply g_assign; rfl);
    apply exl_is; rfl; rfl; rfl; (apply g_assign; rfl);
    refine exl_nilT ?_;
    refine ex_seq ?_;
    refine ex_seq ?_;
    refine ex_region ?_;
    apply exl_is; rfl; rfl; rfl; (apply g_move; rfl);
    apply exl_isB; rfl; rfl; rfl; (apply g_binInt; rfl; rfl; rfl); intro _ _;
    apply exl_is; rfl; rfl; rfl; (apply g_move; rfl);
    refine exl_caseL rfl (fun h => ?_) (fun h => ?_) <;> ((first | (subst h; rename BV _ true => h0; have h := h0.eq; clear h0) | (subst h; rename BV _ false => h0; have h := h0.eq; clear h0) | skip); (have hp := h; try simp only [decide_eq_true_eq, decide_eq_false_iff_not, Bool.not_eq_true', Bool.not_eq_false', bne_iff_ne, beq_iff_eq, beq_eq_false_iff_ne, bne_eq_false_iff_eq, Int.not_lt, Int.not_le] at hp); (try (exfalso; first | omega | (cases hp; done))));
    refine exl_skipL rfl (by rfl) rfl rfl ?_;
    refine exl_skipL rfl (by rfl) rfl rfl ?_;
    apply exl_is; rfl; rfl; rfl; (apply g_pick_t; rfl; (rfl); rfl);
    refine exl_nilT ?_;
    refine ex_cond_t rfl (by rfl) ?_;
    refine ex_seq ?_;
    refine ex_region ?_;
    apply exl_is; rfl; rfl; rfl; (apply g_move; rfl);
    apply exl_isB; rfl; rfl; rfl; (apply g_binInt; rfl; rfl; rfl); intro _ _;
    apply exl_is; rfl; rfl; rfl; (apply g_move; rfl);
    refine exl_caseL rfl (fun h => ?_) (fun h => ?_) <;> ((first | (subst h; rename BV _ true => h0; have h := h0.eq; clear h0) | (subst h; rename BV _ false => h0; have h := h0.eq; clear h0) | skip); (have hp := h; try simp only [decide_eq_true_eq, decide_eq_false_iff_not, Bool.not_eq_true', Bool.not_eq_false', bne_iff_ne, beq_iff_eq, beq_eq_false_iff_ne, bne_eq_false_iff_eq, Int.not_lt, Int.not_le] at hp); (try (exfalso; first | omega | (cases hp; done))));
    apply exl_isW; rfl; (rfl); rfl; rfl; (apply g_move; rfl);
    apply exl_isBW; rfl; (rfl); rfl; rfl; (apply g_not; rfl); intro _ _;
    apply exl_isW; rfl; (rfl); rfl; rfl; (apply g_move; rfl);
    refine exl_caseL rfl (fun h => ?_) (fun h => ?_) <;> ((first | (subst h; rename BV _ true => h0; have h := h0.eq; clear h0) | (subst h; rename BV _ false => h0; have h := h0.eq; clear h0) | skip); (have hp := h; try simp only [decide_eq_true_eq, decide_eq_false_iff_not, Bool.not_eq_true', Bool.not_eq_false', bne_iff_ne, beq_iff_eq, beq_eq_false_iff_ne, bne_eq_false_iff_eq, Int.not_lt, Int.not_le] at hp); (try (exfalso; first | omega | (cases hp; done))));
    apply exl_isW; rfl; (rfl); rfl; rfl; (apply g_loadAgg; rfl; decide; rfl; (exact .p (by ((repeat (first | exact List.Mem.head _ | assumption | refine List.Mem.tail _ ?_)); done)) rfl rfl));
    apply exl_isW; rfl; (rfl); rfl; rfl; (exact g_call rfl rfl (enters_b (by kernel_rfl)) (hcc _));
    apply exl_isW; rfl; (rfl); rfl; rfl; (apply g_move; rfl);
    apply exl_isBW; rfl; (rfl); rfl; rfl; (apply g_binInt; rfl; rfl; rfl); intro _ _;
    apply exl_isW; rfl; (rfl); rfl; rfl; (apply g_pick_t; rfl; (rfl); rfl);
    apply exl_is; rfl; rfl; rfl; (apply g_pick_f; rfl; (rfl); rfl);
    apply exl_is; rfl; rfl; rfl; (apply g_assign; rfl);
    refine exl_nilT ?_;
    refine ex_ret ?_;
    simp only [thenA, blockA, roundA, noGotoA, retA, ↓reduceIte, Nat.reduceEqDiff];
    rotate_left
    (all_goals (repeat (rename BV _ _ => hbv; cases hbv)))
    all_goals (try (exfalso; first | (rename true = false => hx; cases hx; done) | (rename false = true => hx; cases hx; done)))
    all_goals
      refine ret_is .nil (.cons (.ofTmp rfl) .nil) (by repeat (first | exact List.Sublist.refl _ | apply List.Sublist.cons_cons | apply List.Sublist.cons)) (bool_eq ?_)
      first | rfl | simp [*]
end Go.Proofs.Ythdgmimhaidmnaa
