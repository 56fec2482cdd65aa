/- follows, Accepts. -/
import Derived.Test.YthdgmimhaidmnaaPg
namespace Go.Proofs.Ythdgmimhaidmnaa
set_option linter.unusedSimpArgs false
set_option linter.unusedVariables false
set_option maxHeartbeats 2000000 in
set_option maxRecDepth 10000 in
theorem follows_c {p : Pl} {S : Int → Bool} {K : Known} {kb bs bk nk ns : Nat} {tk : TypeId} {σ : List Ent} (x : Rs) (hp : p.clauses.length ≤ 64) (h1 : Ent.cells kb (courtC p bs bk) tk ∈ σ) (h2 : Ent.imap bk (intM K) nk ∈ σ) (h3 : Ent.imap bs (boolM S) ns ∈ σ) :
    SCall Try.prog 28 [.ptr kb 0, .agg (rsC x)] σ (Is (.bool (followsB p S K x)) σ) := by
  refine scall_of Try.func28 rfl (by simp) ?_
  have hlt := literal_c x.lit
  by_cases hb : litB x.lit = true
  · have hb1 := hb
    rw [hb] at hlt
    simp only [litB, Bool.and_eq_true, decide_eq_true_eq] at hb1
    obtain ⟨⟨hb1, hb2⟩, _⟩ := hb1
    by_cases hc : 1 ≤ x.clause ∧ x.clause ≤ p.clauses.length
    · obtain ⟨hc1, hc2⟩ := hc
      obtain ⟨c, hcc⟩ : ∃ c, p.clauses[(x.clause - 1).toNat]? = some c := ⟨_, List.getElem?_eq_getElem (by omega)⟩
      have hix : x.clause - 1 = (((x.clause - 1).toNat : Nat) : Int) := by omega
      have hx0 : (x.clause == 0) = false := by simp; omega
      refine ex_seq ?_;
      refine ex_region ?_;
      refine exl_box rfl rfl rfl (g_box rfl rfl) ?_; intro _;
      apply exl_is; rfl; rfl; rfl; (apply g_assign; rfl);
      refine exl_nilT ?_;
      refine ex_seq ?_;
      refine ex_seq ?_;
      refine ex_drawC rfl rfl (by kernel_rfl) rfl ?_; refine ex_drawQ rfl (by kernel_rfl) rfl ?_;
      apply wl_is; rfl; rfl; rfl; (intro σ' hl; (apply g_fieldAddr; rfl; rfl; rfl));
      apply wl_is; rfl; rfl; rfl; (intro σ' hl; (apply g_load1; rfl; rfl; (exact .p (hl _ (True.intro) (by ((repeat (first | exact List.Mem.head _ | assumption | refine List.Mem.tail _ ?_)); done))) rfl)));
      apply wl_isB; rfl; rfl; rfl; (intro σ' hl; (exact g_call rfl rfl (enters_b (by kernel_rfl)) (hlt _))); intro _ _;
      apply wl_isB; rfl; rfl; rfl; (intro σ' hl; (apply g_not; rfl)); intro _ _;
      apply wl_is; rfl; rfl; rfl; (intro σ' hl; (apply g_move; rfl));
      refine wl_case rfl (fun h => ?_) (fun h => ?_) <;> ((first | (subst h; rename BV _ true => h0; have h := h0.eq; clear h0) | (subst h; rename BV _ false => h0; have h := h0.eq; clear h0) | skip); (have hp := h; try simp only [decide_eq_true_eq, decide_eq_false_iff_not, Bool.not_eq_true', Bool.not_eq_false', bne_iff_ne, beq_iff_eq, beq_eq_false_iff_ne, bne_eq_false_iff_eq, Int.not_lt, Int.not_le] at hp); (try (exfalso; first | omega | (cases hp; done))));
      refine wl_skip rfl (by rfl) rfl rfl ?_;
      refine wl_skip rfl (by rfl) rfl rfl ?_;
      refine wl_skip rfl (by rfl) rfl rfl ?_;
      refine wl_skip rfl (by rfl) rfl rfl ?_;
      refine wl_skip rfl (by rfl) rfl rfl ?_;
      refine wl_skip rfl (by rfl) rfl rfl ?_;
      refine wl_skip rfl (by rfl) rfl rfl ?_;
      refine wl_skip rfl (by rfl) rfl rfl ?_;
      apply wl_is; rfl; rfl; rfl; (intro σ' hl; (apply g_pick_t; rfl; (rfl); rfl));
      apply wl_is; rfl; rfl; rfl; (intro σ' hl; (apply g_move; rfl));
      refine wl_skip rfl (by rfl) rfl rfl ?_;
      refine wl_skip rfl (by rfl) rfl rfl ?_;
      refine wl_skip rfl (by rfl) rfl rfl ?_;
      apply wl_is; rfl; rfl; rfl; (intro σ' hl; (apply g_pick_t; rfl; (rfl); rfl));
      apply wl_is; rfl; rfl; rfl; (intro σ' hl; (apply g_move; rfl));
      refine wl_skip rfl (by rfl) rfl rfl ?_;
      refine wl_skip rfl (by rfl) rfl rfl ?_;
      refine wl_skip rfl (by rfl) rfl rfl ?_;
      refine wl_skip rfl (by rfl) rfl rfl ?_;
      refine wl_skip rfl (by rfl) rfl rfl ?_;
      refine wl_skip rfl (by rfl) rfl rfl ?_;
      refine wl_skip rfl (by rfl) rfl rfl ?_;
      refine wl_skip rfl (by rfl) rfl rfl ?_;
      refine wl_skip rfl (by rfl) rfl rfl ?_;
      apply wl_is; rfl; rfl; rfl; (intro σ' hl; (apply g_pick_t; rfl; (rfl); rfl));
      refine wl_nil ?_; show EX _ _ _ _ _;
      refine ex_cond_t rfl (by rfl) ?_;
      refine ex_seq ?_;
      refine ex_region ?_;
      apply exl_is; rfl; rfl; rfl; (apply g_assign; rfl);
      refine exl_nilT ?_;
      refine ex_ret ?_;
      simp only [thenA, blockA, roundA, noGotoA, retA, ↓reduceIte, Nat.reduceEqDiff];
      rotate_left;
      apply wl_isW; rfl; (rfl); rfl; rfl; (intro σ' hl; (apply g_move; rfl));
      apply wl_isW; rfl; (rfl); rfl; rfl; (intro σ' hl; (apply g_nilCheck; rfl; rfl));
      apply wl_isW; rfl; (rfl); rfl; rfl; (intro σ' hl; (apply g_fieldAddr; rfl; rfl; rfl));
      apply wl_isW; rfl; (rfl); rfl; rfl; (intro σ' hl; (apply g_load1; rfl; rfl; (exact .p (hl _ (True.intro) (by ((repeat (first | exact List.Mem.head _ | assumption | refine List.Mem.tail _ ?_)); done))) rfl)));
      apply wl_isW; rfl; (rfl); rfl; rfl; (intro σ' hl; (apply g_fieldAddr; rfl; rfl; rfl));
      apply wl_isW; rfl; (rfl); rfl; rfl; (intro σ' hl; (apply g_load1; rfl; rfl; (exact .p (hl _ (True.intro) (by ((repeat (first | exact List.Mem.head _ | assumption | refine List.Mem.tail _ ?_)); done))) rfl)));
      apply wl_isW; rfl; (rfl); rfl; rfl; (intro σ' hl; (apply g_lookup; rfl; rfl; exact hl _ (True.intro) (by ((repeat (first | exact List.Mem.head _ | assumption | refine List.Mem.tail _ ?_)); done)); rfl; rfl; (exact intM_getD _ _)));
      apply wl_isBW; rfl; (rfl); rfl; rfl; (intro σ' hl; (apply g_binInt; rfl; rfl; rfl)); intro _ _;
      apply wl_is; rfl; rfl; rfl; (intro σ' hl; (apply g_pick_f; rfl; (rfl); rfl));
      apply wl_is; rfl; rfl; rfl; (intro σ' hl; (apply g_move; rfl));
      refine wl_case rfl (fun h => ?_) (fun h => ?_) <;> ((first | (subst h; rename BV _ true => h0; have h := h0.eq; clear h0) | (subst h; rename BV _ false => h0; have h := h0.eq; clear h0) | skip); (have hp := h; try simp only [decide_eq_true_eq, decide_eq_false_iff_not, Bool.not_eq_true', Bool.not_eq_false', bne_iff_ne, beq_iff_eq, beq_eq_false_iff_ne, bne_eq_false_iff_eq, Int.not_lt, Int.not_le] at hp); (try (exfalso; first | omega | (cases hp; done))));
      refine wl_skip rfl (by rfl) rfl rfl ?_;
      refine wl_skip rfl (by rfl) rfl rfl ?_;
      refine wl_skip rfl (by rfl) rfl rfl ?_;
      apply wl_is; rfl; rfl; rfl; (intro σ' hl; (apply g_pick_t; rfl; (rfl); rfl));
      apply wl_is; rfl; rfl; rfl; (intro σ' hl; (apply g_move; rfl));
      refine wl_skip rfl (by rfl) rfl rfl ?_;
      refine wl_skip rfl (by rfl) rfl rfl ?_;
      refine wl_skip rfl (by rfl) rfl rfl ?_;
      refine wl_skip rfl (by rfl) rfl rfl ?_;
      refine wl_skip rfl (by rfl) rfl rfl ?_;
      refine wl_skip rfl (by rfl) rfl rfl ?_;
      refine wl_skip rfl (by rfl) rfl rfl ?_;
      refine wl_skip rfl (by rfl) rfl rfl ?_;
      refine wl_skip rfl (by rfl) rfl rfl ?_;
      apply wl_is; rfl; rfl; rfl; (intro σ' hl; (apply g_pick_t; rfl; (rfl); rfl));
      refine wl_nil ?_; show EX _ _ _ _ _;
      refine ex_cond_t rfl (by rfl) ?_;
      refine ex_seq ?_;
      refine ex_region ?_;
      apply exl_is; rfl; rfl; rfl; (apply g_assign; rfl);
      refine exl_nilT ?_;
      refine ex_ret ?_;
      simp only [thenA, blockA, roundA, noGotoA, retA, ↓reduceIte, Nat.reduceEqDiff];
      rotate_left;
      apply wl_isW; rfl; (rfl); rfl; rfl; (intro σ' hl; (apply g_fieldAddr; rfl; rfl; rfl));
      apply wl_isW; rfl; (rfl); rfl; rfl; (intro σ' hl; (apply g_load1; rfl; rfl; (exact .p (hl _ (True.intro) (by ((repeat (first | exact List.Mem.head _ | assumption | refine List.Mem.tail _ ?_)); done))) rfl)));
      apply wl_isBW; rfl; (rfl); rfl; rfl; (intro σ' hl; (apply g_binInt; rfl; rfl; rfl)); intro _ _;
      apply wl_is; rfl; rfl; rfl; (intro σ' hl; (apply g_pick_f; rfl; (rfl); rfl));
      apply wl_is; rfl; rfl; rfl; (intro σ' hl; (apply g_move; rfl));
      refine wl_case rfl (fun h => ?_) (fun h => ?_) <;> ((first | (subst h; rename BV _ true => h0; have h := h0.eq; clear h0) | (subst h; rename BV _ false => h0; have h := h0.eq; clear h0) | skip); (have hp := h; try simp only [decide_eq_true_eq, decide_eq_false_iff_not, Bool.not_eq_true', Bool.not_eq_false', bne_iff_ne, beq_iff_eq, beq_eq_false_iff_ne, bne_eq_false_iff_eq, Int.not_lt, Int.not_le] at hp); (try (exfalso; first | omega | (cases hp; done))));
      apply wl_isW; rfl; (rfl); rfl; rfl; (intro σ' hl; (apply g_fieldAddr; rfl; rfl; rfl));
      apply wl_isW; rfl; (rfl); rfl; rfl; (intro σ' hl; (apply g_load1; rfl; rfl; (exact .p (hl _ (True.intro) (by ((repeat (first | exact List.Mem.head _ | assumption | refine List.Mem.tail _ ?_)); done))) rfl)));
      apply wl_isW; rfl; (rfl); rfl; rfl; (intro σ' hl; (apply g_move; rfl));
      apply wl_isW; rfl; (rfl); rfl; rfl; (intro σ' hl; (apply g_nilCheck; rfl; rfl));
      apply wl_isW; rfl; (rfl); rfl; rfl; (intro σ' hl; (apply g_fieldAddr; rfl; rfl; rfl));
      apply wl_isW; rfl; (rfl); rfl; rfl; (intro σ' hl; (apply g_fieldAddr; rfl; rfl; rfl));
      apply wl_isW; rfl; (rfl); rfl; rfl; (intro σ' hl; (apply g_load1; rfl; rfl; (exact .p (hl _ (True.intro) (by ((repeat (first | exact List.Mem.head _ | assumption | refine List.Mem.tail _ ?_)); done))) rfl)));
      apply wl_isW; rfl; (rfl); rfl; rfl; (intro σ' hl; (apply g_len; rfl; rfl; (exact (List.length_map _).symm)));
      apply wl_isBW; rfl; (rfl); rfl; rfl; (intro σ' hl; (apply g_binInt; rfl; rfl; rfl)); intro _ _;
      apply wl_is; rfl; rfl; rfl; (intro σ' hl; (apply g_pick_f; rfl; (rfl); rfl));
      refine wl_nil ?_; show EX _ _ _ _ _;
      refine ex_cond rfl (fun h => ?_) (fun h => ?_) <;> ((first | (subst h; rename BV _ true => h0; have h := h0.eq; clear h0) | (subst h; rename BV _ false => h0; have h := h0.eq; clear h0) | skip); (have hp := h; try simp only [decide_eq_true_eq, decide_eq_false_iff_not, Bool.not_eq_true', Bool.not_eq_false', bne_iff_ne, beq_iff_eq, beq_eq_false_iff_ne, bne_eq_false_iff_eq, Int.not_lt, Int.not_le] at hp); (try (exfalso; first | omega | (cases hp; done))));
      refine ex_skip ?_;
      refine ex_seq ?_;
      refine ex_seq ?_;
      refine ex_region ?_;
      apply exl_is; rfl; rfl; rfl; (apply g_fieldAddr; rfl; rfl; rfl);
      apply exl_is; rfl; rfl; rfl; (apply g_load1; rfl; rfl; (exact .p (by ((repeat (first | exact List.Mem.head _ | assumption | refine List.Mem.tail _ ?_)); done)) rfl));
      apply exl_isB; rfl; rfl; rfl; (apply g_not; rfl); intro _ _;
      refine exl_nilT ?_;
      refine ex_cond rfl (fun h => ?_) (fun h => ?_) <;> ((first | (subst h; rename BV _ true => h0; have h := h0.eq; clear h0) | (subst h; rename BV _ false => h0; have h := h0.eq; clear h0) | skip); (have hp := h; try simp only [decide_eq_true_eq, decide_eq_false_iff_not, Bool.not_eq_true', Bool.not_eq_false', bne_iff_ne, beq_iff_eq, beq_eq_false_iff_ne, bne_eq_false_iff_eq, Int.not_lt, Int.not_le] at hp); (try (exfalso; first | omega | (cases hp; done))));
      refine ex_seq ?_;
      refine ex_region ?_;
      apply exl_is; rfl; rfl; rfl; (apply g_fieldAddr; rfl; rfl; rfl);
      apply exl_is; rfl; rfl; rfl; (apply g_load1; rfl; rfl; (exact .p (by ((repeat (first | exact List.Mem.head _ | assumption | refine List.Mem.tail _ ?_)); done)) rfl));
      apply exl_isB; rfl; rfl; rfl; (apply g_binInt; rfl; rfl; rfl); intro _ _;
      apply exl_is; rfl; rfl; rfl; (apply g_move; rfl);
      refine exl_caseL rfl (fun h => ?_) (fun h => ?_) <;> ((first | (subst h; rename BV _ true => h0; have h := h0.eq; clear h0) | (subst h; rename BV _ false => h0; have h := h0.eq; clear h0) | skip); (have hp := h; try simp only [decide_eq_true_eq, decide_eq_false_iff_not, Bool.not_eq_true', Bool.not_eq_false', bne_iff_ne, beq_iff_eq, beq_eq_false_iff_ne, bne_eq_false_iff_eq, Int.not_lt, Int.not_le] at hp); (try (exfalso; first | omega | (cases hp; done))));
      refine exl_skipL rfl (by rfl) rfl rfl ?_;
      refine exl_skipL rfl (by rfl) rfl rfl ?_;
      refine exl_skipL rfl (by rfl) rfl rfl ?_;
      refine exl_skipL rfl (by rfl) rfl rfl ?_;
      apply exl_is; rfl; rfl; rfl; (apply g_pick_f; rfl; (rfl); rfl);
      apply exl_is; rfl; rfl; rfl; (apply g_assign; rfl);
      refine exl_nilT ?_;
      refine ex_ret ?_;
      simp only [thenA, blockA, roundA, noGotoA, retA, ↓reduceIte, Nat.reduceEqDiff];
      rotate_left;
      refine ex_skip ?_;
      refine ex_seq ?_;
      refine ex_seq ?_;
      refine ex_region ?_;
      apply exl_is; rfl; rfl; rfl; (apply g_fieldAddr; rfl; rfl; rfl);
      apply exl_is; rfl; rfl; rfl; (apply g_load1; rfl; rfl; (exact .p (by ((repeat (first | exact List.Mem.head _ | assumption | refine List.Mem.tail _ ?_)); done)) rfl));
      apply exl_isB; rfl; rfl; rfl; (apply g_binInt; rfl; rfl; rfl); intro _ _;
      refine exl_nilT ?_;
      refine ex_cond rfl (fun h => ?_) (fun h => ?_) <;> ((first | (subst h; rename BV _ true => h0; have h := h0.eq; clear h0) | (subst h; rename BV _ false => h0; have h := h0.eq; clear h0) | skip); (have hp := h; try simp only [decide_eq_true_eq, decide_eq_false_iff_not, Bool.not_eq_true', Bool.not_eq_false', bne_iff_ne, beq_iff_eq, beq_eq_false_iff_ne, bne_eq_false_iff_eq, Int.not_lt, Int.not_le] at hp); (try (exfalso; first | omega | (cases hp; done))));
      refine ex_skip ?_;
      refine ex_seq ?_;
      rotate_left
      (all_goals (repeat (rename BV _ _ => hbv; cases hbv)))
      all_goals (try (exfalso; first | (rename true = false => hx; cases hx; done) | (rename false = true => hx; cases hx; done)))
      · clear hix
        refine ret_is .nil (.cons (.ofTmp rfl) .nil) (by repeat (first | exact List.Sublist.refl _ | apply List.Sublist.cons_cons | apply List.Sublist.cons)) (bool_eq ?_)
        unfold followsB
        rw [hcc]
        simp [*]
      · clear hix
        refine ret_is .nil (.cons (.ofTmp rfl) .nil) (by repeat (first | exact List.Sublist.refl _ | apply List.Sublist.cons_cons | apply List.Sublist.cons)) (bool_eq ?_)
        unfold followsB
        rw [hcc]
        simp [*]
      · refine ex_drawLK anyK 11 [10] rfl (by kernel_rfl) rfl ?_
        simp only [List.take_succ_cons, List.take_zero, List.drop_succ_cons, List.drop_zero]
        apply wl_is; rfl; rfl; rfl; (intro σ' hl; (apply g_move; rfl));
        apply wl_is; rfl; rfl; rfl; (intro σ' hl; (apply g_nilCheck; rfl; rfl));
        apply wl_is; rfl; rfl; rfl; (intro σ' hl; (apply g_fieldAddr; rfl; rfl; rfl));
        apply wl_is; rfl; rfl; rfl; (intro σ' hl; (apply g_fieldAddr; rfl; rfl; rfl));
        apply wl_is; rfl; rfl; rfl; (intro σ' hl; (apply g_load1; rfl; rfl; (exact .p (hl _ (True.intro) (by ((repeat (first | exact List.Mem.head _ | assumption | refine List.Mem.tail _ ?_)); done))) rfl)));
        apply wl_is; rfl; rfl; rfl; (intro σ' hl; (apply g_fieldAddr; rfl; rfl; rfl));
        apply wl_is; rfl; rfl; rfl; (intro σ' hl; (apply g_load1; rfl; rfl; (exact .p (hl _ (True.intro) (by ((repeat (first | exact List.Mem.head _ | assumption | refine List.Mem.tail _ ?_)); done))) rfl)));
        apply wl_is; rfl; rfl; rfl; (intro σ' hl; (apply g_sub; rfl; rfl; rfl; exact ⟨by omega, by omega⟩));
        apply wl_is; rfl; rfl; rfl; (intro σ' hl; (apply g_indexDl; rfl; rfl; rfl; (assumption); (exact get_map (by assumption))));
        apply wl_is; rfl; rfl; rfl; (intro σ' hl; (apply g_loadAgg; rfl; decide; rfl; (exact .e rfl rfl)));
        refine wl_box rfl rfl rfl (g_alloc rfl) ?_; intro _;
        refine wl_nil ?_;
        apply exl_do; rfl; rfl; (apply g_store'; rfl; rfl; rfl; (exact Upd.here); (simp only [setL, List.set_cons_zero, List.set_cons_succ, AV.cells]; rfl); rfl; rfl; rfl; exact Nat.le_of_ble_eq_true rfl);
        refine exl_nilT ?_;
        refine ex_seq ?_;
        refine ex_region ?_;
        apply exl_is; rfl; rfl; rfl; (apply g_fieldAddr; rfl; rfl; rfl);
        apply exl_is; rfl; rfl; rfl; (apply g_load1; rfl; rfl; (exact .p (by ((repeat (first | exact List.Mem.head _ | assumption | refine List.Mem.tail _ ?_)); done)) rfl));
        apply exl_is; rfl; rfl; rfl; (apply g_fieldAddr; rfl; rfl; rfl);
        apply exl_is; rfl; rfl; rfl; (apply g_load1; rfl; rfl; (exact .p (by ((repeat (first | exact List.Mem.head _ | assumption | refine List.Mem.tail _ ?_)); done)) rfl));
        apply exl_isB; rfl; rfl; rfl; (apply g_binInt; rfl; rfl; rfl); intro _ _;
        apply exl_is; rfl; rfl; rfl; (apply g_move; rfl);
        refine exl_caseL rfl (fun h => ?_) (fun h => ?_) <;> ((first | (subst h; rename BV _ true => h0; have h := h0.eq; clear h0) | (subst h; rename BV _ false => h0; have h := h0.eq; clear h0) | skip); (have hp := h; try simp only [decide_eq_true_eq, decide_eq_false_iff_not, Bool.not_eq_true', Bool.not_eq_false', bne_iff_ne, beq_iff_eq, beq_eq_false_iff_ne, bne_eq_false_iff_eq, Int.not_lt, Int.not_le] at hp); (try (exfalso; first | omega | (cases hp; done))));
        apply exl_isW; rfl; (rfl); rfl; rfl; (apply g_move; rfl);
        apply exl_isW; rfl; (rfl); rfl; rfl; (apply g_loadAgg; rfl; decide; rfl; (exact .p (by ((repeat (first | exact List.Mem.head _ | assumption | refine List.Mem.tail _ ?_)); done)) rfl rfl));
        apply exl_isBW; rfl; (rfl); rfl; rfl; (exact g_call rfl rfl (enters_b (by kernel_rfl)) (on_c (p := p) (K := K) c (by ((repeat (first | exact List.Mem.head _ | assumption | refine List.Mem.tail _ ?_)); done)) (by ((repeat (first | exact List.Mem.head _ | assumption | refine List.Mem.tail _ ?_)); done)))); intro _ _;
        apply exl_is; rfl; rfl; rfl; (apply g_pick_t; rfl; (rfl); rfl);
        apply exl_is; rfl; rfl; rfl; (apply g_move; rfl);
        refine exl_caseL rfl (fun h => ?_) (fun h => ?_) <;> ((first | (subst h; rename BV _ true => h0; have h := h0.eq; clear h0) | (subst h; rename BV _ false => h0; have h := h0.eq; clear h0) | skip); (have hp := h; try simp only [decide_eq_true_eq, decide_eq_false_iff_not, Bool.not_eq_true', Bool.not_eq_false', bne_iff_ne, beq_iff_eq, beq_eq_false_iff_ne, bne_eq_false_iff_eq, Int.not_lt, Int.not_le] at hp); (try (exfalso; first | omega | (cases hp; done))));
        apply exl_isW; rfl; (rfl); rfl; rfl; (apply g_move; rfl);
        apply exl_isW; rfl; (rfl); rfl; rfl; (apply g_fieldAddr; rfl; rfl; rfl);
        apply exl_isW; rfl; (rfl); rfl; rfl; (apply g_load1; rfl; rfl; (exact .p (by ((repeat (first | exact List.Mem.head _ | assumption | refine List.Mem.tail _ ?_)); done)) rfl));
        apply exl_isBW; rfl; (rfl); rfl; rfl; (exact g_call rfl rfl (enters_b (by kernel_rfl)) (proves_c (p := p) (S := S) (K := K) x.lit ⟨hb1, hb2⟩ (by ((repeat (first | exact List.Mem.head _ | assumption | refine List.Mem.tail _ ?_)); done)) (by ((repeat (first | exact List.Mem.head _ | assumption | refine List.Mem.tail _ ?_)); done)) (by ((repeat (first | exact List.Mem.head _ | assumption | refine List.Mem.tail _ ?_)); done)))); intro _ _;
        apply exl_is; rfl; rfl; rfl; (apply g_pick_t; rfl; (rfl); rfl);
        apply exl_is; rfl; rfl; rfl; (apply g_assign; rfl);
        refine exl_nilT ?_;
        refine ex_ret ?_;
        simp only [thenA, blockA, roundA, noGotoA, retA, ↓reduceIte, Nat.reduceEqDiff];
        rotate_left;
        refine exl_skipL rfl (by rfl) rfl rfl ?_;
        refine exl_skipL rfl (by rfl) rfl rfl ?_;
        refine exl_skipL rfl (by rfl) rfl rfl ?_;
        refine exl_skipL rfl (by rfl) rfl rfl ?_;
        apply exl_is; rfl; rfl; rfl; (apply g_pick_f; rfl; (rfl); rfl);
        apply exl_is; rfl; rfl; rfl; (apply g_assign; rfl);
        refine exl_nilT ?_;
        refine ex_ret ?_;
        simp only [thenA, blockA, roundA, noGotoA, retA, ↓reduceIte, Nat.reduceEqDiff];
        rotate_left;
        refine exl_skipL rfl (by rfl) rfl rfl ?_;
        refine exl_skipL rfl (by rfl) rfl rfl ?_;
        refine exl_skipL rfl (by rfl) rfl rfl ?_;
        apply exl_is; rfl; rfl; rfl; (apply g_pick_f; rfl; (rfl); rfl);
        apply exl_is; rfl; rfl; rfl; (apply g_move; rfl);
        refine exl_skipL rfl (by rfl) rfl rfl ?_;
        refine exl_skipL rfl (by rfl) rfl rfl ?_;
        refine exl_skipL rfl (by rfl) rfl rfl ?_;
        refine exl_skipL rfl (by rfl) rfl rfl ?_;
        apply exl_is; rfl; rfl; rfl; (apply g_pick_f; rfl; (rfl); rfl);
        apply exl_is; rfl; rfl; rfl; (apply g_assign; rfl);
        refine exl_nilT ?_;
        refine ex_ret ?_;
        simp only [thenA, blockA, roundA, noGotoA, retA, ↓reduceIte, Nat.reduceEqDiff];
        rotate_left
        (all_goals (repeat (rename BV _ _ => hbv; cases hbv)))
        all_goals (try (exfalso; first | (rename true = false => hx; cases hx; done) | (rename false = true => hx; cases hx; done)))
        all_goals
          clear hix
          refine ret_is .nil (.cons (.ofTmp rfl) .nil) (by repeat (first | exact List.Sublist.refl _ | apply List.Sublist.cons_cons | apply List.Sublist.cons)) (bool_eq ?_)
          unfold followsB
          rw [hcc]
          simp [*]
    · refine ex_seq ?_;
      refine ex_region ?_;
      refine exl_box rfl rfl rfl (g_box rfl rfl) ?_; intro _;
      apply exl_is; rfl; rfl; rfl; (apply g_assign; rfl);
      refine exl_nilT ?_;
      refine ex_seq ?_;
      refine ex_seq ?_;
      refine ex_drawC rfl rfl (by kernel_rfl) rfl ?_; refine ex_drawQ rfl (by kernel_rfl) rfl ?_;
      apply wl_is; rfl; rfl; rfl; (intro σ' hl; (apply g_fieldAddr; rfl; rfl; rfl));
      apply wl_is; rfl; rfl; rfl; (intro σ' hl; (apply g_load1; rfl; rfl; (exact .p (hl _ (True.intro) (by ((repeat (first | exact List.Mem.head _ | assumption | refine List.Mem.tail _ ?_)); done))) rfl)));
      apply wl_isB; rfl; rfl; rfl; (intro σ' hl; (exact g_call rfl rfl (enters_b (by kernel_rfl)) (hlt _))); intro _ _;
      apply wl_isB; rfl; rfl; rfl; (intro σ' hl; (apply g_not; rfl)); intro _ _;
      apply wl_is; rfl; rfl; rfl; (intro σ' hl; (apply g_move; rfl));
      refine wl_case rfl (fun h => ?_) (fun h => ?_) <;> ((first | (subst h; rename BV _ true => h0; have h := h0.eq; clear h0) | (subst h; rename BV _ false => h0; have h := h0.eq; clear h0) | skip); (have hp := h; try simp only [decide_eq_true_eq, decide_eq_false_iff_not, Bool.not_eq_true', Bool.not_eq_false', bne_iff_ne, beq_iff_eq, beq_eq_false_iff_ne, bne_eq_false_iff_eq, Int.not_lt, Int.not_le] at hp); (try (exfalso; first | omega | (cases hp; done))));
      refine wl_skip rfl (by rfl) rfl rfl ?_;
      refine wl_skip rfl (by rfl) rfl rfl ?_;
      refine wl_skip rfl (by rfl) rfl rfl ?_;
      refine wl_skip rfl (by rfl) rfl rfl ?_;
      refine wl_skip rfl (by rfl) rfl rfl ?_;
      refine wl_skip rfl (by rfl) rfl rfl ?_;
      refine wl_skip rfl (by rfl) rfl rfl ?_;
      refine wl_skip rfl (by rfl) rfl rfl ?_;
      apply wl_is; rfl; rfl; rfl; (intro σ' hl; (apply g_pick_t; rfl; (rfl); rfl));
      apply wl_is; rfl; rfl; rfl; (intro σ' hl; (apply g_move; rfl));
      refine wl_skip rfl (by rfl) rfl rfl ?_;
      refine wl_skip rfl (by rfl) rfl rfl ?_;
      refine wl_skip rfl (by rfl) rfl rfl ?_;
      apply wl_is; rfl; rfl; rfl; (intro σ' hl; (apply g_pick_t; rfl; (rfl); rfl));
      apply wl_is; rfl; rfl; rfl; (intro σ' hl; (apply g_move; rfl));
      refine wl_skip rfl (by rfl) rfl rfl ?_;
      refine wl_skip rfl (by rfl) rfl rfl ?_;
      refine wl_skip rfl (by rfl) rfl rfl ?_;
      refine wl_skip rfl (by rfl) rfl rfl ?_;
      refine wl_skip rfl (by rfl) rfl rfl ?_;
      refine wl_skip rfl (by rfl) rfl rfl ?_;
      refine wl_skip rfl (by rfl) rfl rfl ?_;
      refine wl_skip rfl (by rfl) rfl rfl ?_;
      refine wl_skip rfl (by rfl) rfl rfl ?_;
      apply wl_is; rfl; rfl; rfl; (intro σ' hl; (apply g_pick_t; rfl; (rfl); rfl));
      refine wl_nil ?_; show EX _ _ _ _ _;
      refine ex_cond_t rfl (by rfl) ?_;
      refine ex_seq ?_;
      refine ex_region ?_;
      apply exl_is; rfl; rfl; rfl; (apply g_assign; rfl);
      refine exl_nilT ?_;
      refine ex_ret ?_;
      simp only [thenA, blockA, roundA, noGotoA, retA, ↓reduceIte, Nat.reduceEqDiff];
      rotate_left;
      apply wl_isW; rfl; (rfl); rfl; rfl; (intro σ' hl; (apply g_move; rfl));
      apply wl_isW; rfl; (rfl); rfl; rfl; (intro σ' hl; (apply g_nilCheck; rfl; rfl));
      apply wl_isW; rfl; (rfl); rfl; rfl; (intro σ' hl; (apply g_fieldAddr; rfl; rfl; rfl));
      apply wl_isW; rfl; (rfl); rfl; rfl; (intro σ' hl; (apply g_load1; rfl; rfl; (exact .p (hl _ (True.intro) (by ((repeat (first | exact List.Mem.head _ | assumption | refine List.Mem.tail _ ?_)); done))) rfl)));
      apply wl_isW; rfl; (rfl); rfl; rfl; (intro σ' hl; (apply g_fieldAddr; rfl; rfl; rfl));
      apply wl_isW; rfl; (rfl); rfl; rfl; (intro σ' hl; (apply g_load1; rfl; rfl; (exact .p (hl _ (True.intro) (by ((repeat (first | exact List.Mem.head _ | assumption | refine List.Mem.tail _ ?_)); done))) rfl)));
      apply wl_isW; rfl; (rfl); rfl; rfl; (intro σ' hl; (apply g_lookup; rfl; rfl; exact hl _ (True.intro) (by ((repeat (first | exact List.Mem.head _ | assumption | refine List.Mem.tail _ ?_)); done)); rfl; rfl; (exact intM_getD _ _)));
      apply wl_isBW; rfl; (rfl); rfl; rfl; (intro σ' hl; (apply g_binInt; rfl; rfl; rfl)); intro _ _;
      apply wl_is; rfl; rfl; rfl; (intro σ' hl; (apply g_pick_f; rfl; (rfl); rfl));
      apply wl_is; rfl; rfl; rfl; (intro σ' hl; (apply g_move; rfl));
      refine wl_case rfl (fun h => ?_) (fun h => ?_) <;> ((first | (subst h; rename BV _ true => h0; have h := h0.eq; clear h0) | (subst h; rename BV _ false => h0; have h := h0.eq; clear h0) | skip); (have hp := h; try simp only [decide_eq_true_eq, decide_eq_false_iff_not, Bool.not_eq_true', Bool.not_eq_false', bne_iff_ne, beq_iff_eq, beq_eq_false_iff_ne, bne_eq_false_iff_eq, Int.not_lt, Int.not_le] at hp); (try (exfalso; first | omega | (cases hp; done))));
      refine wl_skip rfl (by rfl) rfl rfl ?_;
      refine wl_skip rfl (by rfl) rfl rfl ?_;
      refine wl_skip rfl (by rfl) rfl rfl ?_;
      apply wl_is; rfl; rfl; rfl; (intro σ' hl; (apply g_pick_t; rfl; (rfl); rfl));
      apply wl_is; rfl; rfl; rfl; (intro σ' hl; (apply g_move; rfl));
      refine wl_skip rfl (by rfl) rfl rfl ?_;
      refine wl_skip rfl (by rfl) rfl rfl ?_;
      refine wl_skip rfl (by rfl) rfl rfl ?_;
      refine wl_skip rfl (by rfl) rfl rfl ?_;
      refine wl_skip rfl (by rfl) rfl rfl ?_;
      refine wl_skip rfl (by rfl) rfl rfl ?_;
      refine wl_skip rfl (by rfl) rfl rfl ?_;
      refine wl_skip rfl (by rfl) rfl rfl ?_;
      refine wl_skip rfl (by rfl) rfl rfl ?_;
      apply wl_is; rfl; rfl; rfl; (intro σ' hl; (apply g_pick_t; rfl; (rfl); rfl));
      refine wl_nil ?_; show EX _ _ _ _ _;
      refine ex_cond_t rfl (by rfl) ?_;
      refine ex_seq ?_;
      refine ex_region ?_;
      apply exl_is; rfl; rfl; rfl; (apply g_assign; rfl);
      refine exl_nilT ?_;
      refine ex_ret ?_;
      simp only [thenA, blockA, roundA, noGotoA, retA, ↓reduceIte, Nat.reduceEqDiff];
      rotate_left;
      apply wl_isW; rfl; (rfl); rfl; rfl; (intro σ' hl; (apply g_fieldAddr; rfl; rfl; rfl));
      apply wl_isW; rfl; (rfl); rfl; rfl; (intro σ' hl; (apply g_load1; rfl; rfl; (exact .p (hl _ (True.intro) (by ((repeat (first | exact List.Mem.head _ | assumption | refine List.Mem.tail _ ?_)); done))) rfl)));
      apply wl_isBW; rfl; (rfl); rfl; rfl; (intro σ' hl; (apply g_binInt; rfl; rfl; rfl)); intro _ _;
      apply wl_is; rfl; rfl; rfl; (intro σ' hl; (apply g_pick_f; rfl; (rfl); rfl));
      apply wl_is; rfl; rfl; rfl; (intro σ' hl; (apply g_move; rfl));
      refine wl_case rfl (fun h => ?_) (fun h => ?_) <;> ((first | (subst h; rename BV _ true => h0; have h := h0.eq; clear h0) | (subst h; rename BV _ false => h0; have h := h0.eq; clear h0) | skip); (have hp := h; try simp only [decide_eq_true_eq, decide_eq_false_iff_not, Bool.not_eq_true', Bool.not_eq_false', bne_iff_ne, beq_iff_eq, beq_eq_false_iff_ne, bne_eq_false_iff_eq, Int.not_lt, Int.not_le] at hp); (try (exfalso; first | omega | (cases hp; done))));
      refine wl_skip rfl (by rfl) rfl rfl ?_;
      refine wl_skip rfl (by rfl) rfl rfl ?_;
      refine wl_skip rfl (by rfl) rfl rfl ?_;
      refine wl_skip rfl (by rfl) rfl rfl ?_;
      refine wl_skip rfl (by rfl) rfl rfl ?_;
      refine wl_skip rfl (by rfl) rfl rfl ?_;
      refine wl_skip rfl (by rfl) rfl rfl ?_;
      refine wl_skip rfl (by rfl) rfl rfl ?_;
      refine wl_skip rfl (by rfl) rfl rfl ?_;
      apply wl_is; rfl; rfl; rfl; (intro σ' hl; (apply g_pick_t; rfl; (rfl); rfl));
      refine wl_nil ?_; show EX _ _ _ _ _;
      refine ex_cond_t rfl (by rfl) ?_;
      refine ex_seq ?_;
      refine ex_region ?_;
      apply exl_is; rfl; rfl; rfl; (apply g_assign; rfl);
      refine exl_nilT ?_;
      refine ex_ret ?_;
      simp only [thenA, blockA, roundA, noGotoA, retA, ↓reduceIte, Nat.reduceEqDiff];
      rotate_left;
      apply wl_isW; rfl; (rfl); rfl; rfl; (intro σ' hl; (apply g_fieldAddr; rfl; rfl; rfl));
      apply wl_isW; rfl; (rfl); rfl; rfl; (intro σ' hl; (apply g_load1; rfl; rfl; (exact .p (hl _ (True.intro) (by ((repeat (first | exact List.Mem.head _ | assumption | refine List.Mem.tail _ ?_)); done))) rfl)));
      apply wl_isW; rfl; (rfl); rfl; rfl; (intro σ' hl; (apply g_move; rfl));
      apply wl_isW; rfl; (rfl); rfl; rfl; (intro σ' hl; (apply g_nilCheck; rfl; rfl));
      apply wl_isW; rfl; (rfl); rfl; rfl; (intro σ' hl; (apply g_fieldAddr; rfl; rfl; rfl));
      apply wl_isW; rfl; (rfl); rfl; rfl; (intro σ' hl; (apply g_fieldAddr; rfl; rfl; rfl));
      apply wl_isW; rfl; (rfl); rfl; rfl; (intro σ' hl; (apply g_load1; rfl; rfl; (exact .p (hl _ (True.intro) (by ((repeat (first | exact List.Mem.head _ | assumption | refine List.Mem.tail _ ?_)); done))) rfl)));
      apply wl_isW; rfl; (rfl); rfl; rfl; (intro σ' hl; (apply g_len; rfl; rfl; (exact (List.length_map _).symm)));
      apply wl_isBW; rfl; (rfl); rfl; rfl; (intro σ' hl; (apply g_binInt; rfl; rfl; rfl)); intro _ _;
      apply wl_is; rfl; rfl; rfl; (intro σ' hl; (apply g_pick_f; rfl; (rfl); rfl));
      refine wl_nil ?_; show EX _ _ _ _ _;
      refine ex_cond rfl (fun h => ?_) (fun h => ?_) <;> ((first | (subst h; rename BV _ true => h0; have h := h0.eq; clear h0) | (subst h; rename BV _ false => h0; have h := h0.eq; clear h0) | skip); (have hp := h; try simp only [decide_eq_true_eq, decide_eq_false_iff_not, Bool.not_eq_true', Bool.not_eq_false', bne_iff_ne, beq_iff_eq, beq_eq_false_iff_ne, bne_eq_false_iff_eq, Int.not_lt, Int.not_le] at hp); (try (exfalso; first | omega | (cases hp; done))));
      refine ex_seq ?_;
      refine ex_region ?_;
      apply exl_is; rfl; rfl; rfl; (apply g_assign; rfl);
      refine exl_nilT ?_;
      refine ex_ret ?_;
      simp only [thenA, blockA, roundA, noGotoA, retA, ↓reduceIte, Nat.reduceEqDiff];
      rotate_left;
      refine ex_skip ?_;
      refine ex_seq ?_;
      refine ex_seq ?_;
      refine ex_region ?_;
      apply exl_is; rfl; rfl; rfl; (apply g_fieldAddr; rfl; rfl; rfl);
      apply exl_is; rfl; rfl; rfl; (apply g_load1; rfl; rfl; (exact .p (by ((repeat (first | exact List.Mem.head _ | assumption | refine List.Mem.tail _ ?_)); done)) rfl));
      apply exl_isB; rfl; rfl; rfl; (apply g_not; rfl); intro _ _;
      refine exl_nilT ?_;
      refine ex_cond rfl (fun h => ?_) (fun h => ?_) <;> ((first | (subst h; rename BV _ true => h0; have h := h0.eq; clear h0) | (subst h; rename BV _ false => h0; have h := h0.eq; clear h0) | skip); (have hp := h; try simp only [decide_eq_true_eq, decide_eq_false_iff_not, Bool.not_eq_true', Bool.not_eq_false', bne_iff_ne, beq_iff_eq, beq_eq_false_iff_ne, bne_eq_false_iff_eq, Int.not_lt, Int.not_le] at hp); (try (exfalso; first | omega | (cases hp; done))));
      refine ex_seq ?_;
      refine ex_region ?_;
      apply exl_is; rfl; rfl; rfl; (apply g_fieldAddr; rfl; rfl; rfl);
      apply exl_is; rfl; rfl; rfl; (apply g_load1; rfl; rfl; (exact .p (by ((repeat (first | exact List.Mem.head _ | assumption | refine List.Mem.tail _ ?_)); done)) rfl));
      apply exl_isB; rfl; rfl; rfl; (apply g_binInt; rfl; rfl; rfl); intro _ _;
      apply exl_is; rfl; rfl; rfl; (apply g_move; rfl);
      refine exl_caseL rfl (fun h => ?_) (fun h => ?_) <;> ((first | (subst h; rename BV _ true => h0; have h := h0.eq; clear h0) | (subst h; rename BV _ false => h0; have h := h0.eq; clear h0) | skip); (have hp := h; try simp only [decide_eq_true_eq, decide_eq_false_iff_not, Bool.not_eq_true', Bool.not_eq_false', bne_iff_ne, beq_iff_eq, beq_eq_false_iff_ne, bne_eq_false_iff_eq, Int.not_lt, Int.not_le] at hp); (try (exfalso; first | omega | (cases hp; done))));
      apply exl_isW; rfl; (rfl); rfl; rfl; (apply g_move; rfl);
      apply exl_isW; rfl; (rfl); rfl; rfl; (apply g_fieldAddr; rfl; rfl; rfl);
      apply exl_isW; rfl; (rfl); rfl; rfl; (apply g_load1; rfl; rfl; (exact .p (by ((repeat (first | exact List.Mem.head _ | assumption | refine List.Mem.tail _ ?_)); done)) rfl));
      apply exl_isBW; rfl; (rfl); rfl; rfl; (exact g_call rfl rfl (enters_b (by kernel_rfl)) (refutes_c (p := p) (S := S) (K := K) x.lit ⟨hb1, hb2⟩ (by ((repeat (first | exact List.Mem.head _ | assumption | refine List.Mem.tail _ ?_)); done)) (by ((repeat (first | exact List.Mem.head _ | assumption | refine List.Mem.tail _ ?_)); done)) (by ((repeat (first | exact List.Mem.head _ | assumption | refine List.Mem.tail _ ?_)); done)))); intro _ _;
      apply exl_is; rfl; rfl; rfl; (apply g_pick_t; rfl; (rfl); rfl);
      apply exl_is; rfl; rfl; rfl; (apply g_assign; rfl);
      refine exl_nilT ?_;
      refine ex_ret ?_;
      simp only [thenA, blockA, roundA, noGotoA, retA, ↓reduceIte, Nat.reduceEqDiff];
      rotate_left;
      refine ex_skip ?_;
      refine ex_seq ?_;
      refine ex_seq ?_;
      refine ex_region ?_;
      apply exl_is; rfl; rfl; rfl; (apply g_fieldAddr; rfl; rfl; rfl);
      apply exl_is; rfl; rfl; rfl; (apply g_load1; rfl; rfl; (exact .p (by ((repeat (first | exact List.Mem.head _ | assumption | refine List.Mem.tail _ ?_)); done)) rfl));
      apply exl_isB; rfl; rfl; rfl; (apply g_binInt; rfl; rfl; rfl); intro _ _;
      refine exl_nilT ?_;
      refine ex_cond rfl (fun h => ?_) (fun h => ?_) <;> ((first | (subst h; rename BV _ true => h0; have h := h0.eq; clear h0) | (subst h; rename BV _ false => h0; have h := h0.eq; clear h0) | skip); (have hp := h; try simp only [decide_eq_true_eq, decide_eq_false_iff_not, Bool.not_eq_true', Bool.not_eq_false', bne_iff_ne, beq_iff_eq, beq_eq_false_iff_ne, bne_eq_false_iff_eq, Int.not_lt, Int.not_le] at hp); (try (exfalso; first | omega | (cases hp; done))));
      refine ex_seq ?_;
      refine ex_drawC rfl rfl (by kernel_rfl) rfl ?_; refine ex_drawQ rfl (by kernel_rfl) rfl ?_;
      apply wl_is; rfl; rfl; rfl; (intro σ' hl; (apply g_move; rfl));
      apply wl_is; rfl; rfl; rfl; (intro σ' hl; (apply g_nilCheck; rfl; rfl));
      apply wl_is; rfl; rfl; rfl; (intro σ' hl; (apply g_fieldAddr; rfl; rfl; rfl));
      apply wl_is; rfl; rfl; rfl; (intro σ' hl; (apply g_load1; rfl; rfl; (exact .p (hl _ (True.intro) (by ((repeat (first | exact List.Mem.head _ | assumption | refine List.Mem.tail _ ?_)); done))) rfl)));
      apply wl_is; rfl; rfl; rfl; (intro σ' hl; (apply g_fieldAddr; rfl; rfl; rfl));
      apply wl_is; rfl; rfl; rfl; (intro σ' hl; (apply g_load1; rfl; rfl; (exact .p (hl _ (True.intro) (by ((repeat (first | exact List.Mem.head _ | assumption | refine List.Mem.tail _ ?_)); done))) rfl)));
      apply wl_isB; rfl; rfl; rfl; (intro σ' hl; (apply g_lookup; rfl; rfl; exact hl _ (True.intro) (by ((repeat (first | exact List.Mem.head _ | assumption | refine List.Mem.tail _ ?_)); done)); rfl; rfl; exact boolM_getD _ _)); intro _ _;
      apply wl_is; rfl; rfl; rfl; (intro σ' hl; (apply g_assign; rfl));
      refine wl_nil ?_; show EX _ _ _ _ _;
      refine ex_ret ?_;
      simp only [thenA, blockA, roundA, noGotoA, retA, ↓reduceIte, Nat.reduceEqDiff];
      rotate_left
      (all_goals (repeat (rename BV _ _ => hbv; cases hbv)))
      all_goals (try (exfalso; first | (rename true = false => hx; cases hx; done) | (rename false = true => hx; cases hx; done)))
      all_goals
        refine ret_is .nil (.cons (.ofTmp rfl) .nil) (by repeat (first | exact List.Sublist.refl _ | apply List.Sublist.cons_cons | apply List.Sublist.cons)) (bool_eq ?_)
        unfold followsB
        simp [*]
  · have hb1 : litB x.lit = false := by simpa using hb
    rw [hb1] at hlt
    refine ex_seq ?_;
    refine ex_region ?_;
    refine exl_box rfl rfl rfl (g_box rfl rfl) ?_; intro _;
    apply exl_is; rfl; rfl; rfl; (apply g_assign; rfl);
    refine exl_nilT ?_;
    refine ex_seq ?_;
    refine ex_seq ?_;
    refine ex_drawC rfl rfl (by kernel_rfl) rfl ?_; refine ex_drawQ rfl (by kernel_rfl) rfl ?_;
    apply wl_is; rfl; rfl; rfl; (intro σ' hl; (apply g_fieldAddr; rfl; rfl; rfl));
    apply wl_is; rfl; rfl; rfl; (intro σ' hl; (apply g_load1; rfl; rfl; (exact .p (hl _ (True.intro) (by ((repeat (first | exact List.Mem.head _ | assumption | refine List.Mem.tail _ ?_)); done))) rfl)));
    apply wl_isB; rfl; rfl; rfl; (intro σ' hl; (exact g_call rfl rfl (enters_b (by kernel_rfl)) (hlt _))); intro _ _;
    apply wl_isB; rfl; rfl; rfl; (intro σ' hl; (apply g_not; rfl)); intro _ _;
    apply wl_is; rfl; rfl; rfl; (intro σ' hl; (apply g_move; rfl));
    refine wl_case rfl (fun h => ?_) (fun h => ?_) <;> ((first | (subst h; rename BV _ true => h0; have h := h0.eq; clear h0) | (subst h; rename BV _ false => h0; have h := h0.eq; clear h0) | skip); (have hp := h; try simp only [decide_eq_true_eq, decide_eq_false_iff_not, Bool.not_eq_true', Bool.not_eq_false', bne_iff_ne, beq_iff_eq, beq_eq_false_iff_ne, bne_eq_false_iff_eq, Int.not_lt, Int.not_le] at hp); (try (exfalso; first | omega | (cases hp; done))));
    refine wl_skip rfl (by rfl) rfl rfl ?_;
    refine wl_skip rfl (by rfl) rfl rfl ?_;
    refine wl_skip rfl (by rfl) rfl rfl ?_;
    refine wl_skip rfl (by rfl) rfl rfl ?_;
    refine wl_skip rfl (by rfl) rfl rfl ?_;
    refine wl_skip rfl (by rfl) rfl rfl ?_;
    refine wl_skip rfl (by rfl) rfl rfl ?_;
    refine wl_skip rfl (by rfl) rfl rfl ?_;
    apply wl_is; rfl; rfl; rfl; (intro σ' hl; (apply g_pick_t; rfl; (rfl); rfl));
    apply wl_is; rfl; rfl; rfl; (intro σ' hl; (apply g_move; rfl));
    refine wl_skip rfl (by rfl) rfl rfl ?_;
    refine wl_skip rfl (by rfl) rfl rfl ?_;
    refine wl_skip rfl (by rfl) rfl rfl ?_;
    apply wl_is; rfl; rfl; rfl; (intro σ' hl; (apply g_pick_t; rfl; (rfl); rfl));
    apply wl_is; rfl; rfl; rfl; (intro σ' hl; (apply g_move; rfl));
    refine wl_skip rfl (by rfl) rfl rfl ?_;
    refine wl_skip rfl (by rfl) rfl rfl ?_;
    refine wl_skip rfl (by rfl) rfl rfl ?_;
    refine wl_skip rfl (by rfl) rfl rfl ?_;
    refine wl_skip rfl (by rfl) rfl rfl ?_;
    refine wl_skip rfl (by rfl) rfl rfl ?_;
    refine wl_skip rfl (by rfl) rfl rfl ?_;
    refine wl_skip rfl (by rfl) rfl rfl ?_;
    refine wl_skip rfl (by rfl) rfl rfl ?_;
    apply wl_is; rfl; rfl; rfl; (intro σ' hl; (apply g_pick_t; rfl; (rfl); rfl));
    refine wl_nil ?_; show EX _ _ _ _ _;
    refine ex_cond_t rfl (by rfl) ?_;
    refine ex_seq ?_;
    refine ex_region ?_;
    apply exl_is; rfl; rfl; rfl; (apply g_assign; rfl);
    refine exl_nilT ?_;
    refine ex_ret ?_;
    simp only [thenA, blockA, roundA, noGotoA, retA, ↓reduceIte, Nat.reduceEqDiff];
    rotate_left;
    apply wl_isW; rfl; (rfl); rfl; rfl; (intro σ' hl; (apply g_move; rfl));
    apply wl_isW; rfl; (rfl); rfl; rfl; (intro σ' hl; (apply g_nilCheck; rfl; rfl));
    apply wl_isW; rfl; (rfl); rfl; rfl; (intro σ' hl; (apply g_fieldAddr; rfl; rfl; rfl));
    apply wl_isW; rfl; (rfl); rfl; rfl; (intro σ' hl; (apply g_load1; rfl; rfl; (exact .p (hl _ (True.intro) (by ((repeat (first | exact List.Mem.head _ | assumption | refine List.Mem.tail _ ?_)); done))) rfl)));
    apply wl_isW; rfl; (rfl); rfl; rfl; (intro σ' hl; (apply g_fieldAddr; rfl; rfl; rfl));
    apply wl_isW; rfl; (rfl); rfl; rfl; (intro σ' hl; (apply g_load1; rfl; rfl; (exact .p (hl _ (True.intro) (by ((repeat (first | exact List.Mem.head _ | assumption | refine List.Mem.tail _ ?_)); done))) rfl)));
    apply wl_isW; rfl; (rfl); rfl; rfl; (intro σ' hl; (apply g_lookup; rfl; rfl; exact hl _ (True.intro) (by ((repeat (first | exact List.Mem.head _ | assumption | refine List.Mem.tail _ ?_)); done)); rfl; rfl; (exact intM_getD _ _)));
    apply wl_isBW; rfl; (rfl); rfl; rfl; (intro σ' hl; (apply g_binInt; rfl; rfl; rfl)); intro _ _;
    apply wl_is; rfl; rfl; rfl; (intro σ' hl; (apply g_pick_f; rfl; (rfl); rfl));
    apply wl_is; rfl; rfl; rfl; (intro σ' hl; (apply g_move; rfl));
    refine wl_case rfl (fun h => ?_) (fun h => ?_) <;> ((first | (subst h; rename BV _ true => h0; have h := h0.eq; clear h0) | (subst h; rename BV _ false => h0; have h := h0.eq; clear h0) | skip); (have hp := h; try simp only [decide_eq_true_eq, decide_eq_false_iff_not, Bool.not_eq_true', Bool.not_eq_false', bne_iff_ne, beq_iff_eq, beq_eq_false_iff_ne, bne_eq_false_iff_eq, Int.not_lt, Int.not_le] at hp); (try (exfalso; first | omega | (cases hp; done))));
    refine wl_skip rfl (by rfl) rfl rfl ?_;
    refine wl_skip rfl (by rfl) rfl rfl ?_;
    refine wl_skip rfl (by rfl) rfl rfl ?_;
    apply wl_is; rfl; rfl; rfl; (intro σ' hl; (apply g_pick_t; rfl; (rfl); rfl));
    apply wl_is; rfl; rfl; rfl; (intro σ' hl; (apply g_move; rfl));
    refine wl_skip rfl (by rfl) rfl rfl ?_;
    refine wl_skip rfl (by rfl) rfl rfl ?_;
    refine wl_skip rfl (by rfl) rfl rfl ?_;
    refine wl_skip rfl (by rfl) rfl rfl ?_;
    refine wl_skip rfl (by rfl) rfl rfl ?_;
    refine wl_skip rfl (by rfl) rfl rfl ?_;
    refine wl_skip rfl (by rfl) rfl rfl ?_;
    refine wl_skip rfl (by rfl) rfl rfl ?_;
    refine wl_skip rfl (by rfl) rfl rfl ?_;
    apply wl_is; rfl; rfl; rfl; (intro σ' hl; (apply g_pick_t; rfl; (rfl); rfl));
    refine wl_nil ?_; show EX _ _ _ _ _;
    refine ex_cond_t rfl (by rfl) ?_;
    refine ex_seq ?_;
    refine ex_region ?_;
    apply exl_is; rfl; rfl; rfl; (apply g_assign; rfl);
    refine exl_nilT ?_;
    refine ex_ret ?_;
    simp only [thenA, blockA, roundA, noGotoA, retA, ↓reduceIte, Nat.reduceEqDiff];
    rotate_left;
    apply wl_isW; rfl; (rfl); rfl; rfl; (intro σ' hl; (apply g_fieldAddr; rfl; rfl; rfl));
    apply wl_isW; rfl; (rfl); rfl; rfl; (intro σ' hl; (apply g_load1; rfl; rfl; (exact .p (hl _ (True.intro) (by ((repeat (first | exact List.Mem.head _ | assumption | refine List.Mem.tail _ ?_)); done))) rfl)));
    apply wl_isBW; rfl; (rfl); rfl; rfl; (intro σ' hl; (apply g_binInt; rfl; rfl; rfl)); intro _ _;
    apply wl_is; rfl; rfl; rfl; (intro σ' hl; (apply g_pick_f; rfl; (rfl); rfl));
    apply wl_is; rfl; rfl; rfl; (intro σ' hl; (apply g_move; rfl));
    refine wl_case rfl (fun h => ?_) (fun h => ?_) <;> ((first | (subst h; rename BV _ true => h0; have h := h0.eq; clear h0) | (subst h; rename BV _ false => h0; have h := h0.eq; clear h0) | skip); (have hp := h; try simp only [decide_eq_true_eq, decide_eq_false_iff_not, Bool.not_eq_true', Bool.not_eq_false', bne_iff_ne, beq_iff_eq, beq_eq_false_iff_ne, bne_eq_false_iff_eq, Int.not_lt, Int.not_le] at hp); (try (exfalso; first | omega | (cases hp; done))));
    refine wl_skip rfl (by rfl) rfl rfl ?_;
    refine wl_skip rfl (by rfl) rfl rfl ?_;
    refine wl_skip rfl (by rfl) rfl rfl ?_;
    refine wl_skip rfl (by rfl) rfl rfl ?_;
    refine wl_skip rfl (by rfl) rfl rfl ?_;
    refine wl_skip rfl (by rfl) rfl rfl ?_;
    refine wl_skip rfl (by rfl) rfl rfl ?_;
    refine wl_skip rfl (by rfl) rfl rfl ?_;
    refine wl_skip rfl (by rfl) rfl rfl ?_;
    apply wl_is; rfl; rfl; rfl; (intro σ' hl; (apply g_pick_t; rfl; (rfl); rfl));
    refine wl_nil ?_; show EX _ _ _ _ _;
    refine ex_cond_t rfl (by rfl) ?_;
    refine ex_seq ?_;
    refine ex_region ?_;
    apply exl_is; rfl; rfl; rfl; (apply g_assign; rfl);
    refine exl_nilT ?_;
    refine ex_ret ?_;
    simp only [thenA, blockA, roundA, noGotoA, retA, ↓reduceIte, Nat.reduceEqDiff];
    rotate_left;
    apply wl_isW; rfl; (rfl); rfl; rfl; (intro σ' hl; (apply g_fieldAddr; rfl; rfl; rfl));
    apply wl_isW; rfl; (rfl); rfl; rfl; (intro σ' hl; (apply g_load1; rfl; rfl; (exact .p (hl _ (True.intro) (by ((repeat (first | exact List.Mem.head _ | assumption | refine List.Mem.tail _ ?_)); done))) rfl)));
    apply wl_isW; rfl; (rfl); rfl; rfl; (intro σ' hl; (apply g_move; rfl));
    apply wl_isW; rfl; (rfl); rfl; rfl; (intro σ' hl; (apply g_nilCheck; rfl; rfl));
    apply wl_isW; rfl; (rfl); rfl; rfl; (intro σ' hl; (apply g_fieldAddr; rfl; rfl; rfl));
    apply wl_isW; rfl; (rfl); rfl; rfl; (intro σ' hl; (apply g_fieldAddr; rfl; rfl; rfl));
    apply wl_isW; rfl; (rfl); rfl; rfl; (intro σ' hl; (apply g_load1; rfl; rfl; (exact .p (hl _ (True.intro) (by ((repeat (first | exact List.Mem.head _ | assumption | refine List.Mem.tail _ ?_)); done))) rfl)));
    apply wl_isW; rfl; (rfl); rfl; rfl; (intro σ' hl; (apply g_len; rfl; rfl; (exact (List.length_map _).symm)));
    apply wl_isBW; rfl; (rfl); rfl; rfl; (intro σ' hl; (apply g_binInt; rfl; rfl; rfl)); intro _ _;
    apply wl_is; rfl; rfl; rfl; (intro σ' hl; (apply g_pick_f; rfl; (rfl); rfl));
    refine wl_nil ?_; show EX _ _ _ _ _;
    refine ex_cond rfl (fun h => ?_) (fun h => ?_) <;> ((first | (subst h; rename BV _ true => h0; have h := h0.eq; clear h0) | (subst h; rename BV _ false => h0; have h := h0.eq; clear h0) | skip); (have hp := h; try simp only [decide_eq_true_eq, decide_eq_false_iff_not, Bool.not_eq_true', Bool.not_eq_false', bne_iff_ne, beq_iff_eq, beq_eq_false_iff_ne, bne_eq_false_iff_eq, Int.not_lt, Int.not_le] at hp); (try (exfalso; first | omega | (cases hp; done))));
    refine ex_seq ?_;
    refine ex_region ?_;
    apply exl_is; rfl; rfl; rfl; (apply g_assign; rfl);
    refine exl_nilT ?_;
    refine ex_ret ?_;
    simp only [thenA, blockA, roundA, noGotoA, retA, ↓reduceIte, Nat.reduceEqDiff];
    rotate_left;
    refine ex_skip ?_;
    refine ex_seq ?_;
    refine ex_seq ?_;
    refine ex_region ?_;
    apply exl_is; rfl; rfl; rfl; (apply g_fieldAddr; rfl; rfl; rfl);
    apply exl_is; rfl; rfl; rfl; (apply g_load1; rfl; rfl; (exact .p (by ((repeat (first | exact List.Mem.head _ | assumption | refine List.Mem.tail _ ?_)); done)) rfl));
    apply exl_isB; rfl; rfl; rfl; (apply g_not; rfl); intro _ _;
    refine exl_nilT ?_;
    refine ex_cond rfl (fun h => ?_) (fun h => ?_) <;> ((first | (subst h; rename BV _ true => h0; have h := h0.eq; clear h0) | (subst h; rename BV _ false => h0; have h := h0.eq; clear h0) | skip); (have hp := h; try simp only [decide_eq_true_eq, decide_eq_false_iff_not, Bool.not_eq_true', Bool.not_eq_false', bne_iff_ne, beq_iff_eq, beq_eq_false_iff_ne, bne_eq_false_iff_eq, Int.not_lt, Int.not_le] at hp); (try (exfalso; first | omega | (cases hp; done))));
    refine ex_seq ?_;
    refine ex_region ?_;
    apply exl_is; rfl; rfl; rfl; (apply g_fieldAddr; rfl; rfl; rfl);
    apply exl_is; rfl; rfl; rfl; (apply g_load1; rfl; rfl; (exact .p (by ((repeat (first | exact List.Mem.head _ | assumption | refine List.Mem.tail _ ?_)); done)) rfl));
    apply exl_isB; rfl; rfl; rfl; (apply g_binInt; rfl; rfl; rfl); intro _ _;
    apply exl_is; rfl; rfl; rfl; (apply g_move; rfl);
    refine exl_caseL rfl (fun h => ?_) (fun h => ?_) <;> ((first | (subst h; rename BV _ true => h0; have h := h0.eq; clear h0) | (subst h; rename BV _ false => h0; have h := h0.eq; clear h0) | skip); (have hp := h; try simp only [decide_eq_true_eq, decide_eq_false_iff_not, Bool.not_eq_true', Bool.not_eq_false', bne_iff_ne, beq_iff_eq, beq_eq_false_iff_ne, bne_eq_false_iff_eq, Int.not_lt, Int.not_le] at hp); (try (exfalso; first | omega | (cases hp; done))));
    apply exl_isW; rfl; (rfl); rfl; rfl; (apply g_move; rfl);
    apply exl_isW; rfl; (rfl); rfl; rfl; (apply g_fieldAddr; rfl; rfl; rfl);
    apply exl_isW; rfl; (rfl); rfl; rfl; (apply g_load1; rfl; rfl; (exact .p (by ((repeat (first | exact List.Mem.head _ | assumption | refine List.Mem.tail _ ?_)); done)) rfl));
    rotate_left;
    refine exl_skipL rfl (by rfl) rfl rfl ?_;
    refine exl_skipL rfl (by rfl) rfl rfl ?_;
    refine exl_skipL rfl (by rfl) rfl rfl ?_;
    refine exl_skipL rfl (by rfl) rfl rfl ?_;
    apply exl_is; rfl; rfl; rfl; (apply g_pick_f; rfl; (rfl); rfl);
    apply exl_is; rfl; rfl; rfl; (apply g_assign; rfl);
    refine exl_nilT ?_;
    refine ex_ret ?_;
    simp only [thenA, blockA, roundA, noGotoA, retA, ↓reduceIte, Nat.reduceEqDiff];
    rotate_left;
    refine ex_skip ?_;
    refine ex_seq ?_;
    refine ex_seq ?_;
    refine ex_region ?_;
    apply exl_is; rfl; rfl; rfl; (apply g_fieldAddr; rfl; rfl; rfl);
    apply exl_is; rfl; rfl; rfl; (apply g_load1; rfl; rfl; (exact .p (by ((repeat (first | exact List.Mem.head _ | assumption | refine List.Mem.tail _ ?_)); done)) rfl));
    apply exl_isB; rfl; rfl; rfl; (apply g_binInt; rfl; rfl; rfl); intro _ _;
    refine exl_nilT ?_;
    refine ex_cond rfl (fun h => ?_) (fun h => ?_) <;> ((first | (subst h; rename BV _ true => h0; have h := h0.eq; clear h0) | (subst h; rename BV _ false => h0; have h := h0.eq; clear h0) | skip); (have hp := h; try simp only [decide_eq_true_eq, decide_eq_false_iff_not, Bool.not_eq_true', Bool.not_eq_false', bne_iff_ne, beq_iff_eq, beq_eq_false_iff_ne, bne_eq_false_iff_eq, Int.not_lt, Int.not_le] at hp); (try (exfalso; first | omega | (cases hp; done))));
    refine ex_seq ?_;
    refine ex_drawC rfl rfl (by kernel_rfl) rfl ?_; refine ex_drawQ rfl (by kernel_rfl) rfl ?_;
    apply wl_is; rfl; rfl; rfl; (intro σ' hl; (apply g_move; rfl));
    apply wl_is; rfl; rfl; rfl; (intro σ' hl; (apply g_nilCheck; rfl; rfl));
    apply wl_is; rfl; rfl; rfl; (intro σ' hl; (apply g_fieldAddr; rfl; rfl; rfl));
    apply wl_is; rfl; rfl; rfl; (intro σ' hl; (apply g_load1; rfl; rfl; (exact .p (hl _ (True.intro) (by ((repeat (first | exact List.Mem.head _ | assumption | refine List.Mem.tail _ ?_)); done))) rfl)));
    apply wl_is; rfl; rfl; rfl; (intro σ' hl; (apply g_fieldAddr; rfl; rfl; rfl));
    apply wl_is; rfl; rfl; rfl; (intro σ' hl; (apply g_load1; rfl; rfl; (exact .p (hl _ (True.intro) (by ((repeat (first | exact List.Mem.head _ | assumption | refine List.Mem.tail _ ?_)); done))) rfl)));
    apply wl_isB; rfl; rfl; rfl; (intro σ' hl; (apply g_lookup; rfl; rfl; exact hl _ (True.intro) (by ((repeat (first | exact List.Mem.head _ | assumption | refine List.Mem.tail _ ?_)); done)); rfl; rfl; exact boolM_getD _ _)); intro _ _;
    apply wl_is; rfl; rfl; rfl; (intro σ' hl; (apply g_assign; rfl));
    refine wl_nil ?_; show EX _ _ _ _ _;
    refine ex_ret ?_;
    simp only [thenA, blockA, roundA, noGotoA, retA, ↓reduceIte, Nat.reduceEqDiff];
    rotate_left;
    refine ex_skip ?_;
    refine ex_seq ?_;
    refine ex_drawT rfl rfl (by kernel_rfl) rfl ?_; simp only [List.length_cons, List.length_nil, Nat.reduceAdd, Nat.reduceSub, List.take_succ_cons, List.take_zero, List.drop_succ_cons, List.drop_zero];
    apply wl_is; rfl; rfl; rfl; (intro σ' hl; (apply g_move; rfl));
    apply wl_is; rfl; rfl; rfl; (intro σ' hl; (apply g_nilCheck; rfl; rfl));
    apply wl_is; rfl; rfl; rfl; (intro σ' hl; (apply g_fieldAddr; rfl; rfl; rfl));
    apply wl_is; rfl; rfl; rfl; (intro σ' hl; (apply g_fieldAddr; rfl; rfl; rfl));
    apply wl_is; rfl; rfl; rfl; (intro σ' hl; (apply g_load1; rfl; rfl; (exact .p (hl _ (True.intro) (by ((repeat (first | exact List.Mem.head _ | assumption | refine List.Mem.tail _ ?_)); done))) rfl)));
    apply wl_is; rfl; rfl; rfl; (intro σ' hl; (apply g_fieldAddr; rfl; rfl; rfl));
    apply wl_is; rfl; rfl; rfl; (intro σ' hl; (apply g_load1; rfl; rfl; (exact .p (hl _ (True.intro) (by ((repeat (first | exact List.Mem.head _ | assumption | refine List.Mem.tail _ ?_)); done))) rfl)));
    apply wl_is; rfl; rfl; rfl; (intro σ' hl; (apply g_sub; rfl; rfl; rfl; exact ⟨by omega, by omega⟩));
    rotate_left
    (all_goals (repeat (rename BV _ _ => hbv; cases hbv)))
    all_goals (try (exfalso; first | (rename true = false => hx; cases hx; done) | (rename false = true => hx; cases hx; done)))
    all_goals
      refine ret_is .nil (.cons (.ofTmp rfl) .nil) (by repeat (first | exact List.Sublist.refl _ | apply List.Sublist.cons_cons | apply List.Sublist.cons)) (bool_eq ?_)
      unfold followsB
      simp [*]
end Go.Proofs.Ythdgmimhaidmnaa
