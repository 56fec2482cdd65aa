/- The reference: on, off, supported, idle, beaten, weak. -/
import Derived.Test.YthdgmimhaidmnaaQa
namespace Go.Proofs.Ythdgmimhaidmnaa
set_option linter.unusedSimpArgs false
set_option linter.unusedVariables false
/-- What is strict, proved and refuted. -/
abbrev stC (S P R : List Int) : List AV := [ints S, ints P, ints R]
def onL (P : List Int) (c : Cl) : Bool := c.ifs.all P.contains
def offL (R : List Int) (c : Cl) : Bool := c.ifs.any R.contains
set_option maxRecDepth 10000 in
theorem refOn_c (S P R : List Int) (c : Cl) (σ : List Ent) : SCall Try.prog 51 [.agg (stC S P R), .agg (clC c)] σ (Is (.bool (onL P c)) σ) := by
  refine scall_of Try.func51 rfl (by simp) ?_
  refine ex_seq ?_;
  refine ex_region ?_;
  refine exl_box rfl rfl rfl (g_box rfl rfl) ?_; intro _;
  refine exl_box rfl rfl rfl (g_box rfl rfl) ?_; intro _;
  apply exl_is; rfl; rfl; rfl; (apply g_assign; rfl);
  refine exl_nilT ?_;
  refine ex_seq ?_;
  refine ex_region ?_;
  apply exl_is; rfl; rfl; rfl; (apply g_fieldAddr; rfl; rfl; rfl);
  apply exl_is; rfl; rfl; rfl; (apply g_load1; rfl; rfl; (exact .p (by ((repeat (first | exact List.Mem.head _ | assumption | refine List.Mem.tail _ ?_)); done)) rfl));
  apply exl_is; rfl; rfl; rfl; (apply g_fieldAddr; rfl; rfl; rfl);
  apply exl_is; rfl; rfl; rfl; (apply g_load1; rfl; rfl; (exact .p (by ((repeat (first | exact List.Mem.head _ | assumption | refine List.Mem.tail _ ?_)); done)) rfl));
  apply exl_isB; rfl; rfl; rfl; (exact g_call rfl rfl (enters_b (by kernel_rfl)) (all_c _ _ _)); intro _ _;
  apply exl_is; rfl; rfl; rfl; (apply g_assign; rfl);
  refine exl_nilT ?_;
  refine ex_ret ?_;
  simp only [thenA, blockA, roundA, noGotoA, retA, ↓reduceIte, Nat.reduceEqDiff];
  rotate_left
  (all_goals (repeat (rename BV _ _ => hbv; cases hbv)))
  all_goals (try (exfalso; first | (rename true = false => hx; cases hx; done) | (rename false = true => hx; cases hx; done)))
  refine ret_is .nil (.cons (.ofTmp rfl) .nil) (by repeat (first | exact List.Sublist.refl _ | apply List.Sublist.cons_cons | apply List.Sublist.cons)) (bool_eq ?_)
  rfl
set_option maxRecDepth 10000 in
theorem refOff_c (S P R : List Int) (c : Cl) (σ : List Ent) : SCall Try.prog 77 [.agg (stC S P R), .agg (clC c)] σ (Is (.bool (offL R c)) σ) := by
  refine scall_of Try.func77 rfl (by simp) ?_
  refine ex_seq ?_;
  refine ex_region ?_;
  refine exl_box rfl rfl rfl (g_box rfl rfl) ?_; intro _;
  refine exl_box rfl rfl rfl (g_box rfl rfl) ?_; intro _;
  apply exl_is; rfl; rfl; rfl; (apply g_assign; rfl);
  refine exl_nilT ?_;
  refine ex_seq ?_;
  refine ex_region ?_;
  apply exl_is; rfl; rfl; rfl; (apply g_fieldAddr; rfl; rfl; rfl);
  apply exl_is; rfl; rfl; rfl; (apply g_load1; rfl; rfl; (exact .p (by ((repeat (first | exact List.Mem.head _ | assumption | refine List.Mem.tail _ ?_)); done)) rfl));
  apply exl_is; rfl; rfl; rfl; (apply g_fieldAddr; rfl; rfl; rfl);
  apply exl_is; rfl; rfl; rfl; (apply g_load1; rfl; rfl; (exact .p (by ((repeat (first | exact List.Mem.head _ | assumption | refine List.Mem.tail _ ?_)); done)) rfl));
  apply exl_isB; rfl; rfl; rfl; (exact g_call rfl rfl (enters_b (by kernel_rfl)) (someL_c _ _ _)); intro _ _;
  apply exl_is; rfl; rfl; rfl; (apply g_assign; rfl);
  refine exl_nilT ?_;
  refine ex_ret ?_;
  simp only [thenA, blockA, roundA, noGotoA, retA, ↓reduceIte, Nat.reduceEqDiff];
  rotate_left
  (all_goals (repeat (rename BV _ _ => hbv; cases hbv)))
  all_goals (try (exfalso; first | (rename true = false => hx; cases hx; done) | (rename false = true => hx; cases hx; done)))
  refine ret_is .nil (.cons (.ofTmp rfl) .nil) (by repeat (first | exact List.Sublist.refl _ | apply List.Sublist.cons_cons | apply List.Sublist.cons)) (bool_eq ?_)
  rfl
theorem cl_step {l : List Cl} {i : Nat} {x : Cl} (h : l[i]? = some x) : l.drop i = x :: l.drop (i + 1) := by
  have hi := (List.getElem?_eq_some_iff.1 h).1
  have := (List.getElem?_eq_some_iff.1 h).2
  rw [← this, List.drop_eq_getElem_cons hi]
set_option maxRecDepth 10000 in
theorem supported_c (p : Pl) (S P R : List Int) (q : Int) (hp0 : p.clauses.length ≤ 64) (σ : List Ent) : SCall Try.prog 76 [.agg (plC p), .agg (stC S P R), .int .i64 q] σ (Is (.bool (someB p q (onL P))) σ) := by
  refine scall_of Try.func76 rfl (by simp) ?_
  unfold someB
  refine ex_seq ?_;
  refine ex_region ?_;
  refine exl_box rfl rfl rfl (g_box rfl rfl) ?_; intro _;
  refine exl_box rfl rfl rfl (g_box rfl rfl) ?_; intro _;
  apply exl_is; rfl; rfl; rfl; (apply g_assign; rfl);
  refine exl_nilT ?_;
  refine ex_seq ?_;
  refine ex_seq ?_;
  refine ex_region ?_;
  apply exl_is; rfl; rfl; rfl; (apply g_assign; rfl);
  refine exl_nilT ?_;
  refine ex_block ?_;
  rotate_left
  (all_goals (repeat (rename BV _ _ => hbv; cases hbv)))
  all_goals (try (exfalso; first | (rename true = false => hx; cases hx; done) | (rename false = true => hx; cases hx; done)))
  rename_i bs bp
  refine ex_loop (fun (i : Nat) => (⟨[(2, .int .i64 q), (3, .ptr bs 0), (4, .ptr bp 0), (7, .int .i64 (i : Int))], .cells bp (stC S P R) 59 :: .cells bs (plC p) 25 :: σ, [], Try.f76.ntmps⟩ : St)) (fun i => i ≤ p.clauses.length ∧ (p.clauses.any fun c => c.thn == q && onL P c) = (p.clauses.drop i).any fun c => c.thn == q && onL P c) (fun i => p.clauses.length - i) 0 (⟨Nat.zero_le _, rfl⟩) (St.le_of (by repeat (first | exact trivial | refine ⟨rfl, ?_⟩)) (by repeat (first | exact List.Sublist.refl _ | apply List.Sublist.cons_cons | apply List.Sublist.cons))) ?_
  intro i hI
  obtain ⟨hI1, hI2⟩ := hI
  by_cases hi : i < p.clauses.length
  · obtain ⟨c, hx⟩ : ∃ c, p.clauses[i]? = some c := ⟨_, List.getElem?_eq_getElem hi⟩
    rw [cl_step hx, List.any_cons] at hI2
    refine ex_seq ?_;
    refine ex_seq ?_;
    refine ex_region ?_;
    apply exl_is; rfl; rfl; rfl; (apply g_move; rfl);
    apply exl_is; rfl; rfl; rfl; (apply g_fieldAddr; rfl; rfl; rfl);
    apply exl_is; rfl; rfl; rfl; (apply g_load1; rfl; rfl; (exact .p (by ((repeat (first | exact List.Mem.head _ | assumption | refine List.Mem.tail _ ?_)); done)) rfl));
    apply exl_is; rfl; rfl; rfl; (apply g_len; rfl; rfl; (exact (List.length_map _).symm));
    apply exl_isB; rfl; rfl; rfl; (apply g_binInt; rfl; rfl; rfl); intro _ _;
    refine exl_nilT ?_;
    refine ex_cond rfl (fun h => ?_) (fun h => ?_) <;> ((first | (subst h; rename BV _ true => h0; have h := h0.eq; clear h0) | (subst h; rename BV _ false => h0; have h := h0.eq; clear h0) | skip); (have hp := h; try simp only [decide_eq_true_eq, decide_eq_false_iff_not, Bool.not_eq_true', Bool.not_eq_false', bne_iff_ne, beq_iff_eq, beq_eq_false_iff_ne, bne_eq_false_iff_eq, Int.not_lt, Int.not_le] at hp); (try (exfalso; first | omega | (cases hp; done))));
    refine ex_skip ?_;
    refine ex_seq ?_;
    refine ex_block ?_;
    refine ex_seq ?_;
    refine ex_drawC rfl rfl (by kernel_rfl) rfl ?_; refine ex_drawQ rfl (by kernel_rfl) rfl ?_;
    apply wl_is; rfl; rfl; rfl; (intro σ' hl; (apply g_fieldAddr; rfl; rfl; rfl));
    apply wl_is; rfl; rfl; rfl; (intro σ' hl; (apply g_load1; rfl; rfl; (exact .p (hl _ (True.intro) (by ((repeat (first | exact List.Mem.head _ | assumption | refine List.Mem.tail _ ?_)); done))) rfl)));
    apply wl_is; rfl; rfl; rfl; (intro σ' hl; (apply g_move; rfl));
    apply wl_is; rfl; rfl; rfl; (intro σ' hl; (apply g_indexDl; rfl; rfl; rfl; (rfl); (exact get_map (by assumption))));
    apply wl_is; rfl; rfl; rfl; (intro σ' hl; (apply g_fieldAddr; rfl; rfl; rfl));
    apply wl_is; rfl; rfl; rfl; (intro σ' hl; (apply g_load1; rfl; rfl; (exact .e rfl)));
    apply wl_is; rfl; rfl; rfl; (intro σ' hl; (apply g_move; rfl));
    apply wl_isB; rfl; rfl; rfl; (intro σ' hl; (apply g_binInt; rfl; rfl; rfl)); intro _ _;
    apply wl_is; rfl; rfl; rfl; (intro σ' hl; (apply g_move; rfl));
    refine wl_case rfl (fun h => ?_) (fun h => ?_) <;> ((first | (subst h; rename BV _ true => h0; have h := h0.eq; clear h0) | (subst h; rename BV _ false => h0; have h := h0.eq; clear h0) | skip); (have hp := h; try simp only [decide_eq_true_eq, decide_eq_false_iff_not, Bool.not_eq_true', Bool.not_eq_false', bne_iff_ne, beq_iff_eq, beq_eq_false_iff_ne, bne_eq_false_iff_eq, Int.not_lt, Int.not_le] at hp); (try (exfalso; first | omega | (cases hp; done))));
    apply wl_isW; rfl; (rfl); rfl; rfl; (intro σ' hl; (apply g_loadAgg; rfl; decide; rfl; (exact .p (hl _ (True.intro) (by ((repeat (first | exact List.Mem.head _ | assumption | refine List.Mem.tail _ ?_)); done))) rfl rfl)));
    apply wl_isW; rfl; (rfl); rfl; rfl; (intro σ' hl; (apply g_fieldAddr; rfl; rfl; rfl));
    apply wl_isW; rfl; (rfl); rfl; rfl; (intro σ' hl; (apply g_load1; rfl; rfl; (exact .p (hl _ (True.intro) (by ((repeat (first | exact List.Mem.head _ | assumption | refine List.Mem.tail _ ?_)); done))) rfl)));
    apply wl_isW; rfl; (rfl); rfl; rfl; (intro σ' hl; (apply g_move; rfl));
    apply wl_isW; rfl; (rfl); rfl; rfl; (intro σ' hl; (apply g_indexDl; rfl; rfl; rfl; (rfl); (exact get_map (by assumption))));
    apply wl_isW; rfl; (rfl); rfl; rfl; (intro σ' hl; (apply g_loadAgg; rfl; decide; rfl; (exact .e rfl rfl)));
    apply wl_isBW; rfl; (rfl); rfl; rfl; (intro σ' hl; (exact g_call rfl rfl (enters_b (by kernel_rfl)) (refOn_c S P R c _))); intro _ _;
    apply wl_is; rfl; rfl; rfl; (intro σ' hl; (apply g_pick_t; rfl; (rfl); rfl));
    refine wl_nil ?_; show EX _ _ _ _ _;
    refine ex_cond rfl (fun h => ?_) (fun h => ?_) <;> ((first | (subst h; rename BV _ true => h0; have h := h0.eq; clear h0) | (subst h; rename BV _ false => h0; have h := h0.eq; clear h0) | skip); (have hp := h; try simp only [decide_eq_true_eq, decide_eq_false_iff_not, Bool.not_eq_true', Bool.not_eq_false', bne_iff_ne, beq_iff_eq, beq_eq_false_iff_ne, bne_eq_false_iff_eq, Int.not_lt, Int.not_le] at hp); (try (exfalso; first | omega | (cases hp; done))));
    refine ex_seq ?_;
    refine ex_region ?_;
    apply exl_is; rfl; rfl; rfl; (apply g_assign; rfl);
    refine exl_nilT ?_;
    refine ex_ret ?_;
    simp only [thenA, blockA, roundA, noGotoA, retA, ↓reduceIte, Nat.reduceEqDiff];
    rotate_left;
    refine ex_skip ?_;
    refine ex_region ?_;
    apply exl_is; rfl; rfl; rfl; (apply g_move; rfl);
    apply exl_is; rfl; rfl; rfl; (apply g_add; rfl; rfl; rfl; exact ⟨by omega, by omega⟩);
    apply exl_is; rfl; rfl; rfl; (apply g_assign; rfl);
    refine exl_nil ?_;
    simp only [thenA, blockA, roundA, noGotoA, retA, ↓reduceIte, Nat.reduceEqDiff];
    rotate_left;
    refine wl_skip rfl (by rfl) rfl rfl ?_;
    refine wl_skip rfl (by rfl) rfl rfl ?_;
    refine wl_skip rfl (by rfl) rfl rfl ?_;
    refine wl_skip rfl (by rfl) rfl rfl ?_;
    refine wl_skip rfl (by rfl) rfl rfl ?_;
    refine wl_skip rfl (by rfl) rfl rfl ?_;
    refine wl_skip rfl (by rfl) rfl rfl ?_;
    apply wl_is; rfl; rfl; rfl; (intro σ' hl; (apply g_pick_f; rfl; (rfl); rfl));
    refine wl_nil ?_; show EX _ _ _ _ _;
    refine ex_cond_f rfl (by rfl) ?_;
    refine ex_skip ?_;
    refine ex_region ?_;
    apply exl_is; rfl; rfl; rfl; (apply g_move; rfl);
    apply exl_is; rfl; rfl; rfl; (apply g_add; rfl; rfl; rfl; exact ⟨by omega, by omega⟩);
    apply exl_is; rfl; rfl; rfl; (apply g_assign; rfl);
    refine exl_nil ?_;
    simp only [thenA, blockA, roundA, noGotoA, retA, ↓reduceIte, Nat.reduceEqDiff];
    rotate_left
    (all_goals (repeat (rename BV _ _ => hbv; cases hbv)))
    all_goals (try (exfalso; first | (rename true = false => hx; cases hx; done) | (rename false = true => hx; cases hx; done)))
    · refine ret_is .nil (.cons (.ofTmp rfl) .nil) (by repeat (first | exact List.Sublist.refl _ | apply List.Sublist.cons_cons | apply List.Sublist.cons)) (bool_eq ?_)
      rw [hI2]
      simp [*]
    · have e : (c.thn == q && onL P c) = false := by simp [*]
      rw [e, Bool.false_or] at hI2
      refine ⟨i + 1, ⟨hi, hI2⟩, by omega, St.le_of (by repeat (first | exact trivial | refine ⟨rfl, ?_⟩)) (by repeat (first | exact List.Sublist.refl _ | apply List.Sublist.cons_cons | apply List.Sublist.cons))⟩
    · have e : (c.thn == q && onL P c) = false := by simp [*]
      rw [e, Bool.false_or] at hI2
      refine ⟨i + 1, ⟨hi, hI2⟩, by omega, St.le_of (by repeat (first | exact trivial | refine ⟨rfl, ?_⟩)) (by repeat (first | exact List.Sublist.refl _ | apply List.Sublist.cons_cons | apply List.Sublist.cons))⟩
  · rw [List.drop_of_length_le (by omega)] at hI2
    rw [hI2]
    refine ex_seq ?_;
    refine ex_seq ?_;
    refine ex_region ?_;
    apply exl_is; rfl; rfl; rfl; (apply g_move; rfl);
    apply exl_is; rfl; rfl; rfl; (apply g_fieldAddr; rfl; rfl; rfl);
    apply exl_is; rfl; rfl; rfl; (apply g_load1; rfl; rfl; (exact .p (by ((repeat (first | exact List.Mem.head _ | assumption | refine List.Mem.tail _ ?_)); done)) rfl));
    apply exl_is; rfl; rfl; rfl; (apply g_len; rfl; rfl; (exact (List.length_map _).symm));
    apply exl_isB; rfl; rfl; rfl; (apply g_binInt; rfl; rfl; rfl); intro _ _;
    refine exl_nilT ?_;
    refine ex_cond rfl (fun h => ?_) (fun h => ?_) <;> ((first | (subst h; rename BV _ true => h0; have h := h0.eq; clear h0) | (subst h; rename BV _ false => h0; have h := h0.eq; clear h0) | skip); (have hp := h; try simp only [decide_eq_true_eq, decide_eq_false_iff_not, Bool.not_eq_true', Bool.not_eq_false', bne_iff_ne, beq_iff_eq, beq_eq_false_iff_ne, bne_eq_false_iff_eq, Int.not_lt, Int.not_le] at hp); (try (exfalso; first | omega | (cases hp; done))));
    refine ex_exit ?_;
    refine ex_seq ?_;
    refine ex_region ?_;
    apply exl_is; rfl; rfl; rfl; (apply g_assign; rfl);
    refine exl_nilT ?_;
    refine ex_ret ?_;
    simp only [thenA, blockA, roundA, noGotoA, retA, ↓reduceIte, Nat.reduceEqDiff];
    rotate_left
    (all_goals (repeat (rename BV _ _ => hbv; cases hbv)))
    all_goals (try (exfalso; first | (rename true = false => hx; cases hx; done) | (rename false = true => hx; cases hx; done)))
    refine ret_is .nil (.cons (.ofTmp rfl) .nil) (by repeat (first | exact List.Sublist.refl _ | apply List.Sublist.cons_cons | apply List.Sublist.cons)) (bool_eq ?_)
    rfl
set_option maxRecDepth 10000 in
theorem idle_c (p : Pl) (S P R : List Int) (q : Int) (hp0 : p.clauses.length ≤ 64) (σ : List Ent) : SCall Try.prog 74 [.agg (plC p), .agg (stC S P R), .int .i64 q] σ (Is (.bool (!someB p q fun c => !offL R c)) σ) := by
  refine scall_of Try.func74 rfl (by simp) ?_
  unfold someB
  refine ex_seq ?_;
  refine ex_region ?_;
  refine exl_box rfl rfl rfl (g_box rfl rfl) ?_; intro _;
  refine exl_box rfl rfl rfl (g_box rfl rfl) ?_; intro _;
  apply exl_is; rfl; rfl; rfl; (apply g_assign; rfl);
  refine exl_nilT ?_;
  refine ex_seq ?_;
  refine ex_seq ?_;
  refine ex_region ?_;
  apply exl_is; rfl; rfl; rfl; (apply g_assign; rfl);
  refine exl_nilT ?_;
  refine ex_block ?_;
  simp only [thenA, blockA, roundA, noGotoA, retA, ↓reduceIte, Nat.reduceEqDiff];
  rotate_left
  (all_goals (repeat (rename BV _ _ => hbv; cases hbv)))
  all_goals (try (exfalso; first | (rename true = false => hx; cases hx; done) | (rename false = true => hx; cases hx; done)))
  rename_i bs bp
  refine ex_loop (fun (i : Nat) => (⟨[(2, .int .i64 q), (3, .ptr bs 0), (4, .ptr bp 0), (7, .int .i64 (i : Int))], .cells bp (stC S P R) 59 :: .cells bs (plC p) 25 :: σ, [], Try.f74.ntmps⟩ : St)) (fun i => i ≤ p.clauses.length ∧ (p.clauses.any fun c => c.thn == q && !offL R c) = (p.clauses.drop i).any fun c => c.thn == q && !offL R c) (fun i => p.clauses.length - i) 0 (⟨Nat.zero_le _, rfl⟩) (St.le_of (by repeat (first | exact trivial | refine ⟨rfl, ?_⟩)) (by repeat (first | exact List.Sublist.refl _ | apply List.Sublist.cons_cons | apply List.Sublist.cons))) ?_
  intro i hI
  obtain ⟨hI1, hI2⟩ := hI
  by_cases hi : i < p.clauses.length
  · obtain ⟨c, hx⟩ : ∃ c, p.clauses[i]? = some c := ⟨_, List.getElem?_eq_getElem hi⟩
    rw [cl_step hx, List.any_cons] at hI2
    refine ex_seq ?_;
    refine ex_seq ?_;
    refine ex_region ?_;
    apply exl_is; rfl; rfl; rfl; (apply g_move; rfl);
    apply exl_is; rfl; rfl; rfl; (apply g_fieldAddr; rfl; rfl; rfl);
    apply exl_is; rfl; rfl; rfl; (apply g_load1; rfl; rfl; (exact .p (by ((repeat (first | exact List.Mem.head _ | assumption | refine List.Mem.tail _ ?_)); done)) rfl));
    apply exl_is; rfl; rfl; rfl; (apply g_len; rfl; rfl; (exact (List.length_map _).symm));
    apply exl_isB; rfl; rfl; rfl; (apply g_binInt; rfl; rfl; rfl); intro _ _;
    refine exl_nilT ?_;
    refine ex_cond rfl (fun h => ?_) (fun h => ?_) <;> ((first | (subst h; rename BV _ true => h0; have h := h0.eq; clear h0) | (subst h; rename BV _ false => h0; have h := h0.eq; clear h0) | skip); (have hp := h; try simp only [decide_eq_true_eq, decide_eq_false_iff_not, Bool.not_eq_true', Bool.not_eq_false', bne_iff_ne, beq_iff_eq, beq_eq_false_iff_ne, bne_eq_false_iff_eq, Int.not_lt, Int.not_le] at hp); (try (exfalso; first | omega | (cases hp; done))));
    refine ex_skip ?_;
    refine ex_seq ?_;
    refine ex_block ?_;
    refine ex_seq ?_;
    refine ex_drawC rfl rfl (by kernel_rfl) rfl ?_; refine ex_drawQ rfl (by kernel_rfl) rfl ?_;
    apply wl_is; rfl; rfl; rfl; (intro σ' hl; (apply g_fieldAddr; rfl; rfl; rfl));
    apply wl_is; rfl; rfl; rfl; (intro σ' hl; (apply g_load1; rfl; rfl; (exact .p (hl _ (True.intro) (by ((repeat (first | exact List.Mem.head _ | assumption | refine List.Mem.tail _ ?_)); done))) rfl)));
    apply wl_is; rfl; rfl; rfl; (intro σ' hl; (apply g_move; rfl));
    apply wl_is; rfl; rfl; rfl; (intro σ' hl; (apply g_indexDl; rfl; rfl; rfl; (rfl); (exact get_map (by assumption))));
    apply wl_is; rfl; rfl; rfl; (intro σ' hl; (apply g_fieldAddr; rfl; rfl; rfl));
    apply wl_is; rfl; rfl; rfl; (intro σ' hl; (apply g_load1; rfl; rfl; (exact .e rfl)));
    apply wl_is; rfl; rfl; rfl; (intro σ' hl; (apply g_move; rfl));
    apply wl_isB; rfl; rfl; rfl; (intro σ' hl; (apply g_binInt; rfl; rfl; rfl)); intro _ _;
    apply wl_is; rfl; rfl; rfl; (intro σ' hl; (apply g_move; rfl));
    refine wl_case rfl (fun h => ?_) (fun h => ?_) <;> ((first | (subst h; rename BV _ true => h0; have h := h0.eq; clear h0) | (subst h; rename BV _ false => h0; have h := h0.eq; clear h0) | skip); (have hp := h; try simp only [decide_eq_true_eq, decide_eq_false_iff_not, Bool.not_eq_true', Bool.not_eq_false', bne_iff_ne, beq_iff_eq, beq_eq_false_iff_ne, bne_eq_false_iff_eq, Int.not_lt, Int.not_le] at hp); (try (exfalso; first | omega | (cases hp; done))));
    apply wl_isW; rfl; (rfl); rfl; rfl; (intro σ' hl; (apply g_loadAgg; rfl; decide; rfl; (exact .p (hl _ (True.intro) (by ((repeat (first | exact List.Mem.head _ | assumption | refine List.Mem.tail _ ?_)); done))) rfl rfl)));
    apply wl_isW; rfl; (rfl); rfl; rfl; (intro σ' hl; (apply g_fieldAddr; rfl; rfl; rfl));
    apply wl_isW; rfl; (rfl); rfl; rfl; (intro σ' hl; (apply g_load1; rfl; rfl; (exact .p (hl _ (True.intro) (by ((repeat (first | exact List.Mem.head _ | assumption | refine List.Mem.tail _ ?_)); done))) rfl)));
    apply wl_isW; rfl; (rfl); rfl; rfl; (intro σ' hl; (apply g_move; rfl));
    apply wl_isW; rfl; (rfl); rfl; rfl; (intro σ' hl; (apply g_indexDl; rfl; rfl; rfl; (rfl); (exact get_map (by assumption))));
    apply wl_isW; rfl; (rfl); rfl; rfl; (intro σ' hl; (apply g_loadAgg; rfl; decide; rfl; (exact .e rfl rfl)));
    apply wl_isBW; rfl; (rfl); rfl; rfl; (intro σ' hl; (exact g_call rfl rfl (enters_b (by kernel_rfl)) (refOff_c S P R c _))); intro _ _;
    apply wl_isBW; rfl; (rfl); rfl; rfl; (intro σ' hl; (apply g_not; rfl)); intro _ _;
    apply wl_is; rfl; rfl; rfl; (intro σ' hl; (apply g_pick_t; rfl; (rfl); rfl));
    refine wl_nil ?_; show EX _ _ _ _ _;
    refine ex_cond rfl (fun h => ?_) (fun h => ?_) <;> ((first | (subst h; rename BV _ true => h0; have h := h0.eq; clear h0) | (subst h; rename BV _ false => h0; have h := h0.eq; clear h0) | skip); (have hp := h; try simp only [decide_eq_true_eq, decide_eq_false_iff_not, Bool.not_eq_true', Bool.not_eq_false', bne_iff_ne, beq_iff_eq, beq_eq_false_iff_ne, bne_eq_false_iff_eq, Int.not_lt, Int.not_le] at hp); (try (exfalso; first | omega | (cases hp; done))));
    refine ex_seq ?_;
    refine ex_region ?_;
    apply exl_is; rfl; rfl; rfl; (apply g_assign; rfl);
    refine exl_nilT ?_;
    refine ex_ret ?_;
    simp only [thenA, blockA, roundA, noGotoA, retA, ↓reduceIte, Nat.reduceEqDiff];
    rotate_left;
    refine ex_skip ?_;
    refine ex_region ?_;
    apply exl_is; rfl; rfl; rfl; (apply g_move; rfl);
    apply exl_is; rfl; rfl; rfl; (apply g_add; rfl; rfl; rfl; exact ⟨by omega, by omega⟩);
    apply exl_is; rfl; rfl; rfl; (apply g_assign; rfl);
    refine exl_nil ?_;
    simp only [thenA, blockA, roundA, noGotoA, retA, ↓reduceIte, Nat.reduceEqDiff];
    rotate_left;
    refine wl_skip rfl (by rfl) rfl rfl ?_;
    refine wl_skip rfl (by rfl) rfl rfl ?_;
    refine wl_skip rfl (by rfl) rfl rfl ?_;
    refine wl_skip rfl (by rfl) rfl rfl ?_;
    refine wl_skip rfl (by rfl) rfl rfl ?_;
    refine wl_skip rfl (by rfl) rfl rfl ?_;
    refine wl_skip rfl (by rfl) rfl rfl ?_;
    refine wl_skip rfl (by rfl) rfl rfl ?_;
    apply wl_is; rfl; rfl; rfl; (intro σ' hl; (apply g_pick_f; rfl; (rfl); rfl));
    refine wl_nil ?_; show EX _ _ _ _ _;
    refine ex_cond_f rfl (by rfl) ?_;
    refine ex_skip ?_;
    refine ex_region ?_;
    apply exl_is; rfl; rfl; rfl; (apply g_move; rfl);
    apply exl_is; rfl; rfl; rfl; (apply g_add; rfl; rfl; rfl; exact ⟨by omega, by omega⟩);
    apply exl_is; rfl; rfl; rfl; (apply g_assign; rfl);
    refine exl_nil ?_;
    simp only [thenA, blockA, roundA, noGotoA, retA, ↓reduceIte, Nat.reduceEqDiff];
    rotate_left
    (all_goals (repeat (rename BV _ _ => hbv; cases hbv)))
    all_goals (try (exfalso; first | (rename true = false => hx; cases hx; done) | (rename false = true => hx; cases hx; done)))
    · refine ret_is .nil (.cons (.ofTmp rfl) .nil) (by repeat (first | exact List.Sublist.refl _ | apply List.Sublist.cons_cons | apply List.Sublist.cons)) (bool_eq ?_)
      rw [hI2]
      simp [*]
    · have e : (c.thn == q && !offL R c) = false := by simp [*]
      rw [e, Bool.false_or] at hI2
      refine ⟨i + 1, ⟨hi, hI2⟩, by omega, St.le_of (by repeat (first | exact trivial | refine ⟨rfl, ?_⟩)) (by repeat (first | exact List.Sublist.refl _ | apply List.Sublist.cons_cons | apply List.Sublist.cons))⟩
    · have e : (c.thn == q && !offL R c) = false := by simp [*]
      rw [e, Bool.false_or] at hI2
      refine ⟨i + 1, ⟨hi, hI2⟩, by omega, St.le_of (by repeat (first | exact trivial | refine ⟨rfl, ?_⟩)) (by repeat (first | exact List.Sublist.refl _ | apply List.Sublist.cons_cons | apply List.Sublist.cons))⟩
  · rw [List.drop_of_length_le (by omega)] at hI2
    rw [hI2]
    refine ex_seq ?_;
    refine ex_seq ?_;
    refine ex_region ?_;
    apply exl_is; rfl; rfl; rfl; (apply g_move; rfl);
    apply exl_is; rfl; rfl; rfl; (apply g_fieldAddr; rfl; rfl; rfl);
    apply exl_is; rfl; rfl; rfl; (apply g_load1; rfl; rfl; (exact .p (by ((repeat (first | exact List.Mem.head _ | assumption | refine List.Mem.tail _ ?_)); done)) rfl));
    apply exl_is; rfl; rfl; rfl; (apply g_len; rfl; rfl; (exact (List.length_map _).symm));
    apply exl_isB; rfl; rfl; rfl; (apply g_binInt; rfl; rfl; rfl); intro _ _;
    refine exl_nilT ?_;
    refine ex_cond rfl (fun h => ?_) (fun h => ?_) <;> ((first | (subst h; rename BV _ true => h0; have h := h0.eq; clear h0) | (subst h; rename BV _ false => h0; have h := h0.eq; clear h0) | skip); (have hp := h; try simp only [decide_eq_true_eq, decide_eq_false_iff_not, Bool.not_eq_true', Bool.not_eq_false', bne_iff_ne, beq_iff_eq, beq_eq_false_iff_ne, bne_eq_false_iff_eq, Int.not_lt, Int.not_le] at hp); (try (exfalso; first | omega | (cases hp; done))));
    refine ex_exit ?_;
    refine ex_seq ?_;
    refine ex_region ?_;
    apply exl_is; rfl; rfl; rfl; (apply g_assign; rfl);
    refine exl_nilT ?_;
    refine ex_ret ?_;
    simp only [thenA, blockA, roundA, noGotoA, retA, ↓reduceIte, Nat.reduceEqDiff];
    rotate_left
    (all_goals (repeat (rename BV _ _ => hbv; cases hbv)))
    all_goals (try (exfalso; first | (rename true = false => hx; cases hx; done) | (rename false = true => hx; cases hx; done)))
    refine ret_is .nil (.cons (.ofTmp rfl) .nil) (by repeat (first | exact List.Sublist.refl _ | apply List.Sublist.cons_cons | apply List.Sublist.cons)) (bool_eq ?_)
    rfl
end Go.Proofs.Ythdgmimhaidmnaa
