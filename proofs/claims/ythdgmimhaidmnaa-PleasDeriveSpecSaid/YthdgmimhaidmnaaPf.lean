/- The court: refutes. -/
import Derived.Test.YthdgmimhaidmnaaPd
namespace Go.Proofs.Ythdgmimhaidmnaa
set_option linter.unusedSimpArgs false
set_option linter.unusedVariables false

set_option maxRecDepth 10000 in
theorem fFn_idx (l : List (AV × Bool)) (g : Nat) (first cap : List AV) (p : (AV × Bool) → Bool) (σ : List Ent) (he : Enters Try.prog g) (hf : ∀ (k : Nat) (c : (AV × Bool)), l[k]? = some c → SCall Try.prog g (first ++ [(Prod.fst) c] ++ cap) σ (Is (.bool (p c)) σ)) :
    SCall Try.prog 93 [.dl 1 (l.map (fun c => [c.1])), .fn (.func g) first cap] σ (Is (.int .i64 (idxFrom p l 0)) σ) := by
  refine scall_of Try.func93 rfl (by simp) ?_
  refine ex_seq ?_;
  refine ex_region ?_;
  apply exl_is; rfl; rfl; rfl; (apply g_assign; rfl);
  refine exl_nilT ?_;
  refine ex_seq ?_;
  refine ex_seq ?_;
  refine ex_region ?_;
  apply exl_is; rfl; rfl; rfl; (apply g_move; rfl);
  apply exl_is; rfl; rfl; rfl; (apply g_len; rfl; rfl; (exact (List.length_map _).symm));
  apply exl_is; rfl; rfl; rfl; (apply g_move; rfl);
  refine exl_nilT ?_;
  refine ex_block ?_;
  rotate_left
  (all_goals (repeat (rename BV _ _ => hbv; cases hbv)))
  all_goals (try (exfalso; first | (rename true = false => hx; cases hx; done) | (rename false = true => hx; cases hx; done)))
  refine ex_len (t := 0) rfl ((List.length_map _).symm) (fun hlen => ?_)
  refine ex_loop (fun (k : Nat) => (⟨[(0, .dl 1 (l.map (fun c => [c.1]))), (1, .fn (.func g) first cap), (7, .int .i64 l.length), (8, .int .i64 k)], σ, [], Try.f93.ntmps⟩ : St)) (fun k => k ≤ l.length ∧ idxFrom p l 0 = idxFrom p (l.drop k) k) (fun k => l.length - k) 0 (⟨Nat.zero_le _, rfl⟩) (St.le_of (by repeat (first | exact trivial | refine ⟨rfl, ?_⟩)) (by repeat (first | exact List.Sublist.refl _ | apply List.Sublist.cons_cons | apply List.Sublist.cons))) ?_
  intro k hI
  by_cases hk : k < l.length
  · obtain ⟨c, hc⟩ : ∃ c, l[k]? = some c := ⟨_, List.getElem?_eq_getElem hk⟩
    have hd := idxFrom_drop p hc
    refine ex_seq ?_;
    refine ex_region ?_;
    apply exl_isB; rfl; rfl; rfl; (apply g_binInt; rfl; rfl; rfl); intro _ _;
    refine exl_nilT ?_;
    refine ex_seq ?_;
    refine ex_cond rfl (fun h => ?_) (fun h => ?_) <;> ((first | (subst h; rename BV _ true => h0; have h := h0.eq; clear h0) | (subst h; rename BV _ false => h0; have h := h0.eq; clear h0) | skip); (have hp := h; try simp only [decide_eq_true_eq, decide_eq_false_iff_not, Bool.not_eq_true', Bool.not_eq_false', bne_iff_ne, beq_iff_eq, beq_eq_false_iff_ne, bne_eq_false_iff_eq, Int.not_lt, Int.not_le] at hp); (try (exfalso; first | omega | (cases hp; done))));
    refine ex_skip ?_;
    refine ex_seq ?_;
    refine ex_block ?_;
    refine ex_seq ?_;
    refine ex_region ?_;
    apply exl_is; rfl; rfl; rfl; (apply g_move; rfl);
    apply exl_is; rfl; rfl; rfl; (apply g_assign; rfl);
    refine exl_nilT ?_;
    refine ex_seq ?_;
    refine ex_region ?_;
    apply exl_is; rfl; rfl; rfl; (apply g_move; rfl);
    apply exl_is; rfl; rfl; rfl; (apply g_move; rfl);
    apply exl_is; rfl; rfl; rfl; (apply g_move; rfl);
    apply exl_is; rfl; rfl; rfl; (apply g_indexDl; rfl; rfl; rfl; (rfl); (exact get_map (by assumption)));
    apply exl_is; rfl; rfl; rfl; (apply g_load1; rfl; rfl; (exact .e rfl));
    apply exl_is; rfl; rfl; rfl; (exact g_call rfl rfl he (hf k c hc));
    refine exl_nilT ?_;
    refine ex_cond rfl (fun h => ?_) (fun h => ?_) <;> ((first | (subst h; rename BV _ true => h0; have h := h0.eq; clear h0) | (subst h; rename BV _ false => h0; have h := h0.eq; clear h0) | skip); (have hp := h; try simp only [decide_eq_true_eq, decide_eq_false_iff_not, Bool.not_eq_true', Bool.not_eq_false', bne_iff_ne, beq_iff_eq, beq_eq_false_iff_ne, bne_eq_false_iff_eq, Int.not_lt, Int.not_le] at hp); (try (exfalso; first | omega | (cases hp; done))));
    refine ex_seq ?_;
    refine ex_region ?_;
    apply exl_is; rfl; rfl; rfl; (apply g_move; rfl);
    apply exl_is; rfl; rfl; rfl; (apply g_assign; rfl);
    refine exl_nilT ?_;
    refine ex_ret ?_;
    simp only [thenA, blockA, roundA, noGotoA, retA, ↓reduceIte, Nat.reduceEqDiff];
    rotate_left;
    refine ex_skip ?_;
    refine ex_region ?_;
    apply exl_is; rfl; rfl; rfl; (apply g_add; rfl; rfl; rfl; exact ⟨by omega, by omega⟩);
    apply exl_is; rfl; rfl; rfl; (apply g_move; rfl);
    refine exl_nil ?_;
    simp only [thenA, blockA, roundA, noGotoA, retA, ↓reduceIte, Nat.reduceEqDiff];
    rotate_left
    (all_goals (repeat (rename BV _ _ => hbv; cases hbv)))
    all_goals (try (exfalso; first | (rename true = false => hx; cases hx; done) | (rename false = true => hx; cases hx; done)))
    · refine ret_is .nil (.cons (.ofTmp rfl) .nil) (List.Sublist.refl _) (int_eq ?_)
      rw [hI.2, hd, if_pos (by assumption)]
    · refine ⟨k + 1, ⟨hk, by rw [hI.2, hd, if_neg (by simp [*])]⟩, by omega, St.le_of (by repeat (first | exact trivial | refine ⟨rfl, ?_⟩)) (by repeat (first | exact List.Sublist.refl _ | apply List.Sublist.cons_cons | apply List.Sublist.cons))⟩
  · refine ex_seq ?_;
    refine ex_region ?_;
    apply exl_isB; rfl; rfl; rfl; (apply g_binInt; rfl; rfl; rfl); intro _ _;
    refine exl_nilT ?_;
    refine ex_seq ?_;
    refine ex_cond rfl (fun h => ?_) (fun h => ?_) <;> ((first | (subst h; rename BV _ true => h0; have h := h0.eq; clear h0) | (subst h; rename BV _ false => h0; have h := h0.eq; clear h0) | skip); (have hp := h; try simp only [decide_eq_true_eq, decide_eq_false_iff_not, Bool.not_eq_true', Bool.not_eq_false', bne_iff_ne, beq_iff_eq, beq_eq_false_iff_ne, bne_eq_false_iff_eq, Int.not_lt, Int.not_le] at hp); (try (exfalso; first | omega | (cases hp; done))));
    refine ex_exit ?_;
    refine ex_seq ?_;
    refine ex_region ?_;
    apply exl_is; rfl; rfl; rfl; (apply g_assign; rfl);
    refine exl_nilT ?_;
    refine ex_ret ?_;
    simp only [thenA, blockA, roundA, noGotoA, retA, ↓reduceIte, Nat.reduceEqDiff];
    rotate_left
    (all_goals (repeat (rename BV _ _ => hbv; cases hbv)))
    all_goals (try (exfalso; first | (rename true = false => hx; cases hx; done) | (rename false = true => hx; cases hx; done)))
    refine ret_is .nil (.cons (.ofTmp rfl) .nil) (List.Sublist.refl _) (int_eq ?_)
    rw [hI.2, List.drop_of_length_le (by omega)]; rfl

set_option maxRecDepth 10000 in
theorem fFn_any (l : List (AV × Bool)) (g : Nat) (first cap : List AV) (p : (AV × Bool) → Bool) (σ : List Ent) (he : Enters Try.prog g) (hf : ∀ (k : Nat) (c : (AV × Bool)), l[k]? = some c → SCall Try.prog g (first ++ [(Prod.fst) c] ++ cap) σ (Is (.bool (p c)) σ)) :
    SCall Try.prog 70 [.dl 1 (l.map (fun c => [c.1])), .fn (.func g) first cap] σ (Is (.bool (l.any p)) σ) := by
  refine scall_of Try.func70 rfl (by simp) ?_
  refine ex_seq ?_;
  refine ex_region ?_;
  apply exl_is; rfl; rfl; rfl; (apply g_assign; rfl);
  refine exl_nilT ?_;
  refine ex_seq ?_;
  refine ex_region ?_;
  apply exl_is; rfl; rfl; rfl; (apply g_move; rfl);
  apply exl_is; rfl; rfl; rfl; (apply g_move; rfl);
  apply exl_is; rfl; rfl; rfl; (exact g_call rfl rfl (enters_b (by kernel_rfl)) (fFn_idx l g first cap p σ he hf));
  apply exl_isB; rfl; rfl; rfl; (apply g_binInt; rfl; rfl; rfl); intro _ _;
  apply exl_is; rfl; rfl; rfl; (apply g_assign; rfl);
  refine exl_nilT ?_;
  refine ex_ret ?_;
  simp only [thenA, blockA, roundA, noGotoA, retA, ↓reduceIte, Nat.reduceEqDiff];
  rotate_left
  (all_goals (repeat (rename BV _ _ => hbv; cases hbv)))
  all_goals (try (exfalso; first | (rename true = false => hx; cases hx; done) | (rename false = true => hx; cases hx; done)))
  refine ret_is .nil (.cons (.ofTmp rfl) .nil) (List.Sublist.refl _) (bool_eq ?_)
  exact idxFrom_any p l 0

theorem three {P : Program} {g : Nat} {σ : List Ent} {f1 f2 f3 : AV} {v1 v2 v3 : Bool} (h1 : SCall P g [f1] σ (Is (.bool v1) σ)) (h2 : SCall P g [f2] σ (Is (.bool v2) σ)) (h3 : SCall P g [f3] σ (Is (.bool v3) σ)) :
    ∀ (k : Nat) (c : AV × Bool), [(f1, v1), (f2, v2), (f3, v3)][k]? = some c → SCall P g ([] ++ [c.1] ++ []) σ (Is (.bool c.2) σ)
  | 0, c, h => by cases h; exact h1
  | 1, c, h => by cases h; exact h2
  | 2, c, h => by cases h; exact h3
  | n + 3, c, h => by simp at h

section
variable {p : Pl} {S : Int → Bool} {K : Known} {kb bs bk nk ns : Nat} {tk : TypeId} {σ : List Ent}
set_option maxRecDepth 10000 in
theorem refutes1_c {b0 b1 : Nat} {t0 t1 : TypeId} (q : Int) (hq : -32 ≤ q ∧ q ≤ 32) (h1 : Ent.cells kb (courtC p bs bk) tk ∈ σ) (h2 : Ent.imap bs (boolM S) ns ∈ σ) (h3 : Ent.cells b0 [.ptr kb 0] t0 ∈ σ) (h4 : Ent.cells b1 [.int .i64 q] t1 ∈ σ) :
    SCall Try.prog 64 [.ptr b0 0, .ptr b1 0] σ (Is (.bool (S (-q))) σ) := by
  refine scall_of Try.func64 rfl (by simp) ?_
  refine ex_seq ?_;
  refine ex_region ?_;
  apply exl_is; rfl; rfl; rfl; (apply g_assign; rfl);
  refine exl_nilT ?_;
  refine ex_seq ?_;
  refine ex_drawP rfl rfl (by kernel_rfl) rfl ?_; refine ex_drawQ rfl (by kernel_rfl) rfl ?_;
  apply wl_is; rfl; rfl; rfl; (intro σ' hl; (apply g_load1; rfl; rfl; (exact .p (hl _ (True.intro) (by ((repeat (first | exact List.Mem.head _ | assumption | refine List.Mem.tail _ ?_)); done))) rfl)));
  apply wl_is; rfl; rfl; rfl; (intro σ' hl; (apply g_nilCheck; rfl; rfl));
  apply wl_is; rfl; rfl; rfl; (intro σ' hl; (apply g_fieldAddr; rfl; rfl; rfl));
  apply wl_is; rfl; rfl; rfl; (intro σ' hl; (apply g_load1; rfl; rfl; (exact .p (hl _ (True.intro) (by ((repeat (first | exact List.Mem.head _ | assumption | refine List.Mem.tail _ ?_)); done))) rfl)));
  apply wl_is; rfl; rfl; rfl; (intro σ' hl; (apply g_load1; rfl; rfl; (exact .p (hl _ (True.intro) (by ((repeat (first | exact List.Mem.head _ | assumption | refine List.Mem.tail _ ?_)); done))) rfl)));
  apply wl_is; rfl; rfl; rfl; (intro σ' hl; (apply g_neg; rfl; rfl; exact ⟨by omega, by omega⟩));
  apply wl_isB; rfl; rfl; rfl; (intro σ' hl; (apply g_lookup; rfl; rfl; exact hl _ (True.intro) (by ((repeat (first | exact List.Mem.head _ | assumption | refine List.Mem.tail _ ?_)); done)); rfl; rfl; exact boolM_getD _ _)); intro _ _;
  apply wl_is; rfl; rfl; rfl; (intro σ' hl; (apply g_assign; rfl));
  refine wl_nil ?_; show EX _ _ _ _ _;
  refine ex_ret ?_;
  simp only [thenA, blockA, roundA, noGotoA, retA, ↓reduceIte, Nat.reduceEqDiff];
  rotate_left
  (all_goals (repeat (rename BV _ _ => hbv; cases hbv)))
  all_goals (try (exfalso; first | (rename true = false => hx; cases hx; done) | (rename false = true => hx; cases hx; done)))
  refine ret_is .nil (.cons (.ofTmp rfl) .nil) (by repeat (first | exact List.Sublist.refl _ | apply List.Sublist.cons_cons | apply List.Sublist.cons)) (bool_eq ?_)
  rfl
set_option maxRecDepth 10000 in
theorem refutes21_c {b0 : Nat} {t0 : TypeId} (c : Cl) (h1 : Ent.cells kb (courtC p bs bk) tk ∈ σ) (h2 : Ent.imap bk (intM K) nk ∈ σ) (h3 : Ent.cells b0 [.ptr kb 0] t0 ∈ σ) :
    SCall Try.prog 66 [.agg (clC c), .ptr b0 0] σ (Is (.bool (!offB K c)) σ) := by
  refine scall_of Try.func66 rfl (by simp) ?_
  refine ex_seq ?_;
  refine ex_region ?_;
  refine exl_box rfl rfl rfl (g_box rfl rfl) ?_; intro _;
  apply exl_is; rfl; rfl; rfl; (apply g_assign; rfl);
  refine exl_nilT ?_;
  refine ex_seq ?_;
  refine ex_region ?_;
  apply exl_is; rfl; rfl; rfl; (apply g_load1; rfl; rfl; (exact .p (by ((repeat (first | exact List.Mem.head _ | assumption | refine List.Mem.tail _ ?_)); done)) rfl));
  apply exl_is; rfl; rfl; rfl; (apply g_loadAgg; rfl; decide; rfl; (exact .p (by ((repeat (first | exact List.Mem.head _ | assumption | refine List.Mem.tail _ ?_)); done)) rfl rfl));
  apply exl_isB; rfl; rfl; rfl; (exact g_call rfl rfl (enters_b (by kernel_rfl)) (off_c (p := p) c (by ((repeat (first | exact List.Mem.head _ | assumption | refine List.Mem.tail _ ?_)); done)) (by ((repeat (first | exact List.Mem.head _ | assumption | refine List.Mem.tail _ ?_)); done)))); intro _ _;
  apply exl_isB; rfl; rfl; rfl; (apply g_not; rfl); intro _ _;
  apply exl_is; rfl; rfl; rfl; (apply g_assign; rfl);
  refine exl_nilT ?_;
  refine ex_ret ?_;
  simp only [thenA, blockA, roundA, noGotoA, retA, ↓reduceIte, Nat.reduceEqDiff];
  rotate_left
  (all_goals (repeat (rename BV _ _ => hbv; cases hbv)))
  all_goals (try (exfalso; first | (rename true = false => hx; cases hx; done) | (rename false = true => hx; cases hx; done)))
  refine ret_is .nil (.cons (.ofTmp rfl) .nil) (by repeat (first | exact List.Sublist.refl _ | apply List.Sublist.cons_cons | apply List.Sublist.cons)) (bool_eq ?_)
  rfl
set_option maxRecDepth 10000 in
theorem refutes2_c {b0 b1 : Nat} {t0 t1 : TypeId} (q : Int) (h1 : Ent.cells kb (courtC p bs bk) tk ∈ σ) (h2 : Ent.imap bk (intM K) nk ∈ σ) (h3 : Ent.cells b0 [.ptr kb 0] t0 ∈ σ) (h4 : Ent.cells b1 [.int .i64 q] t1 ∈ σ) :
    SCall Try.prog 65 [.ptr b0 0, .ptr b1 0] σ (Is (.bool (!someB p q fun c => !offB K c)) σ) := by
  refine scall_of Try.func65 rfl (by simp) ?_
  refine ex_seq ?_;
  refine ex_region ?_;
  apply exl_is; rfl; rfl; rfl; (apply g_assign; rfl);
  refine exl_nilT ?_;
  refine ex_seq ?_;
  refine ex_region ?_;
  apply exl_is; rfl; rfl; rfl; (apply g_load1; rfl; rfl; (exact .p (by ((repeat (first | exact List.Mem.head _ | assumption | refine List.Mem.tail _ ?_)); done)) rfl));
  apply exl_is; rfl; rfl; rfl; (apply g_load1; rfl; rfl; (exact .p (by ((repeat (first | exact List.Mem.head _ | assumption | refine List.Mem.tail _ ?_)); done)) rfl));
  apply exl_is; rfl; rfl; rfl; (apply g_makeFunc; rfl; rfl);
  apply exl_isB; rfl; rfl; rfl; (exact g_call rfl rfl (enters_b (by kernel_rfl)) (some_c (p := p) (F := fun c => !offB K c) q (enters_b (by kernel_rfl)) (fun c => refutes21_c (p := p) c (by ((repeat (first | exact List.Mem.head _ | assumption | refine List.Mem.tail _ ?_)); done)) (by ((repeat (first | exact List.Mem.head _ | assumption | refine List.Mem.tail _ ?_)); done)) (by ((repeat (first | exact List.Mem.head _ | assumption | refine List.Mem.tail _ ?_)); done))) (by ((repeat (first | exact List.Mem.head _ | assumption | refine List.Mem.tail _ ?_)); done)))); intro _ _;
  apply exl_isB; rfl; rfl; rfl; (apply g_not; rfl); intro _ _;
  apply exl_is; rfl; rfl; rfl; (apply g_assign; rfl);
  refine exl_nilT ?_;
  refine ex_ret ?_;
  simp only [thenA, blockA, roundA, noGotoA, retA, ↓reduceIte, Nat.reduceEqDiff];
  rotate_left
  (all_goals (repeat (rename BV _ _ => hbv; cases hbv)))
  all_goals (try (exfalso; first | (rename true = false => hx; cases hx; done) | (rename false = true => hx; cases hx; done)))
  refine ret_is .nil (.cons (.ofTmp rfl) .nil) (by repeat (first | exact List.Sublist.refl _ | apply List.Sublist.cons_cons | apply List.Sublist.cons)) (bool_eq ?_)
  rfl
set_option maxRecDepth 10000 in
theorem refutes311_c {b0 b2 : Nat} {t0 t2 : TypeId} (s c : Cl) (h1 : Ent.cells kb (courtC p bs bk) tk ∈ σ) (h2 : Ent.imap bk (intM K) nk ∈ σ) (h3 : Ent.cells b0 [.ptr kb 0] t0 ∈ σ) (h4 : Ent.cells b2 (clC s) t2 ∈ σ) :
    SCall Try.prog 69 [.agg (clC c), .ptr b0 0, .ptr b2 0] σ (Is (.bool (!offB K c && decide (s.rank < c.rank))) σ) := by
  refine scall_of Try.func69 rfl (by simp) ?_
  refine ex_seq ?_;
  refine ex_region ?_;
  refine exl_box rfl rfl rfl (g_box rfl rfl) ?_; intro _;
  apply exl_is; rfl; rfl; rfl; (apply g_assign; rfl);
  refine exl_nilT ?_;
  refine ex_seq ?_;
  refine ex_region ?_;
  apply exl_is; rfl; rfl; rfl; (apply g_load1; rfl; rfl; (exact .p (by ((repeat (first | exact List.Mem.head _ | assumption | refine List.Mem.tail _ ?_)); done)) rfl));
  apply exl_is; rfl; rfl; rfl; (apply g_loadAgg; rfl; decide; rfl; (exact .p (by ((repeat (first | exact List.Mem.head _ | assumption | refine List.Mem.tail _ ?_)); done)) rfl rfl));
  apply exl_isB; rfl; rfl; rfl; (exact g_call rfl rfl (enters_b (by kernel_rfl)) (off_c (p := p) c (by ((repeat (first | exact List.Mem.head _ | assumption | refine List.Mem.tail _ ?_)); done)) (by ((repeat (first | exact List.Mem.head _ | assumption | refine List.Mem.tail _ ?_)); done)))); intro _ _;
  apply exl_isB; rfl; rfl; rfl; (apply g_not; rfl); intro _ _;
  apply exl_is; rfl; rfl; rfl; (apply g_move; rfl);
  refine exl_caseL rfl (fun h => ?_) (fun h => ?_) <;> ((first | (subst h; rename BV _ true => h0; have h := h0.eq; clear h0) | (subst h; rename BV _ false => h0; have h := h0.eq; clear h0) | skip); (have hp := h; try simp only [decide_eq_true_eq, decide_eq_false_iff_not, Bool.not_eq_true', Bool.not_eq_false', bne_iff_ne, beq_iff_eq, beq_eq_false_iff_ne, bne_eq_false_iff_eq, Int.not_lt, Int.not_le] at hp); (try (exfalso; first | omega | (cases hp; done))));
  apply exl_isW; rfl; (rfl); rfl; rfl; (apply g_fieldAddr; rfl; rfl; rfl);
  apply exl_isW; rfl; (rfl); rfl; rfl; (apply g_load1; rfl; rfl; (exact .p (by ((repeat (first | exact List.Mem.head _ | assumption | refine List.Mem.tail _ ?_)); done)) rfl));
  apply exl_isW; rfl; (rfl); rfl; rfl; (apply g_fieldAddr; rfl; rfl; rfl);
  apply exl_isW; rfl; (rfl); rfl; rfl; (apply g_load1; rfl; rfl; (exact .p (by ((repeat (first | exact List.Mem.head _ | assumption | refine List.Mem.tail _ ?_)); done)) rfl));
  apply exl_isBW; rfl; (rfl); rfl; rfl; (apply g_binInt; rfl; rfl; rfl); intro _ _;
  apply exl_is; rfl; rfl; rfl; (apply g_pick_t; rfl; (rfl); rfl);
  apply exl_is; rfl; rfl; rfl; (apply g_assign; rfl);
  refine exl_nilT ?_;
  refine ex_ret ?_;
  simp only [thenA, blockA, roundA, noGotoA, retA, ↓reduceIte, Nat.reduceEqDiff];
  rotate_left;
  refine exl_skipL rfl (by rfl) rfl rfl ?_;
  refine exl_skipL rfl (by rfl) rfl rfl ?_;
  refine exl_skipL rfl (by rfl) rfl rfl ?_;
  refine exl_skipL rfl (by rfl) rfl rfl ?_;
  refine exl_skipL rfl (by rfl) rfl rfl ?_;
  apply exl_is; rfl; rfl; rfl; (apply g_pick_f; rfl; (rfl); rfl);
  apply exl_is; rfl; rfl; rfl; (apply g_assign; rfl);
  refine exl_nilT ?_;
  refine ex_ret ?_;
  simp only [thenA, blockA, roundA, noGotoA, retA, ↓reduceIte, Nat.reduceEqDiff];
  rotate_left
  (all_goals (repeat (rename BV _ _ => hbv; cases hbv)))
  all_goals (try (exfalso; first | (rename true = false => hx; cases hx; done) | (rename false = true => hx; cases hx; done)))
  all_goals
    refine ret_is .nil (.cons (.ofTmp rfl) .nil) (by repeat (first | exact List.Sublist.refl _ | apply List.Sublist.cons_cons | apply List.Sublist.cons)) (bool_eq ?_)
    simp [*]
set_option maxRecDepth 10000 in
theorem refutes31_c {b0 b1 : Nat} {t0 t1 : TypeId} (q : Int) (s : Cl) (h1 : Ent.cells kb (courtC p bs bk) tk ∈ σ) (h2 : Ent.imap bk (intM K) nk ∈ σ) (h3 : Ent.cells b0 [.ptr kb 0] t0 ∈ σ) (h4 : Ent.cells b1 [.int .i64 q] t1 ∈ σ) :
    SCall Try.prog 68 [.agg (clC s), .ptr b0 0, .ptr b1 0] σ (Is (.bool (onB K s && !someB p q fun c => !offB K c && decide (s.rank < c.rank))) σ) := by
  refine scall_of Try.func68 rfl (by simp) ?_
  refine ex_seq ?_;
  refine ex_region ?_;
  refine exl_box rfl rfl rfl (g_box rfl rfl) ?_; intro _;
  apply exl_is; rfl; rfl; rfl; (apply g_assign; rfl);
  refine exl_nilT ?_;
  refine ex_seq ?_;
  refine ex_region ?_;
  apply exl_is; rfl; rfl; rfl; (apply g_load1; rfl; rfl; (exact .p (by ((repeat (first | exact List.Mem.head _ | assumption | refine List.Mem.tail _ ?_)); done)) rfl));
  apply exl_is; rfl; rfl; rfl; (apply g_loadAgg; rfl; decide; rfl; (exact .p (by ((repeat (first | exact List.Mem.head _ | assumption | refine List.Mem.tail _ ?_)); done)) rfl rfl));
  apply exl_isB; rfl; rfl; rfl; (exact g_call rfl rfl (enters_b (by kernel_rfl)) (on_c (p := p) s (by ((repeat (first | exact List.Mem.head _ | assumption | refine List.Mem.tail _ ?_)); done)) (by ((repeat (first | exact List.Mem.head _ | assumption | refine List.Mem.tail _ ?_)); done)))); intro _ _;
  apply exl_is; rfl; rfl; rfl; (apply g_move; rfl);
  refine exl_caseL rfl (fun h => ?_) (fun h => ?_) <;> ((first | (subst h; rename BV _ true => h0; have h := h0.eq; clear h0) | (subst h; rename BV _ false => h0; have h := h0.eq; clear h0) | skip); (have hp := h; try simp only [decide_eq_true_eq, decide_eq_false_iff_not, Bool.not_eq_true', Bool.not_eq_false', bne_iff_ne, beq_iff_eq, beq_eq_false_iff_ne, bne_eq_false_iff_eq, Int.not_lt, Int.not_le] at hp); (try (exfalso; first | omega | (cases hp; done))));
  apply exl_isW; rfl; (rfl); rfl; rfl; (apply g_load1; rfl; rfl; (exact .p (by ((repeat (first | exact List.Mem.head _ | assumption | refine List.Mem.tail _ ?_)); done)) rfl));
  apply exl_isW; rfl; (rfl); rfl; rfl; (apply g_load1; rfl; rfl; (exact .p (by ((repeat (first | exact List.Mem.head _ | assumption | refine List.Mem.tail _ ?_)); done)) rfl));
  apply exl_isW; rfl; (rfl); rfl; rfl; (apply g_makeFunc; rfl; rfl);
  apply exl_isBW; rfl; (rfl); rfl; rfl; (exact g_call rfl rfl (enters_b (by kernel_rfl)) (some_c (p := p) (F := fun c => !offB K c && decide (s.rank < c.rank)) q (enters_b (by kernel_rfl)) (fun c => refutes311_c (p := p) s c (by ((repeat (first | exact List.Mem.head _ | assumption | refine List.Mem.tail _ ?_)); done)) (by ((repeat (first | exact List.Mem.head _ | assumption | refine List.Mem.tail _ ?_)); done)) (by ((repeat (first | exact List.Mem.head _ | assumption | refine List.Mem.tail _ ?_)); done)) (by ((repeat (first | exact List.Mem.head _ | assumption | refine List.Mem.tail _ ?_)); done))) (by ((repeat (first | exact List.Mem.head _ | assumption | refine List.Mem.tail _ ?_)); done)))); intro _ _;
  apply exl_isBW; rfl; (rfl); rfl; rfl; (apply g_not; rfl); intro _ _;
  apply exl_is; rfl; rfl; rfl; (apply g_pick_t; rfl; (rfl); rfl);
  apply exl_is; rfl; rfl; rfl; (apply g_assign; rfl);
  refine exl_nilT ?_;
  refine ex_ret ?_;
  simp only [thenA, blockA, roundA, noGotoA, retA, ↓reduceIte, Nat.reduceEqDiff];
  rotate_left;
  refine exl_skipL rfl (by rfl) rfl rfl ?_;
  refine exl_skipL rfl (by rfl) rfl rfl ?_;
  refine exl_skipL rfl (by rfl) rfl rfl ?_;
  refine exl_skipL rfl (by rfl) rfl rfl ?_;
  refine exl_skipL rfl (by rfl) rfl rfl ?_;
  apply exl_is; rfl; rfl; rfl; (apply g_pick_f; rfl; (rfl); rfl);
  apply exl_is; rfl; rfl; rfl; (apply g_assign; rfl);
  refine exl_nilT ?_;
  refine ex_ret ?_;
  simp only [thenA, blockA, roundA, noGotoA, retA, ↓reduceIte, Nat.reduceEqDiff];
  rotate_left
  (all_goals (repeat (rename BV _ _ => hbv; cases hbv)))
  all_goals (try (exfalso; first | (rename true = false => hx; cases hx; done) | (rename false = true => hx; cases hx; done)))
  all_goals
    refine ret_is .nil (.cons (.ofTmp rfl) .nil) (by repeat (first | exact List.Sublist.refl _ | apply List.Sublist.cons_cons | apply List.Sublist.cons)) (bool_eq ?_)
    simp [*]
set_option maxRecDepth 10000 in
theorem refutes3_c {b0 b1 : Nat} {t0 t1 : TypeId} (q : Int) (hq : -32 ≤ q ∧ q ≤ 32) (h1 : Ent.cells kb (courtC p bs bk) tk ∈ σ) (h2 : Ent.imap bk (intM K) nk ∈ σ) (h3 : Ent.cells b0 [.ptr kb 0] t0 ∈ σ) (h4 : Ent.cells b1 [.int .i64 q] t1 ∈ σ) :
    SCall Try.prog 67 [.ptr b0 0, .ptr b1 0] σ (Is (.bool (someB p (-q) fun s => onB K s && !someB p q fun c => !offB K c && decide (s.rank < c.rank))) σ) := by
  refine scall_of Try.func67 rfl (by simp) ?_
  refine ex_seq ?_;
  refine ex_region ?_;
  apply exl_is; rfl; rfl; rfl; (apply g_assign; rfl);
  refine exl_nilT ?_;
  refine ex_seq ?_;
  refine ex_region ?_;
  apply exl_is; rfl; rfl; rfl; (apply g_load1; rfl; rfl; (exact .p (by ((repeat (first | exact List.Mem.head _ | assumption | refine List.Mem.tail _ ?_)); done)) rfl));
  apply exl_is; rfl; rfl; rfl; (apply g_load1; rfl; rfl; (exact .p (by ((repeat (first | exact List.Mem.head _ | assumption | refine List.Mem.tail _ ?_)); done)) rfl));
  apply exl_is; rfl; rfl; rfl; (apply g_neg; rfl; rfl; exact ⟨by omega, by omega⟩);
  apply exl_is; rfl; rfl; rfl; (apply g_makeFunc; rfl; rfl);
  apply exl_isB; rfl; rfl; rfl; (exact g_call rfl rfl (enters_b (by kernel_rfl)) (some_c (p := p) (F := fun s => onB K s && !someB p q fun c => !offB K c && decide (s.rank < c.rank)) (-q) (enters_b (by kernel_rfl)) (fun s => refutes31_c (p := p) q s (by ((repeat (first | exact List.Mem.head _ | assumption | refine List.Mem.tail _ ?_)); done)) (by ((repeat (first | exact List.Mem.head _ | assumption | refine List.Mem.tail _ ?_)); done)) (by ((repeat (first | exact List.Mem.head _ | assumption | refine List.Mem.tail _ ?_)); done)) (by ((repeat (first | exact List.Mem.head _ | assumption | refine List.Mem.tail _ ?_)); done))) (by ((repeat (first | exact List.Mem.head _ | assumption | refine List.Mem.tail _ ?_)); done)))); intro _ _;
  apply exl_is; rfl; rfl; rfl; (apply g_assign; rfl);
  refine exl_nilT ?_;
  refine ex_ret ?_;
  simp only [thenA, blockA, roundA, noGotoA, retA, ↓reduceIte, Nat.reduceEqDiff];
  rotate_left
  (all_goals (repeat (rename BV _ _ => hbv; cases hbv)))
  all_goals (try (exfalso; first | (rename true = false => hx; cases hx; done) | (rename false = true => hx; cases hx; done)))
  refine ret_is .nil (.cons (.ofTmp rfl) .nil) (by repeat (first | exact List.Sublist.refl _ | apply List.Sublist.cons_cons | apply List.Sublist.cons)) (bool_eq ?_)
  rfl
set_option maxRecDepth 10000 in
theorem refutes4_c {g : Nat} {first cap : List AV} {v : Bool} (he : Enters Try.prog g) (hf : SCall Try.prog g (first ++ cap) σ (Is (.bool v) σ)) :
    SCall Try.prog 71 [.fn (.func g) first cap] σ (Is (.bool v) σ) := by
  refine scall_of Try.func71 rfl (by simp) ?_
  have hf2 : SCall Try.prog g (first ++ [] ++ cap) σ (Is (.bool v) σ) := by rw [List.append_nil]; exact hf
  refine ex_seq ?_;
  refine ex_region ?_;
  apply exl_is; rfl; rfl; rfl; (apply g_assign; rfl);
  refine exl_nilT ?_;
  refine ex_seq ?_;
  refine ex_region ?_;
  apply exl_is; rfl; rfl; rfl; (apply g_move; rfl);
  apply exl_is; rfl; rfl; rfl; (exact g_call rfl rfl he hf2);
  apply exl_is; rfl; rfl; rfl; (apply g_assign; rfl);
  refine exl_nilT ?_;
  refine ex_ret ?_;
  simp only [thenA, blockA, roundA, noGotoA, retA, ↓reduceIte, Nat.reduceEqDiff];
  rotate_left
  (all_goals (repeat (rename BV _ _ => hbv; cases hbv)))
  all_goals (try (exfalso; first | (rename true = false => hx; cases hx; done) | (rename false = true => hx; cases hx; done)))
  refine ret_is .nil (.cons (.ofTmp rfl) .nil) (by repeat (first | exact List.Sublist.refl _ | apply List.Sublist.cons_cons | apply List.Sublist.cons)) (bool_eq ?_)
  rfl
set_option maxRecDepth 10000 in
theorem refutes_c (q : Int) (hq : -32 ≤ q ∧ q ≤ 32) (h1 : Ent.cells kb (courtC p bs bk) tk ∈ σ) (h2 : Ent.imap bk (intM K) nk ∈ σ) (h3 : Ent.imap bs (boolM S) ns ∈ σ) :
    SCall Try.prog 42 [.ptr kb 0, .int .i64 q] σ (Is (.bool (refutesB p S K q)) σ) := by
  refine scall_of Try.func42 rfl (by simp) ?_
  refine ex_seq ?_;
  refine ex_region ?_;
  refine exl_box rfl rfl rfl (g_box rfl rfl) ?_; intro _;
  refine exl_box rfl rfl rfl (g_box rfl rfl) ?_; intro _;
  apply exl_is; rfl; rfl; rfl; (apply g_assign; rfl);
  refine exl_nilT ?_;
  refine ex_seq ?_;
  refine ex_region ?_;
  apply exl_is; rfl; rfl; rfl; (apply g_makeFunc; rfl; rfl);
  apply exl_is; rfl; rfl; rfl; (apply g_makeFunc; rfl; rfl);
  apply exl_is; rfl; rfl; rfl; (apply g_makeFunc; rfl; rfl);
  apply exl_is; rfl; rfl; rfl; (exact gop_sealed (g_buildSlice rfl rfl (by decide) rfl rfl (by (simp only [chunkN, List.take_succ_cons, List.take_zero, List.drop_succ_cons, List.drop_zero]; rfl))));
  apply exl_is; rfl; rfl; rfl; (apply g_assign; rfl);
  refine exl_nilT ?_;
  refine ex_seq ?_;
  refine ex_drawC rfl rfl (by kernel_rfl) rfl ?_; refine ex_drawQ rfl (by kernel_rfl) rfl ?_;
  apply wl_is; rfl; rfl; rfl; (intro σ' hl; (apply g_load1; rfl; rfl; (exact .p (hl _ (True.intro) (by ((repeat (first | exact List.Mem.head _ | assumption | refine List.Mem.tail _ ?_)); done))) rfl)));
  apply wl_is; rfl; rfl; rfl; (intro σ' hl; (apply g_nilCheck; rfl; rfl));
  apply wl_is; rfl; rfl; rfl; (intro σ' hl; (apply g_fieldAddr; rfl; rfl; rfl));
  apply wl_is; rfl; rfl; rfl; (intro σ' hl; (apply g_load1; rfl; rfl; (exact .p (hl _ (True.intro) (by ((repeat (first | exact List.Mem.head _ | assumption | refine List.Mem.tail _ ?_)); done))) rfl)));
  apply wl_is; rfl; rfl; rfl; (intro σ' hl; (apply g_load1; rfl; rfl; (exact .p (hl _ (True.intro) (by ((repeat (first | exact List.Mem.head _ | assumption | refine List.Mem.tail _ ?_)); done))) rfl)));
  apply wl_isB; rfl; rfl; rfl; (intro σ' hl; (apply g_lookup; rfl; rfl; exact hl _ (True.intro) (by ((repeat (first | exact List.Mem.head _ | assumption | refine List.Mem.tail _ ?_)); done)); rfl; rfl; exact boolM_getD _ _)); intro _ _;
  apply wl_isB; rfl; rfl; rfl; (intro σ' hl; (apply g_not; rfl)); intro _ _;
  apply wl_is; rfl; rfl; rfl; (intro σ' hl; (apply g_move; rfl));
  refine wl_case rfl (fun h => ?_) (fun h => ?_) <;> ((first | (subst h; rename BV _ true => h0; have h := h0.eq; clear h0) | (subst h; rename BV _ false => h0; have h := h0.eq; clear h0) | skip); (have hp := h; try simp only [decide_eq_true_eq, decide_eq_false_iff_not, Bool.not_eq_true', Bool.not_eq_false', bne_iff_ne, beq_iff_eq, beq_eq_false_iff_ne, bne_eq_false_iff_eq, Int.not_lt, Int.not_le] at hp); (try (exfalso; first | omega | (cases hp; done))));
  apply wl_isW; rfl; (rfl); rfl; rfl; (intro σ' hl; (apply g_move; rfl));
  apply wl_isBW; rfl; (rfl); rfl; rfl; (intro σ' hl; (exact g_call rfl rfl (enters_b (by kernel_rfl)) (fFn_any [(_, _), (_, _), (_, _)] _ [] [] (fun c => c.2) _ (enters_b (by kernel_rfl)) (three (refutes4_c (first := []) (cap := [_, _]) (v := S (-q)) (enters_b (by kernel_rfl)) (refutes1_c (p := p) q hq (hl _ (True.intro) (by ((repeat (first | exact List.Mem.head _ | assumption | refine List.Mem.tail _ ?_)); done))) (hl _ (True.intro) (by ((repeat (first | exact List.Mem.head _ | assumption | refine List.Mem.tail _ ?_)); done))) (hl _ (True.intro) (by ((repeat (first | exact List.Mem.head _ | assumption | refine List.Mem.tail _ ?_)); done))) (hl _ (True.intro) (by ((repeat (first | exact List.Mem.head _ | assumption | refine List.Mem.tail _ ?_)); done))))) (refutes4_c (first := []) (cap := [_, _]) (v := !someB p q fun c => !offB K c) (enters_b (by kernel_rfl)) (refutes2_c (p := p) q (hl _ (True.intro) (by ((repeat (first | exact List.Mem.head _ | assumption | refine List.Mem.tail _ ?_)); done))) (hl _ (True.intro) (by ((repeat (first | exact List.Mem.head _ | assumption | refine List.Mem.tail _ ?_)); done))) (hl _ (True.intro) (by ((repeat (first | exact List.Mem.head _ | assumption | refine List.Mem.tail _ ?_)); done))) (hl _ (True.intro) (by ((repeat (first | exact List.Mem.head _ | assumption | refine List.Mem.tail _ ?_)); done))))) (refutes4_c (first := []) (cap := [_, _]) (v := someB p (-q) fun s => onB K s && !someB p q fun c => !offB K c && decide (s.rank < c.rank)) (enters_b (by kernel_rfl)) (refutes3_c (p := p) q hq (hl _ (True.intro) (by ((repeat (first | exact List.Mem.head _ | assumption | refine List.Mem.tail _ ?_)); done))) (hl _ (True.intro) (by ((repeat (first | exact List.Mem.head _ | assumption | refine List.Mem.tail _ ?_)); done))) (hl _ (True.intro) (by ((repeat (first | exact List.Mem.head _ | assumption | refine List.Mem.tail _ ?_)); done))) (hl _ (True.intro) (by ((repeat (first | exact List.Mem.head _ | assumption | refine List.Mem.tail _ ?_)); done))))))))); intro _ _;
  apply wl_is; rfl; rfl; rfl; (intro σ' hl; (apply g_pick_t; rfl; (rfl); rfl));
  apply wl_is; rfl; rfl; rfl; (intro σ' hl; (apply g_assign; rfl));
  refine wl_nil ?_; show EX _ _ _ _ _;
  refine ex_ret ?_;
  simp only [thenA, blockA, roundA, noGotoA, retA, ↓reduceIte, Nat.reduceEqDiff];
  rotate_left;
  refine wl_skip rfl (by rfl) rfl rfl ?_;
  refine wl_skip rfl (by rfl) rfl rfl ?_;
  apply wl_is; rfl; rfl; rfl; (intro σ' hl; (apply g_pick_f; rfl; (rfl); rfl));
  apply wl_is; rfl; rfl; rfl; (intro σ' hl; (apply g_assign; rfl));
  refine wl_nil ?_; show EX _ _ _ _ _;
  refine ex_ret ?_;
  simp only [thenA, blockA, roundA, noGotoA, retA, ↓reduceIte, Nat.reduceEqDiff];
  rotate_left
  (all_goals (repeat (rename BV _ _ => hbv; cases hbv)))
  all_goals (try (exfalso; first | (rename true = false => hx; cases hx; done) | (rename false = true => hx; cases hx; done)))
  all_goals
    refine ret_is .nil (.cons (.ofTmp rfl) .nil) (by repeat (first | exact List.Sublist.refl _ | apply List.Sublist.cons_cons | apply List.Sublist.cons)) (bool_eq ?_)
    unfold refutesB
    simp [*, Bool.or_assoc]
end
end Go.Proofs.Ythdgmimhaidmnaa
