/- The court: on, off, some. -/
import Derived.Test.YthdgmimhaidmnaaPc
import Derived.Test.YthdgmimhaidmnaaSx
namespace Go.Proofs.Ythdgmimhaidmnaa
set_option linter.unusedSimpArgs false
set_option linter.unusedVariables false

theorem is_front {P : Program} {f : FuncId} {args : List AV} {σ : List Ent} {v : AV} (τ : List Ent) (h : SCall P f args σ (Is v σ)) : SCall P f args (τ ++ σ) (Is v (τ ++ σ)) :=
  (SCall.front τ h).mono fun _ _ ⟨_, e, h⟩ => by cases h; subst e; exact .mk

/-- A court's block. -/
abbrev courtC (p : Pl) (bs bk : Nat) : List AV := [ints p.facts, cls p.clauses, .mp bs, .mp bk]
inductive CourtR (p : Pl) (σ : List Ent) : AV → List Ent → Prop
  | mk (kb bs bk n : Nat) : CourtR p σ (.ptr kb 0) (.cells kb (courtC p bs bk) 77 :: .imap bk (intM fun _ => 0) 0 :: .imap bs (boolM (strictOf p).contains) n :: σ)
set_option maxRecDepth 10000 in
theorem newCourt_c (p : Pl) (σ : List Ent) : SCall Try.prog 24 [.agg (plC p)] σ (CourtR p σ) := by
  refine scall_of Try.func24 rfl (by simp) ?_
  refine ex_seq ?_;
  refine ex_region ?_;
  refine exl_box rfl rfl rfl (g_box rfl rfl) ?_; intro _;
  apply exl_is; rfl; rfl; rfl; (apply g_assign; rfl);
  refine exl_nilT ?_;
  refine ex_seq ?_;
  rotate_left
  (all_goals (repeat (rename BV _ _ => hbv; cases hbv)))
  all_goals (try (exfalso; first | (rename true = false => hx; cases hx; done) | (rename false = true => hx; cases hx; done)))
  rename Nat => b1
  refine ex_drawAF anyK 4 rfl (by kernel_rfl) rfl ?_
  simp only [List.take_succ_cons, List.take_zero, List.drop_succ_cons, List.drop_zero]
  refine af_is 0 rfl (by kernel_rfl) rfl rfl rfl (fun σ' hl => g_loadAgg rfl (by decide) rfl (.p (hl _ trivial (by ((repeat (first | exact List.Mem.head _ | assumption | refine List.Mem.tail _ ?_)); done))) rfl rfl)) ?_
  refine af_is 1 rfl (by kernel_rfl) rfl rfl rfl (fun σ' hl => g_loadAgg rfl (by decide) rfl (.p (hl _ trivial (by ((repeat (first | exact List.Mem.head _ | assumption | refine List.Mem.tail _ ?_)); done))) rfl rfl)) ?_
  refine af_two (i := 2) (j := 3) (by kernel_rfl) ?_ ?_
  · refine eff_of rfl rfl rfl rfl (g_call rfl rfl (enters_b (by kernel_rfl)) (strict_c p _)) ?_
    rintro _ _ ⟨bs, n⟩
    refine ⟨AddsK.cons _ _, ?_⟩
    refine af_one (i := 3) (by kernel_rfl) (eff_of rfl rfl rfl rfl g_makeMap ?_)
    rintro _ _ ⟨bk⟩
    refine ⟨AddsK.cons _ _, af_nil (by kernel_rfl) ?_⟩
    apply exl_is; rfl; rfl; rfl; (apply g_build; rfl; rfl; rfl; rfl);
    refine exl_box rfl rfl rfl (g_box rfl rfl) ?_; intro _;
    apply exl_is; rfl; rfl; rfl; (apply g_assign; rfl);
    refine exl_nilT ?_;
    refine ex_ret ?_;
    simp only [thenA, blockA, roundA, noGotoA, retA, ↓reduceIte, Nat.reduceEqDiff];
    rotate_left
    (all_goals (repeat (rename BV _ _ => hbv; cases hbv)))
    all_goals (try (exfalso; first | (rename true = false => hx; cases hx; done) | (rename false = true => hx; cases hx; done)))
    rename Nat => kb
    refine ret_q (σ3 := .cells kb (courtC p bs bk) 77 :: .imap bk (fun _ => none) 0 :: .imap bs (boolM (strictOf p).contains) n :: σ) .nil (.cons (.ofTmp rfl) .nil) (by repeat (first | exact List.Sublist.refl _ | apply List.Sublist.cons_cons | apply List.Sublist.cons)) ?_
    refine fin_done ?_
    rw [intM_none]
    exact .mk kb bs bk n
  · refine eff_of rfl rfl rfl rfl g_makeMap ?_
    rintro _ _ ⟨bk⟩
    refine ⟨AddsK.cons _ _, ?_⟩
    refine af_one (i := 2) (by kernel_rfl) (eff_of rfl rfl rfl rfl (g_call rfl rfl (enters_b (by kernel_rfl)) (strict_c p _)) ?_)
    rintro _ _ ⟨bs, n⟩
    refine ⟨AddsK.cons _ _, af_nil (by kernel_rfl) ?_⟩
    apply exl_is; rfl; rfl; rfl; (apply g_build; rfl; rfl; rfl; rfl);
    refine exl_box rfl rfl rfl (g_box rfl rfl) ?_; intro _;
    apply exl_is; rfl; rfl; rfl; (apply g_assign; rfl);
    refine exl_nilT ?_;
    refine ex_ret ?_;
    simp only [thenA, blockA, roundA, noGotoA, retA, ↓reduceIte, Nat.reduceEqDiff];
    rotate_left
    (all_goals (repeat (rename BV _ _ => hbv; cases hbv)))
    all_goals (try (exfalso; first | (rename true = false => hx; cases hx; done) | (rename false = true => hx; cases hx; done)))
    rename Nat => kb
    refine ret_q (σ3 := .cells kb (courtC p bs bk) 77 :: .imap bs (boolM (strictOf p).contains) n :: .imap bk (fun _ => none) 0 :: σ) .nil (.cons (.ofTmp rfl) .nil) (by repeat (first | exact List.Sublist.refl _ | apply List.Sublist.cons_cons | apply List.Sublist.cons)) ?_
    refine fin_perm (.cons _ (.swap ..)) (fin_done ?_)
    rw [intM_none]
    exact .mk kb bs bk n

section
variable {p : Pl} {K : Known} {kb bs bk nk : Nat} {tk : TypeId} {σ : List Ent}
set_option maxRecDepth 10000 in
theorem on1_c {b : Nat} {t : TypeId} (q : Int) (h0 : Ent.cells b [.ptr kb 0] t ∈ σ) (h1 : Ent.cells kb (courtC p bs bk) tk ∈ σ) (h2 : Ent.imap bk (intM K) nk ∈ σ) :
    SCall Try.prog 73 [.int .i64 q, .ptr b 0] σ (Is (.bool (K q != 1)) σ) := by
  refine scall_of Try.func73 rfl (by simp) ?_
  refine ex_seq ?_;
  refine ex_region ?_;
  apply exl_is; rfl; rfl; rfl; (apply g_assign; rfl);
  refine exl_nilT ?_;
  refine ex_seq ?_;
  refine ex_region ?_;
  apply exl_is; rfl; rfl; rfl; (apply g_load1; rfl; rfl; (exact .p (by ((repeat (first | exact List.Mem.head _ | assumption | refine List.Mem.tail _ ?_)); done)) rfl));
  apply exl_is; rfl; rfl; rfl; (apply g_nilCheck; rfl; rfl);
  apply exl_is; rfl; rfl; rfl; (apply g_fieldAddr; rfl; rfl; rfl);
  apply exl_is; rfl; rfl; rfl; (apply g_load1; rfl; rfl; (exact .p (by ((repeat (first | exact List.Mem.head _ | assumption | refine List.Mem.tail _ ?_)); done)) rfl));
  apply exl_is; rfl; rfl; rfl; (apply g_move; rfl);
  apply exl_is; rfl; rfl; rfl; (apply g_lookup; rfl; rfl; exact (by ((repeat (first | exact List.Mem.head _ | assumption | refine List.Mem.tail _ ?_)); done)); rfl; rfl; (exact intM_getD _ _));
  apply exl_isB; rfl; rfl; rfl; (apply g_binInt; rfl; rfl; rfl); intro _ _;
  apply exl_is; rfl; rfl; rfl; (apply g_assign; rfl);
  refine exl_nilT ?_;
  refine ex_ret ?_;
  simp only [thenA, blockA, roundA, noGotoA, retA, ↓reduceIte, Nat.reduceEqDiff];
  rotate_left
  (all_goals (repeat (rename BV _ _ => hbv; cases hbv)))
  all_goals (try (exfalso; first | (rename true = false => hx; cases hx; done) | (rename false = true => hx; cases hx; done)))
  refine ret_is .nil (.cons (.ofTmp rfl) .nil) (by repeat (first | exact List.Sublist.refl _ | apply List.Sublist.cons_cons | apply List.Sublist.cons)) (bool_eq ?_)
  rfl
set_option maxRecDepth 10000 in
theorem off1_c {b : Nat} {t : TypeId} (q : Int) (h0 : Ent.cells b [.ptr kb 0] t ∈ σ) (h1 : Ent.cells kb (courtC p bs bk) tk ∈ σ) (h2 : Ent.imap bk (intM K) nk ∈ σ) :
    SCall Try.prog 92 [.int .i64 q, .ptr b 0] σ (Is (.bool (K q == 2)) σ) := by
  refine scall_of Try.func92 rfl (by simp) ?_
  refine ex_seq ?_;
  refine ex_region ?_;
  apply exl_is; rfl; rfl; rfl; (apply g_assign; rfl);
  refine exl_nilT ?_;
  refine ex_seq ?_;
  refine ex_region ?_;
  apply exl_is; rfl; rfl; rfl; (apply g_load1; rfl; rfl; (exact .p (by ((repeat (first | exact List.Mem.head _ | assumption | refine List.Mem.tail _ ?_)); done)) rfl));
  apply exl_is; rfl; rfl; rfl; (apply g_nilCheck; rfl; rfl);
  apply exl_is; rfl; rfl; rfl; (apply g_fieldAddr; rfl; rfl; rfl);
  apply exl_is; rfl; rfl; rfl; (apply g_load1; rfl; rfl; (exact .p (by ((repeat (first | exact List.Mem.head _ | assumption | refine List.Mem.tail _ ?_)); done)) rfl));
  apply exl_is; rfl; rfl; rfl; (apply g_move; rfl);
  apply exl_is; rfl; rfl; rfl; (apply g_lookup; rfl; rfl; exact (by ((repeat (first | exact List.Mem.head _ | assumption | refine List.Mem.tail _ ?_)); done)); rfl; rfl; (exact intM_getD _ _));
  apply exl_isB; rfl; rfl; rfl; (apply g_binInt; rfl; rfl; rfl); intro _ _;
  apply exl_is; rfl; rfl; rfl; (apply g_assign; rfl);
  refine exl_nilT ?_;
  refine ex_ret ?_;
  simp only [thenA, blockA, roundA, noGotoA, retA, ↓reduceIte, Nat.reduceEqDiff];
  rotate_left
  (all_goals (repeat (rename BV _ _ => hbv; cases hbv)))
  all_goals (try (exfalso; first | (rename true = false => hx; cases hx; done) | (rename false = true => hx; cases hx; done)))
  refine ret_is .nil (.cons (.ofTmp rfl) .nil) (by repeat (first | exact List.Sublist.refl _ | apply List.Sublist.cons_cons | apply List.Sublist.cons)) (bool_eq ?_)
  rfl
set_option maxRecDepth 10000 in
theorem on_c (c : Cl) (h1 : Ent.cells kb (courtC p bs bk) tk ∈ σ) (h2 : Ent.imap bk (intM K) nk ∈ σ) :
    SCall Try.prog 48 [.ptr kb 0, .agg (clC c)] σ (Is (.bool (onB K c)) σ) := by
  refine scall_of Try.func48 rfl (by simp) ?_
  refine ex_seq ?_;
  refine ex_region ?_;
  refine exl_box rfl rfl rfl (g_box rfl rfl) ?_; intro _;
  refine exl_box rfl rfl rfl (g_box rfl rfl) ?_; intro _;
  apply exl_is; rfl; rfl; rfl; (apply g_assign; rfl);
  refine exl_nilT ?_;
  refine ex_seq ?_;
  refine ex_region ?_;
  apply exl_is; rfl; rfl; rfl; (apply g_fieldAddr; rfl; rfl; rfl);
  apply exl_is; rfl; rfl; rfl; (apply g_load1; rfl; rfl; (exact .p (by ((repeat (first | exact List.Mem.head _ | assumption | refine List.Mem.tail _ ?_)); done)) rfl));
  apply exl_is; rfl; rfl; rfl; (apply g_makeFunc; rfl; rfl);
  apply exl_isB; rfl; rfl; rfl; (exact g_call rfl rfl (enters_b (by kernel_rfl)) (fInt_any c.ifs _ [] _ (fun q => K q != 1) _ (enters_b (by kernel_rfl)) (fun _ q _ => on1_c q (by ((repeat (first | exact List.Mem.head _ | assumption | refine List.Mem.tail _ ?_)); done)) (by ((repeat (first | exact List.Mem.head _ | assumption | refine List.Mem.tail _ ?_)); done)) (by ((repeat (first | exact List.Mem.head _ | assumption | refine List.Mem.tail _ ?_)); done))))); intro _ _;
  apply exl_isB; rfl; rfl; rfl; (apply g_not; rfl); intro _ _;
  apply exl_is; rfl; rfl; rfl; (apply g_assign; rfl);
  refine exl_nilT ?_;
  refine ex_ret ?_;
  simp only [thenA, blockA, roundA, noGotoA, retA, ↓reduceIte, Nat.reduceEqDiff];
  rotate_left
  (all_goals (repeat (rename BV _ _ => hbv; cases hbv)))
  all_goals (try (exfalso; first | (rename true = false => hx; cases hx; done) | (rename false = true => hx; cases hx; done)))
  refine ret_is .nil (.cons (.ofTmp rfl) .nil) (by repeat (first | exact List.Sublist.refl _ | apply List.Sublist.cons_cons | apply List.Sublist.cons)) (bool_eq ?_)
  rfl
set_option maxRecDepth 10000 in
theorem off_c (c : Cl) (h1 : Ent.cells kb (courtC p bs bk) tk ∈ σ) (h2 : Ent.imap bk (intM K) nk ∈ σ) :
    SCall Try.prog 61 [.ptr kb 0, .agg (clC c)] σ (Is (.bool (offB K c)) σ) := by
  refine scall_of Try.func61 rfl (by simp) ?_
  refine ex_seq ?_;
  refine ex_region ?_;
  refine exl_box rfl rfl rfl (g_box rfl rfl) ?_; intro _;
  refine exl_box rfl rfl rfl (g_box rfl rfl) ?_; intro _;
  apply exl_is; rfl; rfl; rfl; (apply g_assign; rfl);
  refine exl_nilT ?_;
  refine ex_seq ?_;
  refine ex_region ?_;
  apply exl_is; rfl; rfl; rfl; (apply g_fieldAddr; rfl; rfl; rfl);
  apply exl_is; rfl; rfl; rfl; (apply g_load1; rfl; rfl; (exact .p (by ((repeat (first | exact List.Mem.head _ | assumption | refine List.Mem.tail _ ?_)); done)) rfl));
  apply exl_is; rfl; rfl; rfl; (apply g_makeFunc; rfl; rfl);
  apply exl_isB; rfl; rfl; rfl; (exact g_call rfl rfl (enters_b (by kernel_rfl)) (fInt_any c.ifs _ [] _ (fun q => K q == 2) _ (enters_b (by kernel_rfl)) (fun _ q _ => off1_c q (by ((repeat (first | exact List.Mem.head _ | assumption | refine List.Mem.tail _ ?_)); done)) (by ((repeat (first | exact List.Mem.head _ | assumption | refine List.Mem.tail _ ?_)); done)) (by ((repeat (first | exact List.Mem.head _ | assumption | refine List.Mem.tail _ ?_)); done))))); intro _ _;
  apply exl_is; rfl; rfl; rfl; (apply g_assign; rfl);
  refine exl_nilT ?_;
  refine ex_ret ?_;
  simp only [thenA, blockA, roundA, noGotoA, retA, ↓reduceIte, Nat.reduceEqDiff];
  rotate_left
  (all_goals (repeat (rename BV _ _ => hbv; cases hbv)))
  all_goals (try (exfalso; first | (rename true = false => hx; cases hx; done) | (rename false = true => hx; cases hx; done)))
  refine ret_is .nil (.cons (.ofTmp rfl) .nil) (by repeat (first | exact List.Sublist.refl _ | apply List.Sublist.cons_cons | apply List.Sublist.cons)) (bool_eq ?_)
  rfl
set_option maxRecDepth 10000 in
theorem some1_c {g : Nat} {first cap : List AV} {F : Cl → Bool} {b1 b2 : Nat} {t1 t2 : TypeId} (q : Int) (c : Cl) (he : Enters Try.prog g) (hf : SCall Try.prog g (first ++ [.agg (clC c)] ++ cap) σ (Is (.bool (F c)) σ))
    (h1 : Ent.cells b1 [.int .i64 q] t1 ∈ σ) (h2 : Ent.cells b2 [.fn (.func g) first cap] t2 ∈ σ) :
    SCall Try.prog 91 [.agg (clC c), .ptr b1 0, .ptr b2 0] σ (Is (.bool (c.thn == q && F c)) σ) := by
  refine scall_of Try.func91 rfl (by simp) ?_
  refine ex_seq ?_;
  refine ex_region ?_;
  refine exl_box rfl rfl rfl (g_box rfl rfl) ?_; intro _;
  apply exl_is; rfl; rfl; rfl; (apply g_assign; rfl);
  refine exl_nilT ?_;
  refine ex_seq ?_;
  refine ex_region ?_;
  apply exl_is; rfl; rfl; rfl; (apply g_fieldAddr; rfl; rfl; rfl);
  apply exl_is; rfl; rfl; rfl; (apply g_load1; rfl; rfl; (exact .p (by ((repeat (first | exact List.Mem.head _ | assumption | refine List.Mem.tail _ ?_)); done)) rfl));
  apply exl_is; rfl; rfl; rfl; (apply g_load1; rfl; rfl; (exact .p (by ((repeat (first | exact List.Mem.head _ | assumption | refine List.Mem.tail _ ?_)); done)) rfl));
  apply exl_isB; rfl; rfl; rfl; (apply g_binInt; rfl; rfl; rfl); intro _ _;
  apply exl_is; rfl; rfl; rfl; (apply g_move; rfl);
  refine exl_caseL rfl (fun h => ?_) (fun h => ?_) <;> ((first | (subst h; rename BV _ true => h0; have h := h0.eq; clear h0) | (subst h; rename BV _ false => h0; have h := h0.eq; clear h0) | skip); (have hp := h; try simp only [decide_eq_true_eq, decide_eq_false_iff_not, Bool.not_eq_true', Bool.not_eq_false', bne_iff_ne, beq_iff_eq, beq_eq_false_iff_ne, bne_eq_false_iff_eq, Int.not_lt, Int.not_le] at hp); (try (exfalso; first | omega | (cases hp; done))));
  apply exl_isW; rfl; (rfl); rfl; rfl; (apply g_load1; rfl; rfl; (exact .p (by ((repeat (first | exact List.Mem.head _ | assumption | refine List.Mem.tail _ ?_)); done)) rfl));
  apply exl_isW; rfl; (rfl); rfl; rfl; (apply g_loadAgg; rfl; decide; rfl; (exact .p (by ((repeat (first | exact List.Mem.head _ | assumption | refine List.Mem.tail _ ?_)); done)) rfl rfl));
  apply exl_isW; rfl; (rfl); rfl; rfl; (exact g_call rfl rfl he (is_front [_] hf));
  apply exl_is; rfl; rfl; rfl; (apply g_pick_t; rfl; (rfl); rfl);
  apply exl_is; rfl; rfl; rfl; (apply g_assign; rfl);
  refine exl_nilT ?_;
  refine ex_ret ?_;
  simp only [thenA, blockA, roundA, noGotoA, retA, ↓reduceIte, Nat.reduceEqDiff];
  rotate_left;
  refine exl_skipL rfl (by rfl) rfl rfl ?_;
  refine exl_skipL rfl (by rfl) rfl rfl ?_;
  refine exl_skipL rfl (by rfl) rfl rfl ?_;
  apply exl_is; rfl; rfl; rfl; (apply g_pick_f; rfl; (rfl); rfl);
  apply exl_is; rfl; rfl; rfl; (apply g_assign; rfl);
  refine exl_nilT ?_;
  refine ex_ret ?_;
  simp only [thenA, blockA, roundA, noGotoA, retA, ↓reduceIte, Nat.reduceEqDiff];
  rotate_left
  (all_goals (repeat (rename BV _ _ => hbv; cases hbv)))
  all_goals (try (exfalso; first | (rename true = false => hx; cases hx; done) | (rename false = true => hx; cases hx; done)))
  · refine ret_is .nil (.cons (.ofTmp rfl) .nil) (by repeat (first | exact List.Sublist.refl _ | apply List.Sublist.cons_cons | apply List.Sublist.cons)) (bool_eq ?_)
    simp [*]
  · refine ret_is .nil (.cons (.ofTmp rfl) .nil) (by repeat (first | exact List.Sublist.refl _ | apply List.Sublist.cons_cons | apply List.Sublist.cons)) (bool_eq ?_)
    simp [*]
set_option maxRecDepth 10000 in
theorem some_c {g : Nat} {first cap : List AV} {F : Cl → Bool} (q : Int) (he : Enters Try.prog g) (hf : ∀ c, SCall Try.prog g (first ++ [.agg (clC c)] ++ cap) σ (Is (.bool (F c)) σ)) (h1 : Ent.cells kb (courtC p bs bk) tk ∈ σ) :
    SCall Try.prog 59 [.ptr kb 0, .int .i64 q, .fn (.func g) first cap] σ (Is (.bool (someB p q F)) σ) := by
  refine scall_of Try.func59 rfl (by simp) ?_
  refine ex_seq ?_;
  refine ex_region ?_;
  refine exl_box rfl rfl rfl (g_box rfl rfl) ?_; intro _;
  refine exl_box rfl rfl rfl (g_box rfl rfl) ?_; intro _;
  apply exl_is; rfl; rfl; rfl; (apply g_assign; rfl);
  refine exl_nilT ?_;
  refine ex_seq ?_;
  refine ex_region ?_;
  apply exl_is; rfl; rfl; rfl; (apply g_move; rfl);
  apply exl_is; rfl; rfl; rfl; (apply g_nilCheck; rfl; rfl);
  apply exl_is; rfl; rfl; rfl; (apply g_fieldAddr; rfl; rfl; rfl);
  apply exl_is; rfl; rfl; rfl; (apply g_fieldAddr; rfl; rfl; rfl);
  apply exl_is; rfl; rfl; rfl; (apply g_load1; rfl; rfl; (exact .p (by ((repeat (first | exact List.Mem.head _ | assumption | refine List.Mem.tail _ ?_)); done)) rfl));
  apply exl_is; rfl; rfl; rfl; (apply g_makeFunc; rfl; rfl);
  apply exl_isB; rfl; rfl; rfl; (exact g_call rfl rfl (enters_b (by kernel_rfl)) (fCl_any p.clauses _ [] _ (fun c => c.thn == q && F c) _ (enters_b (by kernel_rfl)) (fun _ c _ => some1_c q c he (is_front [_, _] (hf c)) (by ((repeat (first | exact List.Mem.head _ | assumption | refine List.Mem.tail _ ?_)); done)) (by ((repeat (first | exact List.Mem.head _ | assumption | refine List.Mem.tail _ ?_)); done))))); intro _ _;
  apply exl_is; rfl; rfl; rfl; (apply g_assign; rfl);
  refine exl_nilT ?_;
  refine ex_ret ?_;
  simp only [thenA, blockA, roundA, noGotoA, retA, ↓reduceIte, Nat.reduceEqDiff];
  rotate_left
  (all_goals (repeat (rename BV _ _ => hbv; cases hbv)))
  all_goals (try (exfalso; first | (rename true = false => hx; cases hx; done) | (rename false = true => hx; cases hx; done)))
  refine ret_is .nil (.cons (.ofTmp rfl) .nil) (by repeat (first | exact List.Sublist.refl _ | apply List.Sublist.cons_cons | apply List.Sublist.cons)) (bool_eq ?_)
  rfl
end
end Go.Proofs.Ythdgmimhaidmnaa
