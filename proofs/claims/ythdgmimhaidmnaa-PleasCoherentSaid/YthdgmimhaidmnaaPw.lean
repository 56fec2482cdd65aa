/- PleasCoherent, walked. -/
import Derived.Test.YthdgmimhaidmnaaPt
import Derived.Test.YthdgmimhaidmnaaPo
import Derived.Test.YthdgmimhaidmnaaPure4
namespace Go.Proofs.Ythdgmimhaidmnaa
set_option linter.unusedSimpArgs false
set_option linter.unusedVariables false
set_option maxHeartbeats 1000000 in
set_option maxRecDepth 10000 in
theorem answers_err (p : Pl) (hc : checkB lits p ≠ 0) (σ : List Ent) : SCall Try.prog 16 [.agg (plC p)] σ (Is (.tup [.raw (.map none), .bool false]) σ) := by
  refine scall_of Try.func16 rfl (by simp) ?_
  have ha := answer_c p 1
  obtain ⟨e, he⟩ : ∃ e, checkB lits p = e := ⟨_, rfl⟩
  rw [he] at hc
  rw [show answerB lits p 1 = (0, e) by unfold answerB; simp [he, hc]] at ha
  clear he
  dsimp only at ha
  refine ex_seq ?_;
  refine ex_region ?_;
  refine exl_box rfl rfl rfl (g_box rfl rfl) ?_; intro _;
  apply exl_is; rfl; rfl; rfl; (apply g_assign; rfl);
  apply exl_is; rfl; rfl; rfl; (apply g_assign; rfl);
  refine exl_nilT ?_;
  refine ex_seq ?_;
  refine ex_region ?_;
  refine exl_map rfl rfl rfl (by exact g_makeMap) ?_; intro _;
  apply exl_is; rfl; rfl; rfl; (apply g_assign; rfl);
  refine exl_nilT ?_;
  refine ex_seq ?_;
  refine ex_seq ?_;
  refine ex_region ?_;
  apply exl_is; rfl; rfl; rfl; (apply g_assign; rfl);
  refine exl_nilT ?_;
  refine ex_block ?_;
  rotate_left
  (all_goals (repeat (rename BV _ _ => hbv; cases hbv)))
  all_goals (try (exfalso; first | (rename true = false => hx; cases hx; done) | (rename false = true => hx; cases hx; done)))
  rename_i b1 b2
  refine ex_loop (fun (y : Unit) => (⟨[(2, .mp b2), (1, .ptr b1 0), (4, .int .i64 1)], .imap b2 (fun _ => none) 0 :: .cells b1 (plC p) 25 :: σ, [], Try.f16.ntmps⟩ : St)) (fun y => True) (fun y => 0) () (trivial) (St.le_of (by repeat (first | exact trivial | refine ⟨rfl, ?_⟩)) (by repeat (first | exact List.Sublist.refl _ | apply List.Sublist.cons_cons | apply List.Sublist.cons))) ?_
  intro y hI
  refine ex_seq ?_;
  refine ex_seq ?_;
  refine ex_region ?_;
  apply exl_is; rfl; rfl; rfl; (apply g_move; rfl);
  apply exl_isB; rfl; rfl; rfl; (apply g_binInt; rfl; rfl; rfl); intro _ _;
  refine exl_nilT ?_;
  refine ex_cond rfl (fun h => ?_) (fun h => ?_) <;> ((first | (subst h; rename BV _ true => h0; have h := h0.eq; clear h0) | (subst h; rename BV _ false => h0; have h := h0.eq; clear h0) | skip); (have hp := h; try simp only [decide_eq_true_eq, decide_eq_false_iff_not, Bool.not_eq_true', Bool.not_eq_false', bne_iff_ne, beq_iff_eq, beq_eq_false_iff_ne, bne_eq_false_iff_eq, Int.not_lt, Int.not_le] at hp); (try (exfalso; first | omega | (cases hp; done))));
  refine ex_skip ?_;
  refine ex_seq ?_;
  refine ex_block ?_;
  refine ex_seq ?_;
  refine ex_region ?_;
  apply exl_is; rfl; rfl; rfl; (apply g_move; rfl);
  apply exl_is; rfl; rfl; rfl; (apply g_move; rfl);
  apply exl_is; rfl; rfl; rfl; (apply g_neg; rfl; rfl; exact ⟨by omega, by omega⟩);
  apply exl_is; rfl; rfl; rfl; (exact gop_sealed (g_buildSlice rfl rfl (by decide) rfl rfl (by (simp only [chunkN, List.take_succ_cons, List.take_zero, List.drop_succ_cons, List.drop_zero]; rfl))));
  apply exl_is; rfl; rfl; rfl; (apply g_len; rfl; rfl; (rfl));
  apply exl_is; rfl; rfl; rfl; (apply g_move; rfl);
  refine exl_nilT ?_;
  refine ex_block ?_;
  rotate_left
  (all_goals (repeat (rename BV _ _ => hbv; cases hbv)))
  all_goals (try (exfalso; first | (rename true = false => hx; cases hx; done) | (rename false = true => hx; cases hx; done)))
  refine ex_loop (fun (z : Unit) => (⟨[(19, .int .i64 0), (17, ints [(1 : Int), -1]), (18, .int .i64 2), (2, .mp b2), (1, .ptr b1 0), (4, .int .i64 1)], .imap b2 (fun _ => none) 0 :: .cells b1 (plC p) 25 :: σ, [], Try.f16.ntmps⟩ : St)) (fun z => True) (fun z => 0) () (trivial) (St.le_of (by repeat (first | exact trivial | refine ⟨rfl, ?_⟩)) (by repeat (first | exact List.Sublist.refl _ | apply List.Sublist.cons_cons | apply List.Sublist.cons))) ?_
  intro z hI
  have g0 : ([(1 : Int), -1].map intC)[0]? = some (intC 1) := rfl
  refine ex_seq ?_;
  refine ex_region ?_;
  apply exl_isB; rfl; rfl; rfl; (apply g_binInt; rfl; rfl; rfl); intro _ _;
  refine exl_nilT ?_;
  refine ex_seq ?_;
  refine ex_cond rfl (fun h => ?_) (fun h => ?_) <;> ((first | (subst h; rename BV _ true => h0; have h := h0.eq; clear h0) | (subst h; rename BV _ false => h0; have h := h0.eq; clear h0) | skip); (have hp := h; try simp only [decide_eq_true_eq, decide_eq_false_iff_not, Bool.not_eq_true', Bool.not_eq_false', bne_iff_ne, beq_iff_eq, beq_eq_false_iff_ne, bne_eq_false_iff_eq, Int.not_lt, Int.not_le] at hp); (try (exfalso; first | omega | (cases hp; done))));
  refine ex_skip ?_;
  refine ex_seq ?_;
  refine ex_block ?_;
  refine ex_seq ?_;
  refine ex_region ?_;
  apply exl_is; rfl; rfl; rfl; (apply g_indexDl; rfl; rfl; rfl; (rfl); (assumption));
  apply exl_is; rfl; rfl; rfl; (apply g_load1; rfl; rfl; (exact .e rfl));
  apply exl_is; rfl; rfl; rfl; (apply g_assign; rfl);
  refine exl_nilT ?_;
  refine ex_seq ?_;
  refine ex_region ?_;
  apply exl_is; rfl; rfl; rfl; (apply g_loadAgg; rfl; decide; rfl; (exact .p (by ((repeat (first | exact List.Mem.head _ | assumption | refine List.Mem.tail _ ?_)); done)) rfl rfl));
  apply exl_is; rfl; rfl; rfl; (apply g_move; rfl);
  apply exl_is; rfl; rfl; rfl; (exact g_call rfl rfl (enters_b (by kernel_rfl)) (ha _));
  apply exl_is; rfl; rfl; rfl; (apply g_move; rfl);
  apply exl_is; rfl; rfl; rfl; (apply g_extract; rfl; rfl);
  apply exl_is; rfl; rfl; rfl; (apply g_extract; rfl; rfl);
  apply exl_is; rfl; rfl; rfl; (apply g_assign; rfl);
  apply exl_is; rfl; rfl; rfl; (apply g_assign; rfl);
  refine exl_nilT ?_;
  refine ex_seq ?_;
  refine ex_seq ?_;
  refine ex_region ?_;
  apply exl_is; rfl; rfl; rfl; (apply g_move; rfl);
  apply exl_isB; rfl; rfl; rfl; (apply g_binInt; rfl; rfl; rfl); intro _ _;
  refine exl_nilT ?_;
  refine ex_cond rfl (fun h => ?_) (fun h => ?_) <;> ((first | (subst h; rename BV _ true => h0; have h := h0.eq; clear h0) | (subst h; rename BV _ false => h0; have h := h0.eq; clear h0) | skip); (have hp := h; try simp only [decide_eq_true_eq, decide_eq_false_iff_not, Bool.not_eq_true', Bool.not_eq_false', bne_iff_ne, beq_iff_eq, beq_eq_false_iff_ne, bne_eq_false_iff_eq, Int.not_lt, Int.not_le] at hp); (try (exfalso; first | omega | (cases hp; done))));
  refine ex_seq ?_;
  refine ex_region ?_;
  apply exl_is; rfl; rfl; rfl; (apply g_assign; rfl);
  apply exl_is; rfl; rfl; rfl; (apply g_assign; rfl);
  refine exl_nilT ?_;
  refine ex_ret ?_;
  simp only [thenA, blockA, roundA, noGotoA, retA, ↓reduceIte, Nat.reduceEqDiff];
  rotate_left
  (all_goals (repeat (rename BV _ _ => hbv; cases hbv)))
  all_goals (try (exfalso; first | (rename true = false => hx; cases hx; done) | (rename false = true => hx; cases hx; done)))
  refine ret_is .nil (.cons (.ofTmp rfl) (.cons (.ofTmp rfl) .nil)) (by repeat (first | exact List.Sublist.refl _ | apply List.Sublist.cons_cons | apply List.Sublist.cons)) ?_
  rfl

/-- What is said of a list's literals is what the answers are. -/
theorem said_known {p : Pl} {S : Int → Bool} : learnAll (fun _ => 0) (deriveOf p S lits).1 = (deriveOf p S lits).2 := by
  obtain ⟨h1, h2, h3⟩ := deriveN_list (p := p) (S := S) lits_nodup 65
  funext q
  by_cases hq : q ∈ ((deriveN p S lits 65).1.map Rs.lit)
  · obtain ⟨x, hx, rfl⟩ := List.mem_map.1 hq
    have e1 := learnAll_at _ (fun _ => 0) h1 x hx
    have e2 := h2 x hx
    exact e1.trans e2.symm
  · have e1 := learnAll_out _ (fun _ => 0) _ hq
    have e2 : (deriveN p S lits 65).2 q = 0 := Classical.byContradiction fun h => hq (h3 q h)
    exact e1.trans e2.symm
theorem litB_neg' (q : Int) : litB (-q) = litB q := by
  have : litB (-q) = true ↔ litB q = true := by
    simp only [litB, Bool.and_eq_true, decide_eq_true_eq, bne_iff_ne, ne_eq]
    omega
  cases h1 : litB (-q) <;> cases h2 : litB q <;> simp_all
theorem nodup_len {α : Type} [DecidableEq α] : ∀ {l m : List α}, l.Nodup → (∀ x ∈ l, x ∈ m) → l.length ≤ m.length
  | [], _, _, _ => Nat.zero_le _
  | x :: r, m, hn, hs => by
    rw [List.nodup_cons] at hn
    have hx : x ∈ m := hs x (by simp)
    have ih := nodup_len (l := r) (m := m.erase x) hn.2 (fun y hy => (List.mem_erase_of_ne (fun e => hn.1 (by rw [← e]; exact hy))).2 (hs y (by simp [hy])))
    rw [List.length_erase_of_mem hx] at ih
    have := List.length_pos_of_mem hx
    rw [List.length_cons]
    omega
structure Coherent (p : Pl) (A : Int → Int) (K : Known) (D : List Rs) : Prop where
  one : ∀ q : Int, litB q = true → A q = 1 → A (-q) = 1 → False
  strict : ∀ q ∈ lits.filter (strictOf p).contains, A q = 1 ∧ A (-q) = 2 ∧ litB q = true
  new : ∀ (i : Nat) (x : Rs), D[i]? = some x → learnAll (fun _ => 0) (D.take i) x.lit = 0
  said : learnAll (fun _ => 0) D = K
  ans : ∀ q, A q ≠ 0 → (K q = 0 ∧ A q = 3) ∨ (K q ≠ 0 ∧ A q = K q ∧ 1 ≤ K q ∧ K q ≤ 2)
  len : D.length ≤ 64
theorem coherent {p : Pl} (hc : checkB lits p = 0) : Coherent p (ansK p) (derivedB lits p).2 (derivedB lits p).1 := by
  have hv := check_valid hc
  have hK : ∀ q, ansK p q ≠ 0 → litB q = true := fun q h => by
    unfold ansK at h
    cases hl : litB q with
    | true => rfl
    | false => rw [hl] at h; exact absurd rfl h
  have hr := derive_range (p := p) (S := (strictOf p).contains) lits_nodup
  have hA : ∀ q, litB q = true → ∀ n, n = 1 ∨ n = 2 → ((ansK p q = n) ↔ (derivedB lits p).2 q = n) := fun q hq n hn => by
    unfold ansK
    rw [if_pos hq]
    split
    · rename_i h; rw [h]; omega
    · exact Iff.rfl
  obtain ⟨l1, l2, l3⟩ := deriveN_list (p := p) (S := (strictOf p).contains) lits_nodup 65
  refine ⟨fun q hq h1 h2 => ?_, fun q hq => ?_, fun i x hx => ?_, said_known, fun q hq => ?_, ?_⟩
  · have hq' : litB (-q) = true := by rw [litB_neg']; exact hq
    exact proved_one (p := p) (S := (strictOf p).contains) lits_nodup hv.clash ((hA q hq 1 (.inl rfl)).1 h1) ((hA (-q) hq' 1 (.inl rfl)).1 h2)
  · obtain ⟨hql, hs⟩ := List.mem_filter.1 hq
    have hlq := lits_litB q hql
    have hln : litB (-q) = true := by rw [litB_neg']; exact hlq
    exact ⟨(hA q hlq 1 (.inl rfl)).2 (strict_says lits_nodup lits_le hql hs), (hA (-q) hln 2 (.inr rfl)).2 (strict_refuted lits_nodup lits_le (lits_neg q hql) hs (hv.clash q hql hs)), hlq⟩
  · refine learnAll_out _ _ _ fun hm => ?_
    have hi := (List.getElem?_eq_some_iff.1 hx).1
    have hx2 := (List.getElem?_eq_some_iff.1 hx).2
    have hd : (derivedB lits p).1 = (derivedB lits p).1.take i ++ (x :: (derivedB lits p).1.drop (i + 1)) := by
      rw [← hx2, ← List.drop_eq_getElem_cons hi, List.take_append_drop]
    have l1' : ((derivedB lits p).1.map Rs.lit).Nodup := l1
    rw [hd, List.map_append, List.nodup_append] at l1'
    exact l1'.2.2 _ hm x.lit (by simp) rfl
  · have hl := hK q hq
    unfold ansK
    rw [if_pos hl]
    rcases hr q with h | h | h
    · have h' : (derivedB lits p).2 q = 0 := h
      rw [h']; exact .inl ⟨rfl, rfl⟩
    · have h' : (derivedB lits p).2 q = 1 := h
      rw [h']; exact .inr ⟨by decide, rfl, by decide, by decide⟩
    · have h' : (derivedB lits p).2 q = 2 := h
      rw [h']; exact .inr ⟨by decide, rfl, by decide, by decide⟩
  · have hsub : ∀ q ∈ (derivedB lits p).1.map Rs.lit, q ∈ lits := fun q hq => by
      obtain ⟨x, hx, rfl⟩ := List.mem_map.1 hq
      refine derive_in (p := p) (S := (strictOf p).contains) ?_
      have := l2 x hx
      show (deriveN p (strictOf p).contains lits 65).2 x.lit ≠ 0
      rw [this]; split <;> decide
    have h := nodup_len l1 hsub
    rw [List.length_map] at h
    exact Nat.le_trans h lits_le
theorem intM_some (K : Int → Int) (q : Int) : (intM K q).isSome = (K q != 0) := by
  unfold intM
  by_cases h : K q = 0
  · rw [if_pos h, h]; rfl
  · rw [if_neg h]; simp [h]
set_option maxHeartbeats 4000000 in
set_option maxRecDepth 10000 in
theorem pleasCoherent_c (p : Pl) (σ : List Ent) : SCall Try.prog 4 [.agg (plC p)] σ (Is (.bool true) σ) := by
  refine scall_of Try.func4 rfl (by simp) ?_
  have hd := deriveF_c p
  by_cases hc : checkB lits p = 0
  · have hco := coherent hc
    have han := answers_c p hc
    have hst := strictF_c p
    rw [show strictB lits p = (lits.filter (strictOf p).contains, 0) by unfold strictB; simp [hc]] at hst
    have hac := accepts_c p (derivedB lits p).1
    have hacc : acceptsFrom p (strictOf p).contains (fun _ => 0) (derivedB lits p).1 = true := derive_accepted lits_nodup lits_litB
    rw [show acceptsB lits p (derivedB lits p).1 = (true, 0) by unfold acceptsB; rw [hacc, hc]; rfl] at hac
    rw [show deriveB lits p = ((derivedB lits p).1, 0) by unfold deriveB; rw [hc]; rfl] at hd
    unfold Answers at han
    dsimp only at hst hac hd
    have hsl : (lits.filter (strictOf p).contains).length ≤ 64 := Nat.le_trans (List.length_filter_le _ _) lits_le
    generalize ansK p = A at hco han
    generalize (derivedB lits p).1 = D at hco hd hac
    generalize (derivedB lits p).2 = K at hco
    obtain ⟨f1, f2, f3, f4, f5, f6⟩ := hco
    generalize lits.filter (strictOf p).contains = Sl at f2 hst hsl
    clear hc hacc
    refine ex_seq ?_;
    refine ex_region ?_;
    refine exl_box rfl rfl rfl (g_box rfl rfl) ?_; intro _;
    apply exl_is; rfl; rfl; rfl; (apply g_assign; rfl);
    refine exl_nilT ?_;
    refine ex_seq ?_;
    refine ex_seq ?_;
    refine ex_region ?_;
    apply exl_isB; rfl; rfl; rfl; (exact g_call rfl rfl (enters_b (by kernel_rfl)) (sane_c _)); intro _ _;
    apply exl_isB; rfl; rfl; rfl; (apply g_not; rfl); intro _ _;
    refine exl_nilT ?_;
    refine ex_cond rfl (fun h => ?_) (fun h => ?_) <;> ((first | (subst h; rename BV _ true => h0; have h := h0.eq; clear h0) | (subst h; rename BV _ false => h0; have h := h0.eq; clear h0) | skip); (have hp := h; try simp only [decide_eq_true_eq, decide_eq_false_iff_not, Bool.not_eq_true', Bool.not_eq_false', bne_iff_ne, beq_iff_eq, beq_eq_false_iff_ne, bne_eq_false_iff_eq, Int.not_lt, Int.not_le] at hp); (try (exfalso; first | omega | (cases hp; done))));
    refine ex_seq ?_;
    refine ex_region ?_;
    apply exl_is; rfl; rfl; rfl; (apply g_assign; rfl);
    refine exl_nilT ?_;
    refine ex_ret ?_;
    simp only [thenA, blockA, roundA, noGotoA, retA, ↓reduceIte, Nat.reduceEqDiff];
    rotate_left;
    refine ex_skip ?_;
    refine ex_seq ?_;
    refine ex_seq ?_;
    refine ex_region ?_;
    apply exl_is; rfl; rfl; rfl; (apply g_loadAgg; rfl; decide; rfl; (exact .p (by ((repeat (first | exact List.Mem.head _ | assumption | refine List.Mem.tail _ ?_)); done)) rfl rfl));
    apply exl_isB; rfl; rfl; rfl; (exact g_call rfl rfl (enters_b (by kernel_rfl)) (few_c p _)); intro _ _;
    apply exl_isB; rfl; rfl; rfl; (apply g_not; rfl); intro _ _;
    refine exl_nilT ?_;
    refine ex_cond rfl (fun h => ?_) (fun h => ?_) <;> ((first | (subst h; rename BV _ true => h0; have h := h0.eq; clear h0) | (subst h; rename BV _ false => h0; have h := h0.eq; clear h0) | skip); (have hp := h; try simp only [decide_eq_true_eq, decide_eq_false_iff_not, Bool.not_eq_true', Bool.not_eq_false', bne_iff_ne, beq_iff_eq, beq_eq_false_iff_ne, bne_eq_false_iff_eq, Int.not_lt, Int.not_le] at hp); (try (exfalso; first | omega | (cases hp; done))));
    refine ex_seq ?_;
    refine ex_region ?_;
    apply exl_is; rfl; rfl; rfl; (apply g_assign; rfl);
    refine exl_nilT ?_;
    refine ex_ret ?_;
    simp only [thenA, blockA, roundA, noGotoA, retA, ↓reduceIte, Nat.reduceEqDiff];
    rotate_left;
    refine ex_skip ?_;
    refine ex_seq ?_;
    refine ex_region ?_;
    apply exl_is; rfl; rfl; rfl; (apply g_loadAgg; rfl; decide; rfl; (exact .p (by ((repeat (first | exact List.Mem.head _ | assumption | refine List.Mem.tail _ ?_)); done)) rfl rfl));
    apply exl_is; rfl; rfl; rfl; (exact g_call rfl rfl (enters_b (by kernel_rfl)) (hd _));
    apply exl_is; rfl; rfl; rfl; (apply g_move; rfl);
    apply exl_is; rfl; rfl; rfl; (apply g_extract; rfl; rfl);
    apply exl_is; rfl; rfl; rfl; (apply g_extract; rfl; rfl);
    apply exl_is; rfl; rfl; rfl; (apply g_assign; rfl);
    apply exl_is; rfl; rfl; rfl; (apply g_assign; rfl);
    refine exl_nilT ?_;
    refine ex_seq ?_;
    refine ex_region ?_;
    apply exl_is; rfl; rfl; rfl; (apply g_loadAgg; rfl; decide; rfl; (exact .p (by ((repeat (first | exact List.Mem.head _ | assumption | refine List.Mem.tail _ ?_)); done)) rfl rfl));
    refine exl_call rfl rfl rfl (g_call rfl rfl (enters_b (by kernel_rfl)) (han _)) ?_; rintro _ _ ⟨ba, na, rfl, rfl⟩;
    apply exl_is; rfl; rfl; rfl; (apply g_move; rfl);
    apply exl_is; rfl; rfl; rfl; (apply g_extract; rfl; rfl);
    apply exl_is; rfl; rfl; rfl; (apply g_extract; rfl; rfl);
    apply exl_is; rfl; rfl; rfl; (apply g_assign; rfl);
    apply exl_is; rfl; rfl; rfl; (apply g_assign; rfl);
    refine exl_nilT ?_;
    refine ex_seq ?_;
    refine ex_seq ?_;
    refine ex_region ?_;
    apply exl_is; rfl; rfl; rfl; (apply g_move; rfl);
    apply exl_isB; rfl; rfl; rfl; (apply g_binInt; rfl; rfl; rfl); intro _ _;
    refine exl_nilT ?_;
    refine ex_cond rfl (fun h => ?_) (fun h => ?_) <;> ((first | (subst h; rename BV _ true => h0; have h := h0.eq; clear h0) | (subst h; rename BV _ false => h0; have h := h0.eq; clear h0) | skip); (have hp := h; try simp only [decide_eq_true_eq, decide_eq_false_iff_not, Bool.not_eq_true', Bool.not_eq_false', bne_iff_ne, beq_iff_eq, beq_eq_false_iff_ne, bne_eq_false_iff_eq, Int.not_lt, Int.not_le] at hp); (try (exfalso; first | omega | (cases hp; done))));
    refine ex_skip ?_;
    refine ex_seq ?_;
    refine ex_seq ?_;
    refine ex_region ?_;
    apply exl_is; rfl; rfl; rfl; (apply g_move; rfl);
    apply exl_isB; rfl; rfl; rfl; (apply g_not; rfl); intro _ _;
    refine exl_nilT ?_;
    refine ex_cond rfl (fun h => ?_) (fun h => ?_) <;> ((first | (subst h; rename BV _ true => h0; have h := h0.eq; clear h0) | (subst h; rename BV _ false => h0; have h := h0.eq; clear h0) | skip); (have hp := h; try simp only [decide_eq_true_eq, decide_eq_false_iff_not, Bool.not_eq_true', Bool.not_eq_false', bne_iff_ne, beq_iff_eq, beq_eq_false_iff_ne, bne_eq_false_iff_eq, Int.not_lt, Int.not_le] at hp); (try (exfalso; first | omega | (cases hp; done))));
    refine ex_skip ?_;
    refine ex_seq ?_;
    refine ex_seq ?_;
    refine ex_region ?_;
    apply exl_is; rfl; rfl; rfl; (apply g_assign; rfl);
    refine exl_nilT ?_;
    refine ex_block ?_;
    rotate_left
    (all_goals (repeat (rename BV _ _ => hbv; cases hbv)))
    all_goals (try (exfalso; first | (rename true = false => hx; cases hx; done) | (rename false = true => hx; cases hx; done)))
    · refine ret_is .nil (.cons (.ofTmp rfl) .nil) (by repeat (first | exact List.Sublist.refl _ | apply List.Sublist.cons_cons | apply List.Sublist.cons)) (bool_eq ?_)
      rfl
    rename_i bp _ _ _ _ _ _
    clear han hd
    refine ex_loop (fun (q : Nat) => (⟨[(1, .ptr bp 0), (3, rss D), (5, .mp ba), (7, .int .i64 (q : Int))], .imap ba (intM A) na :: .cells bp (plC p) 25 :: σ, [], Try.f4.ntmps⟩ : St)) (fun q => 1 ≤ q ∧ q ≤ 33) (fun q => 33 - q) 1 (⟨by decide, by decide⟩) (St.le_of (by repeat (first | exact trivial | refine ⟨rfl, ?_⟩)) (by repeat (first | exact List.Sublist.refl _ | apply List.Sublist.cons_cons | apply List.Sublist.cons))) ?_
    intro q hI
    obtain ⟨hI1, hI2⟩ := hI
    by_cases hq : q ≤ 32
    · obtain ⟨hl1, hl2⟩ := litB_of hI1 hq
      have hf : ¬ (A q = 1 ∧ A (-(q : Int)) = 1) := fun h => f1 q hl1 h.1 h.2
      clear f1 f2 f3 f4 f5 hst hac
      refine ex_seq ?_;
      refine ex_seq ?_;
      refine ex_region ?_;
      apply exl_is; rfl; rfl; rfl; (apply g_move; rfl);
      apply exl_isB; rfl; rfl; rfl; (apply g_binInt; rfl; rfl; rfl); intro _ _;
      refine exl_nilT ?_;
      refine ex_cond rfl (fun h => ?_) (fun h => ?_) <;> ((first | (subst h; rename BV _ true => h0; have h := h0.eq; clear h0) | (subst h; rename BV _ false => h0; have h := h0.eq; clear h0) | skip); (have hp := h; try simp only [decide_eq_true_eq, decide_eq_false_iff_not, Bool.not_eq_true', Bool.not_eq_false', bne_iff_ne, beq_iff_eq, beq_eq_false_iff_ne, bne_eq_false_iff_eq, Int.not_lt, Int.not_le] at hp); (try (exfalso; first | omega | (cases hp; done))));
      refine ex_skip ?_;
      refine ex_seq ?_;
      refine ex_block ?_;
      refine ex_seq ?_;
      refine ex_region ?_;
      apply exl_is; rfl; rfl; rfl; (apply g_move; rfl);
      apply exl_is; rfl; rfl; rfl; (apply g_move; rfl);
      apply exl_is; rfl; rfl; rfl; (apply g_lookup; rfl; rfl; exact (by ((repeat (first | exact List.Mem.head _ | assumption | refine List.Mem.tail _ ?_)); done)); rfl; rfl; (exact intM_getD _ _));
      apply exl_isB; rfl; rfl; rfl; (apply g_binInt; rfl; rfl; rfl); intro _ _;
      apply exl_is; rfl; rfl; rfl; (apply g_move; rfl);
      refine exl_caseL rfl (fun h => ?_) (fun h => ?_) <;> ((first | (subst h; rename BV _ true => h0; have h := h0.eq; clear h0) | (subst h; rename BV _ false => h0; have h := h0.eq; clear h0) | skip); (have hp := h; try simp only [decide_eq_true_eq, decide_eq_false_iff_not, Bool.not_eq_true', Bool.not_eq_false', bne_iff_ne, beq_iff_eq, beq_eq_false_iff_ne, bne_eq_false_iff_eq, Int.not_lt, Int.not_le] at hp); (try (exfalso; first | omega | (cases hp; done))));
      apply exl_isW; rfl; (rfl); rfl; rfl; (apply g_move; rfl);
      apply exl_isW; rfl; (rfl); rfl; rfl; (apply g_move; rfl);
      apply exl_isW; rfl; (rfl); rfl; rfl; (apply g_neg; rfl; rfl; exact ⟨by omega, by omega⟩);
      apply exl_isW; rfl; (rfl); rfl; rfl; (apply g_lookup; rfl; rfl; exact (by ((repeat (first | exact List.Mem.head _ | assumption | refine List.Mem.tail _ ?_)); done)); rfl; rfl; (exact intM_getD _ _));
      apply exl_isBW; rfl; (rfl); rfl; rfl; (apply g_binInt; rfl; rfl; rfl); intro _ _;
      apply exl_is; rfl; rfl; rfl; (apply g_pick_t; rfl; (rfl); rfl);
      refine exl_nilT ?_;
      refine ex_cond rfl (fun h => ?_) (fun h => ?_) <;> ((first | (subst h; rename BV _ true => h0; have h := h0.eq; clear h0) | (subst h; rename BV _ false => h0; have h := h0.eq; clear h0) | skip); (have hp := h; try simp only [decide_eq_true_eq, decide_eq_false_iff_not, Bool.not_eq_true', Bool.not_eq_false', bne_iff_ne, beq_iff_eq, beq_eq_false_iff_ne, bne_eq_false_iff_eq, Int.not_lt, Int.not_le] at hp); (try (exfalso; first | omega | (cases hp; done))));
      refine ex_skip ?_;
      refine ex_region ?_;
      apply exl_is; rfl; rfl; rfl; (apply g_move; rfl);
      apply exl_is; rfl; rfl; rfl; (apply g_add; rfl; rfl; rfl; exact ⟨by omega, by omega⟩);
      apply exl_is; rfl; rfl; rfl; (apply g_assign; rfl);
      refine exl_nil ?_;
      simp only [thenA, blockA, roundA, noGotoA, retA, ↓reduceIte, Nat.reduceEqDiff];
      rotate_left;
      refine exl_skipL rfl (by rfl) rfl rfl ?_;
      refine exl_skipL rfl (by rfl) rfl rfl ?_;
      refine exl_skipL rfl (by rfl) rfl rfl ?_;
      refine exl_skipL rfl (by rfl) rfl rfl ?_;
      refine exl_skipL rfl (by rfl) rfl rfl ?_;
      apply exl_is; rfl; rfl; rfl; (apply g_pick_f; rfl; (rfl); rfl);
      refine exl_nilT ?_;
      refine ex_cond_f rfl (by rfl) ?_;
      refine ex_skip ?_;
      refine ex_region ?_;
      apply exl_is; rfl; rfl; rfl; (apply g_move; rfl);
      apply exl_is; rfl; rfl; rfl; (apply g_add; rfl; rfl; rfl; exact ⟨by omega, by omega⟩);
      apply exl_is; rfl; rfl; rfl; (apply g_assign; rfl);
      refine exl_nil ?_;
      simp only [thenA, blockA, roundA, noGotoA, retA, ↓reduceIte, Nat.reduceEqDiff];
      rotate_left
      (all_goals (repeat (rename BV _ _ => hbv; cases hbv)))
      all_goals (try (exfalso; first | (rename true = false => hx; cases hx; done) | (rename false = true => hx; cases hx; done)))
      · refine ⟨q + 1, ⟨by omega, by omega⟩, by omega, St.le_of (by repeat (first | exact trivial | refine ⟨rfl, ?_⟩)) (by repeat (first | exact List.Sublist.refl _ | apply List.Sublist.cons_cons | apply List.Sublist.cons))⟩
      · refine ⟨q + 1, ⟨by omega, by omega⟩, by omega, St.le_of (by repeat (first | exact trivial | refine ⟨rfl, ?_⟩)) (by repeat (first | exact List.Sublist.refl _ | apply List.Sublist.cons_cons | apply List.Sublist.cons))⟩
    · obtain rfl : q = 33 := by omega
      clear f1
      refine ex_seq ?_;
      refine ex_seq ?_;
      refine ex_region ?_;
      apply exl_is; rfl; rfl; rfl; (apply g_move; rfl);
      apply exl_isB; rfl; rfl; rfl; (apply g_binInt; rfl; rfl; rfl); intro _ _;
      refine exl_nilT ?_;
      refine ex_cond rfl (fun h => ?_) (fun h => ?_) <;> ((first | (subst h; rename BV _ true => h0; have h := h0.eq; clear h0) | (subst h; rename BV _ false => h0; have h := h0.eq; clear h0) | skip); (have hp := h; try simp only [decide_eq_true_eq, decide_eq_false_iff_not, Bool.not_eq_true', Bool.not_eq_false', bne_iff_ne, beq_iff_eq, beq_eq_false_iff_ne, bne_eq_false_iff_eq, Int.not_lt, Int.not_le] at hp); (try (exfalso; first | omega | (cases hp; done))));
      refine ex_exit ?_;
      refine ex_seq ?_;
      refine ex_region ?_;
      apply exl_is; rfl; rfl; rfl; (apply g_loadAgg; rfl; decide; rfl; (exact .p (by ((repeat (first | exact List.Mem.head _ | assumption | refine List.Mem.tail _ ?_)); done)) rfl rfl));
      apply exl_is; rfl; rfl; rfl; (exact g_call rfl rfl (enters_b (by kernel_rfl)) (hst _));
      apply exl_is; rfl; rfl; rfl; (apply g_move; rfl);
      apply exl_is; rfl; rfl; rfl; (apply g_extract; rfl; rfl);
      apply exl_is; rfl; rfl; rfl; (apply g_extract; rfl; rfl);
      apply exl_is; rfl; rfl; rfl; (apply g_assign; rfl);
      apply exl_is; rfl; rfl; rfl; (apply g_assign; rfl);
      refine exl_nilT ?_;
      refine ex_seq ?_;
      refine ex_seq ?_;
      refine ex_region ?_;
      apply exl_is; rfl; rfl; rfl; (apply g_move; rfl);
      apply exl_is; rfl; rfl; rfl; (apply g_len; rfl; rfl; (exact (List.length_map _).symm));
      apply exl_is; rfl; rfl; rfl; (apply g_move; rfl);
      refine exl_nilT ?_;
      refine ex_block ?_;
      rotate_left
      (all_goals (repeat (rename BV _ _ => hbv; cases hbv)))
      all_goals (try (exfalso; first | (rename true = false => hx; cases hx; done) | (rename false = true => hx; cases hx; done)))
      clear hst
      refine ex_loop (fun (j : Nat) => (⟨[(1, .ptr bp 0), (3, rss D), (5, .mp ba), (9, .int .i64 0), (75, ints Sl), (76, .int .i64 Sl.length), (77, .int .i64 (j : Int))], .imap ba (intM A) na :: .cells bp (plC p) 25 :: σ, [], Try.f4.ntmps⟩ : St)) (fun j => j ≤ Sl.length) (fun j => Sl.length - j) 0 (Nat.zero_le _) (St.le_of (by repeat (first | exact trivial | refine ⟨rfl, ?_⟩)) (by repeat (first | exact List.Sublist.refl _ | apply List.Sublist.cons_cons | apply List.Sublist.cons))) ?_
      intro j hI
      by_cases hj : j < Sl.length
      · obtain ⟨q, hq⟩ : ∃ q, Sl[j]? = some q := ⟨_, List.getElem?_eq_getElem hj⟩
        obtain ⟨k1, k2, k3⟩ := f2 q (List.mem_of_getElem? hq)
        clear f2 f3 f4 f5 hac
        simp only [litB, Bool.and_eq_true, decide_eq_true_eq, bne_iff_ne, ne_eq] at k3
        refine ex_seq ?_;
        refine ex_region ?_;
        apply exl_isB; rfl; rfl; rfl; (apply g_binInt; rfl; rfl; rfl); intro _ _;
        refine exl_nilT ?_;
        refine ex_seq ?_;
        refine ex_cond rfl (fun h => ?_) (fun h => ?_) <;> ((first | (subst h; rename BV _ true => h0; have h := h0.eq; clear h0) | (subst h; rename BV _ false => h0; have h := h0.eq; clear h0) | skip); (have hp := h; try simp only [decide_eq_true_eq, decide_eq_false_iff_not, Bool.not_eq_true', Bool.not_eq_false', bne_iff_ne, beq_iff_eq, beq_eq_false_iff_ne, bne_eq_false_iff_eq, Int.not_lt, Int.not_le] at hp); (try (exfalso; first | omega | (cases hp; done))));
        refine ex_skip ?_;
        refine ex_seq ?_;
        refine ex_block ?_;
        refine ex_seq ?_;
        refine ex_region ?_;
        apply exl_is; rfl; rfl; rfl; (apply g_indexDl; rfl; rfl; rfl; (rfl); (exact get_map (by assumption)));
        apply exl_is; rfl; rfl; rfl; (apply g_load1; rfl; rfl; (exact .e rfl));
        apply exl_is; rfl; rfl; rfl; (apply g_assign; rfl);
        refine exl_nilT ?_;
        refine ex_seq ?_;
        refine ex_region ?_;
        apply exl_is; rfl; rfl; rfl; (apply g_move; rfl);
        apply exl_is; rfl; rfl; rfl; (apply g_move; rfl);
        apply exl_is; rfl; rfl; rfl; (apply g_lookup; rfl; rfl; exact (by ((repeat (first | exact List.Mem.head _ | assumption | refine List.Mem.tail _ ?_)); done)); rfl; rfl; (exact intM_getD _ _));
        apply exl_isB; rfl; rfl; rfl; (apply g_binInt; rfl; rfl; rfl); intro _ _;
        apply exl_is; rfl; rfl; rfl; (apply g_move; rfl);
        refine exl_caseL rfl (fun h => ?_) (fun h => ?_) <;> ((first | (subst h; rename BV _ true => h0; have h := h0.eq; clear h0) | (subst h; rename BV _ false => h0; have h := h0.eq; clear h0) | skip); (have hp := h; try simp only [decide_eq_true_eq, decide_eq_false_iff_not, Bool.not_eq_true', Bool.not_eq_false', bne_iff_ne, beq_iff_eq, beq_eq_false_iff_ne, bne_eq_false_iff_eq, Int.not_lt, Int.not_le] at hp); (try (exfalso; first | omega | (cases hp; done))));
        apply exl_isW; rfl; (rfl); rfl; rfl; (apply g_move; rfl);
        apply exl_isW; rfl; (rfl); rfl; rfl; (apply g_move; rfl);
        apply exl_isW; rfl; (rfl); rfl; rfl; (apply g_neg; rfl; rfl; exact ⟨by omega, by omega⟩);
        apply exl_isW; rfl; (rfl); rfl; rfl; (apply g_lookup; rfl; rfl; exact (by ((repeat (first | exact List.Mem.head _ | assumption | refine List.Mem.tail _ ?_)); done)); rfl; rfl; (exact intM_getD _ _));
        apply exl_isBW; rfl; (rfl); rfl; rfl; (apply g_binInt; rfl; rfl; rfl); intro _ _;
        apply exl_is; rfl; rfl; rfl; (apply g_pick_f; rfl; (rfl); rfl);
        refine exl_nilT ?_;
        refine ex_cond rfl (fun h => ?_) (fun h => ?_) <;> ((first | (subst h; rename BV _ true => h0; have h := h0.eq; clear h0) | (subst h; rename BV _ false => h0; have h := h0.eq; clear h0) | skip); (have hp := h; try simp only [decide_eq_true_eq, decide_eq_false_iff_not, Bool.not_eq_true', Bool.not_eq_false', bne_iff_ne, beq_iff_eq, beq_eq_false_iff_ne, bne_eq_false_iff_eq, Int.not_lt, Int.not_le] at hp); (try (exfalso; first | omega | (cases hp; done))));
        refine ex_skip ?_;
        refine ex_region ?_;
        apply exl_is; rfl; rfl; rfl; (apply g_add; rfl; rfl; rfl; exact ⟨by omega, by omega⟩);
        apply exl_is; rfl; rfl; rfl; (apply g_move; rfl);
        refine exl_nil ?_;
        simp only [thenA, blockA, roundA, noGotoA, retA, ↓reduceIte, Nat.reduceEqDiff];
        rotate_left
        (all_goals (repeat (rename BV _ _ => hbv; cases hbv)))
        all_goals (try (exfalso; first | (rename true = false => hx; cases hx; done) | (rename false = true => hx; cases hx; done)))
        refine ⟨j + 1, hj, by omega, St.le_of (by repeat (first | exact trivial | refine ⟨rfl, ?_⟩)) (by repeat (first | exact List.Sublist.refl _ | apply List.Sublist.cons_cons | apply List.Sublist.cons))⟩
      · clear f2
        refine ex_seq ?_;
        refine ex_region ?_;
        apply exl_isB; rfl; rfl; rfl; (apply g_binInt; rfl; rfl; rfl); intro _ _;
        refine exl_nilT ?_;
        refine ex_seq ?_;
        refine ex_cond rfl (fun h => ?_) (fun h => ?_) <;> ((first | (subst h; rename BV _ true => h0; have h := h0.eq; clear h0) | (subst h; rename BV _ false => h0; have h := h0.eq; clear h0) | skip); (have hp := h; try simp only [decide_eq_true_eq, decide_eq_false_iff_not, Bool.not_eq_true', Bool.not_eq_false', bne_iff_ne, beq_iff_eq, beq_eq_false_iff_ne, bne_eq_false_iff_eq, Int.not_lt, Int.not_le] at hp); (try (exfalso; first | omega | (cases hp; done))));
        refine ex_exit ?_;
        refine ex_seq ?_;
        refine ex_region ?_;
        refine exl_map rfl rfl rfl (by exact g_makeMap) ?_; intro _;
        apply exl_is; rfl; rfl; rfl; (apply g_assign; rfl);
        refine exl_nilT ?_;
        refine ex_seq ?_;
        refine ex_seq ?_;
        refine ex_region ?_;
        apply exl_is; rfl; rfl; rfl; (apply g_move; rfl);
        apply exl_is; rfl; rfl; rfl; (apply g_len; rfl; rfl; (exact (List.length_map _).symm));
        apply exl_is; rfl; rfl; rfl; (apply g_move; rfl);
        refine exl_nilT ?_;
        refine ex_block ?_;
        rotate_left
        (all_goals (repeat (rename BV _ _ => hbv; cases hbv)))
        all_goals (try (exfalso; first | (rename true = false => hx; cases hx; done) | (rename false = true => hx; cases hx; done)))
        rename_i bs
        rw [intM_none]
        refine ex_loop (fun (y : Nat) => (⟨[(1, .ptr bp 0), (3, rss D), (5, .mp ba), (9, .int .i64 0), (12, .mp bs), (94, rss D), (95, .int .i64 D.length), (96, .int .i64 (y : Int))], .imap bs (intM (learnAll (fun _ => 0) (D.take y))) y :: .imap ba (intM A) na :: .cells bp (plC p) 25 :: σ, [], Try.f4.ntmps⟩ : St)) (fun y => y ≤ D.length) (fun y => D.length - y) 0 (Nat.zero_le _) (St.le_of (by repeat (first | exact trivial | refine ⟨rfl, ?_⟩)) (by repeat (first | exact List.Sublist.refl _ | apply List.Sublist.cons_cons | apply List.Sublist.cons))) ?_
        intro y hI
        by_cases hy : y < D.length
        · obtain ⟨x, hx⟩ : ∃ x, D[y]? = some x := ⟨_, List.getElem?_eq_getElem hy⟩
          have hx0 := f3 y x hx
          have hstep : learnAll (fun _ => 0) (D.take (y + 1)) = learnK (learnAll (fun _ => 0) (D.take y)) x.lit x.proved := by
            unfold learnAll; rw [List.take_add_one, hx, List.foldl_append]; rfl
          obtain ⟨Ki, hKi⟩ : ∃ Ki, learnAll (fun _ => 0) (D.take y) = Ki := ⟨_, rfl⟩
          rw [hKi] at hx0 hstep ⊢
          have hsome : (intM Ki x.lit).isSome = false := by rw [intM_some, hx0]; rfl
          have hsome2 : (intM (fun z => if z = x.lit then 2 else Ki z) x.lit).isSome = true := by rw [intM_some]; simp
          have e1 : x.proved = true → (fun z => if z = x.lit then (1 : Int) else if z = x.lit then 2 else Ki z) = learnK Ki x.lit x.proved := by
            intro h; funext z; unfold learnK; rw [h]; by_cases hz : z = x.lit <;> simp [hz]
          have e2 : x.proved = false → (fun z => if z = x.lit then (2 : Int) else Ki z) = learnK Ki x.lit x.proved := by
            intro h; funext z; unfold learnK; rw [h]; simp
          clear f3 f4 f5 hac hx0 hKi
          refine ex_seq ?_;
          refine ex_region ?_;
          apply exl_isB; rfl; rfl; rfl; (apply g_binInt; rfl; rfl; rfl); intro _ _;
          refine exl_nilT ?_;
          refine ex_seq ?_;
          refine ex_cond rfl (fun h => ?_) (fun h => ?_) <;> ((first | (subst h; rename BV _ true => h0; have h := h0.eq; clear h0) | (subst h; rename BV _ false => h0; have h := h0.eq; clear h0) | skip); (have hp := h; try simp only [decide_eq_true_eq, decide_eq_false_iff_not, Bool.not_eq_true', Bool.not_eq_false', bne_iff_ne, beq_iff_eq, beq_eq_false_iff_ne, bne_eq_false_iff_eq, Int.not_lt, Int.not_le] at hp); (try (exfalso; first | omega | (cases hp; done))));
          refine ex_skip ?_;
          refine ex_seq ?_;
          refine ex_block ?_;
          refine ex_seq ?_;
          refine ex_region ?_;
          apply exl_is; rfl; rfl; rfl; (apply g_indexDl; rfl; rfl; rfl; (rfl); (exact get_map (by assumption)));
          apply exl_is; rfl; rfl; rfl; (apply g_loadAgg; rfl; decide; rfl; (exact .e rfl rfl));
          refine exl_box rfl rfl rfl (g_alloc rfl) ?_; intro _;
          apply exl_do; rfl; rfl; (apply g_store'; rfl; rfl; rfl; (exact Upd.here); (simp only [setL, List.set_cons_zero, List.set_cons_succ, AV.cells]; rfl); rfl; rfl; rfl; exact Nat.le_of_ble_eq_true rfl);
          refine exl_nilT ?_;
          refine ex_seq ?_;
          refine ex_seq ?_;
          refine ex_region ?_;
          apply exl_is; rfl; rfl; rfl; (apply g_move; rfl);
          apply exl_is; rfl; rfl; rfl; (apply g_fieldAddr; rfl; rfl; rfl);
          apply exl_is; rfl; rfl; rfl; (apply g_load1; rfl; rfl; (exact .p (by ((repeat (first | exact List.Mem.head _ | assumption | refine List.Mem.tail _ ?_)); done)) rfl));
          show EXL _ _ _ ({ dst := _, op := .lookup _ _ _ true, type := _, pos := _, after := _, guard := _ } :: _) _ _; apply exl_is; rfl; rfl; rfl; exact g_lookupOk rfl rfl (by ((repeat (first | exact List.Mem.head _ | assumption | refine List.Mem.tail _ ?_)); done)) rfl rfl (intM_getD _ _) hsome;
          apply exl_is; rfl; rfl; rfl; (apply g_move; rfl);
          apply exl_is; rfl; rfl; rfl; (apply g_extract; rfl; rfl);
          apply exl_is; rfl; rfl; rfl; (apply g_extract; rfl; rfl);
          apply exl_is; rfl; rfl; rfl; (apply g_assign; rfl);
          apply exl_is; rfl; rfl; rfl; (apply g_assign; rfl);
          refine exl_nilT ?_;
          refine ex_seq ?_;
          refine ex_region ?_;
          apply exl_is; rfl; rfl; rfl; (apply g_move; rfl);
          refine exl_nilT ?_;
          refine ex_cond_f rfl (by rfl) ?_;
          refine ex_skip ?_;
          refine ex_seq ?_;
          refine ex_region ?_;
          apply exl_is; rfl; rfl; rfl; (apply g_move; rfl);
          apply exl_is; rfl; rfl; rfl; (apply g_fieldAddr; rfl; rfl; rfl);
          apply exl_is; rfl; rfl; rfl; (apply g_load1; rfl; rfl; (exact .p (by ((repeat (first | exact List.Mem.head _ | assumption | refine List.Mem.tail _ ?_)); done)) rfl));
          apply exl_do; rfl; rfl; (apply g_mapUpdate; rfl; rfl; rfl; rfl; (exact Upd.there (Upd.here)); (exact intM_upd _ _ _ (by decide)));
          refine exl_nilT ?_;
          refine ex_seq ?_;
          refine ex_region ?_;
          apply exl_is; rfl; rfl; rfl; (apply g_fieldAddr; rfl; rfl; rfl);
          apply exl_is; rfl; rfl; rfl; (apply g_load1; rfl; rfl; (exact .p (by ((repeat (first | exact List.Mem.head _ | assumption | refine List.Mem.tail _ ?_)); done)) rfl));
          refine exl_nilT ?_;
          refine ex_cond rfl (fun h => ?_) (fun h => ?_) <;> ((first | (subst h; rename BV _ true => h0; have h := h0.eq; clear h0) | (subst h; rename BV _ false => h0; have h := h0.eq; clear h0) | skip); (have hp := h; try simp only [decide_eq_true_eq, decide_eq_false_iff_not, Bool.not_eq_true', Bool.not_eq_false', bne_iff_ne, beq_iff_eq, beq_eq_false_iff_ne, bne_eq_false_iff_eq, Int.not_lt, Int.not_le] at hp); (try (exfalso; first | omega | (cases hp; done))));
          refine ex_region ?_;
          apply exl_is; rfl; rfl; rfl; (apply g_move; rfl);
          apply exl_is; rfl; rfl; rfl; (apply g_fieldAddr; rfl; rfl; rfl);
          apply exl_is; rfl; rfl; rfl; (apply g_load1; rfl; rfl; (exact .p (by ((repeat (first | exact List.Mem.head _ | assumption | refine List.Mem.tail _ ?_)); done)) rfl));
          apply exl_do; rfl; rfl; (apply g_mapUpdate; rfl; rfl; rfl; rfl; (exact Upd.there (Upd.here)); (exact intM_upd _ _ _ (by decide)));
          refine exl_nil ?_;
          refine ex_region ?_;
          apply exl_is; rfl; rfl; rfl; (apply g_add; rfl; rfl; rfl; exact ⟨by omega, by omega⟩);
          apply exl_is; rfl; rfl; rfl; (apply g_move; rfl);
          refine exl_nil ?_;
          simp only [thenA, blockA, roundA, noGotoA, retA, ↓reduceIte, Nat.reduceEqDiff];
          rotate_left;
          refine ex_skip ?_;
          refine ex_region ?_;
          apply exl_is; rfl; rfl; rfl; (apply g_add; rfl; rfl; rfl; exact ⟨by omega, by omega⟩);
          apply exl_is; rfl; rfl; rfl; (apply g_move; rfl);
          refine exl_nil ?_;
          simp only [thenA, blockA, roundA, noGotoA, retA, ↓reduceIte, Nat.reduceEqDiff];
          rotate_left
          (all_goals (repeat (rename BV _ _ => hbv; cases hbv)))
          all_goals (try (exfalso; first | (rename true = false => hx; cases hx; done) | (rename false = true => hx; cases hx; done)))
          · have hx1 : x.proved = true := by assumption
            rw [hsome, hsome2, e1 hx1, ← hstep]
            refine ⟨y + 1, hy, by omega, St.le_of (by repeat (first | exact trivial | refine ⟨rfl, ?_⟩)) (by repeat (first | exact List.Sublist.refl _ | apply List.Sublist.cons_cons | apply List.Sublist.cons))⟩
          · have hx1 : x.proved = false := by assumption
            rw [hsome, e2 hx1, ← hstep]
            refine ⟨y + 1, hy, by omega, St.le_of (by repeat (first | exact trivial | refine ⟨rfl, ?_⟩)) (by repeat (first | exact List.Sublist.refl _ | apply List.Sublist.cons_cons | apply List.Sublist.cons))⟩
        · rw [List.take_of_length_le (by omega), f4]
          have f7 : ∀ q, A q ≠ 0 → ((intM K q).isSome = false ∧ A q = 3) ∨ ((intM K q).isSome = true ∧ K q = A q ∧ 1 ≤ A q ∧ A q ≤ 2) := fun q h => by
            rw [intM_some]
            rcases f5 q h with ⟨g1, g2⟩ | ⟨g1, g2, g3, g4⟩
            · exact .inl ⟨by rw [g1]; rfl, g2⟩
            · exact .inr ⟨by simp [g1], g2.symm, by omega, by omega⟩
          obtain rfl : y = D.length := by omega
          clear f3 f4 f5
          refine ex_seq ?_;
          refine ex_region ?_;
          apply exl_isB; rfl; rfl; rfl; (apply g_binInt; rfl; rfl; rfl); intro _ _;
          refine exl_nilT ?_;
          refine ex_seq ?_;
          refine ex_cond rfl (fun h => ?_) (fun h => ?_) <;> ((first | (subst h; rename BV _ true => h0; have h := h0.eq; clear h0) | (subst h; rename BV _ false => h0; have h := h0.eq; clear h0) | skip); (have hp := h; try simp only [decide_eq_true_eq, decide_eq_false_iff_not, Bool.not_eq_true', Bool.not_eq_false', bne_iff_ne, beq_iff_eq, beq_eq_false_iff_ne, bne_eq_false_iff_eq, Int.not_lt, Int.not_le] at hp); (try (exfalso; first | omega | (cases hp; done))));
          refine ex_exit ?_;
          refine ex_seq ?_;
          refine ex_seq ?_;
          refine ex_region ?_;
          apply exl_is; rfl; rfl; rfl; (apply g_move; rfl);
          rotate_left
          (all_goals (repeat (rename BV _ _ => hbv; cases hbv)))
          all_goals (try (exfalso; first | (rename true = false => hx; cases hx; done) | (rename false = true => hx; cases hx; done)))
          refine exl_call rfl rfl rfl (g_rangeMap rfl rfl (by intro e; exact Upd.there Upd.here)) ?_
          rintro _ _ ⟨r, es, clock, hE⟩
          refine exl_nilT ?_;
          refine ex_block ?_;
          rotate_left
          (all_goals (repeat (rename BV _ _ => hbv; cases hbv)))
          all_goals (try (exfalso; first | (rename true = false => hx; cases hx; done) | (rename false = true => hx; cases hx; done)))
          refine ex_loop (fun (seen : Array Nat) => (⟨[(1, .ptr bp 0), (3, rss D), (9, .int .i64 0), (12, .mp bs), (118, .ptr r 0)], .obj r (.mapIter (some ba) clock seen clock) :: .imap bs (intM K) D.length :: .obj ba (.map es clock) :: .cells bp (plC p) 25 :: σ, [], Try.f4.ntmps⟩ : St)) (fun seen => True) (fun seen => (leftOf es seen).size) #[] (trivial) (St.le_of (by repeat (first | exact trivial | refine ⟨rfl, ?_⟩)) (by repeat (first | exact List.Sublist.refl _ | apply List.Sublist.cons_cons | apply List.Sublist.cons))) ?_
          intro seen hI
          refine ex_seq ?_;
          refine ex_region ?_;
          show EXL _ _ _ ({ dst := _, op := .next _ _, type := _, pos := _, after := _, guard := _ } :: _) _ _; refine exl_call rfl rfl rfl (g_next hE rfl (by ((repeat (first | exact List.Mem.head _ | assumption | refine List.Mem.tail _ ?_)); done)) (by intro s; exact Upd.here)) ?_; rintro _ _ (hd | ⟨e, k, he, hk, hv, h0, hn, hpp, hm⟩); rotate_left; rcases f7 k h0 with ⟨g1, g2⟩ | ⟨g1, g2, g3, g4⟩;
          apply exl_is; rfl; rfl; rfl; (apply g_extract; rfl; rfl);
          refine exl_nilT ?_;
          refine ex_seq ?_;
          refine ex_cond_t rfl (by rfl) ?_;
          refine ex_skip ?_;
          refine ex_block ?_;
          refine ex_seq ?_;
          refine ex_region ?_;
          show EXL _ _ _ ({ dst := _, op := .entry _, type := _, pos := _, after := _, guard := _ } :: _) _ _; apply exl_is; rfl; rfl; rfl; exact g_entry hE he hk hv rfl (by ((repeat (first | exact List.Mem.head _ | assumption | refine List.Mem.tail _ ?_)); done)) (by ((repeat (first | exact List.Mem.head _ | assumption | refine List.Mem.tail _ ?_)); done));
          apply exl_is; rfl; rfl; rfl; (apply g_extract; rfl; rfl);
          apply exl_is; rfl; rfl; rfl; (apply g_extract; rfl; rfl);
          apply exl_is; rfl; rfl; rfl; (apply g_assign; rfl);
          apply exl_is; rfl; rfl; rfl; (apply g_assign; rfl);
          refine exl_nilT ?_;
          refine ex_seq ?_;
          refine ex_region ?_;
          apply exl_is; rfl; rfl; rfl; (apply g_move; rfl);
          apply exl_is; rfl; rfl; rfl; (apply g_move; rfl);
          show EXL _ _ _ ({ dst := _, op := .lookup _ _ _ true, type := _, pos := _, after := _, guard := _ } :: _) _ _; apply exl_is; rfl; rfl; rfl; exact g_lookupOk rfl rfl (by ((repeat (first | exact List.Mem.head _ | assumption | refine List.Mem.tail _ ?_)); done)) rfl rfl (intM_getD _ _) g1;
          apply exl_is; rfl; rfl; rfl; (apply g_move; rfl);
          apply exl_is; rfl; rfl; rfl; (apply g_extract; rfl; rfl);
          apply exl_is; rfl; rfl; rfl; (apply g_extract; rfl; rfl);
          apply exl_is; rfl; rfl; rfl; (apply g_assign; rfl);
          apply exl_is; rfl; rfl; rfl; (apply g_assign; rfl);
          refine exl_nilT ?_;
          refine ex_seq ?_;
          refine ex_region ?_;
          apply exl_is; rfl; rfl; rfl; (apply g_move; rfl);
          apply exl_is; rfl; rfl; rfl; (apply g_move; rfl);
          apply exl_isB; rfl; rfl; rfl; (apply g_binInt; rfl; rfl; rfl); intro _ _;
          apply exl_isB; rfl; rfl; rfl; (apply g_neqBool; rfl; rfl; rfl); intro _ _;
          apply exl_is; rfl; rfl; rfl; (apply g_move; rfl);
          refine exl_caseL rfl (fun h => ?_) (fun h => ?_) <;> ((first | (subst h; rename BV _ true => h0; have h := h0.eq; clear h0) | (subst h; rename BV _ false => h0; have h := h0.eq; clear h0) | skip); (have hp := h; try simp only [decide_eq_true_eq, decide_eq_false_iff_not, Bool.not_eq_true', Bool.not_eq_false', bne_iff_ne, beq_iff_eq, beq_eq_false_iff_ne, bne_eq_false_iff_eq, Int.not_lt, Int.not_le] at hp); (try (exfalso; first | omega | (cases hp; done))));
          refine exl_skipL rfl (by rfl) rfl rfl ?_;
          refine exl_skipL rfl (by rfl) rfl rfl ?_;
          refine exl_skipR rfl rfl rfl ?_;
          refine exl_skipR rfl rfl rfl ?_;
          refine exl_skipR rfl rfl rfl ?_;
          refine exl_skipL rfl (by rfl) rfl rfl ?_;
          apply exl_is; rfl; rfl; rfl; (apply g_pick_t; rfl; (rfl); rfl);
          apply exl_is; rfl; rfl; rfl; (apply g_move; rfl);
          refine exl_skipL rfl (by rfl) rfl rfl ?_;
          refine exl_skipL rfl (by rfl) rfl rfl ?_;
          apply exl_is; rfl; rfl; rfl; (apply g_pick_t; rfl; (rfl); rfl);
          apply exl_is; rfl; rfl; rfl; (apply g_move; rfl);
          refine exl_skipL rfl (by rfl) rfl rfl ?_;
          refine exl_skipL rfl (by rfl) rfl rfl ?_;
          apply exl_is; rfl; rfl; rfl; (apply g_pick_t; rfl; (rfl); rfl);
          refine exl_nilT ?_;
          refine ex_cond_t rfl (by rfl) ?_;
          refine ex_seq ?_;
          refine ex_region ?_;
          apply exl_is; rfl; rfl; rfl; (apply g_assign; rfl);
          refine exl_nilT ?_;
          refine ex_ret ?_;
          simp only [thenA, blockA, roundA, noGotoA, retA, ↓reduceIte, Nat.reduceEqDiff];
          rotate_left;
          apply exl_isW; rfl; (rfl); rfl; rfl; (apply g_move; rfl);
          apply exl_isW; rfl; (rfl); rfl; rfl; (apply g_move; rfl);
          refine exl_skipL rfl (by rfl) rfl rfl ?_;
          refine exl_skipL rfl (by rfl) rfl rfl ?_;
          refine exl_skipL rfl (by rfl) rfl rfl ?_;
          apply exl_isW; rfl; (rfl); rfl; rfl; (apply g_pick_f; rfl; (rfl); rfl);
          apply exl_is; rfl; rfl; rfl; (apply g_pick_f; rfl; (rfl); rfl);
          apply exl_is; rfl; rfl; rfl; (apply g_move; rfl);
          apply exl_isW; rfl; (rfl); rfl; rfl; (apply g_move; rfl);
          apply exl_isBW; rfl; (rfl); rfl; rfl; (apply g_binInt; rfl; rfl; rfl); intro _ _;
          apply exl_is; rfl; rfl; rfl; (apply g_pick_f; rfl; (rfl); rfl);
          apply exl_is; rfl; rfl; rfl; (apply g_move; rfl);
          refine exl_caseL rfl (fun h => ?_) (fun h => ?_) <;> ((first | (subst h; rename BV _ true => h0; have h := h0.eq; clear h0) | (subst h; rename BV _ false => h0; have h := h0.eq; clear h0) | skip); (have hp := h; try simp only [decide_eq_true_eq, decide_eq_false_iff_not, Bool.not_eq_true', Bool.not_eq_false', bne_iff_ne, beq_iff_eq, beq_eq_false_iff_ne, bne_eq_false_iff_eq, Int.not_lt, Int.not_le] at hp); (try (exfalso; first | omega | (cases hp; done))));
          apply exl_isW; rfl; (rfl); rfl; rfl; (apply g_move; rfl);
          apply exl_isBW; rfl; (rfl); rfl; rfl; (apply g_binInt; rfl; rfl; rfl); intro _ _;
          apply exl_is; rfl; rfl; rfl; (apply g_pick_f; rfl; (rfl); rfl);
          refine exl_nilT ?_;
          refine ex_cond rfl (fun h => ?_) (fun h => ?_) <;> ((first | (subst h; rename BV _ true => h0; have h := h0.eq; clear h0) | (subst h; rename BV _ false => h0; have h := h0.eq; clear h0) | skip); (have hp := h; try simp only [decide_eq_true_eq, decide_eq_false_iff_not, Bool.not_eq_true', Bool.not_eq_false', bne_iff_ne, beq_iff_eq, beq_eq_false_iff_ne, bne_eq_false_iff_eq, Int.not_lt, Int.not_le] at hp); (try (exfalso; first | omega | (cases hp; done))));
          refine ex_skip ?_;
          simp only [thenA, blockA, roundA, noGotoA, retA, ↓reduceIte, Nat.reduceEqDiff];
          rotate_left;
          apply exl_is; rfl; rfl; rfl; (apply g_extract; rfl; rfl);
          refine exl_nilT ?_;
          refine ex_seq ?_;
          refine ex_cond_t rfl (by rfl) ?_;
          refine ex_skip ?_;
          refine ex_block ?_;
          refine ex_seq ?_;
          refine ex_region ?_;
          show EXL _ _ _ ({ dst := _, op := .entry _, type := _, pos := _, after := _, guard := _ } :: _) _ _; apply exl_is; rfl; rfl; rfl; exact g_entry hE he hk hv rfl (by ((repeat (first | exact List.Mem.head _ | assumption | refine List.Mem.tail _ ?_)); done)) (by ((repeat (first | exact List.Mem.head _ | assumption | refine List.Mem.tail _ ?_)); done));
          apply exl_is; rfl; rfl; rfl; (apply g_extract; rfl; rfl);
          apply exl_is; rfl; rfl; rfl; (apply g_extract; rfl; rfl);
          apply exl_is; rfl; rfl; rfl; (apply g_assign; rfl);
          apply exl_is; rfl; rfl; rfl; (apply g_assign; rfl);
          refine exl_nilT ?_;
          refine ex_seq ?_;
          refine ex_region ?_;
          apply exl_is; rfl; rfl; rfl; (apply g_move; rfl);
          apply exl_is; rfl; rfl; rfl; (apply g_move; rfl);
          show EXL _ _ _ ({ dst := _, op := .lookup _ _ _ true, type := _, pos := _, after := _, guard := _ } :: _) _ _; apply exl_is; rfl; rfl; rfl; exact g_lookupOk rfl rfl (by ((repeat (first | exact List.Mem.head _ | assumption | refine List.Mem.tail _ ?_)); done)) rfl rfl (intM_getD _ _) g1;
          apply exl_is; rfl; rfl; rfl; (apply g_move; rfl);
          apply exl_is; rfl; rfl; rfl; (apply g_extract; rfl; rfl);
          apply exl_is; rfl; rfl; rfl; (apply g_extract; rfl; rfl);
          apply exl_is; rfl; rfl; rfl; (apply g_assign; rfl);
          apply exl_is; rfl; rfl; rfl; (apply g_assign; rfl);
          refine exl_nilT ?_;
          refine ex_seq ?_;
          refine ex_region ?_;
          apply exl_is; rfl; rfl; rfl; (apply g_move; rfl);
          apply exl_is; rfl; rfl; rfl; (apply g_move; rfl);
          apply exl_isB; rfl; rfl; rfl; (apply g_binInt; rfl; rfl; rfl); intro _ _;
          apply exl_isB; rfl; rfl; rfl; (apply g_neqBool; rfl; rfl; rfl); intro _ _;
          apply exl_is; rfl; rfl; rfl; (apply g_move; rfl);
          refine exl_caseL rfl (fun h => ?_) (fun h => ?_) <;> ((first | (subst h; rename BV _ true => h0; have h := h0.eq; clear h0) | (subst h; rename BV _ false => h0; have h := h0.eq; clear h0) | skip); (have hp := h; try simp only [decide_eq_true_eq, decide_eq_false_iff_not, Bool.not_eq_true', Bool.not_eq_false', bne_iff_ne, beq_iff_eq, beq_eq_false_iff_ne, bne_eq_false_iff_eq, Int.not_lt, Int.not_le] at hp); (try (exfalso; first | omega | (cases hp; done))));
          refine exl_skipL rfl (by rfl) rfl rfl ?_;
          refine exl_skipL rfl (by rfl) rfl rfl ?_;
          refine exl_skipR rfl rfl rfl ?_;
          refine exl_skipR rfl rfl rfl ?_;
          refine exl_skipR rfl rfl rfl ?_;
          refine exl_skipL rfl (by rfl) rfl rfl ?_;
          apply exl_is; rfl; rfl; rfl; (apply g_pick_t; rfl; (rfl); rfl);
          apply exl_is; rfl; rfl; rfl; (apply g_move; rfl);
          refine exl_skipL rfl (by rfl) rfl rfl ?_;
          refine exl_skipL rfl (by rfl) rfl rfl ?_;
          apply exl_is; rfl; rfl; rfl; (apply g_pick_t; rfl; (rfl); rfl);
          apply exl_is; rfl; rfl; rfl; (apply g_move; rfl);
          refine exl_skipL rfl (by rfl) rfl rfl ?_;
          refine exl_skipL rfl (by rfl) rfl rfl ?_;
          apply exl_is; rfl; rfl; rfl; (apply g_pick_t; rfl; (rfl); rfl);
          refine exl_nilT ?_;
          refine ex_cond_t rfl (by rfl) ?_;
          refine ex_seq ?_;
          refine ex_region ?_;
          apply exl_is; rfl; rfl; rfl; (apply g_assign; rfl);
          refine exl_nilT ?_;
          refine ex_ret ?_;
          simp only [thenA, blockA, roundA, noGotoA, retA, ↓reduceIte, Nat.reduceEqDiff];
          rotate_left;
          apply exl_isW; rfl; (rfl); rfl; rfl; (apply g_move; rfl);
          apply exl_isW; rfl; (rfl); rfl; rfl; (apply g_move; rfl);
          apply exl_isW; rfl; (rfl); rfl; rfl; (apply g_move; rfl);
          apply exl_isW; rfl; (rfl); rfl; rfl; (apply g_move; rfl);
          apply exl_isBW; rfl; (rfl); rfl; rfl; (apply g_binInt; rfl; rfl; rfl); intro _ _;
          apply exl_isW; rfl; (rfl); rfl; rfl; (apply g_pick_t; rfl; (rfl); rfl);
          apply exl_is; rfl; rfl; rfl; (apply g_pick_f; rfl; (rfl); rfl);
          apply exl_is; rfl; rfl; rfl; (apply g_move; rfl);
          refine exl_caseL rfl (fun h => ?_) (fun h => ?_) <;> ((first | (subst h; rename BV _ true => h0; have h := h0.eq; clear h0) | (subst h; rename BV _ false => h0; have h := h0.eq; clear h0) | skip); (have hp := h; try simp only [decide_eq_true_eq, decide_eq_false_iff_not, Bool.not_eq_true', Bool.not_eq_false', bne_iff_ne, beq_iff_eq, beq_eq_false_iff_ne, bne_eq_false_iff_eq, Int.not_lt, Int.not_le] at hp); (try (exfalso; first | omega | (cases hp; done))));
          apply exl_isW; rfl; (rfl); rfl; rfl; (apply g_move; rfl);
          apply exl_isBW; rfl; (rfl); rfl; rfl; (apply g_binInt; rfl; rfl; rfl); intro _ _;
          apply exl_is; rfl; rfl; rfl; (apply g_pick_f; rfl; (rfl); rfl);
          apply exl_is; rfl; rfl; rfl; (apply g_move; rfl);
          refine exl_caseL rfl (fun h => ?_) (fun h => ?_) <;> ((first | (subst h; rename BV _ true => h0; have h := h0.eq; clear h0) | (subst h; rename BV _ false => h0; have h := h0.eq; clear h0) | skip); (have hp := h; try simp only [decide_eq_true_eq, decide_eq_false_iff_not, Bool.not_eq_true', Bool.not_eq_false', bne_iff_ne, beq_iff_eq, beq_eq_false_iff_ne, bne_eq_false_iff_eq, Int.not_lt, Int.not_le] at hp); (try (exfalso; first | omega | (cases hp; done))));
          apply exl_isW; rfl; (rfl); rfl; rfl; (apply g_move; rfl);
          apply exl_isBW; rfl; (rfl); rfl; rfl; (apply g_binInt; rfl; rfl; rfl); intro _ _;
          apply exl_is; rfl; rfl; rfl; (apply g_pick_f; rfl; (rfl); rfl);
          refine exl_nilT ?_;
          refine ex_cond rfl (fun h => ?_) (fun h => ?_) <;> ((first | (subst h; rename BV _ true => h0; have h := h0.eq; clear h0) | (subst h; rename BV _ false => h0; have h := h0.eq; clear h0) | skip); (have hp := h; try simp only [decide_eq_true_eq, decide_eq_false_iff_not, Bool.not_eq_true', Bool.not_eq_false', bne_iff_ne, beq_iff_eq, beq_eq_false_iff_ne, bne_eq_false_iff_eq, Int.not_lt, Int.not_le] at hp); (try (exfalso; first | omega | (cases hp; done))));
          refine ex_skip ?_;
          simp only [thenA, blockA, roundA, noGotoA, retA, ↓reduceIte, Nat.reduceEqDiff];
          rotate_left;
          apply exl_is; rfl; rfl; rfl; (apply g_extract; rfl; rfl);
          refine exl_nilT ?_;
          refine ex_seq ?_;
          refine ex_cond_f rfl (by rfl) ?_;
          refine ex_exit ?_;
          refine ex_seq ?_;
          refine ex_region ?_;
          apply exl_is; rfl; rfl; rfl; (apply g_loadAgg; rfl; decide; rfl; (exact .p (by ((repeat (first | exact List.Mem.head _ | assumption | refine List.Mem.tail _ ?_)); done)) rfl rfl));
          apply exl_is; rfl; rfl; rfl; (apply g_move; rfl);
          rotate_left
          (all_goals (repeat (rename BV _ _ => hbv; cases hbv)))
          all_goals (try (exfalso; first | (rename true = false => hx; cases hx; done) | (rename false = true => hx; cases hx; done)))
          · exfalso
            have hh : (false != (A k != 3)) = true := by assumption
            rw [g2] at hh
            exact absurd hh (by decide)
          · refine ⟨seen.push e.born, trivial, hm, St.le_of (by repeat (first | exact trivial | refine ⟨rfl, ?_⟩)) (by repeat (first | exact List.Sublist.refl _ | apply List.Sublist.cons_cons | apply List.Sublist.cons))⟩
          · exfalso
            have hh : (true != (A k != 3)) = true := by assumption
            have h3 : (A k != 3) = true := by simp; omega
            rw [h3] at hh
            exact absurd hh (by decide)
          · refine ⟨seen.push e.born, trivial, hm, St.le_of (by repeat (first | exact trivial | refine ⟨rfl, ?_⟩)) (by repeat (first | exact List.Sublist.refl _ | apply List.Sublist.cons_cons | apply List.Sublist.cons))⟩
          · clear f7
            apply exl_is; rfl; rfl; rfl; (exact g_call rfl rfl (enters_b (by kernel_rfl)) (hac _));
            apply exl_is; rfl; rfl; rfl; (apply g_move; rfl);
            apply exl_is; rfl; rfl; rfl; (apply g_extract; rfl; rfl);
            apply exl_is; rfl; rfl; rfl; (apply g_extract; rfl; rfl);
            apply exl_is; rfl; rfl; rfl; (apply g_assign; rfl);
            apply exl_is; rfl; rfl; rfl; (apply g_assign; rfl);
            refine exl_nilT ?_;
            refine ex_seq ?_;
            refine ex_region ?_;
            apply exl_is; rfl; rfl; rfl; (apply g_move; rfl);
            apply exl_isB; rfl; rfl; rfl; (apply g_binInt; rfl; rfl; rfl); intro _ _;
            apply exl_is; rfl; rfl; rfl; (apply g_move; rfl);
            refine exl_caseL rfl (fun h => ?_) (fun h => ?_) <;> ((first | (subst h; rename BV _ true => h0; have h := h0.eq; clear h0) | (subst h; rename BV _ false => h0; have h := h0.eq; clear h0) | skip); (have hp := h; try simp only [decide_eq_true_eq, decide_eq_false_iff_not, Bool.not_eq_true', Bool.not_eq_false', bne_iff_ne, beq_iff_eq, beq_eq_false_iff_ne, bne_eq_false_iff_eq, Int.not_lt, Int.not_le] at hp); (try (exfalso; first | omega | (cases hp; done))));
            apply exl_isW; rfl; (rfl); rfl; rfl; (apply g_move; rfl);
            apply exl_isBW; rfl; (rfl); rfl; rfl; (apply g_binInt; rfl; rfl; rfl); intro _ _;
            apply exl_is; rfl; rfl; rfl; (apply g_pick_t; rfl; (rfl); rfl);
            apply exl_is; rfl; rfl; rfl; (apply g_move; rfl);
            refine exl_caseL rfl (fun h => ?_) (fun h => ?_) <;> ((first | (subst h; rename BV _ true => h0; have h := h0.eq; clear h0) | (subst h; rename BV _ false => h0; have h := h0.eq; clear h0) | skip); (have hp := h; try simp only [decide_eq_true_eq, decide_eq_false_iff_not, Bool.not_eq_true', Bool.not_eq_false', bne_iff_ne, beq_iff_eq, beq_eq_false_iff_ne, bne_eq_false_iff_eq, Int.not_lt, Int.not_le] at hp); (try (exfalso; first | omega | (cases hp; done))));
            apply exl_isW; rfl; (rfl); rfl; rfl; (apply g_move; rfl);
            apply exl_is; rfl; rfl; rfl; (apply g_pick_t; rfl; (rfl); rfl);
            apply exl_is; rfl; rfl; rfl; (apply g_move; rfl);
            apply exl_isW; rfl; (rfl); rfl; rfl; (apply g_move; rfl);
            apply exl_isW; rfl; (rfl); rfl; rfl; (apply g_lenMap; rfl; rfl; exact (by ((repeat (first | exact List.Mem.head _ | assumption | refine List.Mem.tail _ ?_)); done)));
            apply exl_isW; rfl; (rfl); rfl; rfl; (apply g_move; rfl);
            apply exl_isW; rfl; (rfl); rfl; rfl; (apply g_len; rfl; rfl; (exact (List.length_map _).symm));
            apply exl_isBW; rfl; (rfl); rfl; rfl; (apply g_binInt; rfl; rfl; rfl); intro _ _;
            apply exl_is; rfl; rfl; rfl; (apply g_pick_t; rfl; (rfl); rfl);
            apply exl_is; rfl; rfl; rfl; (apply g_assign; rfl);
            refine exl_nilT ?_;
            refine ex_ret ?_;
            simp only [thenA, blockA, roundA, noGotoA, retA, ↓reduceIte, Nat.reduceEqDiff];
            rotate_left
            (all_goals (repeat (rename BV _ _ => hbv; cases hbv)))
            all_goals (try (exfalso; first | (rename true = false => hx; cases hx; done) | (rename false = true => hx; cases hx; done)))
            refine ret_is .nil (.cons (.ofTmp rfl) .nil) (by repeat (first | exact List.Sublist.refl _ | apply List.Sublist.cons_cons | apply List.Sublist.cons)) (bool_eq ?_)
            simp
  · have han := answers_err p hc
    have hcc := check_c p
    obtain ⟨e, he⟩ : ∃ e, checkB lits p = e := ⟨_, rfl⟩
    rw [show deriveB lits p = ([], e) by unfold deriveB; simp [he, he ▸ hc]] at hd
    rw [he] at hc hcc
    dsimp only at hd
    refine ex_seq ?_;
    refine ex_region ?_;
    refine exl_box rfl rfl rfl (g_box rfl rfl) ?_; intro _;
    apply exl_is; rfl; rfl; rfl; (apply g_assign; rfl);
    refine exl_nilT ?_;
    refine ex_seq ?_;
    refine ex_seq ?_;
    refine ex_region ?_;
    apply exl_isB; rfl; rfl; rfl; (exact g_call rfl rfl (enters_b (by kernel_rfl)) (sane_c _)); intro _ _;
    apply exl_isB; rfl; rfl; rfl; (apply g_not; rfl); intro _ _;
    refine exl_nilT ?_;
    refine ex_cond rfl (fun h => ?_) (fun h => ?_) <;> ((first | (subst h; rename BV _ true => h0; have h := h0.eq; clear h0) | (subst h; rename BV _ false => h0; have h := h0.eq; clear h0) | skip); (have hp := h; try simp only [decide_eq_true_eq, decide_eq_false_iff_not, Bool.not_eq_true', Bool.not_eq_false', bne_iff_ne, beq_iff_eq, beq_eq_false_iff_ne, bne_eq_false_iff_eq, Int.not_lt, Int.not_le] at hp); (try (exfalso; first | omega | (cases hp; done))));
    refine ex_seq ?_;
    refine ex_region ?_;
    apply exl_is; rfl; rfl; rfl; (apply g_assign; rfl);
    refine exl_nilT ?_;
    refine ex_ret ?_;
    simp only [thenA, blockA, roundA, noGotoA, retA, ↓reduceIte, Nat.reduceEqDiff];
    rotate_left;
    refine ex_skip ?_;
    refine ex_seq ?_;
    refine ex_seq ?_;
    refine ex_region ?_;
    apply exl_is; rfl; rfl; rfl; (apply g_loadAgg; rfl; decide; rfl; (exact .p (by ((repeat (first | exact List.Mem.head _ | assumption | refine List.Mem.tail _ ?_)); done)) rfl rfl));
    apply exl_isB; rfl; rfl; rfl; (exact g_call rfl rfl (enters_b (by kernel_rfl)) (few_c p _)); intro _ _;
    apply exl_isB; rfl; rfl; rfl; (apply g_not; rfl); intro _ _;
    refine exl_nilT ?_;
    refine ex_cond rfl (fun h => ?_) (fun h => ?_) <;> ((first | (subst h; rename BV _ true => h0; have h := h0.eq; clear h0) | (subst h; rename BV _ false => h0; have h := h0.eq; clear h0) | skip); (have hp := h; try simp only [decide_eq_true_eq, decide_eq_false_iff_not, Bool.not_eq_true', Bool.not_eq_false', bne_iff_ne, beq_iff_eq, beq_eq_false_iff_ne, bne_eq_false_iff_eq, Int.not_lt, Int.not_le] at hp); (try (exfalso; first | omega | (cases hp; done))));
    refine ex_seq ?_;
    refine ex_region ?_;
    apply exl_is; rfl; rfl; rfl; (apply g_assign; rfl);
    refine exl_nilT ?_;
    refine ex_ret ?_;
    simp only [thenA, blockA, roundA, noGotoA, retA, ↓reduceIte, Nat.reduceEqDiff];
    rotate_left;
    refine ex_skip ?_;
    refine ex_seq ?_;
    refine ex_region ?_;
    apply exl_is; rfl; rfl; rfl; (apply g_loadAgg; rfl; decide; rfl; (exact .p (by ((repeat (first | exact List.Mem.head _ | assumption | refine List.Mem.tail _ ?_)); done)) rfl rfl));
    apply exl_is; rfl; rfl; rfl; (exact g_call rfl rfl (enters_b (by kernel_rfl)) (hd _));
    apply exl_is; rfl; rfl; rfl; (apply g_move; rfl);
    apply exl_is; rfl; rfl; rfl; (apply g_extract; rfl; rfl);
    apply exl_is; rfl; rfl; rfl; (apply g_extract; rfl; rfl);
    apply exl_is; rfl; rfl; rfl; (apply g_assign; rfl);
    apply exl_is; rfl; rfl; rfl; (apply g_assign; rfl);
    refine exl_nilT ?_;
    refine ex_seq ?_;
    refine ex_region ?_;
    apply exl_is; rfl; rfl; rfl; (apply g_loadAgg; rfl; decide; rfl; (exact .p (by ((repeat (first | exact List.Mem.head _ | assumption | refine List.Mem.tail _ ?_)); done)) rfl rfl));
    apply exl_is; rfl; rfl; rfl; (exact g_call rfl rfl (enters_b (by kernel_rfl)) (han _));
    apply exl_is; rfl; rfl; rfl; (apply g_move; rfl);
    apply exl_is; rfl; rfl; rfl; (apply g_extract; rfl; rfl);
    apply exl_is; rfl; rfl; rfl; (apply g_extract; rfl; rfl);
    apply exl_is; rfl; rfl; rfl; (apply g_assign; rfl);
    apply exl_is; rfl; rfl; rfl; (apply g_assign; rfl);
    refine exl_nilT ?_;
    refine ex_seq ?_;
    refine ex_seq ?_;
    refine ex_region ?_;
    apply exl_is; rfl; rfl; rfl; (apply g_move; rfl);
    apply exl_isB; rfl; rfl; rfl; (apply g_binInt; rfl; rfl; rfl); intro _ _;
    refine exl_nilT ?_;
    refine ex_cond rfl (fun h => ?_) (fun h => ?_) <;> ((first | (subst h; rename BV _ true => h0; have h := h0.eq; clear h0) | (subst h; rename BV _ false => h0; have h := h0.eq; clear h0) | skip); (have hp := h; try simp only [decide_eq_true_eq, decide_eq_false_iff_not, Bool.not_eq_true', Bool.not_eq_false', bne_iff_ne, beq_iff_eq, beq_eq_false_iff_ne, bne_eq_false_iff_eq, Int.not_lt, Int.not_le] at hp); (try (exfalso; first | omega | (cases hp; done))));
    refine ex_seq ?_;
    refine ex_region ?_;
    apply exl_is; rfl; rfl; rfl; (apply g_move; rfl);
    apply exl_isB; rfl; rfl; rfl; (apply g_not; rfl); intro _ _;
    apply exl_is; rfl; rfl; rfl; (apply g_move; rfl);
    refine exl_caseL rfl (fun h => ?_) (fun h => ?_) <;> ((first | (subst h; rename BV _ true => h0; have h := h0.eq; clear h0) | (subst h; rename BV _ false => h0; have h := h0.eq; clear h0) | skip); (have hp := h; try simp only [decide_eq_true_eq, decide_eq_false_iff_not, Bool.not_eq_true', Bool.not_eq_false', bne_iff_ne, beq_iff_eq, beq_eq_false_iff_ne, bne_eq_false_iff_eq, Int.not_lt, Int.not_le] at hp); (try (exfalso; first | omega | (cases hp; done))));
    apply exl_isW; rfl; (rfl); rfl; rfl; (apply g_move; rfl);
    apply exl_isW; rfl; (rfl); rfl; rfl; (apply g_len; rfl; rfl; (exact (List.length_map _).symm));
    apply exl_isBW; rfl; (rfl); rfl; rfl; (apply g_binInt; rfl; rfl; rfl); intro _ _;
    apply exl_is; rfl; rfl; rfl; (apply g_pick_t; rfl; (rfl); rfl);
    apply exl_is; rfl; rfl; rfl; (apply g_move; rfl);
    refine exl_caseL rfl (fun h => ?_) (fun h => ?_) <;> ((first | (subst h; rename BV _ true => h0; have h := h0.eq; clear h0) | (subst h; rename BV _ false => h0; have h := h0.eq; clear h0) | skip); (have hp := h; try simp only [decide_eq_true_eq, decide_eq_false_iff_not, Bool.not_eq_true', Bool.not_eq_false', bne_iff_ne, beq_iff_eq, beq_eq_false_iff_ne, bne_eq_false_iff_eq, Int.not_lt, Int.not_le] at hp); (try (exfalso; first | omega | (cases hp; done))));
    apply exl_isW; rfl; (rfl); rfl; rfl; (apply g_loadAgg; rfl; decide; rfl; (exact .p (by ((repeat (first | exact List.Mem.head _ | assumption | refine List.Mem.tail _ ?_)); done)) rfl rfl));
    apply exl_isW; rfl; (rfl); rfl; rfl; (exact g_call rfl rfl (enters_b (by kernel_rfl)) (hcc _));
    apply exl_isW; rfl; (rfl); rfl; rfl; (apply g_move; rfl);
    apply exl_isBW; rfl; (rfl); rfl; rfl; (apply g_binInt; rfl; rfl; rfl); intro _ _;
    apply exl_is; rfl; rfl; rfl; (apply g_pick_t; rfl; (rfl); rfl);
    apply exl_is; rfl; rfl; rfl; (apply g_assign; rfl);
    refine exl_nilT ?_;
    refine ex_ret ?_;
    simp only [thenA, blockA, roundA, noGotoA, retA, ↓reduceIte, Nat.reduceEqDiff];
    rotate_left;
    refine exl_skipL rfl (by rfl) rfl rfl ?_;
    refine exl_skipL rfl (by rfl) rfl rfl ?_;
    refine exl_skipL rfl (by rfl) rfl rfl ?_;
    refine exl_skipL rfl (by rfl) rfl rfl ?_;
    apply exl_is; rfl; rfl; rfl; (apply g_pick_f; rfl; (rfl); rfl);
    apply exl_is; rfl; rfl; rfl; (apply g_assign; rfl);
    refine exl_nilT ?_;
    refine ex_ret ?_;
    simp only [thenA, blockA, roundA, noGotoA, retA, ↓reduceIte, Nat.reduceEqDiff];
    rotate_left
    (all_goals (repeat (rename BV _ _ => hbv; cases hbv)))
    all_goals (try (exfalso; first | (rename true = false => hx; cases hx; done) | (rename false = true => hx; cases hx; done)))
    · refine ret_is .nil (.cons (.ofTmp rfl) .nil) (by repeat (first | exact List.Sublist.refl _ | apply List.Sublist.cons_cons | apply List.Sublist.cons)) (bool_eq ?_)
      rfl
    · refine ret_is .nil (.cons (.ofTmp rfl) .nil) (by repeat (first | exact List.Sublist.refl _ | apply List.Sublist.cons_cons | apply List.Sublist.cons)) (bool_eq ?_)
      simp
end Go.Proofs.Ythdgmimhaidmnaa
