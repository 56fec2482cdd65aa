/- Check, Count, Nth, Has: both packages. -/
import Derived.Test.YtccjolaolmpifaaDoorDa
namespace Go.Proofs.YtccjolaolmpifaaDoor
set_option linter.unusedSimpArgs false
set_option linter.unusedVariables false
def checkL (l : List Sp) : Int := if (256 : Int) < l.length then 2 else if chkFrom (-2) l then 0 else 140
def lastOf (l : List Sp) (k : Nat) : Int := if k = 0 then -2 else (l[k - 1]?.getD default).t
theorem sp_drop {l : List Sp} {k : Nat} {c : Sp} (h : l[k]? = some c) : l.drop k = c :: l.drop (k + 1) := by
  obtain ⟨h1, h2⟩ := List.getElem?_eq_some_iff.1 h
  rw [List.drop_eq_getElem_cons h1, h2]
theorem chkB_cons (last : Int) (x : Sp) (r : List Sp) : chkFrom last (x :: r) = (dayB x.f && dayB x.t && decide (x.f ≤ x.t) && decide (last + 2 ≤ x.f) && chkFrom x.t r) := rfl
theorem check_over {l : List Sp} (h : 256 < l.length) : checkL l = 2 := by unfold checkL; rw [if_pos (by omega)]
theorem check_in {l : List Sp} (h : l.length ≤ 256) : checkL l = if chkFrom (-2) l then 0 else 140 := by unfold checkL; rw [if_neg (by omega)]
theorem check_zero {l : List Sp} (h : checkL l = 0) : l.length ≤ 256 ∧ chkFrom (-2) l = true := by
  unfold checkL at h
  split at h
  · cases h
  · split at h
    · rename_i h1 h2; exact ⟨by omega, h2⟩
    · cases h
set_option maxHeartbeats 2000000 in
set_option maxRecDepth 10000 in
theorem check_c (l : List Sp) (σ : List Ent) : SCall Tryd.prog 21 [sps l] σ (Is (.int .i64 (checkL l)) σ) := by
  refine scall_of Tryd.func21 rfl (by simp) ?_
  refine ex_len (t := 0) rfl ((List.length_map _).symm) (fun hlen => ?_)
  refine ex_seq ?_;
  refine ex_region ?_;
  apply exl_is; rfl; rfl; rfl; (apply g_assign; rfl);
  refine exl_nilT ?_;
  refine ex_seq ?_;
  refine ex_seq ?_;
  refine ex_region ?_;
  apply exl_is; rfl; rfl; rfl; (apply g_move; rfl);
  apply exl_is; rfl; rfl; rfl; (apply g_len; rfl; rfl; (exact (List.length_map _).symm));
  apply exl_isB; rfl; rfl; rfl; (apply g_binInt; rfl; rfl; rfl); intro _ _;
  refine exl_nilT ?_;
  refine ex_cond rfl (fun h => ?_) (fun h => ?_) <;> ((first | (subst h; rename BV _ true => h0; have h := h0.eq; clear h0) | (subst h; rename BV _ false => h0; have h := h0.eq; clear h0) | skip); (have hp := h; try simp only [decide_eq_true_eq, decide_eq_false_iff_not, Bool.not_eq_true', Bool.not_eq_false', bne_iff_ne, beq_iff_eq, beq_eq_false_iff_ne, bne_eq_false_iff_eq, Int.not_lt, Int.not_le] at hp); (try (exfalso; first | omega | (cases hp; done))));
  refine ex_seq ?_;
  refine ex_region ?_;
  apply exl_is; rfl; rfl; rfl; (apply g_assign; rfl);
  refine exl_nilT ?_;
  refine ex_ret ?_;
  simp only [thenA, blockA, roundA, noGotoA, retA, ↓reduceIte, Nat.reduceEqDiff];
  rotate_left;
  refine ex_skip ?_;
  refine ex_seq ?_;
  refine ex_region ?_;
  apply exl_is; rfl; rfl; rfl; (apply g_assign; rfl);
  refine exl_nilT ?_;
  refine ex_seq ?_;
  refine ex_seq ?_;
  refine ex_region ?_;
  apply exl_is; rfl; rfl; rfl; (apply g_move; rfl);
  apply exl_is; rfl; rfl; rfl; (apply g_len; rfl; rfl; (exact (List.length_map _).symm));
  apply exl_is; rfl; rfl; rfl; (apply g_move; rfl);
  refine exl_nilT ?_;
  refine ex_block ?_;
  rotate_left
  (all_goals (repeat (rename BV _ _ => hbv; cases hbv)))
  all_goals (try (exfalso; first | (rename true = false => hx; cases hx; done) | (rename false = true => hx; cases hx; done)))
  · refine ret_is .nil (.cons (.ofTmp rfl) .nil) (by repeat (first | exact List.Sublist.refl _ | apply List.Sublist.cons_cons | apply List.Sublist.cons)) ?_
    exact int_eq (check_over (by omega)).symm
  rw [check_in (by omega)]
  refine ex_loop (fun (z : Nat × Int) => (⟨[(9, sps l), (10, .int .i64 l.length), (11, .int .i64 z.1), (3, .int .i64 z.2)], σ, [], Tryd.f21.ntmps⟩ : St)) (fun z => z.1 ≤ l.length ∧ chkFrom (-2) l = chkFrom z.2 (l.drop z.1) ∧ -2 ≤ z.2 ∧ z.2 ≤ 73048) (fun z => l.length - z.1) (0, -2) (⟨Nat.zero_le _, rfl, by simp, by simp⟩) (St.le_of (by repeat (first | exact trivial | refine ⟨rfl, ?_⟩)) (by repeat (first | exact List.Sublist.refl _ | apply List.Sublist.cons_cons | apply List.Sublist.cons))) ?_
  intro z hI
  obtain ⟨k, last⟩ := z
  obtain ⟨hI1, hI2, hI3, hI4⟩ := hI
  dsimp only at hI1 hI2 hI3 hI4 ⊢
  by_cases hk : k < l.length
  · obtain ⟨x, hx⟩ : ∃ x, l[k]? = some x := ⟨_, List.getElem?_eq_getElem hk⟩
    rw [sp_drop hx, chkB_cons] at hI2
    refine ex_seq ?_;
    refine ex_region ?_;
    apply exl_isB; rfl; rfl; rfl; (apply g_binInt; rfl; rfl; rfl); intro _ _;
    refine exl_nilT ?_;
    refine ex_seq ?_;
    refine ex_cond rfl (fun h => ?_) (fun h => ?_) <;> ((first | (subst h; rename BV _ true => h0; have h := h0.eq; clear h0) | (subst h; rename BV _ false => h0; have h := h0.eq; clear h0) | skip); (have hp := h; try simp only [decide_eq_true_eq, decide_eq_false_iff_not, Bool.not_eq_true', Bool.not_eq_false', bne_iff_ne, beq_iff_eq, beq_eq_false_iff_ne, bne_eq_false_iff_eq, Int.not_lt, Int.not_le] at hp); (try (exfalso; first | omega | (cases hp; done))));
    refine ex_skip ?_;
    refine ex_seq ?_;
    refine ex_block ?_;
    refine ex_seq ?_;
    refine ex_region ?_;
    apply exl_is; rfl; rfl; rfl; (apply g_indexDl; rfl; rfl; rfl; (rfl); (exact get_map (by assumption)));
    apply exl_is; rfl; rfl; rfl; (apply g_loadAgg; rfl; decide; rfl; (exact .e rfl rfl));
    refine exl_box rfl rfl rfl (g_alloc rfl) ?_; intro _;
    apply exl_do; rfl; rfl; (apply g_store'; rfl; rfl; rfl; (exact Upd.here); (simp only [setL, List.set_cons_zero, List.set_cons_succ, AV.cells]; rfl); rfl; rfl; rfl; exact Nat.le_of_ble_eq_true rfl);
    refine exl_nilT ?_;
    refine ex_seq ?_;
    refine ex_seq ?_;
    refine ex_region ?_;
    apply exl_is; rfl; rfl; rfl; (apply g_fieldAddr; rfl; rfl; rfl);
    apply exl_is; rfl; rfl; rfl; (apply g_load1; rfl; rfl; (exact .p (by ((repeat (first | exact List.Mem.head _ | assumption | refine List.Mem.tail _ ?_)); done)) rfl));
    apply exl_isB; rfl; rfl; rfl; (exact g_call rfl rfl (enters_b (by kernel_rfl)) (day_c _ _)); intro _ _;
    apply exl_isB; rfl; rfl; rfl; (apply g_not; rfl); intro _ _;
    apply exl_is; rfl; rfl; rfl; (apply g_move; rfl);
    refine exl_caseL rfl (fun h => ?_) (fun h => ?_) <;> ((first | (subst h; rename BV _ true => h0; have h := h0.eq; clear h0) | (subst h; rename BV _ false => h0; have h := h0.eq; clear h0) | skip); (have hp := h; try simp only [decide_eq_true_eq, decide_eq_false_iff_not, Bool.not_eq_true', Bool.not_eq_false', bne_iff_ne, beq_iff_eq, beq_eq_false_iff_ne, bne_eq_false_iff_eq, Int.not_lt, Int.not_le] at hp); (try (exfalso; first | omega | (cases hp; done))));
    refine exl_skipL rfl (by rfl) rfl rfl ?_;
    refine exl_skipL rfl (by rfl) rfl rfl ?_;
    refine exl_skipL rfl (by rfl) rfl rfl ?_;
    refine exl_skipL rfl (by rfl) rfl rfl ?_;
    apply exl_is; rfl; rfl; rfl; (apply g_pick_t; rfl; (rfl); rfl);
    apply exl_is; rfl; rfl; rfl; (apply g_move; rfl);
    refine exl_skipL rfl (by rfl) rfl rfl ?_;
    refine exl_skipL rfl (by rfl) rfl rfl ?_;
    refine exl_skipL rfl (by rfl) rfl rfl ?_;
    refine exl_skipL rfl (by rfl) rfl rfl ?_;
    refine exl_skipL rfl (by rfl) rfl rfl ?_;
    apply exl_is; rfl; rfl; rfl; (apply g_pick_t; rfl; (rfl); rfl);
    apply exl_is; rfl; rfl; rfl; (apply g_move; rfl);
    refine exl_skipL rfl (by rfl) rfl rfl ?_;
    refine exl_skipL rfl (by rfl) rfl rfl ?_;
    refine exl_skipL rfl (by rfl) rfl rfl ?_;
    refine exl_skipL rfl (by rfl) rfl rfl ?_;
    refine exl_skipL rfl (by rfl) rfl rfl ?_;
    apply exl_is; rfl; rfl; rfl; (apply g_pick_t; rfl; (rfl); rfl);
    refine exl_nilT ?_;
    refine ex_cond_t rfl (by rfl) ?_;
    refine ex_seq ?_;
    refine ex_region ?_;
    apply exl_is; rfl; rfl; rfl; (apply g_assign; rfl);
    refine exl_nilT ?_;
    refine ex_ret ?_;
    simp only [thenA, blockA, roundA, noGotoA, retA, ↓reduceIte, Nat.reduceEqDiff];
    rotate_left;
    apply exl_isW; rfl; (rfl); rfl; rfl; (apply g_fieldAddr; rfl; rfl; rfl);
    apply exl_isW; rfl; (rfl); rfl; rfl; (apply g_load1; rfl; rfl; (exact .p (by ((repeat (first | exact List.Mem.head _ | assumption | refine List.Mem.tail _ ?_)); done)) rfl));
    apply exl_isBW; rfl; (rfl); rfl; rfl; (exact g_call rfl rfl (enters_b (by kernel_rfl)) (day_c _ _)); intro _ _;
    apply exl_isBW; rfl; (rfl); rfl; rfl; (apply g_not; rfl); intro _ _;
    apply exl_is; rfl; rfl; rfl; (apply g_pick_f; rfl; (rfl); rfl);
    apply exl_is; rfl; rfl; rfl; (apply g_move; rfl);
    refine exl_caseL rfl (fun h => ?_) (fun h => ?_) <;> ((first | (subst h; rename BV _ true => h0; have h := h0.eq; clear h0) | (subst h; rename BV _ false => h0; have h := h0.eq; clear h0) | skip); (have hp := h; try simp only [decide_eq_true_eq, decide_eq_false_iff_not, Bool.not_eq_true', Bool.not_eq_false', bne_iff_ne, beq_iff_eq, beq_eq_false_iff_ne, bne_eq_false_iff_eq, Int.not_lt, Int.not_le] at hp); (try (exfalso; first | omega | (cases hp; done))));
    refine exl_skipL rfl (by rfl) rfl rfl ?_;
    refine exl_skipL rfl (by rfl) rfl rfl ?_;
    refine exl_skipL rfl (by rfl) rfl rfl ?_;
    refine exl_skipL rfl (by rfl) rfl rfl ?_;
    refine exl_skipL rfl (by rfl) rfl rfl ?_;
    apply exl_is; rfl; rfl; rfl; (apply g_pick_t; rfl; (rfl); rfl);
    apply exl_is; rfl; rfl; rfl; (apply g_move; rfl);
    refine exl_skipL rfl (by rfl) rfl rfl ?_;
    refine exl_skipL rfl (by rfl) rfl rfl ?_;
    refine exl_skipL rfl (by rfl) rfl rfl ?_;
    refine exl_skipL rfl (by rfl) rfl rfl ?_;
    refine exl_skipL rfl (by rfl) rfl rfl ?_;
    apply exl_is; rfl; rfl; rfl; (apply g_pick_t; rfl; (rfl); rfl);
    refine exl_nilT ?_;
    refine ex_cond_t rfl (by rfl) ?_;
    refine ex_seq ?_;
    refine ex_region ?_;
    apply exl_is; rfl; rfl; rfl; (apply g_assign; rfl);
    refine exl_nilT ?_;
    refine ex_ret ?_;
    simp only [thenA, blockA, roundA, noGotoA, retA, ↓reduceIte, Nat.reduceEqDiff];
    rotate_left;
    apply exl_isW; rfl; (rfl); rfl; rfl; (apply g_fieldAddr; rfl; rfl; rfl);
    apply exl_isW; rfl; (rfl); rfl; rfl; (apply g_load1; rfl; rfl; (exact .p (by ((repeat (first | exact List.Mem.head _ | assumption | refine List.Mem.tail _ ?_)); done)) rfl));
    apply exl_isW; rfl; (rfl); rfl; rfl; (apply g_fieldAddr; rfl; rfl; rfl);
    apply exl_isW; rfl; (rfl); rfl; rfl; (apply g_load1; rfl; rfl; (exact .p (by ((repeat (first | exact List.Mem.head _ | assumption | refine List.Mem.tail _ ?_)); done)) rfl));
    apply exl_isBW; rfl; (rfl); rfl; rfl; (apply g_binInt; rfl; rfl; rfl); intro _ _;
    apply exl_is; rfl; rfl; rfl; (apply g_pick_f; rfl; (rfl); rfl);
    apply exl_is; rfl; rfl; rfl; (apply g_move; rfl);
    refine exl_caseL rfl (fun h => ?_) (fun h => ?_) <;> ((first | (subst h; rename BV _ true => h0; have h := h0.eq; clear h0) | (subst h; rename BV _ false => h0; have h := h0.eq; clear h0) | skip); (have hp := h; try simp only [decide_eq_true_eq, decide_eq_false_iff_not, Bool.not_eq_true', Bool.not_eq_false', bne_iff_ne, beq_iff_eq, beq_eq_false_iff_ne, bne_eq_false_iff_eq, Int.not_lt, Int.not_le] at hp); (try (exfalso; first | omega | (cases hp; done))));
    refine exl_skipL rfl (by rfl) rfl rfl ?_;
    refine exl_skipL rfl (by rfl) rfl rfl ?_;
    refine exl_skipL rfl (by rfl) rfl rfl ?_;
    refine exl_skipL rfl (by rfl) rfl rfl ?_;
    refine exl_skipL rfl (by rfl) rfl rfl ?_;
    apply exl_is; rfl; rfl; rfl; (apply g_pick_t; rfl; (rfl); rfl);
    refine exl_nilT ?_;
    refine ex_cond_t rfl (by rfl) ?_;
    refine ex_seq ?_;
    refine ex_region ?_;
    apply exl_is; rfl; rfl; rfl; (apply g_assign; rfl);
    refine exl_nilT ?_;
    refine ex_ret ?_;
    simp only [thenA, blockA, roundA, noGotoA, retA, ↓reduceIte, Nat.reduceEqDiff];
    rotate_left;
    apply exl_isW; rfl; (rfl); rfl; rfl; (apply g_fieldAddr; rfl; rfl; rfl);
    apply exl_isW; rfl; (rfl); rfl; rfl; (apply g_load1; rfl; rfl; (exact .p (by ((repeat (first | exact List.Mem.head _ | assumption | refine List.Mem.tail _ ?_)); done)) rfl));
    apply exl_isW; rfl; (rfl); rfl; rfl; (apply g_move; rfl);
    apply exl_isW; rfl; (rfl); rfl; rfl; (apply g_add; rfl; rfl; rfl; exact ⟨by omega, by omega⟩);
    apply exl_isBW; rfl; (rfl); rfl; rfl; (apply g_binInt; rfl; rfl; rfl); intro _ _;
    apply exl_is; rfl; rfl; rfl; (apply g_pick_f; rfl; (rfl); rfl);
    refine exl_nilT ?_;
    refine ex_cond rfl (fun h => ?_) (fun h => ?_) <;> ((first | (subst h; rename BV _ true => h0; have h := h0.eq; clear h0) | (subst h; rename BV _ false => h0; have h := h0.eq; clear h0) | skip); (have hp := h; try simp only [decide_eq_true_eq, decide_eq_false_iff_not, Bool.not_eq_true', Bool.not_eq_false', bne_iff_ne, beq_iff_eq, beq_eq_false_iff_ne, bne_eq_false_iff_eq, Int.not_lt, Int.not_le] at hp); (try (exfalso; first | omega | (cases hp; done))));
    refine ex_seq ?_;
    refine ex_region ?_;
    apply exl_is; rfl; rfl; rfl; (apply g_assign; rfl);
    refine exl_nilT ?_;
    refine ex_ret ?_;
    simp only [thenA, blockA, roundA, noGotoA, retA, ↓reduceIte, Nat.reduceEqDiff];
    rotate_left;
    refine ex_skip ?_;
    refine ex_region ?_;
    apply exl_is; rfl; rfl; rfl; (apply g_fieldAddr; rfl; rfl; rfl);
    apply exl_is; rfl; rfl; rfl; (apply g_load1; rfl; rfl; (exact .p (by ((repeat (first | exact List.Mem.head _ | assumption | refine List.Mem.tail _ ?_)); done)) rfl));
    apply exl_is; rfl; rfl; rfl; (apply g_assign; rfl);
    refine exl_nil ?_;
    refine ex_region ?_;
    apply exl_is; rfl; rfl; rfl; (apply g_add; rfl; rfl; rfl; exact ⟨by omega, by omega⟩);
    apply exl_is; rfl; rfl; rfl; (apply g_move; rfl);
    refine exl_nil ?_;
    simp only [thenA, blockA, roundA, noGotoA, retA, ↓reduceIte, Nat.reduceEqDiff];
    rotate_left
    (all_goals (repeat (rename BV _ _ => hbv; cases hbv)))
    all_goals (try (exfalso; first | (rename true = false => hx; cases hx; done) | (rename false = true => hx; cases hx; done)))
    all_goals first
      | (focus
          have e : chkFrom (-2) l = false := by rw [hI2]; simp [*]; try (intros; omega)
          rw [e]
          refine ret_is .nil (.cons (.ofTmp rfl) .nil) (by repeat (first | exact List.Sublist.refl _ | apply List.Sublist.cons_cons | apply List.Sublist.cons)) ?_
          rfl)
      | (have e : chkFrom (-2) l = chkFrom x.t (l.drop (k + 1)) := by rw [hI2]; simp [*]; try omega
         have hxt : dayB x.t = true := by assumption
         have hxt2 := dayB_iff.1 hxt
         exact ⟨(k + 1, x.t), ⟨hk, e, by dsimp only; omega, by dsimp only; omega⟩, by dsimp only; omega, (St.le_of (by repeat (first | exact trivial | refine ⟨rfl, ?_⟩)) (by repeat (first | exact List.Sublist.refl _ | apply List.Sublist.cons_cons | apply List.Sublist.cons)))⟩)
  · rw [List.drop_of_length_le (by omega)] at hI2
    rw [hI2]
    refine ex_seq ?_;
    refine ex_region ?_;
    apply exl_isB; rfl; rfl; rfl; (apply g_binInt; rfl; rfl; rfl); intro _ _;
    refine exl_nilT ?_;
    refine ex_seq ?_;
    refine ex_cond rfl (fun h => ?_) (fun h => ?_) <;> ((first | (subst h; rename BV _ true => h0; have h := h0.eq; clear h0) | (subst h; rename BV _ false => h0; have h := h0.eq; clear h0) | skip); (have hp := h; try simp only [decide_eq_true_eq, decide_eq_false_iff_not, Bool.not_eq_true', Bool.not_eq_false', bne_iff_ne, beq_iff_eq, beq_eq_false_iff_ne, bne_eq_false_iff_eq, Int.not_lt, Int.not_le] at hp); (try (exfalso; first | omega | (cases hp; done))));
    refine ex_exit ?_;
    refine ex_seq ?_;
    refine ex_region ?_;
    apply exl_is; rfl; rfl; rfl; (apply g_assign; rfl);
    refine exl_nilT ?_;
    refine ex_ret ?_;
    simp only [thenA, blockA, roundA, noGotoA, retA, ↓reduceIte, Nat.reduceEqDiff];
    rotate_left
    (all_goals (repeat (rename BV _ _ => hbv; cases hbv)))
    all_goals (try (exfalso; first | (rename true = false => hx; cases hx; done) | (rename false = true => hx; cases hx; done)))
    refine ret_is .nil (.cons (.ofTmp rfl) .nil) (by repeat (first | exact List.Sublist.refl _ | apply List.Sublist.cons_cons | apply List.Sublist.cons)) ?_
    rfl
set_option maxHeartbeats 2000000 in
set_option maxRecDepth 10000 in
theorem rCheck_c (l : List Sp) (σ : List Ent) : SCall Tryd.prog 22 [sps l] σ (Is (.int .i64 (checkL l)) σ) := by
  refine scall_of Tryd.func22 rfl (by simp) ?_
  refine ex_len (t := 0) rfl ((List.length_map _).symm) (fun hlen => ?_)
  refine ex_seq ?_;
  refine ex_region ?_;
  apply exl_is; rfl; rfl; rfl; (apply g_assign; rfl);
  refine exl_nilT ?_;
  refine ex_seq ?_;
  refine ex_seq ?_;
  refine ex_region ?_;
  apply exl_is; rfl; rfl; rfl; (apply g_move; rfl);
  apply exl_is; rfl; rfl; rfl; (apply g_len; rfl; rfl; (exact (List.length_map _).symm));
  apply exl_isB; rfl; rfl; rfl; (apply g_binInt; rfl; rfl; rfl); intro _ _;
  refine exl_nilT ?_;
  refine ex_cond rfl (fun h => ?_) (fun h => ?_) <;> ((first | (subst h; rename BV _ true => h0; have h := h0.eq; clear h0) | (subst h; rename BV _ false => h0; have h := h0.eq; clear h0) | skip); (have hp := h; try simp only [decide_eq_true_eq, decide_eq_false_iff_not, Bool.not_eq_true', Bool.not_eq_false', bne_iff_ne, beq_iff_eq, beq_eq_false_iff_ne, bne_eq_false_iff_eq, Int.not_lt, Int.not_le] at hp); (try (exfalso; first | omega | (cases hp; done))));
  refine ex_seq ?_;
  refine ex_region ?_;
  apply exl_is; rfl; rfl; rfl; (apply g_assign; rfl);
  refine exl_nilT ?_;
  refine ex_ret ?_;
  simp only [thenA, blockA, roundA, noGotoA, retA, ↓reduceIte, Nat.reduceEqDiff];
  rotate_left;
  refine ex_skip ?_;
  refine ex_seq ?_;
  refine ex_seq ?_;
  refine ex_region ?_;
  apply exl_is; rfl; rfl; rfl; (apply g_assign; rfl);
  refine exl_nilT ?_;
  refine ex_block ?_;
  rotate_left
  (all_goals (repeat (rename BV _ _ => hbv; cases hbv)))
  all_goals (try (exfalso; first | (rename true = false => hx; cases hx; done) | (rename false = true => hx; cases hx; done)))
  · refine ret_is .nil (.cons (.ofTmp rfl) .nil) (by repeat (first | exact List.Sublist.refl _ | apply List.Sublist.cons_cons | apply List.Sublist.cons)) ?_
    exact int_eq (check_over (by omega)).symm
  rw [check_in (by omega)]
  refine ex_loop (fun (k : Nat) => (⟨[(0, sps l), (3, .int .i64 k)], σ, [], Tryd.f22.ntmps⟩ : St)) (fun k => k ≤ l.length ∧ chkFrom (-2) l = chkFrom (lastOf l k) (l.drop k) ∧ -2 ≤ lastOf l k ∧ lastOf l k ≤ 73048) (fun k => l.length - k) 0 (⟨Nat.zero_le _, rfl, by simp [lastOf], by simp [lastOf]⟩) (St.le_of (by repeat (first | exact trivial | refine ⟨rfl, ?_⟩)) (by repeat (first | exact List.Sublist.refl _ | apply List.Sublist.cons_cons | apply List.Sublist.cons))) ?_
  intro k hI
  obtain ⟨hI1, hI2, hI3, hI4⟩ := hI
  by_cases hk : k < l.length
  · obtain ⟨x, hx⟩ : ∃ x, l[k]? = some x := ⟨_, List.getElem?_eq_getElem hk⟩
    have hp1 : lastOf l (k + 1) = x.t := by unfold lastOf; rw [if_neg (by omega), Nat.add_sub_cancel, hx]; rfl
    rw [sp_drop hx, chkB_cons] at hI2
    by_cases h0 : k = 0
    · subst h0
      have hl0 : lastOf l 0 = -2 := rfl
      rw [hl0] at hI2
      refine ex_seq ?_;
      refine ex_seq ?_;
      refine ex_region ?_;
      apply exl_is; rfl; rfl; rfl; (apply g_move; rfl);
      apply exl_is; rfl; rfl; rfl; (apply g_move; rfl);
      apply exl_is; rfl; rfl; rfl; (apply g_len; rfl; rfl; (exact (List.length_map _).symm));
      apply exl_isB; rfl; rfl; rfl; (apply g_binInt; rfl; rfl; rfl); intro _ _;
      refine exl_nilT ?_;
      refine ex_cond rfl (fun h => ?_) (fun h => ?_) <;> ((first | (subst h; rename BV _ true => h0; have h := h0.eq; clear h0) | (subst h; rename BV _ false => h0; have h := h0.eq; clear h0) | skip); (have hp := h; try simp only [decide_eq_true_eq, decide_eq_false_iff_not, Bool.not_eq_true', Bool.not_eq_false', bne_iff_ne, beq_iff_eq, beq_eq_false_iff_ne, bne_eq_false_iff_eq, Int.not_lt, Int.not_le] at hp); (try (exfalso; first | omega | (cases hp; done))));
      refine ex_skip ?_;
      refine ex_seq ?_;
      refine ex_block ?_;
      refine ex_seq ?_;
      refine ex_drawC rfl rfl (by kernel_rfl) rfl ?_; refine ex_drawQ rfl (by kernel_rfl) rfl ?_;
      apply wl_is; rfl; rfl; rfl; (intro σ' hl; (apply g_move; rfl));
      apply wl_is; rfl; rfl; rfl; (intro σ' hl; (apply g_move; rfl));
      apply wl_is; rfl; rfl; rfl; (intro σ' hl; (apply g_indexDl; rfl; rfl; rfl; (rfl); (exact get_map (by assumption))));
      apply wl_is; rfl; rfl; rfl; (intro σ' hl; (apply g_fieldAddr; rfl; rfl; rfl));
      apply wl_is; rfl; rfl; rfl; (intro σ' hl; (apply g_load1; rfl; rfl; (exact .e rfl)));
      apply wl_isB; rfl; rfl; rfl; (intro σ' hl; (exact g_call rfl rfl (enters_b (by kernel_rfl)) (rDay_c _ _))); intro _ _;
      apply wl_isB; rfl; rfl; rfl; (intro σ' hl; (apply g_not; rfl)); intro _ _;
      apply wl_is; rfl; rfl; rfl; (intro σ' hl; (apply g_move; rfl));
      refine wl_case rfl (fun h => ?_) (fun h => ?_) <;> ((first | (subst h; rename BV _ true => h0; have h := h0.eq; clear h0) | (subst h; rename BV _ false => h0; have h := h0.eq; clear h0) | skip); (have hp := h; try simp only [decide_eq_true_eq, decide_eq_false_iff_not, Bool.not_eq_true', Bool.not_eq_false', bne_iff_ne, beq_iff_eq, beq_eq_false_iff_ne, bne_eq_false_iff_eq, Int.not_lt, Int.not_le] at hp); (try (exfalso; first | omega | (cases hp; done))));
      refine wl_skip rfl (by rfl) rfl rfl ?_;
      refine wl_skip rfl (by rfl) rfl rfl ?_;
      refine wl_skip rfl (by rfl) rfl rfl ?_;
      refine wl_skip rfl (by rfl) rfl rfl ?_;
      refine wl_skip rfl (by rfl) rfl rfl ?_;
      refine wl_skip rfl (by rfl) rfl rfl ?_;
      refine wl_skip rfl (by rfl) rfl rfl ?_;
      apply wl_is; rfl; rfl; rfl; (intro σ' hl; (apply g_pick_t; rfl; (rfl); rfl));
      apply wl_is; rfl; rfl; rfl; (intro σ' hl; (apply g_move; rfl));
      refine wl_skip rfl (by rfl) rfl rfl ?_;
      refine wl_skip rfl (by rfl) rfl rfl ?_;
      refine wl_skip rfl (by rfl) rfl rfl ?_;
      refine wl_skip rfl (by rfl) rfl rfl ?_;
      refine wl_skip rfl (by rfl) rfl rfl ?_;
      refine wl_skip rfl (by rfl) rfl rfl ?_;
      refine wl_skip rfl (by rfl) rfl rfl ?_;
      refine wl_skip rfl (by rfl) rfl rfl ?_;
      refine wl_skip rfl (by rfl) rfl rfl ?_;
      refine wl_skip rfl (by rfl) rfl rfl ?_;
      refine wl_skip rfl (by rfl) rfl rfl ?_;
      apply wl_is; rfl; rfl; rfl; (intro σ' hl; (apply g_pick_t; rfl; (rfl); rfl));
      apply wl_is; rfl; rfl; rfl; (intro σ' hl; (apply g_move; rfl));
      refine wl_skip rfl (by rfl) rfl rfl ?_;
      refine wl_skip rfl (by rfl) rfl rfl ?_;
      refine wl_skip rfl (by rfl) rfl rfl ?_;
      refine wl_skip_raw rfl rfl rfl ?_;
      refine wl_skip_raw rfl rfl rfl ?_;
      refine wl_skip_raw rfl rfl rfl ?_;
      refine wl_skip_raw rfl rfl rfl ?_;
      refine wl_skip_raw rfl rfl rfl ?_;
      refine wl_skip_raw rfl rfl rfl ?_;
      refine wl_skip_raw rfl rfl rfl ?_;
      refine wl_skip_raw rfl rfl rfl ?_;
      refine wl_skip_raw rfl rfl rfl ?_;
      refine wl_skip_raw rfl rfl rfl ?_;
      refine wl_skip_raw rfl rfl rfl ?_;
      refine wl_skip_raw rfl rfl rfl ?_;
      refine wl_skip_raw rfl rfl rfl ?_;
      refine wl_skip rfl (by rfl) rfl rfl ?_;
      apply wl_is; rfl; rfl; rfl; (intro σ' hl; (apply g_pick_t; rfl; (rfl); rfl));
      refine wl_nil ?_; show EX _ _ _ _ _;
      refine ex_cond_t rfl (by rfl) ?_;
      refine ex_seq ?_;
      refine ex_region ?_;
      apply exl_is; rfl; rfl; rfl; (apply g_assign; rfl);
      refine exl_nilT ?_;
      refine ex_ret ?_;
      simp only [thenA, blockA, roundA, noGotoA, retA, ↓reduceIte, Nat.reduceEqDiff];
      rotate_left;
      apply wl_isW; rfl; (rfl); rfl; rfl; (intro σ' hl; (apply g_move; rfl));
      apply wl_isW; rfl; (rfl); rfl; rfl; (intro σ' hl; (apply g_move; rfl));
      apply wl_isW; rfl; (rfl); rfl; rfl; (intro σ' hl; (apply g_indexDl; rfl; rfl; rfl; (rfl); (exact get_map (by assumption))));
      apply wl_isW; rfl; (rfl); rfl; rfl; (intro σ' hl; (apply g_fieldAddr; rfl; rfl; rfl));
      apply wl_isW; rfl; (rfl); rfl; rfl; (intro σ' hl; (apply g_load1; rfl; rfl; (exact .e rfl)));
      apply wl_isBW; rfl; (rfl); rfl; rfl; (intro σ' hl; (exact g_call rfl rfl (enters_b (by kernel_rfl)) (rDay_c _ _))); intro _ _;
      apply wl_isBW; rfl; (rfl); rfl; rfl; (intro σ' hl; (apply g_not; rfl)); intro _ _;
      apply wl_is; rfl; rfl; rfl; (intro σ' hl; (apply g_pick_f; rfl; (rfl); rfl));
      apply wl_is; rfl; rfl; rfl; (intro σ' hl; (apply g_move; rfl));
      refine wl_case rfl (fun h => ?_) (fun h => ?_) <;> ((first | (subst h; rename BV _ true => h0; have h := h0.eq; clear h0) | (subst h; rename BV _ false => h0; have h := h0.eq; clear h0) | skip); (have hp := h; try simp only [decide_eq_true_eq, decide_eq_false_iff_not, Bool.not_eq_true', Bool.not_eq_false', bne_iff_ne, beq_iff_eq, beq_eq_false_iff_ne, bne_eq_false_iff_eq, Int.not_lt, Int.not_le] at hp); (try (exfalso; first | omega | (cases hp; done))));
      refine wl_skip rfl (by rfl) rfl rfl ?_;
      refine wl_skip rfl (by rfl) rfl rfl ?_;
      refine wl_skip rfl (by rfl) rfl rfl ?_;
      refine wl_skip rfl (by rfl) rfl rfl ?_;
      refine wl_skip rfl (by rfl) rfl rfl ?_;
      refine wl_skip rfl (by rfl) rfl rfl ?_;
      refine wl_skip rfl (by rfl) rfl rfl ?_;
      refine wl_skip rfl (by rfl) rfl rfl ?_;
      refine wl_skip rfl (by rfl) rfl rfl ?_;
      refine wl_skip rfl (by rfl) rfl rfl ?_;
      refine wl_skip rfl (by rfl) rfl rfl ?_;
      apply wl_is; rfl; rfl; rfl; (intro σ' hl; (apply g_pick_t; rfl; (rfl); rfl));
      apply wl_is; rfl; rfl; rfl; (intro σ' hl; (apply g_move; rfl));
      refine wl_skip rfl (by rfl) rfl rfl ?_;
      refine wl_skip rfl (by rfl) rfl rfl ?_;
      refine wl_skip rfl (by rfl) rfl rfl ?_;
      refine wl_skip_raw rfl rfl rfl ?_;
      refine wl_skip_raw rfl rfl rfl ?_;
      refine wl_skip_raw rfl rfl rfl ?_;
      refine wl_skip_raw rfl rfl rfl ?_;
      refine wl_skip_raw rfl rfl rfl ?_;
      refine wl_skip_raw rfl rfl rfl ?_;
      refine wl_skip_raw rfl rfl rfl ?_;
      refine wl_skip_raw rfl rfl rfl ?_;
      refine wl_skip_raw rfl rfl rfl ?_;
      refine wl_skip_raw rfl rfl rfl ?_;
      refine wl_skip_raw rfl rfl rfl ?_;
      refine wl_skip_raw rfl rfl rfl ?_;
      refine wl_skip_raw rfl rfl rfl ?_;
      refine wl_skip rfl (by rfl) rfl rfl ?_;
      apply wl_is; rfl; rfl; rfl; (intro σ' hl; (apply g_pick_t; rfl; (rfl); rfl));
      refine wl_nil ?_; show EX _ _ _ _ _;
      refine ex_cond_t rfl (by rfl) ?_;
      refine ex_seq ?_;
      refine ex_region ?_;
      apply exl_is; rfl; rfl; rfl; (apply g_assign; rfl);
      refine exl_nilT ?_;
      refine ex_ret ?_;
      simp only [thenA, blockA, roundA, noGotoA, retA, ↓reduceIte, Nat.reduceEqDiff];
      rotate_left;
      apply wl_isW; rfl; (rfl); rfl; rfl; (intro σ' hl; (apply g_move; rfl));
      apply wl_isW; rfl; (rfl); rfl; rfl; (intro σ' hl; (apply g_move; rfl));
      apply wl_isW; rfl; (rfl); rfl; rfl; (intro σ' hl; (apply g_indexDl; rfl; rfl; rfl; (rfl); (exact get_map (by assumption))));
      apply wl_isW; rfl; (rfl); rfl; rfl; (intro σ' hl; (apply g_fieldAddr; rfl; rfl; rfl));
      apply wl_isW; rfl; (rfl); rfl; rfl; (intro σ' hl; (apply g_load1; rfl; rfl; (exact .e rfl)));
      apply wl_isW; rfl; (rfl); rfl; rfl; (intro σ' hl; (apply g_move; rfl));
      apply wl_isW; rfl; (rfl); rfl; rfl; (intro σ' hl; (apply g_move; rfl));
      apply wl_isW; rfl; (rfl); rfl; rfl; (intro σ' hl; (apply g_indexDl; rfl; rfl; rfl; (rfl); (exact get_map (by assumption))));
      apply wl_isW; rfl; (rfl); rfl; rfl; (intro σ' hl; (apply g_fieldAddr; rfl; rfl; rfl));
      apply wl_isW; rfl; (rfl); rfl; rfl; (intro σ' hl; (apply g_load1; rfl; rfl; (exact .e rfl)));
      apply wl_isBW; rfl; (rfl); rfl; rfl; (intro σ' hl; (apply g_binInt; rfl; rfl; rfl)); intro _ _;
      apply wl_is; rfl; rfl; rfl; (intro σ' hl; (apply g_pick_f; rfl; (rfl); rfl));
      apply wl_is; rfl; rfl; rfl; (intro σ' hl; (apply g_move; rfl));
      refine wl_case rfl (fun h => ?_) (fun h => ?_) <;> ((first | (subst h; rename BV _ true => h0; have h := h0.eq; clear h0) | (subst h; rename BV _ false => h0; have h := h0.eq; clear h0) | skip); (have hp := h; try simp only [decide_eq_true_eq, decide_eq_false_iff_not, Bool.not_eq_true', Bool.not_eq_false', bne_iff_ne, beq_iff_eq, beq_eq_false_iff_ne, bne_eq_false_iff_eq, Int.not_lt, Int.not_le] at hp); (try (exfalso; first | omega | (cases hp; done))));
      refine wl_skip rfl (by rfl) rfl rfl ?_;
      refine wl_skip rfl (by rfl) rfl rfl ?_;
      refine wl_skip rfl (by rfl) rfl rfl ?_;
      refine wl_skip_raw rfl rfl rfl ?_;
      refine wl_skip_raw rfl rfl rfl ?_;
      refine wl_skip_raw rfl rfl rfl ?_;
      refine wl_skip_raw rfl rfl rfl ?_;
      refine wl_skip_raw rfl rfl rfl ?_;
      refine wl_skip_raw rfl rfl rfl ?_;
      refine wl_skip_raw rfl rfl rfl ?_;
      refine wl_skip_raw rfl rfl rfl ?_;
      refine wl_skip_raw rfl rfl rfl ?_;
      refine wl_skip_raw rfl rfl rfl ?_;
      refine wl_skip_raw rfl rfl rfl ?_;
      refine wl_skip_raw rfl rfl rfl ?_;
      refine wl_skip_raw rfl rfl rfl ?_;
      refine wl_skip rfl (by rfl) rfl rfl ?_;
      apply wl_is; rfl; rfl; rfl; (intro σ' hl; (apply g_pick_t; rfl; (rfl); rfl));
      refine wl_nil ?_; show EX _ _ _ _ _;
      refine ex_cond_t rfl (by rfl) ?_;
      refine ex_seq ?_;
      refine ex_region ?_;
      apply exl_is; rfl; rfl; rfl; (apply g_assign; rfl);
      refine exl_nilT ?_;
      refine ex_ret ?_;
      simp only [thenA, blockA, roundA, noGotoA, retA, ↓reduceIte, Nat.reduceEqDiff];
      rotate_left;
      apply wl_isW; rfl; (rfl); rfl; rfl; (intro σ' hl; (apply g_move; rfl));
      apply wl_isBW; rfl; (rfl); rfl; rfl; (intro σ' hl; (apply g_binInt; rfl; rfl; rfl)); intro _ _;
      apply wl_isW; rfl; (rfl); rfl; rfl; (intro σ' hl; (apply g_move; rfl));
      refine wl_case rfl (fun h => ?_) (fun h => ?_) <;> ((first | (subst h; rename BV _ true => h0; have h := h0.eq; clear h0) | (subst h; rename BV _ false => h0; have h := h0.eq; clear h0) | skip); (have hp := h; try simp only [decide_eq_true_eq, decide_eq_false_iff_not, Bool.not_eq_true', Bool.not_eq_false', bne_iff_ne, beq_iff_eq, beq_eq_false_iff_ne, bne_eq_false_iff_eq, Int.not_lt, Int.not_le] at hp); (try (exfalso; first | omega | (cases hp; done))));
      refine wl_skip rfl (by rfl) rfl rfl ?_;
      refine wl_skip rfl (by rfl) rfl rfl ?_;
      refine wl_skip rfl (by rfl) rfl rfl ?_;
      refine wl_skip rfl (by rfl) rfl rfl ?_;
      refine wl_skip rfl (by rfl) rfl rfl ?_;
      refine wl_skip rfl (by rfl) rfl rfl ?_;
      refine wl_skip rfl (by rfl) rfl rfl ?_;
      refine wl_skip rfl (by rfl) rfl rfl ?_;
      refine wl_skip rfl (by rfl) rfl rfl ?_;
      refine wl_skip rfl (by rfl) rfl rfl ?_;
      refine wl_skip rfl (by rfl) rfl rfl ?_;
      refine wl_skip rfl (by rfl) rfl rfl ?_;
      refine wl_skip rfl (by rfl) rfl rfl ?_;
      apply wl_isW; rfl; (rfl); rfl; rfl; (intro σ' hl; (apply g_pick_f; rfl; (rfl); rfl));
      apply wl_is; rfl; rfl; rfl; (intro σ' hl; (apply g_pick_f; rfl; (rfl); rfl));
      refine wl_nil ?_; show EX _ _ _ _ _;
      refine ex_cond_f rfl (by rfl) ?_;
      refine ex_skip ?_;
      refine ex_region ?_;
      apply exl_is; rfl; rfl; rfl; (apply g_move; rfl);
      apply exl_is; rfl; rfl; rfl; (apply g_add; rfl; rfl; rfl; exact ⟨by omega, by omega⟩);
      apply exl_is; rfl; rfl; rfl; (apply g_assign; rfl);
      refine exl_nil ?_;
      simp only [thenA, blockA, roundA, noGotoA, retA, ↓reduceIte, Nat.reduceEqDiff];
      rotate_left
      (all_goals (repeat (rename BV _ _ => hbv; cases hbv)))
      all_goals (try (exfalso; first | (rename true = false => hx; cases hx; done) | (rename false = true => hx; cases hx; done)))
      all_goals first
        | (focus
            have e : chkFrom (-2) l = false := by rw [hI2]; simp [*]; try (intros; omega)
            rw [e]
            refine ret_is .nil (.cons (.ofTmp rfl) .nil) (by repeat (first | exact List.Sublist.refl _ | apply List.Sublist.cons_cons | apply List.Sublist.cons)) ?_
            rfl)
        | (have hxt : dayB x.t = true := by assumption
           have hxf : dayB x.f = true := by assumption
           have hxt2 := dayB_iff.1 hxt
           have hxf2 := dayB_iff.1 hxf
           have e : chkFrom (-2) l = chkFrom (lastOf l 1) (l.drop (0 + 1)) := by rw [hI2, hp1]; simp [*]; try omega
           exact ⟨1, ⟨hk, e, by rw [hp1]; omega, by rw [hp1]; omega⟩, by omega, (St.le_of (by repeat (first | exact trivial | refine ⟨rfl, ?_⟩)) (by repeat (first | exact List.Sublist.refl _ | apply List.Sublist.cons_cons | apply List.Sublist.cons)))⟩)
    · obtain ⟨d, hd⟩ : ∃ d, l[k - 1]? = some d := ⟨_, List.getElem?_eq_getElem (by omega)⟩
      have hix : (k : Int) - 1 = ((k - 1 : Nat) : Int) := by omega
      have hl0 : lastOf l k = d.t := by unfold lastOf; rw [if_neg h0, hd]; rfl
      rw [hl0] at hI2 hI3 hI4
      refine ex_seq ?_;
      refine ex_seq ?_;
      refine ex_region ?_;
      apply exl_is; rfl; rfl; rfl; (apply g_move; rfl);
      apply exl_is; rfl; rfl; rfl; (apply g_move; rfl);
      apply exl_is; rfl; rfl; rfl; (apply g_len; rfl; rfl; (exact (List.length_map _).symm));
      apply exl_isB; rfl; rfl; rfl; (apply g_binInt; rfl; rfl; rfl); intro _ _;
      refine exl_nilT ?_;
      refine ex_cond rfl (fun h => ?_) (fun h => ?_) <;> ((first | (subst h; rename BV _ true => h0; have h := h0.eq; clear h0) | (subst h; rename BV _ false => h0; have h := h0.eq; clear h0) | skip); (have hp := h; try simp only [decide_eq_true_eq, decide_eq_false_iff_not, Bool.not_eq_true', Bool.not_eq_false', bne_iff_ne, beq_iff_eq, beq_eq_false_iff_ne, bne_eq_false_iff_eq, Int.not_lt, Int.not_le] at hp); (try (exfalso; first | omega | (cases hp; done))));
      refine ex_skip ?_;
      refine ex_seq ?_;
      refine ex_block ?_;
      refine ex_seq ?_;
      refine ex_drawC rfl rfl (by kernel_rfl) rfl ?_; refine ex_drawQ rfl (by kernel_rfl) rfl ?_;
      apply wl_is; rfl; rfl; rfl; (intro σ' hl; (apply g_move; rfl));
      apply wl_is; rfl; rfl; rfl; (intro σ' hl; (apply g_move; rfl));
      apply wl_is; rfl; rfl; rfl; (intro σ' hl; (apply g_indexDl; rfl; rfl; rfl; (rfl); (exact get_map (by assumption))));
      apply wl_is; rfl; rfl; rfl; (intro σ' hl; (apply g_fieldAddr; rfl; rfl; rfl));
      apply wl_is; rfl; rfl; rfl; (intro σ' hl; (apply g_load1; rfl; rfl; (exact .e rfl)));
      apply wl_isB; rfl; rfl; rfl; (intro σ' hl; (exact g_call rfl rfl (enters_b (by kernel_rfl)) (rDay_c _ _))); intro _ _;
      apply wl_isB; rfl; rfl; rfl; (intro σ' hl; (apply g_not; rfl)); intro _ _;
      apply wl_is; rfl; rfl; rfl; (intro σ' hl; (apply g_move; rfl));
      refine wl_case rfl (fun h => ?_) (fun h => ?_) <;> ((first | (subst h; rename BV _ true => h0; have h := h0.eq; clear h0) | (subst h; rename BV _ false => h0; have h := h0.eq; clear h0) | skip); (have hp := h; try simp only [decide_eq_true_eq, decide_eq_false_iff_not, Bool.not_eq_true', Bool.not_eq_false', bne_iff_ne, beq_iff_eq, beq_eq_false_iff_ne, bne_eq_false_iff_eq, Int.not_lt, Int.not_le] at hp); (try (exfalso; first | omega | (cases hp; done))));
      refine wl_skip rfl (by rfl) rfl rfl ?_;
      refine wl_skip rfl (by rfl) rfl rfl ?_;
      refine wl_skip rfl (by rfl) rfl rfl ?_;
      refine wl_skip rfl (by rfl) rfl rfl ?_;
      refine wl_skip rfl (by rfl) rfl rfl ?_;
      refine wl_skip rfl (by rfl) rfl rfl ?_;
      refine wl_skip rfl (by rfl) rfl rfl ?_;
      apply wl_is; rfl; rfl; rfl; (intro σ' hl; (apply g_pick_t; rfl; (rfl); rfl));
      apply wl_is; rfl; rfl; rfl; (intro σ' hl; (apply g_move; rfl));
      refine wl_skip rfl (by rfl) rfl rfl ?_;
      refine wl_skip rfl (by rfl) rfl rfl ?_;
      refine wl_skip rfl (by rfl) rfl rfl ?_;
      refine wl_skip rfl (by rfl) rfl rfl ?_;
      refine wl_skip rfl (by rfl) rfl rfl ?_;
      refine wl_skip rfl (by rfl) rfl rfl ?_;
      refine wl_skip rfl (by rfl) rfl rfl ?_;
      refine wl_skip rfl (by rfl) rfl rfl ?_;
      refine wl_skip rfl (by rfl) rfl rfl ?_;
      refine wl_skip rfl (by rfl) rfl rfl ?_;
      refine wl_skip rfl (by rfl) rfl rfl ?_;
      apply wl_is; rfl; rfl; rfl; (intro σ' hl; (apply g_pick_t; rfl; (rfl); rfl));
      apply wl_is; rfl; rfl; rfl; (intro σ' hl; (apply g_move; rfl));
      refine wl_skip rfl (by rfl) rfl rfl ?_;
      refine wl_skip rfl (by rfl) rfl rfl ?_;
      refine wl_skip rfl (by rfl) rfl rfl ?_;
      refine wl_skip_raw rfl rfl rfl ?_;
      refine wl_skip_raw rfl rfl rfl ?_;
      refine wl_skip_raw rfl rfl rfl ?_;
      refine wl_skip_raw rfl rfl rfl ?_;
      refine wl_skip_raw rfl rfl rfl ?_;
      refine wl_skip_raw rfl rfl rfl ?_;
      refine wl_skip_raw rfl rfl rfl ?_;
      refine wl_skip_raw rfl rfl rfl ?_;
      refine wl_skip_raw rfl rfl rfl ?_;
      refine wl_skip_raw rfl rfl rfl ?_;
      refine wl_skip_raw rfl rfl rfl ?_;
      refine wl_skip_raw rfl rfl rfl ?_;
      refine wl_skip_raw rfl rfl rfl ?_;
      refine wl_skip rfl (by rfl) rfl rfl ?_;
      apply wl_is; rfl; rfl; rfl; (intro σ' hl; (apply g_pick_t; rfl; (rfl); rfl));
      refine wl_nil ?_; show EX _ _ _ _ _;
      refine ex_cond_t rfl (by rfl) ?_;
      refine ex_seq ?_;
      refine ex_region ?_;
      apply exl_is; rfl; rfl; rfl; (apply g_assign; rfl);
      refine exl_nilT ?_;
      refine ex_ret ?_;
      simp only [thenA, blockA, roundA, noGotoA, retA, ↓reduceIte, Nat.reduceEqDiff];
      rotate_left;
      apply wl_isW; rfl; (rfl); rfl; rfl; (intro σ' hl; (apply g_move; rfl));
      apply wl_isW; rfl; (rfl); rfl; rfl; (intro σ' hl; (apply g_move; rfl));
      apply wl_isW; rfl; (rfl); rfl; rfl; (intro σ' hl; (apply g_indexDl; rfl; rfl; rfl; (rfl); (exact get_map (by assumption))));
      apply wl_isW; rfl; (rfl); rfl; rfl; (intro σ' hl; (apply g_fieldAddr; rfl; rfl; rfl));
      apply wl_isW; rfl; (rfl); rfl; rfl; (intro σ' hl; (apply g_load1; rfl; rfl; (exact .e rfl)));
      apply wl_isBW; rfl; (rfl); rfl; rfl; (intro σ' hl; (exact g_call rfl rfl (enters_b (by kernel_rfl)) (rDay_c _ _))); intro _ _;
      apply wl_isBW; rfl; (rfl); rfl; rfl; (intro σ' hl; (apply g_not; rfl)); intro _ _;
      apply wl_is; rfl; rfl; rfl; (intro σ' hl; (apply g_pick_f; rfl; (rfl); rfl));
      apply wl_is; rfl; rfl; rfl; (intro σ' hl; (apply g_move; rfl));
      refine wl_case rfl (fun h => ?_) (fun h => ?_) <;> ((first | (subst h; rename BV _ true => h0; have h := h0.eq; clear h0) | (subst h; rename BV _ false => h0; have h := h0.eq; clear h0) | skip); (have hp := h; try simp only [decide_eq_true_eq, decide_eq_false_iff_not, Bool.not_eq_true', Bool.not_eq_false', bne_iff_ne, beq_iff_eq, beq_eq_false_iff_ne, bne_eq_false_iff_eq, Int.not_lt, Int.not_le] at hp); (try (exfalso; first | omega | (cases hp; done))));
      refine wl_skip rfl (by rfl) rfl rfl ?_;
      refine wl_skip rfl (by rfl) rfl rfl ?_;
      refine wl_skip rfl (by rfl) rfl rfl ?_;
      refine wl_skip rfl (by rfl) rfl rfl ?_;
      refine wl_skip rfl (by rfl) rfl rfl ?_;
      refine wl_skip rfl (by rfl) rfl rfl ?_;
      refine wl_skip rfl (by rfl) rfl rfl ?_;
      refine wl_skip rfl (by rfl) rfl rfl ?_;
      refine wl_skip rfl (by rfl) rfl rfl ?_;
      refine wl_skip rfl (by rfl) rfl rfl ?_;
      refine wl_skip rfl (by rfl) rfl rfl ?_;
      apply wl_is; rfl; rfl; rfl; (intro σ' hl; (apply g_pick_t; rfl; (rfl); rfl));
      apply wl_is; rfl; rfl; rfl; (intro σ' hl; (apply g_move; rfl));
      refine wl_skip rfl (by rfl) rfl rfl ?_;
      refine wl_skip rfl (by rfl) rfl rfl ?_;
      refine wl_skip rfl (by rfl) rfl rfl ?_;
      refine wl_skip_raw rfl rfl rfl ?_;
      refine wl_skip_raw rfl rfl rfl ?_;
      refine wl_skip_raw rfl rfl rfl ?_;
      refine wl_skip_raw rfl rfl rfl ?_;
      refine wl_skip_raw rfl rfl rfl ?_;
      refine wl_skip_raw rfl rfl rfl ?_;
      refine wl_skip_raw rfl rfl rfl ?_;
      refine wl_skip_raw rfl rfl rfl ?_;
      refine wl_skip_raw rfl rfl rfl ?_;
      refine wl_skip_raw rfl rfl rfl ?_;
      refine wl_skip_raw rfl rfl rfl ?_;
      refine wl_skip_raw rfl rfl rfl ?_;
      refine wl_skip_raw rfl rfl rfl ?_;
      refine wl_skip rfl (by rfl) rfl rfl ?_;
      apply wl_is; rfl; rfl; rfl; (intro σ' hl; (apply g_pick_t; rfl; (rfl); rfl));
      refine wl_nil ?_; show EX _ _ _ _ _;
      refine ex_cond_t rfl (by rfl) ?_;
      refine ex_seq ?_;
      refine ex_region ?_;
      apply exl_is; rfl; rfl; rfl; (apply g_assign; rfl);
      refine exl_nilT ?_;
      refine ex_ret ?_;
      simp only [thenA, blockA, roundA, noGotoA, retA, ↓reduceIte, Nat.reduceEqDiff];
      rotate_left;
      apply wl_isW; rfl; (rfl); rfl; rfl; (intro σ' hl; (apply g_move; rfl));
      apply wl_isW; rfl; (rfl); rfl; rfl; (intro σ' hl; (apply g_move; rfl));
      apply wl_isW; rfl; (rfl); rfl; rfl; (intro σ' hl; (apply g_indexDl; rfl; rfl; rfl; (rfl); (exact get_map (by assumption))));
      apply wl_isW; rfl; (rfl); rfl; rfl; (intro σ' hl; (apply g_fieldAddr; rfl; rfl; rfl));
      apply wl_isW; rfl; (rfl); rfl; rfl; (intro σ' hl; (apply g_load1; rfl; rfl; (exact .e rfl)));
      apply wl_isW; rfl; (rfl); rfl; rfl; (intro σ' hl; (apply g_move; rfl));
      apply wl_isW; rfl; (rfl); rfl; rfl; (intro σ' hl; (apply g_move; rfl));
      apply wl_isW; rfl; (rfl); rfl; rfl; (intro σ' hl; (apply g_indexDl; rfl; rfl; rfl; (rfl); (exact get_map (by assumption))));
      apply wl_isW; rfl; (rfl); rfl; rfl; (intro σ' hl; (apply g_fieldAddr; rfl; rfl; rfl));
      apply wl_isW; rfl; (rfl); rfl; rfl; (intro σ' hl; (apply g_load1; rfl; rfl; (exact .e rfl)));
      apply wl_isBW; rfl; (rfl); rfl; rfl; (intro σ' hl; (apply g_binInt; rfl; rfl; rfl)); intro _ _;
      apply wl_is; rfl; rfl; rfl; (intro σ' hl; (apply g_pick_f; rfl; (rfl); rfl));
      apply wl_is; rfl; rfl; rfl; (intro σ' hl; (apply g_move; rfl));
      refine wl_case rfl (fun h => ?_) (fun h => ?_) <;> ((first | (subst h; rename BV _ true => h0; have h := h0.eq; clear h0) | (subst h; rename BV _ false => h0; have h := h0.eq; clear h0) | skip); (have hp := h; try simp only [decide_eq_true_eq, decide_eq_false_iff_not, Bool.not_eq_true', Bool.not_eq_false', bne_iff_ne, beq_iff_eq, beq_eq_false_iff_ne, bne_eq_false_iff_eq, Int.not_lt, Int.not_le] at hp); (try (exfalso; first | omega | (cases hp; done))));
      refine wl_skip rfl (by rfl) rfl rfl ?_;
      refine wl_skip rfl (by rfl) rfl rfl ?_;
      refine wl_skip rfl (by rfl) rfl rfl ?_;
      refine wl_skip_raw rfl rfl rfl ?_;
      refine wl_skip_raw rfl rfl rfl ?_;
      refine wl_skip_raw rfl rfl rfl ?_;
      refine wl_skip_raw rfl rfl rfl ?_;
      refine wl_skip_raw rfl rfl rfl ?_;
      refine wl_skip_raw rfl rfl rfl ?_;
      refine wl_skip_raw rfl rfl rfl ?_;
      refine wl_skip_raw rfl rfl rfl ?_;
      refine wl_skip_raw rfl rfl rfl ?_;
      refine wl_skip_raw rfl rfl rfl ?_;
      refine wl_skip_raw rfl rfl rfl ?_;
      refine wl_skip_raw rfl rfl rfl ?_;
      refine wl_skip_raw rfl rfl rfl ?_;
      refine wl_skip rfl (by rfl) rfl rfl ?_;
      apply wl_is; rfl; rfl; rfl; (intro σ' hl; (apply g_pick_t; rfl; (rfl); rfl));
      refine wl_nil ?_; show EX _ _ _ _ _;
      refine ex_cond_t rfl (by rfl) ?_;
      refine ex_seq ?_;
      refine ex_region ?_;
      apply exl_is; rfl; rfl; rfl; (apply g_assign; rfl);
      refine exl_nilT ?_;
      refine ex_ret ?_;
      simp only [thenA, blockA, roundA, noGotoA, retA, ↓reduceIte, Nat.reduceEqDiff];
      rotate_left;
      apply wl_isW; rfl; (rfl); rfl; rfl; (intro σ' hl; (apply g_move; rfl));
      apply wl_isBW; rfl; (rfl); rfl; rfl; (intro σ' hl; (apply g_binInt; rfl; rfl; rfl)); intro _ _;
      apply wl_isW; rfl; (rfl); rfl; rfl; (intro σ' hl; (apply g_move; rfl));
      refine wl_case rfl (fun h => ?_) (fun h => ?_) <;> ((first | (subst h; rename BV _ true => h0; have h := h0.eq; clear h0) | (subst h; rename BV _ false => h0; have h := h0.eq; clear h0) | skip); (have hp := h; try simp only [decide_eq_true_eq, decide_eq_false_iff_not, Bool.not_eq_true', Bool.not_eq_false', bne_iff_ne, beq_iff_eq, beq_eq_false_iff_ne, bne_eq_false_iff_eq, Int.not_lt, Int.not_le] at hp); (try (exfalso; first | omega | (cases hp; done))));
      apply wl_isW; rfl; (rfl); rfl; rfl; (intro σ' hl; (apply g_move; rfl));
      apply wl_isW; rfl; (rfl); rfl; rfl; (intro σ' hl; (apply g_move; rfl));
      apply wl_isW; rfl; (rfl); rfl; rfl; (intro σ' hl; (apply g_indexDl; rfl; rfl; rfl; (rfl); (exact get_map (by assumption))));
      apply wl_isW; rfl; (rfl); rfl; rfl; (intro σ' hl; (apply g_fieldAddr; rfl; rfl; rfl));
      apply wl_isW; rfl; (rfl); rfl; rfl; (intro σ' hl; (apply g_load1; rfl; rfl; (exact .e rfl)));
      apply wl_isW; rfl; (rfl); rfl; rfl; (intro σ' hl; (apply g_move; rfl));
      apply wl_isW; rfl; (rfl); rfl; rfl; (intro σ' hl; (apply g_move; rfl));
      apply wl_isW; rfl; (rfl); rfl; rfl; (intro σ' hl; (apply g_sub; rfl; rfl; rfl; exact ⟨by omega, by omega⟩));
      apply wl_isW; rfl; (rfl); rfl; rfl; (intro σ' hl; (apply g_indexDl; rfl; rfl; rfl; (assumption); (exact get_map (by assumption))));
      apply wl_isW; rfl; (rfl); rfl; rfl; (intro σ' hl; (apply g_fieldAddr; rfl; rfl; rfl));
      apply wl_isW; rfl; (rfl); rfl; rfl; (intro σ' hl; (apply g_load1; rfl; rfl; (exact .e rfl)));
      apply wl_isW; rfl; (rfl); rfl; rfl; (intro σ' hl; (apply g_add; rfl; rfl; rfl; exact ⟨by omega, by omega⟩));
      apply wl_isBW; rfl; (rfl); rfl; rfl; (intro σ' hl; (apply g_binInt; rfl; rfl; rfl)); intro _ _;
      apply wl_isW; rfl; (rfl); rfl; rfl; (intro σ' hl; (apply g_pick_t; rfl; (rfl); rfl));
      apply wl_is; rfl; rfl; rfl; (intro σ' hl; (apply g_pick_f; rfl; (rfl); rfl));
      refine wl_nil ?_; show EX _ _ _ _ _;
      refine ex_cond rfl (fun h => ?_) (fun h => ?_) <;> ((first | (subst h; rename BV _ true => h0; have h := h0.eq; clear h0) | (subst h; rename BV _ false => h0; have h := h0.eq; clear h0) | skip); (have hp := h; try simp only [decide_eq_true_eq, decide_eq_false_iff_not, Bool.not_eq_true', Bool.not_eq_false', bne_iff_ne, beq_iff_eq, beq_eq_false_iff_ne, bne_eq_false_iff_eq, Int.not_lt, Int.not_le] at hp); (try (exfalso; first | omega | (cases hp; done))));
      refine ex_seq ?_;
      refine ex_region ?_;
      apply exl_is; rfl; rfl; rfl; (apply g_assign; rfl);
      refine exl_nilT ?_;
      refine ex_ret ?_;
      simp only [thenA, blockA, roundA, noGotoA, retA, ↓reduceIte, Nat.reduceEqDiff];
      rotate_left;
      refine ex_skip ?_;
      refine ex_region ?_;
      apply exl_is; rfl; rfl; rfl; (apply g_move; rfl);
      apply exl_is; rfl; rfl; rfl; (apply g_add; rfl; rfl; rfl; exact ⟨by omega, by omega⟩);
      apply exl_is; rfl; rfl; rfl; (apply g_assign; rfl);
      refine exl_nil ?_;
      simp only [thenA, blockA, roundA, noGotoA, retA, ↓reduceIte, Nat.reduceEqDiff];
      rotate_left
      (all_goals (repeat (rename BV _ _ => hbv; cases hbv)))
      all_goals (try (exfalso; first | (rename true = false => hx; cases hx; done) | (rename false = true => hx; cases hx; done)))
      all_goals first
        | (focus
            have e : chkFrom (-2) l = false := by rw [hI2]; simp [*]; try (intros; omega)
            rw [e]
            refine ret_is .nil (.cons (.ofTmp rfl) .nil) (by repeat (first | exact List.Sublist.refl _ | apply List.Sublist.cons_cons | apply List.Sublist.cons)) ?_
            rfl)
        | (have hxt : dayB x.t = true := by assumption
           have hxt2 := dayB_iff.1 hxt
           have e : chkFrom (-2) l = chkFrom (lastOf l (k + 1)) (l.drop (k + 1)) := by rw [hI2, hp1]; simp [*]; try omega
           exact ⟨k + 1, ⟨hk, e, by rw [hp1]; omega, by rw [hp1]; omega⟩, by omega, (St.le_of (by repeat (first | exact trivial | refine ⟨rfl, ?_⟩)) (by repeat (first | exact List.Sublist.refl _ | apply List.Sublist.cons_cons | apply List.Sublist.cons)))⟩)
  · rw [List.drop_of_length_le (by omega)] at hI2
    rw [hI2]
    refine ex_seq ?_;
    refine ex_seq ?_;
    refine ex_region ?_;
    apply exl_is; rfl; rfl; rfl; (apply g_move; rfl);
    apply exl_is; rfl; rfl; rfl; (apply g_move; rfl);
    apply exl_is; rfl; rfl; rfl; (apply g_len; rfl; rfl; (exact (List.length_map _).symm));
    apply exl_isB; rfl; rfl; rfl; (apply g_binInt; rfl; rfl; rfl); intro _ _;
    refine exl_nilT ?_;
    refine ex_cond rfl (fun h => ?_) (fun h => ?_) <;> ((first | (subst h; rename BV _ true => h0; have h := h0.eq; clear h0) | (subst h; rename BV _ false => h0; have h := h0.eq; clear h0) | skip); (have hp := h; try simp only [decide_eq_true_eq, decide_eq_false_iff_not, Bool.not_eq_true', Bool.not_eq_false', bne_iff_ne, beq_iff_eq, beq_eq_false_iff_ne, bne_eq_false_iff_eq, Int.not_lt, Int.not_le] at hp); (try (exfalso; first | omega | (cases hp; done))));
    refine ex_exit ?_;
    refine ex_seq ?_;
    refine ex_region ?_;
    apply exl_is; rfl; rfl; rfl; (apply g_assign; rfl);
    refine exl_nilT ?_;
    refine ex_ret ?_;
    simp only [thenA, blockA, roundA, noGotoA, retA, ↓reduceIte, Nat.reduceEqDiff];
    rotate_left
    (all_goals (repeat (rename BV _ _ => hbv; cases hbv)))
    all_goals (try (exfalso; first | (rename true = false => hx; cases hx; done) | (rename false = true => hx; cases hx; done)))
    refine ret_is .nil (.cons (.ofTmp rfl) .nil) (by repeat (first | exact List.Sublist.refl _ | apply List.Sublist.cons_cons | apply List.Sublist.cons)) ?_
    rfl
end Go.Proofs.YtccjolaolmpifaaDoor
