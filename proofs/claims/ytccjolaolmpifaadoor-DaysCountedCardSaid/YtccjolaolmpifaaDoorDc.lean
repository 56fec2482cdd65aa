/- Count, Nth, Has: both packages. -/
import Derived.Test.YtccjolaolmpifaaDoorDb
namespace Go.Proofs.YtccjolaolmpifaaDoor
set_option linter.unusedSimpArgs false
set_option linter.unusedVariables false
def countL (l : List Sp) : Int × Int := if checkL l = 0 then (cntL l, 0) else (0, checkL l)
theorem cnt_take {l : List Sp} {k : Nat} {x : Sp} (h : l[k]? = some x) : cntL (l.take (k + 1)) = cntL (l.take k) + (x.t - x.f + 1) := by
  unfold cntL; rw [List.take_add_one, h]; simp
theorem cnt_bound {l : List Sp} (h : chkFrom (-2) l = true) : ∀ k, 0 ≤ cntL (l.take k) ∧ cntL (l.take k) ≤ k * 73049
  | 0 => by simp [cntL]
  | k + 1 => by
    have ih := cnt_bound h k
    cases hx : l[k]? with
    | none =>
      have hl : l.length ≤ k := by rwa [List.getElem?_eq_none_iff] at hx
      rw [List.take_of_length_le (by omega)] at ih ⊢
      omega
    | some x =>
      have := chk_low h x (List.mem_of_getElem? hx)
      rw [cnt_take hx]
      omega
set_option maxHeartbeats 2000000 in
set_option maxRecDepth 10000 in
theorem count_c (l : List Sp) (σ : List Ent) : SCall Tryd.prog 17 [sps l] σ (Is (.tup [.int .i64 (countL l).1, .int .i64 (countL l).2]) σ) := by
  refine scall_of Tryd.func17 rfl (by simp) ?_
  have hcc := check_c l
  have hrc := rCheck_c l
  by_cases hc : checkL l = 0
  · rw [hc] at hcc hrc
    obtain ⟨hl1, hl2⟩ := check_zero hc
    have e : countL l = (cntL l, 0) := by unfold countL; rw [if_pos hc]
    rw [e]
    clear e hc
    have hb := cnt_bound hl2
    refine ex_seq ?_;
    refine ex_region ?_;
    apply exl_is; rfl; rfl; rfl; (apply g_assign; rfl);
    apply exl_is; rfl; rfl; rfl; (apply g_assign; rfl);
    refine exl_nilT ?_;
    refine ex_seq ?_;
    refine ex_seq ?_;
    refine ex_region ?_;
    apply exl_is; rfl; rfl; rfl; (apply g_move; rfl);
    apply exl_is; rfl; rfl; rfl; (exact g_call rfl rfl (enters_b (by kernel_rfl)) (hcc _));
    apply exl_is; rfl; rfl; rfl; (apply g_assign; rfl);
    refine exl_nilT ?_;
    refine ex_seq ?_;
    refine ex_region ?_;
    apply exl_is; rfl; rfl; rfl; (apply g_move; rfl);
    apply exl_isB; rfl; rfl; rfl; (apply g_binInt; rfl; rfl; rfl); intro _ _;
    refine exl_nilT ?_;
    refine ex_cond rfl (fun h => ?_) (fun h => ?_) <;> ((first | (subst h; rename BV _ true => h0; have h := h0.eq; clear h0) | (subst h; rename BV _ false => h0; have h := h0.eq; clear h0) | skip); (have hp := h; try simp only [decide_eq_true_eq, decide_eq_false_iff_not, Bool.not_eq_true', Bool.not_eq_false', bne_iff_ne, beq_iff_eq, beq_eq_false_iff_ne, bne_eq_false_iff_eq, Int.not_lt, Int.not_le] at hp); (try (exfalso; first | omega | (cases hp; done))));
    refine ex_skip ?_;
    refine ex_seq ?_;
    refine ex_seq ?_;
    refine ex_region ?_;
    apply exl_is; rfl; rfl; rfl; (apply g_move; rfl);
    apply exl_is; rfl; rfl; rfl; (apply g_len; rfl; rfl; (exact (List.length_map _).symm));
    apply exl_is; rfl; rfl; rfl; (apply g_move; rfl);
    refine exl_nilT ?_;
    refine ex_block ?_;
    simp only [thenA, blockA, roundA, noGotoA, retA, ↓reduceIte, Nat.reduceEqDiff];
    rotate_left
    (all_goals (repeat (rename BV _ _ => hbv; cases hbv)))
    all_goals (try (exfalso; first | (rename true = false => hx; cases hx; done) | (rename false = true => hx; cases hx; done)))
    refine ex_loop (fun (k : Nat) => (⟨[(11, sps l), (12, .int .i64 l.length), (2, .int .i64 (cntL (l.take k))), (13, .int .i64 k)], σ, [], Tryd.f17.ntmps⟩ : St)) (fun k => k ≤ l.length) (fun k => l.length - k) 0 (Nat.zero_le _) (St.le_of (by repeat (first | exact trivial | refine ⟨rfl, ?_⟩)) (by repeat (first | exact List.Sublist.refl _ | apply List.Sublist.cons_cons | apply List.Sublist.cons))) ?_
    intro k hI
    have hbk := hb k
    have hbk1 := hb (k + 1)
    by_cases hk : k < l.length
    · obtain ⟨x, hx⟩ : ∃ x, l[k]? = some x := ⟨_, List.getElem?_eq_getElem hk⟩
      have hlow := chk_low hl2 x (List.mem_of_getElem? hx)
      have hct := cnt_take hx
      obtain ⟨n, hn⟩ : ∃ n, cntL (l.take k) = n := ⟨_, rfl⟩
      obtain ⟨m, hm⟩ : ∃ m, cntL (l.take (k + 1)) = m := ⟨_, rfl⟩
      rw [hn] at hbk hct ⊢
      rw [hm] at hbk1 hct
      have hm2 : n + (x.t - x.f + 1) = m := by omega
      refine ex_seq ?_;
      refine ex_region ?_;
      apply exl_isB; rfl; rfl; rfl; (apply g_binInt; rfl; rfl; rfl); intro _ _;
      refine exl_nilT ?_;
      refine ex_seq ?_;
      refine ex_cond rfl (fun h => ?_) (fun h => ?_) <;> ((first | (subst h; rename BV _ true => h0; have h := h0.eq; clear h0) | (subst h; rename BV _ false => h0; have h := h0.eq; clear h0) | skip); (have hp := h; try simp only [decide_eq_true_eq, decide_eq_false_iff_not, Bool.not_eq_true', Bool.not_eq_false', bne_iff_ne, beq_iff_eq, beq_eq_false_iff_ne, bne_eq_false_iff_eq, Int.not_lt, Int.not_le] at hp); (try (exfalso; first | omega | (cases hp; done))));
      refine ex_skip ?_;
      refine ex_seq ?_;
      refine ex_block ?_;
      refine ex_seq ?_;
      refine ex_region ?_;
      apply exl_is; rfl; rfl; rfl; (apply g_indexDl; rfl; rfl; rfl; (rfl); (exact get_map (by assumption)));
      apply exl_is; rfl; rfl; rfl; (apply g_loadAgg; rfl; decide; rfl; (exact .e rfl rfl));
      refine exl_box rfl rfl rfl (g_alloc rfl) ?_; intro _;
      apply exl_do; rfl; rfl; (apply g_store'; rfl; rfl; rfl; (exact Upd.here); (simp only [setL, List.set_cons_zero, List.set_cons_succ, AV.cells]; rfl); rfl; rfl; rfl; exact Nat.le_of_ble_eq_true rfl);
      refine exl_nilT ?_;
      refine ex_region ?_;
      apply exl_is; rfl; rfl; rfl; (apply g_move; rfl);
      apply exl_is; rfl; rfl; rfl; (apply g_fieldAddr; rfl; rfl; rfl);
      apply exl_is; rfl; rfl; rfl; (apply g_load1; rfl; rfl; (exact .p (by ((repeat (first | exact List.Mem.head _ | assumption | refine List.Mem.tail _ ?_)); done)) rfl));
      apply exl_is; rfl; rfl; rfl; (apply g_fieldAddr; rfl; rfl; rfl);
      apply exl_is; rfl; rfl; rfl; (apply g_load1; rfl; rfl; (exact .p (by ((repeat (first | exact List.Mem.head _ | assumption | refine List.Mem.tail _ ?_)); done)) rfl));
      apply exl_is; rfl; rfl; rfl; (apply g_sub; rfl; rfl; rfl; exact ⟨by omega, by omega⟩);
      apply exl_is; rfl; rfl; rfl; (apply g_add; rfl; rfl; rfl; exact ⟨by omega, by omega⟩);
      apply exl_is; rfl; rfl; rfl; (apply g_add; rfl; rfl; rfl; exact ⟨by omega, by omega⟩);
      apply exl_is; rfl; rfl; rfl; (apply g_assign; rfl);
      refine exl_nil ?_;
      refine ex_region ?_;
      apply exl_is; rfl; rfl; rfl; (apply g_add; rfl; rfl; rfl; exact ⟨by omega, by omega⟩);
      apply exl_is; rfl; rfl; rfl; (apply g_move; rfl);
      refine exl_nil ?_;
      simp only [thenA, blockA, roundA, noGotoA, retA, ↓reduceIte, Nat.reduceEqDiff];
      rotate_left
      (all_goals (repeat (rename BV _ _ => hbv; cases hbv)))
      all_goals (try (exfalso; first | (rename true = false => hx; cases hx; done) | (rename false = true => hx; cases hx; done)))
      refine ⟨k + 1, hk, by omega, ?_⟩
      rw [hm, ← hm2]
      exact (St.le_of (by repeat (first | exact trivial | refine ⟨rfl, ?_⟩)) (by repeat (first | exact List.Sublist.refl _ | apply List.Sublist.cons_cons | apply List.Sublist.cons)))
    · rw [List.take_of_length_le (by omega)]
      refine ex_seq ?_;
      refine ex_region ?_;
      apply exl_isB; rfl; rfl; rfl; (apply g_binInt; rfl; rfl; rfl); intro _ _;
      refine exl_nilT ?_;
      refine ex_seq ?_;
      refine ex_cond rfl (fun h => ?_) (fun h => ?_) <;> ((first | (subst h; rename BV _ true => h0; have h := h0.eq; clear h0) | (subst h; rename BV _ false => h0; have h := h0.eq; clear h0) | skip); (have hp := h; try simp only [decide_eq_true_eq, decide_eq_false_iff_not, Bool.not_eq_true', Bool.not_eq_false', bne_iff_ne, beq_iff_eq, beq_eq_false_iff_ne, bne_eq_false_iff_eq, Int.not_lt, Int.not_le] at hp); (try (exfalso; first | omega | (cases hp; done))));
      refine ex_exit ?_;
      refine ex_seq ?_;
      refine ex_region ?_;
      apply exl_is; rfl; rfl; rfl; (apply g_move; rfl);
      apply exl_is; rfl; rfl; rfl; (apply g_assign; rfl);
      apply exl_is; rfl; rfl; rfl; (apply g_assign; rfl);
      refine exl_nilT ?_;
      refine ex_ret ?_;
      simp only [thenA, blockA, roundA, noGotoA, retA, ↓reduceIte, Nat.reduceEqDiff];
      rotate_left
      (all_goals (repeat (rename BV _ _ => hbv; cases hbv)))
      all_goals (try (exfalso; first | (rename true = false => hx; cases hx; done) | (rename false = true => hx; cases hx; done)))
      refine ret_is .nil (.cons (.ofTmp rfl) (.cons (.ofTmp rfl) .nil)) (by repeat (first | exact List.Sublist.refl _ | apply List.Sublist.cons_cons | apply List.Sublist.cons)) ?_
      rfl
  · obtain ⟨e, he⟩ : ∃ e, checkL l = e := ⟨_, rfl⟩
    rw [he] at hc hcc hrc
    rw [show countL l = (0, e) by unfold countL; rw [he, if_neg hc]]
    refine ex_seq ?_;
    refine ex_region ?_;
    apply exl_is; rfl; rfl; rfl; (apply g_assign; rfl);
    apply exl_is; rfl; rfl; rfl; (apply g_assign; rfl);
    refine exl_nilT ?_;
    refine ex_seq ?_;
    refine ex_seq ?_;
    refine ex_region ?_;
    apply exl_is; rfl; rfl; rfl; (apply g_move; rfl);
    apply exl_is; rfl; rfl; rfl; (exact g_call rfl rfl (enters_b (by kernel_rfl)) (hcc _));
    apply exl_is; rfl; rfl; rfl; (apply g_assign; rfl);
    refine exl_nilT ?_;
    refine ex_seq ?_;
    refine ex_region ?_;
    apply exl_is; rfl; rfl; rfl; (apply g_move; rfl);
    apply exl_isB; rfl; rfl; rfl; (apply g_binInt; rfl; rfl; rfl); intro _ _;
    refine exl_nilT ?_;
    refine ex_cond rfl (fun h => ?_) (fun h => ?_) <;> ((first | (subst h; rename BV _ true => h0; have h := h0.eq; clear h0) | (subst h; rename BV _ false => h0; have h := h0.eq; clear h0) | skip); (have hp := h; try simp only [decide_eq_true_eq, decide_eq_false_iff_not, Bool.not_eq_true', Bool.not_eq_false', bne_iff_ne, beq_iff_eq, beq_eq_false_iff_ne, bne_eq_false_iff_eq, Int.not_lt, Int.not_le] at hp); (try (exfalso; first | omega | (cases hp; done))));
    refine ex_seq ?_;
    refine ex_region ?_;
    apply exl_is; rfl; rfl; rfl; (apply g_move; rfl);
    apply exl_is; rfl; rfl; rfl; (apply g_assign; rfl);
    apply exl_is; rfl; rfl; rfl; (apply g_assign; rfl);
    refine exl_nilT ?_;
    refine ex_ret ?_;
    simp only [thenA, blockA, roundA, noGotoA, retA, ↓reduceIte, Nat.reduceEqDiff];
    rotate_left
    (all_goals (repeat (rename BV _ _ => hbv; cases hbv)))
    all_goals (try (exfalso; first | (rename true = false => hx; cases hx; done) | (rename false = true => hx; cases hx; done)))
    refine ret_is .nil (.cons (.ofTmp rfl) (.cons (.ofTmp rfl) .nil)) (by repeat (first | exact List.Sublist.refl _ | apply List.Sublist.cons_cons | apply List.Sublist.cons)) ?_
    rfl
set_option maxHeartbeats 2000000 in
set_option maxRecDepth 10000 in
theorem rCount_c (l : List Sp) (σ : List Ent) : SCall Tryd.prog 18 [sps l] σ (Is (.tup [.int .i64 (countL l).1, .int .i64 (countL l).2]) σ) := by
  refine scall_of Tryd.func18 rfl (by simp) ?_
  have hcc := check_c l
  have hrc := rCheck_c l
  by_cases hc : checkL l = 0
  · rw [hc] at hcc hrc
    obtain ⟨hl1, hl2⟩ := check_zero hc
    have e : countL l = (cntL l, 0) := by unfold countL; rw [if_pos hc]
    rw [e]
    clear e hc
    have hb := cnt_bound hl2
    refine ex_seq ?_;
    refine ex_region ?_;
    apply exl_is; rfl; rfl; rfl; (apply g_assign; rfl);
    apply exl_is; rfl; rfl; rfl; (apply g_assign; rfl);
    refine exl_nilT ?_;
    refine ex_seq ?_;
    refine ex_region ?_;
    apply exl_is; rfl; rfl; rfl; (apply g_move; rfl);
    apply exl_is; rfl; rfl; rfl; (exact g_call rfl rfl (enters_b (by kernel_rfl)) (hrc _));
    apply exl_is; rfl; rfl; rfl; (apply g_assign; rfl);
    refine exl_nilT ?_;
    refine ex_seq ?_;
    refine ex_seq ?_;
    refine ex_region ?_;
    apply exl_is; rfl; rfl; rfl; (apply g_move; rfl);
    apply exl_isB; rfl; rfl; rfl; (apply g_binInt; rfl; rfl; rfl); intro _ _;
    refine exl_nilT ?_;
    refine ex_cond rfl (fun h => ?_) (fun h => ?_) <;> ((first | (subst h; rename BV _ true => h0; have h := h0.eq; clear h0) | (subst h; rename BV _ false => h0; have h := h0.eq; clear h0) | skip); (have hp := h; try simp only [decide_eq_true_eq, decide_eq_false_iff_not, Bool.not_eq_true', Bool.not_eq_false', bne_iff_ne, beq_iff_eq, beq_eq_false_iff_ne, bne_eq_false_iff_eq, Int.not_lt, Int.not_le] at hp); (try (exfalso; first | omega | (cases hp; done))));
    refine ex_skip ?_;
    refine ex_seq ?_;
    refine ex_region ?_;
    apply exl_is; rfl; rfl; rfl; (apply g_assign; rfl);
    refine exl_nilT ?_;
    refine ex_seq ?_;
    refine ex_seq ?_;
    refine ex_region ?_;
    apply exl_is; rfl; rfl; rfl; (apply g_assign; rfl);
    refine exl_nilT ?_;
    refine ex_block ?_;
    simp only [thenA, blockA, roundA, noGotoA, retA, ↓reduceIte, Nat.reduceEqDiff];
    rotate_left
    (all_goals (repeat (rename BV _ _ => hbv; cases hbv)))
    all_goals (try (exfalso; first | (rename true = false => hx; cases hx; done) | (rename false = true => hx; cases hx; done)))
    refine ex_loop (fun (k : Nat) => (⟨[(0, sps l), (5, .int .i64 (cntL (l.take k))), (6, .int .i64 k)], σ, [], Tryd.f18.ntmps⟩ : St)) (fun k => k ≤ l.length) (fun k => l.length - k) 0 (Nat.zero_le _) (St.le_of (by repeat (first | exact trivial | refine ⟨rfl, ?_⟩)) (by repeat (first | exact List.Sublist.refl _ | apply List.Sublist.cons_cons | apply List.Sublist.cons))) ?_
    intro k hI
    have hbk := hb k
    have hbk1 := hb (k + 1)
    by_cases hk : k < l.length
    · obtain ⟨x, hx⟩ : ∃ x, l[k]? = some x := ⟨_, List.getElem?_eq_getElem hk⟩
      have hlow := chk_low hl2 x (List.mem_of_getElem? hx)
      have hct := cnt_take hx
      obtain ⟨n, hn⟩ : ∃ n, cntL (l.take k) = n := ⟨_, rfl⟩
      obtain ⟨m, hm⟩ : ∃ m, cntL (l.take (k + 1)) = m := ⟨_, rfl⟩
      rw [hn] at hbk hct ⊢
      rw [hm] at hbk1 hct
      have hm2 : n + x.t - x.f + 1 = m := by omega
      refine ex_seq ?_;
      refine ex_seq ?_;
      refine ex_region ?_;
      apply exl_is; rfl; rfl; rfl; (apply g_move; rfl);
      apply exl_is; rfl; rfl; rfl; (apply g_move; rfl);
      apply exl_is; rfl; rfl; rfl; (apply g_len; rfl; rfl; (exact (List.length_map _).symm));
      apply exl_isB; rfl; rfl; rfl; (apply g_binInt; rfl; rfl; rfl); intro _ _;
      refine exl_nilT ?_;
      refine ex_cond rfl (fun h => ?_) (fun h => ?_) <;> ((first | (subst h; rename BV _ true => h0; have h := h0.eq; clear h0) | (subst h; rename BV _ false => h0; have h := h0.eq; clear h0) | skip); (have hp := h; try simp only [decide_eq_true_eq, decide_eq_false_iff_not, Bool.not_eq_true', Bool.not_eq_false', bne_iff_ne, beq_iff_eq, beq_eq_false_iff_ne, bne_eq_false_iff_eq, Int.not_lt, Int.not_le] at hp); (try (exfalso; first | omega | (cases hp; done))));
      refine ex_skip ?_;
      refine ex_seq ?_;
      refine ex_block ?_;
      refine ex_drawP rfl rfl (by kernel_rfl) rfl ?_; refine ex_drawQ rfl (by kernel_rfl) rfl ?_;
      apply wl_is; rfl; rfl; rfl; (intro σ' hl; (apply g_move; rfl));
      apply wl_is; rfl; rfl; rfl; (intro σ' hl; (apply g_move; rfl));
      apply wl_is; rfl; rfl; rfl; (intro σ' hl; (apply g_move; rfl));
      apply wl_is; rfl; rfl; rfl; (intro σ' hl; (apply g_indexDl; rfl; rfl; rfl; (rfl); (exact get_map (by assumption))));
      apply wl_is; rfl; rfl; rfl; (intro σ' hl; (apply g_fieldAddr; rfl; rfl; rfl));
      apply wl_is; rfl; rfl; rfl; (intro σ' hl; (apply g_load1; rfl; rfl; (exact .e rfl)));
      apply wl_is; rfl; rfl; rfl; (intro σ' hl; (apply g_add; rfl; rfl; rfl; exact ⟨by omega, by omega⟩));
      apply wl_is; rfl; rfl; rfl; (intro σ' hl; (apply g_move; rfl));
      apply wl_is; rfl; rfl; rfl; (intro σ' hl; (apply g_move; rfl));
      apply wl_is; rfl; rfl; rfl; (intro σ' hl; (apply g_indexDl; rfl; rfl; rfl; (rfl); (exact get_map (by assumption))));
      apply wl_is; rfl; rfl; rfl; (intro σ' hl; (apply g_fieldAddr; rfl; rfl; rfl));
      apply wl_is; rfl; rfl; rfl; (intro σ' hl; (apply g_load1; rfl; rfl; (exact .e rfl)));
      apply wl_is; rfl; rfl; rfl; (intro σ' hl; (apply g_sub; rfl; rfl; rfl; exact ⟨by omega, by omega⟩));
      apply wl_is; rfl; rfl; rfl; (intro σ' hl; (apply g_add; rfl; rfl; rfl; exact ⟨by omega, by omega⟩));
      apply wl_is; rfl; rfl; rfl; (intro σ' hl; (apply g_assign; rfl));
      refine wl_nil ?_; show EX _ _ _ _ _;
      refine ex_region ?_;
      apply exl_is; rfl; rfl; rfl; (apply g_move; rfl);
      apply exl_is; rfl; rfl; rfl; (apply g_add; rfl; rfl; rfl; exact ⟨by omega, by omega⟩);
      apply exl_is; rfl; rfl; rfl; (apply g_assign; rfl);
      refine exl_nil ?_;
      simp only [thenA, blockA, roundA, noGotoA, retA, ↓reduceIte, Nat.reduceEqDiff];
      rotate_left
      (all_goals (repeat (rename BV _ _ => hbv; cases hbv)))
      all_goals (try (exfalso; first | (rename true = false => hx; cases hx; done) | (rename false = true => hx; cases hx; done)))
      refine ⟨k + 1, hk, by omega, ?_⟩
      rw [hm, ← hm2]
      exact (St.le_of (by repeat (first | exact trivial | refine ⟨rfl, ?_⟩)) (by repeat (first | exact List.Sublist.refl _ | apply List.Sublist.cons_cons | apply List.Sublist.cons)))
    · rw [List.take_of_length_le (by omega)]
      refine ex_seq ?_;
      refine ex_seq ?_;
      refine ex_region ?_;
      apply exl_is; rfl; rfl; rfl; (apply g_move; rfl);
      apply exl_is; rfl; rfl; rfl; (apply g_move; rfl);
      apply exl_is; rfl; rfl; rfl; (apply g_len; rfl; rfl; (exact (List.length_map _).symm));
      apply exl_isB; rfl; rfl; rfl; (apply g_binInt; rfl; rfl; rfl); intro _ _;
      refine exl_nilT ?_;
      refine ex_cond rfl (fun h => ?_) (fun h => ?_) <;> ((first | (subst h; rename BV _ true => h0; have h := h0.eq; clear h0) | (subst h; rename BV _ false => h0; have h := h0.eq; clear h0) | skip); (have hp := h; try simp only [decide_eq_true_eq, decide_eq_false_iff_not, Bool.not_eq_true', Bool.not_eq_false', bne_iff_ne, beq_iff_eq, beq_eq_false_iff_ne, bne_eq_false_iff_eq, Int.not_lt, Int.not_le] at hp); (try (exfalso; first | omega | (cases hp; done))));
      refine ex_exit ?_;
      refine ex_seq ?_;
      refine ex_region ?_;
      apply exl_is; rfl; rfl; rfl; (apply g_move; rfl);
      apply exl_is; rfl; rfl; rfl; (apply g_assign; rfl);
      apply exl_is; rfl; rfl; rfl; (apply g_assign; rfl);
      refine exl_nilT ?_;
      refine ex_ret ?_;
      simp only [thenA, blockA, roundA, noGotoA, retA, ↓reduceIte, Nat.reduceEqDiff];
      rotate_left
      (all_goals (repeat (rename BV _ _ => hbv; cases hbv)))
      all_goals (try (exfalso; first | (rename true = false => hx; cases hx; done) | (rename false = true => hx; cases hx; done)))
      refine ret_is .nil (.cons (.ofTmp rfl) (.cons (.ofTmp rfl) .nil)) (by repeat (first | exact List.Sublist.refl _ | apply List.Sublist.cons_cons | apply List.Sublist.cons)) ?_
      rfl
  · obtain ⟨e, he⟩ : ∃ e, checkL l = e := ⟨_, rfl⟩
    rw [he] at hc hcc hrc
    rw [show countL l = (0, e) by unfold countL; rw [he, if_neg hc]]
    refine ex_seq ?_;
    refine ex_region ?_;
    apply exl_is; rfl; rfl; rfl; (apply g_assign; rfl);
    apply exl_is; rfl; rfl; rfl; (apply g_assign; rfl);
    refine exl_nilT ?_;
    refine ex_seq ?_;
    refine ex_region ?_;
    apply exl_is; rfl; rfl; rfl; (apply g_move; rfl);
    apply exl_is; rfl; rfl; rfl; (exact g_call rfl rfl (enters_b (by kernel_rfl)) (hrc _));
    apply exl_is; rfl; rfl; rfl; (apply g_assign; rfl);
    refine exl_nilT ?_;
    refine ex_seq ?_;
    refine ex_seq ?_;
    refine ex_region ?_;
    apply exl_is; rfl; rfl; rfl; (apply g_move; rfl);
    apply exl_isB; rfl; rfl; rfl; (apply g_binInt; rfl; rfl; rfl); intro _ _;
    refine exl_nilT ?_;
    refine ex_cond rfl (fun h => ?_) (fun h => ?_) <;> ((first | (subst h; rename BV _ true => h0; have h := h0.eq; clear h0) | (subst h; rename BV _ false => h0; have h := h0.eq; clear h0) | skip); (have hp := h; try simp only [decide_eq_true_eq, decide_eq_false_iff_not, Bool.not_eq_true', Bool.not_eq_false', bne_iff_ne, beq_iff_eq, beq_eq_false_iff_ne, bne_eq_false_iff_eq, Int.not_lt, Int.not_le] at hp); (try (exfalso; first | omega | (cases hp; done))));
    refine ex_seq ?_;
    refine ex_region ?_;
    apply exl_is; rfl; rfl; rfl; (apply g_move; rfl);
    apply exl_is; rfl; rfl; rfl; (apply g_assign; rfl);
    apply exl_is; rfl; rfl; rfl; (apply g_assign; rfl);
    refine exl_nilT ?_;
    refine ex_ret ?_;
    simp only [thenA, blockA, roundA, noGotoA, retA, ↓reduceIte, Nat.reduceEqDiff];
    rotate_left
    (all_goals (repeat (rename BV _ _ => hbv; cases hbv)))
    all_goals (try (exfalso; first | (rename true = false => hx; cases hx; done) | (rename false = true => hx; cases hx; done)))
    refine ret_is .nil (.cons (.ofTmp rfl) (.cons (.ofTmp rfl) .nil)) (by repeat (first | exact List.Sublist.refl _ | apply List.Sublist.cons_cons | apply List.Sublist.cons)) ?_
    rfl
/-- What Nth gives. -/
def nthR (l : List Sp) (k : Int) : Int × Bool × Int := if checkL l ≠ 0 then (0, false, checkL l) else if k < 0 then (0, false, 1) else match nthL l k with | some d => (d, true, 0) | none => (0, false, 0)
set_option maxHeartbeats 2000000 in
set_option maxRecDepth 10000 in
theorem nth_c (l : List Sp) (k0 : Int) (hk0 : k0 ≤ 9223372036854775807) (σ : List Ent) : SCall Tryd.prog 19 [sps l, .int .i64 k0] σ (Is (.tup [.int .i64 (nthR l k0).1, .bool (nthR l k0).2.1, .int .i64 (nthR l k0).2.2]) σ) := by
  refine scall_of Tryd.func19 rfl (by simp) ?_
  have hcc := check_c l
  have hrc := rCheck_c l
  by_cases hc : checkL l = 0
  · rw [hc] at hcc hrc
    obtain ⟨hl1, hl2⟩ := check_zero hc
    refine ex_seq ?_;
    refine ex_region ?_;
    apply exl_is; rfl; rfl; rfl; (apply g_assign; rfl);
    apply exl_is; rfl; rfl; rfl; (apply g_assign; rfl);
    apply exl_is; rfl; rfl; rfl; (apply g_assign; rfl);
    refine exl_nilT ?_;
    refine ex_seq ?_;
    refine ex_seq ?_;
    refine ex_region ?_;
    apply exl_is; rfl; rfl; rfl; (apply g_move; rfl);
    apply exl_is; rfl; rfl; rfl; (exact g_call rfl rfl (enters_b (by kernel_rfl)) (hcc _));
    apply exl_is; rfl; rfl; rfl; (apply g_assign; rfl);
    refine exl_nilT ?_;
    refine ex_seq ?_;
    refine ex_region ?_;
    apply exl_is; rfl; rfl; rfl; (apply g_move; rfl);
    apply exl_isB; rfl; rfl; rfl; (apply g_binInt; rfl; rfl; rfl); intro _ _;
    refine exl_nilT ?_;
    refine ex_cond rfl (fun h => ?_) (fun h => ?_) <;> ((first | (subst h; rename BV _ true => h0; have h := h0.eq; clear h0) | (subst h; rename BV _ false => h0; have h := h0.eq; clear h0) | skip); (have hp := h; try simp only [decide_eq_true_eq, decide_eq_false_iff_not, Bool.not_eq_true', Bool.not_eq_false', bne_iff_ne, beq_iff_eq, beq_eq_false_iff_ne, bne_eq_false_iff_eq, Int.not_lt, Int.not_le] at hp); (try (exfalso; first | omega | (cases hp; done))));
    refine ex_skip ?_;
    refine ex_seq ?_;
    refine ex_seq ?_;
    refine ex_region ?_;
    apply exl_is; rfl; rfl; rfl; (apply g_move; rfl);
    apply exl_isB; rfl; rfl; rfl; (apply g_binInt; rfl; rfl; rfl); intro _ _;
    refine exl_nilT ?_;
    refine ex_cond rfl (fun h => ?_) (fun h => ?_) <;> ((first | (subst h; rename BV _ true => h0; have h := h0.eq; clear h0) | (subst h; rename BV _ false => h0; have h := h0.eq; clear h0) | skip); (have hp := h; try simp only [decide_eq_true_eq, decide_eq_false_iff_not, Bool.not_eq_true', Bool.not_eq_false', bne_iff_ne, beq_iff_eq, beq_eq_false_iff_ne, bne_eq_false_iff_eq, Int.not_lt, Int.not_le] at hp); (try (exfalso; first | omega | (cases hp; done))));
    refine ex_seq ?_;
    refine ex_region ?_;
    apply exl_is; rfl; rfl; rfl; (apply g_assign; rfl);
    apply exl_is; rfl; rfl; rfl; (apply g_assign; rfl);
    apply exl_is; rfl; rfl; rfl; (apply g_assign; rfl);
    refine exl_nilT ?_;
    refine ex_ret ?_;
    simp only [thenA, blockA, roundA, noGotoA, retA, ↓reduceIte, Nat.reduceEqDiff];
    rotate_left;
    refine ex_skip ?_;
    refine ex_seq ?_;
    refine ex_seq ?_;
    refine ex_region ?_;
    apply exl_is; rfl; rfl; rfl; (apply g_move; rfl);
    apply exl_is; rfl; rfl; rfl; (apply g_len; rfl; rfl; (exact (List.length_map _).symm));
    apply exl_is; rfl; rfl; rfl; (apply g_move; rfl);
    refine exl_nilT ?_;
    refine ex_block ?_;
    rotate_left
    (all_goals (repeat (rename BV _ _ => hbv; cases hbv)))
    all_goals (try (exfalso; first | (rename true = false => hx; cases hx; done) | (rename false = true => hx; cases hx; done)))
    · rw [show nthR l k0 = (0, false, 1) by unfold nthR; rw [if_neg (by omega), if_pos (by assumption)]]
      refine ret_is .nil (.cons (.ofTmp rfl) (.cons (.ofTmp rfl) (.cons (.ofTmp rfl) .nil))) (by repeat (first | exact List.Sublist.refl _ | apply List.Sublist.cons_cons | apply List.Sublist.cons)) ?_
      rfl
    have e : nthR l k0 = (match nthL l k0 with | some d => (d, true, 0) | none => (0, false, 0)) := by unfold nthR; rw [if_neg (by omega), if_neg (by omega)]
    rw [e]
    clear e hc
    refine ex_loop (fun (z : Nat × Int) => (⟨[(17, sps l), (18, .int .i64 l.length), (1, .int .i64 z.2), (19, .int .i64 z.1)], σ, [], Tryd.f19.ntmps⟩ : St)) (fun z => z.1 ≤ l.length ∧ nthL l k0 = nthL (l.drop z.1) z.2 ∧ 0 ≤ z.2 ∧ z.2 ≤ k0) (fun z => l.length - z.1) (0, k0) (⟨Nat.zero_le _, rfl, by assumption, Int.le_refl _⟩) (St.le_of (by repeat (first | exact trivial | refine ⟨rfl, ?_⟩)) (by repeat (first | exact List.Sublist.refl _ | apply List.Sublist.cons_cons | apply List.Sublist.cons))) ?_
    intro z hI
    obtain ⟨i, k⟩ := z
    obtain ⟨hI1, hI2, hI3, hI4⟩ := hI
    dsimp only at hI1 hI2 hI3 hI4 ⊢
    by_cases hi : i < l.length
    · obtain ⟨x, hx⟩ : ∃ x, l[i]? = some x := ⟨_, List.getElem?_eq_getElem hi⟩
      have hlow := chk_low hl2 x (List.mem_of_getElem? hx)
      rw [sp_drop hx, show nthL (x :: l.drop (i + 1)) k = if k < x.t - x.f + 1 then some (x.f + k) else nthL (l.drop (i + 1)) (k - (x.t - x.f + 1)) from rfl] at hI2
      refine ex_seq ?_;
      refine ex_region ?_;
      apply exl_isB; rfl; rfl; rfl; (apply g_binInt; rfl; rfl; rfl); intro _ _;
      refine exl_nilT ?_;
      refine ex_seq ?_;
      refine ex_cond rfl (fun h => ?_) (fun h => ?_) <;> ((first | (subst h; rename BV _ true => h0; have h := h0.eq; clear h0) | (subst h; rename BV _ false => h0; have h := h0.eq; clear h0) | skip); (have hp := h; try simp only [decide_eq_true_eq, decide_eq_false_iff_not, Bool.not_eq_true', Bool.not_eq_false', bne_iff_ne, beq_iff_eq, beq_eq_false_iff_ne, bne_eq_false_iff_eq, Int.not_lt, Int.not_le] at hp); (try (exfalso; first | omega | (cases hp; done))));
      refine ex_skip ?_;
      refine ex_seq ?_;
      refine ex_block ?_;
      refine ex_seq ?_;
      refine ex_region ?_;
      apply exl_is; rfl; rfl; rfl; (apply g_indexDl; rfl; rfl; rfl; (rfl); (exact get_map (by assumption)));
      apply exl_is; rfl; rfl; rfl; (apply g_loadAgg; rfl; decide; rfl; (exact .e rfl rfl));
      refine exl_box rfl rfl rfl (g_alloc rfl) ?_; intro _;
      apply exl_do; rfl; rfl; (apply g_store'; rfl; rfl; rfl; (exact Upd.here); (simp only [setL, List.set_cons_zero, List.set_cons_succ, AV.cells]; rfl); rfl; rfl; rfl; exact Nat.le_of_ble_eq_true rfl);
      refine exl_nilT ?_;
      refine ex_seq ?_;
      refine ex_region ?_;
      apply exl_is; rfl; rfl; rfl; (apply g_fieldAddr; rfl; rfl; rfl);
      apply exl_is; rfl; rfl; rfl; (apply g_load1; rfl; rfl; (exact .p (by ((repeat (first | exact List.Mem.head _ | assumption | refine List.Mem.tail _ ?_)); done)) rfl));
      apply exl_is; rfl; rfl; rfl; (apply g_fieldAddr; rfl; rfl; rfl);
      apply exl_is; rfl; rfl; rfl; (apply g_load1; rfl; rfl; (exact .p (by ((repeat (first | exact List.Mem.head _ | assumption | refine List.Mem.tail _ ?_)); done)) rfl));
      apply exl_is; rfl; rfl; rfl; (apply g_sub; rfl; rfl; rfl; exact ⟨by omega, by omega⟩);
      apply exl_is; rfl; rfl; rfl; (apply g_add; rfl; rfl; rfl; exact ⟨by omega, by omega⟩);
      apply exl_is; rfl; rfl; rfl; (apply g_assign; rfl);
      refine exl_nilT ?_;
      refine ex_seq ?_;
      refine ex_seq ?_;
      refine ex_region ?_;
      apply exl_is; rfl; rfl; rfl; (apply g_move; rfl);
      apply exl_is; rfl; rfl; rfl; (apply g_move; rfl);
      apply exl_isB; rfl; rfl; rfl; (apply g_binInt; rfl; rfl; rfl); intro _ _;
      refine exl_nilT ?_;
      refine ex_cond rfl (fun h => ?_) (fun h => ?_) <;> ((first | (subst h; rename BV _ true => h0; have h := h0.eq; clear h0) | (subst h; rename BV _ false => h0; have h := h0.eq; clear h0) | skip); (have hp := h; try simp only [decide_eq_true_eq, decide_eq_false_iff_not, Bool.not_eq_true', Bool.not_eq_false', bne_iff_ne, beq_iff_eq, beq_eq_false_iff_ne, bne_eq_false_iff_eq, Int.not_lt, Int.not_le] at hp); (try (exfalso; first | omega | (cases hp; done))));
      refine ex_seq ?_;
      refine ex_region ?_;
      apply exl_is; rfl; rfl; rfl; (apply g_fieldAddr; rfl; rfl; rfl);
      apply exl_is; rfl; rfl; rfl; (apply g_load1; rfl; rfl; (exact .p (by ((repeat (first | exact List.Mem.head _ | assumption | refine List.Mem.tail _ ?_)); done)) rfl));
      apply exl_is; rfl; rfl; rfl; (apply g_move; rfl);
      apply exl_is; rfl; rfl; rfl; (apply g_add; rfl; rfl; rfl; exact ⟨by omega, by omega⟩);
      apply exl_is; rfl; rfl; rfl; (apply g_assign; rfl);
      apply exl_is; rfl; rfl; rfl; (apply g_assign; rfl);
      apply exl_is; rfl; rfl; rfl; (apply g_assign; rfl);
      refine exl_nilT ?_;
      refine ex_ret ?_;
      simp only [thenA, blockA, roundA, noGotoA, retA, ↓reduceIte, Nat.reduceEqDiff];
      rotate_left;
      refine ex_skip ?_;
      refine ex_region ?_;
      apply exl_is; rfl; rfl; rfl; (apply g_move; rfl);
      apply exl_is; rfl; rfl; rfl; (apply g_move; rfl);
      apply exl_is; rfl; rfl; rfl; (apply g_sub; rfl; rfl; rfl; exact ⟨by omega, by omega⟩);
      apply exl_is; rfl; rfl; rfl; (apply g_assign; rfl);
      refine exl_nil ?_;
      refine ex_region ?_;
      apply exl_is; rfl; rfl; rfl; (apply g_add; rfl; rfl; rfl; exact ⟨by omega, by omega⟩);
      apply exl_is; rfl; rfl; rfl; (apply g_move; rfl);
      refine exl_nil ?_;
      simp only [thenA, blockA, roundA, noGotoA, retA, ↓reduceIte, Nat.reduceEqDiff];
      rotate_left
      (all_goals (repeat (rename BV _ _ => hbv; cases hbv)))
      all_goals (try (exfalso; first | (rename true = false => hx; cases hx; done) | (rename false = true => hx; cases hx; done)))
      · rw [if_pos (by assumption)] at hI2
        rw [hI2]
        refine ret_is .nil (.cons (.ofTmp rfl) (.cons (.ofTmp rfl) (.cons (.ofTmp rfl) .nil))) (by repeat (first | exact List.Sublist.refl _ | apply List.Sublist.cons_cons | apply List.Sublist.cons)) ?_
        rfl
      · rw [if_neg (by omega)] at hI2
        exact ⟨(i + 1, k - (x.t - x.f + 1)), ⟨hi, hI2, by dsimp only; omega, by dsimp only; omega⟩, by dsimp only; omega, (St.le_of (by repeat (first | exact trivial | refine ⟨rfl, ?_⟩)) (by repeat (first | exact List.Sublist.refl _ | apply List.Sublist.cons_cons | apply List.Sublist.cons)))⟩
    · rw [List.drop_of_length_le (by omega)] at hI2
      rw [hI2]
      refine ex_seq ?_;
      refine ex_region ?_;
      apply exl_isB; rfl; rfl; rfl; (apply g_binInt; rfl; rfl; rfl); intro _ _;
      refine exl_nilT ?_;
      refine ex_seq ?_;
      refine ex_cond rfl (fun h => ?_) (fun h => ?_) <;> ((first | (subst h; rename BV _ true => h0; have h := h0.eq; clear h0) | (subst h; rename BV _ false => h0; have h := h0.eq; clear h0) | skip); (have hp := h; try simp only [decide_eq_true_eq, decide_eq_false_iff_not, Bool.not_eq_true', Bool.not_eq_false', bne_iff_ne, beq_iff_eq, beq_eq_false_iff_ne, bne_eq_false_iff_eq, Int.not_lt, Int.not_le] at hp); (try (exfalso; first | omega | (cases hp; done))));
      refine ex_exit ?_;
      refine ex_seq ?_;
      refine ex_region ?_;
      apply exl_is; rfl; rfl; rfl; (apply g_assign; rfl);
      apply exl_is; rfl; rfl; rfl; (apply g_assign; rfl);
      apply exl_is; rfl; rfl; rfl; (apply g_assign; rfl);
      refine exl_nilT ?_;
      refine ex_ret ?_;
      simp only [thenA, blockA, roundA, noGotoA, retA, ↓reduceIte, Nat.reduceEqDiff];
      rotate_left
      (all_goals (repeat (rename BV _ _ => hbv; cases hbv)))
      all_goals (try (exfalso; first | (rename true = false => hx; cases hx; done) | (rename false = true => hx; cases hx; done)))
      refine ret_is .nil (.cons (.ofTmp rfl) (.cons (.ofTmp rfl) (.cons (.ofTmp rfl) .nil))) (by repeat (first | exact List.Sublist.refl _ | apply List.Sublist.cons_cons | apply List.Sublist.cons)) ?_
      rfl
  · obtain ⟨e, he⟩ : ∃ e, checkL l = e := ⟨_, rfl⟩
    have e2 : nthR l k0 = (0, false, e) := by unfold nthR; rw [if_pos hc, he]
    rw [he] at hc hcc hrc
    rw [e2]
    refine ex_seq ?_;
    refine ex_region ?_;
    apply exl_is; rfl; rfl; rfl; (apply g_assign; rfl);
    apply exl_is; rfl; rfl; rfl; (apply g_assign; rfl);
    apply exl_is; rfl; rfl; rfl; (apply g_assign; rfl);
    refine exl_nilT ?_;
    refine ex_seq ?_;
    refine ex_seq ?_;
    refine ex_region ?_;
    apply exl_is; rfl; rfl; rfl; (apply g_move; rfl);
    apply exl_is; rfl; rfl; rfl; (exact g_call rfl rfl (enters_b (by kernel_rfl)) (hcc _));
    apply exl_is; rfl; rfl; rfl; (apply g_assign; rfl);
    refine exl_nilT ?_;
    refine ex_seq ?_;
    refine ex_region ?_;
    apply exl_is; rfl; rfl; rfl; (apply g_move; rfl);
    apply exl_isB; rfl; rfl; rfl; (apply g_binInt; rfl; rfl; rfl); intro _ _;
    refine exl_nilT ?_;
    refine ex_cond rfl (fun h => ?_) (fun h => ?_) <;> ((first | (subst h; rename BV _ true => h0; have h := h0.eq; clear h0) | (subst h; rename BV _ false => h0; have h := h0.eq; clear h0) | skip); (have hp := h; try simp only [decide_eq_true_eq, decide_eq_false_iff_not, Bool.not_eq_true', Bool.not_eq_false', bne_iff_ne, beq_iff_eq, beq_eq_false_iff_ne, bne_eq_false_iff_eq, Int.not_lt, Int.not_le] at hp); (try (exfalso; first | omega | (cases hp; done))));
    refine ex_seq ?_;
    refine ex_region ?_;
    apply exl_is; rfl; rfl; rfl; (apply g_move; rfl);
    apply exl_is; rfl; rfl; rfl; (apply g_assign; rfl);
    apply exl_is; rfl; rfl; rfl; (apply g_assign; rfl);
    apply exl_is; rfl; rfl; rfl; (apply g_assign; rfl);
    refine exl_nilT ?_;
    refine ex_ret ?_;
    simp only [thenA, blockA, roundA, noGotoA, retA, ↓reduceIte, Nat.reduceEqDiff];
    rotate_left
    (all_goals (repeat (rename BV _ _ => hbv; cases hbv)))
    all_goals (try (exfalso; first | (rename true = false => hx; cases hx; done) | (rename false = true => hx; cases hx; done)))
    refine ret_is .nil (.cons (.ofTmp rfl) (.cons (.ofTmp rfl) (.cons (.ofTmp rfl) .nil))) (by repeat (first | exact List.Sublist.refl _ | apply List.Sublist.cons_cons | apply List.Sublist.cons)) ?_
    rfl
set_option maxHeartbeats 2000000 in
set_option maxRecDepth 10000 in
theorem rNth_c (l : List Sp) (k0 : Int) (hk0 : k0 ≤ 9223372036854775807) (σ : List Ent) : SCall Tryd.prog 20 [sps l, .int .i64 k0] σ (Is (.tup [.int .i64 (nthR l k0).1, .bool (nthR l k0).2.1, .int .i64 (nthR l k0).2.2]) σ) := by
  refine scall_of Tryd.func20 rfl (by simp) ?_
  have hcc := check_c l
  have hrc := rCheck_c l
  by_cases hc : checkL l = 0
  · rw [hc] at hcc hrc
    obtain ⟨hl1, hl2⟩ := check_zero hc
    refine ex_seq ?_;
    refine ex_region ?_;
    apply exl_is; rfl; rfl; rfl; (apply g_assign; rfl);
    apply exl_is; rfl; rfl; rfl; (apply g_assign; rfl);
    apply exl_is; rfl; rfl; rfl; (apply g_assign; rfl);
    refine exl_nilT ?_;
    refine ex_seq ?_;
    refine ex_region ?_;
    apply exl_is; rfl; rfl; rfl; (apply g_move; rfl);
    apply exl_is; rfl; rfl; rfl; (exact g_call rfl rfl (enters_b (by kernel_rfl)) (hrc _));
    apply exl_is; rfl; rfl; rfl; (apply g_assign; rfl);
    refine exl_nilT ?_;
    refine ex_seq ?_;
    refine ex_seq ?_;
    refine ex_region ?_;
    apply exl_is; rfl; rfl; rfl; (apply g_move; rfl);
    apply exl_isB; rfl; rfl; rfl; (apply g_binInt; rfl; rfl; rfl); intro _ _;
    refine exl_nilT ?_;
    refine ex_cond rfl (fun h => ?_) (fun h => ?_) <;> ((first | (subst h; rename BV _ true => h0; have h := h0.eq; clear h0) | (subst h; rename BV _ false => h0; have h := h0.eq; clear h0) | skip); (have hp := h; try simp only [decide_eq_true_eq, decide_eq_false_iff_not, Bool.not_eq_true', Bool.not_eq_false', bne_iff_ne, beq_iff_eq, beq_eq_false_iff_ne, bne_eq_false_iff_eq, Int.not_lt, Int.not_le] at hp); (try (exfalso; first | omega | (cases hp; done))));
    refine ex_skip ?_;
    refine ex_seq ?_;
    refine ex_seq ?_;
    refine ex_region ?_;
    apply exl_is; rfl; rfl; rfl; (apply g_move; rfl);
    apply exl_isB; rfl; rfl; rfl; (apply g_binInt; rfl; rfl; rfl); intro _ _;
    refine exl_nilT ?_;
    refine ex_cond rfl (fun h => ?_) (fun h => ?_) <;> ((first | (subst h; rename BV _ true => h0; have h := h0.eq; clear h0) | (subst h; rename BV _ false => h0; have h := h0.eq; clear h0) | skip); (have hp := h; try simp only [decide_eq_true_eq, decide_eq_false_iff_not, Bool.not_eq_true', Bool.not_eq_false', bne_iff_ne, beq_iff_eq, beq_eq_false_iff_ne, bne_eq_false_iff_eq, Int.not_lt, Int.not_le] at hp); (try (exfalso; first | omega | (cases hp; done))));
    refine ex_seq ?_;
    refine ex_region ?_;
    apply exl_is; rfl; rfl; rfl; (apply g_assign; rfl);
    apply exl_is; rfl; rfl; rfl; (apply g_assign; rfl);
    apply exl_is; rfl; rfl; rfl; (apply g_assign; rfl);
    refine exl_nilT ?_;
    refine ex_ret ?_;
    simp only [thenA, blockA, roundA, noGotoA, retA, ↓reduceIte, Nat.reduceEqDiff];
    rotate_left;
    refine ex_skip ?_;
    refine ex_seq ?_;
    refine ex_seq ?_;
    refine ex_region ?_;
    apply exl_is; rfl; rfl; rfl; (apply g_assign; rfl);
    refine exl_nilT ?_;
    refine ex_block ?_;
    rotate_left
    (all_goals (repeat (rename BV _ _ => hbv; cases hbv)))
    all_goals (try (exfalso; first | (rename true = false => hx; cases hx; done) | (rename false = true => hx; cases hx; done)))
    · rw [show nthR l k0 = (0, false, 1) by unfold nthR; rw [if_neg (by omega), if_pos (by assumption)]]
      refine ret_is .nil (.cons (.ofTmp rfl) (.cons (.ofTmp rfl) (.cons (.ofTmp rfl) .nil))) (by repeat (first | exact List.Sublist.refl _ | apply List.Sublist.cons_cons | apply List.Sublist.cons)) ?_
      rfl
    have e : nthR l k0 = (match nthL l k0 with | some d => (d, true, 0) | none => (0, false, 0)) := by unfold nthR; rw [if_neg (by omega), if_neg (by omega)]
    rw [e]
    clear e hc
    refine ex_loop (fun (z : Nat × Int) => (⟨[(0, sps l), (1, .int .i64 z.2), (8, .int .i64 z.1)], σ, [], Tryd.f20.ntmps⟩ : St)) (fun z => z.1 ≤ l.length ∧ nthL l k0 = nthL (l.drop z.1) z.2 ∧ 0 ≤ z.2 ∧ z.2 ≤ k0) (fun z => l.length - z.1) (0, k0) (⟨Nat.zero_le _, rfl, by assumption, Int.le_refl _⟩) (St.le_of (by repeat (first | exact trivial | refine ⟨rfl, ?_⟩)) (by repeat (first | exact List.Sublist.refl _ | apply List.Sublist.cons_cons | apply List.Sublist.cons))) ?_
    intro z hI
    obtain ⟨i, k⟩ := z
    obtain ⟨hI1, hI2, hI3, hI4⟩ := hI
    dsimp only at hI1 hI2 hI3 hI4 ⊢
    by_cases hi : i < l.length
    · obtain ⟨x, hx⟩ : ∃ x, l[i]? = some x := ⟨_, List.getElem?_eq_getElem hi⟩
      have hlow := chk_low hl2 x (List.mem_of_getElem? hx)
      rw [sp_drop hx, show nthL (x :: l.drop (i + 1)) k = if k < x.t - x.f + 1 then some (x.f + k) else nthL (l.drop (i + 1)) (k - (x.t - x.f + 1)) from rfl] at hI2
      refine ex_seq ?_;
      refine ex_seq ?_;
      refine ex_region ?_;
      apply exl_is; rfl; rfl; rfl; (apply g_move; rfl);
      apply exl_is; rfl; rfl; rfl; (apply g_move; rfl);
      apply exl_is; rfl; rfl; rfl; (apply g_len; rfl; rfl; (exact (List.length_map _).symm));
      apply exl_isB; rfl; rfl; rfl; (apply g_binInt; rfl; rfl; rfl); intro _ _;
      refine exl_nilT ?_;
      refine ex_cond rfl (fun h => ?_) (fun h => ?_) <;> ((first | (subst h; rename BV _ true => h0; have h := h0.eq; clear h0) | (subst h; rename BV _ false => h0; have h := h0.eq; clear h0) | skip); (have hp := h; try simp only [decide_eq_true_eq, decide_eq_false_iff_not, Bool.not_eq_true', Bool.not_eq_false', bne_iff_ne, beq_iff_eq, beq_eq_false_iff_ne, bne_eq_false_iff_eq, Int.not_lt, Int.not_le] at hp); (try (exfalso; first | omega | (cases hp; done))));
      refine ex_skip ?_;
      refine ex_seq ?_;
      refine ex_block ?_;
      refine ex_seq ?_;
      refine ex_drawP rfl rfl (by kernel_rfl) rfl ?_; refine ex_drawQ rfl (by kernel_rfl) rfl ?_;
      apply wl_is; rfl; rfl; rfl; (intro σ' hl; (apply g_move; rfl));
      apply wl_is; rfl; rfl; rfl; (intro σ' hl; (apply g_move; rfl));
      apply wl_is; rfl; rfl; rfl; (intro σ' hl; (apply g_indexDl; rfl; rfl; rfl; (rfl); (exact get_map (by assumption))));
      apply wl_is; rfl; rfl; rfl; (intro σ' hl; (apply g_fieldAddr; rfl; rfl; rfl));
      apply wl_is; rfl; rfl; rfl; (intro σ' hl; (apply g_load1; rfl; rfl; (exact .e rfl)));
      apply wl_is; rfl; rfl; rfl; (intro σ' hl; (apply g_move; rfl));
      apply wl_is; rfl; rfl; rfl; (intro σ' hl; (apply g_move; rfl));
      apply wl_is; rfl; rfl; rfl; (intro σ' hl; (apply g_indexDl; rfl; rfl; rfl; (rfl); (exact get_map (by assumption))));
      apply wl_is; rfl; rfl; rfl; (intro σ' hl; (apply g_fieldAddr; rfl; rfl; rfl));
      apply wl_is; rfl; rfl; rfl; (intro σ' hl; (apply g_load1; rfl; rfl; (exact .e rfl)));
      apply wl_is; rfl; rfl; rfl; (intro σ' hl; (apply g_sub; rfl; rfl; rfl; exact ⟨by omega, by omega⟩));
      apply wl_is; rfl; rfl; rfl; (intro σ' hl; (apply g_add; rfl; rfl; rfl; exact ⟨by omega, by omega⟩));
      apply wl_is; rfl; rfl; rfl; (intro σ' hl; (apply g_assign; rfl));
      refine wl_nil ?_; show EX _ _ _ _ _;
      refine ex_seq ?_;
      refine ex_seq ?_;
      refine ex_region ?_;
      apply exl_is; rfl; rfl; rfl; (apply g_move; rfl);
      apply exl_is; rfl; rfl; rfl; (apply g_move; rfl);
      apply exl_isB; rfl; rfl; rfl; (apply g_binInt; rfl; rfl; rfl); intro _ _;
      refine exl_nilT ?_;
      refine ex_cond rfl (fun h => ?_) (fun h => ?_) <;> ((first | (subst h; rename BV _ true => h0; have h := h0.eq; clear h0) | (subst h; rename BV _ false => h0; have h := h0.eq; clear h0) | skip); (have hp := h; try simp only [decide_eq_true_eq, decide_eq_false_iff_not, Bool.not_eq_true', Bool.not_eq_false', bne_iff_ne, beq_iff_eq, beq_eq_false_iff_ne, bne_eq_false_iff_eq, Int.not_lt, Int.not_le] at hp); (try (exfalso; first | omega | (cases hp; done))));
      refine ex_seq ?_;
      refine ex_region ?_;
      apply exl_is; rfl; rfl; rfl; (apply g_move; rfl);
      apply exl_is; rfl; rfl; rfl; (apply g_move; rfl);
      apply exl_is; rfl; rfl; rfl; (apply g_indexDl; rfl; rfl; rfl; (rfl); (exact get_map (by assumption)));
      apply exl_is; rfl; rfl; rfl; (apply g_fieldAddr; rfl; rfl; rfl);
      apply exl_is; rfl; rfl; rfl; (apply g_load1; rfl; rfl; (exact .e rfl));
      apply exl_is; rfl; rfl; rfl; (apply g_move; rfl);
      apply exl_is; rfl; rfl; rfl; (apply g_add; rfl; rfl; rfl; exact ⟨by omega, by omega⟩);
      apply exl_is; rfl; rfl; rfl; (apply g_assign; rfl);
      apply exl_is; rfl; rfl; rfl; (apply g_assign; rfl);
      apply exl_is; rfl; rfl; rfl; (apply g_assign; rfl);
      refine exl_nilT ?_;
      refine ex_ret ?_;
      simp only [thenA, blockA, roundA, noGotoA, retA, ↓reduceIte, Nat.reduceEqDiff];
      rotate_left;
      refine ex_skip ?_;
      refine ex_region ?_;
      apply exl_is; rfl; rfl; rfl; (apply g_move; rfl);
      apply exl_is; rfl; rfl; rfl; (apply g_move; rfl);
      apply exl_is; rfl; rfl; rfl; (apply g_sub; rfl; rfl; rfl; exact ⟨by omega, by omega⟩);
      apply exl_is; rfl; rfl; rfl; (apply g_assign; rfl);
      refine exl_nil ?_;
      refine ex_region ?_;
      apply exl_is; rfl; rfl; rfl; (apply g_move; rfl);
      apply exl_is; rfl; rfl; rfl; (apply g_add; rfl; rfl; rfl; exact ⟨by omega, by omega⟩);
      apply exl_is; rfl; rfl; rfl; (apply g_assign; rfl);
      refine exl_nil ?_;
      simp only [thenA, blockA, roundA, noGotoA, retA, ↓reduceIte, Nat.reduceEqDiff];
      rotate_left
      (all_goals (repeat (rename BV _ _ => hbv; cases hbv)))
      all_goals (try (exfalso; first | (rename true = false => hx; cases hx; done) | (rename false = true => hx; cases hx; done)))
      · rw [if_pos (by assumption)] at hI2
        rw [hI2]
        refine ret_is .nil (.cons (.ofTmp rfl) (.cons (.ofTmp rfl) (.cons (.ofTmp rfl) .nil))) (by repeat (first | exact List.Sublist.refl _ | apply List.Sublist.cons_cons | apply List.Sublist.cons)) ?_
        rfl
      · rw [if_neg (by omega)] at hI2
        exact ⟨(i + 1, k - (x.t - x.f + 1)), ⟨hi, hI2, by dsimp only; omega, by dsimp only; omega⟩, by dsimp only; omega, (St.le_of (by repeat (first | exact trivial | refine ⟨rfl, ?_⟩)) (by repeat (first | exact List.Sublist.refl _ | apply List.Sublist.cons_cons | apply List.Sublist.cons)))⟩
    · rw [List.drop_of_length_le (by omega)] at hI2
      rw [hI2]
      refine ex_seq ?_;
      refine ex_seq ?_;
      refine ex_region ?_;
      apply exl_is; rfl; rfl; rfl; (apply g_move; rfl);
      apply exl_is; rfl; rfl; rfl; (apply g_move; rfl);
      apply exl_is; rfl; rfl; rfl; (apply g_len; rfl; rfl; (exact (List.length_map _).symm));
      apply exl_isB; rfl; rfl; rfl; (apply g_binInt; rfl; rfl; rfl); intro _ _;
      refine exl_nilT ?_;
      refine ex_cond rfl (fun h => ?_) (fun h => ?_) <;> ((first | (subst h; rename BV _ true => h0; have h := h0.eq; clear h0) | (subst h; rename BV _ false => h0; have h := h0.eq; clear h0) | skip); (have hp := h; try simp only [decide_eq_true_eq, decide_eq_false_iff_not, Bool.not_eq_true', Bool.not_eq_false', bne_iff_ne, beq_iff_eq, beq_eq_false_iff_ne, bne_eq_false_iff_eq, Int.not_lt, Int.not_le] at hp); (try (exfalso; first | omega | (cases hp; done))));
      refine ex_exit ?_;
      refine ex_seq ?_;
      refine ex_region ?_;
      apply exl_is; rfl; rfl; rfl; (apply g_assign; rfl);
      apply exl_is; rfl; rfl; rfl; (apply g_assign; rfl);
      apply exl_is; rfl; rfl; rfl; (apply g_assign; rfl);
      refine exl_nilT ?_;
      refine ex_ret ?_;
      simp only [thenA, blockA, roundA, noGotoA, retA, ↓reduceIte, Nat.reduceEqDiff];
      rotate_left
      (all_goals (repeat (rename BV _ _ => hbv; cases hbv)))
      all_goals (try (exfalso; first | (rename true = false => hx; cases hx; done) | (rename false = true => hx; cases hx; done)))
      refine ret_is .nil (.cons (.ofTmp rfl) (.cons (.ofTmp rfl) (.cons (.ofTmp rfl) .nil))) (by repeat (first | exact List.Sublist.refl _ | apply List.Sublist.cons_cons | apply List.Sublist.cons)) ?_
      rfl
  · obtain ⟨e, he⟩ : ∃ e, checkL l = e := ⟨_, rfl⟩
    have e2 : nthR l k0 = (0, false, e) := by unfold nthR; rw [if_pos hc, he]
    rw [he] at hc hcc hrc
    rw [e2]
    refine ex_seq ?_;
    refine ex_region ?_;
    apply exl_is; rfl; rfl; rfl; (apply g_assign; rfl);
    apply exl_is; rfl; rfl; rfl; (apply g_assign; rfl);
    apply exl_is; rfl; rfl; rfl; (apply g_assign; rfl);
    refine exl_nilT ?_;
    refine ex_seq ?_;
    refine ex_region ?_;
    apply exl_is; rfl; rfl; rfl; (apply g_move; rfl);
    apply exl_is; rfl; rfl; rfl; (exact g_call rfl rfl (enters_b (by kernel_rfl)) (hrc _));
    apply exl_is; rfl; rfl; rfl; (apply g_assign; rfl);
    refine exl_nilT ?_;
    refine ex_seq ?_;
    refine ex_seq ?_;
    refine ex_region ?_;
    apply exl_is; rfl; rfl; rfl; (apply g_move; rfl);
    apply exl_isB; rfl; rfl; rfl; (apply g_binInt; rfl; rfl; rfl); intro _ _;
    refine exl_nilT ?_;
    refine ex_cond rfl (fun h => ?_) (fun h => ?_) <;> ((first | (subst h; rename BV _ true => h0; have h := h0.eq; clear h0) | (subst h; rename BV _ false => h0; have h := h0.eq; clear h0) | skip); (have hp := h; try simp only [decide_eq_true_eq, decide_eq_false_iff_not, Bool.not_eq_true', Bool.not_eq_false', bne_iff_ne, beq_iff_eq, beq_eq_false_iff_ne, bne_eq_false_iff_eq, Int.not_lt, Int.not_le] at hp); (try (exfalso; first | omega | (cases hp; done))));
    refine ex_seq ?_;
    refine ex_region ?_;
    apply exl_is; rfl; rfl; rfl; (apply g_move; rfl);
    apply exl_is; rfl; rfl; rfl; (apply g_assign; rfl);
    apply exl_is; rfl; rfl; rfl; (apply g_assign; rfl);
    apply exl_is; rfl; rfl; rfl; (apply g_assign; rfl);
    refine exl_nilT ?_;
    refine ex_ret ?_;
    simp only [thenA, blockA, roundA, noGotoA, retA, ↓reduceIte, Nat.reduceEqDiff];
    rotate_left
    (all_goals (repeat (rename BV _ _ => hbv; cases hbv)))
    all_goals (try (exfalso; first | (rename true = false => hx; cases hx; done) | (rename false = true => hx; cases hx; done)))
    refine ret_is .nil (.cons (.ofTmp rfl) (.cons (.ofTmp rfl) (.cons (.ofTmp rfl) .nil))) (by repeat (first | exact List.Sublist.refl _ | apply List.Sublist.cons_cons | apply List.Sublist.cons)) ?_
    rfl
set_option maxRecDepth 10000 in
theorem rHas_c (l : List Sp) (n : Int) (σ : List Ent) : SCall Tryd.prog 50 [sps l, .int .i64 n] σ (Is (.bool (hasB l n)) σ) := by
  refine scall_of Tryd.func50 rfl (by simp) ?_
  refine ex_len (t := 0) rfl ((List.length_map _).symm) (fun hlen => ?_)
  refine ex_seq ?_;
  refine ex_region ?_;
  apply exl_is; rfl; rfl; rfl; (apply g_assign; rfl);
  refine exl_nilT ?_;
  refine ex_seq ?_;
  refine ex_seq ?_;
  refine ex_region ?_;
  apply exl_is; rfl; rfl; rfl; (apply g_assign; rfl);
  refine exl_nilT ?_;
  refine ex_block ?_;
  rotate_left
  (all_goals (repeat (rename BV _ _ => hbv; cases hbv)))
  all_goals (try (exfalso; first | (rename true = false => hx; cases hx; done) | (rename false = true => hx; cases hx; done)))
  refine ex_loop (fun (k : Nat) => (⟨[(0, sps l), (1, .int .i64 n), (5, .int .i64 k)], σ, [], Tryd.f50.ntmps⟩ : St)) (fun k => k ≤ l.length ∧ hasB l n = hasB (l.drop k) n) (fun k => l.length - k) 0 (⟨Nat.zero_le _, rfl⟩) (St.le_of (by repeat (first | exact trivial | refine ⟨rfl, ?_⟩)) (by repeat (first | exact List.Sublist.refl _ | apply List.Sublist.cons_cons | apply List.Sublist.cons))) ?_
  intro k hI
  obtain ⟨hI1, hI2⟩ := hI
  by_cases hk : k < l.length
  · obtain ⟨x, hx⟩ : ∃ x, l[k]? = some x := ⟨_, List.getElem?_eq_getElem hk⟩
    rw [sp_drop hx, has_cons] at hI2
    refine ex_seq ?_;
    refine ex_seq ?_;
    refine ex_region ?_;
    apply exl_is; rfl; rfl; rfl; (apply g_move; rfl);
    apply exl_is; rfl; rfl; rfl; (apply g_move; rfl);
    apply exl_is; rfl; rfl; rfl; (apply g_len; rfl; rfl; (exact (List.length_map _).symm));
    apply exl_isB; rfl; rfl; rfl; (apply g_binInt; rfl; rfl; rfl); intro _ _;
    refine exl_nilT ?_;
    refine ex_cond rfl (fun h => ?_) (fun h => ?_) <;> ((first | (subst h; rename BV _ true => h0; have h := h0.eq; clear h0) | (subst h; rename BV _ false => h0; have h := h0.eq; clear h0) | skip); (have hp := h; try simp only [decide_eq_true_eq, decide_eq_false_iff_not, Bool.not_eq_true', Bool.not_eq_false', bne_iff_ne, beq_iff_eq, beq_eq_false_iff_ne, bne_eq_false_iff_eq, Int.not_lt, Int.not_le] at hp); (try (exfalso; first | omega | (cases hp; done))));
    refine ex_skip ?_;
    refine ex_seq ?_;
    refine ex_block ?_;
    refine ex_seq ?_;
    refine ex_region ?_;
    apply exl_is; rfl; rfl; rfl; (apply g_move; rfl);
    apply exl_is; rfl; rfl; rfl; (apply g_move; rfl);
    apply exl_is; rfl; rfl; rfl; (apply g_indexDl; rfl; rfl; rfl; (rfl); (exact get_map (by assumption)));
    apply exl_is; rfl; rfl; rfl; (apply g_fieldAddr; rfl; rfl; rfl);
    apply exl_is; rfl; rfl; rfl; (apply g_load1; rfl; rfl; (exact .e rfl));
    apply exl_is; rfl; rfl; rfl; (apply g_move; rfl);
    apply exl_isB; rfl; rfl; rfl; (apply g_binInt; rfl; rfl; rfl); intro _ _;
    apply exl_is; rfl; rfl; rfl; (apply g_move; rfl);
    refine exl_caseL rfl (fun h => ?_) (fun h => ?_) <;> ((first | (subst h; rename BV _ true => h0; have h := h0.eq; clear h0) | (subst h; rename BV _ false => h0; have h := h0.eq; clear h0) | skip); (have hp := h; try simp only [decide_eq_true_eq, decide_eq_false_iff_not, Bool.not_eq_true', Bool.not_eq_false', bne_iff_ne, beq_iff_eq, beq_eq_false_iff_ne, bne_eq_false_iff_eq, Int.not_lt, Int.not_le] at hp); (try (exfalso; first | omega | (cases hp; done))));
    apply exl_isW; rfl; (rfl); rfl; rfl; (apply g_move; rfl);
    apply exl_isW; rfl; (rfl); rfl; rfl; (apply g_move; rfl);
    apply exl_isW; rfl; (rfl); rfl; rfl; (apply g_move; rfl);
    apply exl_isW; rfl; (rfl); rfl; rfl; (apply g_indexDl; rfl; rfl; rfl; (rfl); (exact get_map (by assumption)));
    apply exl_isW; rfl; (rfl); rfl; rfl; (apply g_fieldAddr; rfl; rfl; rfl);
    apply exl_isW; rfl; (rfl); rfl; rfl; (apply g_load1; rfl; rfl; (exact .e rfl));
    apply exl_isBW; rfl; (rfl); rfl; rfl; (apply g_binInt; rfl; rfl; rfl); intro _ _;
    apply exl_is; rfl; rfl; rfl; (apply g_pick_t; rfl; (rfl); rfl);
    refine exl_nilT ?_;
    refine ex_cond rfl (fun h => ?_) (fun h => ?_) <;> ((first | (subst h; rename BV _ true => h0; have h := h0.eq; clear h0) | (subst h; rename BV _ false => h0; have h := h0.eq; clear h0) | skip); (have hp := h; try simp only [decide_eq_true_eq, decide_eq_false_iff_not, Bool.not_eq_true', Bool.not_eq_false', bne_iff_ne, beq_iff_eq, beq_eq_false_iff_ne, bne_eq_false_iff_eq, Int.not_lt, Int.not_le] at hp); (try (exfalso; first | omega | (cases hp; done))));
    refine ex_seq ?_;
    refine ex_region ?_;
    apply exl_is; rfl; rfl; rfl; (apply g_assign; rfl);
    refine exl_nilT ?_;
    refine ex_ret ?_;
    simp only [thenA, blockA, roundA, noGotoA, retA, ↓reduceIte, Nat.reduceEqDiff];
    rotate_left;
    refine ex_skip ?_;
    refine ex_region ?_;
    apply exl_is; rfl; rfl; rfl; (apply g_move; rfl);
    apply exl_is; rfl; rfl; rfl; (apply g_add; rfl; rfl; rfl; exact ⟨by omega, by omega⟩);
    apply exl_is; rfl; rfl; rfl; (apply g_assign; rfl);
    refine exl_nil ?_;
    simp only [thenA, blockA, roundA, noGotoA, retA, ↓reduceIte, Nat.reduceEqDiff];
    rotate_left;
    refine exl_skipL rfl (by rfl) rfl rfl ?_;
    refine exl_skipL rfl (by rfl) rfl rfl ?_;
    refine exl_skipL rfl (by rfl) rfl rfl ?_;
    refine exl_skipL rfl (by rfl) rfl rfl ?_;
    refine exl_skipL rfl (by rfl) rfl rfl ?_;
    refine exl_skipL rfl (by rfl) rfl rfl ?_;
    refine exl_skipL rfl (by rfl) rfl rfl ?_;
    apply exl_is; rfl; rfl; rfl; (apply g_pick_f; rfl; (rfl); rfl);
    refine exl_nilT ?_;
    refine ex_cond_f rfl (by rfl) ?_;
    refine ex_skip ?_;
    refine ex_region ?_;
    apply exl_is; rfl; rfl; rfl; (apply g_move; rfl);
    apply exl_is; rfl; rfl; rfl; (apply g_add; rfl; rfl; rfl; exact ⟨by omega, by omega⟩);
    apply exl_is; rfl; rfl; rfl; (apply g_assign; rfl);
    refine exl_nil ?_;
    simp only [thenA, blockA, roundA, noGotoA, retA, ↓reduceIte, Nat.reduceEqDiff];
    rotate_left
    (all_goals (repeat (rename BV _ _ => hbv; cases hbv)))
    all_goals (try (exfalso; first | (rename true = false => hx; cases hx; done) | (rename false = true => hx; cases hx; done)))
    all_goals first
      | (focus
          have e : hasB l n = true := by rw [hI2]; simp [*]
          rw [e]
          refine ret_is .nil (.cons (.ofTmp rfl) .nil) (by repeat (first | exact List.Sublist.refl _ | apply List.Sublist.cons_cons | apply List.Sublist.cons)) ?_
          rfl)
      | (have e : hasB l n = hasB (l.drop (k + 1)) n := by rw [hI2]; simp [*]; try omega
         exact ⟨k + 1, ⟨hk, e⟩, by omega, (St.le_of (by repeat (first | exact trivial | refine ⟨rfl, ?_⟩)) (by repeat (first | exact List.Sublist.refl _ | apply List.Sublist.cons_cons | apply List.Sublist.cons)))⟩)
  · rw [List.drop_of_length_le (by omega)] at hI2
    rw [hI2]
    refine ex_seq ?_;
    refine ex_seq ?_;
    refine ex_region ?_;
    apply exl_is; rfl; rfl; rfl; (apply g_move; rfl);
    apply exl_is; rfl; rfl; rfl; (apply g_move; rfl);
    apply exl_is; rfl; rfl; rfl; (apply g_len; rfl; rfl; (exact (List.length_map _).symm));
    apply exl_isB; rfl; rfl; rfl; (apply g_binInt; rfl; rfl; rfl); intro _ _;
    refine exl_nilT ?_;
    refine ex_cond rfl (fun h => ?_) (fun h => ?_) <;> ((first | (subst h; rename BV _ true => h0; have h := h0.eq; clear h0) | (subst h; rename BV _ false => h0; have h := h0.eq; clear h0) | skip); (have hp := h; try simp only [decide_eq_true_eq, decide_eq_false_iff_not, Bool.not_eq_true', Bool.not_eq_false', bne_iff_ne, beq_iff_eq, beq_eq_false_iff_ne, bne_eq_false_iff_eq, Int.not_lt, Int.not_le] at hp); (try (exfalso; first | omega | (cases hp; done))));
    refine ex_exit ?_;
    refine ex_seq ?_;
    refine ex_region ?_;
    apply exl_is; rfl; rfl; rfl; (apply g_assign; rfl);
    refine exl_nilT ?_;
    refine ex_ret ?_;
    simp only [thenA, blockA, roundA, noGotoA, retA, ↓reduceIte, Nat.reduceEqDiff];
    rotate_left
    (all_goals (repeat (rename BV _ _ => hbv; cases hbv)))
    all_goals (try (exfalso; first | (rename true = false => hx; cases hx; done) | (rename false = true => hx; cases hx; done)))
    refine ret_is .nil (.cons (.ofTmp rfl) .nil) (by repeat (first | exact List.Sublist.refl _ | apply List.Sublist.cons_cons | apply List.Sublist.cons)) ?_
    rfl
set_option maxRecDepth 10000 in
theorem lHas_c (l : List Sp) (n : Int) (σ : List Ent) : SCall Tryd.prog 31 [sps l, .int .i64 n] σ (Is (.bool (hasB l n)) σ) := by
  refine scall_of Tryd.func31 rfl (by simp) ?_
  refine ex_len (t := 0) rfl ((List.length_map _).symm) (fun hlen => ?_)
  refine ex_seq ?_;
  refine ex_region ?_;
  apply exl_is; rfl; rfl; rfl; (apply g_assign; rfl);
  refine exl_nilT ?_;
  refine ex_seq ?_;
  refine ex_seq ?_;
  refine ex_region ?_;
  apply exl_is; rfl; rfl; rfl; (apply g_move; rfl);
  apply exl_is; rfl; rfl; rfl; (apply g_len; rfl; rfl; (exact (List.length_map _).symm));
  apply exl_is; rfl; rfl; rfl; (apply g_move; rfl);
  refine exl_nilT ?_;
  refine ex_block ?_;
  rotate_left
  (all_goals (repeat (rename BV _ _ => hbv; cases hbv)))
  all_goals (try (exfalso; first | (rename true = false => hx; cases hx; done) | (rename false = true => hx; cases hx; done)))
  refine ex_loop (fun (k : Nat) => (⟨[(1, .int .i64 n), (7, sps l), (8, .int .i64 l.length), (9, .int .i64 k)], σ, [], Tryd.f31.ntmps⟩ : St)) (fun k => k ≤ l.length ∧ hasB l n = hasB (l.drop k) n) (fun k => l.length - k) 0 (⟨Nat.zero_le _, rfl⟩) (St.le_of (by repeat (first | exact trivial | refine ⟨rfl, ?_⟩)) (by repeat (first | exact List.Sublist.refl _ | apply List.Sublist.cons_cons | apply List.Sublist.cons))) ?_
  intro k hI
  obtain ⟨hI1, hI2⟩ := hI
  by_cases hk : k < l.length
  · obtain ⟨x, hx⟩ : ∃ x, l[k]? = some x := ⟨_, List.getElem?_eq_getElem hk⟩
    rw [sp_drop hx, has_cons] at hI2
    refine ex_seq ?_;
    refine ex_region ?_;
    apply exl_isB; rfl; rfl; rfl; (apply g_binInt; rfl; rfl; rfl); intro _ _;
    refine exl_nilT ?_;
    refine ex_seq ?_;
    refine ex_cond rfl (fun h => ?_) (fun h => ?_) <;> ((first | (subst h; rename BV _ true => h0; have h := h0.eq; clear h0) | (subst h; rename BV _ false => h0; have h := h0.eq; clear h0) | skip); (have hp := h; try simp only [decide_eq_true_eq, decide_eq_false_iff_not, Bool.not_eq_true', Bool.not_eq_false', bne_iff_ne, beq_iff_eq, beq_eq_false_iff_ne, bne_eq_false_iff_eq, Int.not_lt, Int.not_le] at hp); (try (exfalso; first | omega | (cases hp; done))));
    refine ex_skip ?_;
    refine ex_seq ?_;
    refine ex_block ?_;
    refine ex_seq ?_;
    refine ex_region ?_;
    apply exl_is; rfl; rfl; rfl; (apply g_indexDl; rfl; rfl; rfl; (rfl); (exact get_map (by assumption)));
    apply exl_is; rfl; rfl; rfl; (apply g_loadAgg; rfl; decide; rfl; (exact .e rfl rfl));
    refine exl_box rfl rfl rfl (g_alloc rfl) ?_; intro _;
    apply exl_do; rfl; rfl; (apply g_store'; rfl; rfl; rfl; (exact Upd.here); (simp only [setL, List.set_cons_zero, List.set_cons_succ, AV.cells]; rfl); rfl; rfl; rfl; exact Nat.le_of_ble_eq_true rfl);
    refine exl_nilT ?_;
    refine ex_seq ?_;
    refine ex_region ?_;
    apply exl_is; rfl; rfl; rfl; (apply g_fieldAddr; rfl; rfl; rfl);
    apply exl_is; rfl; rfl; rfl; (apply g_load1; rfl; rfl; (exact .p (by ((repeat (first | exact List.Mem.head _ | assumption | refine List.Mem.tail _ ?_)); done)) rfl));
    apply exl_is; rfl; rfl; rfl; (apply g_move; rfl);
    apply exl_isB; rfl; rfl; rfl; (apply g_binInt; rfl; rfl; rfl); intro _ _;
    apply exl_is; rfl; rfl; rfl; (apply g_move; rfl);
    refine exl_caseL rfl (fun h => ?_) (fun h => ?_) <;> ((first | (subst h; rename BV _ true => h0; have h := h0.eq; clear h0) | (subst h; rename BV _ false => h0; have h := h0.eq; clear h0) | skip); (have hp := h; try simp only [decide_eq_true_eq, decide_eq_false_iff_not, Bool.not_eq_true', Bool.not_eq_false', bne_iff_ne, beq_iff_eq, beq_eq_false_iff_ne, bne_eq_false_iff_eq, Int.not_lt, Int.not_le] at hp); (try (exfalso; first | omega | (cases hp; done))));
    apply exl_isW; rfl; (rfl); rfl; rfl; (apply g_move; rfl);
    apply exl_isW; rfl; (rfl); rfl; rfl; (apply g_fieldAddr; rfl; rfl; rfl);
    apply exl_isW; rfl; (rfl); rfl; rfl; (apply g_load1; rfl; rfl; (exact .p (by ((repeat (first | exact List.Mem.head _ | assumption | refine List.Mem.tail _ ?_)); done)) rfl));
    apply exl_isBW; rfl; (rfl); rfl; rfl; (apply g_binInt; rfl; rfl; rfl); intro _ _;
    apply exl_is; rfl; rfl; rfl; (apply g_pick_t; rfl; (rfl); rfl);
    refine exl_nilT ?_;
    refine ex_cond rfl (fun h => ?_) (fun h => ?_) <;> ((first | (subst h; rename BV _ true => h0; have h := h0.eq; clear h0) | (subst h; rename BV _ false => h0; have h := h0.eq; clear h0) | skip); (have hp := h; try simp only [decide_eq_true_eq, decide_eq_false_iff_not, Bool.not_eq_true', Bool.not_eq_false', bne_iff_ne, beq_iff_eq, beq_eq_false_iff_ne, bne_eq_false_iff_eq, Int.not_lt, Int.not_le] at hp); (try (exfalso; first | omega | (cases hp; done))));
    refine ex_seq ?_;
    refine ex_region ?_;
    apply exl_is; rfl; rfl; rfl; (apply g_assign; rfl);
    refine exl_nilT ?_;
    refine ex_ret ?_;
    simp only [thenA, blockA, roundA, noGotoA, retA, ↓reduceIte, Nat.reduceEqDiff];
    rotate_left;
    refine ex_skip ?_;
    refine ex_region ?_;
    apply exl_is; rfl; rfl; rfl; (apply g_add; rfl; rfl; rfl; exact ⟨by omega, by omega⟩);
    apply exl_is; rfl; rfl; rfl; (apply g_move; rfl);
    refine exl_nil ?_;
    simp only [thenA, blockA, roundA, noGotoA, retA, ↓reduceIte, Nat.reduceEqDiff];
    rotate_left;
    refine exl_skipL rfl (by rfl) rfl rfl ?_;
    refine exl_skipL rfl (by rfl) rfl rfl ?_;
    refine exl_skipL rfl (by rfl) rfl rfl ?_;
    refine exl_skipL rfl (by rfl) rfl rfl ?_;
    apply exl_is; rfl; rfl; rfl; (apply g_pick_f; rfl; (rfl); rfl);
    refine exl_nilT ?_;
    refine ex_cond_f rfl (by rfl) ?_;
    refine ex_skip ?_;
    refine ex_region ?_;
    apply exl_is; rfl; rfl; rfl; (apply g_add; rfl; rfl; rfl; exact ⟨by omega, by omega⟩);
    apply exl_is; rfl; rfl; rfl; (apply g_move; rfl);
    refine exl_nil ?_;
    simp only [thenA, blockA, roundA, noGotoA, retA, ↓reduceIte, Nat.reduceEqDiff];
    rotate_left
    (all_goals (repeat (rename BV _ _ => hbv; cases hbv)))
    all_goals (try (exfalso; first | (rename true = false => hx; cases hx; done) | (rename false = true => hx; cases hx; done)))
    all_goals first
      | (focus
          have e : hasB l n = true := by rw [hI2]; simp [*]
          rw [e]
          refine ret_is .nil (.cons (.ofTmp rfl) .nil) (by repeat (first | exact List.Sublist.refl _ | apply List.Sublist.cons_cons | apply List.Sublist.cons)) ?_
          rfl)
      | (have e : hasB l n = hasB (l.drop (k + 1)) n := by rw [hI2]; simp [*]; try omega
         exact ⟨k + 1, ⟨hk, e⟩, by omega, (St.le_of (by repeat (first | exact trivial | refine ⟨rfl, ?_⟩)) (by repeat (first | exact List.Sublist.refl _ | apply List.Sublist.cons_cons | apply List.Sublist.cons)))⟩)
  · rw [List.drop_of_length_le (by omega)] at hI2
    rw [hI2]
    refine ex_seq ?_;
    refine ex_region ?_;
    apply exl_isB; rfl; rfl; rfl; (apply g_binInt; rfl; rfl; rfl); intro _ _;
    refine exl_nilT ?_;
    refine ex_seq ?_;
    refine ex_cond rfl (fun h => ?_) (fun h => ?_) <;> ((first | (subst h; rename BV _ true => h0; have h := h0.eq; clear h0) | (subst h; rename BV _ false => h0; have h := h0.eq; clear h0) | skip); (have hp := h; try simp only [decide_eq_true_eq, decide_eq_false_iff_not, Bool.not_eq_true', Bool.not_eq_false', bne_iff_ne, beq_iff_eq, beq_eq_false_iff_ne, bne_eq_false_iff_eq, Int.not_lt, Int.not_le] at hp); (try (exfalso; first | omega | (cases hp; done))));
    refine ex_exit ?_;
    refine ex_seq ?_;
    refine ex_region ?_;
    apply exl_is; rfl; rfl; rfl; (apply g_assign; rfl);
    refine exl_nilT ?_;
    refine ex_ret ?_;
    simp only [thenA, blockA, roundA, noGotoA, retA, ↓reduceIte, Nat.reduceEqDiff];
    rotate_left
    (all_goals (repeat (rename BV _ _ => hbv; cases hbv)))
    all_goals (try (exfalso; first | (rename true = false => hx; cases hx; done) | (rename false = true => hx; cases hx; done)))
    refine ret_is .nil (.cons (.ofTmp rfl) .nil) (by repeat (first | exact List.Sublist.refl _ | apply List.Sublist.cons_cons | apply List.Sublist.cons)) ?_
    rfl
end Go.Proofs.YtccjolaolmpifaaDoor
