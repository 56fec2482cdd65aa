/- The reference: Within, Widen, Margin; the margin is the least that keeps. -/
import Derived.Test.YtkpeaimmjjekeaaCl
namespace Go.Proofs.Ytkpeaimmjjekeaa
set_option linter.unusedSimpArgs false
set_option linter.unusedVariables false

theorem refKeeps2_c (T : List Tr) (b : Int × Int) (m : Int) (σ : List Ent) (hd : T.length ≤ 4096) (hb : 0 < b.2 ∧ b.2 ≤ 4096) : SCall Try.prog 30 [t3s T, .agg (buC b), .int .i64 m] σ (Is (.bool (keepsB (T.map (·.2)) b m)) σ) := by
  obtain ⟨w, hw⟩ : ∃ w : Nat, b.2 = w := ⟨b.2.toNat, by omega⟩
  obtain ⟨fl, of⟩ := b
  dsimp only at hw hb
  subst hw
  rw [← keeps_eq (by omega)]
  exact refKeeps_c T (fl, ↑w) m σ hd hb
set_option maxHeartbeats 4000000 in
set_option maxRecDepth 10000 in
theorem refWithin_c (l : List Pa) (body : Int) (b : Int × Int) (σ : List Ent) : SCall Try.prog 13 [pas l, .int .i64 body, .agg (buC b)] σ (Is (.tup [.bool (withinP l body b), .int .i64 (askC l body b)]) σ) := by
  refine scall_of Try.func13 rfl (by simp) ?_
  have hdc := refAsk_c l body b
  by_cases hc : askC l body b = 0
  · obtain ⟨h0, h1, h2, _, _, h3⟩ := askC_zero hc
    obtain ⟨hfit, h256⟩ := checkP_fit h0
    have hW : withinP l body b = keepsB (distL l body) b 0 := by unfold withinP; rw [if_pos hc]
    have hTl : (trL l body).length ≤ 4096 := by simpa [distL] using h3
    rw [hc] at hdc
    rw [hc, hW]
    refine ex_seq ?_;
    refine ex_region ?_;
    refine exl_box rfl rfl rfl (g_box rfl rfl) ?_; intro _;
    apply exl_is; rfl; rfl; rfl; (apply g_assign; rfl);
    apply exl_is; rfl; rfl; rfl; (apply g_assign; rfl);
    refine exl_nilT ?_;
    refine ex_seq ?_;
    refine ex_region ?_;
    apply exl_is; rfl; rfl; rfl; (apply g_move; rfl);
    apply exl_is; rfl; rfl; rfl; (apply g_move; rfl);
    apply exl_is; rfl; rfl; rfl; (apply g_loadAgg; rfl; decide; rfl; (exact .p (by ((repeat (first | exact List.Mem.head _ | assumption | refine List.Mem.tail _ ?_)); done)) rfl rfl));
    apply exl_is; rfl; rfl; rfl; (exact g_call rfl rfl (enters_b (by kernel_rfl)) (hdc _));
    apply exl_is; rfl; rfl; rfl; (apply g_assign; rfl);
    refine exl_nilT ?_;
    refine ex_seq ?_;
    refine ex_seq ?_;
    refine ex_region ?_;
    apply exl_is; rfl; rfl; rfl; (apply g_move; rfl);
    apply exl_isB; rfl; rfl; rfl; (apply g_binInt; rfl; rfl; rfl); intro _ _;
    refine exl_nilT ?_;
    refine ex_cond rfl (fun h => ?_) (fun h => ?_) <;> ((first | (subst h; rename BV _ true => h0; have h := h0.eq; clear h0) | (subst h; rename BV _ false => h0; have h := h0.eq; clear h0) | skip); (have hp := h; try simp only [decide_eq_true_eq, decide_eq_false_iff_not, Bool.not_eq_true', Bool.not_eq_false', bne_iff_ne, beq_iff_eq, beq_eq_false_iff_ne, bne_eq_false_iff_eq, Int.not_lt, Int.not_le] at hp); (try (exfalso; first | omega | (cases hp; done))));
    refine ex_skip ?_;
    refine ex_seq ?_;
    refine ex_drawC rfl rfl (by kernel_rfl) rfl ?_; refine ex_drawQ rfl (by kernel_rfl) rfl ?_;
    apply wl_is; rfl; rfl; rfl; (intro σ' hl; (apply g_move; rfl));
    apply wl_is; rfl; rfl; rfl; (intro σ' hl; (apply g_move; rfl));
    apply wl_is; rfl; rfl; rfl; (intro σ' hl; (exact g_call rfl rfl (enters_b (by kernel_rfl)) (refTrials_c l body _ hfit (by omega))));
    apply wl_is; rfl; rfl; rfl; (intro σ' hl; (apply g_loadAgg; rfl; decide; rfl; (exact .p (hl _ (True.intro) (by ((repeat (first | exact List.Mem.head _ | assumption | refine List.Mem.tail _ ?_)); done))) rfl rfl)));
    apply wl_isB; rfl; rfl; rfl; (intro σ' hl; (exact g_call rfl rfl (enters_b (by kernel_rfl)) (refKeeps2_c (trL l body) b 0 _ hTl ⟨by omega, h2⟩))); intro _ _;
    apply wl_is; rfl; rfl; rfl; (intro σ' hl; (apply g_assign; rfl));
    apply wl_is; rfl; rfl; rfl; (intro σ' hl; (apply g_assign; rfl));
    refine wl_nil ?_; show EX _ _ _ _ _;
    refine ex_ret ?_;
    simp only [thenA, blockA, roundA, noGotoA, retA, ↓reduceIte, Nat.reduceEqDiff];
    rotate_left
    (all_goals (repeat (rename BV _ _ => hbv; cases hbv)))
    all_goals (try (exfalso; first | (rename true = false => hx; cases hx; done) | (rename false = true => hx; cases hx; done)))
    refine ret_q (σ3 := σ) .nil (.cons (.ofTmp rfl) (.cons (.ofTmp rfl) .nil)) (by repeat (first | exact List.Sublist.refl _ | apply List.Sublist.cons_cons | apply List.Sublist.cons)) ?_
    exact fin_done .mk
  · have hW : withinP l body b = false := by unfold withinP; rw [if_neg hc]
    rw [hW]
    refine ex_seq ?_;
    refine ex_region ?_;
    refine exl_box rfl rfl rfl (g_box rfl rfl) ?_; intro _;
    apply exl_is; rfl; rfl; rfl; (apply g_assign; rfl);
    apply exl_is; rfl; rfl; rfl; (apply g_assign; rfl);
    refine exl_nilT ?_;
    refine ex_seq ?_;
    refine ex_region ?_;
    apply exl_is; rfl; rfl; rfl; (apply g_move; rfl);
    apply exl_is; rfl; rfl; rfl; (apply g_move; rfl);
    apply exl_is; rfl; rfl; rfl; (apply g_loadAgg; rfl; decide; rfl; (exact .p (by ((repeat (first | exact List.Mem.head _ | assumption | refine List.Mem.tail _ ?_)); done)) rfl rfl));
    apply exl_is; rfl; rfl; rfl; (exact g_call rfl rfl (enters_b (by kernel_rfl)) (hdc _));
    apply exl_is; rfl; rfl; rfl; (apply g_assign; rfl);
    refine exl_nilT ?_;
    refine ex_seq ?_;
    refine ex_seq ?_;
    refine ex_region ?_;
    apply exl_is; rfl; rfl; rfl; (apply g_move; rfl);
    apply exl_isB; rfl; rfl; rfl; (apply g_binInt; rfl; rfl; rfl); intro _ _;
    refine exl_nilT ?_;
    refine ex_cond rfl (fun h => ?_) (fun h => ?_) <;> ((first | (subst h; rename BV _ true => h0; have h := h0.eq; clear h0) | (subst h; rename BV _ false => h0; have h := h0.eq; clear h0) | skip); (have hp := h; try simp only [decide_eq_true_eq, decide_eq_false_iff_not, Bool.not_eq_true', Bool.not_eq_false', bne_iff_ne, beq_iff_eq, beq_eq_false_iff_ne, bne_eq_false_iff_eq, Int.not_lt, Int.not_le] at hp); (try (exfalso; first | omega | (cases hp; done))));
    refine ex_seq ?_;
    refine ex_region ?_;
    apply exl_is; rfl; rfl; rfl; (apply g_move; rfl);
    apply exl_is; rfl; rfl; rfl; (apply g_assign; rfl);
    apply exl_is; rfl; rfl; rfl; (apply g_assign; rfl);
    refine exl_nilT ?_;
    refine ex_ret ?_;
    simp only [thenA, blockA, roundA, noGotoA, retA, ↓reduceIte, Nat.reduceEqDiff];
    rotate_left
    (all_goals (repeat (rename BV _ _ => hbv; cases hbv)))
    all_goals (try (exfalso; first | (rename true = false => hx; cases hx; done) | (rename false = true => hx; cases hx; done)))
    refine ret_q (σ3 := σ) .nil (.cons (.ofTmp rfl) (.cons (.ofTmp rfl) .nil)) (by repeat (first | exact List.Sublist.refl _ | apply List.Sublist.cons_cons | apply List.Sublist.cons)) ?_
    exact fin_done .mk
set_option maxHeartbeats 4000000 in
set_option maxRecDepth 10000 in
theorem refWiden_c (l : List Rg) (m : Int) (σ : List Ent) : SCall Try.prog 20 [rgs l, .int .i64 m] σ (Is (.tup [rgs (widP l m), .int .i64 (widC l m)]) σ) := by
  refine scall_of Try.func20 rfl (by simp) ?_
  have hE : widC l m = if (16 : Int) < l.length then 2 else if rightR l = false then 370 else if inB m 0 1099511627776 = false then 1 else 0 := rfl
  by_cases hc : widC l m = 0
  · have hP : widP l m = l.map (widR m) := by unfold widP; rw [if_pos hc]
    have hr : rightR l = true ∧ inB m 0 1099511627776 = true ∧ ¬ (16 : Int) < l.length := by
      rw [hE] at hc
      split at hc
      · cases hc
      split at hc
      · cases hc
      split at hc
      · cases hc
      simp_all
    obtain ⟨hr1, hr2, hr3⟩ := hr
    obtain ⟨h16, hok⟩ := right_ok hr1
    have hrc := refRanges_c l
    rw [hr1] at hrc
    simp only [inB, Bool.and_eq_true, decide_eq_true_eq] at hr2
    rw [hc, hP]
    clear hc hP hE hr1 hr3
    refine ex_seq ?_;
    refine ex_region ?_;
    apply exl_is; rfl; rfl; rfl; (apply g_assign; rfl);
    apply exl_is; rfl; rfl; rfl; (apply g_assign; rfl);
    refine exl_nilT ?_;
    refine ex_seq ?_;
    refine ex_seq ?_;
    refine ex_region ?_;
    apply exl_is; rfl; rfl; rfl; (apply g_move; rfl);
    apply exl_is; rfl; rfl; rfl; (apply g_len; rfl; rfl; (exact (List.length_map _).symm));
    apply exl_isB; rfl; rfl; rfl; (apply g_binInt; rfl; rfl; rfl); intro _ _;
    refine exl_nilT ?_;
    refine ex_cond rfl (fun h => ?_) (fun h => ?_) <;> ((first | (subst h; rename BV _ true => h0; have h := h0.eq; clear h0) | (subst h; rename BV _ false => h0; have h := h0.eq; clear h0) | skip); (have hp := h; try simp only [decide_eq_true_eq, decide_eq_false_iff_not, Bool.not_eq_true', Bool.not_eq_false', bne_iff_ne, beq_iff_eq, beq_eq_false_iff_ne, bne_eq_false_iff_eq, Int.not_lt, Int.not_le] at hp); (try (exfalso; first | omega | (cases hp; done))));
    refine ex_skip ?_;
    refine ex_seq ?_;
    refine ex_seq ?_;
    refine ex_region ?_;
    apply exl_is; rfl; rfl; rfl; (apply g_move; rfl);
    apply exl_isB; rfl; rfl; rfl; (exact g_call rfl rfl (enters_b (by kernel_rfl)) (hrc _)); intro _ _;
    apply exl_isB; rfl; rfl; rfl; (apply g_not; rfl); intro _ _;
    refine exl_nilT ?_;
    refine ex_cond rfl (fun h => ?_) (fun h => ?_) <;> ((first | (subst h; rename BV _ true => h0; have h := h0.eq; clear h0) | (subst h; rename BV _ false => h0; have h := h0.eq; clear h0) | skip); (have hp := h; try simp only [decide_eq_true_eq, decide_eq_false_iff_not, Bool.not_eq_true', Bool.not_eq_false', bne_iff_ne, beq_iff_eq, beq_eq_false_iff_ne, bne_eq_false_iff_eq, Int.not_lt, Int.not_le] at hp); (try (exfalso; first | omega | (cases hp; done))));
    refine ex_seq ?_;
    refine ex_region ?_;
    apply exl_is; rfl; rfl; rfl; (apply g_assign; rfl);
    apply exl_is; rfl; rfl; rfl; (apply g_assign; rfl);
    refine exl_nilT ?_;
    refine ex_ret ?_;
    simp only [thenA, blockA, roundA, noGotoA, retA, ↓reduceIte, Nat.reduceEqDiff];
    rotate_left;
    refine ex_skip ?_;
    refine ex_seq ?_;
    refine ex_seq ?_;
    refine ex_region ?_;
    apply exl_is; rfl; rfl; rfl; (apply g_move; rfl);
    apply exl_isB; rfl; rfl; rfl; (apply g_binInt; rfl; rfl; rfl); intro _ _;
    apply exl_is; rfl; rfl; rfl; (apply g_move; rfl);
    refine exl_caseL rfl (fun h => ?_) (fun h => ?_) <;> ((first | (subst h; rename BV _ true => h0; have h := h0.eq; clear h0) | (subst h; rename BV _ false => h0; have h := h0.eq; clear h0) | skip); (have hp := h; try simp only [decide_eq_true_eq, decide_eq_false_iff_not, Bool.not_eq_true', Bool.not_eq_false', bne_iff_ne, beq_iff_eq, beq_eq_false_iff_ne, bne_eq_false_iff_eq, Int.not_lt, Int.not_le] at hp); (try (exfalso; first | omega | (cases hp; done))));
    apply exl_isW; rfl; (rfl); rfl; rfl; (apply g_move; rfl);
    apply exl_isBW; rfl; (rfl); rfl; rfl; (apply g_binInt; rfl; rfl; rfl); intro _ _;
    apply exl_is; rfl; rfl; rfl; (apply g_pick_f; rfl; (rfl); rfl);
    refine exl_nilT ?_;
    refine ex_cond rfl (fun h => ?_) (fun h => ?_) <;> ((first | (subst h; rename BV _ true => h0; have h := h0.eq; clear h0) | (subst h; rename BV _ false => h0; have h := h0.eq; clear h0) | skip); (have hp := h; try simp only [decide_eq_true_eq, decide_eq_false_iff_not, Bool.not_eq_true', Bool.not_eq_false', bne_iff_ne, beq_iff_eq, beq_eq_false_iff_ne, bne_eq_false_iff_eq, Int.not_lt, Int.not_le] at hp); (try (exfalso; first | omega | (cases hp; done))));
    refine ex_skip ?_;
    refine ex_seq ?_;
    refine ex_region ?_;
    apply exl_is; rfl; rfl; rfl; (apply g_assign; rfl);
    refine exl_nilT ?_;
    refine ex_seq ?_;
    refine ex_seq ?_;
    refine ex_region ?_;
    apply exl_is; rfl; rfl; rfl; (apply g_assign; rfl);
    refine exl_nilT ?_;
    refine ex_block ?_;
    rotate_left
    (all_goals (repeat (rename BV _ _ => hbv; cases hbv)))
    all_goals (try (exfalso; first | (rename true = false => hx; cases hx; done) | (rename false = true => hx; cases hx; done)))
    refine ex_nilRow 50 2 ?_
    refine ex_loop (fun (z : Nat × Value) => (⟨[(0, rgs l), (1, .int .i64 m), (6, .slv z.2), (7, .int .i64 z.1)], .row z.2 50 2 (((l.take z.1).map (widR m)).map rgC) :: σ, [], Try.f20.ntmps⟩ : St)) (fun z => z.1 ≤ l.length) (fun z => l.length - z.1) (0, nilS) (Nat.zero_le _) (St.le_of (by repeat (first | exact trivial | refine ⟨rfl, ?_⟩)) (by repeat (first | exact List.Sublist.refl _ | apply List.Sublist.cons_cons | apply List.Sublist.cons))) ?_
    intro z hI
    obtain ⟨k, v⟩ := z
    dsimp only at hI ⊢
    by_cases hk : k < l.length
    · obtain ⟨r, hr⟩ : ∃ r, l[k]? = some r := ⟨_, List.getElem?_eq_getElem hk⟩
      obtain ⟨q1, q2, q3⟩ := hok r (List.mem_of_getElem? hr)
      have hfl : (l.take (k + 1)).map (widR m) = (l.take k).map (widR m) ++ [widR m r] := by rw [List.take_add_one, hr]; simp
      have hlt : ((l.take k).map (widR m)).length ≤ 16 := by simp only [List.length_map, List.length_take]; omega
      generalize (l.take k).map (widR m) = A at hfl hlt ⊢
      refine ex_seq ?_;
      refine ex_seq ?_;
      refine ex_region ?_;
      apply exl_is; rfl; rfl; rfl; (apply g_move; rfl);
      apply exl_is; rfl; rfl; rfl; (apply g_move; rfl);
      apply exl_is; rfl; rfl; rfl; (apply g_len; rfl; rfl; (exact (List.length_map _).symm));
      apply exl_isB; rfl; rfl; rfl; (apply g_binInt; rfl; rfl; rfl); intro _ _;
      refine exl_nilT ?_;
      refine ex_cond rfl (fun h => ?_) (fun h => ?_) <;> ((first | (subst h; rename BV _ true => h0; have h := h0.eq; clear h0) | (subst h; rename BV _ false => h0; have h := h0.eq; clear h0) | skip); (have hp := h; try simp only [decide_eq_true_eq, decide_eq_false_iff_not, Bool.not_eq_true', Bool.not_eq_false', bne_iff_ne, beq_iff_eq, beq_eq_false_iff_ne, bne_eq_false_iff_eq, Int.not_lt, Int.not_le] at hp); (try (exfalso; first | omega | (cases hp; done))));
      refine ex_skip ?_;
      refine ex_seq ?_;
      refine ex_block ?_;
      rotate_left
      (all_goals (repeat (rename BV _ _ => hbv; cases hbv)))
      all_goals (try (exfalso; first | (rename true = false => hx; cases hx; done) | (rename false = true => hx; cases hx; done)))
      refine ex_drawLK (fun _ => False) 20 [18, 19] rfl (by kernel_rfl) rfl ?_
      simp only [List.take_succ_cons, List.take_zero, List.drop_succ_cons, List.drop_zero]
      apply wl_is; rfl; rfl; rfl; (intro σ' hl; (apply g_move; rfl));
      apply wl_is; rfl; rfl; rfl; (intro σ' hl; (apply g_move; rfl));
      apply wl_is; rfl; rfl; rfl; (intro σ' hl; (apply g_move; rfl));
      apply wl_is; rfl; rfl; rfl; (intro σ' hl; (apply g_indexDl; rfl; rfl; rfl; (rfl); (exact get_map (by assumption))));
      apply wl_is; rfl; rfl; rfl; (intro σ' hl; (apply g_fieldAddr; rfl; rfl; rfl));
      apply wl_is; rfl; rfl; rfl; (intro σ' hl; (apply g_load1; rfl; rfl; (exact .e rfl)));
      apply wl_is; rfl; rfl; rfl; (intro σ' hl; (apply g_move; rfl));
      apply wl_is; rfl; rfl; rfl; (intro σ' hl; (apply g_sub; rfl; rfl; rfl; exact ⟨by omega, by omega⟩));
      apply wl_is; rfl; rfl; rfl; (intro σ' hl; (apply g_max; rfl; rfl));
      apply wl_is; rfl; rfl; rfl; (intro σ' hl; (apply g_move; rfl));
      apply wl_is; rfl; rfl; rfl; (intro σ' hl; (apply g_move; rfl));
      apply wl_is; rfl; rfl; rfl; (intro σ' hl; (apply g_indexDl; rfl; rfl; rfl; (rfl); (exact get_map (by assumption))));
      apply wl_is; rfl; rfl; rfl; (intro σ' hl; (apply g_fieldAddr; rfl; rfl; rfl));
      apply wl_is; rfl; rfl; rfl; (intro σ' hl; (apply g_load1; rfl; rfl; (exact .e rfl)));
      apply wl_is; rfl; rfl; rfl; (intro σ' hl; (apply g_move; rfl));
      apply wl_is; rfl; rfl; rfl; (intro σ' hl; (apply g_add; rfl; rfl; rfl; exact ⟨by omega, by omega⟩));
      apply wl_is; rfl; rfl; rfl; (intro σ' hl; (apply g_min; rfl; rfl));
      apply wl_is; rfl; rfl; rfl; (intro σ' hl; (apply g_build; rfl; rfl; rfl; rfl));
      refine wl_row rfl rfl rfl (by exact g_buildSlice rfl rfl (by decide) rfl rfl (by (simp only [chunkN, List.take_succ_cons, List.take_zero, List.drop_succ_cons, List.drop_zero]; rfl))) ?_; intro _;
      refine wl_eff rfl rfl rfl (by apply g_append; rfl; rfl; rfl; (intro v'; (exact Upd.there (Upd.here))); (exact .r (by ((repeat (first | exact List.Mem.head _ | assumption | refine List.Mem.tail _ ?_)); done))); (intro y hy; simp only [List.mem_map, List.mem_cons, List.not_mem_nil, or_false, List.mem_append] at hy; (obtain ⟨_, _, rfl⟩ := hy; rfl)); (refine app_ok ?_ (by kernel_rfl); (try simp only [List.length_append, List.length_map, List.length_cons, List.length_nil, List.length_take, List.length_drop]); omega)) ?_; rintro _ _ ⟨v'⟩; refine ⟨(by (rintro _ (rfl | rfl) _ <;> exact (by ((repeat (first | exact List.Mem.head _ | assumption | refine List.Mem.tail _ ?_)); done)))), ?_⟩;
      refine wl_nil ?_;
      apply exl_is; rfl; rfl; rfl; (apply g_assign; rfl);
      refine exl_nil ?_;
      refine ex_region ?_;
      apply exl_is; rfl; rfl; rfl; (apply g_move; rfl);
      apply exl_is; rfl; rfl; rfl; (apply g_add; rfl; rfl; rfl; exact ⟨by omega, by omega⟩);
      apply exl_is; rfl; rfl; rfl; (apply g_assign; rfl);
      refine exl_nil ?_;
      simp only [thenA, blockA, roundA, noGotoA, retA, ↓reduceIte, Nat.reduceEqDiff];
      rotate_left
      (all_goals (repeat (rename BV _ _ => hbv; cases hbv)))
      all_goals (try (exfalso; first | (rename true = false => hx; cases hx; done) | (rename false = true => hx; cases hx; done)))
      rename Value => v2
      refine ⟨(k + 1, v2), hk, by simp only; omega, ?_⟩
      simp only
      rw [hfl, List.map_append]
      exact (St.le_of (by repeat (first | exact trivial | refine ⟨rfl, ?_⟩)) (by repeat (first | exact List.Sublist.refl _ | apply List.Sublist.cons_cons | apply List.Sublist.cons)))
    · rw [List.take_of_length_le (by omega)]
      refine ex_seq ?_;
      refine ex_seq ?_;
      refine ex_region ?_;
      apply exl_is; rfl; rfl; rfl; (apply g_move; rfl);
      apply exl_is; rfl; rfl; rfl; (apply g_move; rfl);
      apply exl_is; rfl; rfl; rfl; (apply g_len; rfl; rfl; (exact (List.length_map _).symm));
      apply exl_isB; rfl; rfl; rfl; (apply g_binInt; rfl; rfl; rfl); intro _ _;
      refine exl_nilT ?_;
      refine ex_cond rfl (fun h => ?_) (fun h => ?_) <;> ((first | (subst h; rename BV _ true => h0; have h := h0.eq; clear h0) | (subst h; rename BV _ false => h0; have h := h0.eq; clear h0) | skip); (have hp := h; try simp only [decide_eq_true_eq, decide_eq_false_iff_not, Bool.not_eq_true', Bool.not_eq_false', bne_iff_ne, beq_iff_eq, beq_eq_false_iff_ne, bne_eq_false_iff_eq, Int.not_lt, Int.not_le] at hp); (try (exfalso; first | omega | (cases hp; done))));
      refine ex_exit ?_;
      refine ex_seq ?_;
      refine ex_region ?_;
      apply exl_is; rfl; rfl; rfl; (apply g_move; rfl);
      apply exl_is; rfl; rfl; rfl; (apply g_assign; rfl);
      apply exl_is; rfl; rfl; rfl; (apply g_assign; rfl);
      refine exl_nilT ?_;
      refine ex_ret ?_;
      simp only [thenA, blockA, roundA, noGotoA, retA, ↓reduceIte, Nat.reduceEqDiff];
      rotate_left
      (all_goals (repeat (rename BV _ _ => hbv; cases hbv)))
      all_goals (try (exfalso; first | (rename true = false => hx; cases hx; done) | (rename false = true => hx; cases hx; done)))
      refine ret_q (σ3 := .row v 50 2 ((l.map (widR m)).map rgC) :: σ) .nil (.cons (.ofTmp rfl) (.cons (.ofTmp rfl) .nil)) (by repeat (first | exact List.Sublist.refl _ | apply List.Sublist.cons_cons | apply List.Sublist.cons)) ?_
      exact fin_seal .here (.tup (.here (.same .nil)) .nil) (fin_done .mk)
  · have hP : widP l m = [] := by unfold widP; rw [if_neg hc]
    have hc2 : (16 : Int) < l.length ∨ rightR l = false ∨ ¬ (0 ≤ m ∧ m ≤ 1099511627776) := by
      rw [hE] at hc
      by_cases h1 : (16 : Int) < l.length
      · exact .inl h1
      · rw [if_neg h1] at hc
        by_cases h2 : rightR l = false
        · exact .inr (.inl h2)
        · rw [if_neg h2] at hc
          refine .inr (.inr fun h3 => hc ?_)
          rw [if_neg (by simp [inB]; omega)]
    refine ex_seq ?_;
    refine ex_region ?_;
    apply exl_is; rfl; rfl; rfl; (apply g_assign; rfl);
    apply exl_is; rfl; rfl; rfl; (apply g_assign; rfl);
    refine exl_nilT ?_;
    refine ex_seq ?_;
    refine ex_seq ?_;
    refine ex_region ?_;
    apply exl_is; rfl; rfl; rfl; (apply g_move; rfl);
    apply exl_is; rfl; rfl; rfl; (apply g_len; rfl; rfl; (exact (List.length_map _).symm));
    apply exl_isB; rfl; rfl; rfl; (apply g_binInt; rfl; rfl; rfl); intro _ _;
    refine exl_nilT ?_;
    refine ex_cond rfl (fun h => ?_) (fun h => ?_) <;> ((first | (subst h; rename BV _ true => h0; have h := h0.eq; clear h0) | (subst h; rename BV _ false => h0; have h := h0.eq; clear h0) | skip); (have hp := h; try simp only [decide_eq_true_eq, decide_eq_false_iff_not, Bool.not_eq_true', Bool.not_eq_false', bne_iff_ne, beq_iff_eq, beq_eq_false_iff_ne, bne_eq_false_iff_eq, Int.not_lt, Int.not_le] at hp); (try (exfalso; first | omega | (cases hp; done))));
    refine ex_seq ?_;
    refine ex_region ?_;
    apply exl_is; rfl; rfl; rfl; (apply g_assign; rfl);
    apply exl_is; rfl; rfl; rfl; (apply g_assign; rfl);
    refine exl_nilT ?_;
    refine ex_ret ?_;
    simp only [thenA, blockA, roundA, noGotoA, retA, ↓reduceIte, Nat.reduceEqDiff];
    rotate_left;
    refine ex_skip ?_;
    refine ex_seq ?_;
    refine ex_seq ?_;
    refine ex_region ?_;
    apply exl_is; rfl; rfl; rfl; (apply g_move; rfl);
    apply exl_isB; rfl; rfl; rfl; (exact g_call rfl rfl (enters_b (by kernel_rfl)) (refRanges_c l _)); intro _ _;
    apply exl_isB; rfl; rfl; rfl; (apply g_not; rfl); intro _ _;
    refine exl_nilT ?_;
    refine ex_cond rfl (fun h => ?_) (fun h => ?_) <;> ((first | (subst h; rename BV _ true => h0; have h := h0.eq; clear h0) | (subst h; rename BV _ false => h0; have h := h0.eq; clear h0) | skip); (have hp := h; try simp only [decide_eq_true_eq, decide_eq_false_iff_not, Bool.not_eq_true', Bool.not_eq_false', bne_iff_ne, beq_iff_eq, beq_eq_false_iff_ne, bne_eq_false_iff_eq, Int.not_lt, Int.not_le] at hp); (try (exfalso; first | omega | (cases hp; done))));
    refine ex_seq ?_;
    refine ex_region ?_;
    apply exl_is; rfl; rfl; rfl; (apply g_assign; rfl);
    apply exl_is; rfl; rfl; rfl; (apply g_assign; rfl);
    refine exl_nilT ?_;
    refine ex_ret ?_;
    simp only [thenA, blockA, roundA, noGotoA, retA, ↓reduceIte, Nat.reduceEqDiff];
    rotate_left;
    refine ex_skip ?_;
    refine ex_seq ?_;
    refine ex_seq ?_;
    refine ex_region ?_;
    apply exl_is; rfl; rfl; rfl; (apply g_move; rfl);
    apply exl_isB; rfl; rfl; rfl; (apply g_binInt; rfl; rfl; rfl); intro _ _;
    apply exl_is; rfl; rfl; rfl; (apply g_move; rfl);
    refine exl_caseL rfl (fun h => ?_) (fun h => ?_) <;> ((first | (subst h; rename BV _ true => h0; have h := h0.eq; clear h0) | (subst h; rename BV _ false => h0; have h := h0.eq; clear h0) | skip); (have hp := h; try simp only [decide_eq_true_eq, decide_eq_false_iff_not, Bool.not_eq_true', Bool.not_eq_false', bne_iff_ne, beq_iff_eq, beq_eq_false_iff_ne, bne_eq_false_iff_eq, Int.not_lt, Int.not_le] at hp); (try (exfalso; first | omega | (cases hp; done))));
    refine exl_skipL rfl (by rfl) rfl rfl ?_;
    refine exl_skipL rfl (by rfl) rfl rfl ?_;
    apply exl_is; rfl; rfl; rfl; (apply g_pick_t; rfl; (rfl); rfl);
    refine exl_nilT ?_;
    refine ex_cond_t rfl (by rfl) ?_;
    refine ex_seq ?_;
    refine ex_region ?_;
    apply exl_is; rfl; rfl; rfl; (apply g_assign; rfl);
    apply exl_is; rfl; rfl; rfl; (apply g_assign; rfl);
    refine exl_nilT ?_;
    refine ex_ret ?_;
    simp only [thenA, blockA, roundA, noGotoA, retA, ↓reduceIte, Nat.reduceEqDiff];
    rotate_left;
    apply exl_isW; rfl; (rfl); rfl; rfl; (apply g_move; rfl);
    apply exl_isBW; rfl; (rfl); rfl; rfl; (apply g_binInt; rfl; rfl; rfl); intro _ _;
    apply exl_is; rfl; rfl; rfl; (apply g_pick_f; rfl; (rfl); rfl);
    refine exl_nilT ?_;
    refine ex_cond rfl (fun h => ?_) (fun h => ?_) <;> ((first | (subst h; rename BV _ true => h0; have h := h0.eq; clear h0) | (subst h; rename BV _ false => h0; have h := h0.eq; clear h0) | skip); (have hp := h; try simp only [decide_eq_true_eq, decide_eq_false_iff_not, Bool.not_eq_true', Bool.not_eq_false', bne_iff_ne, beq_iff_eq, beq_eq_false_iff_ne, bne_eq_false_iff_eq, Int.not_lt, Int.not_le] at hp); (try (exfalso; first | omega | (cases hp; done))));
    refine ex_seq ?_;
    refine ex_region ?_;
    apply exl_is; rfl; rfl; rfl; (apply g_assign; rfl);
    apply exl_is; rfl; rfl; rfl; (apply g_assign; rfl);
    refine exl_nilT ?_;
    refine ex_ret ?_;
    simp only [thenA, blockA, roundA, noGotoA, retA, ↓reduceIte, Nat.reduceEqDiff];
    rotate_left;
    refine ex_skip ?_;
    refine ex_seq ?_;
    refine ex_region ?_;
    apply exl_is; rfl; rfl; rfl; (apply g_assign; rfl);
    refine exl_nilT ?_;
    refine ex_seq ?_;
    refine ex_seq ?_;
    refine ex_region ?_;
    apply exl_is; rfl; rfl; rfl; (apply g_assign; rfl);
    refine exl_nilT ?_;
    refine ex_block ?_;
    rotate_left
    (all_goals (repeat (rename BV _ _ => hbv; cases hbv)))
    all_goals (try (exfalso; first | (rename true = false => hx; cases hx; done) | (rename false = true => hx; cases hx; done)))
    rotate_right 1
    · exfalso
      simp_all
    all_goals
      refine ret_q (σ3 := σ) .nil (.cons (.ofTmp rfl) (.cons (.ofTmp rfl) .nil)) (by repeat (first | exact List.Sublist.refl _ | apply List.Sublist.cons_cons | apply List.Sublist.cons)) ?_
      refine fin_nil (sz := 2) (.tup (.here (.same .nil)) .nil) (fin_done (rgnil_is hP ?_))
      rw [hE]
      simp [inB, *]
      try omega
/-! ### The least that keeps -/
theorem sortI_sorted' (l : List Int) : (sortI l).Pairwise (· ≤ ·) := by
  have := List.pairwise_mergeSort (le := fun x y : Int => decide (x ≤ y)) (by simp; omega) (by simp; omega) l
  exact this.imp (by simp)
theorem sortI_perm' (l : List Int) : (sortI l).Perm l := List.mergeSort_perm _ _
theorem keepsB_max {d : List Int} {b : Int × Int} {m : Int} (hb : 0 ≤ b.1) (hm : ∀ x ∈ d, x ≤ m) : keepsB d b m = true := by
  simp only [keepsB, List.all_eq_true, List.mem_range, decide_eq_true_eq]
  intro i hi
  have h0 : winE d m b.2.toNat (i + 1) = 0 := by
    unfold winE
    rw [List.countP_eq_zero]
    intro x hx
    have := hm x (List.mem_of_mem_take (List.mem_of_mem_drop hx))
    simp [above]; omega
  rw [h0]; omega
theorem setOf_sub (l : List Int) : (setOf l).Sublist (sortI l) := by
  unfold setOf Lib.compact Lib.compactUpTo
  have h1 := (List.filter_sublist (p := Lib.keeps (sortI l).toArray) (l := List.range (sortI l).length)).map ((sortI l).toArray[·]!)
  have h2 := Lib.range_map_get (sortI l).toArray
  simp only [List.size_toArray, List.toList_toArray] at h2
  rw [h2] at h1
  exact h1
theorem setOf_mem {l : List Int} {x : Int} : x ∈ setOf l ↔ x ∈ l := by
  constructor
  · intro h; exact (sortI_perm' l).mem_iff.1 ((setOf_sub l).subset h)
  · intro h
    have h1 : x ∈ sortI l := (sortI_perm' l).mem_iff.2 h
    obtain ⟨j, hj⟩ := List.getElem?_of_mem h1
    have key : ∀ (j : Nat) (x : Int), (sortI l)[j]? = some x → x ∈ setOf l := by
      intro j
      induction j with
      | zero =>
        intro x hx
        obtain ⟨p1, p2⟩ := List.getElem?_eq_some_iff.1 hx
        unfold setOf Lib.compact Lib.compactUpTo
        refine List.mem_map.2 ⟨0, List.mem_filter.2 ⟨List.mem_range.2 p1, by simp [Lib.keeps]⟩, ?_⟩
        simp [p1, p2]
      | succ j ih =>
        intro x hx
        obtain ⟨p1, p2⟩ := List.getElem?_eq_some_iff.1 hx
        by_cases hk : Lib.keeps (sortI l).toArray (j + 1) = true
        · unfold setOf Lib.compact Lib.compactUpTo
          refine List.mem_map.2 ⟨j + 1, List.mem_filter.2 ⟨List.mem_range.2 p1, hk⟩, ?_⟩
          simp [p1, p2]
        · refine ih x ?_
          have hjl : j < (sortI l).length := by omega
          simp only [Lib.keeps, decide_eq_true_eq, not_or, Nat.add_sub_cancel, ne_eq, Decidable.not_not] at hk
          have h3 := hk.2
          simp [p1, hjl] at h3
          rw [List.getElem?_eq_getElem hjl, ← h3, p2]
    exact key j x hj
theorem find_least {S : List Int} {p : Int → Bool} (hs : S.Pairwise (· ≤ ·)) {c : Int} (h : S.find? p = some c) : c ∈ S ∧ p c = true ∧ ∀ x ∈ S, p x = true → c ≤ x := by
  induction S with
  | nil => cases h
  | cons a S ih =>
    rw [List.pairwise_cons] at hs
    by_cases ha : p a = true
    · rw [List.find?_cons_of_pos ha] at h
      cases h
      refine ⟨by simp, ha, fun x hx _ => ?_⟩
      rcases List.mem_cons.1 hx with rfl | hx
      · exact Int.le_refl _
      · exact hs.1 x hx
    · rw [List.find?_cons_of_neg ha] at h
      obtain ⟨h1, h2, h3⟩ := ih hs.2 h
      refine ⟨by simp [h1], h2, fun x hx hp => ?_⟩
      rcases List.mem_cons.1 hx with rfl | hx
      · exact absurd hp ha
      · exact h3 x hx hp
/-- The margin: the least of 0 and the distances that keeps. -/
theorem margV_spec {d : List Int} {b : Int × Int} (hb : 0 ≤ b.1) (h0 : ∀ x ∈ d, 0 ≤ x) : (margV d b = 0 ∨ margV d b ∈ d) ∧ 0 ≤ margV d b ∧ keepsB d b (margV d b) = true ∧ ∀ x, (x = 0 ∨ x ∈ d) → keepsB d b x = true → margV d b ≤ x := by
  have hsort : (setOf (0 :: d)).Pairwise (· ≤ ·) := (sortI_sorted' (0 :: d)).sublist (setOf_sub _)
  have hex : ∃ c, (setOf (0 :: d)).find? (keepsB d b) = some c := by
    obtain ⟨M, hM1, hM2⟩ : ∃ M, (M = 0 ∨ M ∈ d) ∧ ∀ x ∈ d, x ≤ M := by
      clear hsort
      induction d with
      | nil => exact ⟨0, .inl rfl, by simp⟩
      | cons a d ih =>
        obtain ⟨M, h1, h2⟩ := ih (fun x hx => h0 x (by simp [hx]))
        by_cases hc : a ≤ M
        · exact ⟨M, by rcases h1 with h1 | h1; exact .inl h1; exact .inr (by simp [h1]), fun x hx => by rcases List.mem_cons.1 hx with rfl | hx; exact hc; exact h2 x hx⟩
        · exact ⟨a, .inr (by simp), fun x hx => by rcases List.mem_cons.1 hx with rfl | hx; exact Int.le_refl _; have := h2 x hx; omega⟩
    cases hf : (setOf (0 :: d)).find? (keepsB d b) with
    | some c => exact ⟨c, rfl⟩
    | none =>
      exfalso
      rw [List.find?_eq_none] at hf
      exact hf M (setOf_mem.2 (by rcases hM1 with h | h; exact (by simp [h]); exact (by simp [h]))) (keepsB_max hb hM2)
  obtain ⟨c, hc⟩ := hex
  have he : margV d b = c := by unfold margV; rw [hc]; rfl
  obtain ⟨h1, h2, h3⟩ := find_least hsort hc
  have hmem := setOf_mem.1 h1
  rw [he]
  refine ⟨by rcases List.mem_cons.1 hmem with h | h; exact .inl h; exact .inr h, ?_, h2, fun x hx hk => h3 x (setOf_mem.2 (by rcases hx with h | h; exact (by simp [h]); exact (by simp [h]))) hk⟩
  rcases List.mem_cons.1 hmem with h | h
  · omega
  · exact h0 c h
end Go.Proofs.Ytkpeaimmjjekeaa
