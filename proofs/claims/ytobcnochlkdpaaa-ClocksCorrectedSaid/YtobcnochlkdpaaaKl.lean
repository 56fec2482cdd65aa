/- Clocks: the reference's History, Changed, Total. -/
import Derived.Test.YtobcnochlkdpaaaKk
import Derived.Test.YtobcnochlkdpaaaKj
namespace Go.Proofs.Ytobcnochlkdpaaa
set_option linter.unusedSimpArgs false
set_option linter.unusedVariables false
theorem erasH_next (f : Int → An) (lo : Int) (j : Nat) : erasH f [] (hours lo (j + 1)) = erPut (erasH f [] (hours lo j)) ⟨lo + j, lo + j⟩ (f (lo + j)) := by
  unfold erasH; rw [hours_snoc, List.foldl_append]; rfl
theorem chgH_next (d : Int → Bool) (lo : Int) (j : Nat) : chgH d [] (hours lo (j + 1)) = chPut (chgH d [] (hours lo j)) ⟨lo + j, lo + j⟩ (d (lo + j)) := by
  unfold chgH; rw [hours_snoc, List.foldl_append]; rfl
theorem chgH_len (d : Int → Bool) : ∀ (P : List Int) (s : List Rg), (chgH d s P).length ≤ s.length + P.length
  | [], s => Nat.le_refl _
  | p :: P, s => by
    have h1 := chgH_len d P (chPut s ⟨p, p⟩ (d p))
    have h2 := chPut_len s ⟨p, p⟩ (d p)
    show (chgH d (chPut s ⟨p, p⟩ (d p)) P).length ≤ _
    rw [List.length_cons]; omega
macro "contr" : tactic => `(tactic| first
  | omega
  | (rename_i hq; simp at hq; done)
  | (simp_all; done))
set_option maxHeartbeats 8000000 in
set_option maxRecDepth 10000 in
theorem rHistory_c (l : List Fc) (key known : Int) (r : Rg) (σ : List Ent) : SCall Try.prog 19 [fcs l, .int .i64 key, .int .i64 known, .agg (rgC r)] σ (Is (.tup [ers (histF l key known r).1, .int .i64 (histF l key known r).2]) σ) := by
  refine scall_of Try.func19 rfl (by simp) ?_
  have c0 := rAsked_c l key known known r
  rw [ask_two] at c0
  unfold histF
  by_cases h : askF l key [known] r = 0
  · rw [h] at c0
    rw [if_neg (by rw [h]; simp)]
    obtain ⟨hch, hrk, hlo, hhi, hle⟩ := ask_zero.1 h
    have hz := check_zero.1 hch
    have c1 := fun hour => rSaid_c l key hour known (by omega) (right_kn hch)
    clear hrk h hch
    refine ex_nilRow 50 4 ?_
    refine ex_seq ?_;
    refine ex_region ?_;
    refine exl_box rfl rfl rfl (g_box rfl rfl) ?_; intro _;
    apply exl_is; rfl; rfl; rfl; (apply g_assign; rfl);
    apply exl_is; rfl; rfl; rfl; (apply g_assign; rfl);
    refine exl_nilT ?_;
    refine ex_seq ?_;
    refine ex_region ?_;
    apply exl_is; rfl; rfl; rfl; (apply g_move; rfl);
    apply exl_is; rfl; rfl; rfl; (apply g_move; rfl);
    apply exl_is; rfl; rfl; rfl; (apply g_move; rfl);
    apply exl_is; rfl; rfl; rfl; (apply g_move; rfl);
    apply exl_is; rfl; rfl; rfl; (apply g_loadAgg; rfl; decide; rfl; (exact .p (by ((repeat (first | exact List.Mem.head _ | assumption | refine List.Mem.tail _ ?_)); done)) rfl rfl));
    apply exl_is; rfl; rfl; rfl; (exact g_call rfl rfl (enters_b (by kernel_rfl)) (c0 _));
    apply exl_is; rfl; rfl; rfl; (apply g_assign; rfl);
    refine exl_nilT ?_;
    refine ex_seq ?_;
    refine ex_seq ?_;
    refine ex_region ?_;
    apply exl_is; rfl; rfl; rfl; (apply g_move; rfl);
    apply exl_isB; rfl; rfl; rfl; (apply g_binInt; rfl; rfl; rfl); intro _ _;
    refine exl_nilT ?_;
    refine ex_cond rfl (fun h => ?_) (fun h => ?_) <;> ((first | (subst h; rename BV _ true => h0; have h := h0.eq; clear h0) | (subst h; rename BV _ false => h0; have h := h0.eq; clear h0) | skip); (have hp := h; try simp only [decide_eq_true_eq, decide_eq_false_iff_not, Bool.not_eq_true', Bool.not_eq_false', bne_iff_ne, beq_iff_eq, beq_eq_false_iff_ne, bne_eq_false_iff_eq, Int.not_lt, Int.not_le] at hp); (try (exfalso; first | omega | (cases hp; done))));
    refine ex_skip ?_;
    refine ex_seq ?_;
    refine ex_region ?_;
    apply exl_is; rfl; rfl; rfl; (apply g_assign; rfl);
    refine exl_nilT ?_;
    refine ex_seq ?_;
    refine ex_seq ?_;
    refine ex_region ?_;
    apply exl_is; rfl; rfl; rfl; (apply g_fieldAddr; rfl; rfl; rfl);
    apply exl_is; rfl; rfl; rfl; (apply g_load1; rfl; rfl; (exact .p (by ((repeat (first | exact List.Mem.head _ | assumption | refine List.Mem.tail _ ?_)); done)) rfl));
    apply exl_is; rfl; rfl; rfl; (apply g_assign; rfl);
    refine exl_nilT ?_;
    refine ex_block ?_;
    simp only [thenA, blockA, roundA, noGotoA, retA, ↓reduceIte, Nat.reduceEqDiff];
    rotate_left
    (all_goals (repeat (rename BV _ _ => hbv; cases hbv)))
    all_goals (try (exfalso; first | (rename true = false => hx; cases hx; done) | (rename false = true => hx; cases hx; done)))
    rename Nat => b7; revert b7
    intro b7
    clear c0
    refine ex_loop (fun (z : Int × Nat × Value) => (⟨[(0, fcs l), (1, .int .i64 key), (2, .int .i64 known), (7, .ptr b7 0), (11, .slv z.2.2), (12, .int .i64 z.1)], .cells b7 (rgC r) 36 :: .row z.2.2 50 4 ((erasH (fun h => sayL l key h known) [] (hours r.lo z.2.1)).map erC) :: σ, [], Try.f19.ntmps⟩ : St)) (fun z => z.2.1 ≤ (r.hi + 1 - r.lo).toNat ∧ z.1 = r.lo + z.2.1) (fun z => (r.hi + 1 - r.lo).toNat - z.2.1) (r.lo, 0, nilS) (⟨Nat.zero_le _, by simp⟩) (St.le_of (by repeat (first | exact trivial | refine ⟨rfl, ?_⟩)) (by repeat (first | exact List.Sublist.refl _ | apply List.Sublist.cons_cons | apply List.Sublist.cons))) ?_
    intro z hI
    obtain ⟨hr, j, v⟩ := z
    obtain ⟨hI1, hI2⟩ := hI
    dsimp only at hI1 hI2 ⊢
    by_cases hj : j < (r.hi + 1 - r.lo).toNat
    · have c2 := c1 hr
      have hst := erasH_next (fun h => sayL l key h known) r.lo j
      have hel := erasH_len (fun h => sayL l key h known) (hours r.lo j) []
      rw [hours_length, List.length_nil] at hel
      rw [← hI2] at hst
      generalize sayL l key hr known = an at hst c2
      generalize erasH (fun h => sayL l key h known) [] (hours r.lo j) = S at hst hel ⊢
      obtain ⟨av, ak⟩ := an
      have h00 : ([] : List (List AV)).length = 0 := rfl
      have hhr : hr ≤ r.hi := by omega
      clear c1
      rcases snoc_or S with rfl | ⟨q, x, rfl⟩
      · rw [erPut_nil] at hst
        refine ex_seq ?_;
        refine ex_seq ?_;
        refine ex_region ?_;
        apply exl_is; rfl; rfl; rfl; (apply g_move; rfl);
        apply exl_is; rfl; rfl; rfl; (apply g_fieldAddr; rfl; rfl; rfl);
        apply exl_is; rfl; rfl; rfl; (apply g_load1; rfl; rfl; (exact .p (by ((repeat (first | exact List.Mem.head _ | assumption | refine List.Mem.tail _ ?_)); done)) rfl));
        apply exl_isB; rfl; rfl; rfl; (apply g_binInt; rfl; rfl; rfl); intro _ _;
        refine exl_nilT ?_;
        refine ex_cond rfl (fun h => ?_) (fun h => ?_) <;> ((first | (subst h; rename BV _ true => h0; have h := h0.eq; clear h0) | (subst h; rename BV _ false => h0; have h := h0.eq; clear h0) | skip); (have hp := h; try simp only [decide_eq_true_eq, decide_eq_false_iff_not, Bool.not_eq_true', Bool.not_eq_false', bne_iff_ne, beq_iff_eq, beq_eq_false_iff_ne, bne_eq_false_iff_eq, Int.not_lt, Int.not_le] at hp); (try (exfalso; first | omega | (cases hp; done))));
        refine ex_skip ?_;
        refine ex_seq ?_;
        refine ex_block ?_;
        refine ex_seq ?_;
        refine ex_region ?_;
        apply exl_is; rfl; rfl; rfl; (apply g_move; rfl);
        apply exl_is; rfl; rfl; rfl; (apply g_move; rfl);
        apply exl_is; rfl; rfl; rfl; (apply g_move; rfl);
        apply exl_is; rfl; rfl; rfl; (apply g_move; rfl);
        apply exl_is; rfl; rfl; rfl; (exact g_call rfl rfl (enters_b (by kernel_rfl)) (c2 _));
        apply exl_is; rfl; rfl; rfl; (apply g_move; rfl);
        apply exl_is; rfl; rfl; rfl; (apply g_extract; rfl; rfl);
        apply exl_is; rfl; rfl; rfl; (apply g_extract; rfl; rfl);
        apply exl_is; rfl; rfl; rfl; (apply g_assign; rfl);
        apply exl_is; rfl; rfl; rfl; (apply g_assign; rfl);
        refine exl_nilT ?_;
        refine ex_seq ?_;
        refine ex_region ?_;
        apply exl_is; rfl; rfl; rfl; (apply g_move; rfl);
        apply exl_is; rfl; rfl; rfl; (apply g_len; rfl; rfl; (exact .inl ⟨_, _, _, (by ((repeat (first | exact List.Mem.head _ | assumption | refine List.Mem.tail _ ?_)); done)), (List.length_map _).symm⟩));
        apply exl_is; rfl; rfl; rfl; (apply g_sub; rfl; rfl; rfl; exact ⟨by omega, by omega⟩);
        apply exl_is; rfl; rfl; rfl; (apply g_assign; rfl);
        refine exl_nilT ?_;
        refine ex_seq ?_;
        refine ex_region ?_;
        apply exl_is; rfl; rfl; rfl; (apply g_move; rfl);
        apply exl_isB; rfl; rfl; rfl; (apply g_binInt; rfl; rfl; rfl); intro _ _;
        apply exl_is; rfl; rfl; rfl; (apply g_move; rfl);
        refine exl_caseL rfl (fun h => ?_) (fun h => ?_) <;> ((first | (subst h; rename BV _ true => h0; have h := h0.eq; clear h0) | (subst h; rename BV _ false => h0; have h := h0.eq; clear h0) | skip); (have hp := h; try simp only [decide_eq_true_eq, decide_eq_false_iff_not, Bool.not_eq_true', Bool.not_eq_false', bne_iff_ne, beq_iff_eq, beq_eq_false_iff_ne, bne_eq_false_iff_eq, Int.not_lt, Int.not_le] at hp); (try (exfalso; first | omega | (cases hp; done))));
        refine exl_skipL rfl (by rfl) rfl rfl ?_;
        refine exl_skipL rfl (by rfl) rfl rfl ?_;
        refine exl_skipL rfl (by rfl) rfl rfl ?_;
        refine exl_skipL rfl (by rfl) rfl rfl ?_;
        refine exl_skipL rfl (by rfl) rfl rfl ?_;
        refine exl_skipL rfl (by rfl) rfl rfl ?_;
        refine exl_skipL rfl (by rfl) rfl rfl ?_;
        apply exl_is; rfl; rfl; rfl; (apply g_pick_f; rfl; (rfl); rfl);
        apply exl_is; rfl; rfl; rfl; (apply g_move; rfl);
        refine exl_skipL rfl (by rfl) rfl rfl ?_;
        refine exl_skipL rfl (by rfl) rfl rfl ?_;
        refine exl_skipL rfl (by rfl) rfl rfl ?_;
        refine exl_skipL rfl (by rfl) rfl rfl ?_;
        refine exl_skipL rfl (by rfl) rfl rfl ?_;
        refine exl_skipL rfl (by rfl) rfl rfl ?_;
        refine exl_skipL rfl (by rfl) rfl rfl ?_;
        apply exl_is; rfl; rfl; rfl; (apply g_pick_f; rfl; (rfl); rfl);
        refine exl_nilT ?_;
        refine ex_cond_f rfl (by rfl) ?_;
        refine ex_region ?_;
        apply exl_is; rfl; rfl; rfl; (apply g_move; rfl);
        apply exl_is; rfl; rfl; rfl; (apply g_move; rfl);
        apply exl_is; rfl; rfl; rfl; (apply g_move; rfl);
        apply exl_is; rfl; rfl; rfl; (apply g_build; rfl; rfl; rfl; rfl);
        apply exl_is; rfl; rfl; rfl; (apply g_move; rfl);
        apply exl_is; rfl; rfl; rfl; (apply g_move; rfl);
        apply exl_is; rfl; rfl; rfl; (apply g_build; rfl; rfl; rfl; rfl);
        refine exl_row rfl rfl rfl (by exact g_buildSlice rfl rfl (by decide) rfl rfl (by (simp only [chunkN, List.take_succ_cons, List.take_zero, List.drop_succ_cons, List.drop_zero]; rfl))) ?_; intro _;
        apply exl_grew; rfl; rfl; rfl; (apply g_append; rfl; rfl; rfl; (intro v'; (exact Upd.there (Upd.there (Upd.here)))); (exact .r (by ((repeat (first | exact List.Mem.head _ | assumption | refine List.Mem.tail _ ?_)); done))); (intro y hy; simp only [List.mem_map, List.mem_cons, List.not_mem_nil, or_false, List.mem_append] at hy; (focus (obtain ⟨_, _, rfl⟩ := hy; rfl; done))); (refine app_ok ?_ (by kernel_rfl); (try simp only [List.length_append, List.length_map, List.length_cons, List.length_nil, List.length_take, List.length_drop]); omega)); intro _;
        apply exl_is; rfl; rfl; rfl; (apply g_assign; rfl);
        refine exl_nil ?_;
        refine ex_region ?_;
        apply exl_is; rfl; rfl; rfl; (apply g_move; rfl);
        apply exl_is; rfl; rfl; rfl; (apply g_add; rfl; rfl; rfl; exact ⟨by omega, by omega⟩);
        apply exl_is; rfl; rfl; rfl; (apply g_assign; rfl);
        refine exl_nil ?_;
        simp only [thenA, blockA, roundA, noGotoA, retA, ↓reduceIte, Nat.reduceEqDiff];
        rotate_left
        (all_goals (repeat (rename BV _ _ => hbv; cases hbv)))
        all_goals (try (exfalso; first | (rename true = false => hx; cases hx; done) | (rename false = true => hx; cases hx; done)))
        · rename Value => v2
          refine ⟨(hr + 1, j + 1, v2), ⟨by dsimp only; omega, by dsimp only; omega⟩, by dsimp only; omega, ?_⟩
          dsimp only
          rw [hst, show ([⟨⟨hr, hr⟩, av, ak⟩] : List Er) = [] ++ [⟨⟨hr, hr⟩, av, ak⟩] from rfl, er_snoc [] ⟨⟨hr, hr⟩, av, ak⟩]
          exact (St.le_of (by repeat (first | exact trivial | refine ⟨rfl, ?_⟩)) (by repeat (first | exact List.Sublist.refl _ | apply List.Sublist.cons_cons | apply List.Sublist.cons)))
      · rw [erPut_snoc] at hst
        have hgl := er_last q x
        have hqz : (((q ++ [x]).length : Nat) : Int) - 1 = ((q.length : Nat) : Int) := by rw [List.length_append, List.length_singleton]; omega
        by_cases hc : x.v = av ∧ x.k = ak
        · obtain ⟨rfl, rfl⟩ := hc
          rw [if_pos ⟨rfl, rfl⟩] at hst
          refine ex_seq ?_;
          refine ex_seq ?_;
          refine ex_region ?_;
          apply exl_is; rfl; rfl; rfl; (apply g_move; rfl);
          apply exl_is; rfl; rfl; rfl; (apply g_fieldAddr; rfl; rfl; rfl);
          apply exl_is; rfl; rfl; rfl; (apply g_load1; rfl; rfl; (exact .p (by ((repeat (first | exact List.Mem.head _ | assumption | refine List.Mem.tail _ ?_)); done)) rfl));
          apply exl_isB; rfl; rfl; rfl; (apply g_binInt; rfl; rfl; rfl); intro _ _;
          refine exl_nilT ?_;
          refine ex_cond rfl (fun h => ?_) (fun h => ?_) <;> ((first | (subst h; rename BV _ true => h0; have h := h0.eq; clear h0) | (subst h; rename BV _ false => h0; have h := h0.eq; clear h0) | skip); (have hp := h; try simp only [decide_eq_true_eq, decide_eq_false_iff_not, Bool.not_eq_true', Bool.not_eq_false', bne_iff_ne, beq_iff_eq, beq_eq_false_iff_ne, bne_eq_false_iff_eq, Int.not_lt, Int.not_le] at hp); (try (exfalso; first | omega | (cases hp; done))));
          refine ex_skip ?_;
          refine ex_seq ?_;
          refine ex_block ?_;
          refine ex_seq ?_;
          refine ex_region ?_;
          apply exl_is; rfl; rfl; rfl; (apply g_move; rfl);
          apply exl_is; rfl; rfl; rfl; (apply g_move; rfl);
          apply exl_is; rfl; rfl; rfl; (apply g_move; rfl);
          apply exl_is; rfl; rfl; rfl; (apply g_move; rfl);
          apply exl_is; rfl; rfl; rfl; (exact g_call rfl rfl (enters_b (by kernel_rfl)) (c2 _));
          apply exl_is; rfl; rfl; rfl; (apply g_move; rfl);
          apply exl_is; rfl; rfl; rfl; (apply g_extract; rfl; rfl);
          apply exl_is; rfl; rfl; rfl; (apply g_extract; rfl; rfl);
          apply exl_is; rfl; rfl; rfl; (apply g_assign; rfl);
          apply exl_is; rfl; rfl; rfl; (apply g_assign; rfl);
          refine exl_nilT ?_;
          refine ex_seq ?_;
          refine ex_region ?_;
          apply exl_is; rfl; rfl; rfl; (apply g_move; rfl);
          apply exl_is; rfl; rfl; rfl; (apply g_len; rfl; rfl; (exact .inl ⟨_, _, _, (by ((repeat (first | exact List.Mem.head _ | assumption | refine List.Mem.tail _ ?_)); done)), (List.length_map _).symm⟩));
          apply exl_is; rfl; rfl; rfl; (apply g_sub; rfl; rfl; rfl; exact ⟨by omega, by omega⟩);
          apply exl_is; rfl; rfl; rfl; (apply g_assign; rfl);
          refine exl_nilT ?_;
          refine ex_seq ?_;
          refine ex_region ?_;
          apply exl_is; rfl; rfl; rfl; (apply g_move; rfl);
          apply exl_isB; rfl; rfl; rfl; (apply g_binInt; rfl; rfl; rfl); intro _ _;
          apply exl_is; rfl; rfl; rfl; (apply g_move; rfl);
          refine exl_caseL rfl (fun h => ?_) (fun h => ?_) <;> ((first | (subst h; rename BV _ true => h0; have h := h0.eq; clear h0) | (subst h; rename BV _ false => h0; have h := h0.eq; clear h0) | skip); (have hp := h; try simp only [decide_eq_true_eq, decide_eq_false_iff_not, Bool.not_eq_true', Bool.not_eq_false', bne_iff_ne, beq_iff_eq, beq_eq_false_iff_ne, bne_eq_false_iff_eq, Int.not_lt, Int.not_le] at hp); (try (exfalso; first | omega | (cases hp; done))));
          apply exl_isW; rfl; (rfl); rfl; rfl; (apply g_move; rfl);
          apply exl_isW; rfl; (rfl); rfl; rfl; (apply g_move; rfl);
          apply exl_isW; rfl; (rfl); rfl; rfl; (apply g_indexRow; rfl; rfl; exact (by ((repeat (first | exact List.Mem.head _ | assumption | refine List.Mem.tail _ ?_)); done)); rfl; (assumption); (simp only [List.length_map, List.length_set]; omega));
          apply exl_isW; rfl; (rfl); rfl; rfl; (apply g_fieldAddr; rfl; rfl; rfl);
          apply exl_isW; rfl; (rfl); rfl; rfl; (apply g_load1; rfl; rfl; (exact .k1 (by ((repeat (first | exact List.Mem.head _ | assumption | refine List.Mem.tail _ ?_)); done)) (by assumption) rfl));
          apply exl_isW; rfl; (rfl); rfl; rfl; (apply g_move; rfl);
          apply exl_isBW; rfl; (rfl); rfl; rfl; (apply g_binInt; rfl; rfl; rfl); intro _ _;
          apply exl_is; rfl; rfl; rfl; (apply g_pick_t; rfl; (rfl); rfl);
          apply exl_is; rfl; rfl; rfl; (apply g_move; rfl);
          refine exl_caseL rfl (fun h => ?_) (fun h => ?_) <;> ((first | (subst h; rename BV _ true => h0; have h := h0.eq; clear h0) | (subst h; rename BV _ false => h0; have h := h0.eq; clear h0) | skip); (have hp := h; try simp only [decide_eq_true_eq, decide_eq_false_iff_not, Bool.not_eq_true', Bool.not_eq_false', bne_iff_ne, beq_iff_eq, beq_eq_false_iff_ne, bne_eq_false_iff_eq, Int.not_lt, Int.not_le] at hp); (try (exfalso; first | omega | (cases hp; done))));
          apply exl_isW; rfl; (rfl); rfl; rfl; (apply g_move; rfl);
          apply exl_isW; rfl; (rfl); rfl; rfl; (apply g_move; rfl);
          apply exl_isW; rfl; (rfl); rfl; rfl; (apply g_indexRow; rfl; rfl; exact (by ((repeat (first | exact List.Mem.head _ | assumption | refine List.Mem.tail _ ?_)); done)); rfl; (assumption); (simp only [List.length_map, List.length_set]; omega));
          apply exl_isW; rfl; (rfl); rfl; rfl; (apply g_fieldAddr; rfl; rfl; rfl);
          apply exl_isW; rfl; (rfl); rfl; rfl; (apply g_load1; rfl; rfl; (exact .k1 (by ((repeat (first | exact List.Mem.head _ | assumption | refine List.Mem.tail _ ?_)); done)) (by assumption) rfl));
          apply exl_isW; rfl; (rfl); rfl; rfl; (apply g_move; rfl);
          apply exl_isBW; rfl; (rfl); rfl; rfl; (apply g_eqlBool; rfl; rfl; rfl); intro _ _;
          apply exl_is; rfl; rfl; rfl; (apply g_pick_t; rfl; (rfl); rfl);
          refine exl_nilT ?_;
          refine ex_cond rfl (fun h => ?_) (fun h => ?_) <;> ((first | (subst h; rename BV _ true => h0; have h := h0.eq; clear h0) | (subst h; rename BV _ false => h0; have h := h0.eq; clear h0) | skip); (have hp := h; try simp only [decide_eq_true_eq, decide_eq_false_iff_not, Bool.not_eq_true', Bool.not_eq_false', bne_iff_ne, beq_iff_eq, beq_eq_false_iff_ne, bne_eq_false_iff_eq, Int.not_lt, Int.not_le] at hp); (try (exfalso; first | omega | (cases hp; done))));
          refine ex_region ?_;
          apply exl_is; rfl; rfl; rfl; (apply g_move; rfl);
          apply exl_is; rfl; rfl; rfl; (apply g_move; rfl);
          apply exl_is; rfl; rfl; rfl; (apply g_move; rfl);
          apply exl_is; rfl; rfl; rfl; (apply g_indexRow; rfl; rfl; exact (by ((repeat (first | exact List.Mem.head _ | assumption | refine List.Mem.tail _ ?_)); done)); rfl; (assumption); (simp only [List.length_map, List.length_set]; omega));
          apply exl_is; rfl; rfl; rfl; (apply g_fieldAddr; rfl; rfl; rfl);
          apply exl_is; rfl; rfl; rfl; (apply g_fieldAddr; rfl; rfl; rfl);
          apply exl_do; rfl; rfl; (apply g_setPart; rfl; rfl; rfl; rfl; rfl; rfl; (exact Upd.there (Upd.here)); (assumption); exact Nat.le_of_ble_eq_true rfl; (simp only [setL, List.set_cons_zero, List.set_cons_succ, AV.cells]; rfl));
          refine exl_nil ?_;
          refine ex_region ?_;
          apply exl_is; rfl; rfl; rfl; (apply g_move; rfl);
          apply exl_is; rfl; rfl; rfl; (apply g_add; rfl; rfl; rfl; exact ⟨by omega, by omega⟩);
          apply exl_is; rfl; rfl; rfl; (apply g_assign; rfl);
          refine exl_nil ?_;
          simp only [thenA, blockA, roundA, noGotoA, retA, ↓reduceIte, Nat.reduceEqDiff];
          rotate_left;
          refine ex_region ?_;
          apply exl_is; rfl; rfl; rfl; (apply g_move; rfl);
          apply exl_is; rfl; rfl; rfl; (apply g_move; rfl);
          apply exl_is; rfl; rfl; rfl; (apply g_move; rfl);
          apply exl_is; rfl; rfl; rfl; (apply g_build; rfl; rfl; rfl; rfl);
          apply exl_is; rfl; rfl; rfl; (apply g_move; rfl);
          apply exl_is; rfl; rfl; rfl; (apply g_move; rfl);
          apply exl_is; rfl; rfl; rfl; (apply g_build; rfl; rfl; rfl; rfl);
          refine exl_row rfl rfl rfl (by exact g_buildSlice rfl rfl (by decide) rfl rfl (by (simp only [chunkN, List.take_succ_cons, List.take_zero, List.drop_succ_cons, List.drop_zero]; rfl))) ?_; intro _;
          apply exl_grew; rfl; rfl; rfl; (apply g_append; rfl; rfl; rfl; (intro v'; (exact Upd.there (Upd.there (Upd.here)))); (exact .r (by ((repeat (first | exact List.Mem.head _ | assumption | refine List.Mem.tail _ ?_)); done))); (intro y hy; simp only [List.mem_map, List.mem_cons, List.not_mem_nil, or_false, List.mem_append] at hy; (focus (obtain ⟨_, _, rfl⟩ := hy; rfl; done))); (refine app_ok ?_ (by kernel_rfl); (try simp only [List.length_append, List.length_map, List.length_cons, List.length_nil, List.length_take, List.length_drop]); omega)); intro _;
          apply exl_is; rfl; rfl; rfl; (apply g_assign; rfl);
          refine exl_nil ?_;
          refine ex_region ?_;
          apply exl_is; rfl; rfl; rfl; (apply g_move; rfl);
          apply exl_is; rfl; rfl; rfl; (apply g_add; rfl; rfl; rfl; exact ⟨by omega, by omega⟩);
          apply exl_is; rfl; rfl; rfl; (apply g_assign; rfl);
          refine exl_nil ?_;
          simp only [thenA, blockA, roundA, noGotoA, retA, ↓reduceIte, Nat.reduceEqDiff];
          rotate_left
          (all_goals (repeat (rename BV _ _ => hbv; cases hbv)))
          all_goals (try (exfalso; first | (rename true = false => hx; cases hx; done) | (rename false = true => hx; cases hx; done)))
          · refine ⟨(hr + 1, j + 1, v), ⟨by dsimp only; omega, by dsimp only; omega⟩, by dsimp only; omega, ?_⟩
            dsimp only
            rw [hst, show (q ++ [(⟨⟨x.r.lo, hr⟩, x.v, x.k⟩ : Er)]).map erC = ((q ++ [x]).map erC).set q.length (erC ⟨⟨x.r.lo, hr⟩, x.v, x.k⟩) by rw [er_set, er_snoc]]
            exact (St.le_of (by repeat (first | exact trivial | refine ⟨rfl, ?_⟩)) (by repeat (first | exact List.Sublist.refl _ | apply List.Sublist.cons_cons | apply List.Sublist.cons)))
          · exfalso
            contr
        · rw [if_neg hc] at hst
          refine ex_seq ?_;
          refine ex_seq ?_;
          refine ex_region ?_;
          apply exl_is; rfl; rfl; rfl; (apply g_move; rfl);
          apply exl_is; rfl; rfl; rfl; (apply g_fieldAddr; rfl; rfl; rfl);
          apply exl_is; rfl; rfl; rfl; (apply g_load1; rfl; rfl; (exact .p (by ((repeat (first | exact List.Mem.head _ | assumption | refine List.Mem.tail _ ?_)); done)) rfl));
          apply exl_isB; rfl; rfl; rfl; (apply g_binInt; rfl; rfl; rfl); intro _ _;
          refine exl_nilT ?_;
          refine ex_cond rfl (fun h => ?_) (fun h => ?_) <;> ((first | (subst h; rename BV _ true => h0; have h := h0.eq; clear h0) | (subst h; rename BV _ false => h0; have h := h0.eq; clear h0) | skip); (have hp := h; try simp only [decide_eq_true_eq, decide_eq_false_iff_not, Bool.not_eq_true', Bool.not_eq_false', bne_iff_ne, beq_iff_eq, beq_eq_false_iff_ne, bne_eq_false_iff_eq, Int.not_lt, Int.not_le] at hp); (try (exfalso; first | omega | (cases hp; done))));
          refine ex_skip ?_;
          refine ex_seq ?_;
          refine ex_block ?_;
          refine ex_seq ?_;
          refine ex_region ?_;
          apply exl_is; rfl; rfl; rfl; (apply g_move; rfl);
          apply exl_is; rfl; rfl; rfl; (apply g_move; rfl);
          apply exl_is; rfl; rfl; rfl; (apply g_move; rfl);
          apply exl_is; rfl; rfl; rfl; (apply g_move; rfl);
          apply exl_is; rfl; rfl; rfl; (exact g_call rfl rfl (enters_b (by kernel_rfl)) (c2 _));
          apply exl_is; rfl; rfl; rfl; (apply g_move; rfl);
          apply exl_is; rfl; rfl; rfl; (apply g_extract; rfl; rfl);
          apply exl_is; rfl; rfl; rfl; (apply g_extract; rfl; rfl);
          apply exl_is; rfl; rfl; rfl; (apply g_assign; rfl);
          apply exl_is; rfl; rfl; rfl; (apply g_assign; rfl);
          refine exl_nilT ?_;
          refine ex_seq ?_;
          refine ex_region ?_;
          apply exl_is; rfl; rfl; rfl; (apply g_move; rfl);
          apply exl_is; rfl; rfl; rfl; (apply g_len; rfl; rfl; (exact .inl ⟨_, _, _, (by ((repeat (first | exact List.Mem.head _ | assumption | refine List.Mem.tail _ ?_)); done)), (List.length_map _).symm⟩));
          apply exl_is; rfl; rfl; rfl; (apply g_sub; rfl; rfl; rfl; exact ⟨by omega, by omega⟩);
          apply exl_is; rfl; rfl; rfl; (apply g_assign; rfl);
          refine exl_nilT ?_;
          refine ex_seq ?_;
          refine ex_region ?_;
          apply exl_is; rfl; rfl; rfl; (apply g_move; rfl);
          apply exl_isB; rfl; rfl; rfl; (apply g_binInt; rfl; rfl; rfl); intro _ _;
          apply exl_is; rfl; rfl; rfl; (apply g_move; rfl);
          refine exl_caseL rfl (fun h => ?_) (fun h => ?_) <;> ((first | (subst h; rename BV _ true => h0; have h := h0.eq; clear h0) | (subst h; rename BV _ false => h0; have h := h0.eq; clear h0) | skip); (have hp := h; try simp only [decide_eq_true_eq, decide_eq_false_iff_not, Bool.not_eq_true', Bool.not_eq_false', bne_iff_ne, beq_iff_eq, beq_eq_false_iff_ne, bne_eq_false_iff_eq, Int.not_lt, Int.not_le] at hp); (try (exfalso; first | omega | (cases hp; done))));
          apply exl_isW; rfl; (rfl); rfl; rfl; (apply g_move; rfl);
          apply exl_isW; rfl; (rfl); rfl; rfl; (apply g_move; rfl);
          apply exl_isW; rfl; (rfl); rfl; rfl; (apply g_indexRow; rfl; rfl; exact (by ((repeat (first | exact List.Mem.head _ | assumption | refine List.Mem.tail _ ?_)); done)); rfl; (assumption); (simp only [List.length_map, List.length_set]; omega));
          apply exl_isW; rfl; (rfl); rfl; rfl; (apply g_fieldAddr; rfl; rfl; rfl);
          apply exl_isW; rfl; (rfl); rfl; rfl; (apply g_load1; rfl; rfl; (exact .k1 (by ((repeat (first | exact List.Mem.head _ | assumption | refine List.Mem.tail _ ?_)); done)) (by assumption) rfl));
          apply exl_isW; rfl; (rfl); rfl; rfl; (apply g_move; rfl);
          apply exl_isBW; rfl; (rfl); rfl; rfl; (apply g_binInt; rfl; rfl; rfl); intro _ _;
          apply exl_is; rfl; rfl; rfl; (apply g_pick_t; rfl; (rfl); rfl);
          apply exl_is; rfl; rfl; rfl; (apply g_move; rfl);
          refine exl_caseL rfl (fun h => ?_) (fun h => ?_) <;> ((first | (subst h; rename BV _ true => h0; have h := h0.eq; clear h0) | (subst h; rename BV _ false => h0; have h := h0.eq; clear h0) | skip); (have hp := h; try simp only [decide_eq_true_eq, decide_eq_false_iff_not, Bool.not_eq_true', Bool.not_eq_false', bne_iff_ne, beq_iff_eq, beq_eq_false_iff_ne, bne_eq_false_iff_eq, Int.not_lt, Int.not_le] at hp); (try (exfalso; first | omega | (cases hp; done))));
          apply exl_isW; rfl; (rfl); rfl; rfl; (apply g_move; rfl);
          apply exl_isW; rfl; (rfl); rfl; rfl; (apply g_move; rfl);
          apply exl_isW; rfl; (rfl); rfl; rfl; (apply g_indexRow; rfl; rfl; exact (by ((repeat (first | exact List.Mem.head _ | assumption | refine List.Mem.tail _ ?_)); done)); rfl; (assumption); (simp only [List.length_map, List.length_set]; omega));
          apply exl_isW; rfl; (rfl); rfl; rfl; (apply g_fieldAddr; rfl; rfl; rfl);
          apply exl_isW; rfl; (rfl); rfl; rfl; (apply g_load1; rfl; rfl; (exact .k1 (by ((repeat (first | exact List.Mem.head _ | assumption | refine List.Mem.tail _ ?_)); done)) (by assumption) rfl));
          apply exl_isW; rfl; (rfl); rfl; rfl; (apply g_move; rfl);
          apply exl_isBW; rfl; (rfl); rfl; rfl; (apply g_eqlBool; rfl; rfl; rfl); intro _ _;
          apply exl_is; rfl; rfl; rfl; (apply g_pick_t; rfl; (rfl); rfl);
          refine exl_nilT ?_;
          refine ex_cond rfl (fun h => ?_) (fun h => ?_) <;> ((first | (subst h; rename BV _ true => h0; have h := h0.eq; clear h0) | (subst h; rename BV _ false => h0; have h := h0.eq; clear h0) | skip); (have hp := h; try simp only [decide_eq_true_eq, decide_eq_false_iff_not, Bool.not_eq_true', Bool.not_eq_false', bne_iff_ne, beq_iff_eq, beq_eq_false_iff_ne, bne_eq_false_iff_eq, Int.not_lt, Int.not_le] at hp); (try (exfalso; first | omega | (cases hp; done))));
          refine ex_region ?_;
          apply exl_is; rfl; rfl; rfl; (apply g_move; rfl);
          apply exl_is; rfl; rfl; rfl; (apply g_move; rfl);
          apply exl_is; rfl; rfl; rfl; (apply g_move; rfl);
          apply exl_is; rfl; rfl; rfl; (apply g_indexRow; rfl; rfl; exact (by ((repeat (first | exact List.Mem.head _ | assumption | refine List.Mem.tail _ ?_)); done)); rfl; (assumption); (simp only [List.length_map, List.length_set]; omega));
          apply exl_is; rfl; rfl; rfl; (apply g_fieldAddr; rfl; rfl; rfl);
          apply exl_is; rfl; rfl; rfl; (apply g_fieldAddr; rfl; rfl; rfl);
          apply exl_do; rfl; rfl; (apply g_setPart; rfl; rfl; rfl; rfl; rfl; rfl; (exact Upd.there (Upd.here)); (assumption); exact Nat.le_of_ble_eq_true rfl; (simp only [setL, List.set_cons_zero, List.set_cons_succ, AV.cells]; rfl));
          refine exl_nil ?_;
          refine ex_region ?_;
          apply exl_is; rfl; rfl; rfl; (apply g_move; rfl);
          apply exl_is; rfl; rfl; rfl; (apply g_add; rfl; rfl; rfl; exact ⟨by omega, by omega⟩);
          apply exl_is; rfl; rfl; rfl; (apply g_assign; rfl);
          refine exl_nil ?_;
          simp only [thenA, blockA, roundA, noGotoA, retA, ↓reduceIte, Nat.reduceEqDiff];
          rotate_left;
          refine ex_region ?_;
          apply exl_is; rfl; rfl; rfl; (apply g_move; rfl);
          apply exl_is; rfl; rfl; rfl; (apply g_move; rfl);
          apply exl_is; rfl; rfl; rfl; (apply g_move; rfl);
          apply exl_is; rfl; rfl; rfl; (apply g_build; rfl; rfl; rfl; rfl);
          apply exl_is; rfl; rfl; rfl; (apply g_move; rfl);
          apply exl_is; rfl; rfl; rfl; (apply g_move; rfl);
          apply exl_is; rfl; rfl; rfl; (apply g_build; rfl; rfl; rfl; rfl);
          refine exl_row rfl rfl rfl (by exact g_buildSlice rfl rfl (by decide) rfl rfl (by (simp only [chunkN, List.take_succ_cons, List.take_zero, List.drop_succ_cons, List.drop_zero]; rfl))) ?_; intro _;
          apply exl_grew; rfl; rfl; rfl; (apply g_append; rfl; rfl; rfl; (intro v'; (exact Upd.there (Upd.there (Upd.here)))); (exact .r (by ((repeat (first | exact List.Mem.head _ | assumption | refine List.Mem.tail _ ?_)); done))); (intro y hy; simp only [List.mem_map, List.mem_cons, List.not_mem_nil, or_false, List.mem_append] at hy; (focus (obtain ⟨_, _, rfl⟩ := hy; rfl; done))); (refine app_ok ?_ (by kernel_rfl); (try simp only [List.length_append, List.length_map, List.length_cons, List.length_nil, List.length_take, List.length_drop]); omega)); intro _;
          apply exl_is; rfl; rfl; rfl; (apply g_assign; rfl);
          refine exl_nil ?_;
          refine ex_region ?_;
          apply exl_is; rfl; rfl; rfl; (apply g_move; rfl);
          apply exl_is; rfl; rfl; rfl; (apply g_add; rfl; rfl; rfl; exact ⟨by omega, by omega⟩);
          apply exl_is; rfl; rfl; rfl; (apply g_assign; rfl);
          refine exl_nil ?_;
          simp only [thenA, blockA, roundA, noGotoA, retA, ↓reduceIte, Nat.reduceEqDiff];
          rotate_left;
          refine exl_skipL rfl (by rfl) rfl rfl ?_;
          refine exl_skipL rfl (by rfl) rfl rfl ?_;
          refine exl_skipL rfl (by rfl) rfl rfl ?_;
          refine exl_skipL rfl (by rfl) rfl rfl ?_;
          refine exl_skipL rfl (by rfl) rfl rfl ?_;
          refine exl_skipL rfl (by rfl) rfl rfl ?_;
          refine exl_skipL rfl (by rfl) rfl rfl ?_;
          apply exl_is; rfl; rfl; rfl; (apply g_pick_f; rfl; (rfl); rfl);
          refine exl_nilT ?_;
          refine ex_cond_f rfl (by rfl) ?_;
          refine ex_region ?_;
          apply exl_is; rfl; rfl; rfl; (apply g_move; rfl);
          apply exl_is; rfl; rfl; rfl; (apply g_move; rfl);
          apply exl_is; rfl; rfl; rfl; (apply g_move; rfl);
          apply exl_is; rfl; rfl; rfl; (apply g_build; rfl; rfl; rfl; rfl);
          apply exl_is; rfl; rfl; rfl; (apply g_move; rfl);
          apply exl_is; rfl; rfl; rfl; (apply g_move; rfl);
          apply exl_is; rfl; rfl; rfl; (apply g_build; rfl; rfl; rfl; rfl);
          refine exl_row rfl rfl rfl (by exact g_buildSlice rfl rfl (by decide) rfl rfl (by (simp only [chunkN, List.take_succ_cons, List.take_zero, List.drop_succ_cons, List.drop_zero]; rfl))) ?_; intro _;
          apply exl_grew; rfl; rfl; rfl; (apply g_append; rfl; rfl; rfl; (intro v'; (exact Upd.there (Upd.there (Upd.here)))); (exact .r (by ((repeat (first | exact List.Mem.head _ | assumption | refine List.Mem.tail _ ?_)); done))); (intro y hy; simp only [List.mem_map, List.mem_cons, List.not_mem_nil, or_false, List.mem_append] at hy; (focus (obtain ⟨_, _, rfl⟩ := hy; rfl; done))); (refine app_ok ?_ (by kernel_rfl); (try simp only [List.length_append, List.length_map, List.length_cons, List.length_nil, List.length_take, List.length_drop]); omega)); intro _;
          apply exl_is; rfl; rfl; rfl; (apply g_assign; rfl);
          refine exl_nil ?_;
          refine ex_region ?_;
          apply exl_is; rfl; rfl; rfl; (apply g_move; rfl);
          apply exl_is; rfl; rfl; rfl; (apply g_add; rfl; rfl; rfl; exact ⟨by omega, by omega⟩);
          apply exl_is; rfl; rfl; rfl; (apply g_assign; rfl);
          refine exl_nil ?_;
          simp only [thenA, blockA, roundA, noGotoA, retA, ↓reduceIte, Nat.reduceEqDiff];
          rotate_left
          (all_goals (repeat (rename BV _ _ => hbv; cases hbv)))
          all_goals (try (exfalso; first | (rename true = false => hx; cases hx; done) | (rename false = true => hx; cases hx; done)))
          · exfalso
            contr
          · rename Value => v2
            refine ⟨(hr + 1, j + 1, v2), ⟨by dsimp only; omega, by dsimp only; omega⟩, by dsimp only; omega, ?_⟩
            dsimp only
            rw [hst, er_snoc (q ++ [x]) ⟨⟨hr, hr⟩, av, ak⟩]
            exact (St.le_of (by repeat (first | exact trivial | refine ⟨rfl, ?_⟩)) (by repeat (first | exact List.Sublist.refl _ | apply List.Sublist.cons_cons | apply List.Sublist.cons)))
          · rename Value => v2
            refine ⟨(hr + 1, j + 1, v2), ⟨by dsimp only; omega, by dsimp only; omega⟩, by dsimp only; omega, ?_⟩
            dsimp only
            rw [hst, er_snoc (q ++ [x]) ⟨⟨hr, hr⟩, av, ak⟩]
            exact (St.le_of (by repeat (first | exact trivial | refine ⟨rfl, ?_⟩)) (by repeat (first | exact List.Sublist.refl _ | apply List.Sublist.cons_cons | apply List.Sublist.cons)))
    · have e : j = (r.hi + 1 - r.lo).toNat := by omega
      have hhr : ¬ hr ≤ r.hi := by omega
      rw [show hoursR r = hours r.lo j by unfold hoursR; rw [e]]
      generalize erasH (fun h => sayL l key h known) [] (hours r.lo j) = S
      clear c1
      refine ex_seq ?_;
      refine ex_seq ?_;
      refine ex_region ?_;
      apply exl_is; rfl; rfl; rfl; (apply g_move; rfl);
      apply exl_is; rfl; rfl; rfl; (apply g_fieldAddr; rfl; rfl; rfl);
      apply exl_is; rfl; rfl; rfl; (apply g_load1; rfl; rfl; (exact .p (by ((repeat (first | exact List.Mem.head _ | assumption | refine List.Mem.tail _ ?_)); done)) rfl));
      apply exl_isB; rfl; rfl; rfl; (apply g_binInt; rfl; rfl; rfl); intro _ _;
      refine exl_nilT ?_;
      refine ex_cond rfl (fun h => ?_) (fun h => ?_) <;> ((first | (subst h; rename BV _ true => h0; have h := h0.eq; clear h0) | (subst h; rename BV _ false => h0; have h := h0.eq; clear h0) | skip); (have hp := h; try simp only [decide_eq_true_eq, decide_eq_false_iff_not, Bool.not_eq_true', Bool.not_eq_false', bne_iff_ne, beq_iff_eq, beq_eq_false_iff_ne, bne_eq_false_iff_eq, Int.not_lt, Int.not_le] at hp); (try (exfalso; first | omega | (cases hp; done))));
      refine ex_exit ?_;
      refine ex_seq ?_;
      refine ex_region ?_;
      apply exl_is; rfl; rfl; rfl; (apply g_move; rfl);
      apply exl_is; rfl; rfl; rfl; (apply g_assign; rfl);
      apply exl_is; rfl; rfl; rfl; (apply g_assign; rfl);
      refine exl_nilT ?_;
      refine ex_ret ?_;
      simp only [thenA, blockA, roundA, noGotoA, retA, ↓reduceIte, Nat.reduceEqDiff];
      rotate_left
      (all_goals (repeat (rename BV _ _ => hbv; cases hbv)))
      all_goals (try (exfalso; first | (rename true = false => hx; cases hx; done) | (rename false = true => hx; cases hx; done)))
      refine ret_q (σ3 := .row v 50 4 (S.map erC) :: σ) .nil (.cons (.ofTmp rfl) (.cons (.ofTmp rfl) .nil)) (by repeat (first | exact List.Sublist.refl _ | apply List.Sublist.cons_cons | apply List.Sublist.cons)) ?_
      exact fin_seal .here (.tup (.here (.same .nil)) .nil) (fin_done .mk)
  · rw [if_pos h]
    refine ex_seq ?_;
    refine ex_region ?_;
    refine exl_box rfl rfl rfl (g_box rfl rfl) ?_; intro _;
    apply exl_is; rfl; rfl; rfl; (apply g_assign; rfl);
    apply exl_is; rfl; rfl; rfl; (apply g_assign; rfl);
    refine exl_nilT ?_;
    refine ex_seq ?_;
    refine ex_region ?_;
    apply exl_is; rfl; rfl; rfl; (apply g_move; rfl);
    apply exl_is; rfl; rfl; rfl; (apply g_move; rfl);
    apply exl_is; rfl; rfl; rfl; (apply g_move; rfl);
    apply exl_is; rfl; rfl; rfl; (apply g_move; rfl);
    apply exl_is; rfl; rfl; rfl; (apply g_loadAgg; rfl; decide; rfl; (exact .p (by ((repeat (first | exact List.Mem.head _ | assumption | refine List.Mem.tail _ ?_)); done)) rfl rfl));
    apply exl_is; rfl; rfl; rfl; (exact g_call rfl rfl (enters_b (by kernel_rfl)) (c0 _));
    apply exl_is; rfl; rfl; rfl; (apply g_assign; rfl);
    refine exl_nilT ?_;
    refine ex_seq ?_;
    refine ex_seq ?_;
    refine ex_region ?_;
    apply exl_is; rfl; rfl; rfl; (apply g_move; rfl);
    apply exl_isB; rfl; rfl; rfl; (apply g_binInt; rfl; rfl; rfl); intro _ _;
    refine exl_nilT ?_;
    refine ex_cond rfl (fun h => ?_) (fun h => ?_) <;> ((first | (subst h; rename BV _ true => h0; have h := h0.eq; clear h0) | (subst h; rename BV _ false => h0; have h := h0.eq; clear h0) | skip); (have hp := h; try simp only [decide_eq_true_eq, decide_eq_false_iff_not, Bool.not_eq_true', Bool.not_eq_false', bne_iff_ne, beq_iff_eq, beq_eq_false_iff_ne, bne_eq_false_iff_eq, Int.not_lt, Int.not_le] at hp); (try (exfalso; first | omega | (cases hp; done))));
    refine ex_seq ?_;
    refine ex_region ?_;
    apply exl_is; rfl; rfl; rfl; (apply g_move; rfl);
    apply exl_is; rfl; rfl; rfl; (apply g_assign; rfl);
    apply exl_is; rfl; rfl; rfl; (apply g_assign; rfl);
    refine exl_nilT ?_;
    refine ex_ret ?_;
    simp only [thenA, blockA, roundA, noGotoA, retA, ↓reduceIte, Nat.reduceEqDiff];
    rotate_left
    (all_goals (repeat (rename BV _ _ => hbv; cases hbv)))
    all_goals (try (exfalso; first | (rename true = false => hx; cases hx; done) | (rename false = true => hx; cases hx; done)))
    refine ret_q (σ3 := σ) .nil (.cons (.ofTmp rfl) (.cons (.ofTmp rfl) .nil)) (by repeat (first | exact List.Sublist.refl _ | apply List.Sublist.cons_cons | apply List.Sublist.cons)) ?_
    exact fin_nil (sz := 4) (.tup (.here (.same .nil)) .nil) (fin_done .mk)
set_option maxHeartbeats 8000000 in
set_option maxRecDepth 10000 in
theorem rChanged_c (l : List Fc) (key a b : Int) (r : Rg) (σ : List Ent) : SCall Try.prog 21 [fcs l, .int .i64 key, .int .i64 a, .int .i64 b, .agg (rgC r)] σ (Is (.tup [rgs (chgF l key a b r).1, .int .i64 (chgF l key a b r).2]) σ) := by
  refine scall_of Try.func21 rfl (by simp) ?_
  have c0 := rAsked_c l key a b r
  unfold chgF
  by_cases h : askF l key [a, b] r = 0
  · rw [h] at c0
    rw [if_neg (by rw [h]; simp)]
    obtain ⟨hch, hrk, hlo, hhi, hle⟩ := ask_zero.1 h
    have hz := check_zero.1 hch
    have c1 := fun hour => rSaid_c l key hour a (by omega) (right_kn hch)
    have c2 := fun hour => rSaid_c l key hour b (by omega) (right_kn hch)
    clear hrk h hch
    refine ex_nilRow 36 2 ?_
    refine ex_seq ?_;
    refine ex_region ?_;
    refine exl_box rfl rfl rfl (g_box rfl rfl) ?_; intro _;
    apply exl_is; rfl; rfl; rfl; (apply g_assign; rfl);
    apply exl_is; rfl; rfl; rfl; (apply g_assign; rfl);
    refine exl_nilT ?_;
    refine ex_seq ?_;
    refine ex_region ?_;
    apply exl_is; rfl; rfl; rfl; (apply g_move; rfl);
    apply exl_is; rfl; rfl; rfl; (apply g_move; rfl);
    apply exl_is; rfl; rfl; rfl; (apply g_move; rfl);
    apply exl_is; rfl; rfl; rfl; (apply g_move; rfl);
    apply exl_is; rfl; rfl; rfl; (apply g_loadAgg; rfl; decide; rfl; (exact .p (by ((repeat (first | exact List.Mem.head _ | assumption | refine List.Mem.tail _ ?_)); done)) rfl rfl));
    apply exl_is; rfl; rfl; rfl; (exact g_call rfl rfl (enters_b (by kernel_rfl)) (c0 _));
    apply exl_is; rfl; rfl; rfl; (apply g_assign; rfl);
    refine exl_nilT ?_;
    refine ex_seq ?_;
    refine ex_seq ?_;
    refine ex_region ?_;
    apply exl_is; rfl; rfl; rfl; (apply g_move; rfl);
    apply exl_isB; rfl; rfl; rfl; (apply g_binInt; rfl; rfl; rfl); intro _ _;
    refine exl_nilT ?_;
    refine ex_cond rfl (fun h => ?_) (fun h => ?_) <;> ((first | (subst h; rename BV _ true => h0; have h := h0.eq; clear h0) | (subst h; rename BV _ false => h0; have h := h0.eq; clear h0) | skip); (have hp := h; try simp only [decide_eq_true_eq, decide_eq_false_iff_not, Bool.not_eq_true', Bool.not_eq_false', bne_iff_ne, beq_iff_eq, beq_eq_false_iff_ne, bne_eq_false_iff_eq, Int.not_lt, Int.not_le] at hp); (try (exfalso; first | omega | (cases hp; done))));
    refine ex_skip ?_;
    refine ex_seq ?_;
    refine ex_region ?_;
    apply exl_is; rfl; rfl; rfl; (apply g_assign; rfl);
    refine exl_nilT ?_;
    refine ex_seq ?_;
    refine ex_seq ?_;
    refine ex_region ?_;
    apply exl_is; rfl; rfl; rfl; (apply g_fieldAddr; rfl; rfl; rfl);
    apply exl_is; rfl; rfl; rfl; (apply g_load1; rfl; rfl; (exact .p (by ((repeat (first | exact List.Mem.head _ | assumption | refine List.Mem.tail _ ?_)); done)) rfl));
    apply exl_is; rfl; rfl; rfl; (apply g_assign; rfl);
    refine exl_nilT ?_;
    refine ex_block ?_;
    simp only [thenA, blockA, roundA, noGotoA, retA, ↓reduceIte, Nat.reduceEqDiff];
    rotate_left
    (all_goals (repeat (rename BV _ _ => hbv; cases hbv)))
    all_goals (try (exfalso; first | (rename true = false => hx; cases hx; done) | (rename false = true => hx; cases hx; done)))
    rename Nat => b9; revert b9
    intro b9
    clear c0
    refine ex_loop (fun (z : Int × Nat × Value) => (⟨[(0, fcs l), (1, .int .i64 key), (2, .int .i64 a), (3, .int .i64 b), (9, .ptr b9 0), (13, .slv z.2.2), (14, .int .i64 z.1)], .cells b9 (rgC r) 36 :: .row z.2.2 36 2 ((chgH (difB l key a b) [] (hours r.lo z.2.1)).map rgC) :: σ, [], Try.f21.ntmps⟩ : St)) (fun z => z.2.1 ≤ (r.hi + 1 - r.lo).toNat ∧ z.1 = r.lo + z.2.1) (fun z => (r.hi + 1 - r.lo).toNat - z.2.1) (r.lo, 0, nilS) (⟨Nat.zero_le _, by simp⟩) (St.le_of (by repeat (first | exact trivial | refine ⟨rfl, ?_⟩)) (by repeat (first | exact List.Sublist.refl _ | apply List.Sublist.cons_cons | apply List.Sublist.cons))) ?_
    intro z hI
    obtain ⟨hr, j, v⟩ := z
    obtain ⟨hI1, hI2⟩ := hI
    dsimp only at hI1 hI2 ⊢
    by_cases hj : j < (r.hi + 1 - r.lo).toNat
    · have c3 := c1 hr
      have c4 := c2 hr
      have hst := chgH_next (difB l key a b) r.lo j
      have hel := chgH_len (difB l key a b) (hours r.lo j) []
      rw [hours_length, List.length_nil] at hel
      rw [← hI2, show difB l key a b hr = !decide (sayL l key hr a = sayL l key hr b) from rfl] at hst
      generalize sayL l key hr a = A at hst c3
      generalize sayL l key hr b = B at hst c4
      generalize chgH (difB l key a b) [] (hours r.lo j) = S at hst hel ⊢
      obtain ⟨a1, a2⟩ := A
      obtain ⟨b1, b2⟩ := B
      have h00 : ([] : List (List AV)).length = 0 := rfl
      have hhr : hr ≤ r.hi := by omega
      clear c1 c2
      by_cases hd : a1 = b1 ∧ a2 = b2
      · obtain ⟨rfl, rfl⟩ := hd
        rw [decide_eq_true rfl, show chPut S ⟨hr, hr⟩ (!true) = S from rfl] at hst
        refine ex_seq ?_;
        refine ex_seq ?_;
        refine ex_region ?_;
        apply exl_is; rfl; rfl; rfl; (apply g_move; rfl);
        apply exl_is; rfl; rfl; rfl; (apply g_fieldAddr; rfl; rfl; rfl);
        apply exl_is; rfl; rfl; rfl; (apply g_load1; rfl; rfl; (exact .p (by ((repeat (first | exact List.Mem.head _ | assumption | refine List.Mem.tail _ ?_)); done)) rfl));
        apply exl_isB; rfl; rfl; rfl; (apply g_binInt; rfl; rfl; rfl); intro _ _;
        refine exl_nilT ?_;
        refine ex_cond rfl (fun h => ?_) (fun h => ?_) <;> ((first | (subst h; rename BV _ true => h0; have h := h0.eq; clear h0) | (subst h; rename BV _ false => h0; have h := h0.eq; clear h0) | skip); (have hp := h; try simp only [decide_eq_true_eq, decide_eq_false_iff_not, Bool.not_eq_true', Bool.not_eq_false', bne_iff_ne, beq_iff_eq, beq_eq_false_iff_ne, bne_eq_false_iff_eq, Int.not_lt, Int.not_le] at hp); (try (exfalso; first | omega | (cases hp; done))));
        refine ex_skip ?_;
        refine ex_seq ?_;
        refine ex_block ?_;
        refine ex_seq ?_;
        refine ex_region ?_;
        apply exl_is; rfl; rfl; rfl; (apply g_move; rfl);
        apply exl_is; rfl; rfl; rfl; (apply g_move; rfl);
        apply exl_is; rfl; rfl; rfl; (apply g_move; rfl);
        apply exl_is; rfl; rfl; rfl; (apply g_move; rfl);
        apply exl_is; rfl; rfl; rfl; (exact g_call rfl rfl (enters_b (by kernel_rfl)) (c3 _));
        apply exl_is; rfl; rfl; rfl; (apply g_move; rfl);
        apply exl_is; rfl; rfl; rfl; (apply g_extract; rfl; rfl);
        apply exl_is; rfl; rfl; rfl; (apply g_extract; rfl; rfl);
        apply exl_is; rfl; rfl; rfl; (apply g_assign; rfl);
        apply exl_is; rfl; rfl; rfl; (apply g_assign; rfl);
        refine exl_nilT ?_;
        refine ex_seq ?_;
        refine ex_region ?_;
        apply exl_is; rfl; rfl; rfl; (apply g_move; rfl);
        apply exl_is; rfl; rfl; rfl; (apply g_move; rfl);
        apply exl_is; rfl; rfl; rfl; (apply g_move; rfl);
        apply exl_is; rfl; rfl; rfl; (apply g_move; rfl);
        apply exl_is; rfl; rfl; rfl; (exact g_call rfl rfl (enters_b (by kernel_rfl)) (c4 _));
        apply exl_is; rfl; rfl; rfl; (apply g_move; rfl);
        apply exl_is; rfl; rfl; rfl; (apply g_extract; rfl; rfl);
        apply exl_is; rfl; rfl; rfl; (apply g_extract; rfl; rfl);
        apply exl_is; rfl; rfl; rfl; (apply g_assign; rfl);
        apply exl_is; rfl; rfl; rfl; (apply g_assign; rfl);
        refine exl_nilT ?_;
        refine ex_seq ?_;
        refine ex_seq ?_;
        refine ex_region ?_;
        apply exl_is; rfl; rfl; rfl; (apply g_move; rfl);
        apply exl_is; rfl; rfl; rfl; (apply g_move; rfl);
        apply exl_isB; rfl; rfl; rfl; (apply g_binInt; rfl; rfl; rfl); intro _ _;
        apply exl_is; rfl; rfl; rfl; (apply g_move; rfl);
        refine exl_caseL rfl (fun h => ?_) (fun h => ?_) <;> ((first | (subst h; rename BV _ true => h0; have h := h0.eq; clear h0) | (subst h; rename BV _ false => h0; have h := h0.eq; clear h0) | skip); (have hp := h; try simp only [decide_eq_true_eq, decide_eq_false_iff_not, Bool.not_eq_true', Bool.not_eq_false', bne_iff_ne, beq_iff_eq, beq_eq_false_iff_ne, bne_eq_false_iff_eq, Int.not_lt, Int.not_le] at hp); (try (exfalso; first | omega | (cases hp; done))));
        apply exl_isW; rfl; (rfl); rfl; rfl; (apply g_move; rfl);
        apply exl_isW; rfl; (rfl); rfl; rfl; (apply g_move; rfl);
        apply exl_isBW; rfl; (rfl); rfl; rfl; (apply g_eqlBool; rfl; rfl; rfl); intro _ _;
        apply exl_is; rfl; rfl; rfl; (apply g_pick_t; rfl; (rfl); rfl);
        refine exl_nilT ?_;
        refine ex_cond rfl (fun h => ?_) (fun h => ?_) <;> ((first | (subst h; rename BV _ true => h0; have h := h0.eq; clear h0) | (subst h; rename BV _ false => h0; have h := h0.eq; clear h0) | skip); (have hp := h; try simp only [decide_eq_true_eq, decide_eq_false_iff_not, Bool.not_eq_true', Bool.not_eq_false', bne_iff_ne, beq_iff_eq, beq_eq_false_iff_ne, bne_eq_false_iff_eq, Int.not_lt, Int.not_le] at hp); (try (exfalso; first | omega | (cases hp; done))));
        refine ex_exit ?_;
        refine ex_region ?_;
        apply exl_is; rfl; rfl; rfl; (apply g_move; rfl);
        apply exl_is; rfl; rfl; rfl; (apply g_add; rfl; rfl; rfl; exact ⟨by omega, by omega⟩);
        apply exl_is; rfl; rfl; rfl; (apply g_assign; rfl);
        refine exl_nil ?_;
        simp only [thenA, blockA, roundA, noGotoA, retA, ↓reduceIte, Nat.reduceEqDiff];
        rotate_left;
        refine ex_skip ?_;
        refine ex_seq ?_;
        refine ex_region ?_;
        apply exl_is; rfl; rfl; rfl; (apply g_move; rfl);
        apply exl_is; rfl; rfl; rfl; (apply g_len; rfl; rfl; (exact .inl ⟨_, _, _, (by ((repeat (first | exact List.Mem.head _ | assumption | refine List.Mem.tail _ ?_)); done)), (List.length_map _).symm⟩));
        apply exl_is; rfl; rfl; rfl; (apply g_sub; rfl; rfl; rfl; exact ⟨by omega, by omega⟩);
        apply exl_is; rfl; rfl; rfl; (apply g_assign; rfl);
        refine exl_nilT ?_;
        refine ex_seq ?_;
        refine ex_region ?_;
        apply exl_is; rfl; rfl; rfl; (apply g_move; rfl);
        apply exl_isB; rfl; rfl; rfl; (apply g_binInt; rfl; rfl; rfl); intro _ _;
        apply exl_is; rfl; rfl; rfl; (apply g_move; rfl);
        refine exl_caseL rfl (fun h => ?_) (fun h => ?_) <;> ((first | (subst h; rename BV _ true => h0; have h := h0.eq; clear h0) | (subst h; rename BV _ false => h0; have h := h0.eq; clear h0) | skip); (have hp := h; try simp only [decide_eq_true_eq, decide_eq_false_iff_not, Bool.not_eq_true', Bool.not_eq_false', bne_iff_ne, beq_iff_eq, beq_eq_false_iff_ne, bne_eq_false_iff_eq, Int.not_lt, Int.not_le] at hp); (try (exfalso; first | omega | (cases hp; done))));
        apply exl_isW; rfl; (rfl); rfl; rfl; (apply g_move; rfl);
        apply exl_isW; rfl; (rfl); rfl; rfl; (apply g_move; rfl);
        simp only [thenA, blockA, roundA, noGotoA, retA, ↓reduceIte, Nat.reduceEqDiff];
        rotate_left;
        refine exl_skipL rfl (by rfl) rfl rfl ?_;
        refine exl_skipL rfl (by rfl) rfl rfl ?_;
        refine exl_skipL rfl (by rfl) rfl rfl ?_;
        refine exl_skipL rfl (by rfl) rfl rfl ?_;
        refine exl_skipL rfl (by rfl) rfl rfl ?_;
        refine exl_skipL rfl (by rfl) rfl rfl ?_;
        refine exl_skipL rfl (by rfl) rfl rfl ?_;
        refine exl_skipL rfl (by rfl) rfl rfl ?_;
        apply exl_is; rfl; rfl; rfl; (apply g_pick_f; rfl; (rfl); rfl);
        refine exl_nilT ?_;
        refine ex_cond_f rfl (by rfl) ?_;
        refine ex_region ?_;
        apply exl_is; rfl; rfl; rfl; (apply g_move; rfl);
        apply exl_is; rfl; rfl; rfl; (apply g_move; rfl);
        apply exl_is; rfl; rfl; rfl; (apply g_move; rfl);
        apply exl_is; rfl; rfl; rfl; (apply g_build; rfl; rfl; rfl; rfl);
        refine exl_row rfl rfl rfl (by exact g_buildSlice rfl rfl (by decide) rfl rfl (by (simp only [chunkN, List.take_succ_cons, List.take_zero, List.drop_succ_cons, List.drop_zero]; rfl))) ?_; intro _;
        apply exl_grew; rfl; rfl; rfl; (apply g_append; rfl; rfl; rfl; (intro v'; (exact Upd.there (Upd.there (Upd.here)))); (exact .r (by ((repeat (first | exact List.Mem.head _ | assumption | refine List.Mem.tail _ ?_)); done))); (intro y hy; simp only [List.mem_map, List.mem_cons, List.not_mem_nil, or_false, List.mem_append] at hy; (focus (obtain ⟨_, _, rfl⟩ := hy; rfl; done))); (refine app_ok ?_ (by kernel_rfl); (try simp only [List.length_append, List.length_map, List.length_cons, List.length_nil, List.length_take, List.length_drop]); omega)); intro _;
        apply exl_is; rfl; rfl; rfl; (apply g_assign; rfl);
        refine exl_nil ?_;
        refine ex_region ?_;
        apply exl_is; rfl; rfl; rfl; (apply g_move; rfl);
        apply exl_is; rfl; rfl; rfl; (apply g_add; rfl; rfl; rfl; exact ⟨by omega, by omega⟩);
        apply exl_is; rfl; rfl; rfl; (apply g_assign; rfl);
        refine exl_nil ?_;
        simp only [thenA, blockA, roundA, noGotoA, retA, ↓reduceIte, Nat.reduceEqDiff];
        rotate_left
        (all_goals (repeat (rename BV _ _ => hbv; cases hbv)))
        all_goals (try (exfalso; first | (rename true = false => hx; cases hx; done) | (rename false = true => hx; cases hx; done)))
        · refine ⟨(hr + 1, j + 1, v), ⟨by dsimp only; omega, by dsimp only; omega⟩, by dsimp only; omega, ?_⟩
          dsimp only
          rw [hst]
          exact (St.le_of (by repeat (first | exact trivial | refine ⟨rfl, ?_⟩)) (by repeat (first | exact List.Sublist.refl _ | apply List.Sublist.cons_cons | apply List.Sublist.cons)))
        · exfalso
          contr
        · exfalso
          contr
      · rw [decide_eq_false (fun h => hd ⟨congrArg An.v h, congrArg An.k h⟩)] at hst
        rcases snoc_or S with rfl | ⟨q, x, rfl⟩
        · rw [chPut_nil, if_pos (show (!false) = true from rfl)] at hst
          refine ex_seq ?_;
          refine ex_seq ?_;
          refine ex_region ?_;
          apply exl_is; rfl; rfl; rfl; (apply g_move; rfl);
          apply exl_is; rfl; rfl; rfl; (apply g_fieldAddr; rfl; rfl; rfl);
          apply exl_is; rfl; rfl; rfl; (apply g_load1; rfl; rfl; (exact .p (by ((repeat (first | exact List.Mem.head _ | assumption | refine List.Mem.tail _ ?_)); done)) rfl));
          apply exl_isB; rfl; rfl; rfl; (apply g_binInt; rfl; rfl; rfl); intro _ _;
          refine exl_nilT ?_;
          refine ex_cond rfl (fun h => ?_) (fun h => ?_) <;> ((first | (subst h; rename BV _ true => h0; have h := h0.eq; clear h0) | (subst h; rename BV _ false => h0; have h := h0.eq; clear h0) | skip); (have hp := h; try simp only [decide_eq_true_eq, decide_eq_false_iff_not, Bool.not_eq_true', Bool.not_eq_false', bne_iff_ne, beq_iff_eq, beq_eq_false_iff_ne, bne_eq_false_iff_eq, Int.not_lt, Int.not_le] at hp); (try (exfalso; first | omega | (cases hp; done))));
          refine ex_skip ?_;
          refine ex_seq ?_;
          refine ex_block ?_;
          refine ex_seq ?_;
          refine ex_region ?_;
          apply exl_is; rfl; rfl; rfl; (apply g_move; rfl);
          apply exl_is; rfl; rfl; rfl; (apply g_move; rfl);
          apply exl_is; rfl; rfl; rfl; (apply g_move; rfl);
          apply exl_is; rfl; rfl; rfl; (apply g_move; rfl);
          apply exl_is; rfl; rfl; rfl; (exact g_call rfl rfl (enters_b (by kernel_rfl)) (c3 _));
          apply exl_is; rfl; rfl; rfl; (apply g_move; rfl);
          apply exl_is; rfl; rfl; rfl; (apply g_extract; rfl; rfl);
          apply exl_is; rfl; rfl; rfl; (apply g_extract; rfl; rfl);
          apply exl_is; rfl; rfl; rfl; (apply g_assign; rfl);
          apply exl_is; rfl; rfl; rfl; (apply g_assign; rfl);
          refine exl_nilT ?_;
          refine ex_seq ?_;
          refine ex_region ?_;
          apply exl_is; rfl; rfl; rfl; (apply g_move; rfl);
          apply exl_is; rfl; rfl; rfl; (apply g_move; rfl);
          apply exl_is; rfl; rfl; rfl; (apply g_move; rfl);
          apply exl_is; rfl; rfl; rfl; (apply g_move; rfl);
          apply exl_is; rfl; rfl; rfl; (exact g_call rfl rfl (enters_b (by kernel_rfl)) (c4 _));
          apply exl_is; rfl; rfl; rfl; (apply g_move; rfl);
          apply exl_is; rfl; rfl; rfl; (apply g_extract; rfl; rfl);
          apply exl_is; rfl; rfl; rfl; (apply g_extract; rfl; rfl);
          apply exl_is; rfl; rfl; rfl; (apply g_assign; rfl);
          apply exl_is; rfl; rfl; rfl; (apply g_assign; rfl);
          refine exl_nilT ?_;
          refine ex_seq ?_;
          refine ex_seq ?_;
          refine ex_region ?_;
          apply exl_is; rfl; rfl; rfl; (apply g_move; rfl);
          apply exl_is; rfl; rfl; rfl; (apply g_move; rfl);
          apply exl_isB; rfl; rfl; rfl; (apply g_binInt; rfl; rfl; rfl); intro _ _;
          apply exl_is; rfl; rfl; rfl; (apply g_move; rfl);
          refine exl_caseL rfl (fun h => ?_) (fun h => ?_) <;> ((first | (subst h; rename BV _ true => h0; have h := h0.eq; clear h0) | (subst h; rename BV _ false => h0; have h := h0.eq; clear h0) | skip); (have hp := h; try simp only [decide_eq_true_eq, decide_eq_false_iff_not, Bool.not_eq_true', Bool.not_eq_false', bne_iff_ne, beq_iff_eq, beq_eq_false_iff_ne, bne_eq_false_iff_eq, Int.not_lt, Int.not_le] at hp); (try (exfalso; first | omega | (cases hp; done))));
          apply exl_isW; rfl; (rfl); rfl; rfl; (apply g_move; rfl);
          apply exl_isW; rfl; (rfl); rfl; rfl; (apply g_move; rfl);
          apply exl_isBW; rfl; (rfl); rfl; rfl; (apply g_eqlBool; rfl; rfl; rfl); intro _ _;
          apply exl_is; rfl; rfl; rfl; (apply g_pick_t; rfl; (rfl); rfl);
          refine exl_nilT ?_;
          refine ex_cond rfl (fun h => ?_) (fun h => ?_) <;> ((first | (subst h; rename BV _ true => h0; have h := h0.eq; clear h0) | (subst h; rename BV _ false => h0; have h := h0.eq; clear h0) | skip); (have hp := h; try simp only [decide_eq_true_eq, decide_eq_false_iff_not, Bool.not_eq_true', Bool.not_eq_false', bne_iff_ne, beq_iff_eq, beq_eq_false_iff_ne, bne_eq_false_iff_eq, Int.not_lt, Int.not_le] at hp); (try (exfalso; first | omega | (cases hp; done))));
          refine ex_exit ?_;
          refine ex_region ?_;
          apply exl_is; rfl; rfl; rfl; (apply g_move; rfl);
          apply exl_is; rfl; rfl; rfl; (apply g_add; rfl; rfl; rfl; exact ⟨by omega, by omega⟩);
          apply exl_is; rfl; rfl; rfl; (apply g_assign; rfl);
          refine exl_nil ?_;
          simp only [thenA, blockA, roundA, noGotoA, retA, ↓reduceIte, Nat.reduceEqDiff];
          rotate_left;
          refine ex_skip ?_;
          refine ex_seq ?_;
          refine ex_region ?_;
          apply exl_is; rfl; rfl; rfl; (apply g_move; rfl);
          apply exl_is; rfl; rfl; rfl; (apply g_len; rfl; rfl; (exact .inl ⟨_, _, _, (by ((repeat (first | exact List.Mem.head _ | assumption | refine List.Mem.tail _ ?_)); done)), (List.length_map _).symm⟩));
          apply exl_is; rfl; rfl; rfl; (apply g_sub; rfl; rfl; rfl; exact ⟨by omega, by omega⟩);
          apply exl_is; rfl; rfl; rfl; (apply g_assign; rfl);
          refine exl_nilT ?_;
          refine ex_seq ?_;
          refine ex_region ?_;
          apply exl_is; rfl; rfl; rfl; (apply g_move; rfl);
          apply exl_isB; rfl; rfl; rfl; (apply g_binInt; rfl; rfl; rfl); intro _ _;
          apply exl_is; rfl; rfl; rfl; (apply g_move; rfl);
          refine exl_caseL rfl (fun h => ?_) (fun h => ?_) <;> ((first | (subst h; rename BV _ true => h0; have h := h0.eq; clear h0) | (subst h; rename BV _ false => h0; have h := h0.eq; clear h0) | skip); (have hp := h; try simp only [decide_eq_true_eq, decide_eq_false_iff_not, Bool.not_eq_true', Bool.not_eq_false', bne_iff_ne, beq_iff_eq, beq_eq_false_iff_ne, bne_eq_false_iff_eq, Int.not_lt, Int.not_le] at hp); (try (exfalso; first | omega | (cases hp; done))));
          refine exl_skipL rfl (by rfl) rfl rfl ?_;
          refine exl_skipL rfl (by rfl) rfl rfl ?_;
          refine exl_skipL rfl (by rfl) rfl rfl ?_;
          refine exl_skipL rfl (by rfl) rfl rfl ?_;
          refine exl_skipL rfl (by rfl) rfl rfl ?_;
          refine exl_skipL rfl (by rfl) rfl rfl ?_;
          refine exl_skipL rfl (by rfl) rfl rfl ?_;
          refine exl_skipL rfl (by rfl) rfl rfl ?_;
          apply exl_is; rfl; rfl; rfl; (apply g_pick_f; rfl; (rfl); rfl);
          refine exl_nilT ?_;
          refine ex_cond_f rfl (by rfl) ?_;
          refine ex_region ?_;
          apply exl_is; rfl; rfl; rfl; (apply g_move; rfl);
          apply exl_is; rfl; rfl; rfl; (apply g_move; rfl);
          apply exl_is; rfl; rfl; rfl; (apply g_move; rfl);
          apply exl_is; rfl; rfl; rfl; (apply g_build; rfl; rfl; rfl; rfl);
          refine exl_row rfl rfl rfl (by exact g_buildSlice rfl rfl (by decide) rfl rfl (by (simp only [chunkN, List.take_succ_cons, List.take_zero, List.drop_succ_cons, List.drop_zero]; rfl))) ?_; intro _;
          apply exl_grew; rfl; rfl; rfl; (apply g_append; rfl; rfl; rfl; (intro v'; (exact Upd.there (Upd.there (Upd.here)))); (exact .r (by ((repeat (first | exact List.Mem.head _ | assumption | refine List.Mem.tail _ ?_)); done))); (intro y hy; simp only [List.mem_map, List.mem_cons, List.not_mem_nil, or_false, List.mem_append] at hy; (focus (obtain ⟨_, _, rfl⟩ := hy; rfl; done))); (refine app_ok ?_ (by kernel_rfl); (try simp only [List.length_append, List.length_map, List.length_cons, List.length_nil, List.length_take, List.length_drop]); omega)); intro _;
          apply exl_is; rfl; rfl; rfl; (apply g_assign; rfl);
          refine exl_nil ?_;
          refine ex_region ?_;
          apply exl_is; rfl; rfl; rfl; (apply g_move; rfl);
          apply exl_is; rfl; rfl; rfl; (apply g_add; rfl; rfl; rfl; exact ⟨by omega, by omega⟩);
          apply exl_is; rfl; rfl; rfl; (apply g_assign; rfl);
          refine exl_nil ?_;
          simp only [thenA, blockA, roundA, noGotoA, retA, ↓reduceIte, Nat.reduceEqDiff];
          rotate_left;
          refine exl_skipL rfl (by rfl) rfl rfl ?_;
          refine exl_skipL rfl (by rfl) rfl rfl ?_;
          refine exl_skipL rfl (by rfl) rfl rfl ?_;
          apply exl_is; rfl; rfl; rfl; (apply g_pick_f; rfl; (rfl); rfl);
          refine exl_nilT ?_;
          refine ex_cond_f rfl (by rfl) ?_;
          refine ex_skip ?_;
          refine ex_seq ?_;
          refine ex_region ?_;
          apply exl_is; rfl; rfl; rfl; (apply g_move; rfl);
          apply exl_is; rfl; rfl; rfl; (apply g_len; rfl; rfl; (exact .inl ⟨_, _, _, (by ((repeat (first | exact List.Mem.head _ | assumption | refine List.Mem.tail _ ?_)); done)), (List.length_map _).symm⟩));
          apply exl_is; rfl; rfl; rfl; (apply g_sub; rfl; rfl; rfl; exact ⟨by omega, by omega⟩);
          apply exl_is; rfl; rfl; rfl; (apply g_assign; rfl);
          refine exl_nilT ?_;
          refine ex_seq ?_;
          refine ex_region ?_;
          apply exl_is; rfl; rfl; rfl; (apply g_move; rfl);
          apply exl_isB; rfl; rfl; rfl; (apply g_binInt; rfl; rfl; rfl); intro _ _;
          apply exl_is; rfl; rfl; rfl; (apply g_move; rfl);
          refine exl_caseL rfl (fun h => ?_) (fun h => ?_) <;> ((first | (subst h; rename BV _ true => h0; have h := h0.eq; clear h0) | (subst h; rename BV _ false => h0; have h := h0.eq; clear h0) | skip); (have hp := h; try simp only [decide_eq_true_eq, decide_eq_false_iff_not, Bool.not_eq_true', Bool.not_eq_false', bne_iff_ne, beq_iff_eq, beq_eq_false_iff_ne, bne_eq_false_iff_eq, Int.not_lt, Int.not_le] at hp); (try (exfalso; first | omega | (cases hp; done))));
          refine exl_skipL rfl (by rfl) rfl rfl ?_;
          refine exl_skipL rfl (by rfl) rfl rfl ?_;
          refine exl_skipL rfl (by rfl) rfl rfl ?_;
          refine exl_skipL rfl (by rfl) rfl rfl ?_;
          refine exl_skipL rfl (by rfl) rfl rfl ?_;
          refine exl_skipL rfl (by rfl) rfl rfl ?_;
          refine exl_skipL rfl (by rfl) rfl rfl ?_;
          refine exl_skipL rfl (by rfl) rfl rfl ?_;
          apply exl_is; rfl; rfl; rfl; (apply g_pick_f; rfl; (rfl); rfl);
          refine exl_nilT ?_;
          refine ex_cond_f rfl (by rfl) ?_;
          refine ex_region ?_;
          apply exl_is; rfl; rfl; rfl; (apply g_move; rfl);
          apply exl_is; rfl; rfl; rfl; (apply g_move; rfl);
          apply exl_is; rfl; rfl; rfl; (apply g_move; rfl);
          apply exl_is; rfl; rfl; rfl; (apply g_build; rfl; rfl; rfl; rfl);
          refine exl_row rfl rfl rfl (by exact g_buildSlice rfl rfl (by decide) rfl rfl (by (simp only [chunkN, List.take_succ_cons, List.take_zero, List.drop_succ_cons, List.drop_zero]; rfl))) ?_; intro _;
          apply exl_grew; rfl; rfl; rfl; (apply g_append; rfl; rfl; rfl; (intro v'; (exact Upd.there (Upd.there (Upd.here)))); (exact .r (by ((repeat (first | exact List.Mem.head _ | assumption | refine List.Mem.tail _ ?_)); done))); (intro y hy; simp only [List.mem_map, List.mem_cons, List.not_mem_nil, or_false, List.mem_append] at hy; (focus (obtain ⟨_, _, rfl⟩ := hy; rfl; done))); (refine app_ok ?_ (by kernel_rfl); (try simp only [List.length_append, List.length_map, List.length_cons, List.length_nil, List.length_take, List.length_drop]); omega)); intro _;
          apply exl_is; rfl; rfl; rfl; (apply g_assign; rfl);
          refine exl_nil ?_;
          refine ex_region ?_;
          apply exl_is; rfl; rfl; rfl; (apply g_move; rfl);
          apply exl_is; rfl; rfl; rfl; (apply g_add; rfl; rfl; rfl; exact ⟨by omega, by omega⟩);
          apply exl_is; rfl; rfl; rfl; (apply g_assign; rfl);
          refine exl_nil ?_;
          simp only [thenA, blockA, roundA, noGotoA, retA, ↓reduceIte, Nat.reduceEqDiff];
          rotate_left
          (all_goals (repeat (rename BV _ _ => hbv; cases hbv)))
          all_goals (try (exfalso; first | (rename true = false => hx; cases hx; done) | (rename false = true => hx; cases hx; done)))
          · exfalso
            contr
          · rename Value => v2
            refine ⟨(hr + 1, j + 1, v2), ⟨by dsimp only; omega, by dsimp only; omega⟩, by dsimp only; omega, ?_⟩
            dsimp only
            rw [hst, show ([⟨hr, hr⟩] : List Rg) = [] ++ [⟨hr, hr⟩] from rfl, rg_snoc [] ⟨hr, hr⟩]
            exact (St.le_of (by repeat (first | exact trivial | refine ⟨rfl, ?_⟩)) (by repeat (first | exact List.Sublist.refl _ | apply List.Sublist.cons_cons | apply List.Sublist.cons)))
          · rename Value => v2
            refine ⟨(hr + 1, j + 1, v2), ⟨by dsimp only; omega, by dsimp only; omega⟩, by dsimp only; omega, ?_⟩
            dsimp only
            rw [hst, show ([⟨hr, hr⟩] : List Rg) = [] ++ [⟨hr, hr⟩] from rfl, rg_snoc [] ⟨hr, hr⟩]
            exact (St.le_of (by repeat (first | exact trivial | refine ⟨rfl, ?_⟩)) (by repeat (first | exact List.Sublist.refl _ | apply List.Sublist.cons_cons | apply List.Sublist.cons)))
        · rw [chPut_snoc, if_pos (show (!false) = true from rfl)] at hst
          have hgl := rg_last q x
          have hqz : (((q ++ [x]).length : Nat) : Int) - 1 = ((q.length : Nat) : Int) := by rw [List.length_append, List.length_singleton]; omega
          by_cases hc : x.hi + 1 = hr
          · rw [if_pos hc] at hst
            refine ex_seq ?_;
            refine ex_seq ?_;
            refine ex_region ?_;
            apply exl_is; rfl; rfl; rfl; (apply g_move; rfl);
            apply exl_is; rfl; rfl; rfl; (apply g_fieldAddr; rfl; rfl; rfl);
            apply exl_is; rfl; rfl; rfl; (apply g_load1; rfl; rfl; (exact .p (by ((repeat (first | exact List.Mem.head _ | assumption | refine List.Mem.tail _ ?_)); done)) rfl));
            apply exl_isB; rfl; rfl; rfl; (apply g_binInt; rfl; rfl; rfl); intro _ _;
            refine exl_nilT ?_;
            refine ex_cond rfl (fun h => ?_) (fun h => ?_) <;> ((first | (subst h; rename BV _ true => h0; have h := h0.eq; clear h0) | (subst h; rename BV _ false => h0; have h := h0.eq; clear h0) | skip); (have hp := h; try simp only [decide_eq_true_eq, decide_eq_false_iff_not, Bool.not_eq_true', Bool.not_eq_false', bne_iff_ne, beq_iff_eq, beq_eq_false_iff_ne, bne_eq_false_iff_eq, Int.not_lt, Int.not_le] at hp); (try (exfalso; first | omega | (cases hp; done))));
            refine ex_skip ?_;
            refine ex_seq ?_;
            refine ex_block ?_;
            refine ex_seq ?_;
            refine ex_region ?_;
            apply exl_is; rfl; rfl; rfl; (apply g_move; rfl);
            apply exl_is; rfl; rfl; rfl; (apply g_move; rfl);
            apply exl_is; rfl; rfl; rfl; (apply g_move; rfl);
            apply exl_is; rfl; rfl; rfl; (apply g_move; rfl);
            apply exl_is; rfl; rfl; rfl; (exact g_call rfl rfl (enters_b (by kernel_rfl)) (c3 _));
            apply exl_is; rfl; rfl; rfl; (apply g_move; rfl);
            apply exl_is; rfl; rfl; rfl; (apply g_extract; rfl; rfl);
            apply exl_is; rfl; rfl; rfl; (apply g_extract; rfl; rfl);
            apply exl_is; rfl; rfl; rfl; (apply g_assign; rfl);
            apply exl_is; rfl; rfl; rfl; (apply g_assign; rfl);
            refine exl_nilT ?_;
            refine ex_seq ?_;
            refine ex_region ?_;
            apply exl_is; rfl; rfl; rfl; (apply g_move; rfl);
            apply exl_is; rfl; rfl; rfl; (apply g_move; rfl);
            apply exl_is; rfl; rfl; rfl; (apply g_move; rfl);
            apply exl_is; rfl; rfl; rfl; (apply g_move; rfl);
            apply exl_is; rfl; rfl; rfl; (exact g_call rfl rfl (enters_b (by kernel_rfl)) (c4 _));
            apply exl_is; rfl; rfl; rfl; (apply g_move; rfl);
            apply exl_is; rfl; rfl; rfl; (apply g_extract; rfl; rfl);
            apply exl_is; rfl; rfl; rfl; (apply g_extract; rfl; rfl);
            apply exl_is; rfl; rfl; rfl; (apply g_assign; rfl);
            apply exl_is; rfl; rfl; rfl; (apply g_assign; rfl);
            refine exl_nilT ?_;
            refine ex_seq ?_;
            refine ex_seq ?_;
            refine ex_region ?_;
            apply exl_is; rfl; rfl; rfl; (apply g_move; rfl);
            apply exl_is; rfl; rfl; rfl; (apply g_move; rfl);
            apply exl_isB; rfl; rfl; rfl; (apply g_binInt; rfl; rfl; rfl); intro _ _;
            apply exl_is; rfl; rfl; rfl; (apply g_move; rfl);
            refine exl_caseL rfl (fun h => ?_) (fun h => ?_) <;> ((first | (subst h; rename BV _ true => h0; have h := h0.eq; clear h0) | (subst h; rename BV _ false => h0; have h := h0.eq; clear h0) | skip); (have hp := h; try simp only [decide_eq_true_eq, decide_eq_false_iff_not, Bool.not_eq_true', Bool.not_eq_false', bne_iff_ne, beq_iff_eq, beq_eq_false_iff_ne, bne_eq_false_iff_eq, Int.not_lt, Int.not_le] at hp); (try (exfalso; first | omega | (cases hp; done))));
            apply exl_isW; rfl; (rfl); rfl; rfl; (apply g_move; rfl);
            apply exl_isW; rfl; (rfl); rfl; rfl; (apply g_move; rfl);
            apply exl_isBW; rfl; (rfl); rfl; rfl; (apply g_eqlBool; rfl; rfl; rfl); intro _ _;
            apply exl_is; rfl; rfl; rfl; (apply g_pick_t; rfl; (rfl); rfl);
            refine exl_nilT ?_;
            refine ex_cond rfl (fun h => ?_) (fun h => ?_) <;> ((first | (subst h; rename BV _ true => h0; have h := h0.eq; clear h0) | (subst h; rename BV _ false => h0; have h := h0.eq; clear h0) | skip); (have hp := h; try simp only [decide_eq_true_eq, decide_eq_false_iff_not, Bool.not_eq_true', Bool.not_eq_false', bne_iff_ne, beq_iff_eq, beq_eq_false_iff_ne, bne_eq_false_iff_eq, Int.not_lt, Int.not_le] at hp); (try (exfalso; first | omega | (cases hp; done))));
            refine ex_exit ?_;
            refine ex_region ?_;
            apply exl_is; rfl; rfl; rfl; (apply g_move; rfl);
            apply exl_is; rfl; rfl; rfl; (apply g_add; rfl; rfl; rfl; exact ⟨by omega, by omega⟩);
            apply exl_is; rfl; rfl; rfl; (apply g_assign; rfl);
            refine exl_nil ?_;
            simp only [thenA, blockA, roundA, noGotoA, retA, ↓reduceIte, Nat.reduceEqDiff];
            rotate_left;
            refine ex_skip ?_;
            refine ex_seq ?_;
            refine ex_region ?_;
            apply exl_is; rfl; rfl; rfl; (apply g_move; rfl);
            apply exl_is; rfl; rfl; rfl; (apply g_len; rfl; rfl; (exact .inl ⟨_, _, _, (by ((repeat (first | exact List.Mem.head _ | assumption | refine List.Mem.tail _ ?_)); done)), (List.length_map _).symm⟩));
            apply exl_is; rfl; rfl; rfl; (apply g_sub; rfl; rfl; rfl; exact ⟨by omega, by omega⟩);
            apply exl_is; rfl; rfl; rfl; (apply g_assign; rfl);
            refine exl_nilT ?_;
            refine ex_seq ?_;
            refine ex_region ?_;
            apply exl_is; rfl; rfl; rfl; (apply g_move; rfl);
            apply exl_isB; rfl; rfl; rfl; (apply g_binInt; rfl; rfl; rfl); intro _ _;
            apply exl_is; rfl; rfl; rfl; (apply g_move; rfl);
            refine exl_caseL rfl (fun h => ?_) (fun h => ?_) <;> ((first | (subst h; rename BV _ true => h0; have h := h0.eq; clear h0) | (subst h; rename BV _ false => h0; have h := h0.eq; clear h0) | skip); (have hp := h; try simp only [decide_eq_true_eq, decide_eq_false_iff_not, Bool.not_eq_true', Bool.not_eq_false', bne_iff_ne, beq_iff_eq, beq_eq_false_iff_ne, bne_eq_false_iff_eq, Int.not_lt, Int.not_le] at hp); (try (exfalso; first | omega | (cases hp; done))));
            apply exl_isW; rfl; (rfl); rfl; rfl; (apply g_move; rfl);
            apply exl_isW; rfl; (rfl); rfl; rfl; (apply g_move; rfl);
            apply exl_isW; rfl; (rfl); rfl; rfl; (apply g_indexRow; rfl; rfl; exact (by ((repeat (first | exact List.Mem.head _ | assumption | refine List.Mem.tail _ ?_)); done)); rfl; (assumption); (simp only [List.length_map, List.length_set]; omega));
            apply exl_isW; rfl; (rfl); rfl; rfl; (apply g_fieldAddr; rfl; rfl; rfl);
            apply exl_isW; rfl; (rfl); rfl; rfl; (apply g_load1; rfl; rfl; (exact .k1 (by ((repeat (first | exact List.Mem.head _ | assumption | refine List.Mem.tail _ ?_)); done)) (by assumption) rfl));
            apply exl_isW; rfl; (rfl); rfl; rfl; (apply g_move; rfl);
            apply exl_isW; rfl; (rfl); rfl; rfl; (apply g_sub; rfl; rfl; rfl; exact ⟨by omega, by omega⟩);
            apply exl_isBW; rfl; (rfl); rfl; rfl; (apply g_binInt; rfl; rfl; rfl); intro _ _;
            apply exl_is; rfl; rfl; rfl; (apply g_pick_t; rfl; (rfl); rfl);
            refine exl_nilT ?_;
            refine ex_cond rfl (fun h => ?_) (fun h => ?_) <;> ((first | (subst h; rename BV _ true => h0; have h := h0.eq; clear h0) | (subst h; rename BV _ false => h0; have h := h0.eq; clear h0) | skip); (have hp := h; try simp only [decide_eq_true_eq, decide_eq_false_iff_not, Bool.not_eq_true', Bool.not_eq_false', bne_iff_ne, beq_iff_eq, beq_eq_false_iff_ne, bne_eq_false_iff_eq, Int.not_lt, Int.not_le] at hp); (try (exfalso; first | omega | (cases hp; done))));
            refine ex_region ?_;
            apply exl_is; rfl; rfl; rfl; (apply g_move; rfl);
            apply exl_is; rfl; rfl; rfl; (apply g_move; rfl);
            apply exl_is; rfl; rfl; rfl; (apply g_move; rfl);
            apply exl_is; rfl; rfl; rfl; (apply g_indexRow; rfl; rfl; exact (by ((repeat (first | exact List.Mem.head _ | assumption | refine List.Mem.tail _ ?_)); done)); rfl; (assumption); (simp only [List.length_map, List.length_set]; omega));
            apply exl_is; rfl; rfl; rfl; (apply g_fieldAddr; rfl; rfl; rfl);
            apply exl_do; rfl; rfl; (apply g_setPart; rfl; rfl; rfl; rfl; rfl; rfl; (exact Upd.there (Upd.here)); (assumption); exact Nat.le_of_ble_eq_true rfl; (simp only [setL, List.set_cons_zero, List.set_cons_succ, AV.cells]; rfl));
            refine exl_nil ?_;
            refine ex_region ?_;
            apply exl_is; rfl; rfl; rfl; (apply g_move; rfl);
            apply exl_is; rfl; rfl; rfl; (apply g_add; rfl; rfl; rfl; exact ⟨by omega, by omega⟩);
            apply exl_is; rfl; rfl; rfl; (apply g_assign; rfl);
            refine exl_nil ?_;
            simp only [thenA, blockA, roundA, noGotoA, retA, ↓reduceIte, Nat.reduceEqDiff];
            rotate_left;
            refine exl_skipL rfl (by rfl) rfl rfl ?_;
            refine exl_skipL rfl (by rfl) rfl rfl ?_;
            refine exl_skipL rfl (by rfl) rfl rfl ?_;
            apply exl_is; rfl; rfl; rfl; (apply g_pick_f; rfl; (rfl); rfl);
            refine exl_nilT ?_;
            refine ex_cond_f rfl (by rfl) ?_;
            refine ex_skip ?_;
            refine ex_seq ?_;
            refine ex_region ?_;
            apply exl_is; rfl; rfl; rfl; (apply g_move; rfl);
            apply exl_is; rfl; rfl; rfl; (apply g_len; rfl; rfl; (exact .inl ⟨_, _, _, (by ((repeat (first | exact List.Mem.head _ | assumption | refine List.Mem.tail _ ?_)); done)), (List.length_map _).symm⟩));
            apply exl_is; rfl; rfl; rfl; (apply g_sub; rfl; rfl; rfl; exact ⟨by omega, by omega⟩);
            apply exl_is; rfl; rfl; rfl; (apply g_assign; rfl);
            refine exl_nilT ?_;
            refine ex_seq ?_;
            refine ex_region ?_;
            apply exl_is; rfl; rfl; rfl; (apply g_move; rfl);
            apply exl_isB; rfl; rfl; rfl; (apply g_binInt; rfl; rfl; rfl); intro _ _;
            apply exl_is; rfl; rfl; rfl; (apply g_move; rfl);
            refine exl_caseL rfl (fun h => ?_) (fun h => ?_) <;> ((first | (subst h; rename BV _ true => h0; have h := h0.eq; clear h0) | (subst h; rename BV _ false => h0; have h := h0.eq; clear h0) | skip); (have hp := h; try simp only [decide_eq_true_eq, decide_eq_false_iff_not, Bool.not_eq_true', Bool.not_eq_false', bne_iff_ne, beq_iff_eq, beq_eq_false_iff_ne, bne_eq_false_iff_eq, Int.not_lt, Int.not_le] at hp); (try (exfalso; first | omega | (cases hp; done))));
            apply exl_isW; rfl; (rfl); rfl; rfl; (apply g_move; rfl);
            apply exl_isW; rfl; (rfl); rfl; rfl; (apply g_move; rfl);
            apply exl_isW; rfl; (rfl); rfl; rfl; (apply g_indexRow; rfl; rfl; exact (by ((repeat (first | exact List.Mem.head _ | assumption | refine List.Mem.tail _ ?_)); done)); rfl; (assumption); (simp only [List.length_map, List.length_set]; omega));
            apply exl_isW; rfl; (rfl); rfl; rfl; (apply g_fieldAddr; rfl; rfl; rfl);
            apply exl_isW; rfl; (rfl); rfl; rfl; (apply g_load1; rfl; rfl; (exact .k1 (by ((repeat (first | exact List.Mem.head _ | assumption | refine List.Mem.tail _ ?_)); done)) (by assumption) rfl));
            apply exl_isW; rfl; (rfl); rfl; rfl; (apply g_move; rfl);
            apply exl_isW; rfl; (rfl); rfl; rfl; (apply g_sub; rfl; rfl; rfl; exact ⟨by omega, by omega⟩);
            apply exl_isBW; rfl; (rfl); rfl; rfl; (apply g_binInt; rfl; rfl; rfl); intro _ _;
            apply exl_is; rfl; rfl; rfl; (apply g_pick_t; rfl; (rfl); rfl);
            refine exl_nilT ?_;
            refine ex_cond rfl (fun h => ?_) (fun h => ?_) <;> ((first | (subst h; rename BV _ true => h0; have h := h0.eq; clear h0) | (subst h; rename BV _ false => h0; have h := h0.eq; clear h0) | skip); (have hp := h; try simp only [decide_eq_true_eq, decide_eq_false_iff_not, Bool.not_eq_true', Bool.not_eq_false', bne_iff_ne, beq_iff_eq, beq_eq_false_iff_ne, bne_eq_false_iff_eq, Int.not_lt, Int.not_le] at hp); (try (exfalso; first | omega | (cases hp; done))));
            refine ex_region ?_;
            apply exl_is; rfl; rfl; rfl; (apply g_move; rfl);
            apply exl_is; rfl; rfl; rfl; (apply g_move; rfl);
            apply exl_is; rfl; rfl; rfl; (apply g_move; rfl);
            apply exl_is; rfl; rfl; rfl; (apply g_indexRow; rfl; rfl; exact (by ((repeat (first | exact List.Mem.head _ | assumption | refine List.Mem.tail _ ?_)); done)); rfl; (assumption); (simp only [List.length_map, List.length_set]; omega));
            apply exl_is; rfl; rfl; rfl; (apply g_fieldAddr; rfl; rfl; rfl);
            apply exl_do; rfl; rfl; (apply g_setPart; rfl; rfl; rfl; rfl; rfl; rfl; (exact Upd.there (Upd.here)); (assumption); exact Nat.le_of_ble_eq_true rfl; (simp only [setL, List.set_cons_zero, List.set_cons_succ, AV.cells]; rfl));
            refine exl_nil ?_;
            refine ex_region ?_;
            apply exl_is; rfl; rfl; rfl; (apply g_move; rfl);
            apply exl_is; rfl; rfl; rfl; (apply g_add; rfl; rfl; rfl; exact ⟨by omega, by omega⟩);
            apply exl_is; rfl; rfl; rfl; (apply g_assign; rfl);
            refine exl_nil ?_;
            simp only [thenA, blockA, roundA, noGotoA, retA, ↓reduceIte, Nat.reduceEqDiff];
            rotate_left
            (all_goals (repeat (rename BV _ _ => hbv; cases hbv)))
            all_goals (try (exfalso; first | (rename true = false => hx; cases hx; done) | (rename false = true => hx; cases hx; done)))
            · exfalso
              contr
            · refine ⟨(hr + 1, j + 1, v), ⟨by dsimp only; omega, by dsimp only; omega⟩, by dsimp only; omega, ?_⟩
              dsimp only
              rw [hst, show (q ++ [(⟨x.lo, hr⟩ : Rg)]).map rgC = ((q ++ [x]).map rgC).set q.length (rgC ⟨x.lo, hr⟩) by rw [rg_set, rg_snoc]]
              exact (St.le_of (by repeat (first | exact trivial | refine ⟨rfl, ?_⟩)) (by repeat (first | exact List.Sublist.refl _ | apply List.Sublist.cons_cons | apply List.Sublist.cons)))
            · refine ⟨(hr + 1, j + 1, v), ⟨by dsimp only; omega, by dsimp only; omega⟩, by dsimp only; omega, ?_⟩
              dsimp only
              rw [hst, show (q ++ [(⟨x.lo, hr⟩ : Rg)]).map rgC = ((q ++ [x]).map rgC).set q.length (rgC ⟨x.lo, hr⟩) by rw [rg_set, rg_snoc]]
              exact (St.le_of (by repeat (first | exact trivial | refine ⟨rfl, ?_⟩)) (by repeat (first | exact List.Sublist.refl _ | apply List.Sublist.cons_cons | apply List.Sublist.cons)))
          · rw [if_neg hc] at hst
            refine ex_seq ?_;
            refine ex_seq ?_;
            refine ex_region ?_;
            apply exl_is; rfl; rfl; rfl; (apply g_move; rfl);
            apply exl_is; rfl; rfl; rfl; (apply g_fieldAddr; rfl; rfl; rfl);
            apply exl_is; rfl; rfl; rfl; (apply g_load1; rfl; rfl; (exact .p (by ((repeat (first | exact List.Mem.head _ | assumption | refine List.Mem.tail _ ?_)); done)) rfl));
            apply exl_isB; rfl; rfl; rfl; (apply g_binInt; rfl; rfl; rfl); intro _ _;
            refine exl_nilT ?_;
            refine ex_cond rfl (fun h => ?_) (fun h => ?_) <;> ((first | (subst h; rename BV _ true => h0; have h := h0.eq; clear h0) | (subst h; rename BV _ false => h0; have h := h0.eq; clear h0) | skip); (have hp := h; try simp only [decide_eq_true_eq, decide_eq_false_iff_not, Bool.not_eq_true', Bool.not_eq_false', bne_iff_ne, beq_iff_eq, beq_eq_false_iff_ne, bne_eq_false_iff_eq, Int.not_lt, Int.not_le] at hp); (try (exfalso; first | omega | (cases hp; done))));
            refine ex_skip ?_;
            refine ex_seq ?_;
            refine ex_block ?_;
            refine ex_seq ?_;
            refine ex_region ?_;
            apply exl_is; rfl; rfl; rfl; (apply g_move; rfl);
            apply exl_is; rfl; rfl; rfl; (apply g_move; rfl);
            apply exl_is; rfl; rfl; rfl; (apply g_move; rfl);
            apply exl_is; rfl; rfl; rfl; (apply g_move; rfl);
            apply exl_is; rfl; rfl; rfl; (exact g_call rfl rfl (enters_b (by kernel_rfl)) (c3 _));
            apply exl_is; rfl; rfl; rfl; (apply g_move; rfl);
            apply exl_is; rfl; rfl; rfl; (apply g_extract; rfl; rfl);
            apply exl_is; rfl; rfl; rfl; (apply g_extract; rfl; rfl);
            apply exl_is; rfl; rfl; rfl; (apply g_assign; rfl);
            apply exl_is; rfl; rfl; rfl; (apply g_assign; rfl);
            refine exl_nilT ?_;
            refine ex_seq ?_;
            refine ex_region ?_;
            apply exl_is; rfl; rfl; rfl; (apply g_move; rfl);
            apply exl_is; rfl; rfl; rfl; (apply g_move; rfl);
            apply exl_is; rfl; rfl; rfl; (apply g_move; rfl);
            apply exl_is; rfl; rfl; rfl; (apply g_move; rfl);
            apply exl_is; rfl; rfl; rfl; (exact g_call rfl rfl (enters_b (by kernel_rfl)) (c4 _));
            apply exl_is; rfl; rfl; rfl; (apply g_move; rfl);
            apply exl_is; rfl; rfl; rfl; (apply g_extract; rfl; rfl);
            apply exl_is; rfl; rfl; rfl; (apply g_extract; rfl; rfl);
            apply exl_is; rfl; rfl; rfl; (apply g_assign; rfl);
            apply exl_is; rfl; rfl; rfl; (apply g_assign; rfl);
            refine exl_nilT ?_;
            refine ex_seq ?_;
            refine ex_seq ?_;
            refine ex_region ?_;
            apply exl_is; rfl; rfl; rfl; (apply g_move; rfl);
            apply exl_is; rfl; rfl; rfl; (apply g_move; rfl);
            apply exl_isB; rfl; rfl; rfl; (apply g_binInt; rfl; rfl; rfl); intro _ _;
            apply exl_is; rfl; rfl; rfl; (apply g_move; rfl);
            refine exl_caseL rfl (fun h => ?_) (fun h => ?_) <;> ((first | (subst h; rename BV _ true => h0; have h := h0.eq; clear h0) | (subst h; rename BV _ false => h0; have h := h0.eq; clear h0) | skip); (have hp := h; try simp only [decide_eq_true_eq, decide_eq_false_iff_not, Bool.not_eq_true', Bool.not_eq_false', bne_iff_ne, beq_iff_eq, beq_eq_false_iff_ne, bne_eq_false_iff_eq, Int.not_lt, Int.not_le] at hp); (try (exfalso; first | omega | (cases hp; done))));
            apply exl_isW; rfl; (rfl); rfl; rfl; (apply g_move; rfl);
            apply exl_isW; rfl; (rfl); rfl; rfl; (apply g_move; rfl);
            apply exl_isBW; rfl; (rfl); rfl; rfl; (apply g_eqlBool; rfl; rfl; rfl); intro _ _;
            apply exl_is; rfl; rfl; rfl; (apply g_pick_t; rfl; (rfl); rfl);
            refine exl_nilT ?_;
            refine ex_cond rfl (fun h => ?_) (fun h => ?_) <;> ((first | (subst h; rename BV _ true => h0; have h := h0.eq; clear h0) | (subst h; rename BV _ false => h0; have h := h0.eq; clear h0) | skip); (have hp := h; try simp only [decide_eq_true_eq, decide_eq_false_iff_not, Bool.not_eq_true', Bool.not_eq_false', bne_iff_ne, beq_iff_eq, beq_eq_false_iff_ne, bne_eq_false_iff_eq, Int.not_lt, Int.not_le] at hp); (try (exfalso; first | omega | (cases hp; done))));
            refine ex_exit ?_;
            refine ex_region ?_;
            apply exl_is; rfl; rfl; rfl; (apply g_move; rfl);
            apply exl_is; rfl; rfl; rfl; (apply g_add; rfl; rfl; rfl; exact ⟨by omega, by omega⟩);
            apply exl_is; rfl; rfl; rfl; (apply g_assign; rfl);
            refine exl_nil ?_;
            simp only [thenA, blockA, roundA, noGotoA, retA, ↓reduceIte, Nat.reduceEqDiff];
            rotate_left;
            refine ex_skip ?_;
            refine ex_seq ?_;
            refine ex_region ?_;
            apply exl_is; rfl; rfl; rfl; (apply g_move; rfl);
            apply exl_is; rfl; rfl; rfl; (apply g_len; rfl; rfl; (exact .inl ⟨_, _, _, (by ((repeat (first | exact List.Mem.head _ | assumption | refine List.Mem.tail _ ?_)); done)), (List.length_map _).symm⟩));
            apply exl_is; rfl; rfl; rfl; (apply g_sub; rfl; rfl; rfl; exact ⟨by omega, by omega⟩);
            apply exl_is; rfl; rfl; rfl; (apply g_assign; rfl);
            refine exl_nilT ?_;
            refine ex_seq ?_;
            refine ex_region ?_;
            apply exl_is; rfl; rfl; rfl; (apply g_move; rfl);
            apply exl_isB; rfl; rfl; rfl; (apply g_binInt; rfl; rfl; rfl); intro _ _;
            apply exl_is; rfl; rfl; rfl; (apply g_move; rfl);
            refine exl_caseL rfl (fun h => ?_) (fun h => ?_) <;> ((first | (subst h; rename BV _ true => h0; have h := h0.eq; clear h0) | (subst h; rename BV _ false => h0; have h := h0.eq; clear h0) | skip); (have hp := h; try simp only [decide_eq_true_eq, decide_eq_false_iff_not, Bool.not_eq_true', Bool.not_eq_false', bne_iff_ne, beq_iff_eq, beq_eq_false_iff_ne, bne_eq_false_iff_eq, Int.not_lt, Int.not_le] at hp); (try (exfalso; first | omega | (cases hp; done))));
            apply exl_isW; rfl; (rfl); rfl; rfl; (apply g_move; rfl);
            apply exl_isW; rfl; (rfl); rfl; rfl; (apply g_move; rfl);
            apply exl_isW; rfl; (rfl); rfl; rfl; (apply g_indexRow; rfl; rfl; exact (by ((repeat (first | exact List.Mem.head _ | assumption | refine List.Mem.tail _ ?_)); done)); rfl; (assumption); (simp only [List.length_map, List.length_set]; omega));
            apply exl_isW; rfl; (rfl); rfl; rfl; (apply g_fieldAddr; rfl; rfl; rfl);
            apply exl_isW; rfl; (rfl); rfl; rfl; (apply g_load1; rfl; rfl; (exact .k1 (by ((repeat (first | exact List.Mem.head _ | assumption | refine List.Mem.tail _ ?_)); done)) (by assumption) rfl));
            apply exl_isW; rfl; (rfl); rfl; rfl; (apply g_move; rfl);
            apply exl_isW; rfl; (rfl); rfl; rfl; (apply g_sub; rfl; rfl; rfl; exact ⟨by omega, by omega⟩);
            apply exl_isBW; rfl; (rfl); rfl; rfl; (apply g_binInt; rfl; rfl; rfl); intro _ _;
            apply exl_is; rfl; rfl; rfl; (apply g_pick_t; rfl; (rfl); rfl);
            refine exl_nilT ?_;
            refine ex_cond rfl (fun h => ?_) (fun h => ?_) <;> ((first | (subst h; rename BV _ true => h0; have h := h0.eq; clear h0) | (subst h; rename BV _ false => h0; have h := h0.eq; clear h0) | skip); (have hp := h; try simp only [decide_eq_true_eq, decide_eq_false_iff_not, Bool.not_eq_true', Bool.not_eq_false', bne_iff_ne, beq_iff_eq, beq_eq_false_iff_ne, bne_eq_false_iff_eq, Int.not_lt, Int.not_le] at hp); (try (exfalso; first | omega | (cases hp; done))));
            refine ex_region ?_;
            apply exl_is; rfl; rfl; rfl; (apply g_move; rfl);
            apply exl_is; rfl; rfl; rfl; (apply g_move; rfl);
            apply exl_is; rfl; rfl; rfl; (apply g_move; rfl);
            apply exl_is; rfl; rfl; rfl; (apply g_build; rfl; rfl; rfl; rfl);
            refine exl_row rfl rfl rfl (by exact g_buildSlice rfl rfl (by decide) rfl rfl (by (simp only [chunkN, List.take_succ_cons, List.take_zero, List.drop_succ_cons, List.drop_zero]; rfl))) ?_; intro _;
            apply exl_grew; rfl; rfl; rfl; (apply g_append; rfl; rfl; rfl; (intro v'; (exact Upd.there (Upd.there (Upd.here)))); (exact .r (by ((repeat (first | exact List.Mem.head _ | assumption | refine List.Mem.tail _ ?_)); done))); (intro y hy; simp only [List.mem_map, List.mem_cons, List.not_mem_nil, or_false, List.mem_append] at hy; (focus (obtain ⟨_, _, rfl⟩ := hy; rfl; done))); (refine app_ok ?_ (by kernel_rfl); (try simp only [List.length_append, List.length_map, List.length_cons, List.length_nil, List.length_take, List.length_drop]); omega)); intro _;
            apply exl_is; rfl; rfl; rfl; (apply g_assign; rfl);
            refine exl_nil ?_;
            refine ex_region ?_;
            apply exl_is; rfl; rfl; rfl; (apply g_move; rfl);
            apply exl_is; rfl; rfl; rfl; (apply g_add; rfl; rfl; rfl; exact ⟨by omega, by omega⟩);
            apply exl_is; rfl; rfl; rfl; (apply g_assign; rfl);
            refine exl_nil ?_;
            simp only [thenA, blockA, roundA, noGotoA, retA, ↓reduceIte, Nat.reduceEqDiff];
            rotate_left;
            refine exl_skipL rfl (by rfl) rfl rfl ?_;
            refine exl_skipL rfl (by rfl) rfl rfl ?_;
            refine exl_skipL rfl (by rfl) rfl rfl ?_;
            apply exl_is; rfl; rfl; rfl; (apply g_pick_f; rfl; (rfl); rfl);
            refine exl_nilT ?_;
            refine ex_cond_f rfl (by rfl) ?_;
            refine ex_skip ?_;
            refine ex_seq ?_;
            refine ex_region ?_;
            apply exl_is; rfl; rfl; rfl; (apply g_move; rfl);
            apply exl_is; rfl; rfl; rfl; (apply g_len; rfl; rfl; (exact .inl ⟨_, _, _, (by ((repeat (first | exact List.Mem.head _ | assumption | refine List.Mem.tail _ ?_)); done)), (List.length_map _).symm⟩));
            apply exl_is; rfl; rfl; rfl; (apply g_sub; rfl; rfl; rfl; exact ⟨by omega, by omega⟩);
            apply exl_is; rfl; rfl; rfl; (apply g_assign; rfl);
            refine exl_nilT ?_;
            refine ex_seq ?_;
            refine ex_region ?_;
            apply exl_is; rfl; rfl; rfl; (apply g_move; rfl);
            apply exl_isB; rfl; rfl; rfl; (apply g_binInt; rfl; rfl; rfl); intro _ _;
            apply exl_is; rfl; rfl; rfl; (apply g_move; rfl);
            refine exl_caseL rfl (fun h => ?_) (fun h => ?_) <;> ((first | (subst h; rename BV _ true => h0; have h := h0.eq; clear h0) | (subst h; rename BV _ false => h0; have h := h0.eq; clear h0) | skip); (have hp := h; try simp only [decide_eq_true_eq, decide_eq_false_iff_not, Bool.not_eq_true', Bool.not_eq_false', bne_iff_ne, beq_iff_eq, beq_eq_false_iff_ne, bne_eq_false_iff_eq, Int.not_lt, Int.not_le] at hp); (try (exfalso; first | omega | (cases hp; done))));
            apply exl_isW; rfl; (rfl); rfl; rfl; (apply g_move; rfl);
            apply exl_isW; rfl; (rfl); rfl; rfl; (apply g_move; rfl);
            apply exl_isW; rfl; (rfl); rfl; rfl; (apply g_indexRow; rfl; rfl; exact (by ((repeat (first | exact List.Mem.head _ | assumption | refine List.Mem.tail _ ?_)); done)); rfl; (assumption); (simp only [List.length_map, List.length_set]; omega));
            apply exl_isW; rfl; (rfl); rfl; rfl; (apply g_fieldAddr; rfl; rfl; rfl);
            apply exl_isW; rfl; (rfl); rfl; rfl; (apply g_load1; rfl; rfl; (exact .k1 (by ((repeat (first | exact List.Mem.head _ | assumption | refine List.Mem.tail _ ?_)); done)) (by assumption) rfl));
            apply exl_isW; rfl; (rfl); rfl; rfl; (apply g_move; rfl);
            apply exl_isW; rfl; (rfl); rfl; rfl; (apply g_sub; rfl; rfl; rfl; exact ⟨by omega, by omega⟩);
            apply exl_isBW; rfl; (rfl); rfl; rfl; (apply g_binInt; rfl; rfl; rfl); intro _ _;
            apply exl_is; rfl; rfl; rfl; (apply g_pick_t; rfl; (rfl); rfl);
            refine exl_nilT ?_;
            refine ex_cond rfl (fun h => ?_) (fun h => ?_) <;> ((first | (subst h; rename BV _ true => h0; have h := h0.eq; clear h0) | (subst h; rename BV _ false => h0; have h := h0.eq; clear h0) | skip); (have hp := h; try simp only [decide_eq_true_eq, decide_eq_false_iff_not, Bool.not_eq_true', Bool.not_eq_false', bne_iff_ne, beq_iff_eq, beq_eq_false_iff_ne, bne_eq_false_iff_eq, Int.not_lt, Int.not_le] at hp); (try (exfalso; first | omega | (cases hp; done))));
            refine ex_region ?_;
            apply exl_is; rfl; rfl; rfl; (apply g_move; rfl);
            apply exl_is; rfl; rfl; rfl; (apply g_move; rfl);
            apply exl_is; rfl; rfl; rfl; (apply g_move; rfl);
            apply exl_is; rfl; rfl; rfl; (apply g_build; rfl; rfl; rfl; rfl);
            refine exl_row rfl rfl rfl (by exact g_buildSlice rfl rfl (by decide) rfl rfl (by (simp only [chunkN, List.take_succ_cons, List.take_zero, List.drop_succ_cons, List.drop_zero]; rfl))) ?_; intro _;
            apply exl_grew; rfl; rfl; rfl; (apply g_append; rfl; rfl; rfl; (intro v'; (exact Upd.there (Upd.there (Upd.here)))); (exact .r (by ((repeat (first | exact List.Mem.head _ | assumption | refine List.Mem.tail _ ?_)); done))); (intro y hy; simp only [List.mem_map, List.mem_cons, List.not_mem_nil, or_false, List.mem_append] at hy; (focus (obtain ⟨_, _, rfl⟩ := hy; rfl; done))); (refine app_ok ?_ (by kernel_rfl); (try simp only [List.length_append, List.length_map, List.length_cons, List.length_nil, List.length_take, List.length_drop]); omega)); intro _;
            apply exl_is; rfl; rfl; rfl; (apply g_assign; rfl);
            refine exl_nil ?_;
            refine ex_region ?_;
            apply exl_is; rfl; rfl; rfl; (apply g_move; rfl);
            apply exl_is; rfl; rfl; rfl; (apply g_add; rfl; rfl; rfl; exact ⟨by omega, by omega⟩);
            apply exl_is; rfl; rfl; rfl; (apply g_assign; rfl);
            refine exl_nil ?_;
            simp only [thenA, blockA, roundA, noGotoA, retA, ↓reduceIte, Nat.reduceEqDiff];
            rotate_left
            (all_goals (repeat (rename BV _ _ => hbv; cases hbv)))
            all_goals (try (exfalso; first | (rename true = false => hx; cases hx; done) | (rename false = true => hx; cases hx; done)))
            · exfalso
              contr
            · rename Value => v2
              refine ⟨(hr + 1, j + 1, v2), ⟨by dsimp only; omega, by dsimp only; omega⟩, by dsimp only; omega, ?_⟩
              dsimp only
              rw [hst, rg_snoc (q ++ [x]) ⟨hr, hr⟩]
              exact (St.le_of (by repeat (first | exact trivial | refine ⟨rfl, ?_⟩)) (by repeat (first | exact List.Sublist.refl _ | apply List.Sublist.cons_cons | apply List.Sublist.cons)))
            · rename Value => v2
              refine ⟨(hr + 1, j + 1, v2), ⟨by dsimp only; omega, by dsimp only; omega⟩, by dsimp only; omega, ?_⟩
              dsimp only
              rw [hst, rg_snoc (q ++ [x]) ⟨hr, hr⟩]
              exact (St.le_of (by repeat (first | exact trivial | refine ⟨rfl, ?_⟩)) (by repeat (first | exact List.Sublist.refl _ | apply List.Sublist.cons_cons | apply List.Sublist.cons)))
    · have e : j = (r.hi + 1 - r.lo).toNat := by omega
      have hhr : ¬ hr ≤ r.hi := by omega
      rw [show hoursR r = hours r.lo j by unfold hoursR; rw [e]]
      generalize chgH (difB l key a b) [] (hours r.lo j) = S
      clear c1 c2
      refine ex_seq ?_;
      refine ex_seq ?_;
      refine ex_region ?_;
      apply exl_is; rfl; rfl; rfl; (apply g_move; rfl);
      apply exl_is; rfl; rfl; rfl; (apply g_fieldAddr; rfl; rfl; rfl);
      apply exl_is; rfl; rfl; rfl; (apply g_load1; rfl; rfl; (exact .p (by ((repeat (first | exact List.Mem.head _ | assumption | refine List.Mem.tail _ ?_)); done)) rfl));
      apply exl_isB; rfl; rfl; rfl; (apply g_binInt; rfl; rfl; rfl); intro _ _;
      refine exl_nilT ?_;
      refine ex_cond rfl (fun h => ?_) (fun h => ?_) <;> ((first | (subst h; rename BV _ true => h0; have h := h0.eq; clear h0) | (subst h; rename BV _ false => h0; have h := h0.eq; clear h0) | skip); (have hp := h; try simp only [decide_eq_true_eq, decide_eq_false_iff_not, Bool.not_eq_true', Bool.not_eq_false', bne_iff_ne, beq_iff_eq, beq_eq_false_iff_ne, bne_eq_false_iff_eq, Int.not_lt, Int.not_le] at hp); (try (exfalso; first | omega | (cases hp; done))));
      refine ex_exit ?_;
      refine ex_seq ?_;
      refine ex_region ?_;
      apply exl_is; rfl; rfl; rfl; (apply g_move; rfl);
      apply exl_is; rfl; rfl; rfl; (apply g_assign; rfl);
      apply exl_is; rfl; rfl; rfl; (apply g_assign; rfl);
      refine exl_nilT ?_;
      refine ex_ret ?_;
      simp only [thenA, blockA, roundA, noGotoA, retA, ↓reduceIte, Nat.reduceEqDiff];
      rotate_left
      (all_goals (repeat (rename BV _ _ => hbv; cases hbv)))
      all_goals (try (exfalso; first | (rename true = false => hx; cases hx; done) | (rename false = true => hx; cases hx; done)))
      refine ret_q (σ3 := .row v 36 2 (S.map rgC) :: σ) .nil (.cons (.ofTmp rfl) (.cons (.ofTmp rfl) .nil)) (by repeat (first | exact List.Sublist.refl _ | apply List.Sublist.cons_cons | apply List.Sublist.cons)) ?_
      exact fin_seal .here (.tup (.here (.same .nil)) .nil) (fin_done .mk)
  · rw [if_pos h]
    refine ex_seq ?_;
    refine ex_region ?_;
    refine exl_box rfl rfl rfl (g_box rfl rfl) ?_; intro _;
    apply exl_is; rfl; rfl; rfl; (apply g_assign; rfl);
    apply exl_is; rfl; rfl; rfl; (apply g_assign; rfl);
    refine exl_nilT ?_;
    refine ex_seq ?_;
    refine ex_region ?_;
    apply exl_is; rfl; rfl; rfl; (apply g_move; rfl);
    apply exl_is; rfl; rfl; rfl; (apply g_move; rfl);
    apply exl_is; rfl; rfl; rfl; (apply g_move; rfl);
    apply exl_is; rfl; rfl; rfl; (apply g_move; rfl);
    apply exl_is; rfl; rfl; rfl; (apply g_loadAgg; rfl; decide; rfl; (exact .p (by ((repeat (first | exact List.Mem.head _ | assumption | refine List.Mem.tail _ ?_)); done)) rfl rfl));
    apply exl_is; rfl; rfl; rfl; (exact g_call rfl rfl (enters_b (by kernel_rfl)) (c0 _));
    apply exl_is; rfl; rfl; rfl; (apply g_assign; rfl);
    refine exl_nilT ?_;
    refine ex_seq ?_;
    refine ex_seq ?_;
    refine ex_region ?_;
    apply exl_is; rfl; rfl; rfl; (apply g_move; rfl);
    apply exl_isB; rfl; rfl; rfl; (apply g_binInt; rfl; rfl; rfl); intro _ _;
    refine exl_nilT ?_;
    refine ex_cond rfl (fun h => ?_) (fun h => ?_) <;> ((first | (subst h; rename BV _ true => h0; have h := h0.eq; clear h0) | (subst h; rename BV _ false => h0; have h := h0.eq; clear h0) | skip); (have hp := h; try simp only [decide_eq_true_eq, decide_eq_false_iff_not, Bool.not_eq_true', Bool.not_eq_false', bne_iff_ne, beq_iff_eq, beq_eq_false_iff_ne, bne_eq_false_iff_eq, Int.not_lt, Int.not_le] at hp); (try (exfalso; first | omega | (cases hp; done))));
    refine ex_seq ?_;
    refine ex_region ?_;
    apply exl_is; rfl; rfl; rfl; (apply g_move; rfl);
    apply exl_is; rfl; rfl; rfl; (apply g_assign; rfl);
    apply exl_is; rfl; rfl; rfl; (apply g_assign; rfl);
    refine exl_nilT ?_;
    refine ex_ret ?_;
    simp only [thenA, blockA, roundA, noGotoA, retA, ↓reduceIte, Nat.reduceEqDiff];
    rotate_left
    (all_goals (repeat (rename BV _ _ => hbv; cases hbv)))
    all_goals (try (exfalso; first | (rename true = false => hx; cases hx; done) | (rename false = true => hx; cases hx; done)))
    refine ret_q (σ3 := σ) .nil (.cons (.ofTmp rfl) (.cons (.ofTmp rfl) .nil)) (by repeat (first | exact List.Sublist.refl _ | apply List.Sublist.cons_cons | apply List.Sublist.cons)) ?_
    exact fin_nil (sz := 2) (.tup (.here (.same .nil)) .nil) (fin_done .mk)
set_option maxHeartbeats 4000000 in
set_option maxRecDepth 10000 in
theorem rTotal_c (l : List Fc) (key known : Int) (r : Rg) (σ : List Ent) : SCall Try.prog 23 [fcs l, .int .i64 key, .int .i64 known, .agg (rgC r)] σ (Is (.tup [.int .i64 (totF l key known r).1, .int .i64 (totF l key known r).2]) σ) := by
  refine scall_of Try.func23 rfl (by simp) ?_
  have c0 := rAsked_c l key known known r
  rw [ask_two] at c0
  unfold totF
  by_cases h : askF l key [known] r = 0
  · rw [h] at c0
    rw [if_neg (by rw [h]; simp)]
    obtain ⟨hch, hrk, hlo, hhi, hle⟩ := ask_zero.1 h
    have hz := check_zero.1 hch
    have hrx : ∀ x ∈ l, rightF x = true := fun x hx => ((okF_iff.1 hz.2).1 x hx).2
    have c1 := fun hour => rSaid_c l key hour known (by omega) (right_kn hch)
    have hsb := fun hour => (say_bound hrx key hour known).1
    have htb := fun j => tot_bound (g := fun h => (sayL l key h known).v) (L := hours r.lo j) (c := 1073741824) (fun x _ => hsb x)
    clear hrk h hch hrx
    refine ex_seq ?_;
    refine ex_region ?_;
    refine exl_box rfl rfl rfl (g_box rfl rfl) ?_; intro _;
    apply exl_is; rfl; rfl; rfl; (apply g_assign; rfl);
    apply exl_is; rfl; rfl; rfl; (apply g_assign; rfl);
    refine exl_nilT ?_;
    refine ex_seq ?_;
    refine ex_region ?_;
    apply exl_is; rfl; rfl; rfl; (apply g_move; rfl);
    apply exl_is; rfl; rfl; rfl; (apply g_move; rfl);
    apply exl_is; rfl; rfl; rfl; (apply g_move; rfl);
    apply exl_is; rfl; rfl; rfl; (apply g_move; rfl);
    apply exl_is; rfl; rfl; rfl; (apply g_loadAgg; rfl; decide; rfl; (exact .p (by ((repeat (first | exact List.Mem.head _ | assumption | refine List.Mem.tail _ ?_)); done)) rfl rfl));
    apply exl_is; rfl; rfl; rfl; (exact g_call rfl rfl (enters_b (by kernel_rfl)) (c0 _));
    apply exl_is; rfl; rfl; rfl; (apply g_assign; rfl);
    refine exl_nilT ?_;
    refine ex_seq ?_;
    refine ex_seq ?_;
    refine ex_region ?_;
    apply exl_is; rfl; rfl; rfl; (apply g_move; rfl);
    apply exl_isB; rfl; rfl; rfl; (apply g_binInt; rfl; rfl; rfl); intro _ _;
    refine exl_nilT ?_;
    refine ex_cond rfl (fun h => ?_) (fun h => ?_) <;> ((first | (subst h; rename BV _ true => h0; have h := h0.eq; clear h0) | (subst h; rename BV _ false => h0; have h := h0.eq; clear h0) | skip); (have hp := h; try simp only [decide_eq_true_eq, decide_eq_false_iff_not, Bool.not_eq_true', Bool.not_eq_false', bne_iff_ne, beq_iff_eq, beq_eq_false_iff_ne, bne_eq_false_iff_eq, Int.not_lt, Int.not_le] at hp); (try (exfalso; first | omega | (cases hp; done))));
    refine ex_skip ?_;
    refine ex_seq ?_;
    refine ex_region ?_;
    apply exl_is; rfl; rfl; rfl; (apply g_assign; rfl);
    refine exl_nilT ?_;
    refine ex_seq ?_;
    refine ex_seq ?_;
    refine ex_region ?_;
    apply exl_is; rfl; rfl; rfl; (apply g_fieldAddr; rfl; rfl; rfl);
    apply exl_is; rfl; rfl; rfl; (apply g_load1; rfl; rfl; (exact .p (by ((repeat (first | exact List.Mem.head _ | assumption | refine List.Mem.tail _ ?_)); done)) rfl));
    apply exl_is; rfl; rfl; rfl; (apply g_assign; rfl);
    refine exl_nilT ?_;
    refine ex_block ?_;
    simp only [thenA, blockA, roundA, noGotoA, retA, ↓reduceIte, Nat.reduceEqDiff];
    rotate_left
    (all_goals (repeat (rename BV _ _ => hbv; cases hbv)))
    all_goals (try (exfalso; first | (rename true = false => hx; cases hx; done) | (rename false = true => hx; cases hx; done)))
    rename Nat => b7; revert b7
    intro b7
    clear c0
    refine ex_loop (fun (z : Int × Nat) => (⟨[(0, fcs l), (1, .int .i64 key), (2, .int .i64 known), (7, .ptr b7 0), (11, .int .i64 (totH (fun h => (sayL l key h known).v) (hours r.lo z.2))), (12, .int .i64 z.1)], .cells b7 (rgC r) 36 :: σ, [], Try.f23.ntmps⟩ : St)) (fun z => z.2 ≤ (r.hi + 1 - r.lo).toNat ∧ z.1 = r.lo + z.2) (fun z => (r.hi + 1 - r.lo).toNat - z.2) (r.lo, 0) (⟨Nat.zero_le _, by simp⟩) (St.le_of (by repeat (first | exact trivial | refine ⟨rfl, ?_⟩)) (by repeat (first | exact List.Sublist.refl _ | apply List.Sublist.cons_cons | apply List.Sublist.cons))) ?_
    intro z hI
    obtain ⟨hr, j⟩ := z
    obtain ⟨hI1, hI2⟩ := hI
    dsimp only at hI1 hI2 ⊢
    by_cases hj : j < (r.hi + 1 - r.lo).toNat
    · have c2 := c1 hr
      have hb1 := htb j
      rw [hours_length] at hb1
      have hb2 := hsb hr
      have hst : totH (fun h => (sayL l key h known).v) (hours r.lo (j + 1)) = totH (fun h => (sayL l key h known).v) (hours r.lo j) + (sayL l key hr known).v := by rw [hours_snoc, tot_snoc, ← hI2]
      generalize sayL l key hr known = an at hst c2 hb2
      generalize totH (fun h => (sayL l key h known).v) (hours r.lo j) = T at hst hb1 ⊢
      obtain ⟨av, ak⟩ := an
      have hhr : hr ≤ r.hi := by omega
      clear c1 hsb htb
      dsimp only at hb1 hb2 hst c2
      have hT : -10000000000000 ≤ T ∧ T ≤ 10000000000000 := by omega
      clear hb1
      refine ex_seq ?_;
      refine ex_seq ?_;
      refine ex_region ?_;
      apply exl_is; rfl; rfl; rfl; (apply g_move; rfl);
      apply exl_is; rfl; rfl; rfl; (apply g_fieldAddr; rfl; rfl; rfl);
      apply exl_is; rfl; rfl; rfl; (apply g_load1; rfl; rfl; (exact .p (by ((repeat (first | exact List.Mem.head _ | assumption | refine List.Mem.tail _ ?_)); done)) rfl));
      apply exl_isB; rfl; rfl; rfl; (apply g_binInt; rfl; rfl; rfl); intro _ _;
      refine exl_nilT ?_;
      refine ex_cond rfl (fun h => ?_) (fun h => ?_) <;> ((first | (subst h; rename BV _ true => h0; have h := h0.eq; clear h0) | (subst h; rename BV _ false => h0; have h := h0.eq; clear h0) | skip); (have hp := h; try simp only [decide_eq_true_eq, decide_eq_false_iff_not, Bool.not_eq_true', Bool.not_eq_false', bne_iff_ne, beq_iff_eq, beq_eq_false_iff_ne, bne_eq_false_iff_eq, Int.not_lt, Int.not_le] at hp); (try (exfalso; first | omega | (cases hp; done))));
      refine ex_skip ?_;
      refine ex_seq ?_;
      refine ex_block ?_;
      refine ex_seq ?_;
      refine ex_region ?_;
      apply exl_is; rfl; rfl; rfl; (apply g_move; rfl);
      apply exl_is; rfl; rfl; rfl; (apply g_move; rfl);
      apply exl_is; rfl; rfl; rfl; (apply g_move; rfl);
      apply exl_is; rfl; rfl; rfl; (apply g_move; rfl);
      apply exl_is; rfl; rfl; rfl; (exact g_call rfl rfl (enters_b (by kernel_rfl)) (c2 _));
      apply exl_is; rfl; rfl; rfl; (apply g_move; rfl);
      apply exl_is; rfl; rfl; rfl; (apply g_extract; rfl; rfl);
      apply exl_is; rfl; rfl; rfl; (apply g_extract; rfl; rfl);
      apply exl_is; rfl; rfl; rfl; (apply g_assign; rfl);
      apply exl_is; rfl; rfl; rfl; (apply g_assign; rfl);
      refine exl_nilT ?_;
      refine ex_region ?_;
      apply exl_is; rfl; rfl; rfl; (apply g_move; rfl);
      apply exl_is; rfl; rfl; rfl; (apply g_move; rfl);
      apply exl_is; rfl; rfl; rfl; (apply g_add; rfl; rfl; rfl; exact ⟨by omega, by omega⟩);
      apply exl_is; rfl; rfl; rfl; (apply g_assign; rfl);
      refine exl_nil ?_;
      refine ex_region ?_;
      apply exl_is; rfl; rfl; rfl; (apply g_move; rfl);
      apply exl_is; rfl; rfl; rfl; (apply g_add; rfl; rfl; rfl; exact ⟨by omega, by omega⟩);
      apply exl_is; rfl; rfl; rfl; (apply g_assign; rfl);
      refine exl_nil ?_;
      simp only [thenA, blockA, roundA, noGotoA, retA, ↓reduceIte, Nat.reduceEqDiff];
      rotate_left
      (all_goals (repeat (rename BV _ _ => hbv; cases hbv)))
      all_goals (try (exfalso; first | (rename true = false => hx; cases hx; done) | (rename false = true => hx; cases hx; done)))
      refine ⟨(hr + 1, j + 1), ⟨by dsimp only; omega, by dsimp only; omega⟩, by dsimp only; omega, ?_⟩
      dsimp only
      rw [hst]
      exact (St.le_of (by repeat (first | exact trivial | refine ⟨rfl, ?_⟩)) (by repeat (first | exact List.Sublist.refl _ | apply List.Sublist.cons_cons | apply List.Sublist.cons)))
    · have e : j = (r.hi + 1 - r.lo).toNat := by omega
      have hhr : ¬ hr ≤ r.hi := by omega
      rw [show hoursR r = hours r.lo j by unfold hoursR; rw [e]]
      generalize totH (fun h => (sayL l key h known).v) (hours r.lo j) = T
      clear c1 hsb htb
      refine ex_seq ?_;
      refine ex_seq ?_;
      refine ex_region ?_;
      apply exl_is; rfl; rfl; rfl; (apply g_move; rfl);
      apply exl_is; rfl; rfl; rfl; (apply g_fieldAddr; rfl; rfl; rfl);
      apply exl_is; rfl; rfl; rfl; (apply g_load1; rfl; rfl; (exact .p (by ((repeat (first | exact List.Mem.head _ | assumption | refine List.Mem.tail _ ?_)); done)) rfl));
      apply exl_isB; rfl; rfl; rfl; (apply g_binInt; rfl; rfl; rfl); intro _ _;
      refine exl_nilT ?_;
      refine ex_cond rfl (fun h => ?_) (fun h => ?_) <;> ((first | (subst h; rename BV _ true => h0; have h := h0.eq; clear h0) | (subst h; rename BV _ false => h0; have h := h0.eq; clear h0) | skip); (have hp := h; try simp only [decide_eq_true_eq, decide_eq_false_iff_not, Bool.not_eq_true', Bool.not_eq_false', bne_iff_ne, beq_iff_eq, beq_eq_false_iff_ne, bne_eq_false_iff_eq, Int.not_lt, Int.not_le] at hp); (try (exfalso; first | omega | (cases hp; done))));
      refine ex_exit ?_;
      refine ex_seq ?_;
      refine ex_region ?_;
      apply exl_is; rfl; rfl; rfl; (apply g_move; rfl);
      apply exl_is; rfl; rfl; rfl; (apply g_assign; rfl);
      apply exl_is; rfl; rfl; rfl; (apply g_assign; rfl);
      refine exl_nilT ?_;
      refine ex_ret ?_;
      simp only [thenA, blockA, roundA, noGotoA, retA, ↓reduceIte, Nat.reduceEqDiff];
      rotate_left
      (all_goals (repeat (rename BV _ _ => hbv; cases hbv)))
      all_goals (try (exfalso; first | (rename true = false => hx; cases hx; done) | (rename false = true => hx; cases hx; done)))
      refine ret_is .nil (.cons (.ofTmp rfl) (.cons (.ofTmp rfl) .nil)) (by repeat (first | exact List.Sublist.refl _ | apply List.Sublist.cons_cons | apply List.Sublist.cons)) ?_
      rfl
  · rw [if_pos h]
    refine ex_seq ?_;
    refine ex_region ?_;
    refine exl_box rfl rfl rfl (g_box rfl rfl) ?_; intro _;
    apply exl_is; rfl; rfl; rfl; (apply g_assign; rfl);
    apply exl_is; rfl; rfl; rfl; (apply g_assign; rfl);
    refine exl_nilT ?_;
    refine ex_seq ?_;
    refine ex_region ?_;
    apply exl_is; rfl; rfl; rfl; (apply g_move; rfl);
    apply exl_is; rfl; rfl; rfl; (apply g_move; rfl);
    apply exl_is; rfl; rfl; rfl; (apply g_move; rfl);
    apply exl_is; rfl; rfl; rfl; (apply g_move; rfl);
    apply exl_is; rfl; rfl; rfl; (apply g_loadAgg; rfl; decide; rfl; (exact .p (by ((repeat (first | exact List.Mem.head _ | assumption | refine List.Mem.tail _ ?_)); done)) rfl rfl));
    apply exl_is; rfl; rfl; rfl; (exact g_call rfl rfl (enters_b (by kernel_rfl)) (c0 _));
    apply exl_is; rfl; rfl; rfl; (apply g_assign; rfl);
    refine exl_nilT ?_;
    refine ex_seq ?_;
    refine ex_seq ?_;
    refine ex_region ?_;
    apply exl_is; rfl; rfl; rfl; (apply g_move; rfl);
    apply exl_isB; rfl; rfl; rfl; (apply g_binInt; rfl; rfl; rfl); intro _ _;
    refine exl_nilT ?_;
    refine ex_cond rfl (fun h => ?_) (fun h => ?_) <;> ((first | (subst h; rename BV _ true => h0; have h := h0.eq; clear h0) | (subst h; rename BV _ false => h0; have h := h0.eq; clear h0) | skip); (have hp := h; try simp only [decide_eq_true_eq, decide_eq_false_iff_not, Bool.not_eq_true', Bool.not_eq_false', bne_iff_ne, beq_iff_eq, beq_eq_false_iff_ne, bne_eq_false_iff_eq, Int.not_lt, Int.not_le] at hp); (try (exfalso; first | omega | (cases hp; done))));
    refine ex_seq ?_;
    refine ex_region ?_;
    apply exl_is; rfl; rfl; rfl; (apply g_move; rfl);
    apply exl_is; rfl; rfl; rfl; (apply g_assign; rfl);
    apply exl_is; rfl; rfl; rfl; (apply g_assign; rfl);
    refine exl_nilT ?_;
    refine ex_ret ?_;
    simp only [thenA, blockA, roundA, noGotoA, retA, ↓reduceIte, Nat.reduceEqDiff];
    rotate_left
    (all_goals (repeat (rename BV _ _ => hbv; cases hbv)))
    all_goals (try (exfalso; first | (rename true = false => hx; cases hx; done) | (rename false = true => hx; cases hx; done)))
    refine ret_is .nil (.cons (.ofTmp rfl) (.cons (.ofTmp rfl) .nil)) (by repeat (first | exact List.Sublist.refl _ | apply List.Sublist.cons_cons | apply List.Sublist.cons)) ?_
    rfl
end Go.Proofs.Ytobcnochlkdpaaa
