/- The reference: follows, Accepts. -/
import Derived.Test.YthdgmimhaidmnaaQi
namespace Go.Proofs.Ythdgmimhaidmnaa
set_option linter.unusedSimpArgs false
set_option linter.unusedVariables false
section
variable {p : Pl} {SL P R : List Int} {S : Int → Bool} {K : Known} {vp vr : Value} {σ : List Ent}
set_option maxHeartbeats 4000000 in
set_option maxRecDepth 10000 in
theorem refFollows_c (x : Rs) (hp0 : p.clauses.length ≤ 64) (hS : ∀ q, SL.contains q = S q) (hK : KR K P R) :
    SCall Try.prog 31 [.agg (plC p), .agg (stC SL P R), .agg (rsC x)] σ (Is (.bool (followsB p S K x)) σ) := by
  refine scall_of Try.func31 rfl (by simp) ?_
  have hlt := refLit_c x.lit
  by_cases hb : litB x.lit = true
  · have hb1 := hb
    rw [hb] at hlt
    simp only [litB, Bool.and_eq_true, decide_eq_true_eq] at hb1
    obtain ⟨⟨hb1, hb2⟩, _⟩ := hb1
    have hkn := hK.known x.lit
    have hpv : S x.lit = false → provesL p SL P R x.lit = provesB p S K x.lit := fun h => hK.proves p hS h
    have hrf := hK.refutes p hS x.lit
    have hSq := hS x.lit
    have hpv2 : provesB p S K x.lit = (SL.contains x.lit || provesL p SL P R x.lit) := by
      rw [hSq]
      cases h : S x.lit with
      | true => unfold provesB; rw [h]; rfl
      | false => rw [← hpv h]; rfl
    by_cases hc : 1 ≤ x.clause ∧ x.clause ≤ p.clauses.length
    · obtain ⟨hc1, hc2⟩ := hc
      obtain ⟨c, hcc⟩ : ∃ c, p.clauses[(x.clause - 1).toNat]? = some c := ⟨_, List.getElem?_eq_getElem (by omega)⟩
      have hix : x.clause - 1 = (((x.clause - 1).toNat : Nat) : Int) := by omega
      have hx0 : (x.clause == 0) = false := by simp; omega
      have hon := hK.on c
      have hF : followsB p S K x = (!(P.contains x.lit || R.contains x.lit) && (if !x.proved then x.clause == 0 && refutesL p SL P R x.lit else c.thn == x.lit && onL P c && (SL.contains x.lit || provesL p SL P R x.lit))) := by
        unfold followsB
        rw [hb, hcc, ← hpv2, hon, hrf, hkn, hx0, decide_eq_false (show ¬ x.clause < 0 by omega), decide_eq_false (show ¬ (p.clauses.length : Int) < x.clause by omega)]
        cases K x.lit != 0 <;> rfl
      clear hkn hpv hrf hSq hpv2 hon hS hK
      refine ex_seq ?_;
      refine ex_region ?_;
      refine exl_box rfl rfl rfl (g_box rfl rfl) ?_; intro _;
      refine exl_box rfl rfl rfl (g_box rfl rfl) ?_; intro _;
      refine exl_box rfl rfl rfl (g_box rfl rfl) ?_; intro _;
      apply exl_is; rfl; rfl; rfl; (apply g_assign; rfl);
      refine exl_nilT ?_;
      refine ex_seq ?_;
      refine ex_seq ?_;
      refine ex_region ?_;
      apply exl_is; rfl; rfl; rfl; (apply g_fieldAddr; rfl; rfl; rfl);
      apply exl_is; rfl; rfl; rfl; (apply g_load1; rfl; rfl; (exact .p (by ((repeat (first | exact List.Mem.head _ | assumption | refine List.Mem.tail _ ?_)); done)) rfl));
      apply exl_isB; rfl; rfl; rfl; (exact g_call rfl rfl (enters_b (by kernel_rfl)) (hlt _)); intro _ _;
      apply exl_isB; rfl; rfl; rfl; (apply g_not; rfl); intro _ _;
      apply exl_is; rfl; rfl; rfl; (apply g_move; rfl);
      refine exl_caseL rfl (fun h => ?_) (fun h => ?_) <;> ((first | (subst h; rename BV _ true => h0; have h := h0.eq; clear h0) | (subst h; rename BV _ false => h0; have h := h0.eq; clear h0) | skip); (have hp := h; try simp only [decide_eq_true_eq, decide_eq_false_iff_not, Bool.not_eq_true', Bool.not_eq_false', bne_iff_ne, beq_iff_eq, beq_eq_false_iff_ne, bne_eq_false_iff_eq, Int.not_lt, Int.not_le] at hp); (try (exfalso; first | omega | (cases hp; done))));
      refine exl_skipL rfl (by rfl) rfl rfl ?_;
      refine exl_skipL rfl (by rfl) rfl rfl ?_;
      refine exl_skipL rfl (by rfl) rfl rfl ?_;
      refine exl_skipL rfl (by rfl) rfl rfl ?_;
      refine exl_skipL rfl (by rfl) rfl rfl ?_;
      apply exl_is; rfl; rfl; rfl; (apply g_pick_t; rfl; (rfl); rfl);
      apply exl_is; rfl; rfl; rfl; (apply g_move; rfl);
      refine exl_skipL rfl (by rfl) rfl rfl ?_;
      refine exl_skipL rfl (by rfl) rfl rfl ?_;
      refine exl_skipL rfl (by rfl) rfl rfl ?_;
      refine exl_skipL rfl (by rfl) rfl rfl ?_;
      refine exl_skipL rfl (by rfl) rfl rfl ?_;
      apply exl_is; rfl; rfl; rfl; (apply g_pick_t; rfl; (rfl); rfl);
      refine exl_nilT ?_;
      refine ex_cond_t rfl (by rfl) ?_;
      refine ex_seq ?_;
      refine ex_region ?_;
      apply exl_is; rfl; rfl; rfl; (apply g_assign; rfl);
      refine exl_nilT ?_;
      refine ex_ret ?_;
      simp only [thenA, blockA, roundA, noGotoA, retA, ↓reduceIte, Nat.reduceEqDiff];
      rotate_left;
      apply exl_isW; rfl; (rfl); rfl; rfl; (apply g_fieldAddr; rfl; rfl; rfl);
      apply exl_isW; rfl; (rfl); rfl; rfl; (apply g_load1; rfl; rfl; (exact .p (by ((repeat (first | exact List.Mem.head _ | assumption | refine List.Mem.tail _ ?_)); done)) rfl));
      apply exl_isW; rfl; (rfl); rfl; rfl; (apply g_fieldAddr; rfl; rfl; rfl);
      apply exl_isW; rfl; (rfl); rfl; rfl; (apply g_load1; rfl; rfl; (exact .p (by ((repeat (first | exact List.Mem.head _ | assumption | refine List.Mem.tail _ ?_)); done)) rfl));
      apply exl_isBW; rfl; (rfl); rfl; rfl; (exact g_call rfl rfl (enters_b (by kernel_rfl)) (has_c P x.lit _)); intro _ _;
      apply exl_is; rfl; rfl; rfl; (apply g_pick_f; rfl; (rfl); rfl);
      apply exl_is; rfl; rfl; rfl; (apply g_move; rfl);
      refine exl_caseL rfl (fun h => ?_) (fun h => ?_) <;> ((first | (subst h; rename BV _ true => h0; have h := h0.eq; clear h0) | (subst h; rename BV _ false => h0; have h := h0.eq; clear h0) | skip); (have hp := h; try simp only [decide_eq_true_eq, decide_eq_false_iff_not, Bool.not_eq_true', Bool.not_eq_false', bne_iff_ne, beq_iff_eq, beq_eq_false_iff_ne, bne_eq_false_iff_eq, Int.not_lt, Int.not_le] at hp); (try (exfalso; first | omega | (cases hp; done))));
      refine exl_skipL rfl (by rfl) rfl rfl ?_;
      refine exl_skipL rfl (by rfl) rfl rfl ?_;
      refine exl_skipL rfl (by rfl) rfl rfl ?_;
      refine exl_skipL rfl (by rfl) rfl rfl ?_;
      refine exl_skipL rfl (by rfl) rfl rfl ?_;
      apply exl_is; rfl; rfl; rfl; (apply g_pick_t; rfl; (rfl); rfl);
      refine exl_nilT ?_;
      refine ex_cond_t rfl (by rfl) ?_;
      refine ex_seq ?_;
      refine ex_region ?_;
      apply exl_is; rfl; rfl; rfl; (apply g_assign; rfl);
      refine exl_nilT ?_;
      refine ex_ret ?_;
      simp only [thenA, blockA, roundA, noGotoA, retA, ↓reduceIte, Nat.reduceEqDiff];
      rotate_left;
      apply exl_isW; rfl; (rfl); rfl; rfl; (apply g_fieldAddr; rfl; rfl; rfl);
      apply exl_isW; rfl; (rfl); rfl; rfl; (apply g_load1; rfl; rfl; (exact .p (by ((repeat (first | exact List.Mem.head _ | assumption | refine List.Mem.tail _ ?_)); done)) rfl));
      apply exl_isW; rfl; (rfl); rfl; rfl; (apply g_fieldAddr; rfl; rfl; rfl);
      apply exl_isW; rfl; (rfl); rfl; rfl; (apply g_load1; rfl; rfl; (exact .p (by ((repeat (first | exact List.Mem.head _ | assumption | refine List.Mem.tail _ ?_)); done)) rfl));
      apply exl_isBW; rfl; (rfl); rfl; rfl; (exact g_call rfl rfl (enters_b (by kernel_rfl)) (has_c R x.lit _)); intro _ _;
      apply exl_is; rfl; rfl; rfl; (apply g_pick_f; rfl; (rfl); rfl);
      refine exl_nilT ?_;
      refine ex_cond rfl (fun h => ?_) (fun h => ?_) <;> ((first | (subst h; rename BV _ true => h0; have h := h0.eq; clear h0) | (subst h; rename BV _ false => h0; have h := h0.eq; clear h0) | skip); (have hp := h; try simp only [decide_eq_true_eq, decide_eq_false_iff_not, Bool.not_eq_true', Bool.not_eq_false', bne_iff_ne, beq_iff_eq, beq_eq_false_iff_ne, bne_eq_false_iff_eq, Int.not_lt, Int.not_le] at hp); (try (exfalso; first | omega | (cases hp; done))));
      refine ex_seq ?_;
      refine ex_region ?_;
      apply exl_is; rfl; rfl; rfl; (apply g_assign; rfl);
      refine exl_nilT ?_;
      refine ex_ret ?_;
      simp only [thenA, blockA, roundA, noGotoA, retA, ↓reduceIte, Nat.reduceEqDiff];
      rotate_left;
      refine ex_skip ?_;
      refine ex_seq ?_;
      refine ex_seq ?_;
      refine ex_region ?_;
      apply exl_is; rfl; rfl; rfl; (apply g_fieldAddr; rfl; rfl; rfl);
      apply exl_is; rfl; rfl; rfl; (apply g_load1; rfl; rfl; (exact .p (by ((repeat (first | exact List.Mem.head _ | assumption | refine List.Mem.tail _ ?_)); done)) rfl));
      apply exl_isB; rfl; rfl; rfl; (apply g_not; rfl); intro _ _;
      refine exl_nilT ?_;
      refine ex_cond rfl (fun h => ?_) (fun h => ?_) <;> ((first | (subst h; rename BV _ true => h0; have h := h0.eq; clear h0) | (subst h; rename BV _ false => h0; have h := h0.eq; clear h0) | skip); (have hp := h; try simp only [decide_eq_true_eq, decide_eq_false_iff_not, Bool.not_eq_true', Bool.not_eq_false', bne_iff_ne, beq_iff_eq, beq_eq_false_iff_ne, bne_eq_false_iff_eq, Int.not_lt, Int.not_le] at hp); (try (exfalso; first | omega | (cases hp; done))));
      refine ex_seq ?_;
      refine ex_region ?_;
      apply exl_is; rfl; rfl; rfl; (apply g_fieldAddr; rfl; rfl; rfl);
      apply exl_is; rfl; rfl; rfl; (apply g_load1; rfl; rfl; (exact .p (by ((repeat (first | exact List.Mem.head _ | assumption | refine List.Mem.tail _ ?_)); done)) rfl));
      apply exl_isB; rfl; rfl; rfl; (apply g_binInt; rfl; rfl; rfl); intro _ _;
      apply exl_is; rfl; rfl; rfl; (apply g_move; rfl);
      refine exl_caseL rfl (fun h => ?_) (fun h => ?_) <;> ((first | (subst h; rename BV _ true => h0; have h := h0.eq; clear h0) | (subst h; rename BV _ false => h0; have h := h0.eq; clear h0) | skip); (have hp := h; try simp only [decide_eq_true_eq, decide_eq_false_iff_not, Bool.not_eq_true', Bool.not_eq_false', bne_iff_ne, beq_iff_eq, beq_eq_false_iff_ne, bne_eq_false_iff_eq, Int.not_lt, Int.not_le] at hp); (try (exfalso; first | omega | (cases hp; done))));
      refine exl_skipL rfl (by rfl) rfl rfl ?_;
      refine exl_skipL rfl (by rfl) rfl rfl ?_;
      refine exl_skipL rfl (by rfl) rfl rfl ?_;
      refine exl_skipL rfl (by rfl) rfl rfl ?_;
      refine exl_skipL rfl (by rfl) rfl rfl ?_;
      apply exl_is; rfl; rfl; rfl; (apply g_pick_f; rfl; (rfl); rfl);
      apply exl_is; rfl; rfl; rfl; (apply g_assign; rfl);
      refine exl_nilT ?_;
      refine ex_ret ?_;
      simp only [thenA, blockA, roundA, noGotoA, retA, ↓reduceIte, Nat.reduceEqDiff];
      rotate_left;
      refine ex_skip ?_;
      refine ex_seq ?_;
      refine ex_seq ?_;
      refine ex_region ?_;
      apply exl_is; rfl; rfl; rfl; (apply g_fieldAddr; rfl; rfl; rfl);
      apply exl_is; rfl; rfl; rfl; (apply g_load1; rfl; rfl; (exact .p (by ((repeat (first | exact List.Mem.head _ | assumption | refine List.Mem.tail _ ?_)); done)) rfl));
      apply exl_isB; rfl; rfl; rfl; (apply g_binInt; rfl; rfl; rfl); intro _ _;
      apply exl_is; rfl; rfl; rfl; (apply g_move; rfl);
      refine exl_caseL rfl (fun h => ?_) (fun h => ?_) <;> ((first | (subst h; rename BV _ true => h0; have h := h0.eq; clear h0) | (subst h; rename BV _ false => h0; have h := h0.eq; clear h0) | skip); (have hp := h; try simp only [decide_eq_true_eq, decide_eq_false_iff_not, Bool.not_eq_true', Bool.not_eq_false', bne_iff_ne, beq_iff_eq, beq_eq_false_iff_ne, bne_eq_false_iff_eq, Int.not_lt, Int.not_le] at hp); (try (exfalso; first | omega | (cases hp; done))));
      apply exl_isW; rfl; (rfl); rfl; rfl; (apply g_fieldAddr; rfl; rfl; rfl);
      apply exl_isW; rfl; (rfl); rfl; rfl; (apply g_load1; rfl; rfl; (exact .p (by ((repeat (first | exact List.Mem.head _ | assumption | refine List.Mem.tail _ ?_)); done)) rfl));
      apply exl_isW; rfl; (rfl); rfl; rfl; (apply g_fieldAddr; rfl; rfl; rfl);
      apply exl_isW; rfl; (rfl); rfl; rfl; (apply g_load1; rfl; rfl; (exact .p (by ((repeat (first | exact List.Mem.head _ | assumption | refine List.Mem.tail _ ?_)); done)) rfl));
      apply exl_isW; rfl; (rfl); rfl; rfl; (apply g_len; rfl; rfl; (exact (List.length_map _).symm));
      apply exl_isBW; rfl; (rfl); rfl; rfl; (apply g_binInt; rfl; rfl; rfl); intro _ _;
      apply exl_is; rfl; rfl; rfl; (apply g_pick_f; rfl; (rfl); rfl);
      refine exl_nilT ?_;
      refine ex_cond rfl (fun h => ?_) (fun h => ?_) <;> ((first | (subst h; rename BV _ true => h0; have h := h0.eq; clear h0) | (subst h; rename BV _ false => h0; have h := h0.eq; clear h0) | skip); (have hp := h; try simp only [decide_eq_true_eq, decide_eq_false_iff_not, Bool.not_eq_true', Bool.not_eq_false', bne_iff_ne, beq_iff_eq, beq_eq_false_iff_ne, bne_eq_false_iff_eq, Int.not_lt, Int.not_le] at hp); (try (exfalso; first | omega | (cases hp; done))));
      refine ex_skip ?_;
      refine ex_seq ?_;
      refine ex_seq ?_;
      refine ex_region ?_;
      apply exl_is; rfl; rfl; rfl; (apply g_fieldAddr; rfl; rfl; rfl);
      apply exl_is; rfl; rfl; rfl; (apply g_load1; rfl; rfl; (exact .p (by ((repeat (first | exact List.Mem.head _ | assumption | refine List.Mem.tail _ ?_)); done)) rfl));
      apply exl_isB; rfl; rfl; rfl; (apply g_binInt; rfl; rfl; rfl); intro _ _;
      refine exl_nilT ?_;
      refine ex_cond rfl (fun h => ?_) (fun h => ?_) <;> ((first | (subst h; rename BV _ true => h0; have h := h0.eq; clear h0) | (subst h; rename BV _ false => h0; have h := h0.eq; clear h0) | skip); (have hp := h; try simp only [decide_eq_true_eq, decide_eq_false_iff_not, Bool.not_eq_true', Bool.not_eq_false', bne_iff_ne, beq_iff_eq, beq_eq_false_iff_ne, bne_eq_false_iff_eq, Int.not_lt, Int.not_le] at hp); (try (exfalso; first | omega | (cases hp; done))));
      refine ex_seq ?_;
      refine ex_region ?_;
      apply exl_is; rfl; rfl; rfl; (apply g_fieldAddr; rfl; rfl; rfl);
      apply exl_is; rfl; rfl; rfl; (apply g_load1; rfl; rfl; (exact .p (by ((repeat (first | exact List.Mem.head _ | assumption | refine List.Mem.tail _ ?_)); done)) rfl));
      apply exl_is; rfl; rfl; rfl; (apply g_fieldAddr; rfl; rfl; rfl);
      apply exl_is; rfl; rfl; rfl; (apply g_load1; rfl; rfl; (exact .p (by ((repeat (first | exact List.Mem.head _ | assumption | refine List.Mem.tail _ ?_)); done)) rfl));
      apply exl_is; rfl; rfl; rfl; (apply g_sub; rfl; rfl; rfl; exact ⟨by omega, by omega⟩);
      apply exl_is; rfl; rfl; rfl; (apply g_indexDl; rfl; rfl; rfl; (assumption); (exact get_map (by assumption)));
      apply exl_is; rfl; rfl; rfl; (apply g_loadAgg; rfl; decide; rfl; (exact .e rfl rfl));
      refine exl_box rfl rfl rfl (g_alloc rfl) ?_; intro _;
      apply exl_do; rfl; rfl; (apply g_store'; rfl; rfl; rfl; (exact Upd.here); (simp only [setL, List.set_cons_zero, List.set_cons_succ, AV.cells]; rfl); rfl; rfl; rfl; exact Nat.le_of_ble_eq_true rfl);
      refine exl_nilT ?_;
      refine ex_seq ?_;
      refine ex_region ?_;
      apply exl_is; rfl; rfl; rfl; (apply g_fieldAddr; rfl; rfl; rfl);
      apply exl_is; rfl; rfl; rfl; (apply g_load1; rfl; rfl; (exact .p (by ((repeat (first | exact List.Mem.head _ | assumption | refine List.Mem.tail _ ?_)); done)) rfl));
      apply exl_is; rfl; rfl; rfl; (apply g_fieldAddr; rfl; rfl; rfl);
      apply exl_is; rfl; rfl; rfl; (apply g_load1; rfl; rfl; (exact .p (by ((repeat (first | exact List.Mem.head _ | assumption | refine List.Mem.tail _ ?_)); done)) rfl));
      apply exl_isB; rfl; rfl; rfl; (apply g_binInt; rfl; rfl; rfl); intro _ _;
      apply exl_is; rfl; rfl; rfl; (apply g_move; rfl);
      refine exl_caseL rfl (fun h => ?_) (fun h => ?_) <;> ((first | (subst h; rename BV _ true => h0; have h := h0.eq; clear h0) | (subst h; rename BV _ false => h0; have h := h0.eq; clear h0) | skip); (have hp := h; try simp only [decide_eq_true_eq, decide_eq_false_iff_not, Bool.not_eq_true', Bool.not_eq_false', bne_iff_ne, beq_iff_eq, beq_eq_false_iff_ne, bne_eq_false_iff_eq, Int.not_lt, Int.not_le] at hp); (try (exfalso; first | omega | (cases hp; done))));
      refine exl_skipL rfl (by rfl) rfl rfl ?_;
      refine exl_skipL rfl (by rfl) rfl rfl ?_;
      refine exl_skipL rfl (by rfl) rfl rfl ?_;
      refine exl_skipL rfl (by rfl) rfl rfl ?_;
      apply exl_is; rfl; rfl; rfl; (apply g_pick_t; rfl; (rfl); rfl);
      refine exl_nilT ?_;
      refine ex_cond_t rfl (by rfl) ?_;
      refine ex_seq ?_;
      refine ex_region ?_;
      apply exl_is; rfl; rfl; rfl; (apply g_assign; rfl);
      refine exl_nilT ?_;
      refine ex_ret ?_;
      simp only [thenA, blockA, roundA, noGotoA, retA, ↓reduceIte, Nat.reduceEqDiff];
      rotate_left;
      apply exl_isW; rfl; (rfl); rfl; rfl; (apply g_loadAgg; rfl; decide; rfl; (exact .p (by ((repeat (first | exact List.Mem.head _ | assumption | refine List.Mem.tail _ ?_)); done)) rfl rfl));
      apply exl_isW; rfl; (rfl); rfl; rfl; (apply g_loadAgg; rfl; decide; rfl; (exact .p (by ((repeat (first | exact List.Mem.head _ | assumption | refine List.Mem.tail _ ?_)); done)) rfl rfl));
      apply exl_isBW; rfl; (rfl); rfl; rfl; (exact g_call rfl rfl (enters_b (by kernel_rfl)) (refOn_c SL P R c _)); intro _ _;
      apply exl_isBW; rfl; (rfl); rfl; rfl; (apply g_not; rfl); intro _ _;
      apply exl_is; rfl; rfl; rfl; (apply g_pick_f; rfl; (rfl); rfl);
      refine exl_nilT ?_;
      refine ex_cond rfl (fun h => ?_) (fun h => ?_) <;> ((first | (subst h; rename BV _ true => h0; have h := h0.eq; clear h0) | (subst h; rename BV _ false => h0; have h := h0.eq; clear h0) | skip); (have hp := h; try simp only [decide_eq_true_eq, decide_eq_false_iff_not, Bool.not_eq_true', Bool.not_eq_false', bne_iff_ne, beq_iff_eq, beq_eq_false_iff_ne, bne_eq_false_iff_eq, Int.not_lt, Int.not_le] at hp); (try (exfalso; first | omega | (cases hp; done))));
      refine ex_seq ?_;
      refine ex_region ?_;
      apply exl_is; rfl; rfl; rfl; (apply g_assign; rfl);
      refine exl_nilT ?_;
      refine ex_ret ?_;
      simp only [thenA, blockA, roundA, noGotoA, retA, ↓reduceIte, Nat.reduceEqDiff];
      rotate_left;
      refine ex_skip ?_;
      refine ex_seq ?_;
      refine ex_seq ?_;
      refine ex_region ?_;
      apply exl_is; rfl; rfl; rfl; (apply g_fieldAddr; rfl; rfl; rfl);
      apply exl_is; rfl; rfl; rfl; (apply g_load1; rfl; rfl; (exact .p (by ((repeat (first | exact List.Mem.head _ | assumption | refine List.Mem.tail _ ?_)); done)) rfl));
      apply exl_is; rfl; rfl; rfl; (apply g_fieldAddr; rfl; rfl; rfl);
      apply exl_is; rfl; rfl; rfl; (apply g_load1; rfl; rfl; (exact .p (by ((repeat (first | exact List.Mem.head _ | assumption | refine List.Mem.tail _ ?_)); done)) rfl));
      apply exl_isB; rfl; rfl; rfl; (exact g_call rfl rfl (enters_b (by kernel_rfl)) (has_c SL x.lit _)); intro _ _;
      refine exl_nilT ?_;
      refine ex_cond rfl (fun h => ?_) (fun h => ?_) <;> ((first | (subst h; rename BV _ true => h0; have h := h0.eq; clear h0) | (subst h; rename BV _ false => h0; have h := h0.eq; clear h0) | skip); (have hp := h; try simp only [decide_eq_true_eq, decide_eq_false_iff_not, Bool.not_eq_true', Bool.not_eq_false', bne_iff_ne, beq_iff_eq, beq_eq_false_iff_ne, bne_eq_false_iff_eq, Int.not_lt, Int.not_le] at hp); (try (exfalso; first | omega | (cases hp; done))));
      refine ex_seq ?_;
      refine ex_region ?_;
      apply exl_is; rfl; rfl; rfl; (apply g_assign; rfl);
      refine exl_nilT ?_;
      refine ex_ret ?_;
      simp only [thenA, blockA, roundA, noGotoA, retA, ↓reduceIte, Nat.reduceEqDiff];
      rotate_left;
      refine ex_skip ?_;
      refine ex_seq ?_;
      refine ex_region ?_;
      apply exl_is; rfl; rfl; rfl; (apply g_fieldAddr; rfl; rfl; rfl);
      apply exl_is; rfl; rfl; rfl; (apply g_load1; rfl; rfl; (exact .p (by ((repeat (first | exact List.Mem.head _ | assumption | refine List.Mem.tail _ ?_)); done)) rfl));
      apply exl_isB; rfl; rfl; rfl; (apply g_binInt; rfl; rfl; rfl); intro _ _;
      apply exl_is; rfl; rfl; rfl; (apply g_move; rfl);
      refine exl_caseL rfl (fun h => ?_) (fun h => ?_) <;> ((first | (subst h; rename BV _ true => h0; have h := h0.eq; clear h0) | (subst h; rename BV _ false => h0; have h := h0.eq; clear h0) | skip); (have hp := h; try simp only [decide_eq_true_eq, decide_eq_false_iff_not, Bool.not_eq_true', Bool.not_eq_false', bne_iff_ne, beq_iff_eq, beq_eq_false_iff_ne, bne_eq_false_iff_eq, Int.not_lt, Int.not_le] at hp); (try (exfalso; first | omega | (cases hp; done))));
      apply exl_isW; rfl; (rfl); rfl; rfl; (apply g_loadAgg; rfl; decide; rfl; (exact .p (by ((repeat (first | exact List.Mem.head _ | assumption | refine List.Mem.tail _ ?_)); done)) rfl rfl));
      apply exl_isW; rfl; (rfl); rfl; rfl; (apply g_loadAgg; rfl; decide; rfl; (exact .p (by ((repeat (first | exact List.Mem.head _ | assumption | refine List.Mem.tail _ ?_)); done)) rfl rfl));
      apply exl_isW; rfl; (rfl); rfl; rfl; (apply g_fieldAddr; rfl; rfl; rfl);
      apply exl_isW; rfl; (rfl); rfl; rfl; (apply g_load1; rfl; rfl; (exact .p (by ((repeat (first | exact List.Mem.head _ | assumption | refine List.Mem.tail _ ?_)); done)) rfl));
      apply exl_isBW; rfl; (rfl); rfl; rfl; (exact g_call rfl rfl (enters_b (by kernel_rfl)) (refProves_c p SL P R x.lit ⟨hb1, hb2⟩ hp0 _)); intro _ _;
      apply exl_is; rfl; rfl; rfl; (apply g_pick_t; rfl; (rfl); rfl);
      apply exl_is; rfl; rfl; rfl; (apply g_assign; rfl);
      refine exl_nilT ?_;
      refine ex_ret ?_;
      simp only [thenA, blockA, roundA, noGotoA, retA, ↓reduceIte, Nat.reduceEqDiff];
      rotate_left
      (all_goals (repeat (rename BV _ _ => hbv; cases hbv)))
      all_goals (try (exfalso; first | (rename true = false => hx; cases hx; done) | (rename false = true => hx; cases hx; done)))
      all_goals
        refine ret_is .nil (.cons (.ofTmp rfl) .nil) (by repeat (first | exact List.Sublist.refl _ | apply List.Sublist.cons_cons | apply List.Sublist.cons)) (bool_eq ?_)
        rw [hF]
        clear hF
        simp only [*]
        try simp
        try omega
    · have hF : followsB p S K x = (!(P.contains x.lit || R.contains x.lit) && (if !x.proved then x.clause == 0 && refutesL p SL P R x.lit else x.clause == 0 && SL.contains x.lit)) := by
        unfold followsB
        rw [hb, hrf, hkn, hSq]
        by_cases h0 : x.clause = 0
        · rw [h0]
          have e2 : ¬ ((p.clauses.length : Int) < 0) := by omega
          rw [decide_eq_false e2]
          cases K x.lit != 0 <;> rfl
        · have e1 : (x.clause == 0) = false := by simp [h0]
          by_cases h1 : x.clause < 0
          · rw [e1, decide_eq_true h1]
            cases K x.lit != 0 <;> cases x.proved <;> rfl
          · have h2 : (p.clauses.length : Int) < x.clause := by omega
            rw [e1, decide_eq_false h1, decide_eq_true h2]
            cases K x.lit != 0 <;> cases x.proved <;> rfl
      clear hkn hpv hrf hSq hpv2 hS hK
      refine ex_seq ?_;
      refine ex_region ?_;
      refine exl_box rfl rfl rfl (g_box rfl rfl) ?_; intro _;
      refine exl_box rfl rfl rfl (g_box rfl rfl) ?_; intro _;
      refine exl_box rfl rfl rfl (g_box rfl rfl) ?_; intro _;
      apply exl_is; rfl; rfl; rfl; (apply g_assign; rfl);
      refine exl_nilT ?_;
      refine ex_seq ?_;
      refine ex_seq ?_;
      refine ex_region ?_;
      apply exl_is; rfl; rfl; rfl; (apply g_fieldAddr; rfl; rfl; rfl);
      apply exl_is; rfl; rfl; rfl; (apply g_load1; rfl; rfl; (exact .p (by ((repeat (first | exact List.Mem.head _ | assumption | refine List.Mem.tail _ ?_)); done)) rfl));
      apply exl_isB; rfl; rfl; rfl; (exact g_call rfl rfl (enters_b (by kernel_rfl)) (hlt _)); intro _ _;
      apply exl_isB; rfl; rfl; rfl; (apply g_not; rfl); intro _ _;
      apply exl_is; rfl; rfl; rfl; (apply g_move; rfl);
      refine exl_caseL rfl (fun h => ?_) (fun h => ?_) <;> ((first | (subst h; rename BV _ true => h0; have h := h0.eq; clear h0) | (subst h; rename BV _ false => h0; have h := h0.eq; clear h0) | skip); (have hp := h; try simp only [decide_eq_true_eq, decide_eq_false_iff_not, Bool.not_eq_true', Bool.not_eq_false', bne_iff_ne, beq_iff_eq, beq_eq_false_iff_ne, bne_eq_false_iff_eq, Int.not_lt, Int.not_le] at hp); (try (exfalso; first | omega | (cases hp; done))));
      refine exl_skipL rfl (by rfl) rfl rfl ?_;
      refine exl_skipL rfl (by rfl) rfl rfl ?_;
      refine exl_skipL rfl (by rfl) rfl rfl ?_;
      refine exl_skipL rfl (by rfl) rfl rfl ?_;
      refine exl_skipL rfl (by rfl) rfl rfl ?_;
      apply exl_is; rfl; rfl; rfl; (apply g_pick_t; rfl; (rfl); rfl);
      apply exl_is; rfl; rfl; rfl; (apply g_move; rfl);
      refine exl_skipL rfl (by rfl) rfl rfl ?_;
      refine exl_skipL rfl (by rfl) rfl rfl ?_;
      refine exl_skipL rfl (by rfl) rfl rfl ?_;
      refine exl_skipL rfl (by rfl) rfl rfl ?_;
      refine exl_skipL rfl (by rfl) rfl rfl ?_;
      apply exl_is; rfl; rfl; rfl; (apply g_pick_t; rfl; (rfl); rfl);
      refine exl_nilT ?_;
      refine ex_cond_t rfl (by rfl) ?_;
      refine ex_seq ?_;
      refine ex_region ?_;
      apply exl_is; rfl; rfl; rfl; (apply g_assign; rfl);
      refine exl_nilT ?_;
      refine ex_ret ?_;
      simp only [thenA, blockA, roundA, noGotoA, retA, ↓reduceIte, Nat.reduceEqDiff];
      rotate_left;
      apply exl_isW; rfl; (rfl); rfl; rfl; (apply g_fieldAddr; rfl; rfl; rfl);
      apply exl_isW; rfl; (rfl); rfl; rfl; (apply g_load1; rfl; rfl; (exact .p (by ((repeat (first | exact List.Mem.head _ | assumption | refine List.Mem.tail _ ?_)); done)) rfl));
      apply exl_isW; rfl; (rfl); rfl; rfl; (apply g_fieldAddr; rfl; rfl; rfl);
      apply exl_isW; rfl; (rfl); rfl; rfl; (apply g_load1; rfl; rfl; (exact .p (by ((repeat (first | exact List.Mem.head _ | assumption | refine List.Mem.tail _ ?_)); done)) rfl));
      apply exl_isBW; rfl; (rfl); rfl; rfl; (exact g_call rfl rfl (enters_b (by kernel_rfl)) (has_c P x.lit _)); intro _ _;
      apply exl_is; rfl; rfl; rfl; (apply g_pick_f; rfl; (rfl); rfl);
      apply exl_is; rfl; rfl; rfl; (apply g_move; rfl);
      refine exl_caseL rfl (fun h => ?_) (fun h => ?_) <;> ((first | (subst h; rename BV _ true => h0; have h := h0.eq; clear h0) | (subst h; rename BV _ false => h0; have h := h0.eq; clear h0) | skip); (have hp := h; try simp only [decide_eq_true_eq, decide_eq_false_iff_not, Bool.not_eq_true', Bool.not_eq_false', bne_iff_ne, beq_iff_eq, beq_eq_false_iff_ne, bne_eq_false_iff_eq, Int.not_lt, Int.not_le] at hp); (try (exfalso; first | omega | (cases hp; done))));
      refine exl_skipL rfl (by rfl) rfl rfl ?_;
      refine exl_skipL rfl (by rfl) rfl rfl ?_;
      refine exl_skipL rfl (by rfl) rfl rfl ?_;
      refine exl_skipL rfl (by rfl) rfl rfl ?_;
      refine exl_skipL rfl (by rfl) rfl rfl ?_;
      apply exl_is; rfl; rfl; rfl; (apply g_pick_t; rfl; (rfl); rfl);
      refine exl_nilT ?_;
      refine ex_cond_t rfl (by rfl) ?_;
      refine ex_seq ?_;
      refine ex_region ?_;
      apply exl_is; rfl; rfl; rfl; (apply g_assign; rfl);
      refine exl_nilT ?_;
      refine ex_ret ?_;
      simp only [thenA, blockA, roundA, noGotoA, retA, ↓reduceIte, Nat.reduceEqDiff];
      rotate_left;
      apply exl_isW; rfl; (rfl); rfl; rfl; (apply g_fieldAddr; rfl; rfl; rfl);
      apply exl_isW; rfl; (rfl); rfl; rfl; (apply g_load1; rfl; rfl; (exact .p (by ((repeat (first | exact List.Mem.head _ | assumption | refine List.Mem.tail _ ?_)); done)) rfl));
      apply exl_isW; rfl; (rfl); rfl; rfl; (apply g_fieldAddr; rfl; rfl; rfl);
      apply exl_isW; rfl; (rfl); rfl; rfl; (apply g_load1; rfl; rfl; (exact .p (by ((repeat (first | exact List.Mem.head _ | assumption | refine List.Mem.tail _ ?_)); done)) rfl));
      apply exl_isBW; rfl; (rfl); rfl; rfl; (exact g_call rfl rfl (enters_b (by kernel_rfl)) (has_c R x.lit _)); intro _ _;
      apply exl_is; rfl; rfl; rfl; (apply g_pick_f; rfl; (rfl); rfl);
      refine exl_nilT ?_;
      refine ex_cond rfl (fun h => ?_) (fun h => ?_) <;> ((first | (subst h; rename BV _ true => h0; have h := h0.eq; clear h0) | (subst h; rename BV _ false => h0; have h := h0.eq; clear h0) | skip); (have hp := h; try simp only [decide_eq_true_eq, decide_eq_false_iff_not, Bool.not_eq_true', Bool.not_eq_false', bne_iff_ne, beq_iff_eq, beq_eq_false_iff_ne, bne_eq_false_iff_eq, Int.not_lt, Int.not_le] at hp); (try (exfalso; first | omega | (cases hp; done))));
      refine ex_seq ?_;
      refine ex_region ?_;
      apply exl_is; rfl; rfl; rfl; (apply g_assign; rfl);
      refine exl_nilT ?_;
      refine ex_ret ?_;
      simp only [thenA, blockA, roundA, noGotoA, retA, ↓reduceIte, Nat.reduceEqDiff];
      rotate_left;
      refine ex_skip ?_;
      refine ex_seq ?_;
      refine ex_seq ?_;
      refine ex_region ?_;
      apply exl_is; rfl; rfl; rfl; (apply g_fieldAddr; rfl; rfl; rfl);
      apply exl_is; rfl; rfl; rfl; (apply g_load1; rfl; rfl; (exact .p (by ((repeat (first | exact List.Mem.head _ | assumption | refine List.Mem.tail _ ?_)); done)) rfl));
      apply exl_isB; rfl; rfl; rfl; (apply g_not; rfl); intro _ _;
      refine exl_nilT ?_;
      refine ex_cond rfl (fun h => ?_) (fun h => ?_) <;> ((first | (subst h; rename BV _ true => h0; have h := h0.eq; clear h0) | (subst h; rename BV _ false => h0; have h := h0.eq; clear h0) | skip); (have hp := h; try simp only [decide_eq_true_eq, decide_eq_false_iff_not, Bool.not_eq_true', Bool.not_eq_false', bne_iff_ne, beq_iff_eq, beq_eq_false_iff_ne, bne_eq_false_iff_eq, Int.not_lt, Int.not_le] at hp); (try (exfalso; first | omega | (cases hp; done))));
      refine ex_seq ?_;
      refine ex_region ?_;
      apply exl_is; rfl; rfl; rfl; (apply g_fieldAddr; rfl; rfl; rfl);
      apply exl_is; rfl; rfl; rfl; (apply g_load1; rfl; rfl; (exact .p (by ((repeat (first | exact List.Mem.head _ | assumption | refine List.Mem.tail _ ?_)); done)) rfl));
      apply exl_isB; rfl; rfl; rfl; (apply g_binInt; rfl; rfl; rfl); intro _ _;
      apply exl_is; rfl; rfl; rfl; (apply g_move; rfl);
      refine exl_caseL rfl (fun h => ?_) (fun h => ?_) <;> ((first | (subst h; rename BV _ true => h0; have h := h0.eq; clear h0) | (subst h; rename BV _ false => h0; have h := h0.eq; clear h0) | skip); (have hp := h; try simp only [decide_eq_true_eq, decide_eq_false_iff_not, Bool.not_eq_true', Bool.not_eq_false', bne_iff_ne, beq_iff_eq, beq_eq_false_iff_ne, bne_eq_false_iff_eq, Int.not_lt, Int.not_le] at hp); (try (exfalso; first | omega | (cases hp; done))));
      apply exl_isW; rfl; (rfl); rfl; rfl; (apply g_loadAgg; rfl; decide; rfl; (exact .p (by ((repeat (first | exact List.Mem.head _ | assumption | refine List.Mem.tail _ ?_)); done)) rfl rfl));
      apply exl_isW; rfl; (rfl); rfl; rfl; (apply g_loadAgg; rfl; decide; rfl; (exact .p (by ((repeat (first | exact List.Mem.head _ | assumption | refine List.Mem.tail _ ?_)); done)) rfl rfl));
      apply exl_isW; rfl; (rfl); rfl; rfl; (apply g_fieldAddr; rfl; rfl; rfl);
      apply exl_isW; rfl; (rfl); rfl; rfl; (apply g_load1; rfl; rfl; (exact .p (by ((repeat (first | exact List.Mem.head _ | assumption | refine List.Mem.tail _ ?_)); done)) rfl));
      apply exl_isBW; rfl; (rfl); rfl; rfl; (exact g_call rfl rfl (enters_b (by kernel_rfl)) (refRefutes_c p SL P R x.lit ⟨hb1, hb2⟩ hp0 _)); intro _ _;
      apply exl_is; rfl; rfl; rfl; (apply g_pick_t; rfl; (rfl); rfl);
      apply exl_is; rfl; rfl; rfl; (apply g_assign; rfl);
      refine exl_nilT ?_;
      refine ex_ret ?_;
      simp only [thenA, blockA, roundA, noGotoA, retA, ↓reduceIte, Nat.reduceEqDiff];
      rotate_left;
      refine exl_skipL rfl (by rfl) rfl rfl ?_;
      refine exl_skipL rfl (by rfl) rfl rfl ?_;
      refine exl_skipL rfl (by rfl) rfl rfl ?_;
      refine exl_skipL rfl (by rfl) rfl rfl ?_;
      refine exl_skipL rfl (by rfl) rfl rfl ?_;
      apply exl_is; rfl; rfl; rfl; (apply g_pick_f; rfl; (rfl); rfl);
      apply exl_is; rfl; rfl; rfl; (apply g_assign; rfl);
      refine exl_nilT ?_;
      refine ex_ret ?_;
      simp only [thenA, blockA, roundA, noGotoA, retA, ↓reduceIte, Nat.reduceEqDiff];
      rotate_left;
      refine ex_skip ?_;
      refine ex_seq ?_;
      refine ex_seq ?_;
      refine ex_region ?_;
      apply exl_is; rfl; rfl; rfl; (apply g_fieldAddr; rfl; rfl; rfl);
      apply exl_is; rfl; rfl; rfl; (apply g_load1; rfl; rfl; (exact .p (by ((repeat (first | exact List.Mem.head _ | assumption | refine List.Mem.tail _ ?_)); done)) rfl));
      apply exl_isB; rfl; rfl; rfl; (apply g_binInt; rfl; rfl; rfl); intro _ _;
      apply exl_is; rfl; rfl; rfl; (apply g_move; rfl);
      refine exl_caseL rfl (fun h => ?_) (fun h => ?_) <;> ((first | (subst h; rename BV _ true => h0; have h := h0.eq; clear h0) | (subst h; rename BV _ false => h0; have h := h0.eq; clear h0) | skip); (have hp := h; try simp only [decide_eq_true_eq, decide_eq_false_iff_not, Bool.not_eq_true', Bool.not_eq_false', bne_iff_ne, beq_iff_eq, beq_eq_false_iff_ne, bne_eq_false_iff_eq, Int.not_lt, Int.not_le] at hp); (try (exfalso; first | omega | (cases hp; done))));
      refine exl_skipL rfl (by rfl) rfl rfl ?_;
      refine exl_skipL rfl (by rfl) rfl rfl ?_;
      refine exl_skipL rfl (by rfl) rfl rfl ?_;
      refine exl_skipL rfl (by rfl) rfl rfl ?_;
      refine exl_skipL rfl (by rfl) rfl rfl ?_;
      refine exl_skipL rfl (by rfl) rfl rfl ?_;
      apply exl_is; rfl; rfl; rfl; (apply g_pick_t; rfl; (rfl); rfl);
      refine exl_nilT ?_;
      refine ex_cond_t rfl (by rfl) ?_;
      refine ex_seq ?_;
      refine ex_region ?_;
      apply exl_is; rfl; rfl; rfl; (apply g_assign; rfl);
      refine exl_nilT ?_;
      refine ex_ret ?_;
      simp only [thenA, blockA, roundA, noGotoA, retA, ↓reduceIte, Nat.reduceEqDiff];
      rotate_left;
      apply exl_isW; rfl; (rfl); rfl; rfl; (apply g_fieldAddr; rfl; rfl; rfl);
      apply exl_isW; rfl; (rfl); rfl; rfl; (apply g_load1; rfl; rfl; (exact .p (by ((repeat (first | exact List.Mem.head _ | assumption | refine List.Mem.tail _ ?_)); done)) rfl));
      apply exl_isW; rfl; (rfl); rfl; rfl; (apply g_fieldAddr; rfl; rfl; rfl);
      apply exl_isW; rfl; (rfl); rfl; rfl; (apply g_load1; rfl; rfl; (exact .p (by ((repeat (first | exact List.Mem.head _ | assumption | refine List.Mem.tail _ ?_)); done)) rfl));
      apply exl_isW; rfl; (rfl); rfl; rfl; (apply g_len; rfl; rfl; (exact (List.length_map _).symm));
      apply exl_isBW; rfl; (rfl); rfl; rfl; (apply g_binInt; rfl; rfl; rfl); intro _ _;
      apply exl_is; rfl; rfl; rfl; (apply g_pick_f; rfl; (rfl); rfl);
      refine exl_nilT ?_;
      refine ex_cond rfl (fun h => ?_) (fun h => ?_) <;> ((first | (subst h; rename BV _ true => h0; have h := h0.eq; clear h0) | (subst h; rename BV _ false => h0; have h := h0.eq; clear h0) | skip); (have hp := h; try simp only [decide_eq_true_eq, decide_eq_false_iff_not, Bool.not_eq_true', Bool.not_eq_false', bne_iff_ne, beq_iff_eq, beq_eq_false_iff_ne, bne_eq_false_iff_eq, Int.not_lt, Int.not_le] at hp); (try (exfalso; first | omega | (cases hp; done))));
      refine ex_seq ?_;
      refine ex_region ?_;
      apply exl_is; rfl; rfl; rfl; (apply g_assign; rfl);
      refine exl_nilT ?_;
      refine ex_ret ?_;
      simp only [thenA, blockA, roundA, noGotoA, retA, ↓reduceIte, Nat.reduceEqDiff];
      rotate_left;
      refine ex_skip ?_;
      refine ex_seq ?_;
      refine ex_seq ?_;
      refine ex_region ?_;
      apply exl_is; rfl; rfl; rfl; (apply g_fieldAddr; rfl; rfl; rfl);
      apply exl_is; rfl; rfl; rfl; (apply g_load1; rfl; rfl; (exact .p (by ((repeat (first | exact List.Mem.head _ | assumption | refine List.Mem.tail _ ?_)); done)) rfl));
      apply exl_isB; rfl; rfl; rfl; (apply g_binInt; rfl; rfl; rfl); intro _ _;
      refine exl_nilT ?_;
      refine ex_cond rfl (fun h => ?_) (fun h => ?_) <;> ((first | (subst h; rename BV _ true => h0; have h := h0.eq; clear h0) | (subst h; rename BV _ false => h0; have h := h0.eq; clear h0) | skip); (have hp := h; try simp only [decide_eq_true_eq, decide_eq_false_iff_not, Bool.not_eq_true', Bool.not_eq_false', bne_iff_ne, beq_iff_eq, beq_eq_false_iff_ne, bne_eq_false_iff_eq, Int.not_lt, Int.not_le] at hp); (try (exfalso; first | omega | (cases hp; done))));
      refine ex_skip ?_;
      refine ex_seq ?_;
      refine ex_seq ?_;
      refine ex_region ?_;
      apply exl_is; rfl; rfl; rfl; (apply g_fieldAddr; rfl; rfl; rfl);
      apply exl_is; rfl; rfl; rfl; (apply g_load1; rfl; rfl; (exact .p (by ((repeat (first | exact List.Mem.head _ | assumption | refine List.Mem.tail _ ?_)); done)) rfl));
      apply exl_is; rfl; rfl; rfl; (apply g_fieldAddr; rfl; rfl; rfl);
      apply exl_is; rfl; rfl; rfl; (apply g_load1; rfl; rfl; (exact .p (by ((repeat (first | exact List.Mem.head _ | assumption | refine List.Mem.tail _ ?_)); done)) rfl));
      apply exl_isB; rfl; rfl; rfl; (exact g_call rfl rfl (enters_b (by kernel_rfl)) (has_c SL x.lit _)); intro _ _;
      refine exl_nilT ?_;
      refine ex_cond rfl (fun h => ?_) (fun h => ?_) <;> ((first | (subst h; rename BV _ true => h0; have h := h0.eq; clear h0) | (subst h; rename BV _ false => h0; have h := h0.eq; clear h0) | skip); (have hp := h; try simp only [decide_eq_true_eq, decide_eq_false_iff_not, Bool.not_eq_true', Bool.not_eq_false', bne_iff_ne, beq_iff_eq, beq_eq_false_iff_ne, bne_eq_false_iff_eq, Int.not_lt, Int.not_le] at hp); (try (exfalso; first | omega | (cases hp; done))));
      refine ex_seq ?_;
      refine ex_region ?_;
      apply exl_is; rfl; rfl; rfl; (apply g_assign; rfl);
      refine exl_nilT ?_;
      refine ex_ret ?_;
      simp only [thenA, blockA, roundA, noGotoA, retA, ↓reduceIte, Nat.reduceEqDiff];
      rotate_left;
      refine ex_skip ?_;
      refine ex_seq ?_;
      refine ex_region ?_;
      apply exl_is; rfl; rfl; rfl; (apply g_fieldAddr; rfl; rfl; rfl);
      apply exl_is; rfl; rfl; rfl; (apply g_load1; rfl; rfl; (exact .p (by ((repeat (first | exact List.Mem.head _ | assumption | refine List.Mem.tail _ ?_)); done)) rfl));
      apply exl_isB; rfl; rfl; rfl; (apply g_binInt; rfl; rfl; rfl); intro _ _;
      apply exl_is; rfl; rfl; rfl; (apply g_move; rfl);
      refine exl_caseL rfl (fun h => ?_) (fun h => ?_) <;> ((first | (subst h; rename BV _ true => h0; have h := h0.eq; clear h0) | (subst h; rename BV _ false => h0; have h := h0.eq; clear h0) | skip); (have hp := h; try simp only [decide_eq_true_eq, decide_eq_false_iff_not, Bool.not_eq_true', Bool.not_eq_false', bne_iff_ne, beq_iff_eq, beq_eq_false_iff_ne, bne_eq_false_iff_eq, Int.not_lt, Int.not_le] at hp); (try (exfalso; first | omega | (cases hp; done))));
      refine exl_skipL rfl (by rfl) rfl rfl ?_;
      refine exl_skipL rfl (by rfl) rfl rfl ?_;
      refine exl_skipL rfl (by rfl) rfl rfl ?_;
      refine exl_skipL rfl (by rfl) rfl rfl ?_;
      refine exl_skipL rfl (by rfl) rfl rfl ?_;
      apply exl_is; rfl; rfl; rfl; (apply g_pick_f; rfl; (rfl); rfl);
      apply exl_is; rfl; rfl; rfl; (apply g_assign; rfl);
      refine exl_nilT ?_;
      refine ex_ret ?_;
      simp only [thenA, blockA, roundA, noGotoA, retA, ↓reduceIte, Nat.reduceEqDiff];
      rotate_left
      (all_goals (repeat (rename BV _ _ => hbv; cases hbv)))
      all_goals (try (exfalso; first | (rename true = false => hx; cases hx; done) | (rename false = true => hx; cases hx; done)))
      all_goals
        refine ret_is .nil (.cons (.ofTmp rfl) .nil) (by repeat (first | exact List.Sublist.refl _ | apply List.Sublist.cons_cons | apply List.Sublist.cons)) (bool_eq ?_)
        rw [hF]
        clear hF
        simp only [*]
        try simp
        try omega
  · have hb1 : litB x.lit = false := by simpa using hb
    rw [hb1] at hlt
    refine ex_seq ?_;
    refine ex_region ?_;
    refine exl_box rfl rfl rfl (g_box rfl rfl) ?_; intro _;
    refine exl_box rfl rfl rfl (g_box rfl rfl) ?_; intro _;
    refine exl_box rfl rfl rfl (g_box rfl rfl) ?_; intro _;
    apply exl_is; rfl; rfl; rfl; (apply g_assign; rfl);
    refine exl_nilT ?_;
    refine ex_seq ?_;
    refine ex_seq ?_;
    refine ex_region ?_;
    apply exl_is; rfl; rfl; rfl; (apply g_fieldAddr; rfl; rfl; rfl);
    apply exl_is; rfl; rfl; rfl; (apply g_load1; rfl; rfl; (exact .p (by ((repeat (first | exact List.Mem.head _ | assumption | refine List.Mem.tail _ ?_)); done)) rfl));
    apply exl_isB; rfl; rfl; rfl; (exact g_call rfl rfl (enters_b (by kernel_rfl)) (hlt _)); intro _ _;
    apply exl_isB; rfl; rfl; rfl; (apply g_not; rfl); intro _ _;
    apply exl_is; rfl; rfl; rfl; (apply g_move; rfl);
    refine exl_caseL rfl (fun h => ?_) (fun h => ?_) <;> ((first | (subst h; rename BV _ true => h0; have h := h0.eq; clear h0) | (subst h; rename BV _ false => h0; have h := h0.eq; clear h0) | skip); (have hp := h; try simp only [decide_eq_true_eq, decide_eq_false_iff_not, Bool.not_eq_true', Bool.not_eq_false', bne_iff_ne, beq_iff_eq, beq_eq_false_iff_ne, bne_eq_false_iff_eq, Int.not_lt, Int.not_le] at hp); (try (exfalso; first | omega | (cases hp; done))));
    refine exl_skipL rfl (by rfl) rfl rfl ?_;
    refine exl_skipL rfl (by rfl) rfl rfl ?_;
    refine exl_skipL rfl (by rfl) rfl rfl ?_;
    refine exl_skipL rfl (by rfl) rfl rfl ?_;
    refine exl_skipL rfl (by rfl) rfl rfl ?_;
    apply exl_is; rfl; rfl; rfl; (apply g_pick_t; rfl; (rfl); rfl);
    apply exl_is; rfl; rfl; rfl; (apply g_move; rfl);
    refine exl_skipL rfl (by rfl) rfl rfl ?_;
    refine exl_skipL rfl (by rfl) rfl rfl ?_;
    refine exl_skipL rfl (by rfl) rfl rfl ?_;
    refine exl_skipL rfl (by rfl) rfl rfl ?_;
    refine exl_skipL rfl (by rfl) rfl rfl ?_;
    apply exl_is; rfl; rfl; rfl; (apply g_pick_t; rfl; (rfl); rfl);
    refine exl_nilT ?_;
    refine ex_cond_t rfl (by rfl) ?_;
    refine ex_seq ?_;
    refine ex_region ?_;
    apply exl_is; rfl; rfl; rfl; (apply g_assign; rfl);
    refine exl_nilT ?_;
    refine ex_ret ?_;
    simp only [thenA, blockA, roundA, noGotoA, retA, ↓reduceIte, Nat.reduceEqDiff];
    rotate_left;
    apply exl_isW; rfl; (rfl); rfl; rfl; (apply g_fieldAddr; rfl; rfl; rfl);
    apply exl_isW; rfl; (rfl); rfl; rfl; (apply g_load1; rfl; rfl; (exact .p (by ((repeat (first | exact List.Mem.head _ | assumption | refine List.Mem.tail _ ?_)); done)) rfl));
    apply exl_isW; rfl; (rfl); rfl; rfl; (apply g_fieldAddr; rfl; rfl; rfl);
    apply exl_isW; rfl; (rfl); rfl; rfl; (apply g_load1; rfl; rfl; (exact .p (by ((repeat (first | exact List.Mem.head _ | assumption | refine List.Mem.tail _ ?_)); done)) rfl));
    rotate_left
    (all_goals (repeat (rename BV _ _ => hbv; cases hbv)))
    all_goals (try (exfalso; first | (rename true = false => hx; cases hx; done) | (rename false = true => hx; cases hx; done)))
    all_goals
      refine ret_is .nil (.cons (.ofTmp rfl) .nil) (by repeat (first | exact List.Sublist.refl _ | apply List.Sublist.cons_cons | apply List.Sublist.cons)) (bool_eq ?_)
      unfold followsB
      simp [*]
theorem refFollowsV_c (x : Rs) (hp0 : p.clauses.length ≤ 64) (hS : ∀ q, SL.contains q = S q) (hK : KR K P R) (h1 : Ent.row vp 3 1 (P.map intC) ∈ σ) (h2 : Ent.row vr 3 1 (R.map intC) ∈ σ) :
    SCall Try.prog 31 [.agg (plC p), .agg (stV SL vp vr), .agg (rsC x)] σ (Is (.bool (followsB p S K x)) σ) :=
  scall_lend (.step h1 (.same (.agg (.same (.here (.same .nil))) (.same .nil))) (.step h2 (.same (.agg (.same (.same (.here .nil))) (.same .nil))) .refl)) rfl (refFollows_c x hp0 hS hK)
theorem refAdd1_c (x : Rs) (hK : KR K P R) (h0 : K x.lit = 0) (hP : P.length ≤ 1000) (hR : R.length ≤ 1000) :
    SCall Try.prog 32 [.agg (stV SL vp vr), rss [x]] (.row vp 3 1 (P.map intC) :: .row vr 3 1 (R.map intC) :: σ) (fun r τ => ∃ vp' vr' P' R', r = .agg (stV SL vp' vr') ∧ τ = .row vp' 3 1 (P'.map intC) :: .row vr' 3 1 (R'.map intC) :: σ ∧ KR (learnK K x.lit x.proved) P' R' ∧ P'.length ≤ P.length + 1 ∧ R'.length ≤ R.length + 1) :=
  refAdd_c [x] hK (by simp) (fun y hy => by rw [List.mem_singleton] at hy; subst hy; exact h0) (by simp; omega) (by simp; omega)
theorem follows_fresh {x : Rs} (h : followsB p S K x = true) : K x.lit = 0 := by
  unfold followsB at h
  split at h
  · cases h
  · rename_i h0
    simp only [Bool.or_eq_true, not_or] at h0
    simpa using h0.1.1.2
set_option maxHeartbeats 4000000 in
set_option maxRecDepth 10000 in
theorem refAccepts_c (p : Pl) (l : List Rs) (hl0 : l.length ≤ 100) (σ : List Ent) : SCall Try.prog 14 [.agg (plC p), rss l] σ (Is (.tup [.bool (acceptsB lits p l).1, .int .i64 (acceptsB lits p l).2]) σ) := by
  refine scall_of Try.func14 rfl (by simp) ?_
  by_cases hc : checkB lits p = 0
  · have hcc := refCheck_c p
    rw [hc] at hcc
    obtain ⟨hf0, hp0⟩ := checkB_ok hc
    have e : acceptsB lits p l = (acceptsFrom p (strictOf p).contains (fun _ => 0) l, 0) := by unfold acceptsB; simp [hc]
    rw [e]
    clear e hc
    have hst := refStrict_c p hf0 hp0
    obtain ⟨S, hS⟩ : ∃ S, (strictOf p).contains = S := ⟨_, rfl⟩
    have hst2 : ∀ σ, SCall Try.prog 30 [.agg (plC p)] σ (fun r τ => τ = σ ∧ ∃ l : List Int, r = ints l ∧ l.length ≤ 128 ∧ ∀ q, l.contains q = S q) := fun σ => (hst σ).mono fun r τ h => ⟨h.1, h.2.choose, h.2.choose_spec.1, h.2.choose_spec.2.1, fun q => by rw [h.2.choose_spec.2.2 q, hS]⟩
    rw [hS]
    clear hst hS
    refine ex_nilRow 3 1 ?_
    refine ex_nilRow 3 1 ?_
    refine ex_seq ?_;
    refine ex_region ?_;
    refine exl_box rfl rfl rfl (g_box rfl rfl) ?_; intro _;
    apply exl_is; rfl; rfl; rfl; (apply g_assign; rfl);
    apply exl_is; rfl; rfl; rfl; (apply g_assign; rfl);
    refine exl_nilT ?_;
    refine ex_seq ?_;
    refine ex_region ?_;
    apply exl_is; rfl; rfl; rfl; (apply g_loadAgg; rfl; decide; rfl; (exact .p (by ((repeat (first | exact List.Mem.head _ | assumption | refine List.Mem.tail _ ?_)); done)) rfl rfl));
    apply exl_is; rfl; rfl; rfl; (exact g_call rfl rfl (enters_b (by kernel_rfl)) (hcc _));
    apply exl_is; rfl; rfl; rfl; (apply g_assign; rfl);
    refine exl_nilT ?_;
    refine ex_seq ?_;
    refine ex_seq ?_;
    refine ex_region ?_;
    apply exl_is; rfl; rfl; rfl; (apply g_move; rfl);
    apply exl_isB; rfl; rfl; rfl; (apply g_binInt; rfl; rfl; rfl); intro _ _;
    refine exl_nilT ?_;
    refine ex_cond rfl (fun h => ?_) (fun h => ?_) <;> ((first | (subst h; rename BV _ true => h0; have h := h0.eq; clear h0) | (subst h; rename BV _ false => h0; have h := h0.eq; clear h0) | skip); (have hp := h; try simp only [decide_eq_true_eq, decide_eq_false_iff_not, Bool.not_eq_true', Bool.not_eq_false', bne_iff_ne, beq_iff_eq, beq_eq_false_iff_ne, bne_eq_false_iff_eq, Int.not_lt, Int.not_le] at hp); (try (exfalso; first | omega | (cases hp; done))));
    refine ex_skip ?_;
    refine ex_seq ?_;
    refine ex_region ?_;
    apply exl_is; rfl; rfl; rfl; (apply g_loadAgg; rfl; decide; rfl; (exact .p (by ((repeat (first | exact List.Mem.head _ | assumption | refine List.Mem.tail _ ?_)); done)) rfl rfl));
    refine exl_call rfl rfl rfl (g_call rfl rfl (enters_b (by kernel_rfl)) (hst2 _)) ?_; rintro _ _ ⟨rfl, sl, rfl, hsl, hsc⟩;
    apply exl_is; rfl; rfl; rfl; (apply g_build; rfl; rfl; rfl; rfl);
    refine exl_box rfl rfl rfl (g_alloc rfl) ?_; intro _;
    apply exl_do; rfl; rfl; (apply g_store'; rfl; rfl; rfl; (exact Upd.here); (simp only [setL, List.set_cons_zero, List.set_cons_succ, AV.cells]; rfl); rfl; rfl; rfl; exact Nat.le_of_ble_eq_true rfl);
    refine exl_nilT ?_;
    refine ex_seq ?_;
    refine ex_seq ?_;
    refine ex_region ?_;
    apply exl_is; rfl; rfl; rfl; (apply g_assign; rfl);
    refine exl_nilT ?_;
    refine ex_block ?_;
    simp only [thenA, blockA, roundA, noGotoA, retA, ↓reduceIte, Nat.reduceEqDiff];
    rotate_left
    (all_goals (repeat (rename BV _ _ => hbv; cases hbv)))
    all_goals (try (exfalso; first | (rename true = false => hx; cases hx; done) | (rename false = true => hx; cases hx; done)))
    rename_i bp bs
    clear hst2 hcc
    refine ex_len (t := 1) rfl ((List.length_map _).symm) (fun hll => ?_)
    refine ex_loop (fun (z : Nat × List Int × List Int × Value × Value) => (⟨[(1, rss l), (2, .ptr bp 0), (7, .ptr bs 0), (8, .int .i64 z.1)], .cells bs (stV sl z.2.2.2.1 z.2.2.2.2) 59 :: .cells bp (plC p) 25 :: .row z.2.2.2.1 3 1 (z.2.1.map intC) :: .row z.2.2.2.2 3 1 (z.2.2.1.map intC) :: σ, [], Try.f14.ntmps⟩ : St)) (fun z => z.1 ≤ l.length ∧ KR (learnAll (fun _ => 0) (l.take z.1)) z.2.1 z.2.2.1 ∧ (z.2.1.length ≤ z.1 ∧ z.2.2.1.length ≤ z.1) ∧ acceptsFrom p S (fun _ => 0) l = acceptsFrom p S (learnAll (fun _ => 0) (l.take z.1)) (l.drop z.1)) (fun z => l.length - z.1) (0, [], [], nilS, nilS) (⟨Nat.zero_le _, .nil, ⟨Nat.zero_le _, Nat.zero_le _⟩, rfl⟩) (St.le_of (by repeat (first | exact trivial | refine ⟨rfl, ?_⟩)) (by repeat (first | exact List.Sublist.refl _ | apply List.Sublist.cons_cons | apply List.Sublist.cons))) ?_
    intro z hI
    obtain ⟨i, P, R, vp, vr⟩ := z
    obtain ⟨hI1, hI2, ⟨hI3, hI4⟩, hI5⟩ := hI
    dsimp only at hI1 hI2 hI3 hI4 hI5 ⊢
    by_cases hi : i < l.length
    · obtain ⟨x, hx⟩ : ∃ x, l[i]? = some x := ⟨_, List.getElem?_eq_getElem hi⟩
      have hstep := learn_take (K := fun _ => 0) hx
      obtain ⟨K, hK⟩ : ∃ K, learnAll (fun _ => 0) (l.take i) = K := ⟨_, rfl⟩
      rw [hK] at hI2 hstep hI5
      rw [accepts_step hx] at hI5
      have hfo := fun σ h1 h2 => refFollowsV_c (p := p) (SL := sl) (P := P) (R := R) (S := S) (K := K) (vp := vp) (vr := vr) (σ := σ) x hp0 hsc hI2 h1 h2
      have hadd := fun h0 σ => refAdd1_c (SL := sl) (P := P) (R := R) (K := K) (vp := vp) (vr := vr) (σ := σ) x hI2 h0 (by omega) (by omega)
      have hsub : (l.take (i + 1)).drop i = [x] := by rw [List.drop_take, drop_get hx, Nat.add_sub_cancel_left]; rfl
      cases hf : followsB p S K x with
      | false =>
        rw [hf] at hfo hI5
        clear hadd
        refine ex_seq ?_;
        refine ex_seq ?_;
        refine ex_region ?_;
        apply exl_is; rfl; rfl; rfl; (apply g_move; rfl);
        apply exl_is; rfl; rfl; rfl; (apply g_move; rfl);
        apply exl_is; rfl; rfl; rfl; (apply g_len; rfl; rfl; (exact (List.length_map _).symm));
        apply exl_isB; rfl; rfl; rfl; (apply g_binInt; rfl; rfl; rfl); intro _ _;
        refine exl_nilT ?_;
        refine ex_cond rfl (fun h => ?_) (fun h => ?_) <;> ((first | (subst h; rename BV _ true => h0; have h := h0.eq; clear h0) | (subst h; rename BV _ false => h0; have h := h0.eq; clear h0) | skip); (have hp := h; try simp only [decide_eq_true_eq, decide_eq_false_iff_not, Bool.not_eq_true', Bool.not_eq_false', bne_iff_ne, beq_iff_eq, beq_eq_false_iff_ne, bne_eq_false_iff_eq, Int.not_lt, Int.not_le] at hp); (try (exfalso; first | omega | (cases hp; done))));
        refine ex_skip ?_;
        refine ex_seq ?_;
        refine ex_block ?_;
        refine ex_seq ?_;
        refine ex_seq ?_;
        refine ex_drawC rfl rfl (by kernel_rfl) rfl ?_; refine ex_drawQ rfl (by kernel_rfl) rfl ?_;
        apply wl_is; rfl; rfl; rfl; (intro σ' hl; (apply g_loadAgg; rfl; decide; rfl; (exact .p (hl _ (True.intro) (by ((repeat (first | exact List.Mem.head _ | assumption | refine List.Mem.tail _ ?_)); done))) rfl rfl)));
        apply wl_is; rfl; rfl; rfl; (intro σ' hl; (apply g_loadAgg; rfl; decide; rfl; (exact .p (hl _ (True.intro) (by ((repeat (first | exact List.Mem.head _ | assumption | refine List.Mem.tail _ ?_)); done))) rfl rfl)));
        apply wl_is; rfl; rfl; rfl; (intro σ' hl; (apply g_move; rfl));
        apply wl_is; rfl; rfl; rfl; (intro σ' hl; (apply g_move; rfl));
        apply wl_is; rfl; rfl; rfl; (intro σ' hl; (apply g_indexDl; rfl; rfl; rfl; (rfl); (exact get_map (by assumption))));
        apply wl_is; rfl; rfl; rfl; (intro σ' hl; (apply g_loadAgg; rfl; decide; rfl; (exact .e rfl rfl)));
        apply wl_isB; rfl; rfl; rfl; (intro σ' hl; (exact g_call rfl rfl (enters_b (by kernel_rfl)) (hfo _ (hl _ (True.intro) (by ((repeat (first | exact List.Mem.head _ | assumption | refine List.Mem.tail _ ?_)); done))) (hl _ (True.intro) (by ((repeat (first | exact List.Mem.head _ | assumption | refine List.Mem.tail _ ?_)); done)))))); intro _ _;
        apply wl_isB; rfl; rfl; rfl; (intro σ' hl; (apply g_not; rfl)); intro _ _;
        refine wl_nil ?_; show EX _ _ _ _ _;
        refine ex_cond rfl (fun h => ?_) (fun h => ?_) <;> ((first | (subst h; rename BV _ true => h0; have h := h0.eq; clear h0) | (subst h; rename BV _ false => h0; have h := h0.eq; clear h0) | skip); (have hp := h; try simp only [decide_eq_true_eq, decide_eq_false_iff_not, Bool.not_eq_true', Bool.not_eq_false', bne_iff_ne, beq_iff_eq, beq_eq_false_iff_ne, bne_eq_false_iff_eq, Int.not_lt, Int.not_le] at hp); (try (exfalso; first | omega | (cases hp; done))));
        refine ex_seq ?_;
        refine ex_region ?_;
        apply exl_is; rfl; rfl; rfl; (apply g_assign; rfl);
        apply exl_is; rfl; rfl; rfl; (apply g_assign; rfl);
        refine exl_nilT ?_;
        refine ex_ret ?_;
        simp only [thenA, blockA, roundA, noGotoA, retA, ↓reduceIte, Nat.reduceEqDiff];
        rotate_left;
        refine ex_skip ?_;
        refine ex_drawT rfl rfl (by kernel_rfl) rfl ?_; simp only [List.length_cons, List.length_nil, Nat.reduceAdd, Nat.reduceSub, List.take_succ_cons, List.take_zero, List.drop_succ_cons, List.drop_zero];
        apply wl_is; rfl; rfl; rfl; (intro σ' hl; (apply g_loadAgg; rfl; decide; rfl; (exact .p (hl _ (True.intro) (by ((repeat (first | exact List.Mem.head _ | assumption | refine List.Mem.tail _ ?_)); done))) rfl rfl)));
        apply wl_is; rfl; rfl; rfl; (intro σ' hl; (apply g_move; rfl));
        apply wl_is; rfl; rfl; rfl; (intro σ' hl; (apply g_move; rfl));
        apply wl_is; rfl; rfl; rfl; (intro σ' hl; (apply g_move; rfl));
        apply wl_is; rfl; rfl; rfl; (intro σ' hl; (apply g_add; rfl; rfl; rfl; exact ⟨by omega, by omega⟩));
        apply wl_is; rfl; rfl; rfl; (intro σ' hl; (apply g_sliceMap; rfl; rfl; rfl; rfl; (rfl); (rfl); omega));
        simp only [thenA, blockA, roundA, noGotoA, retA, ↓reduceIte, Nat.reduceEqDiff];
        rotate_left
        (all_goals (repeat (rename BV _ _ => hbv; cases hbv)))
        all_goals (try (exfalso; first | (rename true = false => hx; cases hx; done) | (rename false = true => hx; cases hx; done)))
        rw [hI5]
        refine ret_is .nil (.cons (.ofTmp rfl) (.cons (.ofTmp rfl) .nil)) (by repeat (first | exact List.Sublist.refl _ | apply List.Sublist.cons_cons | apply List.Sublist.cons)) ?_
        rfl
      | true =>
        have hadd := hadd (follows_fresh hf)
        rw [hf] at hfo hI5
        rw [Bool.true_and, ← hstep] at hI5
        have hi1 : (i : Int) + 1 = ((i + 1 : Nat) : Int) := by omega
        rw [← hsub] at hadd
        refine ex_seq ?_;
        refine ex_seq ?_;
        refine ex_region ?_;
        apply exl_is; rfl; rfl; rfl; (apply g_move; rfl);
        apply exl_is; rfl; rfl; rfl; (apply g_move; rfl);
        apply exl_is; rfl; rfl; rfl; (apply g_len; rfl; rfl; (exact (List.length_map _).symm));
        apply exl_isB; rfl; rfl; rfl; (apply g_binInt; rfl; rfl; rfl); intro _ _;
        refine exl_nilT ?_;
        refine ex_cond rfl (fun h => ?_) (fun h => ?_) <;> ((first | (subst h; rename BV _ true => h0; have h := h0.eq; clear h0) | (subst h; rename BV _ false => h0; have h := h0.eq; clear h0) | skip); (have hp := h; try simp only [decide_eq_true_eq, decide_eq_false_iff_not, Bool.not_eq_true', Bool.not_eq_false', bne_iff_ne, beq_iff_eq, beq_eq_false_iff_ne, bne_eq_false_iff_eq, Int.not_lt, Int.not_le] at hp); (try (exfalso; first | omega | (cases hp; done))));
        refine ex_skip ?_;
        refine ex_seq ?_;
        refine ex_block ?_;
        refine ex_seq ?_;
        refine ex_seq ?_;
        refine ex_drawC rfl rfl (by kernel_rfl) rfl ?_; refine ex_drawQ rfl (by kernel_rfl) rfl ?_;
        apply wl_is; rfl; rfl; rfl; (intro σ' hl; (apply g_loadAgg; rfl; decide; rfl; (exact .p (hl _ (True.intro) (by ((repeat (first | exact List.Mem.head _ | assumption | refine List.Mem.tail _ ?_)); done))) rfl rfl)));
        apply wl_is; rfl; rfl; rfl; (intro σ' hl; (apply g_loadAgg; rfl; decide; rfl; (exact .p (hl _ (True.intro) (by ((repeat (first | exact List.Mem.head _ | assumption | refine List.Mem.tail _ ?_)); done))) rfl rfl)));
        apply wl_is; rfl; rfl; rfl; (intro σ' hl; (apply g_move; rfl));
        apply wl_is; rfl; rfl; rfl; (intro σ' hl; (apply g_move; rfl));
        apply wl_is; rfl; rfl; rfl; (intro σ' hl; (apply g_indexDl; rfl; rfl; rfl; (rfl); (exact get_map (by assumption))));
        apply wl_is; rfl; rfl; rfl; (intro σ' hl; (apply g_loadAgg; rfl; decide; rfl; (exact .e rfl rfl)));
        apply wl_isB; rfl; rfl; rfl; (intro σ' hl; (exact g_call rfl rfl (enters_b (by kernel_rfl)) (hfo _ (hl _ (True.intro) (by ((repeat (first | exact List.Mem.head _ | assumption | refine List.Mem.tail _ ?_)); done))) (hl _ (True.intro) (by ((repeat (first | exact List.Mem.head _ | assumption | refine List.Mem.tail _ ?_)); done)))))); intro _ _;
        apply wl_isB; rfl; rfl; rfl; (intro σ' hl; (apply g_not; rfl)); intro _ _;
        refine wl_nil ?_; show EX _ _ _ _ _;
        refine ex_cond rfl (fun h => ?_) (fun h => ?_) <;> ((first | (subst h; rename BV _ true => h0; have h := h0.eq; clear h0) | (subst h; rename BV _ false => h0; have h := h0.eq; clear h0) | skip); (have hp := h; try simp only [decide_eq_true_eq, decide_eq_false_iff_not, Bool.not_eq_true', Bool.not_eq_false', bne_iff_ne, beq_iff_eq, beq_eq_false_iff_ne, bne_eq_false_iff_eq, Int.not_lt, Int.not_le] at hp); (try (exfalso; first | omega | (cases hp; done))));
        refine ex_seq ?_;
        refine ex_region ?_;
        apply exl_is; rfl; rfl; rfl; (apply g_assign; rfl);
        apply exl_is; rfl; rfl; rfl; (apply g_assign; rfl);
        refine exl_nilT ?_;
        refine ex_ret ?_;
        simp only [thenA, blockA, roundA, noGotoA, retA, ↓reduceIte, Nat.reduceEqDiff];
        rotate_left;
        refine ex_skip ?_;
        simp only [thenA, blockA, roundA, noGotoA, retA, ↓reduceIte, Nat.reduceEqDiff];
        rotate_left
        (all_goals (repeat (rename BV _ _ => hbv; cases hbv)))
        all_goals (try (exfalso; first | (rename true = false => hx; cases hx; done) | (rename false = true => hx; cases hx; done)))
        refine ex_drawLK (fun e => e = .cells bs (stV sl vp vr) 59) 7 [6] rfl (by kernel_rfl) rfl ?_
        simp only [List.take_succ_cons, List.take_zero, List.drop_succ_cons, List.drop_zero]
        apply wl_is; rfl; rfl; rfl; (intro σ' hl; (apply g_loadAgg; rfl; decide; rfl; (exact .p (hl _ (by rfl) (by ((repeat (first | exact List.Mem.head _ | assumption | refine List.Mem.tail _ ?_)); done))) rfl rfl)));
        apply wl_is; rfl; rfl; rfl; (intro σ' hl; (apply g_move; rfl));
        apply wl_is; rfl; rfl; rfl; (intro σ' hl; (apply g_move; rfl));
        apply wl_is; rfl; rfl; rfl; (intro σ' hl; (apply g_move; rfl));
        apply wl_is; rfl; rfl; rfl; (intro σ' hl; (apply g_add; rfl; rfl; rfl; exact ⟨by omega, by omega⟩));
        apply wl_is; rfl; rfl; rfl; (intro σ' hl; (apply g_sliceMap; rfl; rfl; rfl; rfl; (rfl); (rfl); omega));
        refine wl_eff rfl rfl rfl (g_call rfl rfl (enters_b (by kernel_rfl)) (SCall.front [_, _] (hadd _))) ?_; rintro _ _ ⟨_, rfl, vp', vr', P', R', rfl, rfl, hkr, hPl, hRl⟩; refine ⟨(by rintro _ rfl _; exact (by ((repeat (first | exact List.Mem.head _ | assumption | refine List.Mem.tail _ ?_)); done))), ?_⟩;
        refine wl_nil ?_;
        apply exl_do; rfl; rfl; (apply g_store'; rfl; rfl; rfl; (exact Upd.here); (simp only [setL, List.set_cons_zero, List.set_cons_succ, AV.cells]; rfl); rfl; rfl; rfl; exact Nat.le_of_ble_eq_true rfl);
        refine exl_nil ?_;
        refine ex_region ?_;
        apply exl_is; rfl; rfl; rfl; (apply g_move; rfl);
        apply exl_is; rfl; rfl; rfl; (apply g_add; rfl; rfl; rfl; exact ⟨by omega, by omega⟩);
        apply exl_is; rfl; rfl; rfl; (apply g_assign; rfl);
        refine exl_nil ?_;
        simp only [thenA, blockA, roundA, noGotoA, retA, ↓reduceIte, Nat.reduceEqDiff];
        rotate_left
        (all_goals (repeat (rename BV _ _ => hbv; cases hbv)))
        all_goals (try (exfalso; first | (rename true = false => hx; cases hx; done) | (rename false = true => hx; cases hx; done)))
        rw [← hstep] at hkr
        refine ⟨(i + 1, P', R', vp', vr'), ⟨hi, hkr, ⟨by dsimp only; omega, by dsimp only; omega⟩, hI5⟩, by dsimp only; omega, (St.le_of (by repeat (first | exact trivial | refine ⟨rfl, ?_⟩)) (by repeat (first | exact List.Sublist.refl _ | apply List.Sublist.cons_cons | apply List.Sublist.cons)))⟩
    · rw [List.drop_of_length_le (by omega)] at hI5
      rw [hI5]
      refine ex_seq ?_;
      refine ex_seq ?_;
      refine ex_region ?_;
      apply exl_is; rfl; rfl; rfl; (apply g_move; rfl);
      apply exl_is; rfl; rfl; rfl; (apply g_move; rfl);
      apply exl_is; rfl; rfl; rfl; (apply g_len; rfl; rfl; (exact (List.length_map _).symm));
      apply exl_isB; rfl; rfl; rfl; (apply g_binInt; rfl; rfl; rfl); intro _ _;
      refine exl_nilT ?_;
      refine ex_cond rfl (fun h => ?_) (fun h => ?_) <;> ((first | (subst h; rename BV _ true => h0; have h := h0.eq; clear h0) | (subst h; rename BV _ false => h0; have h := h0.eq; clear h0) | skip); (have hp := h; try simp only [decide_eq_true_eq, decide_eq_false_iff_not, Bool.not_eq_true', Bool.not_eq_false', bne_iff_ne, beq_iff_eq, beq_eq_false_iff_ne, bne_eq_false_iff_eq, Int.not_lt, Int.not_le] at hp); (try (exfalso; first | omega | (cases hp; done))));
      refine ex_exit ?_;
      refine ex_seq ?_;
      refine ex_region ?_;
      apply exl_is; rfl; rfl; rfl; (apply g_assign; rfl);
      apply exl_is; rfl; rfl; rfl; (apply g_assign; rfl);
      refine exl_nilT ?_;
      refine ex_ret ?_;
      simp only [thenA, blockA, roundA, noGotoA, retA, ↓reduceIte, Nat.reduceEqDiff];
      rotate_left
      (all_goals (repeat (rename BV _ _ => hbv; cases hbv)))
      all_goals (try (exfalso; first | (rename true = false => hx; cases hx; done) | (rename false = true => hx; cases hx; done)))
      refine ret_is .nil (.cons (.ofTmp rfl) (.cons (.ofTmp rfl) .nil)) (by repeat (first | exact List.Sublist.refl _ | apply List.Sublist.cons_cons | apply List.Sublist.cons)) ?_
      rfl
  · have e : acceptsB lits p l = (false, checkB lits p) := by unfold acceptsB; simp [hc]
    rw [e]
    refine ex_seq ?_;
    refine ex_region ?_;
    refine exl_box rfl rfl rfl (g_box rfl rfl) ?_; intro _;
    apply exl_is; rfl; rfl; rfl; (apply g_assign; rfl);
    apply exl_is; rfl; rfl; rfl; (apply g_assign; rfl);
    refine exl_nilT ?_;
    refine ex_seq ?_;
    refine ex_region ?_;
    apply exl_is; rfl; rfl; rfl; (apply g_loadAgg; rfl; decide; rfl; (exact .p (by ((repeat (first | exact List.Mem.head _ | assumption | refine List.Mem.tail _ ?_)); done)) rfl rfl));
    apply exl_is; rfl; rfl; rfl; (exact g_call rfl rfl (enters_b (by kernel_rfl)) (refCheck_c p _));
    apply exl_is; rfl; rfl; rfl; (apply g_assign; rfl);
    refine exl_nilT ?_;
    refine ex_seq ?_;
    refine ex_seq ?_;
    refine ex_region ?_;
    apply exl_is; rfl; rfl; rfl; (apply g_move; rfl);
    apply exl_isB; rfl; rfl; rfl; (apply g_binInt; rfl; rfl; rfl); intro _ _;
    refine exl_nilT ?_;
    refine ex_cond rfl (fun h => ?_) (fun h => ?_) <;> ((first | (subst h; rename BV _ true => h0; have h := h0.eq; clear h0) | (subst h; rename BV _ false => h0; have h := h0.eq; clear h0) | skip); (have hp := h; try simp only [decide_eq_true_eq, decide_eq_false_iff_not, Bool.not_eq_true', Bool.not_eq_false', bne_iff_ne, beq_iff_eq, beq_eq_false_iff_ne, bne_eq_false_iff_eq, Int.not_lt, Int.not_le] at hp); (try (exfalso; first | omega | (cases hp; done))));
    refine ex_seq ?_;
    refine ex_region ?_;
    apply exl_is; rfl; rfl; rfl; (apply g_move; rfl);
    apply exl_is; rfl; rfl; rfl; (apply g_assign; rfl);
    apply exl_is; rfl; rfl; rfl; (apply g_assign; rfl);
    refine exl_nilT ?_;
    refine ex_ret ?_;
    simp only [thenA, blockA, roundA, noGotoA, retA, ↓reduceIte, Nat.reduceEqDiff];
    rotate_left
    (all_goals (repeat (rename BV _ _ => hbv; cases hbv)))
    all_goals (try (exfalso; first | (rename true = false => hx; cases hx; done) | (rename false = true => hx; cases hx; done)))
    refine ret_is .nil (.cons (.ofTmp rfl) (.cons (.ofTmp rfl) .nil)) (by repeat (first | exact List.Sublist.refl _ | apply List.Sublist.cons_cons | apply List.Sublist.cons)) ?_
    rfl
end
end Go.Proofs.Ythdgmimhaidmnaa
