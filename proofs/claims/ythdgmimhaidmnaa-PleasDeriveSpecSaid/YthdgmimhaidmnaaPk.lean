/- Strict. -/
import Derived.Test.YthdgmimhaidmnaaPc
namespace Go.Proofs.Ythdgmimhaidmnaa
set_option linter.unusedSimpArgs false
set_option linter.unusedVariables false

/-- What Strict gives. -/
def strictB (L : List Int) (p : Pl) : List Int × Int := if checkB L p != 0 then ([], checkB L p) else (L.filter (strictOf p).contains, 0)
set_option maxHeartbeats 1000000 in
set_option maxRecDepth 10000 in
theorem strictF_c (p : Pl) (σ : List Ent) : SCall Try.prog 18 [.agg (plC p)] σ (Is (.tup [ints (strictB lits p).1, .int .i64 (strictB lits p).2]) σ) := by
  refine scall_of Try.func18 rfl (by simp) ?_
  by_cases hc : checkB lits p = 0
  · have hcc := check_c p
    rw [hc] at hcc
    have e : strictB lits p = (lits.filter (strictOf p).contains, 0) := by unfold strictB; simp [hc]
    rw [e]
    clear e hc
    refine ex_seq ?_;
    refine ex_region ?_;
    refine exl_box rfl rfl rfl (g_box rfl rfl) ?_; intro _;
    refine exl_box rfl rfl rfl (g_alloc rfl) ?_; intro _;
    apply exl_is; rfl; rfl; rfl; (apply g_assign; rfl);
    refine exl_nilT ?_;
    refine ex_seq ?_;
    refine ex_seq ?_;
    refine ex_region ?_;
    apply exl_is; rfl; rfl; rfl; (apply g_loadAgg; rfl; decide; rfl; (exact .p (by ((repeat (first | exact List.Mem.head _ | assumption | refine List.Mem.tail _ ?_)); done)) rfl rfl));
    apply exl_is; rfl; rfl; rfl; (exact g_call rfl rfl (enters_b (by kernel_rfl)) (hcc _));
    apply exl_is; rfl; rfl; rfl; (apply g_assign; rfl);
    refine exl_nilT ?_;
    refine ex_seq ?_;
    refine ex_region ?_;
    apply exl_is; rfl; rfl; rfl; (apply g_move; rfl);
    apply exl_isB; rfl; rfl; rfl; (apply g_binInt; rfl; rfl; rfl); intro _ _;
    refine exl_nilT ?_;
    refine ex_cond rfl (fun h => ?_) (fun h => ?_) <;> ((first | (subst h; rename BV _ true => h0; have h := h0.eq; clear h0) | (subst h; rename BV _ false => h0; have h := h0.eq; clear h0) | skip); (have hp := h; try simp only [decide_eq_true_eq, decide_eq_false_iff_not, Bool.not_eq_true', Bool.not_eq_false', bne_iff_ne, beq_iff_eq, beq_eq_false_iff_ne, bne_eq_false_iff_eq, Int.not_lt, Int.not_le] at hp); (try (exfalso; first | omega | (cases hp; done))));
    refine ex_skip ?_;
    refine ex_seq ?_;
    refine ex_region ?_;
    apply exl_is; rfl; rfl; rfl; (apply g_loadAgg; rfl; decide; rfl; (exact .p (by ((repeat (first | exact List.Mem.head _ | assumption | refine List.Mem.tail _ ?_)); done)) rfl rfl));
    refine exl_call rfl rfl rfl (g_call rfl rfl (enters_b (by kernel_rfl)) (strict_c p _)) ?_; rintro _ _ ⟨bm, n⟩;
    refine exl_box rfl rfl rfl (g_alloc rfl) ?_; intro _;
    apply exl_do; rfl; rfl; (apply g_store'; rfl; rfl; rfl; (exact Upd.here); (simp only [setL, List.set_cons_zero, List.set_cons_succ, AV.cells]; rfl); rfl; rfl; rfl; exact Nat.le_of_ble_eq_true rfl);
    refine exl_nilT ?_;
    refine ex_seq ?_;
    refine ex_seq ?_;
    refine ex_region ?_;
    apply exl_is; rfl; rfl; rfl; (exact g_call rfl rfl (enters_b (by kernel_rfl)) (literals_c _));
    refine exl_nilT ?_;
    refine ex_block ?_;
    simp only [thenA, blockA, roundA, noGotoA, retA, ↓reduceIte, Nat.reduceEqDiff];
    rotate_left
    (all_goals (repeat (rename BV _ _ => hbv; cases hbv)))
    all_goals (try (exfalso; first | (rename true = false => hx; cases hx; done) | (rename false = true => hx; cases hx; done)))
    rename_i b3 b2 b1
    refine ex_weaken (s' := ⟨[(1, .ptr b3 0), (2, .ptr b2 0), (4, .ptr b1 0), (13, .fn (.func 56) [] [])], .cells b1 [.mp bm] 71 :: .imap bm (boolM (strictOf p).contains) n :: .cells b2 [.slv nilS] 22 :: σ, [], Try.f18.ntmps⟩) (St.le_of (by repeat (first | exact trivial | refine ⟨rfl, ?_⟩)) (by repeat (first | exact List.Sublist.refl _ | apply List.Sublist.cons_cons | apply List.Sublist.cons))) ?_
    refine ex_nilRow 3 1 ?_
    refine ex_range rfl (enters_b (by kernel_rfl)) ?_
    intro D l0 fn
    show SCall _ _ _ (Ent.loop _ _ _ _ ?ee ?nn ?ps ?asg ?body _ :: _) _
    obtain ⟨L, hL⟩ : ∃ L, L = Ent.loop l0 .ready none fn ?ee ?nn ?ps ?asg ?body D := ⟨_, rfl⟩
    rw [← hL]
    obtain ⟨S, hS⟩ : ∃ S, (strictOf p).contains = S := ⟨_, rfl⟩
    rw [hS]
    refine SCall.mono (literals1_c l0 _
      (fun k τ => ∃ vl, τ = L :: .obj D (.deferred (some [])) :: .row vl 3 1 (((lits.take k).filter S).map intC) :: .cells b1 [.mp bm] 71 :: .imap bm (boolM S) n :: .cells b2 [.slv vl] 22 :: σ)
      (fun _ => False) (fun _ _ _ => trivial) ?_ ⟨nilS, rfl⟩) ?_
    · rintro k x τ hx ⟨vl, rfl⟩
      rw [List.getElem?_map, Option.map_eq_some_iff] at hx
      obtain ⟨q, hq, rfl⟩ := hx
      have hR : (lits.take (k + 1)).filter S = (lits.take k).filter S ++ if S q then [q] else [] := by
        rw [List.take_add_one, hq, List.filter_append]
        cases hs : S q <;> simp [List.filter, hs]
      have hRl : ((lits.take k).filter S).length ≤ 64 := by
        have h1 := List.length_filter_le S (lits.take k)
        rw [List.length_take] at h1
        have h2 : lits.length = 64 := by simp [lits]
        omega
      generalize (lits.take k).filter S = R at hR hRl ⊢
      rw [hL]
      refine SRound.sub ?_
      refine sround (by ((repeat (first | exact List.Mem.head _ | assumption | refine List.Mem.tail _ ?_)); done)) rfl (by decide) ?_
      refine ex_region ?_;
      apply exl_is; rfl; rfl; rfl; (apply g_assign; rfl);
      refine exl_nil ?_;
      simp only [thenA]; refine ⟨_, (by (exact Upd.here)), ?_⟩; show EX _ _ _ _ _;
      refine ex_block ?_;
      refine ex_seq ?_;
      refine ex_region ?_;
      apply exl_is; rfl; rfl; rfl; (apply g_load1; rfl; rfl; (exact .p (by ((repeat (first | exact List.Mem.head _ | assumption | refine List.Mem.tail _ ?_)); done)) rfl));
      apply exl_is; rfl; rfl; rfl; (apply g_move; rfl);
      apply exl_isB; rfl; rfl; rfl; (apply g_lookup; rfl; rfl; exact (by ((repeat (first | exact List.Mem.head _ | assumption | refine List.Mem.tail _ ?_)); done)); rfl; rfl; exact boolM_getD _ _); intro _ _;
      refine exl_nilT ?_;
      refine ex_cond rfl (fun h => ?_) (fun h => ?_) <;> ((first | (subst h; rename BV _ true => h0; have h := h0.eq; clear h0) | (subst h; rename BV _ false => h0; have h := h0.eq; clear h0) | skip); (have hp := h; try simp only [decide_eq_true_eq, decide_eq_false_iff_not, Bool.not_eq_true', Bool.not_eq_false', bne_iff_ne, beq_iff_eq, beq_eq_false_iff_ne, bne_eq_false_iff_eq, Int.not_lt, Int.not_le] at hp); (try (exfalso; first | omega | (cases hp; done))));
      refine ex_region ?_;
      apply exl_is; rfl; rfl; rfl; (apply g_load1; rfl; rfl; (exact .p (by ((repeat (first | exact List.Mem.head _ | assumption | refine List.Mem.tail _ ?_)); done)) rfl));
      apply exl_is; rfl; rfl; rfl; (apply g_move; rfl);
      refine exl_row rfl rfl rfl (by exact g_buildSlice rfl rfl (by decide) rfl rfl (by (simp only [chunkN, List.take_succ_cons, List.take_zero, List.drop_succ_cons, List.drop_zero]; rfl))) ?_; intro _;
      apply exl_grew; rfl; rfl; rfl; (apply g_append; rfl; rfl; rfl; (intro v'; (exact Upd.there (Upd.there (Upd.there (Upd.here))))); (exact .r (by ((repeat (first | exact List.Mem.head _ | assumption | refine List.Mem.tail _ ?_)); done))); (intro y hy; simp only [List.mem_map, List.mem_cons, List.not_mem_nil, or_false, List.mem_append] at hy; (obtain ⟨_, _, rfl⟩ := hy; rfl)); (refine app_ok ?_ (by kernel_rfl); (try simp only [List.length_append, List.length_map, List.length_cons, List.length_nil, List.length_take, List.length_drop]); omega)); intro _;
      apply exl_do; rfl; rfl; (apply g_store'; rfl; rfl; rfl; (exact Upd.there (Upd.there (Upd.there (Upd.there (Upd.there (Upd.there (Upd.here))))))); (simp only [setL, List.set_cons_zero, List.set_cons_succ, AV.cells]; rfl); rfl; rfl; rfl; exact Nat.le_of_ble_eq_true rfl);
      refine exl_nil ?_;
      simp only [thenA, blockA, roundA, noGotoA, retA, ↓reduceIte, Nat.reduceEqDiff];
      show rndA _ _ _ _ _ _ _ _ _ _ _; refine ⟨_, _, rfl, (by (exact Upd.there (Upd.here))), ?_⟩;
      simp only [thenA, blockA, roundA, noGotoA, retA, ↓reduceIte, Nat.reduceEqDiff];
      rotate_left;
      refine ex_skip ?_;
      simp only [thenA, blockA, roundA, noGotoA, retA, ↓reduceIte, Nat.reduceEqDiff];
      show rndA _ _ _ _ _ _ _ _ _ _ _; refine ⟨_, _, rfl, (by (exact Upd.here)), ?_⟩;
      simp only [thenA, blockA, roundA, noGotoA, retA, ↓reduceIte, Nat.reduceEqDiff];
      rotate_left
      (all_goals (repeat (rename BV _ _ => hbv; cases hbv)))
      all_goals (try (exfalso; first | (rename true = false => hx; cases hx; done) | (rename false = true => hx; cases hx; done)))
      · subst hL
        rw [if_pos (by assumption)] at hR
        rw [hR, List.map_append]
        exact ⟨_, List.Sublist.cons _ (List.Sublist.refl _), .inl ⟨rfl, _, rfl⟩⟩
      · subst hL
        have hs : S q = false := by assumption
        rw [hs, if_neg (by decide), List.append_nil] at hR
        rw [hR]
        exact ⟨_, List.Sublist.refl _, .inl ⟨rfl, vl, rfl⟩⟩
    · rintro r τ (⟨vl, rfl⟩ | hF)
      · rw [hL]
        refine RangeEnd.done .here ?_
        rw [List.take_of_length_le (by simp)]
        refine ex_seq ?_;
        refine ex_region ?_;
        apply exl_is; rfl; rfl; rfl; (apply g_load1; rfl; rfl; (exact .p (by ((repeat (first | exact List.Mem.head _ | assumption | refine List.Mem.tail _ ?_)); done)) rfl));
        apply exl_do; rfl; rfl; (apply g_store'; rfl; rfl; rfl; (exact Upd.there (Upd.there (Upd.there (Upd.there (Upd.here))))); (simp only [setL, List.set_cons_zero, List.set_cons_succ, AV.cells]; rfl); rfl; rfl; rfl; exact Nat.le_of_ble_eq_true rfl);
        apply exl_is; rfl; rfl; rfl; (apply g_assign; rfl);
        refine exl_nilT ?_;
        refine ex_ret ?_;
        simp only [thenA, blockA, roundA, noGotoA, retA, ↓reduceIte, Nat.reduceEqDiff];
        rotate_left
        (all_goals (repeat (rename BV _ _ => hbv; cases hbv)))
        all_goals (try (exfalso; first | (rename true = false => hx; cases hx; done) | (rename false = true => hx; cases hx; done)))
        refine ret_q (σ3 := .row vl 3 1 ((lits.filter S).map intC) :: σ) (.cons (Rem.here) .nil) ((by repeat (first | exact Res.nil | (apply Res.cons; (first | (apply Res1.ofTmp; rfl) | (apply Res1.ofCell; rfl; rfl; (first | exact .e rfl | exact .p (by ((repeat (first | exact List.Mem.head _ | assumption | refine List.Mem.tail _ ?_)); done)) rfl | exact .r (by ((repeat (first | exact List.Mem.head _ | assumption | refine List.Mem.tail _ ?_)); done)) rfl)) | (apply Res1.ofAgg; rfl; rfl; decide; (first | exact .e rfl rfl | exact .p (by ((repeat (first | exact List.Mem.head _ | assumption | refine List.Mem.tail _ ?_)); done)) rfl rfl | exact .r (by ((repeat (first | exact List.Mem.head _ | assumption | refine List.Mem.tail _ ?_)); done)) rfl rfl))))))) (by repeat (first | exact List.Sublist.refl _ | apply List.Sublist.cons_cons | apply List.Sublist.cons)) ?_
        exact fin_seal .here (.tup (.here (.same .nil)) .nil) (fin_done .mk)
      · exact hF.elim
  · have e : strictB lits p = ([], checkB lits p) := by unfold strictB; simp [hc]
    rw [e]
    refine ex_seq ?_;
    refine ex_region ?_;
    refine exl_box rfl rfl rfl (g_box rfl rfl) ?_; intro _;
    refine exl_box rfl rfl rfl (g_alloc rfl) ?_; intro _;
    apply exl_is; rfl; rfl; rfl; (apply g_assign; rfl);
    refine exl_nilT ?_;
    refine ex_seq ?_;
    refine ex_seq ?_;
    refine ex_region ?_;
    apply exl_is; rfl; rfl; rfl; (apply g_loadAgg; rfl; decide; rfl; (exact .p (by ((repeat (first | exact List.Mem.head _ | assumption | refine List.Mem.tail _ ?_)); done)) rfl rfl));
    apply exl_is; rfl; rfl; rfl; (exact g_call rfl rfl (enters_b (by kernel_rfl)) (check_c p _));
    apply exl_is; rfl; rfl; rfl; (apply g_assign; rfl);
    refine exl_nilT ?_;
    refine ex_seq ?_;
    refine ex_region ?_;
    apply exl_is; rfl; rfl; rfl; (apply g_move; rfl);
    apply exl_isB; rfl; rfl; rfl; (apply g_binInt; rfl; rfl; rfl); intro _ _;
    refine exl_nilT ?_;
    refine ex_cond rfl (fun h => ?_) (fun h => ?_) <;> ((first | (subst h; rename BV _ true => h0; have h := h0.eq; clear h0) | (subst h; rename BV _ false => h0; have h := h0.eq; clear h0) | skip); (have hp := h; try simp only [decide_eq_true_eq, decide_eq_false_iff_not, Bool.not_eq_true', Bool.not_eq_false', bne_iff_ne, beq_iff_eq, beq_eq_false_iff_ne, bne_eq_false_iff_eq, Int.not_lt, Int.not_le] at hp); (try (exfalso; first | omega | (cases hp; done))));
    refine ex_seq ?_;
    refine ex_region ?_;
    apply exl_is; rfl; rfl; rfl; (apply g_move; rfl);
    apply exl_do; rfl; rfl; (apply g_store'; rfl; rfl; rfl; (exact Upd.here); (simp only [setL, List.set_cons_zero, List.set_cons_succ, AV.cells]; rfl); rfl; rfl; rfl; exact Nat.le_of_ble_eq_true rfl);
    apply exl_is; rfl; rfl; rfl; (apply g_assign; rfl);
    refine exl_nilT ?_;
    refine ex_ret ?_;
    simp only [thenA, blockA, roundA, noGotoA, retA, ↓reduceIte, Nat.reduceEqDiff];
    rotate_left
    (all_goals (repeat (rename BV _ _ => hbv; cases hbv)))
    all_goals (try (exfalso; first | (rename true = false => hx; cases hx; done) | (rename false = true => hx; cases hx; done)))
    refine ret_q (σ3 := σ) .nil ((by repeat (first | exact Res.nil | (apply Res.cons; (first | (apply Res1.ofTmp; rfl) | (apply Res1.ofCell; rfl; rfl; (first | exact .e rfl | exact .p (by ((repeat (first | exact List.Mem.head _ | assumption | refine List.Mem.tail _ ?_)); done)) rfl | exact .r (by ((repeat (first | exact List.Mem.head _ | assumption | refine List.Mem.tail _ ?_)); done)) rfl)) | (apply Res1.ofAgg; rfl; rfl; decide; (first | exact .e rfl rfl | exact .p (by ((repeat (first | exact List.Mem.head _ | assumption | refine List.Mem.tail _ ?_)); done)) rfl rfl | exact .r (by ((repeat (first | exact List.Mem.head _ | assumption | refine List.Mem.tail _ ?_)); done)) rfl rfl))))))) (by repeat (first | exact List.Sublist.refl _ | apply List.Sublist.cons_cons | apply List.Sublist.cons)) ?_
    exact fin_nil (sz := 1) (.tup (.here (.same .nil)) .nil) (fin_done .mk)
end Go.Proofs.Ythdgmimhaidmnaa
