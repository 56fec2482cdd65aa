/- The reference: solve, Derive. -/
import Derived.Test.YthdgmimhaidmnaaQh
import Derived.Test.YthdgmimhaidmnaaQg
namespace Go.Proofs.Ythdgmimhaidmnaa
set_option linter.unusedSimpArgs false
set_option linter.unusedVariables false
theorem round_nodup {p : Pl} {S : Int → Bool} {K : Known} {L : List Int} (h : L.Nodup) : ((roundOf p S K L).map Rs.lit).Nodup := by
  have key : ∀ L : List Int, ((roundOf p S K L).map Rs.lit).Sublist L := by
    intro L
    induction L with
    | nil => exact .slnil
    | cons q r ih =>
      unfold roundOf at ih ⊢
      rw [List.filterMap_cons]
      cases hq : rsOf p S K q with
      | none => exact ih.cons _
      | some x => rw [List.map_cons, (rsOf_lit hq).1]; exact ih.cons_cons _
  exact (key L).nodup h
theorem round_fresh {p : Pl} {S : Int → Bool} {K : Known} {L : List Int} {x : Rs} (h : x ∈ roundOf p S K L) : K x.lit = 0 := by
  obtain ⟨q, _, hq⟩ := List.mem_filterMap.1 h
  obtain ⟨e, h0⟩ := rsOf_lit hq
  rw [e]; exact h0
set_option maxHeartbeats 8000000 in
set_option maxRecDepth 10000 in
theorem refSolve_c {p : Pl} (hf0 : p.facts.length ≤ 64) (hp0 : p.clauses.length ≤ 64) (σ : List Ent) : SCall Try.prog 27 [.agg (plC p)] σ (fun r τ => τ = σ ∧ ∃ sl vp vr, r = .tup [rss (deriveOf p (strictOf p).contains lits).1, .agg (stV sl vp vr)]) := by
  refine scall_of Try.func27 rfl (by simp) ?_
  refine ex_nilRow 3 1 ?_
  refine ex_nilRow 3 1 ?_
  refine ex_nilRow 43 3 ?_
  have hst := refStrict_c p hf0 hp0
  obtain ⟨S, hS⟩ : ∃ S, (strictOf p).contains = S := ⟨_, rfl⟩
  have hst2 : ∀ σ, SCall Try.prog 30 [.agg (plC p)] σ (fun r τ => τ = σ ∧ ∃ l : List Int, r = ints l ∧ l.length ≤ 128 ∧ ∀ q, l.contains q = S q) := fun σ => (hst σ).mono fun r τ h => ⟨h.1, h.2.choose, h.2.choose_spec.1, h.2.choose_spec.2.1, fun q => by rw [h.2.choose_spec.2.2 q, hS]⟩
  rw [hS]
  clear hst hS
  have hr := fun (sl : List Int) (hsc : ∀ q, sl.contains q = S q) σ h1 h2 => refRound_c (p := p) (SL := sl) (P := []) (R := []) (K := fun _ => 0) (vp := nilS) (vr := nilS) (S := S) (σ := σ) hp0 hsc .nil h1 h2
  refine ex_seq ?_;
  refine ex_region ?_;
  refine exl_box rfl rfl rfl (g_box rfl rfl) ?_; intro _;
  apply exl_is; rfl; rfl; rfl; (apply g_assign; rfl);
  refine exl_box rfl rfl rfl (g_alloc rfl) ?_; intro _;
  refine exl_nilT ?_;
  refine ex_seq ?_;
  refine ex_region ?_;
  apply exl_is; rfl; rfl; rfl; (apply g_loadAgg; rfl; decide; rfl; (exact .p (by ((repeat (first | exact List.Mem.head _ | assumption | refine List.Mem.tail _ ?_)); done)) rfl rfl));
  refine exl_call rfl rfl rfl (g_call rfl rfl (enters_b (by kernel_rfl)) (hst2 _)) ?_; rintro _ _ ⟨rfl, sl, rfl, hsl, hsc⟩;
  apply exl_is; rfl; rfl; rfl; (apply g_build; rfl; rfl; rfl; rfl);
  refine exl_box rfl rfl rfl (g_alloc rfl) ?_; intro _;
  apply exl_do; rfl; rfl; (apply g_store'; rfl; rfl; rfl; (exact Upd.here); (simp only [setL, List.set_cons_zero, List.set_cons_succ, AV.cells]; rfl); rfl; rfl; rfl; exact Nat.le_of_ble_eq_true rfl);
  refine exl_nilT ?_;
  refine ex_seq ?_;
  refine ex_region ?_;
  apply exl_is; rfl; rfl; rfl; (apply g_assign; rfl);
  refine exl_nilT ?_;
  refine ex_seq ?_;
  refine ex_region ?_;
  apply exl_is; rfl; rfl; rfl; (apply g_loadAgg; rfl; decide; rfl; (exact .p (by ((repeat (first | exact List.Mem.head _ | assumption | refine List.Mem.tail _ ?_)); done)) rfl rfl));
  apply exl_is; rfl; rfl; rfl; (apply g_loadAgg; rfl; decide; rfl; (exact .p (by ((repeat (first | exact List.Mem.head _ | assumption | refine List.Mem.tail _ ?_)); done)) rfl rfl));
  apply exl_is; rfl; rfl; rfl; (exact g_call rfl rfl (enters_b (by kernel_rfl)) (hr sl hsc _ (by ((repeat (first | exact List.Mem.head _ | assumption | refine List.Mem.tail _ ?_)); done)) (by ((repeat (first | exact List.Mem.head _ | assumption | refine List.Mem.tail _ ?_)); done))));
  apply exl_is; rfl; rfl; rfl; (apply g_assign; rfl);
  refine exl_nilT ?_;
  refine ex_seq ?_;
  refine ex_block ?_;
  simp only [thenA, blockA, roundA, noGotoA, retA, ↓reduceIte, Nat.reduceEqDiff];
  rotate_left
  (all_goals (repeat (rename BV _ _ => hbv; cases hbv)))
  all_goals (try (exfalso; first | (rename true = false => hx; cases hx; done) | (rename false = true => hx; cases hx; done)))
  rename_i bp br bs
  clear hr hst2
  refine ex_loop (fun (z : Nat × List Int × List Int × Value × Value × Value) => (⟨[(1, .ptr bp 0), (3, .ptr br 0), (4, .ptr bs 0), (5, .slv z.2.2.2.2.2), (6, rss (roundOf p S (deriveN p S lits z.1).2 lits))], .cells bs (stV sl z.2.2.2.1 z.2.2.2.2.1) 59 :: .cells br [.slv nilS, .slv nilS, .slv nilS] 59 :: .cells bp (plC p) 25 :: .row z.2.2.2.2.2 43 3 ((deriveN p S lits z.1).1.map rsC) :: .row z.2.2.2.1 3 1 (z.2.1.map intC) :: .row z.2.2.2.2.1 3 1 (z.2.2.1.map intC) :: σ, [], Try.f27.ntmps⟩ : St)) (fun z => (∀ m, m < z.1 → roundOf p S (deriveN p S lits m).2 lits ≠ []) ∧ KR (deriveN p S lits z.1).2 z.2.1 z.2.2.1 ∧ z.2.1.length ≤ z.1 * 64 ∧ z.2.2.1.length ≤ z.1 * 64) (fun z => unknown lits (deriveN p S lits z.1).2) (0, [], [], nilS, nilS, nilS) (⟨fun m h => absurd h (Nat.not_lt_zero _), .nil, Nat.zero_le _, Nat.zero_le _⟩) (St.le_of (by repeat (first | exact trivial | refine ⟨rfl, ?_⟩)) (by repeat (first | exact List.Sublist.refl _ | apply List.Sublist.cons_cons | apply List.Sublist.cons))) ?_
  intro z hI
  obtain ⟨n, P, R, vp, vr, vo⟩ := z
  obtain ⟨hI1, hI2, hI3, hI4⟩ := hI
  dsimp only at hI1 hI2 hI3 hI4 ⊢
  have hun := deriveN_unknown p S lits n hI1
  have hln := deriveN_len p S lits n
  have hrl := round_le p S (deriveN p S lits n).2 lits
  rw [lits_length] at hun hln hrl
  have hnd : ((roundOf p S (deriveN p S lits n).2 lits).map Rs.lit).Nodup := round_nodup lits_nodup
  have hfr : ∀ x ∈ roundOf p S (deriveN p S lits n).2 lits, (deriveN p S lits n).2 x.lit = 0 := fun x hx => round_fresh hx
  have hD : roundOf p S (deriveN p S lits n).2 lits = [] → deriveN p S lits n = deriveOf p S lits := fun h => deriveOf_eq (by rw [lits_length]; decide) h hI1
  have hN1 : (deriveN p S lits (n + 1)).1 = (deriveN p S lits n).1 ++ roundOf p S (deriveN p S lits n).2 lits := rfl
  have hN2 : (deriveN p S lits (n + 1)).2 = learnAll (deriveN p S lits n).2 (roundOf p S (deriveN p S lits n).2 lits) := rfl
  have hu : roundOf p S (deriveN p S lits n).2 lits ≠ [] → unknown lits (deriveN p S lits (n + 1)).2 < unknown lits (deriveN p S lits n).2 := fun h => by rw [hN2]; exact unknown_round h
  obtain ⟨O, hO⟩ : ∃ O, deriveOf p S lits = O := ⟨_, rfl⟩
  rw [hO] at hD ⊢
  obtain ⟨RR, hRR⟩ : ∃ RR, roundOf p S (deriveN p S lits n).2 lits = RR := ⟨_, rfl⟩
  obtain ⟨K, hK⟩ : ∃ K, (deriveN p S lits n).2 = K := ⟨_, rfl⟩
  obtain ⟨A, hA⟩ : ∃ A, (deriveN p S lits n).1 = A := ⟨_, rfl⟩
  rw [hRR] at hrl hnd hfr hD hu hN1 hN2
  rw [hK] at hI2 hun hfr hu hN2
  rw [hA] at hln hN1
  rw [hRR, hA]
  have hadd := fun σ => refAdd_c (SL := sl) (P := P) (R := R) (K := K) (vp := vp) (vr := vr) (σ := σ) RR hI2 hnd hfr (by omega) (by omega)
  refine ex_len (t := 6) rfl ((List.length_map _).symm) (fun hl6 => ?_)
  have hr := fun (P' R' : List Int) vp' vr' (h : KR (learnAll K RR) P' R') σ h1 h2 => refRound_c (p := p) (SL := sl) (P := P') (R := R') (K := learnAll K RR) (vp := vp') (vr := vr') (S := S) (σ := σ) hp0 hsc h h1 h2
  refine ex_seq ?_;
  refine ex_seq ?_;
  refine ex_region ?_;
  apply exl_is; rfl; rfl; rfl; (apply g_move; rfl);
  apply exl_is; rfl; rfl; rfl; (apply g_len; rfl; rfl; (exact (List.length_map _).symm));
  apply exl_isB; rfl; rfl; rfl; (apply g_binInt; rfl; rfl; rfl); intro _ _;
  refine exl_nilT ?_;
  refine ex_cond rfl (fun h => ?_) (fun h => ?_) <;> ((first | (subst h; rename BV _ true => h0; have h := h0.eq; clear h0) | (subst h; rename BV _ false => h0; have h := h0.eq; clear h0) | skip); (have hp := h; try simp only [decide_eq_true_eq, decide_eq_false_iff_not, Bool.not_eq_true', Bool.not_eq_false', bne_iff_ne, beq_iff_eq, beq_eq_false_iff_ne, bne_eq_false_iff_eq, Int.not_lt, Int.not_le] at hp); (try (exfalso; first | omega | (cases hp; done))));
  refine ex_skip ?_;
  refine ex_block ?_;
  refine ex_seq ?_;
  refine ex_region ?_;
  apply exl_is; rfl; rfl; rfl; (apply g_move; rfl);
  apply exl_is; rfl; rfl; rfl; (apply g_move; rfl);
  apply exl_grew; rfl; rfl; rfl; (apply g_append; rfl; rfl; rfl; (intro v'; (exact Upd.there (Upd.there (Upd.there (Upd.here))))); (exact .d); (intro y hy; simp only [List.mem_map, List.mem_cons, List.not_mem_nil, or_false, List.mem_append] at hy; (obtain ⟨_, _, rfl⟩ := hy; rfl)); (refine app_ok ?_ (by kernel_rfl); (try simp only [List.length_append, List.length_map, List.length_cons, List.length_nil, List.length_take, List.length_drop]); omega)); intro _;
  apply exl_is; rfl; rfl; rfl; (apply g_assign; rfl);
  refine exl_nilT ?_;
  refine ex_seq ?_;
  refine ex_region ?_;
  apply exl_is; rfl; rfl; rfl; (apply g_loadAgg; rfl; decide; rfl; (exact .p (by ((repeat (first | exact List.Mem.head _ | assumption | refine List.Mem.tail _ ?_)); done)) rfl rfl));
  apply exl_is; rfl; rfl; rfl; (apply g_move; rfl);
  refine exl_call rfl rfl rfl (g_call rfl rfl (enters_b (by kernel_rfl)) (SCall.front [_, _, _, _] (hadd _))) ?_; rintro _ _ ⟨_, rfl, vp', vr', P', R', rfl, rfl, hkr, hPl, hRl⟩;
  apply exl_do; rfl; rfl; (apply g_store'; rfl; rfl; rfl; (exact Upd.here); (simp only [setL, List.set_cons_zero, List.set_cons_succ, AV.cells]; rfl); rfl; rfl; rfl; exact Nat.le_of_ble_eq_true rfl);
  refine exl_nilT ?_;
  refine ex_region ?_;
  apply exl_is; rfl; rfl; rfl; (apply g_loadAgg; rfl; decide; rfl; (exact .p (by ((repeat (first | exact List.Mem.head _ | assumption | refine List.Mem.tail _ ?_)); done)) rfl rfl));
  apply exl_is; rfl; rfl; rfl; (apply g_loadAgg; rfl; decide; rfl; (exact .p (by ((repeat (first | exact List.Mem.head _ | assumption | refine List.Mem.tail _ ?_)); done)) rfl rfl));
  apply exl_is; rfl; rfl; rfl; (exact g_call rfl rfl (enters_b (by kernel_rfl)) (hr _ _ _ _ hkr _ (by ((repeat (first | exact List.Mem.head _ | assumption | refine List.Mem.tail _ ?_)); done)) (by ((repeat (first | exact List.Mem.head _ | assumption | refine List.Mem.tail _ ?_)); done))));
  apply exl_is; rfl; rfl; rfl; (apply g_assign; rfl);
  refine exl_nil ?_;
  simp only [thenA, blockA, roundA, noGotoA, retA, ↓reduceIte, Nat.reduceEqDiff];
  rotate_left;
  refine ex_exit ?_;
  refine ex_seq ?_;
  refine ex_drawT rfl rfl (by kernel_rfl) rfl ?_; simp only [List.length_cons, List.length_nil, Nat.reduceAdd, Nat.reduceSub, List.take_succ_cons, List.take_zero, List.drop_succ_cons, List.drop_zero];
  apply wl_is; rfl; rfl; rfl; (intro σ' hl; (apply g_move; rfl));
  apply wl_is; rfl; rfl; rfl; (intro σ' hl; (apply g_loadAgg; rfl; decide; rfl; (exact .p (hl _ (True.intro) (by ((repeat (first | exact List.Mem.head _ | assumption | refine List.Mem.tail _ ?_)); done))) rfl rfl)));
  apply wl_is; rfl; rfl; rfl; (intro σ' hl; (apply g_assign; rfl));
  refine wl_nil ?_;
  apply exl_do; rfl; rfl; (apply g_store'; rfl; rfl; rfl; (exact Upd.there (Upd.here)); (simp only [setL, List.set_cons_zero, List.set_cons_succ, AV.cells]; rfl); rfl; rfl; rfl; exact Nat.le_of_ble_eq_true rfl);
  refine exl_nilT ?_;
  refine ex_ret ?_;
  simp only [thenA, blockA, roundA, noGotoA, retA, ↓reduceIte, Nat.reduceEqDiff];
  rotate_left
  (all_goals (repeat (rename BV _ _ => hbv; cases hbv)))
  all_goals (try (exfalso; first | (rename true = false => hx; cases hx; done) | (rename false = true => hx; cases hx; done)))
  · rename_i v2
    have hne : RR ≠ [] := fun e => by subst e; simp at hp
    rw [← hK] at hu
    have hI1' : ∀ m, m < n + 1 → roundOf p S (deriveN p S lits m).2 lits ≠ [] := fun m hm => by
      by_cases e : m = n
      · subst e; rw [hRR]; exact hne
      · exact hI1 m (by omega)
    refine ⟨(n + 1, P', R', vp', vr', v2), ⟨hI1', by dsimp only; rw [hN2]; exact hkr, by dsimp only; omega, by dsimp only; omega⟩, hu hne, ?_⟩
    dsimp only
    rw [hN1, hN2, List.map_append]
    exact (St.le_of (by repeat (first | exact trivial | refine ⟨rfl, ?_⟩)) (by repeat (first | exact List.Sublist.refl _ | apply List.Sublist.cons_cons | apply List.Sublist.cons)))
  · have hnil : RR = [] := by
      cases RR with
      | nil => rfl
      | cons r0 RR => simp at hp; omega
    subst hnil
    refine ret_q (σ3 := .row vo 43 3 (A.map rsC) :: σ) .nil ((by repeat (first | exact Res.nil | (apply Res.cons; (first | (apply Res1.ofTmp; rfl) | (apply Res1.ofCell; rfl; rfl; (first | exact .e rfl | exact .p (by ((repeat (first | exact List.Mem.head _ | assumption | refine List.Mem.tail _ ?_)); done)) rfl | exact .r (by ((repeat (first | exact List.Mem.head _ | assumption | refine List.Mem.tail _ ?_)); done)) rfl)) | (apply Res1.ofAgg; rfl; rfl; decide; (first | exact .e rfl rfl | exact .p (by ((repeat (first | exact List.Mem.head _ | assumption | refine List.Mem.tail _ ?_)); done)) rfl rfl | exact .r (by ((repeat (first | exact List.Mem.head _ | assumption | refine List.Mem.tail _ ?_)); done)) rfl rfl))))))) (by repeat (first | exact List.Sublist.refl _ | apply List.Sublist.cons_cons | apply List.Sublist.cons)) ?_
    rw [← hD rfl, hA]
    exact fin_seal .here (.tup (.here (.same .nil)) .nil) (fin_done ⟨rfl, _, _, _, rfl⟩)
set_option maxRecDepth 10000 in
theorem refDerive_c (p : Pl) (σ : List Ent) : SCall Try.prog 12 [.agg (plC p)] σ (Is (.tup [rss (deriveB lits p).1, .int .i64 (deriveB lits p).2]) σ) := by
  refine scall_of Try.func12 rfl (by simp) ?_
  by_cases hc : checkB lits p = 0
  · have hcc := refCheck_c p
    rw [hc] at hcc
    obtain ⟨hf0, hp0⟩ := checkB_ok hc
    have e : deriveB lits p = ((deriveOf p (strictOf p).contains lits).1, 0) := by unfold deriveB; simp [hc, derivedB_eq]
    obtain ⟨D, hD⟩ : ∃ D, (deriveOf p (strictOf p).contains lits).1 = D := ⟨_, rfl⟩
    have hso := refSolve_c hf0 hp0
    rw [hD] at e hso
    rw [e]
    clear e hD hc
    refine ex_seq ?_;
    refine ex_region ?_;
    refine exl_box rfl rfl rfl (g_box rfl rfl) ?_; intro _;
    apply exl_is; rfl; rfl; rfl; (apply g_assign; rfl);
    apply exl_is; rfl; rfl; rfl; (apply g_assign; rfl);
    refine exl_nilT ?_;
    refine ex_seq ?_;
    refine ex_region ?_;
    apply exl_is; rfl; rfl; rfl; (apply g_loadAgg; rfl; decide; rfl; (exact .p (by ((repeat (first | exact List.Mem.head _ | assumption | refine List.Mem.tail _ ?_)); done)) rfl rfl));
    apply exl_is; rfl; rfl; rfl; (exact g_call rfl rfl (enters_b (by kernel_rfl)) (hcc _));
    apply exl_is; rfl; rfl; rfl; (apply g_assign; rfl);
    refine exl_nilT ?_;
    refine ex_seq ?_;
    refine ex_seq ?_;
    refine ex_region ?_;
    apply exl_is; rfl; rfl; rfl; (apply g_move; rfl);
    apply exl_isB; rfl; rfl; rfl; (apply g_binInt; rfl; rfl; rfl); intro _ _;
    refine exl_nilT ?_;
    refine ex_cond rfl (fun h => ?_) (fun h => ?_) <;> ((first | (subst h; rename BV _ true => h0; have h := h0.eq; clear h0) | (subst h; rename BV _ false => h0; have h := h0.eq; clear h0) | skip); (have hp := h; try simp only [decide_eq_true_eq, decide_eq_false_iff_not, Bool.not_eq_true', Bool.not_eq_false', bne_iff_ne, beq_iff_eq, beq_eq_false_iff_ne, bne_eq_false_iff_eq, Int.not_lt, Int.not_le] at hp); (try (exfalso; first | omega | (cases hp; done))));
    refine ex_skip ?_;
    refine ex_seq ?_;
    refine ex_region ?_;
    apply exl_is; rfl; rfl; rfl; (apply g_loadAgg; rfl; decide; rfl; (exact .p (by ((repeat (first | exact List.Mem.head _ | assumption | refine List.Mem.tail _ ?_)); done)) rfl rfl));
    refine exl_call rfl rfl rfl (g_call rfl rfl (enters_b (by kernel_rfl)) (hso _)) ?_; rintro _ _ ⟨rfl, y1, y2, y3, rfl⟩;
    apply exl_is; rfl; rfl; rfl; (apply g_move; rfl);
    apply exl_is; rfl; rfl; rfl; (apply g_extract; rfl; rfl);
    apply exl_is; rfl; rfl; rfl; (apply g_extract; rfl; rfl);
    refine exl_box rfl rfl rfl (g_alloc rfl) ?_; intro _;
    apply exl_is; rfl; rfl; rfl; (apply g_assign; rfl);
    apply exl_do; rfl; rfl; (apply g_store'; rfl; rfl; rfl; (exact Upd.here); (simp only [setL, List.set_cons_zero, List.set_cons_succ, AV.cells]; rfl); rfl; rfl; rfl; exact Nat.le_of_ble_eq_true rfl);
    refine exl_nilT ?_;
    refine ex_seq ?_;
    refine ex_region ?_;
    apply exl_is; rfl; rfl; rfl; (apply g_move; rfl);
    apply exl_is; rfl; rfl; rfl; (apply g_assign; rfl);
    apply exl_is; rfl; rfl; rfl; (apply g_assign; rfl);
    refine exl_nilT ?_;
    refine ex_ret ?_;
    simp only [thenA, blockA, roundA, noGotoA, retA, ↓reduceIte, Nat.reduceEqDiff];
    rotate_left
    (all_goals (repeat (rename BV _ _ => hbv; cases hbv)))
    all_goals (try (exfalso; first | (rename true = false => hx; cases hx; done) | (rename false = true => hx; cases hx; done)))
    refine ret_is .nil (.cons (.ofTmp rfl) (.cons (.ofTmp rfl) .nil)) (by repeat (first | exact List.Sublist.refl _ | apply List.Sublist.cons_cons | apply List.Sublist.cons)) ?_
    rfl
  · have e : deriveB lits p = ([], checkB lits p) := by unfold deriveB; simp [hc]
    rw [e]
    refine ex_seq ?_;
    refine ex_region ?_;
    refine exl_box rfl rfl rfl (g_box rfl rfl) ?_; intro _;
    apply exl_is; rfl; rfl; rfl; (apply g_assign; rfl);
    apply exl_is; rfl; rfl; rfl; (apply g_assign; rfl);
    refine exl_nilT ?_;
    refine ex_seq ?_;
    refine ex_region ?_;
    apply exl_is; rfl; rfl; rfl; (apply g_loadAgg; rfl; decide; rfl; (exact .p (by ((repeat (first | exact List.Mem.head _ | assumption | refine List.Mem.tail _ ?_)); done)) rfl rfl));
    apply exl_is; rfl; rfl; rfl; (exact g_call rfl rfl (enters_b (by kernel_rfl)) (refCheck_c p _));
    apply exl_is; rfl; rfl; rfl; (apply g_assign; rfl);
    refine exl_nilT ?_;
    refine ex_seq ?_;
    refine ex_seq ?_;
    refine ex_region ?_;
    apply exl_is; rfl; rfl; rfl; (apply g_move; rfl);
    apply exl_isB; rfl; rfl; rfl; (apply g_binInt; rfl; rfl; rfl); intro _ _;
    refine exl_nilT ?_;
    refine ex_cond rfl (fun h => ?_) (fun h => ?_) <;> ((first | (subst h; rename BV _ true => h0; have h := h0.eq; clear h0) | (subst h; rename BV _ false => h0; have h := h0.eq; clear h0) | skip); (have hp := h; try simp only [decide_eq_true_eq, decide_eq_false_iff_not, Bool.not_eq_true', Bool.not_eq_false', bne_iff_ne, beq_iff_eq, beq_eq_false_iff_ne, bne_eq_false_iff_eq, Int.not_lt, Int.not_le] at hp); (try (exfalso; first | omega | (cases hp; done))));
    refine ex_seq ?_;
    refine ex_region ?_;
    apply exl_is; rfl; rfl; rfl; (apply g_move; rfl);
    apply exl_is; rfl; rfl; rfl; (apply g_assign; rfl);
    apply exl_is; rfl; rfl; rfl; (apply g_assign; rfl);
    refine exl_nilT ?_;
    refine ex_ret ?_;
    simp only [thenA, blockA, roundA, noGotoA, retA, ↓reduceIte, Nat.reduceEqDiff];
    rotate_left
    (all_goals (repeat (rename BV _ _ => hbv; cases hbv)))
    all_goals (try (exfalso; first | (rename true = false => hx; cases hx; done) | (rename false = true => hx; cases hx; done)))
    refine ret_q (σ3 := σ) .nil (.cons (.ofTmp rfl) (.cons (.ofTmp rfl) .nil)) (by repeat (first | exact List.Sublist.refl _ | apply List.Sublist.cons_cons | apply List.Sublist.cons)) ?_
    exact fin_nil (sz := 3) (.tup (.here (.same .nil)) .nil) (fin_done .mk)
end Go.Proofs.Ythdgmimhaidmnaa
