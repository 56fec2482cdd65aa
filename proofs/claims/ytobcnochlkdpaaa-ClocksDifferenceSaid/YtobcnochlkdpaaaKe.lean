/- Clocks: BinarySearchFunc; limited, Check, said, At, Add of the program. -/
import Derived.Test.YtobcnochlkdpaaaKd
import Derived.Test.YtobcnochlkdpaaaSbu
namespace Go.Proofs.Ytobcnochlkdpaaa
set_option linter.unusedSimpArgs false
set_option linter.unusedVariables false
/-- Where a number belongs. -/
theorem low_split : ∀ {l : List Fc} {n : Int} {i : Nat}, i ≤ l.length → (∀ y ∈ l.take i, y.no < n) → (∀ y ∈ l.drop i, ¬ y.no < n) → l.takeWhile (lowF n) = l.take i ∧ l.dropWhile (lowF n) = l.drop i
  | [], n, i, _, _, _ => by simp
  | x :: r, n, 0, _, _, h2 => by
    have := h2 x (by simp)
    rw [List.takeWhile_cons_of_neg (by simpa [lowF] using this), List.dropWhile_cons_of_neg (by simpa [lowF] using this)]
    exact ⟨rfl, rfl⟩
  | x :: r, n, i + 1, hi, h1, h2 => by
    have hx := h1 x (by simp)
    obtain ⟨e1, e2⟩ := low_split (l := r) (n := n) (i := i) (by simpa using hi) (fun y hy => h1 y (by simp [hy])) (fun y hy => h2 y (by simpa using hy))
    rw [List.takeWhile_cons_of_pos (by simpa [lowF] using hx), List.dropWhile_cons_of_pos (by simpa [lowF] using hx), e1, e2]
    exact ⟨rfl, rfl⟩
theorem fc_drop {α : Type} {l : List α} {k : Nat} {c : α} (h : l[k]? = some c) : l.drop k = c :: l.drop (k + 1) := by
  obtain ⟨h1, h2⟩ := List.getElem?_eq_some_iff.1 h
  rw [List.drop_eq_getElem_cons h1, h2]
theorem up_before {l : List Fc} {k : Nat} {c : Fc} (hp : l.Pairwise fun x y => x.no < y.no) (h : l[k]? = some c) : (∀ y ∈ l.take k, y.no < c.no) ∧ ∀ y ∈ l.drop k, c.no ≤ y.no := by
  rw [← List.take_append_drop k l, fc_drop h, List.pairwise_append, List.pairwise_cons] at hp
  refine ⟨fun y hy => hp.2.2 y hy c (by simp), fun y hy => ?_⟩
  rw [fc_drop h] at hy
  rcases List.mem_cons.1 hy with rfl | hy
  · omega
  · have := hp.2.1.1 y hy; omega
set_option maxHeartbeats 4000000 in
set_option maxRecDepth 10000 in
theorem bsearch_c (l : List Fc) (x : Fc) (hl : l.length ≤ 512) (hp : l.Pairwise fun x y => x.no < y.no) (σ : List Ent) : SCall Try.prog 28 [fcs l, .int .i64 x.no, .fn (.func 29) [] []] σ (Is (.tup [.int .i64 (((l.takeWhile (lowF x.no)).length : Nat) : Int), .bool (metF l x)]) σ) := by
  refine scall_of Try.func28 rfl (by simp) ?_
  refine ex_seq ?_;
  refine ex_region ?_;
  apply exl_is; rfl; rfl; rfl; (apply g_assign; rfl);
  apply exl_is; rfl; rfl; rfl; (apply g_assign; rfl);
  refine exl_nilT ?_;
  refine ex_seq ?_;
  refine ex_region ?_;
  apply exl_is; rfl; rfl; rfl; (apply g_move; rfl);
  apply exl_is; rfl; rfl; rfl; (apply g_len; rfl; rfl; (exact (List.length_map _).symm));
  apply exl_is; rfl; rfl; rfl; (apply g_assign; rfl);
  refine exl_nilT ?_;
  refine ex_seq ?_;
  refine ex_region ?_;
  apply exl_is; rfl; rfl; rfl; (apply g_move; rfl);
  apply exl_is; rfl; rfl; rfl; (apply g_assign; rfl);
  apply exl_is; rfl; rfl; rfl; (apply g_assign; rfl);
  refine exl_nilT ?_;
  refine ex_seq ?_;
  refine ex_block ?_;
  rotate_left
  (all_goals (repeat (rename BV _ _ => hbv; cases hbv)))
  all_goals (try (exfalso; first | (rename true = false => hx; cases hx; done) | (rename false = true => hx; cases hx; done)))
  refine ex_loop (fun (z : Nat × Nat) => (⟨[(0, fcs l), (1, .int .i64 x.no), (2, .fn (.func 29) [] []), (8, .int .i64 l.length), (9, .int .i64 z.1), (10, .int .i64 z.2)], σ, [], Try.f28.ntmps⟩ : St)) (fun z => z.1 ≤ z.2 ∧ z.2 ≤ l.length ∧ (∀ y ∈ l.take z.1, y.no < x.no) ∧ ∀ y ∈ l.drop z.2, ¬ y.no < x.no) (fun z => z.2 - z.1) (0, l.length) (⟨Nat.zero_le _, Nat.le_refl _, by simp, by simp⟩) (St.le_of (by repeat (first | exact trivial | refine ⟨rfl, ?_⟩)) (by repeat (first | exact List.Sublist.refl _ | apply List.Sublist.cons_cons | apply List.Sublist.cons))) ?_
  intro z hI
  obtain ⟨i, j⟩ := z
  obtain ⟨hI1, hI2, hI3, hI4⟩ := hI
  dsimp only at hI1 hI2 hI3 hI4 ⊢
  by_cases hij : i < j
  · obtain ⟨k, hk⟩ : ∃ k, (i + j) / 2 = k := ⟨_, rfl⟩
    obtain ⟨c, hc⟩ : ∃ c, l[k]? = some c := ⟨_, List.getElem?_eq_getElem (by omega)⟩
    have hgc := fc_get hc
    obtain ⟨u1, u2⟩ := up_before hp hc
    have hst : ∀ y ∈ l.take (k + 1), y = c ∨ y ∈ l.take k := fun y hy => by
      rw [List.take_add_one, hc] at hy
      rcases List.mem_append.1 hy with hy | hy
      · exact .inr hy
      · simp only [Option.toList_some, List.mem_singleton] at hy; exact .inl hy
    have hij2 : (i : Int) + (j : Int) = ((i + j : Nat) : Int) := by omega
    have hkz : (((i + j) / 2 : Nat) : Int) = ((k : Nat) : Int) := by rw [hk]
    by_cases hlow : c.no < x.no
    · have hcm : cmpI c.no x.no = -1 := by unfold cmpI; rw [if_pos hlow]
      have cc := add1_c c x.no
      rw [hcm] at cc
      have hnew : ∀ y ∈ l.take (k + 1), y.no < x.no := fun y hy => by
        rcases hst y hy with rfl | hy
        · exact hlow
        · have := u1 y hy; omega
      clear u1 u2 hst hI3 hcm
      refine ex_seq ?_;
      refine ex_seq ?_;
      refine ex_region ?_;
      apply exl_is; rfl; rfl; rfl; (apply g_move; rfl);
      apply exl_is; rfl; rfl; rfl; (apply g_move; rfl);
      apply exl_isB; rfl; rfl; rfl; (apply g_binInt; rfl; rfl; rfl); intro _ _;
      refine exl_nilT ?_;
      refine ex_cond rfl (fun h => ?_) (fun h => ?_) <;> ((first | (subst h; rename BV _ true => h0; have h := h0.eq; clear h0) | (subst h; rename BV _ false => h0; have h := h0.eq; clear h0) | skip); (have hp := h; try simp only [decide_eq_true_eq, decide_eq_false_iff_not, Bool.not_eq_true', Bool.not_eq_false', bne_iff_ne, beq_iff_eq, beq_eq_false_iff_ne, bne_eq_false_iff_eq, Int.not_lt, Int.not_le] at hp); (try (exfalso; first | omega | (cases hp; done))));
      refine ex_skip ?_;
      refine ex_block ?_;
      refine ex_seq ?_;
      refine ex_region ?_;
      apply exl_is; rfl; rfl; rfl; (apply g_move; rfl);
      apply exl_is; rfl; rfl; rfl; (apply g_move; rfl);
      apply exl_is; rfl; rfl; rfl; (apply g_add; rfl; rfl; rfl; exact ⟨by omega, by omega⟩);
      apply exl_is; rfl; rfl; rfl; (apply g_convU; rfl; rfl; rfl; exact ⟨by omega, by omega⟩);
      apply exl_is; rfl; rfl; rfl; (apply g_halfU; rfl; rfl; rfl; exact hij2);
      apply exl_is; rfl; rfl; rfl; (apply g_conv64; rfl; rfl; rfl; exact ⟨by omega, by omega⟩);
      apply exl_is; rfl; rfl; rfl; (apply g_assign; rfl);
      refine exl_nilT ?_;
      refine ex_seq ?_;
      refine ex_region ?_;
      apply exl_is; rfl; rfl; rfl; (apply g_move; rfl);
      apply exl_is; rfl; rfl; rfl; (apply g_move; rfl);
      apply exl_is; rfl; rfl; rfl; (apply g_move; rfl);
      apply exl_is; rfl; rfl; rfl; (apply g_indexDl; rfl; rfl; rfl; (assumption); (assumption));
      apply exl_is; rfl; rfl; rfl; (apply g_loadAgg; rfl; decide; rfl; (exact .e rfl rfl));
      apply exl_is; rfl; rfl; rfl; (apply g_move; rfl);
      apply exl_is; rfl; rfl; rfl; (exact g_call rfl rfl (enters_b (by kernel_rfl)) (cc _));
      apply exl_isB; rfl; rfl; rfl; (apply g_binInt; rfl; rfl; rfl); intro _ _;
      refine exl_nilT ?_;
      refine ex_cond rfl (fun h => ?_) (fun h => ?_) <;> ((first | (subst h; rename BV _ true => h0; have h := h0.eq; clear h0) | (subst h; rename BV _ false => h0; have h := h0.eq; clear h0) | skip); (have hp := h; try simp only [decide_eq_true_eq, decide_eq_false_iff_not, Bool.not_eq_true', Bool.not_eq_false', bne_iff_ne, beq_iff_eq, beq_eq_false_iff_ne, bne_eq_false_iff_eq, Int.not_lt, Int.not_le] at hp); (try (exfalso; first | omega | (cases hp; done))));
      refine ex_region ?_;
      apply exl_is; rfl; rfl; rfl; (apply g_move; rfl);
      apply exl_is; rfl; rfl; rfl; (apply g_add; rfl; rfl; rfl; exact ⟨by omega, by omega⟩);
      apply exl_is; rfl; rfl; rfl; (apply g_assign; rfl);
      refine exl_nil ?_;
      simp only [thenA, blockA, roundA, noGotoA, retA, ↓reduceIte, Nat.reduceEqDiff];
      rotate_left
      (all_goals (repeat (rename BV _ _ => hbv; cases hbv)))
      all_goals (try (exfalso; first | (rename true = false => hx; cases hx; done) | (rename false = true => hx; cases hx; done)))
      rw [hkz]
      refine ⟨(k + 1, j), ⟨by dsimp only; omega, hI2, hnew, hI4⟩, by dsimp only; omega, ?_⟩
      dsimp only
      exact (St.le_of (by repeat (first | exact trivial | refine ⟨rfl, ?_⟩)) (by repeat (first | exact List.Sublist.refl _ | apply List.Sublist.cons_cons | apply List.Sublist.cons)))
    · have hcm : 0 ≤ cmpI c.no x.no := by unfold cmpI; rw [if_neg hlow]; split <;> omega
      have cc := add1_c c x.no
      generalize cmpI c.no x.no = cv at cc hcm
      have hnew : ∀ y ∈ l.drop k, ¬ y.no < x.no := fun y hy => by have := u2 y hy; omega
      clear u1 u2 hst hI4
      refine ex_seq ?_;
      refine ex_seq ?_;
      refine ex_region ?_;
      apply exl_is; rfl; rfl; rfl; (apply g_move; rfl);
      apply exl_is; rfl; rfl; rfl; (apply g_move; rfl);
      apply exl_isB; rfl; rfl; rfl; (apply g_binInt; rfl; rfl; rfl); intro _ _;
      refine exl_nilT ?_;
      refine ex_cond rfl (fun h => ?_) (fun h => ?_) <;> ((first | (subst h; rename BV _ true => h0; have h := h0.eq; clear h0) | (subst h; rename BV _ false => h0; have h := h0.eq; clear h0) | skip); (have hp := h; try simp only [decide_eq_true_eq, decide_eq_false_iff_not, Bool.not_eq_true', Bool.not_eq_false', bne_iff_ne, beq_iff_eq, beq_eq_false_iff_ne, bne_eq_false_iff_eq, Int.not_lt, Int.not_le] at hp); (try (exfalso; first | omega | (cases hp; done))));
      refine ex_skip ?_;
      refine ex_block ?_;
      refine ex_seq ?_;
      refine ex_region ?_;
      apply exl_is; rfl; rfl; rfl; (apply g_move; rfl);
      apply exl_is; rfl; rfl; rfl; (apply g_move; rfl);
      apply exl_is; rfl; rfl; rfl; (apply g_add; rfl; rfl; rfl; exact ⟨by omega, by omega⟩);
      apply exl_is; rfl; rfl; rfl; (apply g_convU; rfl; rfl; rfl; exact ⟨by omega, by omega⟩);
      apply exl_is; rfl; rfl; rfl; (apply g_halfU; rfl; rfl; rfl; exact hij2);
      apply exl_is; rfl; rfl; rfl; (apply g_conv64; rfl; rfl; rfl; exact ⟨by omega, by omega⟩);
      apply exl_is; rfl; rfl; rfl; (apply g_assign; rfl);
      refine exl_nilT ?_;
      refine ex_seq ?_;
      refine ex_region ?_;
      apply exl_is; rfl; rfl; rfl; (apply g_move; rfl);
      apply exl_is; rfl; rfl; rfl; (apply g_move; rfl);
      apply exl_is; rfl; rfl; rfl; (apply g_move; rfl);
      apply exl_is; rfl; rfl; rfl; (apply g_indexDl; rfl; rfl; rfl; (assumption); (assumption));
      apply exl_is; rfl; rfl; rfl; (apply g_loadAgg; rfl; decide; rfl; (exact .e rfl rfl));
      apply exl_is; rfl; rfl; rfl; (apply g_move; rfl);
      apply exl_is; rfl; rfl; rfl; (exact g_call rfl rfl (enters_b (by kernel_rfl)) (cc _));
      apply exl_isB; rfl; rfl; rfl; (apply g_binInt; rfl; rfl; rfl); intro _ _;
      refine exl_nilT ?_;
      refine ex_cond rfl (fun h => ?_) (fun h => ?_) <;> ((first | (subst h; rename BV _ true => h0; have h := h0.eq; clear h0) | (subst h; rename BV _ false => h0; have h := h0.eq; clear h0) | skip); (have hp := h; try simp only [decide_eq_true_eq, decide_eq_false_iff_not, Bool.not_eq_true', Bool.not_eq_false', bne_iff_ne, beq_iff_eq, beq_eq_false_iff_ne, bne_eq_false_iff_eq, Int.not_lt, Int.not_le] at hp); (try (exfalso; first | omega | (cases hp; done))));
      refine ex_region ?_;
      apply exl_is; rfl; rfl; rfl; (apply g_move; rfl);
      apply exl_is; rfl; rfl; rfl; (apply g_assign; rfl);
      refine exl_nil ?_;
      simp only [thenA, blockA, roundA, noGotoA, retA, ↓reduceIte, Nat.reduceEqDiff];
      rotate_left
      (all_goals (repeat (rename BV _ _ => hbv; cases hbv)))
      all_goals (try (exfalso; first | (rename true = false => hx; cases hx; done) | (rename false = true => hx; cases hx; done)))
      rw [hkz]
      refine ⟨(i, k), ⟨by dsimp only; omega, by dsimp only; omega, hI3, hnew⟩, by dsimp only; omega, ?_⟩
      dsimp only
      exact (St.le_of (by repeat (first | exact trivial | refine ⟨rfl, ?_⟩)) (by repeat (first | exact List.Sublist.refl _ | apply List.Sublist.cons_cons | apply List.Sublist.cons)))
  · have e : i = j := by omega
    subst e
    obtain ⟨e1, e2⟩ := low_split hI2 hI3 hI4
    have hlen : (l.takeWhile (lowF x.no)).length = i := by rw [e1, List.length_take]; omega
    rw [hlen]
    unfold metF
    rw [e2]
    clear hI3 hI4 e1 e2 hlen
    by_cases hi : i < l.length
    · obtain ⟨c, hc⟩ : ∃ c, l[i]? = some c := ⟨_, List.getElem?_eq_getElem hi⟩
      have hgc := fc_get hc
      have cc := add1_c c x.no
      have hcm : (cmpI c.no x.no == 0) = decide (c.no = x.no) := by
        unfold cmpI
        by_cases h1 : c.no < x.no
        · rw [if_pos h1, decide_eq_false (by omega)]; rfl
        · rw [if_neg h1]
          by_cases h2 : x.no < c.no
          · rw [if_pos h2, decide_eq_false (by omega)]; rfl
          · rw [if_neg h2, decide_eq_true (by omega)]; rfl
      rw [fc_drop hc]
      dsimp only
      rw [← hcm]
      generalize cmpI c.no x.no = cv at cc
      clear hcm
      refine ex_seq ?_;
      refine ex_seq ?_;
      refine ex_region ?_;
      apply exl_is; rfl; rfl; rfl; (apply g_move; rfl);
      apply exl_is; rfl; rfl; rfl; (apply g_move; rfl);
      apply exl_isB; rfl; rfl; rfl; (apply g_binInt; rfl; rfl; rfl); intro _ _;
      refine exl_nilT ?_;
      refine ex_cond rfl (fun h => ?_) (fun h => ?_) <;> ((first | (subst h; rename BV _ true => h0; have h := h0.eq; clear h0) | (subst h; rename BV _ false => h0; have h := h0.eq; clear h0) | skip); (have hp := h; try simp only [decide_eq_true_eq, decide_eq_false_iff_not, Bool.not_eq_true', Bool.not_eq_false', bne_iff_ne, beq_iff_eq, beq_eq_false_iff_ne, bne_eq_false_iff_eq, Int.not_lt, Int.not_le] at hp); (try (exfalso; first | omega | (cases hp; done))));
      refine ex_exit ?_;
      refine ex_seq ?_;
      refine ex_region ?_;
      apply exl_is; rfl; rfl; rfl; (apply g_move; rfl);
      apply exl_is; rfl; rfl; rfl; (apply g_move; rfl);
      apply exl_is; rfl; rfl; rfl; (apply g_move; rfl);
      apply exl_isB; rfl; rfl; rfl; (apply g_binInt; rfl; rfl; rfl); intro _ _;
      apply exl_is; rfl; rfl; rfl; (apply g_move; rfl);
      refine exl_caseL rfl (fun h => ?_) (fun h => ?_) <;> ((first | (subst h; rename BV _ true => h0; have h := h0.eq; clear h0) | (subst h; rename BV _ false => h0; have h := h0.eq; clear h0) | skip); (have hp := h; try simp only [decide_eq_true_eq, decide_eq_false_iff_not, Bool.not_eq_true', Bool.not_eq_false', bne_iff_ne, beq_iff_eq, beq_eq_false_iff_ne, bne_eq_false_iff_eq, Int.not_lt, Int.not_le] at hp); (try (exfalso; first | omega | (cases hp; done))));
      apply exl_isW; rfl; (rfl); rfl; rfl; (apply g_move; rfl);
      apply exl_isW; rfl; (rfl); rfl; rfl; (apply g_move; rfl);
      apply exl_isW; rfl; (rfl); rfl; rfl; (apply g_move; rfl);
      apply exl_isW; rfl; (rfl); rfl; rfl; (apply g_indexDl; rfl; rfl; rfl; (rfl); (assumption));
      apply exl_isW; rfl; (rfl); rfl; rfl; (apply g_loadAgg; rfl; decide; rfl; (exact .e rfl rfl));
      apply exl_isW; rfl; (rfl); rfl; rfl; (apply g_move; rfl);
      apply exl_isW; rfl; (rfl); rfl; rfl; (exact g_call rfl rfl (enters_b (by kernel_rfl)) (cc _));
      apply exl_isBW; rfl; (rfl); rfl; rfl; (apply g_binInt; rfl; rfl; rfl); intro _ _;
      apply exl_is; rfl; rfl; rfl; (apply g_pick_t; rfl; (rfl); rfl);
      apply exl_is; rfl; rfl; rfl; (apply g_assign; rfl);
      apply exl_is; rfl; rfl; rfl; (apply g_assign; rfl);
      refine exl_nilT ?_;
      refine ex_ret ?_;
      simp only [thenA, blockA, roundA, noGotoA, retA, ↓reduceIte, Nat.reduceEqDiff];
      rotate_left
      (all_goals (repeat (rename BV _ _ => hbv; cases hbv)))
      all_goals (try (exfalso; first | (rename true = false => hx; cases hx; done) | (rename false = true => hx; cases hx; done)))
      all_goals
        refine ret_is .nil (.cons (.ofTmp rfl) (.cons (.ofTmp rfl) .nil)) (by repeat (first | exact List.Sublist.refl _ | apply List.Sublist.cons_cons | apply List.Sublist.cons)) ?_
        rfl
    · rw [List.drop_of_length_le (by omega)]
      refine ex_seq ?_;
      refine ex_seq ?_;
      refine ex_region ?_;
      apply exl_is; rfl; rfl; rfl; (apply g_move; rfl);
      apply exl_is; rfl; rfl; rfl; (apply g_move; rfl);
      apply exl_isB; rfl; rfl; rfl; (apply g_binInt; rfl; rfl; rfl); intro _ _;
      refine exl_nilT ?_;
      refine ex_cond rfl (fun h => ?_) (fun h => ?_) <;> ((first | (subst h; rename BV _ true => h0; have h := h0.eq; clear h0) | (subst h; rename BV _ false => h0; have h := h0.eq; clear h0) | skip); (have hp := h; try simp only [decide_eq_true_eq, decide_eq_false_iff_not, Bool.not_eq_true', Bool.not_eq_false', bne_iff_ne, beq_iff_eq, beq_eq_false_iff_ne, bne_eq_false_iff_eq, Int.not_lt, Int.not_le] at hp); (try (exfalso; first | omega | (cases hp; done))));
      refine ex_exit ?_;
      refine ex_seq ?_;
      refine ex_region ?_;
      apply exl_is; rfl; rfl; rfl; (apply g_move; rfl);
      apply exl_is; rfl; rfl; rfl; (apply g_move; rfl);
      apply exl_is; rfl; rfl; rfl; (apply g_move; rfl);
      apply exl_isB; rfl; rfl; rfl; (apply g_binInt; rfl; rfl; rfl); intro _ _;
      apply exl_is; rfl; rfl; rfl; (apply g_move; rfl);
      refine exl_caseL rfl (fun h => ?_) (fun h => ?_) <;> ((first | (subst h; rename BV _ true => h0; have h := h0.eq; clear h0) | (subst h; rename BV _ false => h0; have h := h0.eq; clear h0) | skip); (have hp := h; try simp only [decide_eq_true_eq, decide_eq_false_iff_not, Bool.not_eq_true', Bool.not_eq_false', bne_iff_ne, beq_iff_eq, beq_eq_false_iff_ne, bne_eq_false_iff_eq, Int.not_lt, Int.not_le] at hp); (try (exfalso; first | omega | (cases hp; done))));
      refine exl_skipL rfl (by rfl) rfl rfl ?_;
      refine exl_skipL rfl (by rfl) rfl rfl ?_;
      refine exl_skipL rfl (by rfl) rfl rfl ?_;
      refine exl_skipL rfl (by rfl) rfl rfl ?_;
      refine exl_skipL rfl (by rfl) rfl rfl ?_;
      refine exl_skipL rfl (by rfl) rfl rfl ?_;
      refine exl_skipL rfl (by rfl) rfl rfl ?_;
      refine exl_skipL rfl (by rfl) rfl rfl ?_;
      apply exl_is; rfl; rfl; rfl; (apply g_pick_f; rfl; (rfl); rfl);
      apply exl_is; rfl; rfl; rfl; (apply g_assign; rfl);
      apply exl_is; rfl; rfl; rfl; (apply g_assign; rfl);
      refine exl_nilT ?_;
      refine ex_ret ?_;
      simp only [thenA, blockA, roundA, noGotoA, retA, ↓reduceIte, Nat.reduceEqDiff];
      rotate_left
      (all_goals (repeat (rename BV _ _ => hbv; cases hbv)))
      all_goals (try (exfalso; first | (rename true = false => hx; cases hx; done) | (rename false = true => hx; cases hx; done)))
      refine ret_is .nil (.cons (.ofTmp rfl) (.cons (.ofTmp rfl) .nil)) (by repeat (first | exact List.Sublist.refl _ | apply List.Sublist.cons_cons | apply List.Sublist.cons)) ?_
      rfl
def idxFrom {α : Type} (p : α → Bool) : List α → Nat → Int
  | [], _ => -1
  | x :: r, k => if p x then (k : Int) else idxFrom p r (k + 1)
theorem idxFrom_drop {α : Type} (p : α → Bool) {l : List α} {k : Nat} {c : α} (h : l[k]? = some c) : idxFrom p (l.drop k) k = if p c then (k : Int) else idxFrom p (l.drop (k + 1)) (k + 1) := by
  rw [fc_drop h]; rfl
theorem idxFrom_any {α : Type} (p : α → Bool) : ∀ (l : List α) (k : Nat), decide (0 ≤ idxFrom p l k) = l.any p
  | [], k => rfl
  | x :: r, k => by
    by_cases hx : p x = true
    · have h1 : idxFrom p (x :: r) k = (k : Int) := if_pos hx
      rw [h1]; simp [hx]
    · have h1 : idxFrom p (x :: r) k = idxFrom p r (k + 1) := if_neg hx
      rw [h1, idxFrom_any p r (k + 1)]; simp [hx]
set_option maxRecDepth 10000 in
theorem fInt_idx (l : List Int) (g : Nat) (first cap : List AV) (p : Int → Bool) (σ : List Ent) (he : Enters Try.prog g) (hf : ∀ (k : Nat) (c : Int), l[k]? = some c → SCall Try.prog g (first ++ [(AV.int .i64) c] ++ cap) σ (Is (.bool (p c)) σ)) :
    SCall Try.prog 50 [.dl 1 (l.map intC), .fn (.func g) first cap] σ (Is (.int .i64 (idxFrom p l 0)) σ) := by
  refine scall_of Try.func50 rfl (by simp) ?_
  refine ex_seq ?_;
  refine ex_region ?_;
  apply exl_is; rfl; rfl; rfl; (apply g_assign; rfl);
  refine exl_nilT ?_;
  refine ex_seq ?_;
  refine ex_seq ?_;
  refine ex_region ?_;
  apply exl_is; rfl; rfl; rfl; (apply g_move; rfl);
  apply exl_is; rfl; rfl; rfl; (apply g_len; rfl; rfl; (exact (List.length_map _).symm));
  apply exl_is; rfl; rfl; rfl; (apply g_move; rfl);
  refine exl_nilT ?_;
  refine ex_block ?_;
  rotate_left
  (all_goals (repeat (rename BV _ _ => hbv; cases hbv)))
  all_goals (try (exfalso; first | (rename true = false => hx; cases hx; done) | (rename false = true => hx; cases hx; done)))
  refine ex_len (t := 0) rfl ((List.length_map _).symm) (fun hlen => ?_)
  refine ex_loop (fun (k : Nat) => (⟨[(0, .dl 1 (l.map intC)), (1, .fn (.func g) first cap), (7, .int .i64 l.length), (8, .int .i64 k)], σ, [], Try.f50.ntmps⟩ : St)) (fun k => k ≤ l.length ∧ idxFrom p l 0 = idxFrom p (l.drop k) k) (fun k => l.length - k) 0 (⟨Nat.zero_le _, rfl⟩) (St.le_of (by repeat (first | exact trivial | refine ⟨rfl, ?_⟩)) (by repeat (first | exact List.Sublist.refl _ | apply List.Sublist.cons_cons | apply List.Sublist.cons))) ?_
  intro k hI
  by_cases hk : k < l.length
  · obtain ⟨c, hc⟩ : ∃ c, l[k]? = some c := ⟨_, List.getElem?_eq_getElem hk⟩
    have hd := idxFrom_drop p hc
    refine ex_seq ?_;
    refine ex_region ?_;
    apply exl_isB; rfl; rfl; rfl; (apply g_binInt; rfl; rfl; rfl); intro _ _;
    refine exl_nilT ?_;
    refine ex_seq ?_;
    refine ex_cond rfl (fun h => ?_) (fun h => ?_) <;> ((first | (subst h; rename BV _ true => h0; have h := h0.eq; clear h0) | (subst h; rename BV _ false => h0; have h := h0.eq; clear h0) | skip); (have hp := h; try simp only [decide_eq_true_eq, decide_eq_false_iff_not, Bool.not_eq_true', Bool.not_eq_false', bne_iff_ne, beq_iff_eq, beq_eq_false_iff_ne, bne_eq_false_iff_eq, Int.not_lt, Int.not_le] at hp); (try (exfalso; first | omega | (cases hp; done))));
    refine ex_skip ?_;
    refine ex_seq ?_;
    refine ex_block ?_;
    refine ex_seq ?_;
    refine ex_region ?_;
    apply exl_is; rfl; rfl; rfl; (apply g_move; rfl);
    apply exl_is; rfl; rfl; rfl; (apply g_assign; rfl);
    refine exl_nilT ?_;
    refine ex_seq ?_;
    refine ex_region ?_;
    apply exl_is; rfl; rfl; rfl; (apply g_move; rfl);
    apply exl_is; rfl; rfl; rfl; (apply g_move; rfl);
    apply exl_is; rfl; rfl; rfl; (apply g_move; rfl);
    apply exl_is; rfl; rfl; rfl; (apply g_indexDl; rfl; rfl; rfl; (rfl); (exact get_map (by assumption)));
    apply exl_is; rfl; rfl; rfl; (apply g_load1; rfl; rfl; (exact .e rfl));
    apply exl_is; rfl; rfl; rfl; (exact g_call rfl rfl he (hf k c hc));
    refine exl_nilT ?_;
    refine ex_cond rfl (fun h => ?_) (fun h => ?_) <;> ((first | (subst h; rename BV _ true => h0; have h := h0.eq; clear h0) | (subst h; rename BV _ false => h0; have h := h0.eq; clear h0) | skip); (have hp := h; try simp only [decide_eq_true_eq, decide_eq_false_iff_not, Bool.not_eq_true', Bool.not_eq_false', bne_iff_ne, beq_iff_eq, beq_eq_false_iff_ne, bne_eq_false_iff_eq, Int.not_lt, Int.not_le] at hp); (try (exfalso; first | omega | (cases hp; done))));
    refine ex_seq ?_;
    refine ex_region ?_;
    apply exl_is; rfl; rfl; rfl; (apply g_move; rfl);
    apply exl_is; rfl; rfl; rfl; (apply g_assign; rfl);
    refine exl_nilT ?_;
    refine ex_ret ?_;
    simp only [thenA, blockA, roundA, noGotoA, retA, ↓reduceIte, Nat.reduceEqDiff];
    rotate_left;
    refine ex_skip ?_;
    refine ex_region ?_;
    apply exl_is; rfl; rfl; rfl; (apply g_add; rfl; rfl; rfl; exact ⟨by omega, by omega⟩);
    apply exl_is; rfl; rfl; rfl; (apply g_move; rfl);
    refine exl_nil ?_;
    simp only [thenA, blockA, roundA, noGotoA, retA, ↓reduceIte, Nat.reduceEqDiff];
    rotate_left
    (all_goals (repeat (rename BV _ _ => hbv; cases hbv)))
    all_goals (try (exfalso; first | (rename true = false => hx; cases hx; done) | (rename false = true => hx; cases hx; done)))
    · refine ret_is .nil (.cons (.ofTmp rfl) .nil) (List.Sublist.refl _) (int_eq ?_)
      rw [hI.2, hd, if_pos (by assumption)]
    · refine ⟨k + 1, ⟨hk, by rw [hI.2, hd, if_neg (by simp [*])]⟩, by omega, St.le_of (by repeat (first | exact trivial | refine ⟨rfl, ?_⟩)) (by repeat (first | exact List.Sublist.refl _ | apply List.Sublist.cons_cons | apply List.Sublist.cons))⟩
  · refine ex_seq ?_;
    refine ex_region ?_;
    apply exl_isB; rfl; rfl; rfl; (apply g_binInt; rfl; rfl; rfl); intro _ _;
    refine exl_nilT ?_;
    refine ex_seq ?_;
    refine ex_cond rfl (fun h => ?_) (fun h => ?_) <;> ((first | (subst h; rename BV _ true => h0; have h := h0.eq; clear h0) | (subst h; rename BV _ false => h0; have h := h0.eq; clear h0) | skip); (have hp := h; try simp only [decide_eq_true_eq, decide_eq_false_iff_not, Bool.not_eq_true', Bool.not_eq_false', bne_iff_ne, beq_iff_eq, beq_eq_false_iff_ne, bne_eq_false_iff_eq, Int.not_lt, Int.not_le] at hp); (try (exfalso; first | omega | (cases hp; done))));
    refine ex_exit ?_;
    refine ex_seq ?_;
    refine ex_region ?_;
    apply exl_is; rfl; rfl; rfl; (apply g_assign; rfl);
    refine exl_nilT ?_;
    refine ex_ret ?_;
    simp only [thenA, blockA, roundA, noGotoA, retA, ↓reduceIte, Nat.reduceEqDiff];
    rotate_left
    (all_goals (repeat (rename BV _ _ => hbv; cases hbv)))
    all_goals (try (exfalso; first | (rename true = false => hx; cases hx; done) | (rename false = true => hx; cases hx; done)))
    refine ret_is .nil (.cons (.ofTmp rfl) .nil) (List.Sublist.refl _) (int_eq ?_)
    rw [hI.2, List.drop_of_length_le (by omega)]; rfl

set_option maxRecDepth 10000 in
theorem fInt_any (l : List Int) (g : Nat) (first cap : List AV) (p : Int → Bool) (σ : List Ent) (he : Enters Try.prog g) (hf : ∀ (k : Nat) (c : Int), l[k]? = some c → SCall Try.prog g (first ++ [(AV.int .i64) c] ++ cap) σ (Is (.bool (p c)) σ)) :
    SCall Try.prog 44 [.dl 1 (l.map intC), .fn (.func g) first cap] σ (Is (.bool (l.any p)) σ) := by
  refine scall_of Try.func44 rfl (by simp) ?_
  refine ex_seq ?_;
  refine ex_region ?_;
  apply exl_is; rfl; rfl; rfl; (apply g_assign; rfl);
  refine exl_nilT ?_;
  refine ex_seq ?_;
  refine ex_region ?_;
  apply exl_is; rfl; rfl; rfl; (apply g_move; rfl);
  apply exl_is; rfl; rfl; rfl; (apply g_move; rfl);
  apply exl_is; rfl; rfl; rfl; (exact g_call rfl rfl (enters_b (by kernel_rfl)) (fInt_idx l g first cap p σ he hf));
  apply exl_isB; rfl; rfl; rfl; (apply g_binInt; rfl; rfl; rfl); intro _ _;
  apply exl_is; rfl; rfl; rfl; (apply g_assign; rfl);
  refine exl_nilT ?_;
  refine ex_ret ?_;
  simp only [thenA, blockA, roundA, noGotoA, retA, ↓reduceIte, Nat.reduceEqDiff];
  rotate_left
  (all_goals (repeat (rename BV _ _ => hbv; cases hbv)))
  all_goals (try (exfalso; first | (rename true = false => hx; cases hx; done) | (rename false = true => hx; cases hx; done)))
  refine ret_is .nil (.cons (.ofTmp rfl) .nil) (List.Sublist.refl _) (bool_eq ?_)
  exact idxFrom_any p l 0
def limB (most : Int) (l : List Int) : Bool := l.all fun n => inR n 0 most
set_option maxRecDepth 10000 in
theorem limited1_c (n most : Int) {b : Nat} {σ : List Ent} (hm : Ent.cells b [.int .i64 most] 3 ∈ σ) : SCall Try.prog 45 [.int .i64 n, .ptr b 0] σ (Is (.bool (!inR n 0 most)) σ) := by
  refine scall_of Try.func45 rfl (by simp) ?_
  refine ex_seq ?_;
  refine ex_region ?_;
  apply exl_is; rfl; rfl; rfl; (apply g_assign; rfl);
  refine exl_nilT ?_;
  refine ex_seq ?_;
  refine ex_region ?_;
  apply exl_is; rfl; rfl; rfl; (apply g_move; rfl);
  apply exl_isB; rfl; rfl; rfl; (apply g_binInt; rfl; rfl; rfl); intro _ _;
  apply exl_is; rfl; rfl; rfl; (apply g_move; rfl);
  refine exl_caseL rfl (fun h => ?_) (fun h => ?_) <;> ((first | (subst h; rename BV _ true => h0; have h := h0.eq; clear h0) | (subst h; rename BV _ false => h0; have h := h0.eq; clear h0) | skip); (have hp := h; try simp only [decide_eq_true_eq, decide_eq_false_iff_not, Bool.not_eq_true', Bool.not_eq_false', bne_iff_ne, beq_iff_eq, beq_eq_false_iff_ne, bne_eq_false_iff_eq, Int.not_lt, Int.not_le] at hp); (try (exfalso; first | omega | (cases hp; done))));
  refine exl_skipL rfl (by rfl) rfl rfl ?_;
  refine exl_skipL rfl (by rfl) rfl rfl ?_;
  refine exl_skipL rfl (by rfl) rfl rfl ?_;
  apply exl_is; rfl; rfl; rfl; (apply g_pick_t; rfl; (rfl); rfl);
  apply exl_is; rfl; rfl; rfl; (apply g_assign; rfl);
  refine exl_nilT ?_;
  refine ex_ret ?_;
  simp only [thenA, blockA, roundA, noGotoA, retA, ↓reduceIte, Nat.reduceEqDiff];
  rotate_left;
  apply exl_isW; rfl; (rfl); rfl; rfl; (apply g_move; rfl);
  apply exl_isW; rfl; (rfl); rfl; rfl; (apply g_load1; rfl; rfl; (exact .p (by ((repeat (first | exact List.Mem.head _ | assumption | refine List.Mem.tail _ ?_)); done)) rfl));
  apply exl_isBW; rfl; (rfl); rfl; rfl; (apply g_binInt; rfl; rfl; rfl); intro _ _;
  apply exl_is; rfl; rfl; rfl; (apply g_pick_f; rfl; (rfl); rfl);
  apply exl_is; rfl; rfl; rfl; (apply g_assign; rfl);
  refine exl_nilT ?_;
  refine ex_ret ?_;
  simp only [thenA, blockA, roundA, noGotoA, retA, ↓reduceIte, Nat.reduceEqDiff];
  rotate_left
  (all_goals (repeat (rename BV _ _ => hbv; cases hbv)))
  all_goals (try (exfalso; first | (rename true = false => hx; cases hx; done) | (rename false = true => hx; cases hx; done)))
  all_goals
    refine ret_is .nil (.cons (.ofTmp rfl) .nil) (by repeat (first | exact List.Sublist.refl _ | apply List.Sublist.cons_cons | apply List.Sublist.cons)) (bool_eq ?_)
    unfold inR
    first
      | (rw [decide_eq_false (p := 0 ≤ n) (by omega)]; rfl)
      | (rw [decide_eq_true (p := 0 ≤ n) (by omega), Bool.true_and]; by_cases hq : n ≤ most
         · rw [decide_eq_true hq, decide_eq_false (by omega)]; rfl
         · rw [decide_eq_false hq, decide_eq_true (by omega)]; rfl)
set_option maxRecDepth 10000 in
theorem limited_c (most : Int) (l : List Int) (σ : List Ent) : SCall Try.prog 33 [.int .i64 most, ints l] σ (Is (.bool (limB most l)) σ) := by
  refine scall_of Try.func33 rfl (by simp) ?_
  have hn : (l.any fun n => !inR n 0 most) = !limB most l := by
    unfold limB
    rw [Bool.eq_iff_iff, List.any_eq_true, Bool.not_eq_true', List.all_eq_false]
    constructor
    · rintro ⟨x, h1, h2⟩; exact ⟨x, h1, by simpa using h2⟩
    · rintro ⟨x, h1, h2⟩; exact ⟨x, h1, by simpa using h2⟩
  refine ex_seq ?_;
  refine ex_region ?_;
  refine exl_box rfl rfl rfl (g_box rfl rfl) ?_; intro _;
  apply exl_is; rfl; rfl; rfl; (apply g_assign; rfl);
  refine exl_nilT ?_;
  refine ex_seq ?_;
  refine ex_region ?_;
  apply exl_is; rfl; rfl; rfl; (apply g_move; rfl);
  apply exl_is; rfl; rfl; rfl; (apply g_makeFunc; rfl; rfl);
  apply exl_isB; rfl; rfl; rfl; (exact g_call rfl rfl (enters_b (by kernel_rfl)) (fInt_any l _ [] _ (fun n => !inR n 0 most) _ (enters_b (by kernel_rfl)) (fun _ n _ => limited1_c n most (by ((repeat (first | exact List.Mem.head _ | assumption | refine List.Mem.tail _ ?_)); done))))); intro _ _;
  apply exl_isB; rfl; rfl; rfl; (apply g_not; rfl); intro _ _;
  apply exl_is; rfl; rfl; rfl; (apply g_assign; rfl);
  refine exl_nilT ?_;
  refine ex_ret ?_;
  simp only [thenA, blockA, roundA, noGotoA, retA, ↓reduceIte, Nat.reduceEqDiff];
  rotate_left
  (all_goals (repeat (rename BV _ _ => hbv; cases hbv)))
  all_goals (try (exfalso; first | (rename true = false => hx; cases hx; done) | (rename false = true => hx; cases hx; done)))
  all_goals
    refine ret_is .nil (.cons (.ofTmp rfl) .nil) (by repeat (first | exact List.Sublist.refl _ | apply List.Sublist.cons_cons | apply List.Sublist.cons)) (bool_eq ?_)
    rw [hn, Bool.not_not]
end Go.Proofs.Ytobcnochlkdpaaa
