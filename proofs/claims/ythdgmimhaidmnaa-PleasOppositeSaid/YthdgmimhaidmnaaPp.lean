/- answers: the answers for all literals. -/
import Derived.Test.YthdgmimhaidmnaaPm
import Derived.Test.YthdgmimhaidmnaaPn
namespace Go.Proofs.Ythdgmimhaidmnaa
set_option linter.unusedSimpArgs false
set_option linter.unusedVariables false
/-- The answer for a literal. -/
def ansK (p : Pl) (x : Int) : Int := if litB x then (if (derivedB lits p).2 x = 0 then 3 else (derivedB lits p).2 x) else 0
theorem answer_ok {p : Pl} (hc : checkB lits p = 0) {x : Int} (hx : litB x = true) : answerB lits p x = (ansK p x, 0) := by
  unfold answerB ansK
  simp only [hc, hx, bne_self_eq_false, Bool.false_eq_true, if_false, Bool.not_true, if_true]
theorem ansK_ne {p : Pl} {x : Int} (hx : litB x = true) : ansK p x ≠ 0 := by
  unfold ansK
  rw [if_pos hx]
  split
  · decide
  · assumption
theorem litB_of {q : Nat} (h1 : 1 ≤ q) (h2 : q ≤ 32) : litB (q : Int) = true ∧ litB (-(q : Int)) = true := by
  simp only [litB, Bool.and_eq_true, decide_eq_true_eq, bne_iff_ne, ne_eq]
  omega
/-- The answers for the literals up to q; of q itself the first j. -/
def ansTo (p : Pl) (q j : Nat) (x : Int) : Int := if x.natAbs < q ∨ (1 ≤ j ∧ x = q) ∨ (2 ≤ j ∧ x = -(q : Int)) then ansK p x else 0
theorem ansTo_start (p : Pl) : (fun _ => (0 : Int)) = ansTo p 1 0 := by
  funext x
  unfold ansTo
  split
  · have : x = 0 := by omega
    subst this
    rfl
  · rfl
theorem ansTo_one (p : Pl) (q : Nat) : (fun x => if x = (q : Int) then ansK p q else ansTo p q 0 x) = ansTo p q 1 := by
  funext x
  unfold ansTo
  by_cases h : x = q
  · subst h; simp
  · have e : (x.natAbs < q ∨ (1 ≤ 1 ∧ x = q) ∨ (2 ≤ 1 ∧ x = -(q : Int))) ↔ (x.natAbs < q ∨ (1 ≤ 0 ∧ x = q) ∨ (2 ≤ 0 ∧ x = -(q : Int))) := by omega
    rw [if_neg h]
    simp only [e]
theorem ansTo_two (p : Pl) (q : Nat) : (fun x => if x = -(q : Int) then ansK p (-(q : Int)) else ansTo p q 1 x) = ansTo p (q + 1) 0 := by
  funext x
  unfold ansTo
  by_cases h : x = -(q : Int)
  · subst h
    have : (-(q : Int)).natAbs < q + 1 := by omega
    simp [this]
  · have e : (x.natAbs < q ∨ (1 ≤ 1 ∧ x = q) ∨ (2 ≤ 1 ∧ x = -(q : Int))) ↔ (x.natAbs < q + 1 ∨ (1 ≤ 0 ∧ x = ((q + 1 : Nat) : Int)) ∨ (2 ≤ 0 ∧ x = -((q + 1 : Nat) : Int))) := by omega
    rw [if_neg h]
    simp only [e]
theorem ansTo_end (p : Pl) : ansTo p 33 0 = ansK p := by
  funext x
  unfold ansTo
  split
  · rfl
  · rename_i h
    unfold ansK
    have : litB x = false := by
      cases hl : litB x with
      | false => rfl
      | true =>
        simp only [litB, Bool.and_eq_true, decide_eq_true_eq, bne_iff_ne, ne_eq] at hl
        omega
    rw [this]
    rfl
/-- What answers hands back, if all is well. -/
def Answers (p : Pl) (σ : List Ent) (r : AV) (τ : List Ent) : Prop := ∃ b n, r = .tup [.mp b, .bool true] ∧ τ = .imap b (intM (ansK p)) n :: σ
/-- Answer's contract, with what it answers told in short. -/
theorem answer_k {p : Pl} (hc : checkB lits p = 0) : ∃ A : Int → Int, A = ansK p ∧ (∀ x, litB x = true → A x ≠ 0) ∧ ∀ x, litB x = true → ∀ σ, SCall Try.prog 19 [.agg (plC p), .int .i64 x] σ (Is (.tup [.int .i64 (A x), .int .i64 0]) σ) :=
  ⟨_, rfl, fun x hx => ansK_ne hx, fun x hx σ => by have := answer_c p x σ; rw [answer_ok hc hx] at this; exact this⟩
set_option maxHeartbeats 1000000 in
set_option maxRecDepth 10000 in
theorem answers_c (p : Pl) (hc : checkB lits p = 0) (σ : List Ent) : SCall Try.prog 16 [.agg (plC p)] σ (Answers p σ) := by
  refine scall_of Try.func16 rfl (by simp) ?_
  obtain ⟨A, hA, hA0, ha⟩ := answer_k hc
  have hone : ∀ q : Nat, (fun x => if x = (q : Int) then A q else ansTo p q 0 x) = ansTo p q 1 := fun q => by rw [hA]; exact ansTo_one p q
  have htwo : ∀ q : Nat, (fun x => if x = -(q : Int) then A (-(q : Int)) else ansTo p q 1 x) = ansTo p (q + 1) 0 := fun q => by rw [hA]; exact ansTo_two p q
  clear hA hc
  refine ex_seq ?_;
  refine ex_region ?_;
  refine exl_box rfl rfl rfl (g_box rfl rfl) ?_; intro _;
  apply exl_is; rfl; rfl; rfl; (apply g_assign; rfl);
  apply exl_is; rfl; rfl; rfl; (apply g_assign; rfl);
  refine exl_nilT ?_;
  refine ex_seq ?_;
  refine ex_region ?_;
  refine exl_map rfl rfl rfl (by exact g_makeMap) ?_; intro _;
  apply exl_is; rfl; rfl; rfl; (apply g_assign; rfl);
  refine exl_nilT ?_;
  refine ex_seq ?_;
  refine ex_seq ?_;
  refine ex_region ?_;
  apply exl_is; rfl; rfl; rfl; (apply g_assign; rfl);
  refine exl_nilT ?_;
  refine ex_block ?_;
  rotate_left
  (all_goals (repeat (rename BV _ _ => hbv; cases hbv)))
  all_goals (try (exfalso; first | (rename true = false => hx; cases hx; done) | (rename false = true => hx; cases hx; done)))
  rename_i b1 b2
  rw [intM_none, ansTo_start p]
  refine ex_loop (fun (y : Nat × Nat) => (⟨[(2, .mp b2), (1, .ptr b1 0), (4, .int .i64 (y.1 : Int))], .imap b2 (intM (ansTo p y.1 0)) y.2 :: .cells b1 (plC p) 25 :: σ, [], Try.f16.ntmps⟩ : St)) (fun y => 1 ≤ y.1 ∧ y.1 ≤ 33) (fun y => 33 - y.1) (1, 0) (⟨by decide, by decide⟩) (St.le_of (by repeat (first | exact trivial | refine ⟨rfl, ?_⟩)) (by repeat (first | exact List.Sublist.refl _ | apply List.Sublist.cons_cons | apply List.Sublist.cons))) ?_
  intro y hI
  obtain ⟨q, m⟩ := y
  obtain ⟨hI1, hI2⟩ := hI
  dsimp only at hI1 hI2 ⊢
  by_cases hq : q ≤ 32
  · obtain ⟨hl1, hl2⟩ := litB_of hI1 hq
    refine ex_seq ?_;
    refine ex_seq ?_;
    refine ex_region ?_;
    apply exl_is; rfl; rfl; rfl; (apply g_move; rfl);
    apply exl_isB; rfl; rfl; rfl; (apply g_binInt; rfl; rfl; rfl); intro _ _;
    refine exl_nilT ?_;
    refine ex_cond rfl (fun h => ?_) (fun h => ?_) <;> ((first | (subst h; rename BV _ true => h0; have h := h0.eq; clear h0) | (subst h; rename BV _ false => h0; have h := h0.eq; clear h0) | skip); (have hp := h; try simp only [decide_eq_true_eq, decide_eq_false_iff_not, Bool.not_eq_true', Bool.not_eq_false', bne_iff_ne, beq_iff_eq, beq_eq_false_iff_ne, bne_eq_false_iff_eq, Int.not_lt, Int.not_le] at hp); (try (exfalso; first | omega | (cases hp; done))));
    refine ex_skip ?_;
    refine ex_seq ?_;
    refine ex_block ?_;
    refine ex_seq ?_;
    refine ex_region ?_;
    apply exl_is; rfl; rfl; rfl; (apply g_move; rfl);
    apply exl_is; rfl; rfl; rfl; (apply g_move; rfl);
    apply exl_is; rfl; rfl; rfl; (apply g_neg; rfl; rfl; exact ⟨by omega, by omega⟩);
    apply exl_is; rfl; rfl; rfl; (exact gop_sealed (g_buildSlice rfl rfl (by decide) rfl rfl (by (simp only [chunkN, List.take_succ_cons, List.take_zero, List.drop_succ_cons, List.drop_zero]; rfl))));
    apply exl_is; rfl; rfl; rfl; (apply g_len; rfl; rfl; (rfl));
    apply exl_is; rfl; rfl; rfl; (apply g_move; rfl);
    refine exl_nilT ?_;
    refine ex_block ?_;
    rotate_left
    (all_goals (repeat (rename BV _ _ => hbv; cases hbv)))
    all_goals (try (exfalso; first | (rename true = false => hx; cases hx; done) | (rename false = true => hx; cases hx; done)))
    refine ex_loop (fun (z : Nat × Nat) => (⟨[(19, .int .i64 (z.1 : Int)), (17, ints [(q : Int), -(q : Int)]), (18, .int .i64 2), (2, .mp b2), (1, .ptr b1 0), (4, .int .i64 (q : Int))], .imap b2 (intM (if z.1 = 0 then ansTo p q 0 else if z.1 = 1 then ansTo p q 1 else ansTo p (q + 1) 0)) z.2 :: .cells b1 (plC p) 25 :: σ, [], Try.f16.ntmps⟩ : St)) (fun z => z.1 ≤ 2) (fun z => 2 - z.1) (0, m) (Nat.zero_le _) (St.le_of (by repeat (first | exact trivial | refine ⟨rfl, ?_⟩)) (by repeat (first | exact List.Sublist.refl _ | apply List.Sublist.cons_cons | apply List.Sublist.cons))) ?_
    intro z hI
    obtain ⟨j, n⟩ := z
    dsimp only at hI ⊢
    have g0 : ([(q : Int), -(q : Int)].map intC)[0]? = some (intC q) := rfl
    have g1 : ([(q : Int), -(q : Int)].map intC)[1]? = some (intC (-q)) := rfl
    rcases (show j = 0 ∨ j = 1 ∨ j = 2 by omega) with rfl | rfl | rfl
    · rw [if_pos rfl]
      refine ex_seq ?_;
      refine ex_region ?_;
      apply exl_isB; rfl; rfl; rfl; (apply g_binInt; rfl; rfl; rfl); intro _ _;
      refine exl_nilT ?_;
      refine ex_seq ?_;
      refine ex_cond rfl (fun h => ?_) (fun h => ?_) <;> ((first | (subst h; rename BV _ true => h0; have h := h0.eq; clear h0) | (subst h; rename BV _ false => h0; have h := h0.eq; clear h0) | skip); (have hp := h; try simp only [decide_eq_true_eq, decide_eq_false_iff_not, Bool.not_eq_true', Bool.not_eq_false', bne_iff_ne, beq_iff_eq, beq_eq_false_iff_ne, bne_eq_false_iff_eq, Int.not_lt, Int.not_le] at hp); (try (exfalso; first | omega | (cases hp; done))));
      refine ex_skip ?_;
      refine ex_seq ?_;
      refine ex_block ?_;
      refine ex_seq ?_;
      refine ex_region ?_;
      apply exl_is; rfl; rfl; rfl; (apply g_indexDl; rfl; rfl; rfl; (rfl); (assumption));
      apply exl_is; rfl; rfl; rfl; (apply g_load1; rfl; rfl; (exact .e rfl));
      apply exl_is; rfl; rfl; rfl; (apply g_assign; rfl);
      refine exl_nilT ?_;
      refine ex_seq ?_;
      refine ex_region ?_;
      apply exl_is; rfl; rfl; rfl; (apply g_loadAgg; rfl; decide; rfl; (exact .p (by ((repeat (first | exact List.Mem.head _ | assumption | refine List.Mem.tail _ ?_)); done)) rfl rfl));
      apply exl_is; rfl; rfl; rfl; (apply g_move; rfl);
      apply exl_is; rfl; rfl; rfl; (exact g_call rfl rfl (enters_b (by kernel_rfl)) (ha _ hl1 _));
      apply exl_is; rfl; rfl; rfl; (apply g_move; rfl);
      apply exl_is; rfl; rfl; rfl; (apply g_extract; rfl; rfl);
      apply exl_is; rfl; rfl; rfl; (apply g_extract; rfl; rfl);
      apply exl_is; rfl; rfl; rfl; (apply g_assign; rfl);
      apply exl_is; rfl; rfl; rfl; (apply g_assign; rfl);
      refine exl_nilT ?_;
      refine ex_seq ?_;
      refine ex_seq ?_;
      refine ex_region ?_;
      apply exl_is; rfl; rfl; rfl; (apply g_move; rfl);
      apply exl_isB; rfl; rfl; rfl; (apply g_binInt; rfl; rfl; rfl); intro _ _;
      refine exl_nilT ?_;
      refine ex_cond rfl (fun h => ?_) (fun h => ?_) <;> ((first | (subst h; rename BV _ true => h0; have h := h0.eq; clear h0) | (subst h; rename BV _ false => h0; have h := h0.eq; clear h0) | skip); (have hp := h; try simp only [decide_eq_true_eq, decide_eq_false_iff_not, Bool.not_eq_true', Bool.not_eq_false', bne_iff_ne, beq_iff_eq, beq_eq_false_iff_ne, bne_eq_false_iff_eq, Int.not_lt, Int.not_le] at hp); (try (exfalso; first | omega | (cases hp; done))));
      refine ex_skip ?_;
      refine ex_region ?_;
      apply exl_is; rfl; rfl; rfl; (apply g_move; rfl);
      apply exl_is; rfl; rfl; rfl; (apply g_move; rfl);
      apply exl_is; rfl; rfl; rfl; (apply g_move; rfl);
      apply exl_do; rfl; rfl; (apply g_mapUpdate; rfl; rfl; rfl; rfl; (exact Upd.here); (rfl));
      refine exl_nil ?_;
      refine ex_region ?_;
      apply exl_is; rfl; rfl; rfl; (apply g_add; rfl; rfl; rfl; exact ⟨by omega, by omega⟩);
      apply exl_is; rfl; rfl; rfl; (apply g_move; rfl);
      refine exl_nil ?_;
      simp only [thenA, blockA, roundA, noGotoA, retA, ↓reduceIte, Nat.reduceEqDiff];
      rotate_left
      (all_goals (repeat (rename BV _ _ => hbv; cases hbv)))
      all_goals (try (exfalso; first | (rename true = false => hx; cases hx; done) | (rename false = true => hx; cases hx; done)))
      rw [intM_upd _ _ _ (hA0 _ hl1), hone]
      refine ⟨(1, _), show (1 : Nat) ≤ 2 by decide, show 2 - (1 : Nat) < 2 - 0 by decide, St.le_of (by repeat (first | exact trivial | refine ⟨rfl, ?_⟩)) (by repeat (first | exact List.Sublist.refl _ | apply List.Sublist.cons_cons | apply List.Sublist.cons))⟩
    · rw [if_neg (by decide), if_pos rfl]
      refine ex_seq ?_;
      refine ex_region ?_;
      apply exl_isB; rfl; rfl; rfl; (apply g_binInt; rfl; rfl; rfl); intro _ _;
      refine exl_nilT ?_;
      refine ex_seq ?_;
      refine ex_cond rfl (fun h => ?_) (fun h => ?_) <;> ((first | (subst h; rename BV _ true => h0; have h := h0.eq; clear h0) | (subst h; rename BV _ false => h0; have h := h0.eq; clear h0) | skip); (have hp := h; try simp only [decide_eq_true_eq, decide_eq_false_iff_not, Bool.not_eq_true', Bool.not_eq_false', bne_iff_ne, beq_iff_eq, beq_eq_false_iff_ne, bne_eq_false_iff_eq, Int.not_lt, Int.not_le] at hp); (try (exfalso; first | omega | (cases hp; done))));
      refine ex_skip ?_;
      refine ex_seq ?_;
      refine ex_block ?_;
      refine ex_seq ?_;
      refine ex_region ?_;
      apply exl_is; rfl; rfl; rfl; (apply g_indexDl; rfl; rfl; rfl; (rfl); (assumption));
      apply exl_is; rfl; rfl; rfl; (apply g_load1; rfl; rfl; (exact .e rfl));
      apply exl_is; rfl; rfl; rfl; (apply g_assign; rfl);
      refine exl_nilT ?_;
      refine ex_seq ?_;
      refine ex_region ?_;
      apply exl_is; rfl; rfl; rfl; (apply g_loadAgg; rfl; decide; rfl; (exact .p (by ((repeat (first | exact List.Mem.head _ | assumption | refine List.Mem.tail _ ?_)); done)) rfl rfl));
      apply exl_is; rfl; rfl; rfl; (apply g_move; rfl);
      apply exl_is; rfl; rfl; rfl; (exact g_call rfl rfl (enters_b (by kernel_rfl)) (ha _ hl2 _));
      apply exl_is; rfl; rfl; rfl; (apply g_move; rfl);
      apply exl_is; rfl; rfl; rfl; (apply g_extract; rfl; rfl);
      apply exl_is; rfl; rfl; rfl; (apply g_extract; rfl; rfl);
      apply exl_is; rfl; rfl; rfl; (apply g_assign; rfl);
      apply exl_is; rfl; rfl; rfl; (apply g_assign; rfl);
      refine exl_nilT ?_;
      refine ex_seq ?_;
      refine ex_seq ?_;
      refine ex_region ?_;
      apply exl_is; rfl; rfl; rfl; (apply g_move; rfl);
      apply exl_isB; rfl; rfl; rfl; (apply g_binInt; rfl; rfl; rfl); intro _ _;
      refine exl_nilT ?_;
      refine ex_cond rfl (fun h => ?_) (fun h => ?_) <;> ((first | (subst h; rename BV _ true => h0; have h := h0.eq; clear h0) | (subst h; rename BV _ false => h0; have h := h0.eq; clear h0) | skip); (have hp := h; try simp only [decide_eq_true_eq, decide_eq_false_iff_not, Bool.not_eq_true', Bool.not_eq_false', bne_iff_ne, beq_iff_eq, beq_eq_false_iff_ne, bne_eq_false_iff_eq, Int.not_lt, Int.not_le] at hp); (try (exfalso; first | omega | (cases hp; done))));
      refine ex_skip ?_;
      refine ex_region ?_;
      apply exl_is; rfl; rfl; rfl; (apply g_move; rfl);
      apply exl_is; rfl; rfl; rfl; (apply g_move; rfl);
      apply exl_is; rfl; rfl; rfl; (apply g_move; rfl);
      apply exl_do; rfl; rfl; (apply g_mapUpdate; rfl; rfl; rfl; rfl; (exact Upd.here); (rfl));
      refine exl_nil ?_;
      refine ex_region ?_;
      apply exl_is; rfl; rfl; rfl; (apply g_add; rfl; rfl; rfl; exact ⟨by omega, by omega⟩);
      apply exl_is; rfl; rfl; rfl; (apply g_move; rfl);
      refine exl_nil ?_;
      simp only [thenA, blockA, roundA, noGotoA, retA, ↓reduceIte, Nat.reduceEqDiff];
      rotate_left
      (all_goals (repeat (rename BV _ _ => hbv; cases hbv)))
      all_goals (try (exfalso; first | (rename true = false => hx; cases hx; done) | (rename false = true => hx; cases hx; done)))
      rw [intM_upd _ _ _ (hA0 _ hl2), htwo]
      refine ⟨(2, _), show (2 : Nat) ≤ 2 by decide, show 2 - (2 : Nat) < 2 - 1 by decide, St.le_of (by repeat (first | exact trivial | refine ⟨rfl, ?_⟩)) (by repeat (first | exact List.Sublist.refl _ | apply List.Sublist.cons_cons | apply List.Sublist.cons))⟩
    · rw [if_neg (by decide), if_neg (by decide)]
      refine ex_seq ?_;
      refine ex_region ?_;
      apply exl_isB; rfl; rfl; rfl; (apply g_binInt; rfl; rfl; rfl); intro _ _;
      refine exl_nilT ?_;
      refine ex_seq ?_;
      refine ex_cond rfl (fun h => ?_) (fun h => ?_) <;> ((first | (subst h; rename BV _ true => h0; have h := h0.eq; clear h0) | (subst h; rename BV _ false => h0; have h := h0.eq; clear h0) | skip); (have hp := h; try simp only [decide_eq_true_eq, decide_eq_false_iff_not, Bool.not_eq_true', Bool.not_eq_false', bne_iff_ne, beq_iff_eq, beq_eq_false_iff_ne, bne_eq_false_iff_eq, Int.not_lt, Int.not_le] at hp); (try (exfalso; first | omega | (cases hp; done))));
      refine ex_exit ?_;
      refine ex_region ?_;
      apply exl_is; rfl; rfl; rfl; (apply g_move; rfl);
      apply exl_is; rfl; rfl; rfl; (apply g_add; rfl; rfl; rfl; exact ⟨by omega, by omega⟩);
      apply exl_is; rfl; rfl; rfl; (apply g_assign; rfl);
      refine exl_nil ?_;
      simp only [thenA, blockA, roundA, noGotoA, retA, ↓reduceIte, Nat.reduceEqDiff];
      rotate_left
      (all_goals (repeat (rename BV _ _ => hbv; cases hbv)))
      all_goals (try (exfalso; first | (rename true = false => hx; cases hx; done) | (rename false = true => hx; cases hx; done)))
      refine ⟨(q + 1, n), ⟨by omega, by omega⟩, by simp only; omega, St.le_of (by repeat (first | exact trivial | refine ⟨rfl, ?_⟩)) (by repeat (first | exact List.Sublist.refl _ | apply List.Sublist.cons_cons | apply List.Sublist.cons))⟩
  · obtain rfl : q = 33 := by omega
    rw [ansTo_end]
    refine ex_seq ?_;
    refine ex_seq ?_;
    refine ex_region ?_;
    apply exl_is; rfl; rfl; rfl; (apply g_move; rfl);
    apply exl_isB; rfl; rfl; rfl; (apply g_binInt; rfl; rfl; rfl); intro _ _;
    refine exl_nilT ?_;
    refine ex_cond rfl (fun h => ?_) (fun h => ?_) <;> ((first | (subst h; rename BV _ true => h0; have h := h0.eq; clear h0) | (subst h; rename BV _ false => h0; have h := h0.eq; clear h0) | skip); (have hp := h; try simp only [decide_eq_true_eq, decide_eq_false_iff_not, Bool.not_eq_true', Bool.not_eq_false', bne_iff_ne, beq_iff_eq, beq_eq_false_iff_ne, bne_eq_false_iff_eq, Int.not_lt, Int.not_le] at hp); (try (exfalso; first | omega | (cases hp; done))));
    refine ex_exit ?_;
    refine ex_seq ?_;
    refine ex_region ?_;
    apply exl_is; rfl; rfl; rfl; (apply g_move; rfl);
    apply exl_is; rfl; rfl; rfl; (apply g_assign; rfl);
    apply exl_is; rfl; rfl; rfl; (apply g_assign; rfl);
    refine exl_nilT ?_;
    refine ex_ret ?_;
    simp only [thenA, blockA, roundA, noGotoA, retA, ↓reduceIte, Nat.reduceEqDiff];
    rotate_left
    (all_goals (repeat (rename BV _ _ => hbv; cases hbv)))
    all_goals (try (exfalso; first | (rename true = false => hx; cases hx; done) | (rename false = true => hx; cases hx; done)))
    refine ret_q .nil (.cons (.ofTmp rfl) (.cons (.ofTmp rfl) .nil)) (by repeat (first | exact List.Sublist.refl _ | apply List.Sublist.cons_cons | apply List.Sublist.cons)) ?_
    exact fin_drop (List.Sublist.cons_cons _ (List.Sublist.cons _ (List.Sublist.refl _))) (fin_done ⟨b2, m, rfl, rfl⟩)
end Go.Proofs.Ythdgmimhaidmnaa
