/- learn, derive. -/
import Derived.Test.YthdgmimhaidmnaaPe
import Derived.Test.YthdgmimhaidmnaaPf
namespace Go.Proofs.Ythdgmimhaidmnaa
set_option linter.unusedSimpArgs false
set_option linter.unusedVariables false

set_option maxRecDepth 10000 in
theorem learn_c {p : Pl} {K : Known} {kb bs bk nk : Nat} {tk : TypeId} {σ : List Ent} (x : Rs) :
    SCall Try.prog 29 [.ptr kb 0, .agg (rsC x)] (.cells kb (courtC p bs bk) tk :: .imap bk (intM K) nk :: σ) (fun r τ => r = .tup [] ∧ ∃ m, τ = .cells kb (courtC p bs bk) tk :: .imap bk (intM (learnK K x.lit x.proved)) m :: σ) := by
  refine scall_of Try.func29 rfl (by simp) ?_
  have e1 : x.proved = true → (fun y => if y = x.lit then (1 : Int) else if y = x.lit then 2 else K y) = learnK K x.lit x.proved := by
    intro h; funext y; unfold learnK; rw [h]; by_cases hy : y = x.lit <;> simp [hy]
  have e2 : x.proved = false → (fun y => if y = x.lit then (2 : Int) else K y) = learnK K x.lit x.proved := by
    intro h; funext y; unfold learnK; rw [h]; simp
  refine ex_seq ?_;
  refine ex_region ?_;
  refine exl_box rfl rfl rfl (g_box rfl rfl) ?_; intro _;
  refine exl_nilT ?_;
  refine ex_seq ?_;
  rotate_left
  (all_goals (repeat (rename BV _ _ => hbv; cases hbv)))
  all_goals (try (exfalso; first | (rename true = false => hx; cases hx; done) | (rename false = true => hx; cases hx; done)))
  rename Nat => b1
  refine ex_drawLK anyK 6 [] rfl (by kernel_rfl) rfl ?_
  simp only [List.take_succ_cons, List.take_zero, List.drop_succ_cons, List.drop_zero]
  apply wl_is; rfl; rfl; rfl; (intro σ' hl; (apply g_move; rfl));
  apply wl_is; rfl; rfl; rfl; (intro σ' hl; (apply g_nilCheck; rfl; rfl));
  apply wl_is; rfl; rfl; rfl; (intro σ' hl; (apply g_fieldAddr; rfl; rfl; rfl));
  apply wl_is; rfl; rfl; rfl; (intro σ' hl; (apply g_load1; rfl; rfl; (exact .p (hl _ (True.intro) (by ((repeat (first | exact List.Mem.head _ | assumption | refine List.Mem.tail _ ?_)); done))) rfl)));
  apply wl_is; rfl; rfl; rfl; (intro σ' hl; (apply g_fieldAddr; rfl; rfl; rfl));
  apply wl_is; rfl; rfl; rfl; (intro σ' hl; (apply g_load1; rfl; rfl; (exact .p (hl _ (True.intro) (by ((repeat (first | exact List.Mem.head _ | assumption | refine List.Mem.tail _ ?_)); done))) rfl)));
  refine wl_nil ?_;
  apply exl_do; rfl; rfl; (apply g_mapUpdate; rfl; rfl; rfl; rfl; (exact Upd.there (Upd.there (Upd.here))); (exact intM_upd _ _ _ (by decide)));
  refine exl_nilT ?_;
  refine ex_seq ?_;
  refine ex_region ?_;
  apply exl_is; rfl; rfl; rfl; (apply g_fieldAddr; rfl; rfl; rfl);
  apply exl_is; rfl; rfl; rfl; (apply g_load1; rfl; rfl; (exact .p (by ((repeat (first | exact List.Mem.head _ | assumption | refine List.Mem.tail _ ?_)); done)) rfl));
  refine exl_nilT ?_;
  refine ex_cond rfl (fun h => ?_) (fun h => ?_) <;> ((first | (subst h; rename BV _ true => h0; have h := h0.eq; clear h0) | (subst h; rename BV _ false => h0; have h := h0.eq; clear h0) | skip); (have hp := h; try simp only [decide_eq_true_eq, decide_eq_false_iff_not, Bool.not_eq_true', Bool.not_eq_false', bne_iff_ne, beq_iff_eq, beq_eq_false_iff_ne, bne_eq_false_iff_eq, Int.not_lt, Int.not_le] at hp); (try (exfalso; first | omega | (cases hp; done))));
  rotate_left;
  refine ex_skip ?_;
  simp only [thenA, blockA, roundA, noGotoA, retA, ↓reduceIte, Nat.reduceEqDiff];
  rotate_left
  (all_goals (repeat (rename BV _ _ => hbv; cases hbv)))
  all_goals (try (exfalso; first | (rename true = false => hx; cases hx; done) | (rename false = true => hx; cases hx; done)))
  · refine ex_drawLK anyK 6 [] rfl (by kernel_rfl) rfl ?_
    simp only [List.take_succ_cons, List.take_zero, List.drop_succ_cons, List.drop_zero]
    apply wl_is; rfl; rfl; rfl; (intro σ' hl; (apply g_move; rfl));
    apply wl_is; rfl; rfl; rfl; (intro σ' hl; (apply g_nilCheck; rfl; rfl));
    apply wl_is; rfl; rfl; rfl; (intro σ' hl; (apply g_fieldAddr; rfl; rfl; rfl));
    apply wl_is; rfl; rfl; rfl; (intro σ' hl; (apply g_load1; rfl; rfl; (exact .p (hl _ (True.intro) (by ((repeat (first | exact List.Mem.head _ | assumption | refine List.Mem.tail _ ?_)); done))) rfl)));
    apply wl_is; rfl; rfl; rfl; (intro σ' hl; (apply g_fieldAddr; rfl; rfl; rfl));
    apply wl_is; rfl; rfl; rfl; (intro σ' hl; (apply g_load1; rfl; rfl; (exact .p (hl _ (True.intro) (by ((repeat (first | exact List.Mem.head _ | assumption | refine List.Mem.tail _ ?_)); done))) rfl)));
    refine wl_nil ?_;
    apply exl_do; rfl; rfl; (apply g_mapUpdate; rfl; rfl; rfl; rfl; (exact Upd.there (Upd.there (Upd.here))); (exact intM_upd _ _ _ (by decide)));
    refine exl_nil ?_;
    simp only [thenA, blockA, roundA, noGotoA, retA, ↓reduceIte, Nat.reduceEqDiff];
    rotate_left
    (all_goals (repeat (rename BV _ _ => hbv; cases hbv)))
    all_goals (try (exfalso; first | (rename true = false => hx; cases hx; done) | (rename false = true => hx; cases hx; done)))
    rw [e1 (by assumption)]
    refine ret_q .nil ((by repeat (first | exact Res.nil | (apply Res.cons; (first | (apply Res1.ofTmp; rfl) | (apply Res1.ofCell; rfl; rfl; (first | exact .e rfl | exact .p (by ((repeat (first | exact List.Mem.head _ | assumption | refine List.Mem.tail _ ?_)); done)) rfl | exact .r (by ((repeat (first | exact List.Mem.head _ | assumption | refine List.Mem.tail _ ?_)); done)) rfl)) | (apply Res1.ofAgg; rfl; rfl; decide; (first | exact .e rfl rfl | exact .p (by ((repeat (first | exact List.Mem.head _ | assumption | refine List.Mem.tail _ ?_)); done)) rfl rfl | exact .r (by ((repeat (first | exact List.Mem.head _ | assumption | refine List.Mem.tail _ ?_)); done)) rfl rfl))))))) (by repeat (first | exact List.Sublist.refl _ | apply List.Sublist.cons_cons | apply List.Sublist.cons)) ?_
    exact fin_drop (List.Sublist.cons _ (List.Sublist.refl _)) (fin_done ⟨rfl, _, rfl⟩)
  · rw [e2 (by assumption)]
    refine ret_q .nil ((by repeat (first | exact Res.nil | (apply Res.cons; (first | (apply Res1.ofTmp; rfl) | (apply Res1.ofCell; rfl; rfl; (first | exact .e rfl | exact .p (by ((repeat (first | exact List.Mem.head _ | assumption | refine List.Mem.tail _ ?_)); done)) rfl | exact .r (by ((repeat (first | exact List.Mem.head _ | assumption | refine List.Mem.tail _ ?_)); done)) rfl)) | (apply Res1.ofAgg; rfl; rfl; decide; (first | exact .e rfl rfl | exact .p (by ((repeat (first | exact List.Mem.head _ | assumption | refine List.Mem.tail _ ?_)); done)) rfl rfl | exact .r (by ((repeat (first | exact List.Mem.head _ | assumption | refine List.Mem.tail _ ?_)); done)) rfl rfl))))))) (by repeat (first | exact List.Sublist.refl _ | apply List.Sublist.cons_cons | apply List.Sublist.cons)) ?_
    exact fin_drop (List.Sublist.cons _ (List.Sublist.refl _)) (fin_done ⟨rfl, _, rfl⟩)

abbrev objD (D : Nat) : Ent := .obj D (.deferred (some []))
theorem rem_mid {e : Ent} : ∀ (A B : List Ent), Rem (A ++ e :: B) e (A ++ B)
  | [], _ => .here
  | x :: A, B => .there (rem_mid A B)
/-- All marks are given up. -/
theorem marks_mid : ∀ (ds : List Nat) (A B : List Ent), Marks ds (A ++ (ds.map objD ++ B)) (A ++ B)
  | [], _, _ => .nil
  | D :: ds, A, B => .cons (rem_mid A (ds.map objD ++ B)) (marks_mid ds A B)
theorem round_next {p : Pl} {S : Int → Bool} {K : Known} {k : Nat} {q : Int} (h : lits[k]? = some q) : roundOf p S K (lits.take (k + 1)) = roundOf p S K (lits.take k) ++ (rsOf p S K q).toList := by
  unfold roundOf
  rw [List.take_add_one, h, List.filterMap_append]
  simp [List.filterMap_cons]
  cases rsOf p S K q <;> rfl
theorem round_le (p : Pl) (S : Int → Bool) (K : Known) (L : List Int) : (roundOf p S K L).length ≤ L.length := List.length_filterMap_le _ _
theorem lits_length : lits.length = 64 := by simp [lits]

set_option maxHeartbeats 4000000 in
set_option maxRecDepth 10000 in
theorem derive_c {p : Pl} {S : Int → Bool} {kb bs bk ns nk : Nat} {tk : TypeId} {σ : List Ent} (hp0 : p.clauses.length ≤ 64) :
    SCall Try.prog 25 [.ptr kb 0] (.cells kb (courtC p bs bk) tk :: .imap bk (intM fun _ => 0) nk :: .imap bs (boolM S) ns :: σ) (fun r τ => r = .dl 3 ((deriveOf p S lits).1.map rsC) ∧ ∃ m, τ = .cells kb (courtC p bs bk) tk :: .imap bk (intM (deriveOf p S lits).2) m :: .imap bs (boolM S) ns :: σ) := by
  refine scall_of Try.func25 rfl (by simp) ?_
  refine ex_seq ?_;
  refine ex_region ?_;
  refine exl_box rfl rfl rfl (g_box rfl rfl) ?_; intro _;
  apply exl_is; rfl; rfl; rfl; (apply g_assign; rfl);
  refine exl_nilT ?_;
  refine ex_block ?_;
  rotate_left
  (all_goals (repeat (rename BV _ _ => hbv; cases hbv)))
  all_goals (try (exfalso; first | (rename true = false => hx; cases hx; done) | (rename false = true => hx; cases hx; done)))
  rename Nat => b0
  refine ex_nilRow 43 3 ?_
  refine ex_loop (fun (z : Nat × Nat × Value × List Nat) => (⟨[(1, .ptr b0 0), (2, .slv z.2.2.1)], .row z.2.2.1 43 3 ((deriveN p S lits z.1).1.map rsC) :: .cells b0 [.ptr kb 0] 55 :: .cells kb (courtC p bs bk) tk :: .imap bk (intM (deriveN p S lits z.1).2) z.2.1 :: .imap bs (boolM S) ns :: (z.2.2.2.map objD ++ σ), z.2.2.2, Try.f25.ntmps⟩ : St)) (fun z => ∀ m, m < z.1 → roundOf p S (deriveN p S lits m).2 lits ≠ []) (fun z => unknown lits (deriveN p S lits z.1).2) (0, nk, nilS, []) (fun m h => absurd h (Nat.not_lt_zero _)) (St.le_of (by repeat (first | exact trivial | refine ⟨rfl, ?_⟩)) (by repeat (first | exact List.Sublist.refl _ | apply List.Sublist.cons_cons | apply List.Sublist.cons))) ?_
  intro z hI
  obtain ⟨n, m, v, ds⟩ := z
  dsimp only at hI ⊢
  obtain ⟨τ0, hT⟩ : ∃ τ0, ds.map objD ++ σ = τ0 := ⟨_, rfl⟩
  rw [hT]
  have hun := deriveN_unknown p S lits n hI
  have hln := deriveN_len p S lits n
  rw [lits_length] at hun hln
  obtain ⟨A, hA⟩ : ∃ A, (deriveN p S lits n).1 = A := ⟨_, rfl⟩
  obtain ⟨K, hK⟩ : ∃ K, (deriveN p S lits n).2 = K := ⟨_, rfl⟩
  rw [hA, hK]
  rw [hA] at hln
  rw [hK] at hun
  have hAl : A.length ≤ 4096 := by
    have : n ≤ 64 := by omega
    have := Nat.mul_le_mul_right 64 this
    omega
  clear hln
  refine ex_block ?_;
  refine ex_seq ?_;
  refine ex_region ?_;
  refine exl_box rfl rfl rfl (g_alloc rfl) ?_; intro _;
  refine exl_nilT ?_;
  refine ex_seq ?_;
  refine ex_seq ?_;
  refine ex_region ?_;
  apply exl_is; rfl; rfl; rfl; (exact g_call rfl rfl (enters_b (by kernel_rfl)) (literals_c _));
  refine exl_nilT ?_;
  refine ex_block ?_;
  rotate_left
  (all_goals (repeat (rename BV _ _ => hbv; cases hbv)))
  all_goals (try (exfalso; first | (rename true = false => hx; cases hx; done) | (rename false = true => hx; cases hx; done)))
  rename Nat => bl
  refine ex_weaken (s' := ⟨[(1, .ptr b0 0), (2, .slv v), (3, .ptr bl 0), (7, .fn (.func 56) [] [])], .cells bl [.slv nilS] 26 :: .row v 43 3 (A.map rsC) :: .cells b0 [.ptr kb 0] 55 :: .cells kb (courtC p bs bk) tk :: .imap bk (intM K) m :: .imap bs (boolM S) ns :: τ0, ds, Try.f25.ntmps⟩) (St.le_of (by repeat (first | exact trivial | refine ⟨rfl, ?_⟩)) (by repeat (first | exact List.Sublist.refl _ | apply List.Sublist.cons_cons | apply List.Sublist.cons))) ?_
  refine ex_nilRow 43 3 ?_
  refine ex_range rfl (enters_b (by kernel_rfl)) ?_
  intro D l0 fn
  show SCall _ _ _ (Ent.loop _ _ _ _ ?ee ?nn ?ps ?asg ?body _ :: _) _
  obtain ⟨L, hL⟩ : ∃ L, L = Ent.loop l0 .ready none fn ?ee ?nn ?ps ?asg ?body D := ⟨_, rfl⟩
  rw [← hL]
  refine SCall.mono (literals1_c l0 _
    (fun k τ => ∃ vl, τ = L :: .obj D (.deferred (some [])) :: .row vl 43 3 ((roundOf p S K (lits.take k)).map rsC) :: .cells bl [.slv vl] 26 :: .row v 43 3 (A.map rsC) :: .cells b0 [.ptr kb 0] 55 :: .cells kb (courtC p bs bk) tk :: .imap bk (intM K) m :: .imap bs (boolM S) ns :: τ0)
    (fun _ => False) (fun _ _ _ => trivial) ?_ ⟨nilS, rfl⟩) ?_
  · -- ROUND
    rintro k x τ hx ⟨vl, rfl⟩
    rw [List.getElem?_map, Option.map_eq_some_iff] at hx
    obtain ⟨q, hq, rfl⟩ := hx
    obtain ⟨hq1, hq2, hq3⟩ := lits_bound hq
    have hR := round_next (p := p) (S := S) (K := K) hq
    have hRl := round_le p S K (lits.take k)
    rw [List.length_take, lits_length] at hRl
    generalize roundOf p S K (lits.take k) = R at hR hRl ⊢
    rw [hL]
    refine SRound.sub ?_
    refine sround (by ((repeat (first | exact List.Mem.head _ | assumption | refine List.Mem.tail _ ?_)); done)) rfl (by decide) ?_
    refine ex_region ?_;
    apply exl_is; rfl; rfl; rfl; (apply g_assign; rfl);
    refine exl_nil ?_;
    simp only [thenA]; refine ⟨_, (by (exact Upd.here)), ?_⟩; show EX _ _ _ _ _;
    refine ex_block ?_;
    refine ex_block ?_;
    refine ex_seq ?_;
    refine ex_region ?_;
    apply exl_is; rfl; rfl; rfl; (apply g_load1; rfl; rfl; (exact .p (by ((repeat (first | exact List.Mem.head _ | assumption | refine List.Mem.tail _ ?_)); done)) rfl));
    apply exl_is; rfl; rfl; rfl; (apply g_nilCheck; rfl; rfl);
    apply exl_is; rfl; rfl; rfl; (apply g_fieldAddr; rfl; rfl; rfl);
    apply exl_is; rfl; rfl; rfl; (apply g_load1; rfl; rfl; (exact .p (by ((repeat (first | exact List.Mem.head _ | assumption | refine List.Mem.tail _ ?_)); done)) rfl));
    apply exl_is; rfl; rfl; rfl; (apply g_move; rfl);
    apply exl_is; rfl; rfl; rfl; (apply g_lookup; rfl; rfl; exact (by ((repeat (first | exact List.Mem.head _ | assumption | refine List.Mem.tail _ ?_)); done)); rfl; rfl; (exact intM_getD _ _));
    apply exl_isB; rfl; rfl; rfl; (apply g_binInt; rfl; rfl; rfl); intro _ _;
    apply exl_is; rfl; rfl; rfl; (apply g_assign; rfl);
    refine exl_nilT ?_;
    refine ex_cond rfl (fun h => ?_) (fun h => ?_) <;> ((first | (subst h; rename BV _ true => h0; have h := h0.eq; clear h0) | (subst h; rename BV _ false => h0; have h := h0.eq; clear h0) | skip); (have hp := h; try simp only [decide_eq_true_eq, decide_eq_false_iff_not, Bool.not_eq_true', Bool.not_eq_false', bne_iff_ne, beq_iff_eq, beq_eq_false_iff_ne, bne_eq_false_iff_eq, Int.not_lt, Int.not_le] at hp); (try (exfalso; first | omega | (cases hp; done))));
    refine ex_skip ?_;
    simp only [thenA, blockA, roundA, noGotoA, retA, ↓reduceIte, Nat.reduceEqDiff];
    show rndA _ _ _ _ _ _ _ _ _ _ _; refine ⟨_, _, rfl, (by (exact Upd.here)), ?_⟩;
    simp only [thenA, blockA, roundA, noGotoA, retA, ↓reduceIte, Nat.reduceEqDiff];
    rotate_left;
    refine ex_seq ?_;
    refine ex_region ?_;
    apply exl_is; rfl; rfl; rfl; (apply g_load1; rfl; rfl; (exact .p (by ((repeat (first | exact List.Mem.head _ | assumption | refine List.Mem.tail _ ?_)); done)) rfl));
    apply exl_is; rfl; rfl; rfl; (apply g_nilCheck; rfl; rfl);
    apply exl_is; rfl; rfl; rfl; (apply g_fieldAddr; rfl; rfl; rfl);
    apply exl_is; rfl; rfl; rfl; (apply g_load1; rfl; rfl; (exact .p (by ((repeat (first | exact List.Mem.head _ | assumption | refine List.Mem.tail _ ?_)); done)) rfl));
    apply exl_is; rfl; rfl; rfl; (apply g_move; rfl);
    apply exl_isB; rfl; rfl; rfl; (apply g_lookup; rfl; rfl; exact (by ((repeat (first | exact List.Mem.head _ | assumption | refine List.Mem.tail _ ?_)); done)); rfl; rfl; exact boolM_getD _ _); intro _ _;
    apply exl_is; rfl; rfl; rfl; (apply g_assign; rfl);
    refine exl_nilT ?_;
    refine ex_cond rfl (fun h => ?_) (fun h => ?_) <;> ((first | (subst h; rename BV _ true => h0; have h := h0.eq; clear h0) | (subst h; rename BV _ false => h0; have h := h0.eq; clear h0) | skip); (have hp := h; try simp only [decide_eq_true_eq, decide_eq_false_iff_not, Bool.not_eq_true', Bool.not_eq_false', bne_iff_ne, beq_iff_eq, beq_eq_false_iff_ne, bne_eq_false_iff_eq, Int.not_lt, Int.not_le] at hp); (try (exfalso; first | omega | (cases hp; done))));
    refine ex_region ?_;
    apply exl_is; rfl; rfl; rfl; (apply g_load1; rfl; rfl; (exact .p (by ((repeat (first | exact List.Mem.head _ | assumption | refine List.Mem.tail _ ?_)); done)) rfl));
    apply exl_is; rfl; rfl; rfl; (apply g_move; rfl);
    apply exl_is; rfl; rfl; rfl; (apply g_build; rfl; rfl; rfl; rfl);
    apply exl_is; rfl; rfl; rfl; (exact gop_sealed (g_buildSlice rfl rfl (by decide) rfl rfl (by (simp only [chunkN, List.take_succ_cons, List.take_zero, List.drop_succ_cons, List.drop_zero]; rfl))));
    apply exl_grew; rfl; rfl; rfl; (apply g_append; rfl; rfl; rfl; (intro v'; (exact Upd.there (Upd.there (Upd.here)))); (exact .d); (intro y hy; simp only [List.mem_map, List.mem_cons, List.not_mem_nil, or_false, List.mem_append] at hy; (obtain ⟨_, _, rfl⟩ := hy; rfl)); (refine app_ok ?_ (by kernel_rfl); (try simp only [List.length_append, List.length_map, List.length_cons, List.length_nil, List.length_take, List.length_drop]); omega)); intro _;
    apply exl_do; rfl; rfl; (apply g_store'; rfl; rfl; rfl; (exact Upd.there (Upd.there (Upd.there (Upd.here)))); (simp only [setL, List.set_cons_zero, List.set_cons_succ, AV.cells]; rfl); rfl; rfl; rfl; exact Nat.le_of_ble_eq_true rfl);
    refine exl_nil ?_;
    simp only [thenA, blockA, roundA, noGotoA, retA, ↓reduceIte, Nat.reduceEqDiff];
    show rndA _ _ _ _ _ _ _ _ _ _ _; refine ⟨_, _, rfl, (by (exact Upd.here)), ?_⟩;
    simp only [thenA, blockA, roundA, noGotoA, retA, ↓reduceIte, Nat.reduceEqDiff];
    rotate_left;
    refine ex_seq ?_;
    refine ex_region ?_;
    apply exl_is; rfl; rfl; rfl; (apply g_load1; rfl; rfl; (exact .p (by ((repeat (first | exact List.Mem.head _ | assumption | refine List.Mem.tail _ ?_)); done)) rfl));
    apply exl_is; rfl; rfl; rfl; (apply g_move; rfl);
    apply exl_isB; rfl; rfl; rfl; (exact g_call rfl rfl (enters_b (by kernel_rfl)) (proves_c (p := p) (S := S) (K := K) q ⟨hq1, hq2⟩ (by ((repeat (first | exact List.Mem.head _ | assumption | refine List.Mem.tail _ ?_)); done)) (by ((repeat (first | exact List.Mem.head _ | assumption | refine List.Mem.tail _ ?_)); done)) (by ((repeat (first | exact List.Mem.head _ | assumption | refine List.Mem.tail _ ?_)); done)))); intro _ _;
    apply exl_is; rfl; rfl; rfl; (apply g_assign; rfl);
    refine exl_nilT ?_;
    refine ex_cond rfl (fun h => ?_) (fun h => ?_) <;> ((first | (subst h; rename BV _ true => h0; have h := h0.eq; clear h0) | (subst h; rename BV _ false => h0; have h := h0.eq; clear h0) | skip); (have hp := h; try simp only [decide_eq_true_eq, decide_eq_false_iff_not, Bool.not_eq_true', Bool.not_eq_false', bne_iff_ne, beq_iff_eq, beq_eq_false_iff_ne, bne_eq_false_iff_eq, Int.not_lt, Int.not_le] at hp); (try (exfalso; first | omega | (cases hp; done))));
    rotate_left;
    refine ex_seq ?_;
    refine ex_region ?_;
    apply exl_is; rfl; rfl; rfl; (apply g_load1; rfl; rfl; (exact .p (by ((repeat (first | exact List.Mem.head _ | assumption | refine List.Mem.tail _ ?_)); done)) rfl));
    apply exl_is; rfl; rfl; rfl; (apply g_move; rfl);
    apply exl_isB; rfl; rfl; rfl; (exact g_call rfl rfl (enters_b (by kernel_rfl)) (refutes_c (p := p) (S := S) (K := K) q ⟨hq1, hq2⟩ (by ((repeat (first | exact List.Mem.head _ | assumption | refine List.Mem.tail _ ?_)); done)) (by ((repeat (first | exact List.Mem.head _ | assumption | refine List.Mem.tail _ ?_)); done)) (by ((repeat (first | exact List.Mem.head _ | assumption | refine List.Mem.tail _ ?_)); done)))); intro _ _;
    apply exl_is; rfl; rfl; rfl; (apply g_assign; rfl);
    refine exl_nilT ?_;
    refine ex_cond rfl (fun h => ?_) (fun h => ?_) <;> ((first | (subst h; rename BV _ true => h0; have h := h0.eq; clear h0) | (subst h; rename BV _ false => h0; have h := h0.eq; clear h0) | skip); (have hp := h; try simp only [decide_eq_true_eq, decide_eq_false_iff_not, Bool.not_eq_true', Bool.not_eq_false', bne_iff_ne, beq_iff_eq, beq_eq_false_iff_ne, bne_eq_false_iff_eq, Int.not_lt, Int.not_le] at hp); (try (exfalso; first | omega | (cases hp; done))));
    refine ex_region ?_;
    apply exl_is; rfl; rfl; rfl; (apply g_load1; rfl; rfl; (exact .p (by ((repeat (first | exact List.Mem.head _ | assumption | refine List.Mem.tail _ ?_)); done)) rfl));
    apply exl_is; rfl; rfl; rfl; (apply g_move; rfl);
    apply exl_is; rfl; rfl; rfl; (apply g_build; rfl; rfl; rfl; rfl);
    apply exl_is; rfl; rfl; rfl; (exact gop_sealed (g_buildSlice rfl rfl (by decide) rfl rfl (by (simp only [chunkN, List.take_succ_cons, List.take_zero, List.drop_succ_cons, List.drop_zero]; rfl))));
    apply exl_grew; rfl; rfl; rfl; (apply g_append; rfl; rfl; rfl; (intro v'; (exact Upd.there (Upd.there (Upd.here)))); (exact .d); (intro y hy; simp only [List.mem_map, List.mem_cons, List.not_mem_nil, or_false, List.mem_append] at hy; (obtain ⟨_, _, rfl⟩ := hy; rfl)); (refine app_ok ?_ (by kernel_rfl); (try simp only [List.length_append, List.length_map, List.length_cons, List.length_nil, List.length_take, List.length_drop]); omega)); intro _;
    apply exl_do; rfl; rfl; (apply g_store'; rfl; rfl; rfl; (exact Upd.there (Upd.there (Upd.there (Upd.here)))); (simp only [setL, List.set_cons_zero, List.set_cons_succ, AV.cells]; rfl); rfl; rfl; rfl; exact Nat.le_of_ble_eq_true rfl);
    refine exl_nil ?_;
    simp only [thenA, blockA, roundA, noGotoA, retA, ↓reduceIte, Nat.reduceEqDiff];
    show rndA _ _ _ _ _ _ _ _ _ _ _; refine ⟨_, _, rfl, (by (exact Upd.here)), ?_⟩;
    simp only [thenA, blockA, roundA, noGotoA, retA, ↓reduceIte, Nat.reduceEqDiff];
    rotate_left;
    refine ex_skip ?_;
    simp only [thenA, blockA, roundA, noGotoA, retA, ↓reduceIte, Nat.reduceEqDiff];
    show rndA _ _ _ _ _ _ _ _ _ _ _; refine ⟨_, _, rfl, (by (exact Upd.here)), ?_⟩;
    simp only [thenA, blockA, roundA, noGotoA, retA, ↓reduceIte, Nat.reduceEqDiff];
    rotate_left
    (all_goals (repeat (rename BV _ _ => hbv; cases hbv)))
    all_goals (try (exfalso; first | (rename true = false => hx; cases hx; done) | (rename false = true => hx; cases hx; done)))
    · subst hL
      have e : rsOf p S K q = none := by unfold rsOf; simp [*]
      rw [e, Option.toList_none, List.append_nil] at hR
      rw [hR]
      exact ⟨_, List.Sublist.refl _, .inl ⟨rfl, vl, rfl⟩⟩
    · subst hL
      have e : rsOf p S K q = some ⟨q, 0, true⟩ := by unfold rsOf; simp [*]
      rw [e] at hR
      rw [hR, List.map_append]
      exact ⟨_, List.Sublist.refl _, .inl ⟨rfl, _, rfl⟩⟩
    · refine ex_drawLK anyK 7 [6] rfl (by kernel_rfl) rfl ?_
      simp only [List.take_succ_cons, List.take_zero, List.drop_succ_cons, List.drop_zero]
      apply wl_is; rfl; rfl; rfl; (intro σ' hl; (apply g_load1; rfl; rfl; (exact .p (hl _ (True.intro) (by ((repeat (first | exact List.Mem.head _ | assumption | refine List.Mem.tail _ ?_)); done))) rfl)));
      apply wl_is; rfl; rfl; rfl; (intro σ' hl; (apply g_move; rfl));
      apply wl_is; rfl; rfl; rfl; (intro σ' hl; (apply g_load1; rfl; rfl; (exact .p (hl _ (True.intro) (by ((repeat (first | exact List.Mem.head _ | assumption | refine List.Mem.tail _ ?_)); done))) rfl)));
      apply wl_is; rfl; rfl; rfl; (intro σ' hl; (apply g_move; rfl));
      apply wl_is; rfl; rfl; rfl; (intro σ' hl; (exact g_call rfl rfl (enters_b (by kernel_rfl)) (clause_c (p := p) (K := K) q hp0 (hl _ (True.intro) (by ((repeat (first | exact List.Mem.head _ | assumption | refine List.Mem.tail _ ?_)); done))) (hl _ (True.intro) (by ((repeat (first | exact List.Mem.head _ | assumption | refine List.Mem.tail _ ?_)); done))))));
      apply wl_is; rfl; rfl; rfl; (intro σ' hl; (apply g_build; rfl; rfl; rfl; rfl));
      refine wl_isE rfl rfl rfl (gop_sealed (by exact g_buildSlice rfl rfl (by decide) rfl rfl (by (simp only [chunkN, List.take_succ_cons, List.take_zero, List.drop_succ_cons, List.drop_zero]; rfl)))) ?_;
      refine wl_nil ?_;
      apply exl_grew; rfl; rfl; rfl; (apply g_append; rfl; rfl; rfl; (intro v'; (exact Upd.there (Upd.there (Upd.here)))); (exact .d); (intro y hy; simp only [List.mem_map, List.mem_cons, List.not_mem_nil, or_false, List.mem_append] at hy; (obtain ⟨_, _, rfl⟩ := hy; rfl)); (refine app_ok ?_ (by kernel_rfl); (try simp only [List.length_append, List.length_map, List.length_cons, List.length_nil, List.length_take, List.length_drop]); omega)); intro _;
      apply exl_do; rfl; rfl; (apply g_store'; rfl; rfl; rfl; (exact Upd.there (Upd.there (Upd.there (Upd.here)))); (simp only [setL, List.set_cons_zero, List.set_cons_succ, AV.cells]; rfl); rfl; rfl; rfl; exact Nat.le_of_ble_eq_true rfl);
      refine exl_nil ?_;
      simp only [thenA, blockA, roundA, noGotoA, retA, ↓reduceIte, Nat.reduceEqDiff];
      show rndA _ _ _ _ _ _ _ _ _ _ _; refine ⟨_, _, rfl, (by (exact Upd.here)), ?_⟩;
      simp only [thenA, blockA, roundA, noGotoA, retA, ↓reduceIte, Nat.reduceEqDiff];
      rotate_left
      (all_goals (repeat (rename BV _ _ => hbv; cases hbv)))
      all_goals (try (exfalso; first | (rename true = false => hx; cases hx; done) | (rename false = true => hx; cases hx; done)))
      subst hL
      have e : rsOf p S K q = some ⟨q, clauseB p K q, true⟩ := by unfold rsOf; simp [*]
      rw [e] at hR
      rw [hR, List.map_append]
      exact ⟨_, List.Sublist.refl _, .inl ⟨rfl, _, rfl⟩⟩
    · subst hL
      have e : rsOf p S K q = some ⟨q, 0, false⟩ := by unfold rsOf; simp [*]
      rw [e] at hR
      rw [hR, List.map_append]
      exact ⟨_, List.Sublist.refl _, .inl ⟨rfl, _, rfl⟩⟩
    · subst hL
      have e : rsOf p S K q = none := by unfold rsOf; simp [*]
      rw [e, Option.toList_none, List.append_nil] at hR
      rw [hR]
      exact ⟨_, List.Sublist.refl _, .inl ⟨rfl, vl, rfl⟩⟩
  -- END
  · rintro r τ (⟨vl, rfl⟩ | hF)
    · rw [hL]
      refine RangeEnd.done .here ?_
      rw [List.take_of_length_le (by simp)]
      clear hL L
      show EX _ _ _ _ _
      obtain ⟨R, hR⟩ : ∃ R, roundOf p S K lits = R := ⟨_, rfl⟩
      have hRl := round_le p S K lits
      rw [lits_length, hR] at hRl
      rw [hR]
      refine ex_perm (List.perm_middle (a := Ent.obj D (.deferred (some []))) (l₁ := [_, _, _, _, _, _, _]) (l₂ := τ0)).symm ?_
      simp only [List.cons_append, List.nil_append]
      refine ex_shut (v := vl) (env' := [(1, .ptr b0 0), (2, .slv v), (3, .ptr bl 0)]) .here (.cells (.here .nil) (ShutEnts.refl _)) (.same rfl (.same rfl (.same rfl .nil))) ?_
      refine ex_seq ?_;
      refine ex_seq ?_;
      refine ex_region ?_;
      apply exl_is; rfl; rfl; rfl; (apply g_load1; rfl; rfl; (exact .p (by ((repeat (first | exact List.Mem.head _ | assumption | refine List.Mem.tail _ ?_)); done)) rfl));
      apply exl_is; rfl; rfl; rfl; (apply g_len; rfl; rfl; (exact (List.length_map _).symm));
      apply exl_isB; rfl; rfl; rfl; (apply g_binInt; rfl; rfl; rfl); intro _ _;
      refine exl_nilT ?_;
      refine ex_cond rfl (fun h => ?_) (fun h => ?_) <;> ((first | (subst h; rename BV _ true => h0; have h := h0.eq; clear h0) | (subst h; rename BV _ false => h0; have h := h0.eq; clear h0) | skip); (have hp := h; try simp only [decide_eq_true_eq, decide_eq_false_iff_not, Bool.not_eq_true', Bool.not_eq_false', bne_iff_ne, beq_iff_eq, beq_eq_false_iff_ne, bne_eq_false_iff_eq, Int.not_lt, Int.not_le] at hp); (try (exfalso; first | omega | (cases hp; done))));
      refine ex_seq ?_;
      refine ex_region ?_;
      apply exl_is; rfl; rfl; rfl; (apply g_move; rfl);
      apply exl_is; rfl; rfl; rfl; (apply g_assign; rfl);
      refine exl_nilT ?_;
      refine ex_ret ?_;
      simp only [thenA, blockA, roundA, noGotoA, retA, ↓reduceIte, Nat.reduceEqDiff];
      rotate_left;
      refine ex_skip ?_;
      refine ex_seq ?_;
      refine ex_seq ?_;
      refine ex_region ?_;
      apply exl_is; rfl; rfl; rfl; (apply g_load1; rfl; rfl; (exact .p (by ((repeat (first | exact List.Mem.head _ | assumption | refine List.Mem.tail _ ?_)); done)) rfl));
      apply exl_is; rfl; rfl; rfl; (apply g_len; rfl; rfl; (exact (List.length_map _).symm));
      apply exl_is; rfl; rfl; rfl; (apply g_move; rfl);
      refine exl_nilT ?_;
      refine ex_block ?_;
      rotate_left
      (all_goals (repeat (rename BV _ _ => hbv; cases hbv)))
      all_goals (try (exfalso; first | (rename true = false => hx; cases hx; done) | (rename false = true => hx; cases hx; done)))
      · have hR0 : roundOf p S (deriveN p S lits n).2 lits = [] := by rw [hK, hR]; exact List.eq_nil_of_length_eq_zero (by omega)
        have hE := deriveOf_eq (by rw [lits_length]; omega) hR0 hI
        subst hT
        refine ret_q (σ3 := .row v 43 3 (A.map rsC) :: .cells kb (courtC p bs bk) tk :: .imap bk (intM K) m :: .imap bs (boolM S) ns :: σ) (marks_mid (D :: ds) [_, _, _, _, _, _] σ) (.cons (.ofTmp rfl) .nil) (by repeat (first | exact List.Sublist.refl _ | apply List.Sublist.cons_cons | apply List.Sublist.cons)) ?_
        refine fin_seal .here (.here .nil) (fin_done ?_)
        rw [← hE, hA, hK]
        exact ⟨rfl, m, rfl⟩
      have hne : R ≠ [] := fun e => by rw [e] at hp; exact hp rfl
      have hIn := hI
      clear hp h
      refine ex_loop (fun (y : Nat × Nat) => (⟨[(1, .ptr b0 0), (2, .slv v), (3, .ptr bl 0), (54, .dl 3 (R.map rsC)), (55, .int .i64 R.length), (56, .int .i64 y.1)], .cells bl [.dl 3 (R.map rsC)] 26 :: .row v 43 3 (A.map rsC) :: .cells b0 [.ptr kb 0] 55 :: .cells kb (courtC p bs bk) tk :: .imap bk (intM (learnAll K (R.take y.1))) y.2 :: .imap bs (boolM S) ns :: .obj D (.deferred (some [])) :: τ0, (D :: ds), Try.f25.ntmps⟩ : St)) (fun y => y.1 ≤ R.length) (fun y => R.length - y.1) (0, m) (Nat.zero_le _) (St.le_of (by repeat (first | exact trivial | refine ⟨rfl, ?_⟩)) (by repeat (first | exact List.Sublist.refl _ | apply List.Sublist.cons_cons | apply List.Sublist.cons))) ?_
      intro y hI
      obtain ⟨i, m2⟩ := y
      dsimp only at hI ⊢
      by_cases hi : i < R.length
      · obtain ⟨x, hx⟩ : ∃ x, R[i]? = some x := ⟨_, List.getElem?_eq_getElem hi⟩
        have hstep : learnAll K (R.take (i + 1)) = learnK (learnAll K (R.take i)) x.lit x.proved := by
          unfold learnAll; rw [List.take_add_one, hx, List.foldl_append]; rfl
        refine ex_seq ?_;
        refine ex_region ?_;
        apply exl_isB; rfl; rfl; rfl; (apply g_binInt; rfl; rfl; rfl); intro _ _;
        refine exl_nilT ?_;
        refine ex_seq ?_;
        refine ex_cond rfl (fun h => ?_) (fun h => ?_) <;> ((first | (subst h; rename BV _ true => h0; have h := h0.eq; clear h0) | (subst h; rename BV _ false => h0; have h := h0.eq; clear h0) | skip); (have hp := h; try simp only [decide_eq_true_eq, decide_eq_false_iff_not, Bool.not_eq_true', Bool.not_eq_false', bne_iff_ne, beq_iff_eq, beq_eq_false_iff_ne, bne_eq_false_iff_eq, Int.not_lt, Int.not_le] at hp); (try (exfalso; first | omega | (cases hp; done))));
        refine ex_skip ?_;
        refine ex_seq ?_;
        refine ex_block ?_;
        refine ex_seq ?_;
        refine ex_region ?_;
        apply exl_is; rfl; rfl; rfl; (apply g_indexDl; rfl; rfl; rfl; (rfl); (exact get_map (by assumption)));
        apply exl_is; rfl; rfl; rfl; (apply g_loadAgg; rfl; decide; rfl; (exact .e rfl rfl));
        refine exl_box rfl rfl rfl (g_alloc rfl) ?_; intro _;
        apply exl_do; rfl; rfl; (apply g_store'; rfl; rfl; rfl; (exact Upd.here); (simp only [setL, List.set_cons_zero, List.set_cons_succ, AV.cells]; rfl); rfl; rfl; rfl; exact Nat.le_of_ble_eq_true rfl);
        refine exl_nilT ?_;
        refine ex_region ?_;
        apply exl_is; rfl; rfl; rfl; (apply g_load1; rfl; rfl; (exact .p (by ((repeat (first | exact List.Mem.head _ | assumption | refine List.Mem.tail _ ?_)); done)) rfl));
        apply exl_is; rfl; rfl; rfl; (apply g_loadAgg; rfl; decide; rfl; (exact .p (by ((repeat (first | exact List.Mem.head _ | assumption | refine List.Mem.tail _ ?_)); done)) rfl rfl));
        refine exl_call rfl rfl rfl (g_call rfl rfl (enters_b (by kernel_rfl)) (SCall.front [_, _, _, _] (learn_c x))) ?_; rintro _ _ ⟨_, rfl, rfl, m3, rfl⟩;
        refine exl_nil ?_;
        refine ex_region ?_;
        apply exl_is; rfl; rfl; rfl; (apply g_add; rfl; rfl; rfl; exact ⟨by omega, by omega⟩);
        apply exl_is; rfl; rfl; rfl; (apply g_move; rfl);
        refine exl_nil ?_;
        simp only [thenA, blockA, roundA, noGotoA, retA, ↓reduceIte, Nat.reduceEqDiff];
        rotate_left
        (all_goals (repeat (rename BV _ _ => hbv; cases hbv)))
        all_goals (try (exfalso; first | (rename true = false => hx; cases hx; done) | (rename false = true => hx; cases hx; done)))
        rw [← hstep]
        refine ⟨(i + 1, m3), hi, by simp only; omega, St.le_of (by repeat (first | exact trivial | refine ⟨rfl, ?_⟩)) (by repeat (first | exact List.Sublist.refl _ | apply List.Sublist.cons_cons | apply List.Sublist.cons))⟩
      · rw [List.take_of_length_le (by omega)]
        refine ex_seq ?_;
        refine ex_region ?_;
        apply exl_isB; rfl; rfl; rfl; (apply g_binInt; rfl; rfl; rfl); intro _ _;
        refine exl_nilT ?_;
        refine ex_seq ?_;
        refine ex_cond rfl (fun h => ?_) (fun h => ?_) <;> ((first | (subst h; rename BV _ true => h0; have h := h0.eq; clear h0) | (subst h; rename BV _ false => h0; have h := h0.eq; clear h0) | skip); (have hp := h; try simp only [decide_eq_true_eq, decide_eq_false_iff_not, Bool.not_eq_true', Bool.not_eq_false', bne_iff_ne, beq_iff_eq, beq_eq_false_iff_ne, bne_eq_false_iff_eq, Int.not_lt, Int.not_le] at hp); (try (exfalso; first | omega | (cases hp; done))));
        refine ex_exit ?_;
        refine ex_region ?_;
        apply exl_is; rfl; rfl; rfl; (apply g_move; rfl);
        apply exl_is; rfl; rfl; rfl; (apply g_load1; rfl; rfl; (exact .p (by ((repeat (first | exact List.Mem.head _ | assumption | refine List.Mem.tail _ ?_)); done)) rfl));
        apply exl_grew; rfl; rfl; rfl; (apply g_append; rfl; rfl; rfl; (intro v'; (exact Upd.there (Upd.here))); (exact .d); (intro y hy; simp only [List.mem_map, List.mem_cons, List.not_mem_nil, or_false, List.mem_append] at hy; (obtain ⟨_, _, rfl⟩ := hy; rfl)); (refine app_ok ?_ (by kernel_rfl); (try simp only [List.length_append, List.length_map, List.length_cons, List.length_nil, List.length_take, List.length_drop]); omega)); intro _;
        apply exl_is; rfl; rfl; rfl; (apply g_assign; rfl);
        refine exl_nil ?_;
        simp only [thenA, blockA, roundA, noGotoA, retA, ↓reduceIte, Nat.reduceEqDiff];
        rotate_left
        (all_goals (repeat (rename BV _ _ => hbv; cases hbv)))
        all_goals (try (exfalso; first | (rename true = false => hx; cases hx; done) | (rename false = true => hx; cases hx; done)))
        rename Value => v2
        have e1 : A.map rsC ++ R.map rsC = (deriveN p S lits (n + 1)).1.map rsC := by
          show _ = List.map rsC ((deriveN p S lits n).1 ++ roundOf p S (deriveN p S lits n).2 lits)
          rw [hA, hK, hR, List.map_append]
        have e2 : learnAll K R = (deriveN p S lits (n + 1)).2 := by
          show _ = learnAll (deriveN p S lits n).2 (roundOf p S (deriveN p S lits n).2 lits)
          rw [hK, hR]
        have hu := unknown_round (p := p) (S := S) (K := K) (L := lits) (by rw [hR]; exact hne)
        rw [hR, e2] at hu
        rw [e1, e2]
        refine ⟨(n + 1, m2, v2, D :: ds), ?_, hu, ?_⟩
        · intro k hk
          by_cases hkn : k = n
          · subst hkn; rw [hK, hR]; exact hne
          · exact hIn k (by dsimp only at hk; omega)
        · subst hT
          exact (St.le_of (by repeat (first | exact trivial | refine ⟨rfl, ?_⟩)) (by repeat (first | exact List.Sublist.refl _ | apply List.Sublist.cons_cons | apply List.Sublist.cons)))
    · exact hF.elim
end Go.Proofs.Ythdgmimhaidmnaa
