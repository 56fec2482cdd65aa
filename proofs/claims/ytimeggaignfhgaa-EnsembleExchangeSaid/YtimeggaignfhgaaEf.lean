/- ranges at right arguments. -/
import Derived.Test.YtimeggaignfhgaaEe
namespace Go.Proofs.Ytimeggaignfhgaa
set_option linter.unusedSimpArgs false
set_option linter.unusedVariables false

/-- The ranges of the first k periods. -/
def rgV (val : Nat → Nat → Int) (n low high k : Nat) : List Rg := (List.range k).map fun j => trimE (colV val j n) low high
theorem check_16 {x : En} (h : checkE x = 0) : (hd x.members).length ≤ 16 := by
  unfold checkE at h
  split at h
  · cases h
  · rename_i h1
    simp only [limE, Bool.or_eq_true, not_or, List.any_eq_true, decide_eq_true_eq, not_exists, not_and] at h1
    cases hm : x.members with
    | nil => simp [hd]
    | cons a l => have := h1.2 a (by rw [hm]; simp); simp only [hd, List.headD_cons]; omega
theorem check_rows {x : En} (h : checkE x = 0) : ∀ m ∈ x.members, m.length = (hd x.members).length ∧ ∀ n ∈ m, 0 ≤ n ∧ n ≤ 1073741824 := by
  unfold checkE at h
  split at h
  · cases h
  split at h
  · cases h
  split at h
  · cases h
  rename_i h1
  intro m hm
  simp only [List.any_eq_true, not_exists, not_and] at h1
  have h2 := h1 m hm
  simp only [badRow, litB, Bool.or_eq_true, bne_iff_ne, ne_eq, not_or, List.any_eq_true, decide_eq_true_eq, not_exists, not_and, Int.not_lt, Decidable.not_not] at h2
  exact ⟨by omega, fun n hn => h2.2 n hn⟩
theorem check_bad {x : En} (h : checkE x = 0) : badH x = false := by
  unfold checkE at h
  split at h
  · cases h
  split at h
  · cases h
  rename_i h1
  simpa using h1
set_option maxHeartbeats 4000000 in
set_option maxRecDepth 10000 in
theorem ranges_c (x : En) (low high : Nat) (g : Nat) (cap : List AV) (val : Nat → Nat → Int) (S : Nat → Nat → List Ent) (hx : checkE x = 0) (hlh : low + high < x.members.length) (he : Enters Try.prog g)
    (hS : ∀ (k i : Nat) (n : Int) (front : List Ent), (x.members[i]?.bind (·[k]?)) = some n → SCall Try.prog g ([.int .i64 i, .int .i64 n] ++ cap) (front ++ S k i) (fun r τ => r = .int .i64 (val k i) ∧ τ = front ++ S k (i + 1))) (hSn : ∀ k, S k x.members.length = S (k + 1) 0) :
    SCall Try.prog 24 [.agg (enC x), .int .i64 low, .int .i64 high, .fn (.func g) [] cap] (S 0 0) (Is (.tup [rgs (rgV val x.members.length low high (hd x.members).length), .int .i64 0]) (S (hd x.members).length 0)) := by
  refine scall_of Try.func24 rfl (by simp) ?_
  have hc64 : (x.members.length : Int) ≤ 64 := check_len hx
  have hcx := check_c x
  rw [hx] at hcx
  refine ex_seq ?_;
  refine ex_region ?_;
  refine exl_box rfl rfl rfl (g_box rfl rfl) ?_; intro _;
  refine exl_box rfl rfl rfl (g_box rfl rfl) ?_; intro _;
  refine exl_box rfl rfl rfl (g_box rfl rfl) ?_; intro _;
  refine exl_box rfl rfl rfl (g_alloc rfl) ?_; intro _;
  apply exl_is; rfl; rfl; rfl; (apply g_assign; rfl);
  refine exl_nilT ?_;
  refine ex_seq ?_;
  refine ex_seq ?_;
  refine ex_region ?_;
  apply exl_is; rfl; rfl; rfl; (apply g_loadAgg; rfl; decide; rfl; (exact .p (by ((repeat (first | exact List.Mem.head _ | assumption | refine List.Mem.tail _ ?_)); done)) rfl rfl));
  apply exl_is; rfl; rfl; rfl; (exact g_call rfl rfl (enters_b (by kernel_rfl)) (hcx _));
  apply exl_is; rfl; rfl; rfl; (apply g_assign; rfl);
  refine exl_nilT ?_;
  refine ex_seq ?_;
  refine ex_region ?_;
  apply exl_is; rfl; rfl; rfl; (apply g_move; rfl);
  apply exl_isB; rfl; rfl; rfl; (apply g_binInt; rfl; rfl; rfl); intro _ _;
  refine exl_nilT ?_;
  refine ex_cond rfl (fun h => ?_) (fun h => ?_) <;> ((first | (subst h; rename BV _ true => h0; have h := h0.eq; clear h0) | (subst h; rename BV _ false => h0; have h := h0.eq; clear h0) | skip); (have hp := h; try simp only [decide_eq_true_eq, decide_eq_false_iff_not, Bool.not_eq_true', Bool.not_eq_false', bne_iff_ne, beq_iff_eq, beq_eq_false_iff_ne, bne_eq_false_iff_eq, Int.not_lt, Int.not_le] at hp); (try (exfalso; first | omega | (cases hp; done))));
  refine ex_skip ?_;
  refine ex_seq ?_;
  refine ex_seq ?_;
  refine ex_region ?_;
  apply exl_is; rfl; rfl; rfl; (apply g_fieldAddr; rfl; rfl; rfl);
  apply exl_is; rfl; rfl; rfl; (apply g_load1; rfl; rfl; (exact .p (by ((repeat (first | exact List.Mem.head _ | assumption | refine List.Mem.tail _ ?_)); done)) rfl));
  apply exl_is; rfl; rfl; rfl; (apply g_len; rfl; rfl; (exact (List.length_map _).symm));
  apply exl_is; rfl; rfl; rfl; (apply g_assign; rfl);
  refine exl_nilT ?_;
  refine ex_seq ?_;
  refine ex_region ?_;
  apply exl_is; rfl; rfl; rfl; (apply g_load1; rfl; rfl; (exact .p (by ((repeat (first | exact List.Mem.head _ | assumption | refine List.Mem.tail _ ?_)); done)) rfl));
  apply exl_isB; rfl; rfl; rfl; (apply g_binInt; rfl; rfl; rfl); intro _ _;
  apply exl_is; rfl; rfl; rfl; (apply g_move; rfl);
  refine exl_caseL rfl (fun h => ?_) (fun h => ?_) <;> ((first | (subst h; rename BV _ true => h0; have h := h0.eq; clear h0) | (subst h; rename BV _ false => h0; have h := h0.eq; clear h0) | skip); (have hp := h; try simp only [decide_eq_true_eq, decide_eq_false_iff_not, Bool.not_eq_true', Bool.not_eq_false', bne_iff_ne, beq_iff_eq, beq_eq_false_iff_ne, bne_eq_false_iff_eq, Int.not_lt, Int.not_le] at hp); (try (exfalso; first | omega | (cases hp; done))));
  apply exl_isW; rfl; (rfl); rfl; rfl; (apply g_load1; rfl; rfl; (exact .p (by ((repeat (first | exact List.Mem.head _ | assumption | refine List.Mem.tail _ ?_)); done)) rfl));
  apply exl_isBW; rfl; (rfl); rfl; rfl; (apply g_binInt; rfl; rfl; rfl); intro _ _;
  apply exl_is; rfl; rfl; rfl; (apply g_pick_f; rfl; (rfl); rfl);
  apply exl_is; rfl; rfl; rfl; (apply g_move; rfl);
  refine exl_caseL rfl (fun h => ?_) (fun h => ?_) <;> ((first | (subst h; rename BV _ true => h0; have h := h0.eq; clear h0) | (subst h; rename BV _ false => h0; have h := h0.eq; clear h0) | skip); (have hp := h; try simp only [decide_eq_true_eq, decide_eq_false_iff_not, Bool.not_eq_true', Bool.not_eq_false', bne_iff_ne, beq_iff_eq, beq_eq_false_iff_ne, bne_eq_false_iff_eq, Int.not_lt, Int.not_le] at hp); (try (exfalso; first | omega | (cases hp; done))));
  apply exl_isW; rfl; (rfl); rfl; rfl; (apply g_load1; rfl; rfl; (exact .p (by ((repeat (first | exact List.Mem.head _ | assumption | refine List.Mem.tail _ ?_)); done)) rfl));
  apply exl_isW; rfl; (rfl); rfl; rfl; (apply g_move; rfl);
  apply exl_isBW; rfl; (rfl); rfl; rfl; (apply g_binInt; rfl; rfl; rfl); intro _ _;
  apply exl_is; rfl; rfl; rfl; (apply g_pick_f; rfl; (rfl); rfl);
  apply exl_is; rfl; rfl; rfl; (apply g_move; rfl);
  refine exl_caseL rfl (fun h => ?_) (fun h => ?_) <;> ((first | (subst h; rename BV _ true => h0; have h := h0.eq; clear h0) | (subst h; rename BV _ false => h0; have h := h0.eq; clear h0) | skip); (have hp := h; try simp only [decide_eq_true_eq, decide_eq_false_iff_not, Bool.not_eq_true', Bool.not_eq_false', bne_iff_ne, beq_iff_eq, beq_eq_false_iff_ne, bne_eq_false_iff_eq, Int.not_lt, Int.not_le] at hp); (try (exfalso; first | omega | (cases hp; done))));
  apply exl_isW; rfl; (rfl); rfl; rfl; (apply g_load1; rfl; rfl; (exact .p (by ((repeat (first | exact List.Mem.head _ | assumption | refine List.Mem.tail _ ?_)); done)) rfl));
  apply exl_isW; rfl; (rfl); rfl; rfl; (apply g_move; rfl);
  apply exl_isW; rfl; (rfl); rfl; rfl; (apply g_load1; rfl; rfl; (exact .p (by ((repeat (first | exact List.Mem.head _ | assumption | refine List.Mem.tail _ ?_)); done)) rfl));
  apply exl_isW; rfl; (rfl); rfl; rfl; (apply g_sub; rfl; rfl; rfl; exact ⟨by omega, by omega⟩);
  apply exl_isBW; rfl; (rfl); rfl; rfl; (apply g_binInt; rfl; rfl; rfl); intro _ _;
  apply exl_is; rfl; rfl; rfl; (apply g_pick_f; rfl; (rfl); rfl);
  refine exl_nilT ?_;
  refine ex_cond rfl (fun h => ?_) (fun h => ?_) <;> ((first | (subst h; rename BV _ true => h0; have h := h0.eq; clear h0) | (subst h; rename BV _ false => h0; have h := h0.eq; clear h0) | skip); (have hp := h; try simp only [decide_eq_true_eq, decide_eq_false_iff_not, Bool.not_eq_true', Bool.not_eq_false', bne_iff_ne, beq_iff_eq, beq_eq_false_iff_ne, bne_eq_false_iff_eq, Int.not_lt, Int.not_le] at hp); (try (exfalso; first | omega | (cases hp; done))));
  refine ex_skip ?_;
  refine ex_seq ?_;
  refine ex_seq ?_;
  refine ex_region ?_;
  apply exl_is; rfl; rfl; rfl; (apply g_loadAgg; rfl; decide; rfl; (exact .p (by ((repeat (first | exact List.Mem.head _ | assumption | refine List.Mem.tail _ ?_)); done)) rfl rfl));
  apply exl_is; rfl; rfl; rfl; (apply g_move; rfl);
  refine exl_call rfl rfl rfl (g_call rfl rfl (enters_b (by kernel_rfl)) (periods_c x g cap _)) ?_; rintro _ _ ⟨b1, b2, rfl, rfl⟩;
  refine exl_nilT ?_;
  refine ex_block ?_;
  rotate_left
  (all_goals (repeat (rename BV _ _ => hbv; cases hbv)))
  all_goals (try (exfalso; first | (rename true = false => hx; cases hx; done) | (rename false = true => hx; cases hx; done)))
  rename_i b4 b5 b6 b8 _ _ _ _ _ _ _ _
  refine ex_weaken (s' := ⟨[(5, .ptr b5 0), (6, .ptr b6 0), (8, .ptr b8 0), (9, .int .i64 0), (42, .fn (.func 48) [] [.ptr b1 0, .ptr b2 0])], .cells b2 [.fn (.func g) [] cap] 49 :: .cells b1 (enC x) 24 :: .cells b8 [.slv nilS] 27 :: .cells b6 [.int .i64 high] 3 :: .cells b5 [.int .i64 low] 3 :: .cells b4 (enC x) 24 :: S 0 0, [], Try.f24.ntmps⟩) (St.le_of (by repeat (first | exact trivial | refine ⟨rfl, ?_⟩)) (by repeat (first | exact List.Sublist.refl _ | apply List.Sublist.cons_cons | apply List.Sublist.cons))) ?_
  refine ex_nilRow 40 2 ?_
  refine ex_range rfl (enters_b (by kernel_rfl)) ?_
  intro D l fn
  show SCall _ _ _ (Ent.loop _ _ _ _ ?ee ?nn ?ps ?asg ?body _ :: _) _
  obtain ⟨L, hL⟩ : ∃ L, L = Ent.loop l .ready none fn ?ee ?nn ?ps ?asg ?body D := ⟨_, rfl⟩
  rw [← hL]
  have hne : ¬ x.members.length = 0 := by omega
  have hlen : ∀ m ∈ x.members, m.length = (hd x.members).length := fun m hm => (check_rows hx m hm).1
  have h16 : (hd x.members).length ≤ 16 := check_16 hx
  refine SCall.mono (periods1_c (x := x) (g := g) (cap := cap) (val := val) (b1 := b1) (b2 := b2) (l := l) (t1 := 24) (t2 := 49)
    (I := fun k i τ => ∃ v, τ = L :: .obj D (.deferred (some [])) :: .row v 40 2 ((rgV val x.members.length low high k).map rgC) :: .cells b2 [.fn (.func g) [] cap] 49 :: .cells b1 (enC x) 24 :: .cells b8 [.slv v] 27 :: .cells b6 [.int .i64 high] 3 :: .cells b5 [.int .i64 low] 3 :: .cells b4 (enC x) 24 :: S k i)
    ?_ hne hlen (by omega) h16 ?_ ?_ ?_ ⟨nilS, rfl⟩) ?_
  · refine ⟨he, ?_⟩
    rintro k i n σ front ⟨v, rfl⟩ hn
    have h := hS k i n (front ++ [L, .obj D (.deferred (some [])), .row v 40 2 ((rgV val x.members.length low high k).map rgC), .cells b2 [.fn (.func g) [] cap] 49, .cells b1 (enC x) 24, .cells b8 [.slv v] 27, .cells b6 [.int .i64 high] 3, .cells b5 [.int .i64 low] 3, .cells b4 (enC x) 24]) hn
    simp only [List.append_assoc, List.cons_append, List.nil_append] at h ⊢
    exact h.mono fun r τ ⟨h1, h2⟩ => ⟨h1, _, h2, v, rfl⟩
  · rintro k i σ ⟨v, rfl⟩
    exact (by ((repeat (first | exact List.Mem.head _ | assumption | refine List.Mem.tail _ ?_)); done))
  · rintro k i σ ⟨v, rfl⟩
    exact (by ((repeat (first | exact List.Mem.head _ | assumption | refine List.Mem.tail _ ?_)); done))
  · rintro k σ v hk ⟨u, rfl⟩
    rw [hL]
    have hcl := colV_length val k x.members.length
    have hrl : (rgV val x.members.length low high k).length = k := by simp [rgV]
    refine SRound.sub ?_
    refine sround (by ((repeat (first | exact List.Mem.head _ | assumption | refine List.Mem.tail _ ?_)); done)) rfl (by decide) ?_
    refine ex_region ?_;
    apply exl_is; rfl; rfl; rfl; (apply g_assign; rfl);
    refine exl_nil ?_;
    simp only [thenA]; refine ⟨_, (by (exact Upd.there (Upd.here))), ?_⟩; show EX _ _ _ _ _;
    refine ex_block ?_;
    refine ex_seq ?_;
    refine ex_region ?_;
    apply exl_is; rfl; rfl; rfl; (apply g_move; rfl);
    apply exl_is; rfl; rfl; rfl; (apply g_load1; rfl; rfl; (exact .p (by ((repeat (first | exact List.Mem.head _ | assumption | refine List.Mem.tail _ ?_)); done)) rfl));
    apply exl_is; rfl; rfl; rfl; (apply g_load1; rfl; rfl; (exact .p (by ((repeat (first | exact List.Mem.head _ | assumption | refine List.Mem.tail _ ?_)); done)) rfl));
    refine exl_call rfl rfl rfl (g_call rfl rfl (enters_b (by kernel_rfl)) (trim_c (colV val k x.members.length) low high (by omega) (by omega) v _)) ?_; rintro _ _ ⟨⟩;
    apply exl_is; rfl; rfl; rfl; (apply g_move; rfl);
    apply exl_is; rfl; rfl; rfl; (apply g_extract; rfl; rfl);
    apply exl_is; rfl; rfl; rfl; (apply g_extract; rfl; rfl);
    apply exl_is; rfl; rfl; rfl; (apply g_assign; rfl);
    apply exl_is; rfl; rfl; rfl; (apply g_assign; rfl);
    refine exl_nilT ?_;
    refine ex_region ?_;
    apply exl_is; rfl; rfl; rfl; (apply g_load1; rfl; rfl; (exact .p (by ((repeat (first | exact List.Mem.head _ | assumption | refine List.Mem.tail _ ?_)); done)) rfl));
    apply exl_is; rfl; rfl; rfl; (apply g_move; rfl);
    apply exl_is; rfl; rfl; rfl; (apply g_move; rfl);
    apply exl_is; rfl; rfl; rfl; (apply g_build; rfl; rfl; rfl; rfl);
    refine exl_row rfl rfl rfl (by exact g_buildSlice rfl rfl (by decide) rfl rfl (by (simp only [chunkN, List.take_succ_cons, List.take_zero, List.drop_succ_cons, List.drop_zero]; rfl))) ?_; intro _;
    apply exl_grew; rfl; rfl; rfl; (apply g_append; rfl; rfl; rfl; (intro v'; (exact Upd.there (Upd.there (Upd.there (Upd.here))))); (exact .r (by ((repeat (first | exact List.Mem.head _ | assumption | refine List.Mem.tail _ ?_)); done))); (intro y hy; simp only [List.mem_map, List.mem_cons, List.not_mem_nil, or_false, List.mem_append] at hy; (obtain ⟨_, _, rfl⟩ := hy; rfl)); (refine app_ok ?_ (by kernel_rfl); (try simp only [List.length_append, List.length_map, List.length_cons, List.length_nil, List.length_take, List.length_drop]); omega)); intro _;
    apply exl_do; rfl; rfl; (apply g_store'; rfl; rfl; rfl; (exact Upd.there (Upd.there (Upd.there (Upd.there (Upd.there (Upd.there (Upd.here))))))); (simp only [setL, List.set_cons_zero, List.set_cons_succ, AV.cells]; rfl); rfl; rfl; rfl; exact Nat.le_of_ble_eq_true rfl);
    refine exl_nil ?_;
    simp only [thenA, blockA, roundA, noGotoA, retA, ↓reduceIte, Nat.reduceEqDiff];
    show rndA _ _ _ _ _ _ _ _ _ _ _; refine ⟨_, _, rfl, (by (exact Upd.there (Upd.here))), ?_⟩;
    simp only [thenA, blockA, roundA, noGotoA, retA, ↓reduceIte, Nat.reduceEqDiff];
    rotate_left
    (all_goals (repeat (rename BV _ _ => hbv; cases hbv)))
    all_goals (try (exfalso; first | (rename true = false => hx; cases hx; done) | (rename false = true => hx; cases hx; done)))
    rename Value => v2
    subst hL
    have hcs : (rgV val x.members.length low high k).map rgC ++ [rgC (trimE (colV val k x.members.length) low high)] = (rgV val x.members.length low high (k + 1)).map rgC := by simp [rgV, List.range_succ]
    refine ⟨_, ?_, rfl, v2, rfl⟩
    refine List.Sublist.cons _ (List.Sublist.cons_cons _ (List.Sublist.cons_cons _ ?_))
    rw [← hcs, ← hSn k]
    exact List.Sublist.refl _
  · rintro r τ ⟨v, rfl⟩
    rw [hL]
    refine RangeEnd.done .here ?_
    refine ex_seq ?_;
    refine ex_region ?_;
    apply exl_is; rfl; rfl; rfl; (apply g_load1; rfl; rfl; (exact .p (by ((repeat (first | exact List.Mem.head _ | assumption | refine List.Mem.tail _ ?_)); done)) rfl));
    apply exl_do; rfl; rfl; (apply g_store'; rfl; rfl; rfl; (exact Upd.there (Upd.there (Upd.there (Upd.there (Upd.here))))); (simp only [setL, List.set_cons_zero, List.set_cons_succ, AV.cells]; rfl); rfl; rfl; rfl; exact Nat.le_of_ble_eq_true rfl);
    apply exl_is; rfl; rfl; rfl; (apply g_assign; rfl);
    refine exl_nilT ?_;
    refine ex_ret ?_;
    simp only [thenA, blockA, roundA, noGotoA, retA, ↓reduceIte, Nat.reduceEqDiff];
    rotate_left
    (all_goals (repeat (rename BV _ _ => hbv; cases hbv)))
    all_goals (try (exfalso; first | (rename true = false => hx; cases hx; done) | (rename false = true => hx; cases hx; done)))
    refine ret_q (σ3 := .row v 40 2 ((rgV val x.members.length low high (hd x.members).length).map rgC) :: S (hd x.members).length 0) (.cons (Rem.here) .nil) ((by repeat (first | exact Res.nil | (apply Res.cons; (first | (apply Res1.ofTmp; rfl) | (apply Res1.ofCell; rfl; rfl; (first | exact .e rfl | exact .p (by ((repeat (first | exact List.Mem.head _ | assumption | refine List.Mem.tail _ ?_)); done)) rfl | exact .r (by ((repeat (first | exact List.Mem.head _ | assumption | refine List.Mem.tail _ ?_)); done)) rfl)) | (apply Res1.ofAgg; rfl; rfl; decide; (first | exact .e rfl rfl | exact .p (by ((repeat (first | exact List.Mem.head _ | assumption | refine List.Mem.tail _ ?_)); done)) rfl rfl | exact .r (by ((repeat (first | exact List.Mem.head _ | assumption | refine List.Mem.tail _ ?_)); done)) rfl rfl))))))) (by repeat (first | exact List.Sublist.refl _ | apply List.Sublist.cons_cons | apply List.Sublist.cons)) ?_
    exact fin_seal .here (.tup (.here (.same .nil)) .nil) (fin_done .mk)
end Go.Proofs.Ytimeggaignfhgaa
