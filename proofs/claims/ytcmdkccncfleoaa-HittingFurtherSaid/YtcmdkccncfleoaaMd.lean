/- Hitting: minimal. -/
import Derived.Test.YtcmdkccncfleoaaMb
namespace Go.Proofs.Ytcmdkccncfleoaa
set_option linter.unusedSimpArgs false
set_option linter.unusedVariables false
/-- What the program's two loops leave. -/
def leastK (K : List Nat) (s : Nat) : Bool := !(K.any fun t => decide (t < s) && subB t s)
theorem least_red {F K : List Nat} {N : Nat} (hF : ∀ s ∈ F, s < 2 ^ N) (hK : K.Pairwise (· < ·)) (hm : ∀ s, s ∈ K ↔ s ∈ F) : K.filter (leastK K) = redL F N := by
  refine nat_ext (hK.sublist List.filter_sublist) (redL_up _ _) fun s => ?_
  rw [List.mem_filter, redL_mem hF]
  unfold leastK MinIn
  rw [Bool.not_eq_true', List.any_eq_false, hm s]
  constructor
  · rintro ⟨h1, h2⟩
    refine ⟨h1, fun c hc hs => ?_⟩
    apply Classical.byContradiction
    intro hne
    refine h2 c ((hm c).2 hc) ?_
    rw [subB_iff.2 hs, decide_eq_true (hs.lt hne)]; rfl
  · rintro ⟨h1, h2⟩
    refine ⟨h1, fun c hc h => ?_⟩
    rw [Bool.and_eq_true, decide_eq_true_eq] at h
    have := h2 c ((hm c).1 hc) (subB_iff.1 h.2)
    omega
theorem nat_of {F : List Nat} {K : List Int} (h : ∀ q ∈ K, q ∈ natI F) : ∃ M : List Nat, K = natI M ∧ ∀ s, s ∈ M ↔ (s : Int) ∈ K := by
  have e : natI (K.map Int.toNat) = K := by
    show (K.map Int.toNat).map _ = K
    rw [List.map_map]
    have : K.map ((fun (n : Nat) => (n : Int)) ∘ Int.toNat) = K.map id := List.map_congr_left fun s hs => by
      obtain ⟨n, _, rfl⟩ := List.mem_map.1 (h s hs)
      rfl
    rw [this, List.map_id]
  refine ⟨K.map Int.toNat, e.symm, fun s => ?_⟩
  rw [List.mem_map]
  constructor
  · rintro ⟨q, hq, rfl⟩
    obtain ⟨n, _, rfl⟩ := List.mem_map.1 (h q hq)
    exact hq
  · intro hs; exact ⟨_, hs, rfl⟩
theorem natI_up {M : List Nat} (h : (natI M).Pairwise (· < ·)) : M.Pairwise (· < ·) := by
  rw [List.pairwise_map] at h
  exact h.imp fun h => by omega
theorem natI_mem {F : List Nat} {s : Nat} : (s : Int) ∈ natI F ↔ s ∈ F := by
  rw [List.mem_map]
  constructor
  · rintro ⟨n, hn, e⟩
    have : n = s := by omega
    rw [← this]; exact hn
  · intro h; exact ⟨s, h, rfl⟩
theorem andNot_sub (t s : Nat) : (andNot t s == 0) = subB t s := by
  unfold andNot subB
  by_cases h : t &&& s = t
  · rw [h, Nat.xor_self]; simp
  · rw [beq_eq_false_iff_ne.2 h, beq_eq_false_iff_ne]
    intro h0
    apply h
    apply Nat.eq_of_testBit_eq
    intro i
    have := congrArg (fun x => x.testBit i) h0
    simp only [Nat.testBit_xor, Nat.zero_testBit] at this
    cases h1 : t.testBit i <;> cases h2 : (t &&& s).testBit i <;> simp_all
theorem g_andNotQ {P : Program} {ro : Option Nat} {env : Env} {σ : List Ent} {dst : Option Tmp} {ty : TypeId} {pos : String} {after : Array Edge} {guard : Option (Nat × Bool)} {x y : Operand} {t yt : TypeId} {a b : Int} {m n q : Nat} (hx : evA env x = some (.int .i64 a)) (hy : evA env y = some (.int .i64 b)) (ha : a = (m : Int)) (hb : b = (n : Int)) (h1 : m < 9223372036854775808) (h2 : n < 9223372036854775808) (hq : andNot m n = q) :
    GOp P ro ⟨dst, .binOp .andNot t x y yt, ty, pos, after, guard⟩ env σ (Is (.int .i64 ((q : Nat) : Int)) σ) := by
  subst hq; exact g_andNotN hx hy ha hb h1 h2
set_option maxHeartbeats 4000000 in
set_option maxRecDepth 10000 in
theorem minimal_c (F : List Nat) (N : Nat) (hN : N ≤ 12) (hF : ∀ s ∈ F, s < 2 ^ N) (hl : F.length ≤ 100000) (σ : List Ent) : SCall Try.prog 29 [ints (natI F)] σ (Is (ints (natI (redL F N))) σ) := by
  refine scall_of Try.func29 rfl (by simp) ?_
  refine ex_nilRow 3 1 ?_
  refine ex_seq ?_;
  refine ex_region ?_;
  apply exl_is; rfl; rfl; rfl; (apply g_assign; rfl);
  refine exl_nilT ?_;
  refine ex_scope ?_;
  refine ex_seq ?_;
  refine ex_region ?_;
  refine exl_map rfl rfl rfl (by exact g_makeMap) ?_; intro _;
  apply exl_is; rfl; rfl; rfl; (apply g_assign; rfl);
  refine exl_nilT ?_;
  refine ex_seq ?_;
  refine ex_seq ?_;
  refine ex_region ?_;
  apply exl_is; rfl; rfl; rfl; (apply g_move; rfl);
  apply exl_is; rfl; rfl; rfl; (apply g_len; rfl; rfl; (exact (List.length_map _).symm));
  apply exl_is; rfl; rfl; rfl; (apply g_move; rfl);
  refine exl_nilT ?_;
  refine ex_block ?_;
  rotate_left
  (all_goals (repeat (rename BV _ _ => hbv; cases hbv)))
  all_goals (try (exfalso; first | (rename true = false => hx; cases hx; done) | (rename false = true => hx; cases hx; done)))
  rename_i b
  rw [boolM_none]
  have hlf := natI_len F
  refine ex_loop (fun (z : Nat × Nat) => (⟨[(12, ints (natI F)), (13, .int .i64 (natI F).length), (14, .int .i64 z.1), (3, .mp b), (2, .slv nilS)], .imap b (boolM ((natI F).take z.1).contains) z.2 :: .row nilS 3 1 [] :: σ, [], Try.f29.ntmps⟩ : St)) (fun z => z.1 ≤ F.length) (fun z => F.length - z.1) (0, 0) (Nat.zero_le _) (St.le_of (by repeat (first | exact trivial | refine ⟨rfl, ?_⟩)) (by repeat (first | exact List.Sublist.refl _ | apply List.Sublist.cons_cons | apply List.Sublist.cons))) ?_
  intro z hI
  obtain ⟨i, cnt⟩ := z
  dsimp only at hI ⊢
  by_cases hi : i < F.length
  · obtain ⟨s, hs⟩ : ∃ s, F[i]? = some s := ⟨_, List.getElem?_eq_getElem hi⟩
    have hg := natI_get hs
    have hi2 : i < (natI F).length := by omega
    have hst : (natI F).take (i + 1) = (natI F).take i ++ [(s : Int)] := by rw [List.take_add_one, hg]; rfl
    generalize (natI F).take i = A at hst ⊢
    clear hF
    refine ex_seq ?_;
    refine ex_region ?_;
    apply exl_isB; rfl; rfl; rfl; (apply g_binInt; rfl; rfl; rfl); intro _ _;
    refine exl_nilT ?_;
    refine ex_seq ?_;
    refine ex_cond rfl (fun h => ?_) (fun h => ?_) <;> ((first | (subst h; rename BV _ true => h0; have h := h0.eq; clear h0) | (subst h; rename BV _ false => h0; have h := h0.eq; clear h0) | skip); (have hp := h; try simp only [decide_eq_true_eq, decide_eq_false_iff_not, Bool.not_eq_true', Bool.not_eq_false', bne_iff_ne, beq_iff_eq, beq_eq_false_iff_ne, bne_eq_false_iff_eq, Int.not_lt, Int.not_le] at hp); (try (exfalso; first | omega | (cases hp; done))));
    refine ex_skip ?_;
    refine ex_seq ?_;
    refine ex_block ?_;
    refine ex_seq ?_;
    refine ex_region ?_;
    apply exl_is; rfl; rfl; rfl; (apply g_indexDl; rfl; rfl; rfl; (rfl); (exact get_map (by assumption)));
    apply exl_is; rfl; rfl; rfl; (apply g_load1; rfl; rfl; (exact .e rfl));
    apply exl_is; rfl; rfl; rfl; (apply g_assign; rfl);
    refine exl_nilT ?_;
    refine ex_region ?_;
    apply exl_is; rfl; rfl; rfl; (apply g_move; rfl);
    apply exl_is; rfl; rfl; rfl; (apply g_move; rfl);
    apply exl_do; rfl; rfl; (apply g_mapUpdate; rfl; rfl; rfl; rfl; (exact Upd.here); (exact boolM_list _ _));
    refine exl_nil ?_;
    refine ex_region ?_;
    apply exl_is; rfl; rfl; rfl; (apply g_add; rfl; rfl; rfl; exact ⟨by omega, by omega⟩);
    apply exl_is; rfl; rfl; rfl; (apply g_move; rfl);
    refine exl_nil ?_;
    simp only [thenA, blockA, roundA, noGotoA, retA, ↓reduceIte, Nat.reduceEqDiff];
    rotate_left
    (all_goals (repeat (rename BV _ _ => hbv; cases hbv)))
    all_goals (try (exfalso; first | (rename true = false => hx; cases hx; done) | (rename false = true => hx; cases hx; done)))
    refine ⟨(i + 1, if ((boolM A.contains) (s : Int)).isSome then cnt else cnt + 1), hi, by dsimp only; omega, ?_⟩
    dsimp only
    rw [hst]
    exact (St.le_of (by repeat (first | exact trivial | refine ⟨rfl, ?_⟩)) (by repeat (first | exact List.Sublist.refl _ | apply List.Sublist.cons_cons | apply List.Sublist.cons)))
  · have hi2 : ¬ i < (natI F).length := by omega
    rw [List.take_of_length_le (by omega)]
    have hS : ∀ q, (natI F).contains q = true → q ∈ natI F := fun q hq => by simpa using hq
    have hB : (natI F).length ≤ 1000000 := by omega
    refine ex_seq ?_;
    refine ex_region ?_;
    apply exl_isB; rfl; rfl; rfl; (apply g_binInt; rfl; rfl; rfl); intro _ _;
    refine exl_nilT ?_;
    refine ex_seq ?_;
    refine ex_cond rfl (fun h => ?_) (fun h => ?_) <;> ((first | (subst h; rename BV _ true => h0; have h := h0.eq; clear h0) | (subst h; rename BV _ false => h0; have h := h0.eq; clear h0) | skip); (have hp := h; try simp only [decide_eq_true_eq, decide_eq_false_iff_not, Bool.not_eq_true', Bool.not_eq_false', bne_iff_ne, beq_iff_eq, beq_eq_false_iff_ne, bne_eq_false_iff_eq, Int.not_lt, Int.not_le] at hp); (try (exfalso; first | omega | (cases hp; done))));
    refine ex_exit ?_;
    refine ex_seq ?_;
    refine ex_region ?_;
    apply exl_is; rfl; rfl; rfl; (apply g_move; rfl);
    refine exl_call rfl rfl rfl (g_call rfl rfl (enters_b (by kernel_rfl)) (keys_c _ _ _ _)) ?_; rintro _ _ ⟨bm, rfl, rfl⟩;
    refine exl_call rfl rfl rfl (g_call rfl rfl (enters_b (by kernel_rfl)) (sorted_c _ (natI F) hS hB _ _ _ _)) ?_; rintro _ _ ⟨K, rfl, rfl, k1, k2, k3⟩;
    apply exl_is; rfl; rfl; rfl; (apply g_assign; rfl);
    refine exl_nilT ?_;
    refine ex_seq ?_;
    refine ex_label ?_;
    refine ex_seq ?_;
    refine ex_seq ?_;
    refine ex_region ?_;
    apply exl_is; rfl; rfl; rfl; (apply g_move; rfl);
    apply exl_is; rfl; rfl; rfl; (apply g_len; rfl; rfl; (exact (List.length_map _).symm));
    apply exl_is; rfl; rfl; rfl; (apply g_move; rfl);
    refine exl_nilT ?_;
    refine ex_block ?_;
    rotate_left
    (all_goals (repeat (rename BV _ _ => hbv; cases hbv)))
    all_goals (try (exfalso; first | (rename true = false => hx; cases hx; done) | (rename false = true => hx; cases hx; done)))
    obtain ⟨M, rfl, hM⟩ := nat_of (F := F) (K := K) fun q hq => hS q ((k2 q).1 hq)
    have hMF : ∀ s, s ∈ M ↔ s ∈ F := fun s => by
      rw [hM s, k2]
      have := natI_mem (F := F) (s := s)
      simpa using this
    have hup := natI_up k1
    have hres := least_red hF hup hMF
    have hlm := natI_len M
    have hb63 : ∀ s ∈ M, s < 4096 := fun s hs => by
      have := hF s ((hMF s).1 hs)
      have h2 : 2 ^ N ≤ 2 ^ 12 := Nat.pow_le_pow_right (by decide) hN
      omega
    rw [← hres]
    have hml : M.length ≤ 100000 := by omega
    clear hF hS hB k1 k2 k3 hM hMF hres hi hi2 hlf hl hI hN
    refine ex_loop (fun (z : Nat × Value) => (⟨[(24, ints (natI M)), (25, .int .i64 (natI M).length), (26, .int .i64 z.1), (6, ints (natI M)), (2, .slv z.2)], .row z.2 3 1 ((natI ((M.take z.1).filter (leastK M))).map intC) :: σ, [], Try.f29.ntmps⟩ : St)) (fun z => z.1 ≤ M.length) (fun z => M.length - z.1) (0, nilS) (Nat.zero_le _) (St.le_of (by repeat (first | exact trivial | refine ⟨rfl, ?_⟩)) (by repeat (first | exact List.Sublist.refl _ | apply List.Sublist.cons_cons | apply List.Sublist.cons))) ?_
    intro z hI
    obtain ⟨i, v⟩ := z
    dsimp only at hI ⊢
    by_cases hi : i < M.length
    · obtain ⟨s, hs⟩ : ∃ s, M[i]? = some s := ⟨_, List.getElem?_eq_getElem hi⟩
      have hg := natI_get hs
      have hi2 : i < (natI M).length := by omega
      have hsb := hb63 s (List.mem_of_getElem? hs)
      have hlen : ((M.take i).filter (leastK M)).length ≤ 100000 := by
        have := List.length_filter_le (leastK M) (M.take i)
        rw [List.length_take] at this
        omega
      have hst : (M.take (i + 1)).filter (leastK M) = (M.take i).filter (leastK M) ++ (if leastK M s then [s] else []) := by
        rw [List.take_add_one, hs, List.filter_append]
        cases hp : leastK M s <;> simp [hp]
      generalize (M.take i).filter (leastK M) = A at hst hlen ⊢
      refine ex_seq ?_;
      refine ex_region ?_;
      apply exl_isB; rfl; rfl; rfl; (apply g_binInt; rfl; rfl; rfl); intro _ _;
      refine exl_nilT ?_;
      refine ex_seq ?_;
      refine ex_cond rfl (fun h => ?_) (fun h => ?_) <;> ((first | (subst h; rename BV _ true => h0; have h := h0.eq; clear h0) | (subst h; rename BV _ false => h0; have h := h0.eq; clear h0) | skip); (have hp := h; try simp only [decide_eq_true_eq, decide_eq_false_iff_not, Bool.not_eq_true', Bool.not_eq_false', bne_iff_ne, beq_iff_eq, beq_eq_false_iff_ne, bne_eq_false_iff_eq, Int.not_lt, Int.not_le] at hp); (try (exfalso; first | omega | (cases hp; done))));
      refine ex_skip ?_;
      refine ex_seq ?_;
      refine ex_block ?_;
      refine ex_seq ?_;
      refine ex_region ?_;
      apply exl_is; rfl; rfl; rfl; (apply g_indexDl; rfl; rfl; rfl; (rfl); (exact get_map (by assumption)));
      apply exl_is; rfl; rfl; rfl; (apply g_load1; rfl; rfl; (exact .e rfl));
      apply exl_is; rfl; rfl; rfl; (apply g_assign; rfl);
      refine exl_nilT ?_;
      refine ex_seq ?_;
      refine ex_seq ?_;
      refine ex_region ?_;
      apply exl_is; rfl; rfl; rfl; (apply g_move; rfl);
      apply exl_is; rfl; rfl; rfl; (apply g_len; rfl; rfl; (exact (List.length_map _).symm));
      apply exl_is; rfl; rfl; rfl; (apply g_move; rfl);
      refine exl_nilT ?_;
      refine ex_block ?_;
      rotate_left
      (all_goals (repeat (rename BV _ _ => hbv; cases hbv)))
      all_goals (try (exfalso; first | (rename true = false => hx; cases hx; done) | (rename false = true => hx; cases hx; done)))
      refine ex_loop (fun (j : Nat) => (⟨[(8, .int .i64 s), (30, ints (natI M)), (31, .int .i64 (natI M).length), (32, .int .i64 j), (24, ints (natI M)), (25, .int .i64 (natI M).length), (26, .int .i64 i), (6, ints (natI M)), (2, .slv v)], .row v 3 1 ((natI A).map intC) :: σ, [], Try.f29.ntmps⟩ : St)) (fun j => j ≤ M.length ∧ ((M.take j).any fun t => decide (t < s) && subB t s) = false) (fun j => M.length - j) 0 (⟨Nat.zero_le _, rfl⟩) (St.le_of (by repeat (first | exact trivial | refine ⟨rfl, ?_⟩)) (by repeat (first | exact List.Sublist.refl _ | apply List.Sublist.cons_cons | apply List.Sublist.cons))) ?_
      intro j hI
      obtain ⟨hj1, hj2⟩ := hI
      by_cases hj : j < M.length
      · obtain ⟨t, ht⟩ : ∃ t, M[j]? = some t := ⟨_, List.getElem?_eq_getElem hj⟩
        have hgt := natI_get ht
        have hjl : j < (natI M).length := by omega
        have htb := hb63 t (List.mem_of_getElem? ht)
        by_cases hlt : t < s
        · have hq := andNot_sub t s
          obtain ⟨q, hqe⟩ : ∃ q, andNot t s = q := ⟨_, rfl⟩
          rw [hqe] at hq
          cases hsub : subB t s with
          | true =>
            rw [hsub, beq_iff_eq] at hq
            have hlk : leastK M s = false := by
              unfold leastK
              rw [Bool.not_eq_false', List.any_eq_true]
              exact ⟨t, List.mem_of_getElem? ht, by rw [hsub, decide_eq_true hlt]; rfl⟩
            clear hb63 hup hj2
            refine ex_seq ?_;
            refine ex_region ?_;
            apply exl_isB; rfl; rfl; rfl; (apply g_binInt; rfl; rfl; rfl); intro _ _;
            refine exl_nilT ?_;
            refine ex_seq ?_;
            refine ex_cond rfl (fun h => ?_) (fun h => ?_) <;> ((first | (subst h; rename BV _ true => h0; have h := h0.eq; clear h0) | (subst h; rename BV _ false => h0; have h := h0.eq; clear h0) | skip); (have hp := h; try simp only [decide_eq_true_eq, decide_eq_false_iff_not, Bool.not_eq_true', Bool.not_eq_false', bne_iff_ne, beq_iff_eq, beq_eq_false_iff_ne, bne_eq_false_iff_eq, Int.not_lt, Int.not_le] at hp); (try (exfalso; first | omega | (cases hp; done))));
            refine ex_skip ?_;
            refine ex_seq ?_;
            refine ex_block ?_;
            refine ex_seq ?_;
            refine ex_region ?_;
            apply exl_is; rfl; rfl; rfl; (apply g_indexDl; rfl; rfl; rfl; (rfl); (exact get_map (by assumption)));
            apply exl_is; rfl; rfl; rfl; (apply g_load1; rfl; rfl; (exact .e rfl));
            apply exl_is; rfl; rfl; rfl; (apply g_assign; rfl);
            refine exl_nilT ?_;
            refine ex_seq ?_;
            refine ex_seq ?_;
            refine ex_region ?_;
            apply exl_is; rfl; rfl; rfl; (apply g_move; rfl);
            apply exl_is; rfl; rfl; rfl; (apply g_move; rfl);
            apply exl_isB; rfl; rfl; rfl; (apply g_binInt; rfl; rfl; rfl); intro _ _;
            refine exl_nilT ?_;
            refine ex_cond rfl (fun h => ?_) (fun h => ?_) <;> ((first | (subst h; rename BV _ true => h0; have h := h0.eq; clear h0) | (subst h; rename BV _ false => h0; have h := h0.eq; clear h0) | skip); (have hp := h; try simp only [decide_eq_true_eq, decide_eq_false_iff_not, Bool.not_eq_true', Bool.not_eq_false', bne_iff_ne, beq_iff_eq, beq_eq_false_iff_ne, bne_eq_false_iff_eq, Int.not_lt, Int.not_le] at hp); (try (exfalso; first | omega | (cases hp; done))));
            refine ex_skip ?_;
            refine ex_seq ?_;
            refine ex_region ?_;
            apply exl_is; rfl; rfl; rfl; (apply g_move; rfl);
            apply exl_is; rfl; rfl; rfl; (apply g_move; rfl);
            apply exl_is; rfl; rfl; rfl; (apply g_andNotQ; rfl; rfl; rfl; rfl; omega; omega; exact hqe);
            apply exl_isB; rfl; rfl; rfl; (apply g_binInt; rfl; rfl; rfl); intro _ _;
            refine exl_nilT ?_;
            refine ex_cond rfl (fun h => ?_) (fun h => ?_) <;> ((first | (subst h; rename BV _ true => h0; have h := h0.eq; clear h0) | (subst h; rename BV _ false => h0; have h := h0.eq; clear h0) | skip); (have hp := h; try simp only [decide_eq_true_eq, decide_eq_false_iff_not, Bool.not_eq_true', Bool.not_eq_false', bne_iff_ne, beq_iff_eq, beq_eq_false_iff_ne, bne_eq_false_iff_eq, Int.not_lt, Int.not_le] at hp); (try (exfalso; first | omega | (cases hp; done))));
            refine ex_exit ?_;
            refine ex_region ?_;
            apply exl_is; rfl; rfl; rfl; (apply g_add; rfl; rfl; rfl; exact ⟨by omega, by omega⟩);
            apply exl_is; rfl; rfl; rfl; (apply g_move; rfl);
            refine exl_nil ?_;
            simp only [thenA, blockA, roundA, noGotoA, retA, ↓reduceIte, Nat.reduceEqDiff];
            rotate_left
            (all_goals (repeat (rename BV _ _ => hbv; cases hbv)))
            all_goals (try (exfalso; first | (rename true = false => hx; cases hx; done) | (rename false = true => hx; cases hx; done)))
            refine ⟨(i + 1, v), hi, by dsimp only; omega, ?_⟩
            dsimp only
            rw [hst, hlk, show A ++ (if false = true then [s] else []) = A by simp]
            exact (St.le_of (by repeat (first | exact trivial | refine ⟨rfl, ?_⟩)) (by repeat (first | exact List.Sublist.refl _ | apply List.Sublist.cons_cons | apply List.Sublist.cons)))
          | false =>
            rw [hsub, beq_eq_false_iff_ne] at hq
            have hj3 : ((M.take (j + 1)).any fun t => decide (t < s) && subB t s) = false := by
              rw [List.take_add_one, ht, List.any_append, hj2]
              simp [hsub]
            clear hb63 hup hj2
            refine ex_seq ?_;
            refine ex_region ?_;
            apply exl_isB; rfl; rfl; rfl; (apply g_binInt; rfl; rfl; rfl); intro _ _;
            refine exl_nilT ?_;
            refine ex_seq ?_;
            refine ex_cond rfl (fun h => ?_) (fun h => ?_) <;> ((first | (subst h; rename BV _ true => h0; have h := h0.eq; clear h0) | (subst h; rename BV _ false => h0; have h := h0.eq; clear h0) | skip); (have hp := h; try simp only [decide_eq_true_eq, decide_eq_false_iff_not, Bool.not_eq_true', Bool.not_eq_false', bne_iff_ne, beq_iff_eq, beq_eq_false_iff_ne, bne_eq_false_iff_eq, Int.not_lt, Int.not_le] at hp); (try (exfalso; first | omega | (cases hp; done))));
            refine ex_skip ?_;
            refine ex_seq ?_;
            refine ex_block ?_;
            refine ex_seq ?_;
            refine ex_region ?_;
            apply exl_is; rfl; rfl; rfl; (apply g_indexDl; rfl; rfl; rfl; (rfl); (exact get_map (by assumption)));
            apply exl_is; rfl; rfl; rfl; (apply g_load1; rfl; rfl; (exact .e rfl));
            apply exl_is; rfl; rfl; rfl; (apply g_assign; rfl);
            refine exl_nilT ?_;
            refine ex_seq ?_;
            refine ex_seq ?_;
            refine ex_region ?_;
            apply exl_is; rfl; rfl; rfl; (apply g_move; rfl);
            apply exl_is; rfl; rfl; rfl; (apply g_move; rfl);
            apply exl_isB; rfl; rfl; rfl; (apply g_binInt; rfl; rfl; rfl); intro _ _;
            refine exl_nilT ?_;
            refine ex_cond rfl (fun h => ?_) (fun h => ?_) <;> ((first | (subst h; rename BV _ true => h0; have h := h0.eq; clear h0) | (subst h; rename BV _ false => h0; have h := h0.eq; clear h0) | skip); (have hp := h; try simp only [decide_eq_true_eq, decide_eq_false_iff_not, Bool.not_eq_true', Bool.not_eq_false', bne_iff_ne, beq_iff_eq, beq_eq_false_iff_ne, bne_eq_false_iff_eq, Int.not_lt, Int.not_le] at hp); (try (exfalso; first | omega | (cases hp; done))));
            refine ex_skip ?_;
            refine ex_seq ?_;
            refine ex_region ?_;
            apply exl_is; rfl; rfl; rfl; (apply g_move; rfl);
            apply exl_is; rfl; rfl; rfl; (apply g_move; rfl);
            apply exl_is; rfl; rfl; rfl; (apply g_andNotQ; rfl; rfl; rfl; rfl; omega; omega; exact hqe);
            apply exl_isB; rfl; rfl; rfl; (apply g_binInt; rfl; rfl; rfl); intro _ _;
            refine exl_nilT ?_;
            refine ex_cond rfl (fun h => ?_) (fun h => ?_) <;> ((first | (subst h; rename BV _ true => h0; have h := h0.eq; clear h0) | (subst h; rename BV _ false => h0; have h := h0.eq; clear h0) | skip); (have hp := h; try simp only [decide_eq_true_eq, decide_eq_false_iff_not, Bool.not_eq_true', Bool.not_eq_false', bne_iff_ne, beq_iff_eq, beq_eq_false_iff_ne, bne_eq_false_iff_eq, Int.not_lt, Int.not_le] at hp); (try (exfalso; first | omega | (cases hp; done))));
            refine ex_skip ?_;
            refine ex_region ?_;
            apply exl_is; rfl; rfl; rfl; (apply g_add; rfl; rfl; rfl; exact ⟨by omega, by omega⟩);
            apply exl_is; rfl; rfl; rfl; (apply g_move; rfl);
            refine exl_nil ?_;
            simp only [thenA, blockA, roundA, noGotoA, retA, ↓reduceIte, Nat.reduceEqDiff];
            rotate_left
            (all_goals (repeat (rename BV _ _ => hbv; cases hbv)))
            all_goals (try (exfalso; first | (rename true = false => hx; cases hx; done) | (rename false = true => hx; cases hx; done)))
            exact ⟨j + 1, ⟨hj, hj3⟩, by omega, (St.le_of (by repeat (first | exact trivial | refine ⟨rfl, ?_⟩)) (by repeat (first | exact List.Sublist.refl _ | apply List.Sublist.cons_cons | apply List.Sublist.cons)))⟩
        · have hlk : leastK M s = true := by
            unfold leastK
            rw [Bool.not_eq_true', ← List.take_append_drop j M, List.any_append, hj2, Bool.false_or, List.any_eq_false]
            intro y hy
            rw [nat_drop ht] at hy
            have hle : t ≤ y := by
              rcases List.mem_cons.1 hy with rfl | hy
              · exact Nat.le_refl _
              · have h3 := hup
                rw [← List.take_append_drop j M, nat_drop ht, List.pairwise_append] at h3
                have := (List.pairwise_cons.1 h3.2.1).1 y hy
                omega
            rw [decide_eq_false (p := y < s) (by omega)]; simp
          clear hb63 hup hj2
          refine ex_seq ?_;
          refine ex_region ?_;
          apply exl_isB; rfl; rfl; rfl; (apply g_binInt; rfl; rfl; rfl); intro _ _;
          refine exl_nilT ?_;
          refine ex_seq ?_;
          refine ex_cond rfl (fun h => ?_) (fun h => ?_) <;> ((first | (subst h; rename BV _ true => h0; have h := h0.eq; clear h0) | (subst h; rename BV _ false => h0; have h := h0.eq; clear h0) | skip); (have hp := h; try simp only [decide_eq_true_eq, decide_eq_false_iff_not, Bool.not_eq_true', Bool.not_eq_false', bne_iff_ne, beq_iff_eq, beq_eq_false_iff_ne, bne_eq_false_iff_eq, Int.not_lt, Int.not_le] at hp); (try (exfalso; first | omega | (cases hp; done))));
          refine ex_skip ?_;
          refine ex_seq ?_;
          refine ex_block ?_;
          refine ex_seq ?_;
          refine ex_region ?_;
          apply exl_is; rfl; rfl; rfl; (apply g_indexDl; rfl; rfl; rfl; (rfl); (exact get_map (by assumption)));
          apply exl_is; rfl; rfl; rfl; (apply g_load1; rfl; rfl; (exact .e rfl));
          apply exl_is; rfl; rfl; rfl; (apply g_assign; rfl);
          refine exl_nilT ?_;
          refine ex_seq ?_;
          refine ex_seq ?_;
          refine ex_region ?_;
          apply exl_is; rfl; rfl; rfl; (apply g_move; rfl);
          apply exl_is; rfl; rfl; rfl; (apply g_move; rfl);
          apply exl_isB; rfl; rfl; rfl; (apply g_binInt; rfl; rfl; rfl); intro _ _;
          refine exl_nilT ?_;
          refine ex_cond rfl (fun h => ?_) (fun h => ?_) <;> ((first | (subst h; rename BV _ true => h0; have h := h0.eq; clear h0) | (subst h; rename BV _ false => h0; have h := h0.eq; clear h0) | skip); (have hp := h; try simp only [decide_eq_true_eq, decide_eq_false_iff_not, Bool.not_eq_true', Bool.not_eq_false', bne_iff_ne, beq_iff_eq, beq_eq_false_iff_ne, bne_eq_false_iff_eq, Int.not_lt, Int.not_le] at hp); (try (exfalso; first | omega | (cases hp; done))));
          refine ex_exit ?_;
          refine ex_region ?_;
          apply exl_is; rfl; rfl; rfl; (apply g_move; rfl);
          apply exl_is; rfl; rfl; rfl; (apply g_move; rfl);
          refine exl_row rfl rfl rfl (by exact g_buildSlice rfl rfl (by decide) rfl rfl (by (simp only [chunkN, List.take_succ_cons, List.take_zero, List.drop_succ_cons, List.drop_zero]; rfl))) ?_; intro _;
          apply exl_grew; rfl; rfl; rfl; (apply g_append; rfl; rfl; rfl; (intro v'; (exact Upd.there (Upd.here))); (exact .r (by ((repeat (first | exact List.Mem.head _ | assumption | refine List.Mem.tail _ ?_)); done))); (intro y hy; simp only [List.mem_map, List.mem_cons, List.not_mem_nil, or_false, List.mem_append] at hy; (focus (obtain ⟨_, _, rfl⟩ := hy; rfl; done))); (refine app_ok ?_ (by kernel_rfl); (try simp only [List.length_append, List.length_map, List.length_cons, List.length_nil, List.length_take, List.length_drop]); omega)); intro _;
          apply exl_is; rfl; rfl; rfl; (apply g_assign; rfl);
          refine exl_nil ?_;
          refine ex_region ?_;
          apply exl_is; rfl; rfl; rfl; (apply g_add; rfl; rfl; rfl; exact ⟨by omega, by omega⟩);
          apply exl_is; rfl; rfl; rfl; (apply g_move; rfl);
          refine exl_nil ?_;
          simp only [thenA, blockA, roundA, noGotoA, retA, ↓reduceIte, Nat.reduceEqDiff];
          rotate_left
          (all_goals (repeat (rename BV _ _ => hbv; cases hbv)))
          all_goals (try (exfalso; first | (rename true = false => hx; cases hx; done) | (rename false = true => hx; cases hx; done)))
          rename_i v2 v3
          refine ⟨(i + 1, v3), hi, by dsimp only; omega, ?_⟩
          dsimp only
          rw [hst, hlk, show (natI (A ++ (if true = true then [s] else []))).map intC = (natI A).map intC ++ [intC (s : Int)] by simp]
          exact (St.le_of (by repeat (first | exact trivial | refine ⟨rfl, ?_⟩)) (by repeat (first | exact List.Sublist.refl _ | apply List.Sublist.cons_cons | apply List.Sublist.cons)))
      · have hlk : leastK M s = true := by
          rw [List.take_of_length_le (by omega)] at hj2
          unfold leastK; rw [hj2]; rfl
        have hjl : ¬ j < (natI M).length := by omega
        clear hb63 hup hj2
        refine ex_seq ?_;
        refine ex_region ?_;
        apply exl_isB; rfl; rfl; rfl; (apply g_binInt; rfl; rfl; rfl); intro _ _;
        refine exl_nilT ?_;
        refine ex_seq ?_;
        refine ex_cond rfl (fun h => ?_) (fun h => ?_) <;> ((first | (subst h; rename BV _ true => h0; have h := h0.eq; clear h0) | (subst h; rename BV _ false => h0; have h := h0.eq; clear h0) | skip); (have hp := h; try simp only [decide_eq_true_eq, decide_eq_false_iff_not, Bool.not_eq_true', Bool.not_eq_false', bne_iff_ne, beq_iff_eq, beq_eq_false_iff_ne, bne_eq_false_iff_eq, Int.not_lt, Int.not_le] at hp); (try (exfalso; first | omega | (cases hp; done))));
        refine ex_exit ?_;
        refine ex_region ?_;
        apply exl_is; rfl; rfl; rfl; (apply g_move; rfl);
        apply exl_is; rfl; rfl; rfl; (apply g_move; rfl);
        refine exl_row rfl rfl rfl (by exact g_buildSlice rfl rfl (by decide) rfl rfl (by (simp only [chunkN, List.take_succ_cons, List.take_zero, List.drop_succ_cons, List.drop_zero]; rfl))) ?_; intro _;
        apply exl_grew; rfl; rfl; rfl; (apply g_append; rfl; rfl; rfl; (intro v'; (exact Upd.there (Upd.here))); (exact .r (by ((repeat (first | exact List.Mem.head _ | assumption | refine List.Mem.tail _ ?_)); done))); (intro y hy; simp only [List.mem_map, List.mem_cons, List.not_mem_nil, or_false, List.mem_append] at hy; (focus (obtain ⟨_, _, rfl⟩ := hy; rfl; done))); (refine app_ok ?_ (by kernel_rfl); (try simp only [List.length_append, List.length_map, List.length_cons, List.length_nil, List.length_take, List.length_drop]); omega)); intro _;
        apply exl_is; rfl; rfl; rfl; (apply g_assign; rfl);
        refine exl_nil ?_;
        refine ex_region ?_;
        apply exl_is; rfl; rfl; rfl; (apply g_add; rfl; rfl; rfl; exact ⟨by omega, by omega⟩);
        apply exl_is; rfl; rfl; rfl; (apply g_move; rfl);
        refine exl_nil ?_;
        simp only [thenA, blockA, roundA, noGotoA, retA, ↓reduceIte, Nat.reduceEqDiff];
        rotate_left
        (all_goals (repeat (rename BV _ _ => hbv; cases hbv)))
        all_goals (try (exfalso; first | (rename true = false => hx; cases hx; done) | (rename false = true => hx; cases hx; done)))
        rename_i v2 v3
        refine ⟨(i + 1, v3), hi, by dsimp only; omega, ?_⟩
        dsimp only
        rw [hst, hlk, show (natI (A ++ (if true = true then [s] else []))).map intC = (natI A).map intC ++ [intC (s : Int)] by simp]
        exact (St.le_of (by repeat (first | exact trivial | refine ⟨rfl, ?_⟩)) (by repeat (first | exact List.Sublist.refl _ | apply List.Sublist.cons_cons | apply List.Sublist.cons)))
    · rw [List.take_of_length_le (by omega)]
      have hi2 : ¬ i < (natI M).length := by omega
      clear hb63 hup
      refine ex_seq ?_;
      refine ex_region ?_;
      apply exl_isB; rfl; rfl; rfl; (apply g_binInt; rfl; rfl; rfl); intro _ _;
      refine exl_nilT ?_;
      refine ex_seq ?_;
      refine ex_cond rfl (fun h => ?_) (fun h => ?_) <;> ((first | (subst h; rename BV _ true => h0; have h := h0.eq; clear h0) | (subst h; rename BV _ false => h0; have h := h0.eq; clear h0) | skip); (have hp := h; try simp only [decide_eq_true_eq, decide_eq_false_iff_not, Bool.not_eq_true', Bool.not_eq_false', bne_iff_ne, beq_iff_eq, beq_eq_false_iff_ne, bne_eq_false_iff_eq, Int.not_lt, Int.not_le] at hp); (try (exfalso; first | omega | (cases hp; done))));
      refine ex_exit ?_;
      refine ex_seq ?_;
      refine ex_region ?_;
      apply exl_is; rfl; rfl; rfl; (apply g_move; rfl);
      apply exl_is; rfl; rfl; rfl; (apply g_assign; rfl);
      refine exl_nilT ?_;
      refine ex_ret ?_;
      simp only [thenA, blockA, roundA, noGotoA, retA, ↓reduceIte, Nat.reduceEqDiff];
      rotate_left
      (all_goals (repeat (rename BV _ _ => hbv; cases hbv)))
      all_goals (try (exfalso; first | (rename true = false => hx; cases hx; done) | (rename false = true => hx; cases hx; done)))
      refine ret_q (σ3 := .row v 3 1 ((natI (M.filter (leastK M))).map intC) :: σ) .nil (.cons (.ofTmp rfl) .nil) (by repeat (first | exact List.Sublist.refl _ | apply List.Sublist.cons_cons | apply List.Sublist.cons)) ?_
      exact fin_seal .here (.here .nil) (fin_done .mk)
end Go.Proofs.Ytcmdkccncfleoaa
