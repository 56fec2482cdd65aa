/- Hitting: the program's Hitting. -/
import Derived.Test.YtcmdkccncfleoaaMh
namespace Go.Proofs.Ytcmdkccncfleoaa
set_option linter.unusedSimpArgs false
set_option linter.unusedVariables false
set_option maxRecDepth 10000 in
theorem hitting1_c (h s : Nat) (hh : h < 4096) (hs : s < 4096) {b : Nat} {σ : List Ent} (hm : Ent.cells b [.int .i64 s] 3 ∈ σ) : SCall Try.prog 33 [.int .i64 h, .ptr b 0] σ (Is (.bool (metB h s)) σ) := by
  refine scall_of Try.func33 rfl (by simp) ?_
  refine ex_seq ?_;
  refine ex_region ?_;
  apply exl_is; rfl; rfl; rfl; (apply g_assign; rfl);
  refine exl_nilT ?_;
  refine ex_seq ?_;
  refine ex_region ?_;
  apply exl_is; rfl; rfl; rfl; (apply g_move; rfl);
  apply exl_is; rfl; rfl; rfl; (apply g_load1; rfl; rfl; (exact .p (by ((repeat (first | exact List.Mem.head _ | assumption | refine List.Mem.tail _ ?_)); done)) rfl));
  apply exl_is; rfl; rfl; rfl; (apply g_andN; rfl; rfl; (rfl); (rfl); (omega); (omega));
  apply exl_isB; rfl; rfl; rfl; (apply g_binInt; rfl; rfl; rfl); intro _ _;
  apply exl_is; rfl; rfl; rfl; (apply g_assign; rfl);
  refine exl_nilT ?_;
  refine ex_ret ?_;
  simp only [thenA, blockA, roundA, noGotoA, retA, ↓reduceIte, Nat.reduceEqDiff];
  rotate_left
  (all_goals (repeat (rename BV _ _ => hbv; cases hbv)))
  all_goals (try (exfalso; first | (rename true = false => hx; cases hx; done) | (rename false = true => hx; cases hx; done)))
  all_goals
    refine ret_is .nil (.cons (.ofTmp rfl) .nil) (by repeat (first | exact List.Sublist.refl _ | apply List.Sublist.cons_cons | apply List.Sublist.cons)) (bool_eq ?_)
    have e : ((((h &&& s : Nat) : Int)) != 0) = !((((h &&& s : Nat) : Int)) == 0) := rfl
    rw [e, cast_beq0]; rfl
theorem g_orQ {P : Program} {ro : Option Nat} {env : Env} {σ : List Ent} {dst : Option Tmp} {ty : TypeId} {pos : String} {after : Array Edge} {guard : Option (Nat × Bool)} {x y : Operand} {t yt : TypeId} {a b : Int} {m n q : Nat} (hx : evA env x = some (.int .i64 a)) (hy : evA env y = some (.int .i64 b)) (ha : a = (m : Int)) (hb : b = (n : Int)) (h1 : m < 9223372036854775808) (h2 : n < 9223372036854775808) (hq : m ||| n = q) :
    GOp P ro ⟨dst, .binOp .or t x y yt, ty, pos, after, guard⟩ env σ (Is (.int .i64 ((q : Nat) : Int)) σ) := by
  subst hq; exact g_orN hx hy ha hb h1 h2
/-- The elements of a set, up to some place. -/
def elemsL (s n : Nat) : List Nat := (List.range n).filter fun i => s.testBit i
theorem elems_succ (s n : Nat) : elemsL s (n + 1) = elemsL s n ++ (if s.testBit n then [n] else []) := range_filter n _
theorem elems_len (s n : Nat) : (elemsL s n).length ≤ n := filter_len
theorem elems_stop {s n : Nat} (h : s >>> n = 0) : ∀ k, elemsL s (n + k) = elemsL s n
  | 0 => rfl
  | k + 1 => by
    rw [show n + (k + 1) = (n + k) + 1 by omega, elems_succ, elems_stop h k, shr_none h (by omega)]; simp
theorem elems_all {s n N : Nat} (h : s >>> n = 0) (hs : s < 2 ^ N) : elemsL s n = elemsL s N := by
  rw [← elems_stop h N, Nat.add_comm, elems_stop (shr_zero hs (Nat.le_refl _)) n]
/-- What the inner loop has appended behind the first k sets. -/
def moreL (l : List Nat) (s N : Nat) : List Nat := (l.filter fun h => !metB h s).flatMap fun h => (elemsL s N).map fun i => withN h i
theorem more_next {l : List Nat} {k h : Nat} (s N : Nat) (hk : l[k]? = some h) : moreL (l.take (k + 1)) s N = moreL (l.take k) s N ++ (if metB h s then [] else (elemsL s N).map fun i => withN h i) := by
  unfold moreL
  rw [List.take_add_one, hk, List.filter_append, List.flatMap_append]
  cases hm : metB h s <;> simp [hm]
theorem more_len (l : List Nat) (s N : Nat) : (moreL l s N).length ≤ l.length * N := by
  unfold moreL
  rw [List.length_flatMap]
  have key : ∀ m : List Nat, (m.map fun h => ((elemsL s N).map fun i => withN h i).length).sum ≤ m.length * N := by
    intro m
    induction m with
    | nil => simp
    | cons x m ih =>
      have := elems_len s N
      simp only [List.map_cons, List.sum_cons, List.length_cons, List.length_map, Nat.succ_mul] at ih ⊢
      omega
  refine Nat.le_trans (key _) (Nat.mul_le_mul_right N (List.length_filter_le _ _))
theorem next_eq (l : List Nat) (s N : Nat) : nextL l s N = l.filter (fun h => metB h s) ++ moreL l s N := rfl
theorem trL_len (F : List Nat) (N : Nat) : (trL F N).length ≤ 2 ^ N := filter_len
theorem red_nodup_len (F : List Nat) (N : Nat) : (redL F N).length ≤ 2 ^ N := filter_len
theorem natI_append (a b : List Nat) : (natI (a ++ b)).map intC = (natI a).map intC ++ (natI b).map intC := by simp
set_option maxHeartbeats 8000000 in
set_option maxRecDepth 10000 in
theorem hitting_c (x : Fam) (σ : List Ent) : SCall Try.prog 14 [.agg (famC x)] σ (Is (.tup [ints (hitR x), .int .i64 (checkH x)]) σ) := by
  refine scall_of Try.func14 rfl (by simp) ?_
  have c1 := check_c x
  by_cases h : checkH x = 0
  · rw [h] at c1 ⊢
    obtain ⟨N, F, rfl, hN, hl, hF⟩ := check_zero h
    rw [hitR_ok h]
    have hp := pow12 hN
    have c2 := minimal_c F N hN hF (by omega)
    have hR : ∀ s ∈ redL F N, s < 2 ^ N := fun s hs => hF s ((redL_mem hF s).1 hs).1
    rw [← tr_red hF]
    have hRl := red_nodup_len F N
    clear hF hl
    obtain ⟨R, hRe⟩ : ∃ R, redL F N = R := ⟨_, rfl⟩
    rw [hRe] at c2 hR hRl ⊢
    have hlR := natI_len R
    refine ex_seq ?_;
    refine ex_region ?_;
    refine exl_box rfl rfl rfl (g_box rfl rfl) ?_; intro _;
    apply exl_is; rfl; rfl; rfl; (apply g_assign; rfl);
    apply exl_is; rfl; rfl; rfl; (apply g_assign; rfl);
    refine exl_nilT ?_;
    refine ex_seq ?_;
    refine ex_seq ?_;
    refine ex_region ?_;
    apply exl_is; rfl; rfl; rfl; (apply g_loadAgg; rfl; decide; rfl; (exact .p (by ((repeat (first | exact List.Mem.head _ | assumption | refine List.Mem.tail _ ?_)); done)) rfl rfl));
    apply exl_is; rfl; rfl; rfl; (exact g_call rfl rfl (enters_b (by kernel_rfl)) (c1 _));
    apply exl_is; rfl; rfl; rfl; (apply g_assign; rfl);
    refine exl_nilT ?_;
    refine ex_seq ?_;
    refine ex_region ?_;
    apply exl_is; rfl; rfl; rfl; (apply g_move; rfl);
    apply exl_isB; rfl; rfl; rfl; (apply g_binInt; rfl; rfl; rfl); intro _ _;
    refine exl_nilT ?_;
    refine ex_cond rfl (fun h => ?_) (fun h => ?_) <;> ((first | (subst h; rename BV _ true => h0; have h := h0.eq; clear h0) | (subst h; rename BV _ false => h0; have h := h0.eq; clear h0) | skip); (have hp := h; try simp only [decide_eq_true_eq, decide_eq_false_iff_not, Bool.not_eq_true', Bool.not_eq_false', bne_iff_ne, beq_iff_eq, beq_eq_false_iff_ne, bne_eq_false_iff_eq, Int.not_lt, Int.not_le] at hp); (try (exfalso; first | omega | (cases hp; done))));
    refine ex_skip ?_;
    refine ex_seq ?_;
    refine ex_region ?_;
    apply exl_is; rfl; rfl; rfl; (exact gop_sealed (g_buildSlice rfl rfl (by decide) rfl rfl (by (simp only [chunkN, List.take_succ_cons, List.take_zero, List.drop_succ_cons, List.drop_zero]; rfl))));
    apply exl_is; rfl; rfl; rfl; (apply g_assign; rfl);
    refine exl_nilT ?_;
    refine ex_seq ?_;
    refine ex_seq ?_;
    refine ex_region ?_;
    apply exl_is; rfl; rfl; rfl; (apply g_fieldAddr; rfl; rfl; rfl);
    apply exl_is; rfl; rfl; rfl; (apply g_load1; rfl; rfl; (exact .p (by ((repeat (first | exact List.Mem.head _ | assumption | refine List.Mem.tail _ ?_)); done)) rfl));
    apply exl_is; rfl; rfl; rfl; (exact g_call rfl rfl (enters_b (by kernel_rfl)) (c2 _));
    apply exl_is; rfl; rfl; rfl; (apply g_len; rfl; rfl; (exact (List.length_map _).symm));
    apply exl_is; rfl; rfl; rfl; (apply g_move; rfl);
    refine exl_nilT ?_;
    refine ex_block ?_;
    simp only [thenA, blockA, roundA, noGotoA, retA, ↓reduceIte, Nat.reduceEqDiff];
    rotate_left
    (all_goals (repeat (rename BV _ _ => hbv; cases hbv)))
    all_goals (try (exfalso; first | (rename true = false => hx; cases hx; done) | (rename false = true => hx; cases hx; done)))
    rename Nat => b1; revert b1
    intro b1
    clear c1 c2 h
    refine ex_weaken (s' := ⟨[(1, .ptr b1 0), (2, ints (natI [0])), (18, ints (natI R)), (19, .int .i64 (natI R).length), (20, .int .i64 (0 : Nat))], .cells b1 (famC ⟨N, natI F⟩) 24 :: σ, [], Try.f14.ntmps⟩) (St.le_of (by repeat (first | exact trivial | refine ⟨rfl, ?_⟩)) (by repeat (first | exact List.Sublist.refl _ | apply List.Sublist.cons_cons | apply List.Sublist.cons))) ?_
    rw [show natI [0] = natI (trL (R.take 0) N) by rw [show R.take 0 = [] from rfl, tr_none]]
    refine ex_loop (fun (z : Nat × List Nat) => (⟨[(1, .ptr b1 0), (2, ints (natI (trL (R.take z.1) N))), (18, ints (natI R)), (19, .int .i64 (natI R).length), (20, .int .i64 z.1)], .cells b1 (famC ⟨N, natI F⟩) 24 :: (z.2.map objD ++ σ), z.2, Try.f14.ntmps⟩ : St)) (fun z => z.1 ≤ R.length) (fun z => R.length - z.1) (0, []) (Nat.zero_le _) (St.le_of (by repeat (first | exact trivial | refine ⟨rfl, ?_⟩)) (by repeat (first | exact List.Sublist.refl _ | apply List.Sublist.cons_cons | apply List.Sublist.cons))) ?_
    intro z hI
    obtain ⟨i, ds⟩ := z
    dsimp only at hI ⊢
    by_cases hi : i < R.length
    · obtain ⟨τ0, hT⟩ : ∃ τ0, ds.map objD ++ σ = τ0 := ⟨_, rfl⟩
      rw [hT]
      obtain ⟨s, hs⟩ : ∃ s, R[i]? = some s := ⟨_, List.getElem?_eq_getElem hi⟩
      have hg := natI_get hs
      have hi2 : i < (natI R).length := by omega
      have hsN := hR s (List.mem_of_getElem? hs)
      have hRi : ∀ t ∈ R.take i, t < 2 ^ N := fun t ht => hR t (List.mem_of_mem_take ht)
      have hst := tr_step hRi hsN
      rw [show R.take i ++ [s] = R.take (i + 1) by rw [List.take_add_one, hs]; rfl] at hst
      have hlN : ∀ h ∈ trL (R.take i) N, h < 2 ^ N := fun h hh => min_lt hRi ((trL_mem hRi h).1 hh)
      have hll := trL_len (R.take i) N
      have hnl := nextL_lt hlN hsN
      generalize trL (R.take i) N = l at hst hlN hll hnl ⊢
      have c3 : ∀ (b : Nat) (τ : List Ent), Ent.cells b [.int .i64 s] 3 ∈ τ → SCall Try.prog 32 [ints (natI l), .fn (.func 33) [] [.ptr b 0]] τ (fun r τ' => ∃ v, r = .slv v ∧ τ' = .row v 3 1 ((natI (l.filter fun h => metB h s)).map intC) :: τ) := fun b τ hm =>
        filter_c l (by omega) _ _ (fun h => metB h s) τ (enters_b (by kernel_rfl)) (fun k h v L hk => hitting1_c h s (by have := hlN h (List.mem_of_getElem? hk); omega) (by omega) (List.mem_cons_of_mem _ hm))
      have hnn := next_eq l s N
      have c4 := fun hle => minimal_c (nextL l s N) N hN hnl hle
      rw [hst] at c4
      clear hR hRi hnl
      have hll2 := natI_len l
      refine ex_seq ?_;
      refine ex_region ?_;
      apply exl_isB; rfl; rfl; rfl; (apply g_binInt; rfl; rfl; rfl); intro _ _;
      refine exl_nilT ?_;
      refine ex_seq ?_;
      refine ex_cond rfl (fun h => ?_) (fun h => ?_) <;> ((first | (subst h; rename BV _ true => h0; have h := h0.eq; clear h0) | (subst h; rename BV _ false => h0; have h := h0.eq; clear h0) | skip); (have hp := h; try simp only [decide_eq_true_eq, decide_eq_false_iff_not, Bool.not_eq_true', Bool.not_eq_false', bne_iff_ne, beq_iff_eq, beq_eq_false_iff_ne, bne_eq_false_iff_eq, Int.not_lt, Int.not_le] at hp); (try (exfalso; first | omega | (cases hp; done))));
      refine ex_skip ?_;
      refine ex_seq ?_;
      refine ex_block ?_;
      refine ex_seq ?_;
      refine ex_region ?_;
      apply exl_is; rfl; rfl; rfl; (apply g_indexDl; rfl; rfl; rfl; (rfl); (exact get_map (by assumption)));
      apply exl_is; rfl; rfl; rfl; (apply g_load1; rfl; rfl; (exact .e rfl));
      refine exl_box rfl rfl rfl (g_alloc rfl) ?_; intro _;
      apply exl_do; rfl; rfl; (apply g_store'; rfl; rfl; rfl; (exact Upd.here); (simp only [setL, List.set_cons_zero, List.set_cons_succ, AV.cells]; rfl); rfl; rfl; rfl; exact Nat.le_of_ble_eq_true rfl);
      refine exl_nilT ?_;
      refine ex_seq ?_;
      refine ex_region ?_;
      apply exl_is; rfl; rfl; rfl; (apply g_move; rfl);
      apply exl_is; rfl; rfl; rfl; (apply g_makeFunc; rfl; rfl);
      refine exl_call rfl rfl rfl (g_call rfl rfl (enters_b (by kernel_rfl)) (c3 _ _ (by ((repeat (first | exact List.Mem.head _ | assumption | refine List.Mem.tail _ ?_)); done)))) ?_; rintro _ _ ⟨v, rfl, rfl⟩;
      refine exl_box rfl rfl rfl (g_alloc rfl) ?_; intro _;
      apply exl_do; rfl; rfl; (apply g_store'; rfl; rfl; rfl; (exact Upd.here); (simp only [setL, List.set_cons_zero, List.set_cons_succ, AV.cells]; rfl); rfl; rfl; rfl; exact Nat.le_of_ble_eq_true rfl);
      refine exl_nilT ?_;
      refine ex_seq ?_;
      refine ex_seq ?_;
      refine ex_region ?_;
      apply exl_is; rfl; rfl; rfl; (apply g_move; rfl);
      apply exl_is; rfl; rfl; rfl; (apply g_len; rfl; rfl; (exact (List.length_map _).symm));
      apply exl_is; rfl; rfl; rfl; (apply g_move; rfl);
      refine exl_nilT ?_;
      refine ex_block ?_;
      rotate_left
      (all_goals (repeat (rename BV _ _ => hbv; cases hbv)))
      all_goals (try (exfalso; first | (rename true = false => hx; cases hx; done) | (rename false = true => hx; cases hx; done)))
      rename Nat => b6; revert b6; rename Nat => b5; revert b5
      intro b5 b6
      clear c3
      have hA : ∀ k, k ≤ l.length → (l.filter (fun h => metB h s) ++ moreL (l.take k) s N).length ≤ 60000 := fun k hk => by
        have h1 := List.length_filter_le (fun h => metB h s) l
        have h2 := more_len (l.take k) s N
        rw [List.length_take] at h2
        have h3 : min k l.length * N ≤ 4096 * 12 := Nat.mul_le_mul (by omega) hN
        rw [List.length_append]; omega
      rw [show (natI (l.filter fun h => metB h s)).map intC = (natI (l.filter (fun h => metB h s) ++ moreL (l.take 0) s N)).map intC by rw [show moreL (l.take 0) s N = [] from rfl, List.append_nil]]
      refine ex_loop (fun (z : Nat × Value × List Nat) => (⟨[(1, .ptr b1 0), (5, .ptr b5 0), (6, .ptr b6 0), (18, ints (natI R)), (19, .int .i64 (natI R).length), (20, .int .i64 i), (27, ints (natI l)), (28, .int .i64 (natI l).length), (29, .int .i64 z.1)], .cells b6 [.slv z.2.1] 22 :: .row z.2.1 3 1 ((natI (l.filter (fun h => metB h s) ++ moreL (l.take z.1) s N)).map intC) :: .cells b5 [.int .i64 s] 3 :: .cells b1 (famC ⟨N, natI F⟩) 24 :: (z.2.2.map objD ++ τ0), z.2.2 ++ ds, Try.f14.ntmps⟩ : St)) (fun z => z.1 ≤ l.length) (fun z => l.length - z.1) (0, v, []) (Nat.zero_le _) (St.le_of (by repeat (first | exact trivial | refine ⟨rfl, ?_⟩)) (by repeat (first | exact List.Sublist.refl _ | apply List.Sublist.cons_cons | apply List.Sublist.cons))) ?_
      intro z hI
      obtain ⟨j, u, ds2⟩ := z
      dsimp only at hI ⊢
      obtain ⟨τ1, hT1⟩ : ∃ τ1, ds2.map objD ++ τ0 = τ1 := ⟨_, rfl⟩
      rw [hT1]
      have hAj := hA j hI
      by_cases hj : j < l.length
      · obtain ⟨w0, hh⟩ : ∃ w0, l[j]? = some w0 := ⟨_, List.getElem?_eq_getElem hj⟩
        have hgh := natI_get hh
        have hj2 : j < (natI l).length := by omega
        have hhN := hlN w0 (List.mem_of_getElem? hh)
        have hmn := more_next s N hh
        have hmb : metB w0 s = !((((w0 &&& s : Nat) : Int)) == 0) := by rw [cast_beq0]; rfl
        clear c4 hlN hA hst hnn
        generalize moreL (l.take j) s N = Mo at hmn hAj ⊢
        generalize l.filter (fun h => metB h s) = Fi at hAj ⊢
        cases hm : metB w0 s with
        | true =>
          rw [hm, if_pos rfl, List.append_nil] at hmn
          have hne : (((w0 &&& s : Nat) : Int)) ≠ 0 := fun e => by rw [hmb, e] at hm; cases hm
          clear hmb
          refine ex_seq ?_;
          refine ex_region ?_;
          apply exl_isB; rfl; rfl; rfl; (apply g_binInt; rfl; rfl; rfl); intro _ _;
          refine exl_nilT ?_;
          refine ex_seq ?_;
          refine ex_cond rfl (fun h => ?_) (fun h => ?_) <;> ((first | (subst h; rename BV _ true => h0; have h := h0.eq; clear h0) | (subst h; rename BV _ false => h0; have h := h0.eq; clear h0) | skip); (have hp := h; try simp only [decide_eq_true_eq, decide_eq_false_iff_not, Bool.not_eq_true', Bool.not_eq_false', bne_iff_ne, beq_iff_eq, beq_eq_false_iff_ne, bne_eq_false_iff_eq, Int.not_lt, Int.not_le] at hp); (try (exfalso; first | omega | (cases hp; done))));
          refine ex_skip ?_;
          refine ex_seq ?_;
          refine ex_block ?_;
          refine ex_seq ?_;
          refine ex_region ?_;
          apply exl_is; rfl; rfl; rfl; (apply g_indexDl; rfl; rfl; rfl; (rfl); (exact get_map (by assumption)));
          apply exl_is; rfl; rfl; rfl; (apply g_load1; rfl; rfl; (exact .e rfl));
          refine exl_box rfl rfl rfl (g_alloc rfl) ?_; intro _;
          apply exl_do; rfl; rfl; (apply g_store'; rfl; rfl; rfl; (exact Upd.here); (simp only [setL, List.set_cons_zero, List.set_cons_succ, AV.cells]; rfl); rfl; rfl; rfl; exact Nat.le_of_ble_eq_true rfl);
          refine exl_nilT ?_;
          refine ex_seq ?_;
          refine ex_seq ?_;
          refine ex_region ?_;
          apply exl_is; rfl; rfl; rfl; (apply g_load1; rfl; rfl; (exact .p (by ((repeat (first | exact List.Mem.head _ | assumption | refine List.Mem.tail _ ?_)); done)) rfl));
          apply exl_is; rfl; rfl; rfl; (apply g_load1; rfl; rfl; (exact .p (by ((repeat (first | exact List.Mem.head _ | assumption | refine List.Mem.tail _ ?_)); done)) rfl));
          apply exl_is; rfl; rfl; rfl; (apply g_andN; rfl; rfl; (rfl); (rfl); (omega); (omega));
          apply exl_isB; rfl; rfl; rfl; (apply g_binInt; rfl; rfl; rfl); intro _ _;
          refine exl_nilT ?_;
          refine ex_cond rfl (fun h => ?_) (fun h => ?_) <;> ((first | (subst h; rename BV _ true => h0; have h := h0.eq; clear h0) | (subst h; rename BV _ false => h0; have h := h0.eq; clear h0) | skip); (have hp := h; try simp only [decide_eq_true_eq, decide_eq_false_iff_not, Bool.not_eq_true', Bool.not_eq_false', bne_iff_ne, beq_iff_eq, beq_eq_false_iff_ne, bne_eq_false_iff_eq, Int.not_lt, Int.not_le] at hp); (try (exfalso; first | omega | (cases hp; done))));
          refine ex_exit ?_;
          refine ex_region ?_;
          apply exl_is; rfl; rfl; rfl; (apply g_add; rfl; rfl; rfl; exact ⟨by omega, by omega⟩);
          apply exl_is; rfl; rfl; rfl; (apply g_move; rfl);
          refine exl_nil ?_;
          simp only [thenA, blockA, roundA, noGotoA, retA, ↓reduceIte, Nat.reduceEqDiff];
          rotate_left
          (all_goals (repeat (rename BV _ _ => hbv; cases hbv)))
          all_goals (try (exfalso; first | (rename true = false => hx; cases hx; done) | (rename false = true => hx; cases hx; done)))
          refine ⟨(j + 1, u, ds2), by dsimp only; omega, by dsimp only; omega, ?_⟩
          dsimp only
          rw [hmn, hT1]
          exact (St.le_of (by repeat (first | exact trivial | refine ⟨rfl, ?_⟩)) (by repeat (first | exact List.Sublist.refl _ | apply List.Sublist.cons_cons | apply List.Sublist.cons)))
        | false =>
          rw [hm, if_neg (by simp)] at hmn
          have hze : (((w0 &&& s : Nat) : Int)) = 0 := by rw [hmb] at hm; simpa using hm
          clear hmb
          refine ex_seq ?_;
          refine ex_region ?_;
          apply exl_isB; rfl; rfl; rfl; (apply g_binInt; rfl; rfl; rfl); intro _ _;
          refine exl_nilT ?_;
          refine ex_seq ?_;
          refine ex_cond rfl (fun h => ?_) (fun h => ?_) <;> ((first | (subst h; rename BV _ true => h0; have h := h0.eq; clear h0) | (subst h; rename BV _ false => h0; have h := h0.eq; clear h0) | skip); (have hp := h; try simp only [decide_eq_true_eq, decide_eq_false_iff_not, Bool.not_eq_true', Bool.not_eq_false', bne_iff_ne, beq_iff_eq, beq_eq_false_iff_ne, bne_eq_false_iff_eq, Int.not_lt, Int.not_le] at hp); (try (exfalso; first | omega | (cases hp; done))));
          refine ex_skip ?_;
          refine ex_seq ?_;
          refine ex_block ?_;
          refine ex_seq ?_;
          refine ex_region ?_;
          apply exl_is; rfl; rfl; rfl; (apply g_indexDl; rfl; rfl; rfl; (rfl); (exact get_map (by assumption)));
          apply exl_is; rfl; rfl; rfl; (apply g_load1; rfl; rfl; (exact .e rfl));
          refine exl_box rfl rfl rfl (g_alloc rfl) ?_; intro _;
          apply exl_do; rfl; rfl; (apply g_store'; rfl; rfl; rfl; (exact Upd.here); (simp only [setL, List.set_cons_zero, List.set_cons_succ, AV.cells]; rfl); rfl; rfl; rfl; exact Nat.le_of_ble_eq_true rfl);
          refine exl_nilT ?_;
          refine ex_seq ?_;
          refine ex_seq ?_;
          refine ex_region ?_;
          apply exl_is; rfl; rfl; rfl; (apply g_load1; rfl; rfl; (exact .p (by ((repeat (first | exact List.Mem.head _ | assumption | refine List.Mem.tail _ ?_)); done)) rfl));
          apply exl_is; rfl; rfl; rfl; (apply g_load1; rfl; rfl; (exact .p (by ((repeat (first | exact List.Mem.head _ | assumption | refine List.Mem.tail _ ?_)); done)) rfl));
          apply exl_is; rfl; rfl; rfl; (apply g_andN; rfl; rfl; (rfl); (rfl); (omega); (omega));
          apply exl_isB; rfl; rfl; rfl; (apply g_binInt; rfl; rfl; rfl); intro _ _;
          refine exl_nilT ?_;
          refine ex_cond rfl (fun h => ?_) (fun h => ?_) <;> ((first | (subst h; rename BV _ true => h0; have h := h0.eq; clear h0) | (subst h; rename BV _ false => h0; have h := h0.eq; clear h0) | skip); (have hp := h; try simp only [decide_eq_true_eq, decide_eq_false_iff_not, Bool.not_eq_true', Bool.not_eq_false', bne_iff_ne, beq_iff_eq, beq_eq_false_iff_ne, bne_eq_false_iff_eq, Int.not_lt, Int.not_le] at hp); (try (exfalso; first | omega | (cases hp; done))));
          refine ex_skip ?_;
          refine ex_seq ?_;
          refine ex_region ?_;
          apply exl_is; rfl; rfl; rfl; (apply g_load1; rfl; rfl; (exact .p (by ((repeat (first | exact List.Mem.head _ | assumption | refine List.Mem.tail _ ?_)); done)) rfl));
          refine exl_call rfl rfl rfl (g_call rfl rfl (enters_b (by kernel_rfl)) (elements_c _ _)) ?_; rintro _ _ ⟨bs, rfl, rfl⟩;
          refine exl_nilT ?_;
          refine ex_block ?_;
          rotate_left
          (all_goals (repeat (rename BV _ _ => hbv; cases hbv)))
          all_goals (try (exfalso; first | (rename true = false => hx; cases hx; done) | (rename false = true => hx; cases hx; done)))
          rename Nat => bs; revert bs; rename Nat => b8; revert b8
          intro b8 bs
          refine ex_weaken (s' := ⟨[(1, .ptr b1 0), (5, .ptr b5 0), (6, .ptr b6 0), (8, .ptr b8 0), (18, ints (natI R)), (19, .int .i64 (natI R).length), (20, .int .i64 i), (27, ints (natI l)), (28, .int .i64 (natI l).length), (29, .int .i64 j), (38, .fn (.func 48) [] [.ptr bs 0])], .cells bs [.int .i64 s] 3 :: .cells b8 [.int .i64 w0] 3 :: .cells b6 [.slv u] 22 :: .row u 3 1 ((natI (Fi ++ Mo)).map intC) :: .cells b5 [.int .i64 s] 3 :: .cells b1 (famC ⟨N, natI F⟩) 24 :: τ1, ds2 ++ ds, Try.f14.ntmps⟩) (St.le_of (by repeat (first | exact trivial | refine ⟨rfl, ?_⟩)) (by repeat (first | exact List.Sublist.refl _ | apply List.Sublist.cons_cons | apply List.Sublist.cons))) ?_
          refine ex_range rfl (enters_b (by kernel_rfl)) ?_
          intro D l0 fn
          show SCall _ _ _ (Ent.loop _ _ _ _ ?ee ?nn ?ps ?asg ?body _ :: _) _
          obtain ⟨L, hL⟩ : ∃ L, L = Ent.loop l0 .ready none fn ?ee ?nn ?ps ?asg ?body D := ⟨_, rfl⟩
          rw [← hL]
          refine scall_permu (List.perm_append_comm_assoc [L, .obj D (.deferred (some []))] [.cells bs [.int .i64 s] 3] _) ?_
          refine SCall.mono (elements1_c s (by omega) bs l0 _
            (fun i τ => ∃ v, τ = L :: .obj D (.deferred (some [])) :: .cells b8 [.int .i64 w0] 3 :: .cells b6 [.slv v] 22 :: .row v 3 1 ((natI (Fi ++ Mo ++ (elemsL s i).map fun i => withN w0 i)).map intC) :: .cells b5 [.int .i64 s] 3 :: .cells b1 (famC ⟨N, natI F⟩) 24 :: τ1)
            (fun τ => False) ?_ ?_ ⟨u, by rw [show elemsL s 0 = [] from rfl, List.map_nil, List.append_nil]; rfl⟩) ?_
          · rintro k τ hb ⟨v, rfl⟩
            exact ⟨v, by rw [elems_succ, hb]; simp⟩
          · rintro k τ hb ⟨v, rfl⟩
            have hkN : k < N := bit_lt hsN hb
            have hpw := pow12 (N := k) (by omega)
            have hwl := with_lt hhN hkN
            have hes : (natI (Fi ++ Mo ++ (elemsL s (k + 1)).map fun i => withN w0 i)).map intC = (natI (Fi ++ Mo ++ (elemsL s k).map fun i => withN w0 i)).map intC ++ [intC ((withN w0 k : Nat) : Int)] := by
              rw [elems_succ, hb]; simp
            have hel : (Fi ++ Mo ++ (elemsL s k).map fun i => withN w0 i).length ≤ 70000 := by
              have := elems_len s k
              rw [List.length_append, List.length_map]; omega
            generalize Fi ++ Mo ++ (elemsL s k).map (fun i => withN w0 i) = A at hes hel ⊢
            have hq : w0 ||| 2 ^ k = withN w0 k := rfl
            rw [hes]
            generalize withN w0 k = w at hq ⊢
            rw [hL]
            refine SRound.sub ?_
            refine sround (by ((repeat (first | exact List.Mem.head _ | assumption | refine List.Mem.tail _ ?_)); done)) rfl (by decide) ?_
            clear hmn hsN
            refine ex_region ?_;
            apply exl_is; rfl; rfl; rfl; (apply g_assign; rfl);
            refine exl_nil ?_;
            simp only [thenA]; refine ⟨_, (by (exact Upd.here)), ?_⟩; show EX _ _ _ _ _;
            refine ex_block ?_;
            rotate_left
            (all_goals (repeat (rename BV _ _ => hbv; cases hbv)))
            all_goals (try (exfalso; first | (rename true = false => hx; cases hx; done) | (rename false = true => hx; cases hx; done)))
            refine ex_drawLK (fun e => e = .cells b6 [.slv v] 22 ∨ e = .cells b8 [.int .i64 w0] 3) 7 [6] rfl (by kernel_rfl) rfl ?_
            simp only [List.take_succ_cons, List.take_zero, List.drop_succ_cons, List.drop_zero]
            apply wl_is; rfl; rfl; rfl; (intro σ' hl; (apply g_load1; rfl; rfl; (exact .p (hl _ (.inl rfl) (by ((repeat (first | exact List.Mem.head _ | assumption | refine List.Mem.tail _ ?_)); done))) rfl)));
            apply wl_is; rfl; rfl; rfl; (intro σ' hl; (apply g_load1; rfl; rfl; (exact .p (hl _ (.inr rfl) (by ((repeat (first | exact List.Mem.head _ | assumption | refine List.Mem.tail _ ?_)); done))) rfl)));
            apply wl_is; rfl; rfl; rfl; (intro σ' hl; (apply g_move; rfl));
            apply wl_is; rfl; rfl; rfl; (intro σ' hl; (apply g_shl1; rfl; rfl; rfl; (rfl); omega));
            apply wl_is; rfl; rfl; rfl; (intro σ' hl; (apply g_orQ; rfl; rfl; rfl; rfl; omega; omega; exact hq));
            apply wl_is; rfl; rfl; rfl; (intro σ' hl; (exact gop_sealed (g_buildSlice rfl rfl (by decide) rfl rfl (by (simp only [chunkN, List.take_succ_cons, List.take_zero, List.drop_succ_cons, List.drop_zero]; rfl)))));
            refine wl_eff rfl rfl rfl (by apply g_append; rfl; rfl; rfl; (intro v'; (exact Upd.there (Upd.there (Upd.there (Upd.there (Upd.here)))))); (exact .d); (intro y hy; simp only [List.mem_map, List.mem_cons, List.not_mem_nil, or_false, List.mem_append] at hy; (focus (obtain ⟨_, _, rfl⟩ := hy; rfl; done))); (refine app_ok ?_ (by kernel_rfl); (try simp only [List.length_append, List.length_map, List.length_cons, List.length_nil, List.length_take, List.length_drop]); omega)) ?_; rintro _ _ ⟨v'⟩; refine ⟨(by (rintro _ (rfl | rfl) _ <;> exact (by ((repeat (first | exact List.Mem.head _ | assumption | refine List.Mem.tail _ ?_)); done)))), ?_⟩;
            refine wl_nil ?_;
            apply exl_do; rfl; rfl; (apply g_store'; rfl; rfl; rfl; (exact Upd.there (Upd.there (Upd.there (Upd.here)))); (simp only [setL, List.set_cons_zero, List.set_cons_succ, AV.cells]; rfl); rfl; rfl; rfl; exact Nat.le_of_ble_eq_true rfl);
            refine exl_nil ?_;
            simp only [thenA, blockA, roundA, noGotoA, retA, ↓reduceIte, Nat.reduceEqDiff];
            show rndA _ _ _ _ _ _ _ _ _ _ _; refine ⟨_, _, rfl, (by (exact Upd.here)), ?_⟩;
            simp only [thenA, blockA, roundA, noGotoA, retA, ↓reduceIte, Nat.reduceEqDiff];
            rotate_left
            (all_goals (repeat (rename BV _ _ => hbv; cases hbv)))
            all_goals (try (exfalso; first | (rename true = false => hx; cases hx; done) | (rename false = true => hx; cases hx; done)))
            rename Value => v2
            subst hL
            exact ⟨_, List.Sublist.refl _, .inl ⟨rfl, v2, rfl⟩⟩
          · rintro r τ (⟨n9, hn9, hz, v, rfl⟩ | hF)
            · rw [hL, elems_all hz hsN]
              refine RangeEnd.done .here ?_
              clear hL L
              show EX _ _ _ _ _
              refine ex_perm (List.perm_middle (a := Ent.obj D (.deferred (some []))) (l₁ := [_, _, _, _, _]) (l₂ := τ1)).symm ?_
              simp only [List.cons_append, List.nil_append]
              refine ex_region ?_;
              apply exl_is; rfl; rfl; rfl; (apply g_add; rfl; rfl; rfl; exact ⟨by omega, by omega⟩);
              apply exl_is; rfl; rfl; rfl; (apply g_move; rfl);
              refine exl_nil ?_;
              simp only [thenA, blockA, roundA, noGotoA, retA, ↓reduceIte, Nat.reduceEqDiff];
              rotate_left
              (all_goals (repeat (rename BV _ _ => hbv; cases hbv)))
              all_goals (try (exfalso; first | (rename true = false => hx; cases hx; done) | (rename false = true => hx; cases hx; done)))
              refine ⟨(j + 1, v, D :: ds2), by dsimp only; omega, by dsimp only; omega, ?_⟩
              dsimp only
              rw [List.map_cons, List.cons_append, hT1, hmn, ← List.append_assoc]
              exact (St.le_of (by repeat (first | exact trivial | refine ⟨rfl, ?_⟩)) (by repeat (first | exact List.Sublist.refl _ | apply List.Sublist.cons_cons | apply List.Sublist.cons)))
            · exact hF.elim
      · have e : j = l.length := by omega
        subst e
        rw [List.take_of_length_le (Nat.le_refl _), ← hnn] at hAj ⊢
        have c5 := c4 (by omega)
        have hj2 : ¬ l.length < (natI l).length := by omega
        clear c4 hlN hA hst hnn
        generalize nextL l s N = Nx at c5 hAj ⊢
        refine ex_shut (v := u) (env' := [(1, .ptr b1 0), (6, .ptr b6 0), (18, ints (natI R)), (19, .int .i64 (natI R).length), (20, .int .i64 i), (27, ints (natI l)), (28, .int .i64 (natI l).length), (29, .int .i64 ((l.length : Nat) : Int))]) (.there .here) (.cells (.here .nil) (ShutEnts.refl _)) (by repeat (first | exact .nil | refine .same rfl ?_)) ?_
        refine ex_seq ?_;
        refine ex_region ?_;
        apply exl_isB; rfl; rfl; rfl; (apply g_binInt; rfl; rfl; rfl); intro _ _;
        refine exl_nilT ?_;
        refine ex_seq ?_;
        refine ex_cond rfl (fun h => ?_) (fun h => ?_) <;> ((first | (subst h; rename BV _ true => h0; have h := h0.eq; clear h0) | (subst h; rename BV _ false => h0; have h := h0.eq; clear h0) | skip); (have hp := h; try simp only [decide_eq_true_eq, decide_eq_false_iff_not, Bool.not_eq_true', Bool.not_eq_false', bne_iff_ne, beq_iff_eq, beq_eq_false_iff_ne, bne_eq_false_iff_eq, Int.not_lt, Int.not_le] at hp); (try (exfalso; first | omega | (cases hp; done))));
        refine ex_exit ?_;
        refine ex_region ?_;
        apply exl_is; rfl; rfl; rfl; (apply g_load1; rfl; rfl; (exact .p (by ((repeat (first | exact List.Mem.head _ | assumption | refine List.Mem.tail _ ?_)); done)) rfl));
        apply exl_is; rfl; rfl; rfl; (exact g_call rfl rfl (enters_b (by kernel_rfl)) (c5 _));
        apply exl_is; rfl; rfl; rfl; (apply g_assign; rfl);
        refine exl_nil ?_;
        refine ex_region ?_;
        apply exl_is; rfl; rfl; rfl; (apply g_add; rfl; rfl; rfl; exact ⟨by omega, by omega⟩);
        apply exl_is; rfl; rfl; rfl; (apply g_move; rfl);
        refine exl_nil ?_;
        simp only [thenA, blockA, roundA, noGotoA, retA, ↓reduceIte, Nat.reduceEqDiff];
        rotate_left
        (all_goals (repeat (rename BV _ _ => hbv; cases hbv)))
        all_goals (try (exfalso; first | (rename true = false => hx; cases hx; done) | (rename false = true => hx; cases hx; done)))
        refine ⟨(i + 1, ds2 ++ ds), by dsimp only; omega, by dsimp only; omega, ?_⟩
        dsimp only
        rw [List.map_append, List.append_assoc, hT, hT1]
        exact (St.le_of (by repeat (first | exact trivial | refine ⟨rfl, ?_⟩)) (by repeat (first | exact List.Sublist.refl _ | apply List.Sublist.cons_cons | apply List.Sublist.cons)))
    · have e : i = R.length := by omega
      subst e
      have hi2 : ¬ R.length < (natI R).length := by omega
      rw [List.take_of_length_le (Nat.le_refl _)]
      clear hR
      generalize trL R N = T
      refine ex_seq ?_;
      refine ex_region ?_;
      apply exl_isB; rfl; rfl; rfl; (apply g_binInt; rfl; rfl; rfl); intro _ _;
      refine exl_nilT ?_;
      refine ex_seq ?_;
      refine ex_cond rfl (fun h => ?_) (fun h => ?_) <;> ((first | (subst h; rename BV _ true => h0; have h := h0.eq; clear h0) | (subst h; rename BV _ false => h0; have h := h0.eq; clear h0) | skip); (have hp := h; try simp only [decide_eq_true_eq, decide_eq_false_iff_not, Bool.not_eq_true', Bool.not_eq_false', bne_iff_ne, beq_iff_eq, beq_eq_false_iff_ne, bne_eq_false_iff_eq, Int.not_lt, Int.not_le] at hp); (try (exfalso; first | omega | (cases hp; done))));
      refine ex_exit ?_;
      refine ex_seq ?_;
      refine ex_region ?_;
      apply exl_is; rfl; rfl; rfl; (apply g_move; rfl);
      apply exl_is; rfl; rfl; rfl; (apply g_assign; rfl);
      apply exl_is; rfl; rfl; rfl; (apply g_assign; rfl);
      refine exl_nilT ?_;
      refine ex_ret ?_;
      simp only [thenA, blockA, roundA, noGotoA, retA, ↓reduceIte, Nat.reduceEqDiff];
      rotate_left
      (all_goals (repeat (rename BV _ _ => hbv; cases hbv)))
      all_goals (try (exfalso; first | (rename true = false => hx; cases hx; done) | (rename false = true => hx; cases hx; done)))
      refine ret_q (σ3 := σ) (marks_mid ds [_] σ) (.cons (.ofTmp rfl) (.cons (.ofTmp rfl) .nil)) (by repeat (first | exact List.Sublist.refl _ | apply List.Sublist.cons_cons | apply List.Sublist.cons)) ?_
      exact fin_done .mk
  · rw [hitR_bad h]
    refine ex_seq ?_;
    refine ex_region ?_;
    refine exl_box rfl rfl rfl (g_box rfl rfl) ?_; intro _;
    apply exl_is; rfl; rfl; rfl; (apply g_assign; rfl);
    apply exl_is; rfl; rfl; rfl; (apply g_assign; rfl);
    refine exl_nilT ?_;
    refine ex_seq ?_;
    refine ex_seq ?_;
    refine ex_region ?_;
    apply exl_is; rfl; rfl; rfl; (apply g_loadAgg; rfl; decide; rfl; (exact .p (by ((repeat (first | exact List.Mem.head _ | assumption | refine List.Mem.tail _ ?_)); done)) rfl rfl));
    apply exl_is; rfl; rfl; rfl; (exact g_call rfl rfl (enters_b (by kernel_rfl)) (c1 _));
    apply exl_is; rfl; rfl; rfl; (apply g_assign; rfl);
    refine exl_nilT ?_;
    refine ex_seq ?_;
    refine ex_region ?_;
    apply exl_is; rfl; rfl; rfl; (apply g_move; rfl);
    apply exl_isB; rfl; rfl; rfl; (apply g_binInt; rfl; rfl; rfl); intro _ _;
    refine exl_nilT ?_;
    refine ex_cond rfl (fun h => ?_) (fun h => ?_) <;> ((first | (subst h; rename BV _ true => h0; have h := h0.eq; clear h0) | (subst h; rename BV _ false => h0; have h := h0.eq; clear h0) | skip); (have hp := h; try simp only [decide_eq_true_eq, decide_eq_false_iff_not, Bool.not_eq_true', Bool.not_eq_false', bne_iff_ne, beq_iff_eq, beq_eq_false_iff_ne, bne_eq_false_iff_eq, Int.not_lt, Int.not_le] at hp); (try (exfalso; first | omega | (cases hp; done))));
    refine ex_seq ?_;
    refine ex_region ?_;
    apply exl_is; rfl; rfl; rfl; (apply g_move; rfl);
    apply exl_is; rfl; rfl; rfl; (apply g_assign; rfl);
    apply exl_is; rfl; rfl; rfl; (apply g_assign; rfl);
    refine exl_nilT ?_;
    refine ex_ret ?_;
    simp only [thenA, blockA, roundA, noGotoA, retA, ↓reduceIte, Nat.reduceEqDiff];
    rotate_left
    (all_goals (repeat (rename BV _ _ => hbv; cases hbv)))
    all_goals (try (exfalso; first | (rename true = false => hx; cases hx; done) | (rename false = true => hx; cases hx; done)))
    refine ret_q (σ3 := σ) .nil (.cons (.ofTmp rfl) (.cons (.ofTmp rfl) .nil)) (by repeat (first | exact List.Sublist.refl _ | apply List.Sublist.cons_cons | apply List.Sublist.cons)) ?_
    exact fin_nil (sz := 1) (.tup (.here (.same .nil)) .nil) (fin_done .mk)
end Go.Proofs.Ytcmdkccncfleoaa
