/- turns. -/
import Derived.Test.YtccjolaolmpifaaDoorDj
namespace Go.Proofs.YtccjolaolmpifaaDoor
set_option linter.unusedSimpArgs false
set_option linter.unusedVariables false
theorem ends_append (a b : List Sp) : endsL (a ++ b) = endsL a ++ endsL b := by unfold endsL; rw [List.flatMap_append]
theorem ends_take {l : List Sp} {k : Nat} {x : Sp} (h : l[k]? = some x) : endsL (l.take (k + 1)) = endsL (l.take k) ++ [x.f, x.t + 1] := by
  rw [List.take_add_one, h, ends_append]; rfl
/-- The closure that turns makes, and what it holds. -/
def turnsSt (a b : List Sp) (ba bb bt : Nat) (v : Value) (L : List Int) (σ : List Ent) : List Ent := .cells bt [.slv v] 43 :: .cells bb [sps b] 32 :: .cells ba [sps a] 32 :: .row v 3 1 (L.map intC) :: σ
set_option maxHeartbeats 4000000 in
set_option maxRecDepth 10000 in
theorem turns_c (a b : List Sp) (ha : a.length ≤ 256) (hb : b.length ≤ 256) (ka : chkFrom (-2) a = true) (kb : chkFrom (-2) b = true) (σ : List Ent) : SCall Tryd.prog 42 [sps a, sps b] σ (fun r τ => ∃ ba bb bt v, r = .fn (.func 47) [] [.ptr ba 0, .ptr bb 0, .ptr bt 0] ∧ τ = turnsSt a b ba bb bt v (sortI (endsL a ++ endsL b)) σ) := by
  refine scall_of Tryd.func42 rfl (by simp) ?_
  have hcc := fun σ => concat_c [a, b] (by unfold sumLen; simp; omega) σ
  rw [show [a, b].flatten = a ++ b by simp] at hcc
  refine ex_nilRow 3 1 ?_
  refine ex_seq ?_;
  refine ex_region ?_;
  refine exl_box rfl rfl rfl (g_box rfl rfl) ?_; intro _;
  refine exl_box rfl rfl rfl (g_box rfl rfl) ?_; intro _;
  apply exl_is; rfl; rfl; rfl; (apply g_assign; rfl);
  refine exl_nilT ?_;
  refine ex_seq ?_;
  refine ex_region ?_;
  refine exl_box rfl rfl rfl (g_alloc rfl) ?_; intro _;
  refine exl_nilT ?_;
  refine ex_seq ?_;
  refine ex_seq ?_;
  refine ex_region ?_;
  apply exl_is; rfl; rfl; rfl; (apply g_load1; rfl; rfl; (exact .p (by ((repeat (first | exact List.Mem.head _ | assumption | refine List.Mem.tail _ ?_)); done)) rfl));
  apply exl_is; rfl; rfl; rfl; (apply g_load1; rfl; rfl; (exact .p (by ((repeat (first | exact List.Mem.head _ | assumption | refine List.Mem.tail _ ?_)); done)) rfl));
  apply exl_is; rfl; rfl; rfl; (exact gop_sealed (g_buildSlice rfl rfl (by decide) rfl rfl (by (simp only [chunkN, List.take_succ_cons, List.take_zero, List.drop_succ_cons, List.drop_zero]; rfl))));
  apply exl_is; rfl; rfl; rfl; (exact g_call rfl rfl (enters_b (by kernel_rfl)) (hcc _));
  apply exl_is; rfl; rfl; rfl; (apply g_len; rfl; rfl; (exact (List.length_map _).symm));
  apply exl_is; rfl; rfl; rfl; (apply g_move; rfl);
  refine exl_nilT ?_;
  refine ex_block ?_;
  rotate_left
  (all_goals (repeat (rename BV _ _ => hbv; cases hbv)))
  all_goals (try (exfalso; first | (rename true = false => hx; cases hx; done) | (rename false = true => hx; cases hx; done)))
  rename_i ba bb bt
  clear hcc
  have hC : ∀ x ∈ a ++ b, -2 ≤ x.f ∧ x.f ≤ 73048 ∧ x.t ≤ 73048 ∧ -2 ≤ x.t := fun x hx => by
    rcases List.mem_append.1 hx with h | h
    · have := chk_low ka x h; omega
    · have := chk_low kb x h; omega
  have hl512 : (a ++ b).length ≤ 512 := by rw [List.length_append]; omega
  rw [← ends_append]
  generalize a ++ b = l at hC hl512 ⊢
  refine ex_loop (fun (z : Nat × Value) => (⟨[(2, .ptr ba 0), (3, .ptr bb 0), (5, .ptr bt 0), (11, sps l), (12, .int .i64 l.length), (13, .int .i64 z.1)], .cells bt [.slv z.2] 43 :: .cells bb [sps b] 32 :: .cells ba [sps a] 32 :: .row z.2 3 1 ((endsL (l.take z.1)).map intC) :: σ, [], Tryd.f42.ntmps⟩ : St)) (fun z => z.1 ≤ l.length) (fun z => l.length - z.1) (0, nilS) (Nat.zero_le _) (St.le_of (by repeat (first | exact trivial | refine ⟨rfl, ?_⟩)) (by repeat (first | exact List.Sublist.refl _ | apply List.Sublist.cons_cons | apply List.Sublist.cons))) ?_
  intro z hI
  obtain ⟨k, v⟩ := z
  dsimp only at hI ⊢
  by_cases hk : k < l.length
  · obtain ⟨x, hx⟩ : ∃ x, l[k]? = some x := ⟨_, List.getElem?_eq_getElem hk⟩
    obtain ⟨c1, c2, c3, c4⟩ := hC x (List.mem_of_getElem? hx)
    have hel := ends_length (l.take k)
    have hlt : (l.take k).length ≤ 512 := by rw [List.length_take]; omega
    have hst : (endsL (l.take (k + 1))).map intC = (endsL (l.take k)).map intC ++ [intC x.f, intC (x.t + 1)] := by rw [ends_take hx]; simp
    generalize endsL (l.take k) = E at hel hst ⊢
    refine ex_seq ?_;
    refine ex_region ?_;
    apply exl_isB; rfl; rfl; rfl; (apply g_binInt; rfl; rfl; rfl); intro _ _;
    refine exl_nilT ?_;
    refine ex_seq ?_;
    refine ex_cond rfl (fun h => ?_) (fun h => ?_) <;> ((first | (subst h; rename BV _ true => h0; have h := h0.eq; clear h0) | (subst h; rename BV _ false => h0; have h := h0.eq; clear h0) | skip); (have hp := h; try simp only [decide_eq_true_eq, decide_eq_false_iff_not, Bool.not_eq_true', Bool.not_eq_false', bne_iff_ne, beq_iff_eq, beq_eq_false_iff_ne, bne_eq_false_iff_eq, Int.not_lt, Int.not_le] at hp); (try (exfalso; first | omega | (cases hp; done))));
    refine ex_skip ?_;
    refine ex_seq ?_;
    refine ex_block ?_;
    refine ex_seq ?_;
    refine ex_region ?_;
    apply exl_is; rfl; rfl; rfl; (apply g_indexDl; rfl; rfl; rfl; (rfl); (exact get_map (by assumption)));
    apply exl_is; rfl; rfl; rfl; (apply g_loadAgg; rfl; decide; rfl; (exact .e rfl rfl));
    refine exl_box rfl rfl rfl (g_alloc rfl) ?_; intro _;
    apply exl_do; rfl; rfl; (apply g_store'; rfl; rfl; rfl; (exact Upd.here); (simp only [setL, List.set_cons_zero, List.set_cons_succ, AV.cells]; rfl); rfl; rfl; rfl; exact Nat.le_of_ble_eq_true rfl);
    refine exl_nilT ?_;
    refine ex_region ?_;
    apply exl_is; rfl; rfl; rfl; (apply g_load1; rfl; rfl; (exact .p (by ((repeat (first | exact List.Mem.head _ | assumption | refine List.Mem.tail _ ?_)); done)) rfl));
    apply exl_is; rfl; rfl; rfl; (apply g_fieldAddr; rfl; rfl; rfl);
    apply exl_is; rfl; rfl; rfl; (apply g_load1; rfl; rfl; (exact .p (by ((repeat (first | exact List.Mem.head _ | assumption | refine List.Mem.tail _ ?_)); done)) rfl));
    apply exl_is; rfl; rfl; rfl; (apply g_fieldAddr; rfl; rfl; rfl);
    apply exl_is; rfl; rfl; rfl; (apply g_load1; rfl; rfl; (exact .p (by ((repeat (first | exact List.Mem.head _ | assumption | refine List.Mem.tail _ ?_)); done)) rfl));
    apply exl_is; rfl; rfl; rfl; (apply g_add; rfl; rfl; rfl; exact ⟨by omega, by omega⟩);
    apply exl_is; rfl; rfl; rfl; (exact gop_sealed (g_buildSlice rfl rfl (by decide) rfl rfl (by (simp only [chunkN, List.take_succ_cons, List.take_zero, List.drop_succ_cons, List.drop_zero]; rfl))));
    apply exl_grew; rfl; rfl; rfl; (apply g_append; rfl; rfl; rfl; (intro v'; (exact Upd.there (Upd.there (Upd.there (Upd.there (Upd.here)))))); (exact .d); (intro y hy; simp only [List.mem_cons, List.not_mem_nil, or_false] at hy; rcases hy with rfl | hy; rfl; subst hy; rfl); (refine app_ok ?_ (by kernel_rfl); (try simp only [List.length_append, List.length_map, List.length_cons, List.length_nil, List.length_take, List.length_drop]); omega)); intro _;
    apply exl_do; rfl; rfl; (apply g_store'; rfl; rfl; rfl; (exact Upd.there (Upd.here)); (simp only [setL, List.set_cons_zero, List.set_cons_succ, AV.cells]; rfl); rfl; rfl; rfl; exact Nat.le_of_ble_eq_true rfl);
    refine exl_nil ?_;
    refine ex_region ?_;
    apply exl_is; rfl; rfl; rfl; (apply g_add; rfl; rfl; rfl; exact ⟨by omega, by omega⟩);
    apply exl_is; rfl; rfl; rfl; (apply g_move; rfl);
    refine exl_nil ?_;
    simp only [thenA, blockA, roundA, noGotoA, retA, ↓reduceIte, Nat.reduceEqDiff];
    rotate_left
    (all_goals (repeat (rename BV _ _ => hbv; cases hbv)))
    all_goals (try (exfalso; first | (rename true = false => hx; cases hx; done) | (rename false = true => hx; cases hx; done)))
    rename Value => v2
    refine ⟨(k + 1, v2), hk, by dsimp only; omega, ?_⟩
    dsimp only
    rw [hst]
    exact (St.le_of (by repeat (first | exact trivial | refine ⟨rfl, ?_⟩)) (by repeat (first | exact List.Sublist.refl _ | apply List.Sublist.cons_cons | apply List.Sublist.cons)))
  · rw [List.take_of_length_le (by omega)]
    have hel := ends_length l
    generalize endsL l = E at hel ⊢
    refine ex_seq ?_;
    refine ex_region ?_;
    apply exl_isB; rfl; rfl; rfl; (apply g_binInt; rfl; rfl; rfl); intro _ _;
    refine exl_nilT ?_;
    refine ex_seq ?_;
    refine ex_cond rfl (fun h => ?_) (fun h => ?_) <;> ((first | (subst h; rename BV _ true => h0; have h := h0.eq; clear h0) | (subst h; rename BV _ false => h0; have h := h0.eq; clear h0) | skip); (have hp := h; try simp only [decide_eq_true_eq, decide_eq_false_iff_not, Bool.not_eq_true', Bool.not_eq_false', bne_iff_ne, beq_iff_eq, beq_eq_false_iff_ne, bne_eq_false_iff_eq, Int.not_lt, Int.not_le] at hp); (try (exfalso; first | omega | (cases hp; done))));
    refine ex_exit ?_;
    refine ex_seq ?_;
    refine ex_region ?_;
    apply exl_is; rfl; rfl; rfl; (apply g_load1; rfl; rfl; (exact .p (by ((repeat (first | exact List.Mem.head _ | assumption | refine List.Mem.tail _ ?_)); done)) rfl));
    refine exl_call rfl rfl rfl (g_call rfl rfl (enters_b (by kernel_rfl)) (sort_c (.there (.there (.there .here))) (by omega))) ?_; rintro _ _ ⟨rfl, rfl⟩;
    refine exl_nilT ?_;
    refine ex_seq ?_;
    refine ex_region ?_;
    apply exl_is; rfl; rfl; rfl; (apply g_makeFunc; rfl; rfl);
    apply exl_is; rfl; rfl; rfl; (apply g_assign; rfl);
    refine exl_nilT ?_;
    refine ex_ret ?_;
    simp only [thenA, blockA, roundA, noGotoA, retA, ↓reduceIte, Nat.reduceEqDiff];
    rotate_left
    (all_goals (repeat (rename BV _ _ => hbv; cases hbv)))
    all_goals (try (exfalso; first | (rename true = false => hx; cases hx; done) | (rename false = true => hx; cases hx; done)))
    refine ret_q (σ3 := turnsSt a b ba bb bt v (sortI E) σ) .nil (.cons (.ofTmp rfl) .nil) (by repeat (first | exact List.Sublist.refl _ | apply List.Sublist.cons_cons | apply List.Sublist.cons)) ?_
    exact fin_done ⟨ba, bb, bt, v, rfl, rfl⟩
end Go.Proofs.YtccjolaolmpifaaDoor
