/- trim, periods, ranges, Bounds, Totals. -/
import Derived.Test.YtimeggaignfhgaaEc
import Derived.Test.YtimeggaignfhgaaSn
namespace Go.Proofs.Ytimeggaignfhgaa
set_option linter.unusedSimpArgs false
set_option linter.unusedVariables false

/-- The least and the greatest number without some. -/
def trimE (l : List Int) (low high : Nat) : Int × Int := ((sortI l)[low]?.getD 0, (sortI l)[l.length - 1 - high]?.getD 0)
set_option maxRecDepth 10000 in
theorem trim_c (l : List Int) (low high : Nat) (h : low + high < l.length) (hl : l.length ≤ 64) (v : Value) (σ : List Ent) : SCall Try.prog 40 [.slv v, .int .i64 low, .int .i64 high] (.row v 3 1 (l.map intC) :: σ) (Is (.tup [.int .i64 (trimE l low high).1, .int .i64 (trimE l low high).2]) σ) := by
  refine scall_of Try.func40 rfl (by simp) ?_
  have hlen := sortI_length l
  obtain ⟨a, ha⟩ : ∃ a, (sortI l)[low]? = some a := ⟨_, List.getElem?_eq_getElem (by omega)⟩
  obtain ⟨b, hb⟩ : ∃ b, (sortI l)[l.length - 1 - high]? = some b := ⟨_, List.getElem?_eq_getElem (by omega)⟩
  have hix : ((((sortI l).length : Int) - 1) - (high : Int)) = ((l.length - 1 - high : Nat) : Int) := by omega
  have h1 : low < ((sortI l).map intC).length := by simp only [List.length_map]; omega
  have h2 : l.length - 1 - high < ((sortI l).map intC).length := by simp only [List.length_map]; omega
  refine ex_seq ?_;
  refine ex_region ?_;
  apply exl_is; rfl; rfl; rfl; (apply g_assign; rfl);
  apply exl_is; rfl; rfl; rfl; (apply g_assign; rfl);
  refine exl_nilT ?_;
  refine ex_seq ?_;
  refine ex_region ?_;
  apply exl_is; rfl; rfl; rfl; (apply g_move; rfl);
  refine exl_call rfl rfl rfl (g_call rfl rfl (enters_b (by kernel_rfl)) (sort_c .here (by omega))) ?_; rintro _ _ ⟨rfl, rfl⟩;
  refine exl_nilT ?_;
  refine ex_seq ?_;
  refine ex_drawP rfl rfl (by kernel_rfl) rfl ?_; refine ex_drawQ rfl (by kernel_rfl) rfl ?_;
  apply wl_is; rfl; rfl; rfl; (intro σ' hl; (apply g_move; rfl));
  apply wl_is; rfl; rfl; rfl; (intro σ' hl; (apply g_move; rfl));
  apply wl_is; rfl; rfl; rfl; (intro σ' hl; (apply g_indexRow; rfl; rfl; exact hl _ (True.intro) (by ((repeat (first | exact List.Mem.head _ | assumption | refine List.Mem.tail _ ?_)); done)); rfl; (rfl); (assumption)));
  apply wl_is; rfl; rfl; rfl; (intro σ' hl; (apply g_load1; rfl; rfl; (exact .k0 (hl _ (True.intro) (by ((repeat (first | exact List.Mem.head _ | assumption | refine List.Mem.tail _ ?_)); done))) (get_map (by assumption)) rfl)));
  apply wl_is; rfl; rfl; rfl; (intro σ' hl; (apply g_move; rfl));
  apply wl_is; rfl; rfl; rfl; (intro σ' hl; (apply g_move; rfl));
  apply wl_is; rfl; rfl; rfl; (intro σ' hl; (apply g_len; rfl; rfl; (exact .inl ⟨_, _, _, (hl _ (True.intro) (by ((repeat (first | exact List.Mem.head _ | assumption | refine List.Mem.tail _ ?_)); done))), (List.length_map _).symm⟩)));
  apply wl_is; rfl; rfl; rfl; (intro σ' hl; (apply g_sub; rfl; rfl; rfl; exact ⟨by omega, by omega⟩));
  apply wl_is; rfl; rfl; rfl; (intro σ' hl; (apply g_move; rfl));
  apply wl_is; rfl; rfl; rfl; (intro σ' hl; (apply g_sub; rfl; rfl; rfl; exact ⟨by omega, by omega⟩));
  apply wl_is; rfl; rfl; rfl; (intro σ' hl; (apply g_indexRow; rfl; rfl; exact hl _ (True.intro) (by ((repeat (first | exact List.Mem.head _ | assumption | refine List.Mem.tail _ ?_)); done)); rfl; (assumption); (assumption)));
  apply wl_is; rfl; rfl; rfl; (intro σ' hl; (apply g_load1; rfl; rfl; (exact .k0 (hl _ (True.intro) (by ((repeat (first | exact List.Mem.head _ | assumption | refine List.Mem.tail _ ?_)); done))) (get_map (by assumption)) rfl)));
  apply wl_is; rfl; rfl; rfl; (intro σ' hl; (apply g_assign; rfl));
  apply wl_is; rfl; rfl; rfl; (intro σ' hl; (apply g_assign; rfl));
  refine wl_nil ?_; show EX _ _ _ _ _;
  refine ex_ret ?_;
  simp only [thenA, blockA, roundA, noGotoA, retA, ↓reduceIte, Nat.reduceEqDiff];
  rotate_left
  (all_goals (repeat (rename BV _ _ => hbv; cases hbv)))
  all_goals (try (exfalso; first | (rename true = false => hx; cases hx; done) | (rename false = true => hx; cases hx; done)))
  refine ret_is .nil (.cons (.ofTmp rfl) (.cons (.ofTmp rfl) .nil)) (by repeat (first | exact List.Sublist.refl _ | apply List.Sublist.cons_cons | apply List.Sublist.cons)) ?_
  simp only [trimE, ha, hb, oneA]; rfl

/-! ### The litres of a period, one after the other -/
/-- What periods is to do: `of` hands back val k i in period k for member i; I says what is owned then. -/
structure Of (x : En) (g : Nat) (cap : List AV) (val : Nat → Nat → Int) (I : Nat → Nat → List Ent → Prop) : Prop where
  en : Enters Try.prog g
  call : ∀ (k i : Nat) (n : Int) (σ front : List Ent), I k i σ → (x.members[i]?.bind (·[k]?)) = some n → SCall Try.prog g ([.int .i64 i, .int .i64 n] ++ cap) (front ++ σ) (fun r τ => r = .int .i64 (val k i) ∧ ∃ τ', τ = front ++ τ' ∧ I k (i + 1) τ')
def colV (val : Nat → Nat → Int) (k n : Nat) : List Int := (List.range n).map (val k)
theorem colV_succ (val : Nat → Nat → Int) (k n : Nat) : colV val k n ++ [val k n] = colV val k (n + 1) := by simp [colV, List.range_succ]
theorem colV_length (val : Nat → Nat → Int) (k n : Nat) : (colV val k n).length = n := by simp [colV]

set_option maxHeartbeats 1000000 in
set_option maxRecDepth 10000 in
theorem periods1_c {x : En} {g : Nat} {cap : List AV} {val : Nat → Nat → Int} {I : Nat → Nat → List Ent → Prop} {b1 b2 l : Nat} {t1 t2 : TypeId} (hO : Of x g cap val I) (hne : ¬ x.members.length = 0) (hlen : ∀ m ∈ x.members, m.length = (hd x.members).length) (hn : x.members.length ≤ 64) (h16 : (hd x.members).length ≤ 16)
    (h1 : ∀ k i σ, I k i σ → .cells b1 (enC x) t1 ∈ σ) (h2 : ∀ k i σ, I k i σ → .cells b2 [.fn (.func g) [] cap] t2 ∈ σ)
    (hy : ∀ k σ v, k < (hd x.members).length → I k x.members.length σ → SRound Try.prog l [.slv v] (.row v 3 1 ((colV val k x.members.length).map intC) :: σ) (fun r τ => r = .bool true ∧ I (k + 1) 0 τ)) {σ : List Ent} (h0 : I 0 0 σ) :
    SCall Try.prog 48 [.fn (.yield l) [] [], .ptr b1 0, .ptr b2 0] σ (fun _ τ => I (hd x.members).length 0 τ) := by
  refine scall_of Try.func48 rfl (by simp) ?_
  have hx0 : x.members[0]? = some (hd x.members) := hd_get hne
  have m1 := h1 _ _ _ h0
  refine ex_seq ?_;
  refine ex_region ?_;
  apply exl_is; rfl; rfl; rfl; (apply g_fieldAddr; rfl; rfl; rfl);
  apply exl_is; rfl; rfl; rfl; (apply g_load1; rfl; rfl; (exact .p (by ((repeat (first | exact List.Mem.head _ | assumption | refine List.Mem.tail _ ?_)); done)) rfl));
  apply exl_is; rfl; rfl; rfl; (apply g_indexDl; rfl; rfl; rfl; (rfl); (exact get_map (by assumption)));
  apply exl_is; rfl; rfl; rfl; (apply g_load1; rfl; rfl; (exact .e rfl));
  apply exl_is; rfl; rfl; rfl; (apply g_len; rfl; rfl; (exact (List.length_map _).symm));
  apply exl_is; rfl; rfl; rfl; (apply g_move; rfl);
  refine exl_nilT ?_;
  refine ex_block ?_;
  rotate_left
  (all_goals (repeat (rename BV _ _ => hbv; cases hbv)))
  all_goals (try (exfalso; first | (rename true = false => hx; cases hx; done) | (rename false = true => hx; cases hx; done)))
  refine ex_loop (fun (z : Nat × List Ent) => (⟨[(0, .fn (.yield l) [] []), (1, .ptr b1 0), (2, .ptr b2 0), (12, .int .i64 (hd x.members).length), (13, .int .i64 z.1)], z.2, [], Try.f48.ntmps⟩ : St)) (fun z => z.1 ≤ (hd x.members).length ∧ I z.1 0 z.2) (fun z => (hd x.members).length - z.1) (0, σ) (⟨Nat.zero_le _, h0⟩) (St.le_of (by repeat (first | exact trivial | refine ⟨rfl, ?_⟩)) (by repeat (first | exact List.Sublist.refl _ | apply List.Sublist.cons_cons | apply List.Sublist.cons))) ?_
  intro z hI
  obtain ⟨k, σk⟩ := z
  obtain ⟨hk0, hI⟩ := hI
  simp only at hk0 hI
  clear m1
  by_cases hk : k < (hd x.members).length
  · have m1 := h1 _ _ _ hI
    refine ex_seq ?_;
    refine ex_region ?_;
    apply exl_isB; rfl; rfl; rfl; (apply g_binInt; rfl; rfl; rfl); intro _ _;
    refine exl_nilT ?_;
    refine ex_seq ?_;
    refine ex_cond rfl (fun h => ?_) (fun h => ?_) <;> ((first | (subst h; rename BV _ true => h0; have h := h0.eq; clear h0) | (subst h; rename BV _ false => h0; have h := h0.eq; clear h0) | skip); (have hp := h; try simp only [decide_eq_true_eq, decide_eq_false_iff_not, Bool.not_eq_true', Bool.not_eq_false', bne_iff_ne, beq_iff_eq, beq_eq_false_iff_ne, bne_eq_false_iff_eq, Int.not_lt, Int.not_le] at hp); (try (exfalso; first | omega | (cases hp; done))));
    refine ex_skip ?_;
    refine ex_seq ?_;
    refine ex_block ?_;
    refine ex_seq ?_;
    refine ex_region ?_;
    apply exl_is; rfl; rfl; rfl; (apply g_move; rfl);
    apply exl_is; rfl; rfl; rfl; (apply g_assign; rfl);
    refine exl_nilT ?_;
    refine ex_seq ?_;
    refine ex_region ?_;
    apply exl_is; rfl; rfl; rfl; (apply g_assign; rfl);
    refine exl_nilT ?_;
    refine ex_seq ?_;
    refine ex_seq ?_;
    refine ex_region ?_;
    apply exl_is; rfl; rfl; rfl; (apply g_fieldAddr; rfl; rfl; rfl);
    apply exl_is; rfl; rfl; rfl; (apply g_load1; rfl; rfl; (exact .p (by ((repeat (first | exact List.Mem.head _ | assumption | refine List.Mem.tail _ ?_)); done)) rfl));
    apply exl_is; rfl; rfl; rfl; (apply g_len; rfl; rfl; (exact (List.length_map _).symm));
    apply exl_is; rfl; rfl; rfl; (apply g_move; rfl);
    refine exl_nilT ?_;
    refine ex_block ?_;
    simp only [thenA, blockA, roundA, noGotoA, retA, ↓reduceIte, Nat.reduceEqDiff];
    rotate_left
    (all_goals (repeat (rename BV _ _ => hbv; cases hbv)))
    all_goals (try (exfalso; first | (rename true = false => hx; cases hx; done) | (rename false = true => hx; cases hx; done)))
    refine ex_nilRow 3 1 ?_
    refine ex_loop (fun (z : Nat × Value × List Ent) => (⟨[(0, .fn (.yield l) [] []), (1, .ptr b1 0), (2, .ptr b2 0), (4, .int .i64 k), (5, .slv z.2.1), (12, .int .i64 (hd x.members).length), (13, .int .i64 k), (17, intss x.members), (18, .int .i64 x.members.length), (19, .int .i64 z.1)], .row z.2.1 3 1 ((colV val k z.1).map intC) :: z.2.2, [], Try.f48.ntmps⟩ : St)) (fun z => z.1 ≤ x.members.length ∧ I k z.1 z.2.2) (fun z => x.members.length - z.1) (0, nilS, σk) (⟨Nat.zero_le _, hI⟩) (St.le_of (by repeat (first | exact trivial | refine ⟨rfl, ?_⟩)) (by repeat (first | exact List.Sublist.refl _ | apply List.Sublist.cons_cons | apply List.Sublist.cons))) ?_
    intro z hI
    obtain ⟨i, v, τ⟩ := z
    obtain ⟨hi0, hIi⟩ := hI
    simp only at hi0 hIi
    clear m1
    by_cases hi : i < x.members.length
    · obtain ⟨m, hm⟩ : ∃ m, x.members[i]? = some m := ⟨_, List.getElem?_eq_getElem hi⟩
      have hml := hlen m (List.mem_of_getElem? hm)
      obtain ⟨c, hc⟩ : ∃ c, m[k]? = some c := ⟨_, List.getElem?_eq_getElem (by omega)⟩
      have hxc : (x.members[i]?.bind (·[k]?)) = some c := by rw [hm]; exact hc
      have m2 := h2 _ _ _ hIi
      have hcl := colV_length val k i
      refine ex_seq ?_;
      refine ex_region ?_;
      apply exl_isB; rfl; rfl; rfl; (apply g_binInt; rfl; rfl; rfl); intro _ _;
      refine exl_nilT ?_;
      refine ex_seq ?_;
      refine ex_cond rfl (fun h => ?_) (fun h => ?_) <;> ((first | (subst h; rename BV _ true => h0; have h := h0.eq; clear h0) | (subst h; rename BV _ false => h0; have h := h0.eq; clear h0) | skip); (have hp := h; try simp only [decide_eq_true_eq, decide_eq_false_iff_not, Bool.not_eq_true', Bool.not_eq_false', bne_iff_ne, beq_iff_eq, beq_eq_false_iff_ne, bne_eq_false_iff_eq, Int.not_lt, Int.not_le] at hp); (try (exfalso; first | omega | (cases hp; done))));
      refine ex_skip ?_;
      refine ex_seq ?_;
      refine ex_block ?_;
      refine ex_seq ?_;
      refine ex_region ?_;
      apply exl_is; rfl; rfl; rfl; (apply g_move; rfl);
      apply exl_is; rfl; rfl; rfl; (apply g_indexDl; rfl; rfl; rfl; (rfl); (exact get_map (by assumption)));
      apply exl_is; rfl; rfl; rfl; (apply g_load1; rfl; rfl; (exact .e rfl));
      apply exl_is; rfl; rfl; rfl; (apply g_assign; rfl);
      apply exl_is; rfl; rfl; rfl; (apply g_assign; rfl);
      refine exl_nilT ?_;
      simp only [thenA, blockA, roundA, noGotoA, retA, ↓reduceIte, Nat.reduceEqDiff];
      rotate_left
      (all_goals (repeat (rename BV _ _ => hbv; cases hbv)))
      all_goals (try (exfalso; first | (rename true = false => hx; cases hx; done) | (rename false = true => hx; cases hx; done)))
      refine ex_drawLK (fun e => e = .cells b2 [.fn (.func g) [] cap] t2) 9 [7, 8] rfl (by kernel_rfl) rfl ?_
      simp only [List.take_succ_cons, List.take_zero, List.drop_succ_cons, List.drop_zero]
      apply wl_is; rfl; rfl; rfl; (intro σ' hl; (apply g_move; rfl));
      apply wl_is; rfl; rfl; rfl; (intro σ' hl; (apply g_load1; rfl; rfl; (exact .p (hl _ (by rfl) (by ((repeat (first | exact List.Mem.head _ | assumption | refine List.Mem.tail _ ?_)); done))) rfl)));
      apply wl_is; rfl; rfl; rfl; (intro σ' hl; (apply g_move; rfl));
      apply wl_is; rfl; rfl; rfl; (intro σ' hl; (apply g_move; rfl));
      apply wl_is; rfl; rfl; rfl; (intro σ' hl; (apply g_move; rfl));
      apply wl_is; rfl; rfl; rfl; (intro σ' hl; (apply g_indexDl; rfl; rfl; rfl; (rfl); (exact get_map (by assumption))));
      apply wl_is; rfl; rfl; rfl; (intro σ' hl; (apply g_load1; rfl; rfl; (exact .e rfl)));
      refine wl_eff rfl rfl rfl (g_call rfl rfl hO.en (hO.call k i c τ [.row v 3 1 ((colV val k i).map intC)] hIi hxc)) ?_; rintro _ _ ⟨rfl, τ', rfl, hI'⟩; refine ⟨fun e he _ => by rw [he]; exact List.mem_append_right _ (h2 _ _ _ hI'), ?_⟩; simp only [List.cons_append, List.nil_append];
      refine wl_row rfl rfl rfl (by exact g_buildSlice rfl rfl (by decide) rfl rfl (by (simp only [chunkN, List.take_succ_cons, List.take_zero, List.drop_succ_cons, List.drop_zero]; rfl))) ?_; intro _;
      refine wl_nil ?_;
      apply exl_grew; rfl; rfl; rfl; (apply g_append; rfl; rfl; rfl; (intro v'; (exact Upd.there (Upd.here))); (exact .r (by ((repeat (first | exact List.Mem.head _ | assumption | refine List.Mem.tail _ ?_)); done))); (intro y hy; simp only [List.mem_map, List.mem_cons, List.not_mem_nil, or_false, List.mem_append] at hy; (obtain ⟨_, _, rfl⟩ := hy; rfl)); (refine app_ok ?_ (by kernel_rfl); (try simp only [List.length_append, List.length_map, List.length_cons, List.length_nil, List.length_take, List.length_drop]); omega)); intro _;
      apply exl_is; rfl; rfl; rfl; (apply g_assign; rfl);
      refine exl_nil ?_;
      refine ex_region ?_;
      apply exl_is; rfl; rfl; rfl; (apply g_add; rfl; rfl; rfl; exact ⟨by omega, by omega⟩);
      apply exl_is; rfl; rfl; rfl; (apply g_move; rfl);
      refine exl_nil ?_;
      simp only [thenA, blockA, roundA, noGotoA, retA, ↓reduceIte, Nat.reduceEqDiff];
      rotate_left
      (all_goals (repeat (rename BV _ _ => hbv; cases hbv)))
      all_goals (try (exfalso; first | (rename true = false => hx; cases hx; done) | (rename false = true => hx; cases hx; done)))
      have hcs : (colV val k i).map intC ++ [[.int .i64 (val k i)]] = (colV val k (i + 1)).map intC := by rw [← colV_succ, List.map_append]; rfl
      rename Value => v2
      refine ⟨(i + 1, v2, τ'), ⟨hi, hI'⟩, by simp only; omega, ?_⟩
      simp only
      rw [← hcs]
      exact (St.le_of (by repeat (first | exact trivial | refine ⟨rfl, ?_⟩)) (by repeat (first | exact List.Sublist.refl _ | apply List.Sublist.cons_cons | apply List.Sublist.cons)))
    · have hin : i = x.members.length := by omega
      subst hin
      refine ex_seq ?_;
      refine ex_region ?_;
      apply exl_isB; rfl; rfl; rfl; (apply g_binInt; rfl; rfl; rfl); intro _ _;
      refine exl_nilT ?_;
      refine ex_seq ?_;
      refine ex_cond rfl (fun h => ?_) (fun h => ?_) <;> ((first | (subst h; rename BV _ true => h0; have h := h0.eq; clear h0) | (subst h; rename BV _ false => h0; have h := h0.eq; clear h0) | skip); (have hp := h; try simp only [decide_eq_true_eq, decide_eq_false_iff_not, Bool.not_eq_true', Bool.not_eq_false', bne_iff_ne, beq_iff_eq, beq_eq_false_iff_ne, bne_eq_false_iff_eq, Int.not_lt, Int.not_le] at hp); (try (exfalso; first | omega | (cases hp; done))));
      refine ex_exit ?_;
      refine ex_seq ?_;
      refine ex_region ?_;
      apply exl_is; rfl; rfl; rfl; (apply g_move; rfl);
      apply exl_is; rfl; rfl; rfl; (apply g_move; rfl);
      refine exl_call rfl rfl rfl (g_yield rfl rfl (hy k τ v hk hIi)) ?_; rintro _ τ2 ⟨rfl, hI2⟩;
      apply exl_isB; rfl; rfl; rfl; (apply g_not; rfl); intro _ _;
      refine exl_nilT ?_;
      refine ex_cond rfl (fun h => ?_) (fun h => ?_) <;> ((first | (subst h; rename BV _ true => h0; have h := h0.eq; clear h0) | (subst h; rename BV _ false => h0; have h := h0.eq; clear h0) | skip); (have hp := h; try simp only [decide_eq_true_eq, decide_eq_false_iff_not, Bool.not_eq_true', Bool.not_eq_false', bne_iff_ne, beq_iff_eq, beq_eq_false_iff_ne, bne_eq_false_iff_eq, Int.not_lt, Int.not_le] at hp); (try (exfalso; first | omega | (cases hp; done))));
      refine ex_skip ?_;
      refine ex_region ?_;
      apply exl_is; rfl; rfl; rfl; (apply g_add; rfl; rfl; rfl; exact ⟨by omega, by omega⟩);
      apply exl_is; rfl; rfl; rfl; (apply g_move; rfl);
      refine exl_nil ?_;
      simp only [thenA, blockA, roundA, noGotoA, retA, ↓reduceIte, Nat.reduceEqDiff];
      rotate_left
      (all_goals (repeat (rename BV _ _ => hbv; cases hbv)))
      all_goals (try (exfalso; first | (rename true = false => hx; cases hx; done) | (rename false = true => hx; cases hx; done)))
      refine ⟨(k + 1, τ2), ⟨hk, hI2⟩, by simp only; omega, St.le_of (by repeat (first | exact trivial | refine ⟨rfl, ?_⟩)) (by repeat (first | exact List.Sublist.refl _ | apply List.Sublist.cons_cons | apply List.Sublist.cons))⟩
  · refine ex_seq ?_;
    refine ex_region ?_;
    apply exl_isB; rfl; rfl; rfl; (apply g_binInt; rfl; rfl; rfl); intro _ _;
    refine exl_nilT ?_;
    refine ex_seq ?_;
    refine ex_cond rfl (fun h => ?_) (fun h => ?_) <;> ((first | (subst h; rename BV _ true => h0; have h := h0.eq; clear h0) | (subst h; rename BV _ false => h0; have h := h0.eq; clear h0) | skip); (have hp := h; try simp only [decide_eq_true_eq, decide_eq_false_iff_not, Bool.not_eq_true', Bool.not_eq_false', bne_iff_ne, beq_iff_eq, beq_eq_false_iff_ne, bne_eq_false_iff_eq, Int.not_lt, Int.not_le] at hp); (try (exfalso; first | omega | (cases hp; done))));
    refine ex_exit ?_;
    simp only [thenA, blockA, roundA, noGotoA, retA, ↓reduceIte, Nat.reduceEqDiff];
    rotate_left
    (all_goals (repeat (rename BV _ _ => hbv; cases hbv)))
    all_goals (try (exfalso; first | (rename true = false => hx; cases hx; done) | (rename false = true => hx; cases hx; done)))
    refine ret_q .nil ((by repeat (first | exact Res.nil | (apply Res.cons; (first | (apply Res1.ofTmp; rfl) | (apply Res1.ofCell; rfl; rfl; (first | exact .e rfl | exact .p (by ((repeat (first | exact List.Mem.head _ | assumption | refine List.Mem.tail _ ?_)); done)) rfl | exact .r (by ((repeat (first | exact List.Mem.head _ | assumption | refine List.Mem.tail _ ?_)); done)) rfl)) | (apply Res1.ofAgg; rfl; rfl; decide; (first | exact .e rfl rfl | exact .p (by ((repeat (first | exact List.Mem.head _ | assumption | refine List.Mem.tail _ ?_)); done)) rfl rfl | exact .r (by ((repeat (first | exact List.Mem.head _ | assumption | refine List.Mem.tail _ ?_)); done)) rfl rfl))))))) (by repeat (first | exact List.Sublist.refl _ | apply List.Sublist.cons_cons | apply List.Sublist.cons)) ?_
    refine fin_done ?_
    have hkk : k = (hd x.members).length := by omega
    rw [← hkk]; exact hI

set_option maxRecDepth 10000 in
theorem periods_c (x : En) (g : Nat) (cap : List AV) (σ : List Ent) : SCall Try.prog 39 [.agg (enC x), .fn (.func g) [] cap] σ (fun r τ => ∃ b1 b2, r = .fn (.func 48) [] [.ptr b1 0, .ptr b2 0] ∧ τ = .cells b2 [.fn (.func g) [] cap] 49 :: .cells b1 (enC x) 24 :: σ) := by
  refine scall_of Try.func39 rfl (by simp) ?_
  refine ex_seq ?_;
  refine ex_region ?_;
  refine exl_box rfl rfl rfl (g_box rfl rfl) ?_; intro _;
  refine exl_box rfl rfl rfl (g_box rfl rfl) ?_; intro _;
  apply exl_is; rfl; rfl; rfl; (apply g_assign; rfl);
  refine exl_nilT ?_;
  refine ex_seq ?_;
  refine ex_region ?_;
  apply exl_is; rfl; rfl; rfl; (apply g_makeFunc; rfl; rfl);
  apply exl_is; rfl; rfl; rfl; (apply g_assign; rfl);
  refine exl_nilT ?_;
  refine ex_ret ?_;
  simp only [thenA, blockA, roundA, noGotoA, retA, ↓reduceIte, Nat.reduceEqDiff];
  rotate_left
  (all_goals (repeat (rename BV _ _ => hbv; cases hbv)))
  all_goals (try (exfalso; first | (rename true = false => hx; cases hx; done) | (rename false = true => hx; cases hx; done)))
  refine ret_q .nil (.cons (.ofTmp rfl) .nil) (by repeat (first | exact List.Sublist.refl _ | apply List.Sublist.cons_cons | apply List.Sublist.cons)) ?_
  exact fin_done ⟨_, _, rfl, rfl⟩

set_option maxRecDepth 10000 in
theorem bounds1_c (a n : Int) (σ : List Ent) : SCall Try.prog 25 [.int .i64 a, .int .i64 n] σ (Is (.int .i64 n) σ) := by
  refine scall_of Try.func25 rfl (by simp) ?_
  refine ex_seq ?_;
  refine ex_region ?_;
  apply exl_is; rfl; rfl; rfl; (apply g_assign; rfl);
  refine exl_nilT ?_;
  refine ex_seq ?_;
  refine ex_region ?_;
  apply exl_is; rfl; rfl; rfl; (apply g_move; rfl);
  apply exl_is; rfl; rfl; rfl; (apply g_assign; rfl);
  refine exl_nilT ?_;
  refine ex_ret ?_;
  simp only [thenA, blockA, roundA, noGotoA, retA, ↓reduceIte, Nat.reduceEqDiff];
  rotate_left
  (all_goals (repeat (rename BV _ _ => hbv; cases hbv)))
  all_goals (try (exfalso; first | (rename true = false => hx; cases hx; done) | (rename false = true => hx; cases hx; done)))
  refine ret_is .nil (.cons (.ofTmp rfl) .nil) (by repeat (first | exact List.Sublist.refl _ | apply List.Sublist.cons_cons | apply List.Sublist.cons)) ?_
  rfl

set_option maxRecDepth 10000 in
theorem totals1_c {i : Nat} {n a : Int} {b : Nat} {t : TypeId} {v : Value} {l : List Int} {σ σ' : List Ent} (h1 : Ent.cells b [.slv v] t ∈ σ) (h2 : Ent.row v 3 1 (l.map intC) ∈ σ) (ha : l[i]? = some a) (hu : Upd σ (.row v 3 1 (l.map intC)) (.row v 3 1 ((l.set i (a + n)).map intC)) σ')
    (hr : -9223372036854775808 ≤ a + n ∧ a + n ≤ 9223372036854775807) (h1' : Ent.cells b [.slv v] t ∈ σ') (h2' : Ent.row v 3 1 ((l.set i (a + n)).map intC) ∈ σ') :
    SCall Try.prog 27 [.int .i64 i, .int .i64 n, .ptr b 0] σ (Is (.int .i64 (a + n)) σ') := by
  refine scall_of Try.func27 rfl (by simp) ?_
  have hi : i < l.length := (List.getElem?_eq_some_iff.1 ha).1
  have ha' : (l.set i (a + n))[i]? = some (a + n) := by simp [hi]
  have hset : (l.map intC).set i (intC (a + n)) = (l.set i (a + n)).map intC := by rw [List.map_set]
  rw [← hset] at hu
  have hgt : i < ((l.set i (a + n)).map intC).length := by simp [hi]
  refine ex_seq ?_;
  refine ex_region ?_;
  apply exl_is; rfl; rfl; rfl; (apply g_assign; rfl);
  refine exl_nilT ?_;
  refine ex_seq ?_;
  refine ex_region ?_;
  apply exl_is; rfl; rfl; rfl; (apply g_load1; rfl; rfl; (exact .p (by ((repeat (first | exact List.Mem.head _ | assumption | refine List.Mem.tail _ ?_)); done)) rfl));
  apply exl_is; rfl; rfl; rfl; (apply g_move; rfl);
  apply exl_is; rfl; rfl; rfl; (apply g_indexRow; rfl; rfl; exact (by ((repeat (first | exact List.Mem.head _ | assumption | refine List.Mem.tail _ ?_)); done)); rfl; (rfl); (simp only [List.length_map, List.length_set]; omega));
  apply exl_is; rfl; rfl; rfl; (apply g_load1; rfl; rfl; (exact .k0 (by ((repeat (first | exact List.Mem.head _ | assumption | refine List.Mem.tail _ ?_)); done)) (get_map (by assumption)) rfl));
  apply exl_is; rfl; rfl; rfl; (apply g_move; rfl);
  apply exl_is; rfl; rfl; rfl; (apply g_add; rfl; rfl; rfl; exact ⟨by omega, by omega⟩);
  apply exl_is; rfl; rfl; rfl; (apply g_indexRow; rfl; rfl; exact (by ((repeat (first | exact List.Mem.head _ | assumption | refine List.Mem.tail _ ?_)); done)); rfl; (rfl); (simp only [List.length_map, List.length_set]; omega));
  refine exl_do rfl rfl (g_setElem (k := i) (l := l.map intC) rfl rfl rfl rfl rfl rfl (by simp only [List.length_map]; exact hi) hu) ?_;
  refine exl_nilT ?_;
  refine ex_seq ?_;
  refine ex_region ?_;
  apply exl_is; rfl; rfl; rfl; (apply g_load1; rfl; rfl; (exact .p (by ((repeat (first | exact List.Mem.head _ | assumption | refine List.Mem.tail _ ?_)); done)) rfl));
  apply exl_is; rfl; rfl; rfl; (apply g_move; rfl);
  apply exl_is; rfl; rfl; rfl; (apply g_indexRow; rfl; rfl; exact (by ((repeat (first | exact List.Mem.head _ | assumption | refine List.Mem.tail _ ?_)); done)); rfl; (rfl); (assumption));
  apply exl_is; rfl; rfl; rfl; (apply g_load1; rfl; rfl; (exact .k0 (by ((repeat (first | exact List.Mem.head _ | assumption | refine List.Mem.tail _ ?_)); done)) (get_map (by assumption)) rfl));
  apply exl_is; rfl; rfl; rfl; (apply g_assign; rfl);
  refine exl_nilT ?_;
  refine ex_ret ?_;
  simp only [thenA, blockA, roundA, noGotoA, retA, ↓reduceIte, Nat.reduceEqDiff];
  rotate_left
  (all_goals (repeat (rename BV _ _ => hbv; cases hbv)))
  all_goals (try (exfalso; first | (rename true = false => hx; cases hx; done) | (rename false = true => hx; cases hx; done)))
  refine ret_is .nil (.cons (.ofTmp rfl) .nil) (by repeat (first | exact List.Sublist.refl _ | apply List.Sublist.cons_cons | apply List.Sublist.cons)) ?_
  rfl
end Go.Proofs.Ytimeggaignfhgaa
