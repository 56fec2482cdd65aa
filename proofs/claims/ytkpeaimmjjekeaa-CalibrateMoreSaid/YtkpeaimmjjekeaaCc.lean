/- trials: what it yields; Fails, distances. -/
import Derived.Test.YtkpeaimmjjekeaaCb
import Derived.Test.YtkpeaimmjjekeaaSv
namespace Go.Proofs.Ytkpeaimmjjekeaa
set_option linter.unusedSimpArgs false
set_option linter.unusedVariables false

/-- A trial: its forecast, its period, its distance. -/
abbrev Tr := (Nat × Nat) × Int
def trC (t : Tr) : List AV := [.agg [.int .i64 t.1.1, .int .i64 t.1.2], .int .i64 t.2]
def dist (b : Rg) (s : Int) : Int := max (max 0 (b.1 - s)) (s - b.2)
def tr1 (i : Nat) (x : Pa) (n : Nat) : List Tr := (List.range n).map fun k => ((i, k), dist (x.bounds[k]?.getD (0, 0)) (x.seen[k]?.getD 0))
def trS (l : List Pa) (body : Int) (n : Nat) : List Tr := (List.range n).flatMap fun i => match l[i]? with
  | some x => if x.body = body then tr1 i x x.bounds.length else []
  | none => []
def trL (l : List Pa) (body : Int) : List Tr := trS l body l.length
theorem trS_succ (l : List Pa) (body : Int) (n : Nat) : trS l body (n + 1) = trS l body n ++ (match l[n]? with
  | some x => if x.body = body then tr1 n x x.bounds.length else []
  | none => []) := by simp [trS, List.range_succ, List.flatMap_append]
theorem trS_prefix (l : List Pa) (body : Int) : ∀ (m n : Nat), n ≤ m → ∃ r, trS l body m = trS l body n ++ r
  | 0, n, h => ⟨[], by rw [show n = 0 by omega]; simp⟩
  | m + 1, n, h => by
    by_cases e : n = m + 1
    · exact ⟨[], by rw [e]; simp⟩
    · obtain ⟨r, hr⟩ := trS_prefix l body m n (by omega)
      exact ⟨_, by rw [trS_succ, hr, List.append_assoc]⟩
theorem tr1_length (i : Nat) (x : Pa) (n : Nat) : (tr1 i x n).length = n := by simp [tr1]
theorem trS_at {l : List Pa} {body : Int} {i k : Nat} {x : Pa} {b : Rg} {s : Int} (hx : l[i]? = some x) (hb : x.body = body) (hk : x.bounds[k]? = some b) (hs : x.seen[k]? = some s) : (trL l body)[(trS l body i).length + k]? = some ((i, k), dist b s) := by
  have hi : i < l.length := (List.getElem?_eq_some_iff.1 hx).1
  have hkl : k < x.bounds.length := (List.getElem?_eq_some_iff.1 hk).1
  obtain ⟨r, hr⟩ := trS_prefix l body l.length (i + 1) hi
  unfold trL
  rw [hr, trS_succ, hx]
  simp only [hb, if_true]
  rw [List.append_assoc, List.getElem?_append_right (by omega), Nat.add_sub_cancel_left, List.getElem?_append_left (by rw [tr1_length]; exact hkl)]
  simp only [tr1, List.getElem?_map, List.getElem?_range hkl, Option.map_some, hk, hs, Option.getD_some]
theorem trS_in {l : List Pa} {body : Int} {i : Nat} {x : Pa} (hx : l[i]? = some x) (hb : x.body = body) : (trS l body (i + 1)).length = (trS l body i).length + x.bounds.length := by
  rw [trS_succ, hx]; simp only [hb, if_true, List.length_append, tr1_length]
theorem trS_out {l : List Pa} {body : Int} {i : Nat} {x : Pa} (hx : l[i]? = some x) (hb : ¬ x.body = body) : trS l body (i + 1) = trS l body i := by
  rw [trS_succ, hx]; simp only [hb, if_false, List.append_nil]

/-- All lists of the past are as long as they should be. -/
def fitP (l : List Pa) : Prop := ∀ x ∈ l, x.seen.length = x.bounds.length ∧ x.bounds.length ≤ 16 ∧ (∀ r ∈ x.bounds, 0 ≤ r.1 ∧ r.1 ≤ r.2 ∧ r.2 ≤ 1099511627776) ∧ ∀ n ∈ x.seen, 0 ≤ n ∧ n ≤ 1099511627776
set_option maxHeartbeats 4000000 in
set_option maxRecDepth 10000 in
theorem trials1_c {l : List Pa} {body : Int} {b1 b2 : Nat} {t1 t2 : TypeId} (hl : fitP l) (hn : l.length ≤ 1000) :
    Yields Try.prog 39 [] [.ptr b1 0, .ptr b2 0] ((trL l body).map trC) (fun σ => .cells b1 [pas l] t1 ∈ σ ∧ .cells b2 [.int .i64 body] t2 ∈ σ) := by
  intro y σ I Stop hC hy h0
  refine scall_of Try.func39 rfl (by simp) ?_
  obtain ⟨m1, m2⟩ := hC _ _ h0
  refine ex_seq ?_;
  refine ex_region ?_;
  apply exl_is; rfl; rfl; rfl; (apply g_load1; rfl; rfl; (exact .p (by ((repeat (first | exact List.Mem.head _ | assumption | refine List.Mem.tail _ ?_)); done)) rfl));
  apply exl_is; rfl; rfl; rfl; (apply g_len; rfl; rfl; (exact (List.length_map _).symm));
  apply exl_is; rfl; rfl; rfl; (apply g_move; rfl);
  refine exl_nilT ?_;
  refine ex_block ?_;
  rotate_left
  (all_goals (repeat (rename BV _ _ => hbv; cases hbv)))
  all_goals (try (exfalso; first | (rename true = false => hx; cases hx; done) | (rename false = true => hx; cases hx; done)))
  refine ex_loop (fun (z : Nat × List Ent) => (⟨[(0, .fn (.yield y) [] []), (1, .ptr b1 0), (2, .ptr b2 0), (8, pas l), (9, .int .i64 l.length), (10, .int .i64 z.1)], z.2, [], Try.f39.ntmps⟩ : St)) (fun z => z.1 ≤ l.length ∧ I (trS l body z.1).length z.2) (fun z => l.length - z.1) (0, σ) (⟨Nat.zero_le _, h0⟩) (St.le_of (by repeat (first | exact trivial | refine ⟨rfl, ?_⟩)) (by repeat (first | exact List.Sublist.refl _ | apply List.Sublist.cons_cons | apply List.Sublist.cons))) ?_
  intro z hI
  obtain ⟨i, τ⟩ := z
  obtain ⟨hi0, hI⟩ := hI
  dsimp only at hi0 hI ⊢
  clear m1 m2 h0
  obtain ⟨m1, m2⟩ := hC _ _ hI
  by_cases hi : i < l.length
  · obtain ⟨x, hx⟩ : ∃ x, l[i]? = some x := ⟨_, List.getElem?_eq_getElem hi⟩
    obtain ⟨f1, f2, f3, f4⟩ := hl x (List.mem_of_getElem? hx)
    by_cases hb : x.body = body
    · have hlen := trS_in hx hb
      subst hb
      refine ex_seq ?_;
      refine ex_region ?_;
      apply exl_isB; rfl; rfl; rfl; (apply g_binInt; rfl; rfl; rfl); intro _ _;
      refine exl_nilT ?_;
      refine ex_seq ?_;
      refine ex_cond rfl (fun h => ?_) (fun h => ?_) <;> ((first | (subst h; rename BV _ true => h0; have h := h0.eq; clear h0) | (subst h; rename BV _ false => h0; have h := h0.eq; clear h0) | skip); (have hp := h; try simp only [decide_eq_true_eq, decide_eq_false_iff_not, Bool.not_eq_true', Bool.not_eq_false', bne_iff_ne, beq_iff_eq, beq_eq_false_iff_ne, bne_eq_false_iff_eq, Int.not_lt, Int.not_le] at hp); (try (exfalso; first | omega | (cases hp; done))));
      refine ex_skip ?_;
      refine ex_seq ?_;
      refine ex_block ?_;
      refine ex_seq ?_;
      refine ex_region ?_;
      apply exl_is; rfl; rfl; rfl; (apply g_move; rfl);
      apply exl_is; rfl; rfl; rfl; (apply g_indexDl; rfl; rfl; rfl; (rfl); (exact get_map (by assumption)));
      apply exl_is; rfl; rfl; rfl; (apply g_loadAgg; rfl; decide; rfl; (exact .e rfl rfl));
      refine exl_box rfl rfl rfl (g_alloc rfl) ?_; intro _;
      apply exl_is; rfl; rfl; rfl; (apply g_assign; rfl);
      apply exl_do; rfl; rfl; (apply g_store'; rfl; rfl; rfl; (exact Upd.here); (simp only [setL, List.set_cons_zero, List.set_cons_succ, AV.cells]; rfl); rfl; rfl; rfl; exact Nat.le_of_ble_eq_true rfl);
      refine exl_nilT ?_;
      refine ex_seq ?_;
      refine ex_seq ?_;
      refine ex_region ?_;
      apply exl_is; rfl; rfl; rfl; (apply g_fieldAddr; rfl; rfl; rfl);
      apply exl_is; rfl; rfl; rfl; (apply g_load1; rfl; rfl; (exact .p (by ((repeat (first | exact List.Mem.head _ | assumption | refine List.Mem.tail _ ?_)); done)) rfl));
      apply exl_is; rfl; rfl; rfl; (apply g_load1; rfl; rfl; (exact .p (by ((repeat (first | exact List.Mem.head _ | assumption | refine List.Mem.tail _ ?_)); done)) rfl));
      apply exl_isB; rfl; rfl; rfl; (apply g_binInt; rfl; rfl; rfl); intro _ _;
      refine exl_nilT ?_;
      refine ex_cond rfl (fun h => ?_) (fun h => ?_) <;> ((first | (subst h; rename BV _ true => h0; have h := h0.eq; clear h0) | (subst h; rename BV _ false => h0; have h := h0.eq; clear h0) | skip); (have hp := h; try simp only [decide_eq_true_eq, decide_eq_false_iff_not, Bool.not_eq_true', Bool.not_eq_false', bne_iff_ne, beq_iff_eq, beq_eq_false_iff_ne, bne_eq_false_iff_eq, Int.not_lt, Int.not_le] at hp); (try (exfalso; first | omega | (cases hp; done))));
      refine ex_skip ?_;
      refine ex_seq ?_;
      refine ex_region ?_;
      apply exl_is; rfl; rfl; rfl; (apply g_fieldAddr; rfl; rfl; rfl);
      apply exl_is; rfl; rfl; rfl; (apply g_load1; rfl; rfl; (exact .p (by ((repeat (first | exact List.Mem.head _ | assumption | refine List.Mem.tail _ ?_)); done)) rfl));
      apply exl_is; rfl; rfl; rfl; (apply g_len; rfl; rfl; (exact (List.length_map _).symm));
      apply exl_is; rfl; rfl; rfl; (apply g_move; rfl);
      refine exl_nilT ?_;
      refine ex_block ?_;
      rotate_left
      (all_goals (repeat (rename BV _ _ => hbv; cases hbv)))
      all_goals (try (exfalso; first | (rename true = false => hx; cases hx; done) | (rename false = true => hx; cases hx; done)))
      rename Nat => b3
      clear m1 m2
      refine ex_loop (fun (z : Nat × List Ent) => (⟨[(0, .fn (.yield y) [] []), (1, .ptr b1 0), (2, .ptr b2 0), (4, .int .i64 i), (5, .ptr b3 0), (8, pas l), (9, .int .i64 l.length), (10, .int .i64 i), (20, rgs x.bounds), (21, .int .i64 x.bounds.length), (22, .int .i64 z.1)], .cells b3 (paC x) 48 :: z.2, [], Try.f39.ntmps⟩ : St)) (fun z => z.1 ≤ x.bounds.length ∧ I ((trS l x.body i).length + z.1) z.2) (fun z => x.bounds.length - z.1) (0, τ) (⟨Nat.zero_le _, hI⟩) (St.le_of (by repeat (first | exact trivial | refine ⟨rfl, ?_⟩)) (by repeat (first | exact List.Sublist.refl _ | apply List.Sublist.cons_cons | apply List.Sublist.cons))) ?_
      intro z hI
      obtain ⟨k, τ⟩ := z
      obtain ⟨hk0, hI⟩ := hI
      dsimp only at hk0 hI ⊢
      by_cases hk : k < x.bounds.length
      · obtain ⟨b, hb⟩ : ∃ b, x.bounds[k]? = some b := ⟨_, List.getElem?_eq_getElem hk⟩
        obtain ⟨s, hs⟩ : ∃ s, x.seen[k]? = some s := ⟨_, List.getElem?_eq_getElem (by omega)⟩
        obtain ⟨q1, q2, q3⟩ := f3 b (List.mem_of_getElem? hb)
        obtain ⟨q4, q5⟩ := f4 s (List.mem_of_getElem? hs)
        have hat := trS_at hx rfl hb hs
        have hr := fun b4 => SRound.front [.cells b4 (rgC b) 50, .cells b3 (paC x) 48] (hy _ _ _ (by rw [List.getElem?_map, hat, Option.map_some]) hI)
        simp only [List.cons_append, List.nil_append] at hr
        clear hy hat hC hI
        refine ex_seq ?_;
        refine ex_region ?_;
        apply exl_isB; rfl; rfl; rfl; (apply g_binInt; rfl; rfl; rfl); intro _ _;
        refine exl_nilT ?_;
        refine ex_seq ?_;
        refine ex_cond rfl (fun h => ?_) (fun h => ?_) <;> ((first | (subst h; rename BV _ true => h0; have h := h0.eq; clear h0) | (subst h; rename BV _ false => h0; have h := h0.eq; clear h0) | skip); (have hp := h; try simp only [decide_eq_true_eq, decide_eq_false_iff_not, Bool.not_eq_true', Bool.not_eq_false', bne_iff_ne, beq_iff_eq, beq_eq_false_iff_ne, bne_eq_false_iff_eq, Int.not_lt, Int.not_le] at hp); (try (exfalso; first | omega | (cases hp; done))));
        refine ex_skip ?_;
        refine ex_seq ?_;
        refine ex_block ?_;
        refine ex_seq ?_;
        refine ex_region ?_;
        apply exl_is; rfl; rfl; rfl; (apply g_move; rfl);
        apply exl_is; rfl; rfl; rfl; (apply g_indexDl; rfl; rfl; rfl; (rfl); (exact get_map (by assumption)));
        apply exl_is; rfl; rfl; rfl; (apply g_loadAgg; rfl; decide; rfl; (exact .e rfl rfl));
        refine exl_box rfl rfl rfl (g_alloc rfl) ?_; intro _;
        apply exl_is; rfl; rfl; rfl; (apply g_assign; rfl);
        apply exl_do; rfl; rfl; (apply g_store'; rfl; rfl; rfl; (exact Upd.here); (simp only [setL, List.set_cons_zero, List.set_cons_succ, AV.cells]; rfl); rfl; rfl; rfl; exact Nat.le_of_ble_eq_true rfl);
        refine exl_nilT ?_;
        refine ex_seq ?_;
        rotate_left
        (all_goals (repeat (rename BV _ _ => hbv; cases hbv)))
        all_goals (try (exfalso; first | (rename true = false => hx; cases hx; done) | (rename false = true => hx; cases hx; done)))
        refine ex_drawLK anyK 21 [] rfl (by kernel_rfl) rfl ?_
        simp only [List.take_succ_cons, List.take_zero, List.drop_succ_cons, List.drop_zero]
        apply wl_is; rfl; rfl; rfl; (intro σ' hl; (apply g_move; rfl));
        apply wl_is; rfl; rfl; rfl; (intro σ' hl; (apply g_move; rfl));
        apply wl_is; rfl; rfl; rfl; (intro σ' hl; (apply g_move; rfl));
        apply wl_is; rfl; rfl; rfl; (intro σ' hl; (apply g_buildArr; rfl; rfl; rfl; rfl));
        apply wl_is; rfl; rfl; rfl; (intro σ' hl; (apply g_fieldAddr; rfl; rfl; rfl));
        apply wl_is; rfl; rfl; rfl; (intro σ' hl; (apply g_load1; rfl; rfl; (exact .p (hl _ (True.intro) (by ((repeat (first | exact List.Mem.head _ | assumption | refine List.Mem.tail _ ?_)); done))) rfl)));
        apply wl_is; rfl; rfl; rfl; (intro σ' hl; (apply g_fieldAddr; rfl; rfl; rfl));
        apply wl_is; rfl; rfl; rfl; (intro σ' hl; (apply g_load1; rfl; rfl; (exact .p (hl _ (True.intro) (by ((repeat (first | exact List.Mem.head _ | assumption | refine List.Mem.tail _ ?_)); done))) rfl)));
        apply wl_is; rfl; rfl; rfl; (intro σ' hl; (apply g_move; rfl));
        apply wl_is; rfl; rfl; rfl; (intro σ' hl; (apply g_indexDl; rfl; rfl; rfl; (rfl); (exact get_map (by assumption))));
        apply wl_is; rfl; rfl; rfl; (intro σ' hl; (apply g_load1; rfl; rfl; (exact .e rfl)));
        apply wl_is; rfl; rfl; rfl; (intro σ' hl; (apply g_sub; rfl; rfl; rfl; exact ⟨by omega, by omega⟩));
        apply wl_is; rfl; rfl; rfl; (intro σ' hl; (apply g_fieldAddr; rfl; rfl; rfl));
        apply wl_is; rfl; rfl; rfl; (intro σ' hl; (apply g_load1; rfl; rfl; (exact .p (hl _ (True.intro) (by ((repeat (first | exact List.Mem.head _ | assumption | refine List.Mem.tail _ ?_)); done))) rfl)));
        apply wl_is; rfl; rfl; rfl; (intro σ' hl; (apply g_move; rfl));
        apply wl_is; rfl; rfl; rfl; (intro σ' hl; (apply g_indexDl; rfl; rfl; rfl; (rfl); (exact get_map (by assumption))));
        apply wl_is; rfl; rfl; rfl; (intro σ' hl; (apply g_load1; rfl; rfl; (exact .e rfl)));
        apply wl_is; rfl; rfl; rfl; (intro σ' hl; (apply g_fieldAddr; rfl; rfl; rfl));
        apply wl_is; rfl; rfl; rfl; (intro σ' hl; (apply g_load1; rfl; rfl; (exact .p (hl _ (True.intro) (by ((repeat (first | exact List.Mem.head _ | assumption | refine List.Mem.tail _ ?_)); done))) rfl)));
        apply wl_is; rfl; rfl; rfl; (intro σ' hl; (apply g_sub; rfl; rfl; rfl; exact ⟨by omega, by omega⟩));
        apply wl_is; rfl; rfl; rfl; (intro σ' hl; (apply g_max3; rfl; rfl; rfl));
        refine wl_nil ?_;
        refine exl_call rfl rfl rfl (g_yield rfl rfl (hr _)) ?_; rintro _ _ ⟨τ2, rfl, (⟨rfl, hI2⟩ | ⟨rfl, hS⟩)⟩;
        apply exl_isB; rfl; rfl; rfl; (apply g_not; rfl); intro _ _;
        refine exl_nilT ?_;
        refine ex_cond rfl (fun h => ?_) (fun h => ?_) <;> ((first | (subst h; rename BV _ true => h0; have h := h0.eq; clear h0) | (subst h; rename BV _ false => h0; have h := h0.eq; clear h0) | skip); (have hp := h; try simp only [decide_eq_true_eq, decide_eq_false_iff_not, Bool.not_eq_true', Bool.not_eq_false', bne_iff_ne, beq_iff_eq, beq_eq_false_iff_ne, bne_eq_false_iff_eq, Int.not_lt, Int.not_le] at hp); (try (exfalso; first | omega | (cases hp; done))));
        refine ex_skip ?_;
        refine ex_region ?_;
        apply exl_is; rfl; rfl; rfl; (apply g_add; rfl; rfl; rfl; exact ⟨by omega, by omega⟩);
        apply exl_is; rfl; rfl; rfl; (apply g_move; rfl);
        refine exl_nil ?_;
        simp only [thenA, blockA, roundA, noGotoA, retA, ↓reduceIte, Nat.reduceEqDiff];
        rotate_left;
        apply exl_isB; rfl; rfl; rfl; (apply g_not; rfl); intro _ _;
        refine exl_nilT ?_;
        refine ex_cond rfl (fun h => ?_) (fun h => ?_) <;> ((first | (subst h; rename BV _ true => h0; have h := h0.eq; clear h0) | (subst h; rename BV _ false => h0; have h := h0.eq; clear h0) | skip); (have hp := h; try simp only [decide_eq_true_eq, decide_eq_false_iff_not, Bool.not_eq_true', Bool.not_eq_false', bne_iff_ne, beq_iff_eq, beq_eq_false_iff_ne, bne_eq_false_iff_eq, Int.not_lt, Int.not_le] at hp); (try (exfalso; first | omega | (cases hp; done))));
        refine ex_ret ?_;
        simp only [thenA, blockA, roundA, noGotoA, retA, ↓reduceIte, Nat.reduceEqDiff];
        rotate_left
        (all_goals (repeat (rename BV _ _ => hbv; cases hbv)))
        all_goals (try (exfalso; first | (rename true = false => hx; cases hx; done) | (rename false = true => hx; cases hx; done)))
        · refine ⟨(k + 1, τ2), ⟨hk, hI2⟩, by simp only; omega, (St.le_of (by repeat (first | exact trivial | refine ⟨rfl, ?_⟩)) (by repeat (first | exact List.Sublist.refl _ | apply List.Sublist.cons_cons | apply List.Sublist.cons)))⟩
        · refine ret_q (σ3 := τ2) .nil ((by repeat (first | exact Res.nil | (apply Res.cons; (first | (apply Res1.ofTmp; rfl) | (apply Res1.ofCell; rfl; rfl; (first | exact .e rfl | exact .p (by ((repeat (first | exact List.Mem.head _ | assumption | refine List.Mem.tail _ ?_)); done)) rfl | exact .r (by ((repeat (first | exact List.Mem.head _ | assumption | refine List.Mem.tail _ ?_)); done)) rfl)) | (apply Res1.ofAgg; rfl; rfl; decide; (first | exact .e rfl rfl | exact .p (by ((repeat (first | exact List.Mem.head _ | assumption | refine List.Mem.tail _ ?_)); done)) rfl rfl | exact .r (by ((repeat (first | exact List.Mem.head _ | assumption | refine List.Mem.tail _ ?_)); done)) rfl rfl))))))) (by repeat (first | exact List.Sublist.refl _ | apply List.Sublist.cons_cons | apply List.Sublist.cons)) ?_
          exact fin_done (.inr hS)
      · have hkb : k = x.bounds.length := by omega
        subst hkb
        refine ex_seq ?_;
        refine ex_region ?_;
        apply exl_isB; rfl; rfl; rfl; (apply g_binInt; rfl; rfl; rfl); intro _ _;
        refine exl_nilT ?_;
        refine ex_seq ?_;
        refine ex_cond rfl (fun h => ?_) (fun h => ?_) <;> ((first | (subst h; rename BV _ true => h0; have h := h0.eq; clear h0) | (subst h; rename BV _ false => h0; have h := h0.eq; clear h0) | skip); (have hp := h; try simp only [decide_eq_true_eq, decide_eq_false_iff_not, Bool.not_eq_true', Bool.not_eq_false', bne_iff_ne, beq_iff_eq, beq_eq_false_iff_ne, bne_eq_false_iff_eq, Int.not_lt, Int.not_le] at hp); (try (exfalso; first | omega | (cases hp; done))));
        refine ex_exit ?_;
        refine ex_region ?_;
        apply exl_is; rfl; rfl; rfl; (apply g_add; rfl; rfl; rfl; exact ⟨by omega, by omega⟩);
        apply exl_is; rfl; rfl; rfl; (apply g_move; rfl);
        refine exl_nil ?_;
        simp only [thenA, blockA, roundA, noGotoA, retA, ↓reduceIte, Nat.reduceEqDiff];
        rotate_left
        (all_goals (repeat (rename BV _ _ => hbv; cases hbv)))
        all_goals (try (exfalso; first | (rename true = false => hx; cases hx; done) | (rename false = true => hx; cases hx; done)))
        refine ⟨(i + 1, τ), ⟨hi, by rw [hlen]; exact hI⟩, by simp only; omega, (St.le_of (by repeat (first | exact trivial | refine ⟨rfl, ?_⟩)) (by repeat (first | exact List.Sublist.refl _ | apply List.Sublist.cons_cons | apply List.Sublist.cons)))⟩
    · have ho := trS_out hx hb
      refine ex_seq ?_;
      refine ex_region ?_;
      apply exl_isB; rfl; rfl; rfl; (apply g_binInt; rfl; rfl; rfl); intro _ _;
      refine exl_nilT ?_;
      refine ex_seq ?_;
      refine ex_cond rfl (fun h => ?_) (fun h => ?_) <;> ((first | (subst h; rename BV _ true => h0; have h := h0.eq; clear h0) | (subst h; rename BV _ false => h0; have h := h0.eq; clear h0) | skip); (have hp := h; try simp only [decide_eq_true_eq, decide_eq_false_iff_not, Bool.not_eq_true', Bool.not_eq_false', bne_iff_ne, beq_iff_eq, beq_eq_false_iff_ne, bne_eq_false_iff_eq, Int.not_lt, Int.not_le] at hp); (try (exfalso; first | omega | (cases hp; done))));
      refine ex_skip ?_;
      refine ex_seq ?_;
      refine ex_block ?_;
      refine ex_seq ?_;
      refine ex_region ?_;
      apply exl_is; rfl; rfl; rfl; (apply g_move; rfl);
      apply exl_is; rfl; rfl; rfl; (apply g_indexDl; rfl; rfl; rfl; (rfl); (exact get_map (by assumption)));
      apply exl_is; rfl; rfl; rfl; (apply g_loadAgg; rfl; decide; rfl; (exact .e rfl rfl));
      refine exl_box rfl rfl rfl (g_alloc rfl) ?_; intro _;
      apply exl_is; rfl; rfl; rfl; (apply g_assign; rfl);
      apply exl_do; rfl; rfl; (apply g_store'; rfl; rfl; rfl; (exact Upd.here); (simp only [setL, List.set_cons_zero, List.set_cons_succ, AV.cells]; rfl); rfl; rfl; rfl; exact Nat.le_of_ble_eq_true rfl);
      refine exl_nilT ?_;
      refine ex_seq ?_;
      refine ex_seq ?_;
      refine ex_region ?_;
      apply exl_is; rfl; rfl; rfl; (apply g_fieldAddr; rfl; rfl; rfl);
      apply exl_is; rfl; rfl; rfl; (apply g_load1; rfl; rfl; (exact .p (by ((repeat (first | exact List.Mem.head _ | assumption | refine List.Mem.tail _ ?_)); done)) rfl));
      apply exl_is; rfl; rfl; rfl; (apply g_load1; rfl; rfl; (exact .p (by ((repeat (first | exact List.Mem.head _ | assumption | refine List.Mem.tail _ ?_)); done)) rfl));
      apply exl_isB; rfl; rfl; rfl; (apply g_binInt; rfl; rfl; rfl); intro _ _;
      refine exl_nilT ?_;
      refine ex_cond rfl (fun h => ?_) (fun h => ?_) <;> ((first | (subst h; rename BV _ true => h0; have h := h0.eq; clear h0) | (subst h; rename BV _ false => h0; have h := h0.eq; clear h0) | skip); (have hp := h; try simp only [decide_eq_true_eq, decide_eq_false_iff_not, Bool.not_eq_true', Bool.not_eq_false', bne_iff_ne, beq_iff_eq, beq_eq_false_iff_ne, bne_eq_false_iff_eq, Int.not_lt, Int.not_le] at hp); (try (exfalso; first | omega | (cases hp; done))));
      refine ex_exit ?_;
      refine ex_region ?_;
      apply exl_is; rfl; rfl; rfl; (apply g_add; rfl; rfl; rfl; exact ⟨by omega, by omega⟩);
      apply exl_is; rfl; rfl; rfl; (apply g_move; rfl);
      refine exl_nil ?_;
      simp only [thenA, blockA, roundA, noGotoA, retA, ↓reduceIte, Nat.reduceEqDiff];
      rotate_left
      (all_goals (repeat (rename BV _ _ => hbv; cases hbv)))
      all_goals (try (exfalso; first | (rename true = false => hx; cases hx; done) | (rename false = true => hx; cases hx; done)))
      refine ⟨(i + 1, τ), ⟨hi, by rw [ho]; exact hI⟩, by simp only; omega, (St.le_of (by repeat (first | exact trivial | refine ⟨rfl, ?_⟩)) (by repeat (first | exact List.Sublist.refl _ | apply List.Sublist.cons_cons | apply List.Sublist.cons)))⟩
  · refine ex_seq ?_;
    refine ex_region ?_;
    apply exl_isB; rfl; rfl; rfl; (apply g_binInt; rfl; rfl; rfl); intro _ _;
    refine exl_nilT ?_;
    refine ex_seq ?_;
    refine ex_cond rfl (fun h => ?_) (fun h => ?_) <;> ((first | (subst h; rename BV _ true => h0; have h := h0.eq; clear h0) | (subst h; rename BV _ false => h0; have h := h0.eq; clear h0) | skip); (have hp := h; try simp only [decide_eq_true_eq, decide_eq_false_iff_not, Bool.not_eq_true', Bool.not_eq_false', bne_iff_ne, beq_iff_eq, beq_eq_false_iff_ne, bne_eq_false_iff_eq, Int.not_lt, Int.not_le] at hp); (try (exfalso; first | omega | (cases hp; done))));
    refine ex_exit ?_;
    simp only [thenA, blockA, roundA, noGotoA, retA, ↓reduceIte, Nat.reduceEqDiff];
    rotate_left
    (all_goals (repeat (rename BV _ _ => hbv; cases hbv)))
    all_goals (try (exfalso; first | (rename true = false => hx; cases hx; done) | (rename false = true => hx; cases hx; done)))
    refine ret_q .nil ((by repeat (first | exact Res.nil | (apply Res.cons; (first | (apply Res1.ofTmp; rfl) | (apply Res1.ofCell; rfl; rfl; (first | exact .e rfl | exact .p (by ((repeat (first | exact List.Mem.head _ | assumption | refine List.Mem.tail _ ?_)); done)) rfl | exact .r (by ((repeat (first | exact List.Mem.head _ | assumption | refine List.Mem.tail _ ?_)); done)) rfl)) | (apply Res1.ofAgg; rfl; rfl; decide; (first | exact .e rfl rfl | exact .p (by ((repeat (first | exact List.Mem.head _ | assumption | refine List.Mem.tail _ ?_)); done)) rfl rfl | exact .r (by ((repeat (first | exact List.Mem.head _ | assumption | refine List.Mem.tail _ ?_)); done)) rfl rfl))))))) (by repeat (first | exact List.Sublist.refl _ | apply List.Sublist.cons_cons | apply List.Sublist.cons)) ?_
    exact fin_done (.inl (by rw [List.length_map, trL, show l.length = i by omega]; exact hI))
set_option maxRecDepth 10000 in
theorem trials_c (l : List Pa) (body : Int) (σ : List Ent) : SCall Try.prog 25 [pas l, .int .i64 body] σ (fun r τ => ∃ b1 b2, r = .fn (.func 39) [] [.ptr b1 0, .ptr b2 0] ∧ τ = .cells b2 [.int .i64 body] 3 :: .cells b1 [pas l] 22 :: σ) := by
  refine scall_of Try.func25 rfl (by simp) ?_
  refine ex_seq ?_;
  refine ex_region ?_;
  refine exl_box rfl rfl rfl (g_box rfl rfl) ?_; intro _;
  refine exl_box rfl rfl rfl (g_box rfl rfl) ?_; intro _;
  apply exl_is; rfl; rfl; rfl; (apply g_assign; rfl);
  refine exl_nilT ?_;
  refine ex_seq ?_;
  refine ex_region ?_;
  apply exl_is; rfl; rfl; rfl; (apply g_makeFunc; rfl; rfl);
  apply exl_is; rfl; rfl; rfl; (apply g_assign; rfl);
  refine exl_nilT ?_;
  refine ex_ret ?_;
  simp only [thenA, blockA, roundA, noGotoA, retA, ↓reduceIte, Nat.reduceEqDiff];
  rotate_left
  (all_goals (repeat (rename BV _ _ => hbv; cases hbv)))
  all_goals (try (exfalso; first | (rename true = false => hx; cases hx; done) | (rename false = true => hx; cases hx; done)))
  refine ret_q .nil (.cons (.ofTmp rfl) .nil) (by repeat (first | exact List.Sublist.refl _ | apply List.Sublist.cons_cons | apply List.Sublist.cons)) ?_
  exact fin_done ⟨_, _, rfl, rfl⟩
theorem checkP_fit {l : List Pa} (h : checkP l = 0) : fitP l ∧ (l.length : Int) ≤ 256 := by
  unfold checkP at h
  split at h
  · cases h
  rename_i h1
  split at h
  · cases h
  rename_i h2
  simp only [limP, Bool.or_eq_true, not_or, List.any_eq_true, decide_eq_true_eq, not_exists, not_and, Int.not_lt] at h1
  refine ⟨fun x hx => ?_, h1.1⟩
  simp only [List.any_eq_true, not_exists, not_and] at h2
  have h3 := h2 x hx
  simp only [badP, Bool.or_eq_true, not_or, Bool.not_eq_true', Bool.not_eq_false, bne_iff_ne, ne_eq, Decidable.not_not, rightR, inB, Bool.and_eq_true, decide_eq_true_eq, List.any_eq_true, not_exists, not_and, Bool.not_eq_true, List.any_eq_false] at h3
  obtain ⟨⟨⟨_, k1, k2⟩, k3⟩, k4⟩ := h3
  refine ⟨by omega, by omega, fun r hr => ?_, fun n hn => ?_⟩
  · have := k2 r hr
    simp only [rgBad, Bool.or_eq_false_iff, decide_eq_false_iff_not] at this
    omega
  · have := k4 n hn
    simp only [litB, inB, Bool.not_eq_false', Bool.and_eq_true, decide_eq_true_eq] at this
    omega
end Go.Proofs.Ytkpeaimmjjekeaa
