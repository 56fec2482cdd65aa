/- Clocks: Difference. -/
import Derived.Test.YtobcnochlkdpaaaKqa
namespace Go.Proofs.Ytobcnochlkdpaaa
set_option linter.unusedSimpArgs false
set_option linter.unusedVariables false
theorem chgH_len2 (d : Int → Bool) : ∀ (P : List Int) (s : List Rg), (chgH d s P).length ≤ s.length + P.length
  | [], s => Nat.le_refl _
  | p :: P, s => by
    have h1 := chgH_len2 d P (chPut s ⟨p, p⟩ (d p))
    have h2 := chPut_len s ⟨p, p⟩ (d p)
    show (chgH d (chPut s ⟨p, p⟩ (d p)) P).length ≤ _
    rw [List.length_cons]; omega
/-- What the totals of two moments differ by in some hours. -/
def dT (l : List Fc) (key a b : Int) (y : Rg) : Int := totH (fun h => (sayL l key h b).v) (hoursR y) - totH (fun h => (sayL l key h a).v) (hoursR y)
def sumD (l : List Fc) (key a b : Int) (X : List Rg) : Int := (X.map (dT l key a b)).sum
def anyD (u : Int) (X : List Rg) : Bool := X.any fun y => decide (y.lo ≤ u) && decide (u ≤ y.hi)
theorem sumD_take {l : List Fc} {key a b : Int} {X : List Rg} {k : Nat} {y : Rg} (h : X[k]? = some y) : sumD l key a b (X.take (k + 1)) = sumD l key a b (X.take k) + dT l key a b y := by
  unfold sumD; rw [List.take_add_one, h]; simp
theorem anyD_take {u : Int} {X : List Rg} {k : Nat} {y : Rg} (h : X[k]? = some y) : anyD u (X.take (k + 1)) = (anyD u (X.take k) || (decide (y.lo ≤ u) && decide (u ≤ y.hi))) := by
  unfold anyD; rw [List.take_add_one, h]; simp
/-- What the law asks of what has changed. -/
structure DO (l : List Fc) (key a b : Int) (r : Rg) (X : List Rg) : Prop where
  len : X.length ≤ 4097
  each : ∀ (i : Nat) y, X[i]? = some y → y.lo ≤ y.hi ∧ r.lo ≤ y.lo ∧ y.hi ≤ r.hi ∧ difB l key a b y.lo = true ∧ difB l key a b y.hi = true ∧ askF l key [a] y = 0 ∧ askF l key [b] y = 0
  two : ∀ (i : Nat) y z, X[i]? = some y → X[i + 1]? = some z → y.hi + 1 < z.lo
  all : ∀ u, r.lo ≤ u → u ≤ r.hi → anyD u X = difB l key a b u
  sum : sumD l key a b X = dT l key a b r
theorem ask_one {l : List Fc} {key a b : Int} {r : Rg} (h : askF l key [a, b] r = 0) {y : Rg} (h1 : r.lo ≤ y.lo) (h2 : y.lo ≤ y.hi) (h3 : y.hi ≤ r.hi) : askF l key [a] y = 0 ∧ askF l key [b] y = 0 := by
  obtain ⟨hch, hrk, hlo, hhi, hle⟩ := ask_zero.1 h
  obtain ⟨hk, hs⟩ := rightK_iff.1 hrk
  refine ⟨ask_zero.2 ⟨hch, rightK_iff.2 ⟨hk, fun x hx => hs x ?_⟩, by omega, by omega, h2⟩, ask_zero.2 ⟨hch, rightK_iff.2 ⟨hk, fun x hx => hs x ?_⟩, by omega, by omega, h2⟩⟩
  · rw [List.mem_singleton] at hx; subst hx; simp
  · rw [List.mem_singleton] at hx; subst hx; simp
theorem tot_sum_map (X : List Rg) (g g' : Int → Int) : (X.map fun y => totH (fun h => g h - g' h) (hoursR y)).sum = (X.map fun y => totH g (hoursR y) - totH g' (hoursR y)).sum := by
  congr 1
  exact List.map_congr_left fun y _ => tot_sub g g' (hoursR y)
theorem diff_ok {l : List Fc} {key a b : Int} {r : Rg} (h : askF l key [a, b] r = 0) : ∃ X, chgF l key a b r = (X, 0) ∧ DO l key a b r X := by
  obtain ⟨hch, hrk, hlo, hhi, hle⟩ := ask_zero.1 h
  refine ⟨chgH (difB l key a b) [] (hoursR r), by unfold chgF; rw [if_neg (by rw [h]; simp)], ?_⟩
  have hw := chg_says (difB l key a b) (fun h => (sayL l key h b).v - (sayL l key h a).v) r.lo (r.hi + 1 - r.lo).toNat
  have hs := dif_sum (l := l) (key := key) (a := a) (b := b) (r := r)
  have hn := chgH_len2 (difB l key a b) (hoursR r) []
  unfold hoursR at hs hn ⊢
  rw [hours_length, List.length_nil] at hn
  generalize chgH (difB l key a b) [] (hours r.lo (r.hi + 1 - r.lo).toNat) = X at hw hs hn ⊢
  refine ⟨by omega, fun i y hy => ?_, hw.two, fun u h1 h2 => ?_, ?_⟩
  · obtain ⟨g1, g2, g3, g4⟩ := hw.each i y hy
    have hk := ask_one h g2 g1 (by omega)
    exact ⟨g1, g2, by omega, g4 _ (Int.le_refl _) g1, g4 _ g1 (Int.le_refl _), hk.1, hk.2⟩
  · rw [Bool.eq_iff_iff]
    unfold anyD
    rw [List.any_eq_true]
    constructor
    · rintro ⟨y, hy, hu⟩
      simp only [Bool.and_eq_true, decide_eq_true_eq] at hu
      obtain ⟨i, hi⟩ := List.getElem?_of_mem hy
      exact (hw.each i y hi).2.2.2 u hu.1 hu.2
    · intro hd
      obtain ⟨y, hy, h3, h4⟩ := hw.all u h1 (by omega) hd
      exact ⟨y, hy, by simp [h3, h4]⟩
  · unfold sumD dT hoursR
    rw [← hs]
    exact (tot_sum_map X _ _).symm
theorem dT_bound {l : List Fc} {key a b : Int} {y : Rg} (hr : ∀ x ∈ l, rightF x = true) (h0 : 0 ≤ y.lo) (h1 : y.lo ≤ y.hi) (h2 : y.hi ≤ 4096) : ∀ k : Int, -4399120252928 ≤ totH (fun h => (sayL l key h k).v) (hoursR y) ∧ totH (fun h => (sayL l key h k).v) (hoursR y) ≤ 4399120252928 := fun k => by
  have hb := tot_bound (g := fun h => (sayL l key h k).v) (L := hoursR y) (c := 1073741824) fun x _ => (say_bound hr key x k).1
  have hl : (hoursR y).length ≤ 4097 := by unfold hoursR; rw [hours_length]; omega
  omega
theorem sumD_bound {l : List Fc} {key a b : Int} {r : Rg} {X : List Rg} (hr : ∀ x ∈ l, rightF x = true) (h0 : 0 ≤ r.lo) (h2 : r.hi ≤ 4096) (hD : DO l key a b r X) : ∀ k : Nat, k ≤ X.length → -(8798240505856 * (k : Int)) ≤ sumD l key a b (X.take k) ∧ sumD l key a b (X.take k) ≤ 8798240505856 * (k : Int)
  | 0, _ => by simp [sumD]
  | k + 1, hk => by
    obtain ⟨y, hy⟩ : ∃ y, X[k]? = some y := ⟨_, List.getElem?_eq_getElem (by omega)⟩
    have ih := sumD_bound hr h0 h2 hD k (by omega)
    obtain ⟨g1, g2, g3, _⟩ := hD.each k y hy
    have hb := dT_bound (key := key) (a := a) (b := b) hr (y := y) (by omega) g1 (by omega)
    have h1 := hb a
    have h2 := hb b
    rw [sumD_take hy]
    unfold dT
    omega
theorem dif_of {l : List Fc} {key a b u : Int} : difB l key a b u = (!(decide ((sayL l key u a).v = (sayL l key u b).v)) || !(decide ((sayL l key u a).k = (sayL l key u b).k))) := by
  unfold difB
  generalize sayL l key u a = p
  generalize sayL l key u b = q
  obtain ⟨p1, p2⟩ := p
  obtain ⟨q1, q2⟩ := q
  simp only [An.mk.injEq]
  by_cases h1 : p1 = q1 <;> by_cases h2 : p2 = q2 <;> simp [h1, h2]
set_option maxHeartbeats 4000000 in
set_option maxRecDepth 10000 in
theorem differ_c (l : List Fc) (key a b u : Int) (r : Rg) (ha : askF l key [a] r = 0) (hb : askF l key [b] r = 0) (h0 : 0 ≤ u) (h1 : u ≤ 4096) (b6 b7 b8 b9 : Nat) (t6 t7 t8 t9 : TypeId) (σ : List Ent)
    (m6 : Ent.cells b6 [fcs l] t6 ∈ σ) (m7 : Ent.cells b7 [.int .i64 key] t7 ∈ σ) (m8 : Ent.cells b8 [.int .i64 a] t8 ∈ σ) (m9 : Ent.cells b9 [.int .i64 b] t9 ∈ σ) :
    SCall Try.prog 26 ([.int .i64 u] ++ [.ptr b6 0, .ptr b7 0, .ptr b8 0, .ptr b9 0]) σ (Is (.bool (difB l key a b u)) σ) := by
  refine scall_of Try.func26 rfl (by simp) ?_
  have c0 := at_c l key u a
  have c1 := at_c l key u b
  rw [at_ok ha h0 h1] at c0
  rw [at_ok hb h0 h1] at c1
  rw [dif_of]
  generalize sayL l key u a = p at c0 ⊢
  generalize sayL l key u b = q at c1 ⊢
  obtain ⟨p1, p2⟩ := p
  obtain ⟨q1, q2⟩ := q
  dsimp only at c0 c1 ⊢
  clear ha hb
  refine ex_seq ?_;
  refine ex_region ?_;
  apply exl_is; rfl; rfl; rfl; (apply g_assign; rfl);
  refine exl_nilT ?_;
  refine ex_seq ?_;
  refine ex_region ?_;
  apply exl_is; rfl; rfl; rfl; (apply g_load1; rfl; rfl; (exact .p (by ((repeat (first | exact List.Mem.head _ | refine List.Mem.tail _ ?_ | assumption)); done)) rfl));
  apply exl_is; rfl; rfl; rfl; (apply g_load1; rfl; rfl; (exact .p (by ((repeat (first | exact List.Mem.head _ | refine List.Mem.tail _ ?_ | assumption)); done)) rfl));
  apply exl_is; rfl; rfl; rfl; (apply g_move; rfl);
  apply exl_is; rfl; rfl; rfl; (apply g_load1; rfl; rfl; (exact .p (by ((repeat (first | exact List.Mem.head _ | refine List.Mem.tail _ ?_ | assumption)); done)) rfl));
  apply exl_is; rfl; rfl; rfl; (refine g_call rfl rfl (enters_b (by kernel_rfl)) ?_; exact c0 _);
  apply exl_is; rfl; rfl; rfl; (apply g_move; rfl);
  apply exl_is; rfl; rfl; rfl; (apply g_extract; rfl; rfl);
  apply exl_is; rfl; rfl; rfl; (apply g_extract; rfl; rfl);
  apply exl_is; rfl; rfl; rfl; (apply g_extract; rfl; rfl);
  apply exl_is; rfl; rfl; rfl; (apply g_assign; rfl);
  apply exl_is; rfl; rfl; rfl; (apply g_assign; rfl);
  apply exl_is; rfl; rfl; rfl; (apply g_assign; rfl);
  refine exl_nilT ?_;
  refine ex_seq ?_;
  refine ex_region ?_;
  apply exl_is; rfl; rfl; rfl; (apply g_load1; rfl; rfl; (exact .p (by ((repeat (first | exact List.Mem.head _ | refine List.Mem.tail _ ?_ | assumption)); done)) rfl));
  apply exl_is; rfl; rfl; rfl; (apply g_load1; rfl; rfl; (exact .p (by ((repeat (first | exact List.Mem.head _ | refine List.Mem.tail _ ?_ | assumption)); done)) rfl));
  apply exl_is; rfl; rfl; rfl; (apply g_move; rfl);
  apply exl_is; rfl; rfl; rfl; (apply g_load1; rfl; rfl; (exact .p (by ((repeat (first | exact List.Mem.head _ | refine List.Mem.tail _ ?_ | assumption)); done)) rfl));
  apply exl_is; rfl; rfl; rfl; (refine g_call rfl rfl (enters_b (by kernel_rfl)) ?_; exact c1 _);
  apply exl_is; rfl; rfl; rfl; (apply g_move; rfl);
  apply exl_is; rfl; rfl; rfl; (apply g_extract; rfl; rfl);
  apply exl_is; rfl; rfl; rfl; (apply g_extract; rfl; rfl);
  apply exl_is; rfl; rfl; rfl; (apply g_extract; rfl; rfl);
  apply exl_is; rfl; rfl; rfl; (apply g_assign; rfl);
  apply exl_is; rfl; rfl; rfl; (apply g_assign; rfl);
  apply exl_is; rfl; rfl; rfl; (apply g_assign; rfl);
  refine exl_nilT ?_;
  refine ex_seq ?_;
  refine ex_region ?_;
  apply exl_is; rfl; rfl; rfl; (apply g_move; rfl);
  apply exl_isB; rfl; rfl; rfl; (apply g_binInt; rfl; rfl; rfl); intro _ _;
  apply exl_is; rfl; rfl; rfl; (apply g_move; rfl);
  refine exl_caseL rfl (fun h => ?_) (fun h => ?_) <;> ((first | (subst h; rename BV _ true => h0; have h := h0.eq; clear h0) | (subst h; rename BV _ false => h0; have h := h0.eq; clear h0) | skip); (have hp := h; try simp only [decide_eq_true_eq, decide_eq_false_iff_not, Bool.not_eq_true', Bool.not_eq_false', bne_iff_ne, beq_iff_eq, beq_eq_false_iff_ne, bne_eq_false_iff_eq, Int.not_lt, Int.not_le] at hp); (try (exfalso; first | omega | (cases hp; done))));
  apply exl_isW; rfl; (rfl); rfl; rfl; (apply g_move; rfl);
  apply exl_isBW; rfl; (rfl); rfl; rfl; (apply g_binInt; rfl; rfl; rfl); intro _ _;
  apply exl_is; rfl; rfl; rfl; (apply g_pick_t; rfl; (rfl); rfl);
  apply exl_is; rfl; rfl; rfl; (apply g_move; rfl);
  refine exl_caseL rfl (fun h => ?_) (fun h => ?_) <;> ((first | (subst h; rename BV _ true => h0; have h := h0.eq; clear h0) | (subst h; rename BV _ false => h0; have h := h0.eq; clear h0) | skip); (have hp := h; try simp only [decide_eq_true_eq, decide_eq_false_iff_not, Bool.not_eq_true', Bool.not_eq_false', bne_iff_ne, beq_iff_eq, beq_eq_false_iff_ne, bne_eq_false_iff_eq, Int.not_lt, Int.not_le] at hp); (try (exfalso; first | omega | (cases hp; done))));
  apply exl_isW; rfl; (rfl); rfl; rfl; (apply g_move; rfl);
  apply exl_isW; rfl; (rfl); rfl; rfl; (apply g_move; rfl);
  apply exl_isBW; rfl; (rfl); rfl; rfl; (apply g_binInt; rfl; rfl; rfl); intro _ _;
  apply exl_isW; rfl; (rfl); rfl; rfl; (apply g_move; rfl);
  refine exl_caseL rfl (fun h => ?_) (fun h => ?_) <;> ((first | (subst h; rename BV _ true => h0; have h := h0.eq; clear h0) | (subst h; rename BV _ false => h0; have h := h0.eq; clear h0) | skip); (have hp := h; try simp only [decide_eq_true_eq, decide_eq_false_iff_not, Bool.not_eq_true', Bool.not_eq_false', bne_iff_ne, beq_iff_eq, beq_eq_false_iff_ne, bne_eq_false_iff_eq, Int.not_lt, Int.not_le] at hp); (try (exfalso; first | omega | (cases hp; done))));
  refine exl_skipL rfl (by rfl) rfl rfl ?_;
  refine exl_skipL rfl (by rfl) rfl rfl ?_;
  refine exl_skipL rfl (by rfl) rfl rfl ?_;
  apply exl_isW; rfl; (rfl); rfl; rfl; (apply g_pick_t; rfl; (rfl); rfl);
  apply exl_is; rfl; rfl; rfl; (apply g_pick_t; rfl; (rfl); rfl);
  apply exl_is; rfl; rfl; rfl; (apply g_assign; rfl);
  refine exl_nilT ?_;
  refine ex_ret ?_;
  simp only [thenA, blockA, roundA, noGotoA, retA, ↓reduceIte, Nat.reduceEqDiff];
  rotate_left;
  apply exl_isW; rfl; (rfl); rfl; rfl; (apply g_move; rfl);
  apply exl_isW; rfl; (rfl); rfl; rfl; (apply g_move; rfl);
  apply exl_isBW; rfl; (rfl); rfl; rfl; (apply g_neqBool; rfl; rfl; rfl); intro _ _;
  apply exl_isW; rfl; (rfl); rfl; rfl; (apply g_pick_f; rfl; (rfl); rfl);
  apply exl_is; rfl; rfl; rfl; (apply g_pick_t; rfl; (rfl); rfl);
  apply exl_is; rfl; rfl; rfl; (apply g_assign; rfl);
  refine exl_nilT ?_;
  refine ex_ret ?_;
  simp only [thenA, blockA, roundA, noGotoA, retA, ↓reduceIte, Nat.reduceEqDiff];
  rotate_left
  (all_goals (repeat (rename BV _ _ => hbv; cases hbv)))
  all_goals (try (exfalso; first | (rename true = false => hx; cases hx; done) | (rename false = true => hx; cases hx; done)))
  all_goals
    refine ret_is .nil (.cons (.ofTmp rfl) .nil) (by repeat (first | exact List.Sublist.refl _ | apply List.Sublist.cons_cons | apply List.Sublist.cons)) (bool_eq ?_)
    clear c0 c1
    cases p2 <;> cases q2 <;> simp_all
end Go.Proofs.Ytobcnochlkdpaaa
