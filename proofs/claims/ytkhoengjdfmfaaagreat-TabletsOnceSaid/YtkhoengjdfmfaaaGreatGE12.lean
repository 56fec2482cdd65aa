/- Parts of the proof that belong together: Ui Tm Uj Syr Ul. -/
import Derived.Test.YtkhoengjdfmfaaaGreatGE04
import Derived.Test.YtkhoengjdfmfaaaGreatGE08
import Derived.Test.YtkhoengjdfmfaaaGreatGE11
set_option maxRecDepth 10000
set_option linter.unusedSimpArgs false
set_option linter.unusedVariables false
namespace Go.Proofs.YtkhoengjdfmfaaaGreat
theorem nil_len {α : Type} {l : List α} (h : l.length = 0) : l = [] := List.eq_nil_of_length_eq_zero h
theorem len_pos {α : Type} {l : List α} (h : 0 < l.length) : l ≠ [] := List.length_pos_iff.1 h
set_option maxHeartbeats 16000000 in
theorem sym_c : ∀ (N : Nat) (P X Y Q : List Ey) (a m b : Nat), P.length = a → a + X.length = m → m + Y.length = b → X ≠ [] → Y ≠ [] → X.Pairwise ltE → Y.Pairwise ltE → Left X Y → a + X.length + Y.length + Q.length ≤ 100000 → X.length + Y.length ≤ N → ∀ (v : Value) (σ : List Ent),
    SCall Tryz.prog symF [.slv v, .int .i64 a, .int .i64 m, .int .i64 b, entF'] (rowE v (P ++ X ++ Y ++ Q) :: σ) (fun r τ => r = .tup [] ∧ ∃ S, MergedE X Y S ∧ τ = rowE v (P ++ S ++ Q) :: σ) := by
  intro N
  induction N with
  | zero =>
    intro P X Y Q a m b ha hm hb hX0 hY0 hX hY hL hl hN
    have := List.length_pos_iff.2 hX0
    omega
  | succ N ih =>
    intro P X Y Q a m b ha hm hb hX0 hY0 hX hY hL hl hN v σ
    have hxp := List.length_pos_iff.2 hX0
    have hyp := List.length_pos_iff.2 hY0
    by_cases hx1 : X.length = 1
    · obtain ⟨x, rfl⟩ := List.length_eq_one_iff.1 hx1
      exact sym_left P Y Q x a m b ha (by simpa using hm) hb hY hL (by simp at *; omega) v σ
    by_cases hy1 : Y.length = 1
    · obtain ⟨y, rfl⟩ := List.length_eq_one_iff.1 hy1
      exact sym_right P X Q y a m b ha hm (by simpa using hb) (by omega) hX hL (by simp at *; omega) v σ
    refine scall_of Tryz.func103 rfl (by simp) ?_
    obtain ⟨mid, hmid⟩ : ∃ mid, (a + b) / 2 = mid := ⟨_, rfl⟩
    obtain ⟨n, hn⟩ : ∃ n, mid + m = n := ⟨_, rfl⟩
    obtain ⟨pp, hpp⟩ : ∃ pp, n - 1 = pp := ⟨_, rfl⟩
    have hab2 : (a : Int) + (b : Int) = ((a + b : Nat) : Int) := by omega
    have hmz : (((a + b) / 2 : Nat) : Int) = (mid : Int) := by rw [hmid]
    have hnm1 : ¬ ((m : Int) - (a : Int) = 1) := by omega
    have hnm2 : ¬ ((b : Int) - (m : Int) = 1) := by omega
    obtain ⟨lo, hi, hlh⟩ : ∃ lo hi : Nat, (mid < m ∧ lo + b = n ∧ hi = mid) ∨ (m ≤ mid ∧ lo = a ∧ hi = m) := by
      by_cases h : mid < m
      · exact ⟨n - b, mid, .inl ⟨h, by omega, rfl⟩⟩
      · exact ⟨a, m, .inr ⟨by omega, rfl, rfl⟩⟩
    have hb1 : a ≤ lo ∧ lo ≤ hi ∧ hi ≤ m ∧ m + hi ≤ n ∧ n ≤ lo + b ∧ a < mid ∧ mid < b := by omega
    obtain ⟨L, hLd⟩ : ∃ L, P ++ X ++ Y ++ Q = L := ⟨_, rfl⟩
    have hLl : L.length = a + X.length + Y.length + Q.length := by rw [← hLd]; simp; omega
    have hLx : ∀ k c, X[k]? = some c → L[a + k]? = some c := fun k c h => by
      rw [← hLd, show P ++ X ++ Y ++ Q = P ++ (X ++ (Y ++ Q)) by simp]
      exact lk_app ha (lk_left h)
    have hLy : ∀ k c, Y[k]? = some c → L[m + k]? = some c := fun k c h => by
      rw [← hLd, show P ++ X ++ Y ++ Q = (P ++ X) ++ (Y ++ Q) by simp]
      exact lk_app (by simp; omega) (lk_left h)
    have hlm : (L.map entC).length = L.length := List.length_map _
    rw [hLd]
    clear hx1 hy1
    refine zX ?_; refine zX (zZ ?_); refine xMv ?_; refine xMv ?_; refine xSu ?_; refine xBi ?_; intro _ _; refine zY ?_; refine q_c (fun h h_k => ?_) (fun h h_k => ?_) <;> ((try subst h_k); (have hp := h; try simp only [q_n] at hp); (try (exfalso; first | omega | (cases hp; done))));
    refine zR ?_; refine zX ?_; refine zX (zZ ?_); refine xMv ?_; refine xMv ?_; refine xSu ?_; refine xBi ?_; intro _ _; refine zY ?_; refine q_c (fun h h_k => ?_) (fun h h_k => ?_) <;> ((try subst h_k); (have hp := h; try simp only [q_n] at hp); (try (exfalso; first | omega | (cases hp; done))));
    refine zR ?_; refine zX (zZ ?_); refine xMv ?_; refine xMv ?_; refine xAd ?_; apply zQ; rfl; rfl; rfl; (apply g_convU; rfl; rfl; rfl; exact ⟨by omega, by omega⟩); apply zQ; rfl; rfl; rfl; (apply g_halfU; rfl; rfl; rfl; exact hab2); apply zQ; rfl; rfl; rfl; (apply g_conv64; rfl; rfl; rfl; exact ⟨by omega, by omega⟩); refine xAs ?_; refine zY ?_; refine zX (zZ ?_); refine xMv ?_; refine xMv ?_; refine xAd ?_; refine xAs ?_; refine zY ?_; refine zX (zZ ?_); refine xAs ?_; refine xAs ?_; refine zY ?_; refine zX ?_; refine zX (zZ ?_); refine xMv ?_; refine xMv ?_; refine xBi ?_; intro _ _; refine zY ?_; refine q_c (fun h h_k => ?_) (fun h h_k => ?_) <;> ((try subst h_k); (have hp := h; try simp only [q_n] at hp); (try (exfalso; first | omega | (cases hp; done))));
    refine zX (zZ ?_); refine xMv ?_; refine xMv ?_; refine xSu ?_; refine xAs ?_; refine zY ?_; refine zZ ?_; refine xMv ?_; refine xAs ?_; refine zY ?_; refine zX (zZ ?_); refine xMv ?_; refine xSu ?_; refine xAs ?_; refine zY ?_; refine zX ?_; refine zL ?_; rotate_left; refine zX (zZ ?_); refine xMv ?_; refine xAs ?_; refine zY ?_; refine zZ ?_; refine xMv ?_; refine xAs ?_; refine zY ?_; refine zX (zZ ?_); refine xMv ?_; refine xSu ?_; refine xAs ?_; refine zY ?_; refine zX ?_; refine zL ?_; rotate_left
    (all_goals (repeat (rename BV _ _ => hbv; first | cases hbv | clear hbv)))
    all_goals (try (first | cases ‹true = false› | cases ‹false = true›))
    all_goals
      rw [hmz]
      refine ex_int (t := 19) (y := (n : Int)) rfl (by omega) ?_
      refine ex_int (t := 20) (y := (lo : Int)) rfl (by omega) ?_
      refine ex_int (t := 21) (y := (hi : Int)) rfl (by omega) ?_
      refine ex_int (t := 22) (y := (pp : Int)) rfl (by omega) ?_
      refine ex_loop (fun (z : Nat × Nat) => (⟨[(0, .slv v), (1, .int .i64 a), (2, .int .i64 m), (3, .int .i64 b), (4, entF'), (18, .int .i64 mid), (19, .int .i64 n), (22, .int .i64 pp), (20, .int .i64 z.1), (21, .int .i64 z.2)], rowE v L :: σ, [], Tryz.f103.ntmps⟩ : St)) (fun z => lo ≤ z.1 ∧ z.1 ≤ z.2 ∧ z.2 ≤ hi ∧ (∀ x y, lo < z.1 → L[z.1 - 1]? = some x → L[pp - (z.1 - 1)]? = some y → ¬ y.2.hour < x.2.hour) ∧ (∀ x y, z.2 < hi → L[z.2]? = some x → L[pp - z.2]? = some y → y.2.hour < x.2.hour)) (fun z => z.2 - z.1) (lo, hi) (⟨Nat.le_refl _, by dsimp only; omega, Nat.le_refl _, fun x y h => by dsimp only at h; omega, fun x y h => by dsimp only at h; omega⟩) (St.le_of (by repeat (first | exact trivial | refine ⟨rfl, ?_⟩)) (by repeat (first | exact q_r | apply q_q | apply q_k))) ?_
      intro z hI
      obtain ⟨i, j⟩ := z
      obtain ⟨hI1, hI2, hI3, hI4, hI5⟩ := hI
      dsimp only at hI1 hI2 hI3 hI4 hI5 ⊢
      by_cases hij : i < j
      · obtain ⟨q, hh⟩ : ∃ q, (i + j) / 2 = q := ⟨_, rfl⟩
        have hij2 : (i : Int) + (j : Int) = ((i + j : Nat) : Int) := by omega
        have hhz : (((i + j) / 2 : Nat) : Int) = (q : Int) := by rw [hh]
        have hqb : lo ≤ q ∧ q < hi := by omega
        obtain ⟨w, hw⟩ : ∃ w, pp - q = w := ⟨_, rfl⟩
        have hwz : (pp : Int) - (((i + j) / 2 : Nat) : Int) = (w : Int) := by omega
        obtain ⟨x, hx⟩ : ∃ x, X[q - a]? = some x := get_some (by omega)
        obtain ⟨y, hy⟩ : ∃ y, Y[w - m]? = some y := get_some (by omega)
        have hLq := hLx _ _ hx
        rw [show a + (q - a) = q by omega] at hLq
        have hLw := hLy _ _ hy
        rw [show m + (w - m) = w by omega] at hLw
        have hgx := ent_get hLq
        have hgy := ent_get hLw
        have lc := less_c y x
        obtain ⟨c, hc⟩ : ∃ c, cmpI y.2.hour x.2.hour = c := ⟨_, rfl⟩
        have hcl := @cmpI_lt y.2.hour x.2.hour
        rw [hc] at lc hcl
        by_cases hless : c < 0
        · have h5 : ∀ u z, q < hi → L[q]? = some u → L[pp - q]? = some z → z.2.hour < u.2.hour := fun u z _ hu hz => by
            rw [hLq] at hu
            rw [hw, hLw] at hz
            cases hu; cases hz; exact hcl.1 hless
          clear hI5 hcl hLy hLx hX hY hL hc hx hy hLq hLw ih hlh hLd
          refine zX ?_; refine zX (zZ ?_); refine xMv ?_; refine xMv ?_; refine xBi ?_; intro _ _; refine zY ?_; refine q_c (fun h h_k => ?_) (fun h h_k => ?_) <;> ((try subst h_k); (have hp := h; try simp only [q_n] at hp); (try (exfalso; first | omega | (cases hp; done))));
          refine zR ?_; refine zL ?_; refine zX (zZ ?_); refine xMv ?_; refine xMv ?_; refine xAd ?_; apply zQ; rfl; rfl; rfl; (apply g_convU; rfl; rfl; rfl; exact ⟨by omega, by omega⟩); apply zQ; rfl; rfl; rfl; (apply g_halfU; rfl; rfl; rfl; exact hij2); apply zQ; rfl; rfl; rfl; (apply g_conv64; rfl; rfl; rfl; exact ⟨by omega, by omega⟩); refine xAs ?_; refine zY ?_; refine zX ?_; refine ex_drawC rfl rfl (by kernel_rfl) rfl ?_; refine ex_drawQ rfl (by kernel_rfl) rfl ?_; refine wMv ?_; refine wMv ?_; refine wMv ?_; refine wMv ?_; apply wl_is; rfl; rfl; rfl; (intro σ' hl; (apply g_sub; rfl; rfl; rfl; exact ⟨by omega, by omega⟩)); apply wl_is; rfl; rfl; rfl; (intro σ' hl; (apply g_indexRow; rfl; rfl; exact hl _ (by (exact True.intro)) (by (repeat first | exact q_h | apply q_t | assumption); done); rfl; (assumption); (omega))); refine wLa ?_; refine wMv ?_; refine wMv ?_; apply wl_is; rfl; rfl; rfl; (intro σ' hl; (apply g_indexRow; rfl; rfl; exact hl _ (by (exact True.intro)) (by (repeat first | exact q_h | apply q_t | assumption); done); rfl; (assumption); (omega))); refine wLa ?_; apply wl_is; rfl; rfl; rfl; (intro σ' hl; (refine zK rfl rfl (zV (by kernel_rfl)) ?_; exact lc _)); refine wBi ?_; intro _ _; apply wl_isB; rfl; rfl; rfl; (intro σ' hl; (apply g_not; rfl)); intro _ _; refine wl_nil ?_; show EX _ _ _ _ _; refine q_c (fun h h_k => ?_) (fun h h_k => ?_) <;> ((try subst h_k); (have hp := h; try simp only [q_n] at hp); (try (exfalso; first | omega | (cases hp; done))));
          refine zZ ?_; refine xMv ?_; refine xAd ?_; refine xAs ?_; refine zN ?_; simp only [zP, zU, zT, zW, retA, ↓reduceIte, Nat.reduceEqDiff]; rotate_left; refine zZ ?_; refine xMv ?_; refine xAs ?_; refine zN ?_; simp only [zP, zU, zT, zW, retA, ↓reduceIte, Nat.reduceEqDiff]; rotate_left
          (all_goals (repeat (rename BV _ _ => hbv; first | cases hbv | clear hbv)))
          all_goals (try (first | cases ‹true = false› | cases ‹false = true›))
          · exfalso
            have hq : (!decide (c < 0)) = true := by assumption
            simp [hless] at hq
          · rw [hhz]
            refine ⟨(i, q), ⟨hI1, by dsimp only; omega, by dsimp only; omega, hI4, h5⟩, by dsimp only; omega, ?_⟩
            dsimp only
            exact q_le
        · have h4 : ∀ u z, lo < q + 1 → L[q + 1 - 1]? = some u → L[pp - (q + 1 - 1)]? = some z → ¬ z.2.hour < u.2.hour := fun u z _ hu hz => by
            rw [Nat.add_sub_cancel, hLq] at hu
            rw [Nat.add_sub_cancel, hw, hLw] at hz
            cases hu; cases hz; exact mt hcl.2 hless
          clear hI4 hcl hLy hLx hX hY hL hc hx hy hLq hLw ih hlh hLd
          refine zX ?_; refine zX (zZ ?_); refine xMv ?_; refine xMv ?_; refine xBi ?_; intro _ _; refine zY ?_; refine q_c (fun h h_k => ?_) (fun h h_k => ?_) <;> ((try subst h_k); (have hp := h; try simp only [q_n] at hp); (try (exfalso; first | omega | (cases hp; done))));
          refine zR ?_; refine zL ?_; refine zX (zZ ?_); refine xMv ?_; refine xMv ?_; refine xAd ?_; apply zQ; rfl; rfl; rfl; (apply g_convU; rfl; rfl; rfl; exact ⟨by omega, by omega⟩); apply zQ; rfl; rfl; rfl; (apply g_halfU; rfl; rfl; rfl; exact hij2); apply zQ; rfl; rfl; rfl; (apply g_conv64; rfl; rfl; rfl; exact ⟨by omega, by omega⟩); refine xAs ?_; refine zY ?_; refine zX ?_; refine ex_drawC rfl rfl (by kernel_rfl) rfl ?_; refine ex_drawQ rfl (by kernel_rfl) rfl ?_; refine wMv ?_; refine wMv ?_; refine wMv ?_; refine wMv ?_; apply wl_is; rfl; rfl; rfl; (intro σ' hl; (apply g_sub; rfl; rfl; rfl; exact ⟨by omega, by omega⟩)); apply wl_is; rfl; rfl; rfl; (intro σ' hl; (apply g_indexRow; rfl; rfl; exact hl _ (by (exact True.intro)) (by (repeat first | exact q_h | apply q_t | assumption); done); rfl; (assumption); (omega))); refine wLa ?_; refine wMv ?_; refine wMv ?_; apply wl_is; rfl; rfl; rfl; (intro σ' hl; (apply g_indexRow; rfl; rfl; exact hl _ (by (exact True.intro)) (by (repeat first | exact q_h | apply q_t | assumption); done); rfl; (assumption); (omega))); refine wLa ?_; apply wl_is; rfl; rfl; rfl; (intro σ' hl; (refine zK rfl rfl (zV (by kernel_rfl)) ?_; exact lc _)); refine wBi ?_; intro _ _; apply wl_isB; rfl; rfl; rfl; (intro σ' hl; (apply g_not; rfl)); intro _ _; refine wl_nil ?_; show EX _ _ _ _ _; refine q_c (fun h h_k => ?_) (fun h h_k => ?_) <;> ((try subst h_k); (have hp := h; try simp only [q_n] at hp); (try (exfalso; first | omega | (cases hp; done))));
          refine zZ ?_; refine xMv ?_; refine xAd ?_; refine xAs ?_; refine zN ?_; simp only [zP, zU, zT, zW, retA, ↓reduceIte, Nat.reduceEqDiff]; rotate_left; refine zZ ?_; refine xMv ?_; refine xAs ?_; refine zN ?_; simp only [zP, zU, zT, zW, retA, ↓reduceIte, Nat.reduceEqDiff]; rotate_left
          (all_goals (repeat (rename BV _ _ => hbv; first | cases hbv | clear hbv)))
          all_goals (try (first | cases ‹true = false› | cases ‹false = true›))
          · rw [hhz]
            refine ⟨(q + 1, j), ⟨by dsimp only; omega, by dsimp only; omega, hI3, h4, hI5⟩, by dsimp only; omega, ?_⟩
            dsimp only
            exact q_le
          · exfalso
            have hq : (!decide (c < 0)) = false := by assumption
            simp at hq
            exact hless hq
      · obtain rfl : i = j := by omega
        clear hij
        obtain ⟨en, hen⟩ : ∃ en, n - i = en := ⟨_, rfl⟩
        have henz : (n : Int) - (i : Int) = (en : Int) := by omega
        have hbn : a ≤ i ∧ i ≤ m ∧ m ≤ en ∧ en ≤ b ∧ i + en = mid + m := by omega
        obtain ⟨s, hs⟩ : ∃ s, i - a = s := ⟨_, rfl⟩
        obtain ⟨e, he⟩ : ∃ e, en - m = e := ⟨_, rfl⟩
        have hsX : s ≤ X.length := by omega
        have heY : e ≤ Y.length := by omega
        have hpar := sym_parts hX hY hL hsX heY (fun x y h0 hx hy => by
            have h1 := hLx _ _ hx
            have h2 := hLy _ _ hy
            have hyl := (List.getElem?_eq_some_iff.1 hy).1
            rw [show a + (s - 1) = i - 1 by omega] at h1
            rw [show m + e = pp - (i - 1) by omega] at h2
            exact hI4 x y (by omega) h1 h2) (fun x y h0 hx hy => by
            have h1 := hLx _ _ hx
            have h2 := hLy _ _ hy
            have hxl := (List.getElem?_eq_some_iff.1 hx).1
            rw [show a + s = i by omega] at h1
            rw [show m + (e - 1) = pp - i by omega] at h2
            exact hI5 x y (by omega) h1 h2)
        have hXe : X.take s ++ X.drop s = X := List.take_append_drop s X
        have hYe : Y.take e ++ Y.drop e = Y := List.take_append_drop e Y
        have hA := hX.take (i := s)
        have hB := hX.drop (i := s)
        have hC := hY.take (i := e)
        have hD := hY.drop (i := e)
        have hAl : (X.take s).length = i - a := by rw [List.length_take]; omega
        have hBl : (X.drop s).length = m - i := by rw [List.length_drop]; omega
        have hCl : (Y.take e).length = en - m := by rw [List.length_take]; omega
        have hDl : (Y.drop e).length = b - en := by rw [List.length_drop]; omega
        have hLA : Left (X.take s) (Y.take e) := left_sub hL (fun x hx => List.mem_of_mem_take hx) (fun y hy => List.mem_of_mem_take hy)
        have hLB : Left (X.drop s) (Y.drop e) := left_sub hL (fun x hx => List.mem_of_mem_drop hx) (fun y hy => List.mem_of_mem_drop hy)
        have hfin : ∀ S T, MergedE (X.take s) (Y.take e) S → MergedE (X.drop s) (Y.drop e) T → MergedE X Y (S ++ T) := fun S T h1 h2 => by
          have := merged_two h1 h2 hpar
          rwa [hXe, hYe] at this
        have hL0 : L = P ++ X.take s ++ X.drop s ++ Y.take e ++ (Y.drop e ++ Q) := by
          rw [← hLd]
          have h1 : P ++ X ++ Y ++ Q = P ++ (X.take s ++ X.drop s) ++ (Y.take e ++ Y.drop e) ++ Q := by rw [hXe, hYe]
          rw [h1]; simp only [List.append_assoc]
        clear hI4 hI5 hLx hLy hLd hpar hXe hYe hX hY hL hlh hX0 hY0
        generalize X.take s = A at *
        generalize X.drop s = B at *
        generalize Y.take e = C at *
        generalize Y.drop e = D at *
        have crot : i < m ∧ m < en → ∀ v σ, SCall Tryz.prog 137 [.slv v, .int .i64 i, .int .i64 m, .int .i64 en, entF'] (rowE v L :: σ) (fun r τ => r = .tup [] ∧ τ = rowE v (P ++ A ++ C ++ B ++ (D ++ Q)) :: σ) := fun h v σ => by
          have := rotate_c (P ++ A) B C (D ++ Q) i m en (by simp; omega) (by omega) (by omega) (len_pos (by omega)) (len_pos (by omega)) (by simp; omega) v σ
          rw [hL0]; exact this
        have c1 : a < i ∧ i < mid → ∀ v σ, SCall Tryz.prog symF [.slv v, .int .i64 a, .int .i64 i, .int .i64 mid, entF'] (rowE v (P ++ A ++ C ++ B ++ (D ++ Q)) :: σ) (fun r τ => r = .tup [] ∧ ∃ S, MergedE A C S ∧ τ = rowE v (P ++ S ++ (B ++ (D ++ Q))) :: σ) := fun h v σ => by
          have := ih P A C (B ++ (D ++ Q)) a i mid ha (by omega) (by omega) (len_pos (by omega)) (len_pos (by omega)) hA hC hLA (by simp; omega) (by omega) v σ
          rw [show P ++ A ++ C ++ B ++ (D ++ Q) = P ++ A ++ C ++ (B ++ (D ++ Q)) by simp]; exact this
        have c2 : ∀ S, MergedE A C S → mid < en ∧ en < b → ∀ v σ, SCall Tryz.prog symF [.slv v, .int .i64 mid, .int .i64 en, .int .i64 b, entF'] (rowE v (P ++ S ++ (B ++ (D ++ Q))) :: σ) (fun r τ => r = .tup [] ∧ ∃ T, MergedE B D T ∧ τ = rowE v (P ++ (S ++ T) ++ Q) :: σ) := fun S hS h v σ => by
          have hSl := hS.perm.length_eq
          rw [List.length_append] at hSl
          have := ih (P ++ S) B D Q mid en b (by simp; omega) (by omega) (by omega) (len_pos (by omega)) (len_pos (by omega)) hB hD hLB (by omega) (by omega) v σ
          rw [show P ++ S ++ (B ++ (D ++ Q)) = P ++ S ++ B ++ D ++ Q by simp]
          refine this.mono ?_
          rintro r τ ⟨h1, T, h2, h3⟩
          exact ⟨h1, T, h2, by rw [h3]; simp⟩
        have h01 : ¬ (i < m ∧ m < en) → L = P ++ A ++ C ++ B ++ (D ++ Q) := fun h => by
          rw [hL0]
          by_cases h' : i < m
          · have : C = [] := nil_len (by omega)
            subst this; simp
          · have : B = [] := nil_len (by omega)
            subst this; simp
        have hS0 : ¬ (a < i ∧ i < mid) → MergedE A C (A ++ C) := fun h => merged_triv hA hC (by
          by_cases h' : a < i
          · exact .inr (nil_len (by omega))
          · exact .inl (nil_len (by omega)))
        have hT0 : ¬ (mid < en ∧ en < b) → MergedE B D (B ++ D) := fun h => merged_triv hB hD (by
          by_cases h' : mid < en
          · exact .inr (nil_len (by omega))
          · exact .inl (nil_len (by omega)))
        have hF1 : P ++ A ++ C ++ B ++ (D ++ Q) = P ++ (A ++ C) ++ (B ++ (D ++ Q)) := by simp
        have hF2 : ∀ S, P ++ S ++ (B ++ (D ++ Q)) = P ++ (S ++ (B ++ D)) ++ Q := fun S => by simp
        clear ih hA hB hC hD hLA hLB hL0 hlm hAl hBl hCl hDl hLl
        generalize P ++ A ++ C ++ B ++ (D ++ Q) = L1 at *
        by_cases hr : i < m ∧ m < en
        all_goals first | (have hq := h01 hr; subst hq; clear h01) | clear h01
        all_goals by_cases h1 : a < i ∧ i < mid
        all_goals first | (have hS := hS0 h1; obtain ⟨S, hSd⟩ : ∃ S, S = A ++ C := ⟨_, rfl⟩; rw [← hSd] at hS hF1; clear hS0 hSd; subst hF1) | clear hF1 hS0
        all_goals by_cases h2 : mid < en ∧ en < b
        all_goals
          first
            | (refine zX ?_; refine zX (zZ ?_); refine xMv ?_; refine xMv ?_; refine xBi ?_; intro _ _; refine zY ?_; refine q_c (fun h h_k => ?_) (fun h h_k => ?_) <;> ((try subst h_k); (have hp := h; try simp only [q_n] at hp); (try (exfalso; first | omega | (cases hp; done)))); refine ex_exit ?_; refine zX (zZ ?_); refine xMv ?_; refine xMv ?_; refine xSu ?_; refine xAs ?_; refine zY ?_; refine zX ?_; refine zX (zZ ?_); refine xMv ?_; refine xMv ?_; refine xBi ?_; intro _ _; refine xMv ?_; refine q_d (fun h h_k => ?_) (fun h h_k => ?_) <;> ((try subst h_k); (have hp := h; try simp only [q_n] at hp); (try (exfalso; first | omega | (cases hp; done)))); refine yMv ?_; refine yMv ?_; refine yBi ?_; intro _ _; refine xPt ?_; refine zY ?_; refine q_c (fun h h_k => ?_) (fun h h_k => ?_) <;> ((try subst h_k); (have hp := h; try simp only [q_n] at hp); (try (exfalso; first | omega | (cases hp; done)))); refine zZ ?_; refine xMv ?_; refine xMv ?_; refine xMv ?_; refine xMv ?_; refine xMv ?_; refine exl_call rfl rfl rfl (zK rfl rfl (zV (by kernel_rfl)) (by rw [henz]; exact crot hr _ _)) ?_; rintro _ _ ⟨rfl, rfl⟩; refine zY ?_; refine zX ?_; refine zX (zZ ?_); refine xMv ?_; refine xMv ?_; refine xBi ?_; intro _ _; refine xMv ?_; refine q_d (fun h h_k => ?_) (fun h h_k => ?_) <;> ((try subst h_k); (have hp := h; try simp only [q_n] at hp); (try (exfalso; first | omega | (cases hp; done)))); refine yMv ?_; refine yMv ?_; refine yBi ?_; intro _ _; refine xPt ?_; refine zY ?_; refine q_c (fun h h_k => ?_) (fun h h_k => ?_) <;> ((try subst h_k); (have hp := h; try simp only [q_n] at hp); (try (exfalso; first | omega | (cases hp; done)))); refine zZ ?_; refine xMv ?_; refine xMv ?_; refine xMv ?_; refine xMv ?_; refine xMv ?_; refine exl_call rfl rfl rfl (zK rfl rfl (zV (by kernel_rfl)) (c1 h1 _ _)) ?_; rintro _ _ ⟨rfl, S, hS, rfl⟩; refine zY ?_; refine zX (zZ ?_); refine xMv ?_; refine xMv ?_; refine xBi ?_; intro _ _; refine xMv ?_; refine q_d (fun h h_k => ?_) (fun h h_k => ?_) <;> ((try subst h_k); (have hp := h; try simp only [q_n] at hp); (try (exfalso; first | omega | (cases hp; done)))); refine yMv ?_; refine yMv ?_; refine yBi ?_; intro _ _; refine xPt ?_; refine zY ?_; refine q_c (fun h h_k => ?_) (fun h h_k => ?_) <;> ((try subst h_k); (have hp := h; try simp only [q_n] at hp); (try (exfalso; first | omega | (cases hp; done)))); refine zZ ?_; refine xMv ?_; refine xMv ?_; refine xMv ?_; refine xMv ?_; refine xMv ?_; refine exl_call rfl rfl rfl (zK rfl rfl (zV (by kernel_rfl)) (by rw [henz]; exact c2 _ hS h2 _ _)) ?_; rintro _ _ ⟨rfl, T, hT, rfl⟩; refine zN ?_; simp only [zP, zU, zT, zW, retA, ↓reduceIte, Nat.reduceEqDiff]; rotate_left; (all_goals (repeat (rename BV _ _ => hbv; cases hbv))); (all_goals (try (first | cases ‹true = false› | cases ‹false = true›))))
            | (refine zX ?_; refine zX (zZ ?_); refine xMv ?_; refine xMv ?_; refine xBi ?_; intro _ _; refine zY ?_; refine q_c (fun h h_k => ?_) (fun h h_k => ?_) <;> ((try subst h_k); (have hp := h; try simp only [q_n] at hp); (try (exfalso; first | omega | (cases hp; done)))); refine ex_exit ?_; refine zX (zZ ?_); refine xMv ?_; refine xMv ?_; refine xSu ?_; refine xAs ?_; refine zY ?_; refine zX ?_; refine zX (zZ ?_); refine xMv ?_; refine xMv ?_; refine xBi ?_; intro _ _; refine xMv ?_; refine q_d (fun h h_k => ?_) (fun h h_k => ?_) <;> ((try subst h_k); (have hp := h; try simp only [q_n] at hp); (try (exfalso; first | omega | (cases hp; done)))); refine yMv ?_; refine yMv ?_; refine yBi ?_; intro _ _; refine xPt ?_; refine zY ?_; refine q_c (fun h h_k => ?_) (fun h h_k => ?_) <;> ((try subst h_k); (have hp := h; try simp only [q_n] at hp); (try (exfalso; first | omega | (cases hp; done)))); refine zZ ?_; refine xMv ?_; refine xMv ?_; refine xMv ?_; refine xMv ?_; refine xMv ?_; refine exl_call rfl rfl rfl (zK rfl rfl (zV (by kernel_rfl)) (by rw [henz]; exact crot hr _ _)) ?_; rintro _ _ ⟨rfl, rfl⟩; refine zY ?_; refine zX ?_; refine zX (zZ ?_); refine xMv ?_; refine xMv ?_; refine xBi ?_; intro _ _; refine xMv ?_; refine q_d (fun h h_k => ?_) (fun h h_k => ?_) <;> ((try subst h_k); (have hp := h; try simp only [q_n] at hp); (try (exfalso; first | omega | (cases hp; done)))); refine yMv ?_; refine yMv ?_; refine yBi ?_; intro _ _; refine xPt ?_; refine zY ?_; refine q_c (fun h h_k => ?_) (fun h h_k => ?_) <;> ((try subst h_k); (have hp := h; try simp only [q_n] at hp); (try (exfalso; first | omega | (cases hp; done)))); refine zZ ?_; refine xMv ?_; refine xMv ?_; refine xMv ?_; refine xMv ?_; refine xMv ?_; refine exl_call rfl rfl rfl (zK rfl rfl (zV (by kernel_rfl)) (c1 h1 _ _)) ?_; rintro _ _ ⟨rfl, S, hS, rfl⟩; refine zY ?_; refine zX (zZ ?_); refine xMv ?_; refine xMv ?_; refine xBi ?_; intro _ _; refine xMv ?_; refine q_d (fun h h_k => ?_) (fun h h_k => ?_) <;> ((try subst h_k); (have hp := h; try simp only [q_n] at hp); (try (exfalso; first | omega | (cases hp; done)))); refine yMv ?_; refine yMv ?_; refine yBi ?_; intro _ _; refine xPt ?_; refine zY ?_; refine q_c (fun h h_k => ?_) (fun h h_k => ?_) <;> ((try subst h_k); (have hp := h; try simp only [q_n] at hp); (try (exfalso; first | omega | (cases hp; done)))); refine zR ?_; simp only [zP, zU, zT, zW, retA, ↓reduceIte, Nat.reduceEqDiff]; rotate_left; (all_goals (repeat (rename BV _ _ => hbv; cases hbv))); (all_goals (try (first | cases ‹true = false› | cases ‹false = true›))))
            | (refine zX ?_; refine zX (zZ ?_); refine xMv ?_; refine xMv ?_; refine xBi ?_; intro _ _; refine zY ?_; refine q_c (fun h h_k => ?_) (fun h h_k => ?_) <;> ((try subst h_k); (have hp := h; try simp only [q_n] at hp); (try (exfalso; first | omega | (cases hp; done)))); refine ex_exit ?_; refine zX (zZ ?_); refine xMv ?_; refine xMv ?_; refine xSu ?_; refine xAs ?_; refine zY ?_; refine zX ?_; refine zX (zZ ?_); refine xMv ?_; refine xMv ?_; refine xBi ?_; intro _ _; refine xMv ?_; refine q_d (fun h h_k => ?_) (fun h h_k => ?_) <;> ((try subst h_k); (have hp := h; try simp only [q_n] at hp); (try (exfalso; first | omega | (cases hp; done)))); refine yMv ?_; refine yMv ?_; refine yBi ?_; intro _ _; refine xPt ?_; refine zY ?_; refine q_c (fun h h_k => ?_) (fun h h_k => ?_) <;> ((try subst h_k); (have hp := h; try simp only [q_n] at hp); (try (exfalso; first | omega | (cases hp; done)))); refine zZ ?_; refine xMv ?_; refine xMv ?_; refine xMv ?_; refine xMv ?_; refine xMv ?_; refine exl_call rfl rfl rfl (zK rfl rfl (zV (by kernel_rfl)) (by rw [henz]; exact crot hr _ _)) ?_; rintro _ _ ⟨rfl, rfl⟩; refine zY ?_; refine zX ?_; refine zX (zZ ?_); refine xMv ?_; refine xMv ?_; refine xBi ?_; intro _ _; refine xMv ?_; refine q_d (fun h h_k => ?_) (fun h h_k => ?_) <;> ((try subst h_k); (have hp := h; try simp only [q_n] at hp); (try (exfalso; first | omega | (cases hp; done)))); refine xSk ?_; refine xSk ?_; refine xSk ?_; refine xPf ?_; refine zY ?_; refine ex_cond_f rfl (by rfl) ?_; refine zR ?_; refine zX (zZ ?_); refine xMv ?_; refine xMv ?_; refine xBi ?_; intro _ _; refine xMv ?_; refine q_d (fun h h_k => ?_) (fun h h_k => ?_) <;> ((try subst h_k); (have hp := h; try simp only [q_n] at hp); (try (exfalso; first | omega | (cases hp; done)))); refine yMv ?_; refine yMv ?_; refine yBi ?_; intro _ _; refine xPt ?_; refine zY ?_; refine q_c (fun h h_k => ?_) (fun h h_k => ?_) <;> ((try subst h_k); (have hp := h; try simp only [q_n] at hp); (try (exfalso; first | omega | (cases hp; done)))); refine zZ ?_; refine xMv ?_; refine xMv ?_; refine xMv ?_; refine xMv ?_; refine xMv ?_; refine exl_call rfl rfl rfl (zK rfl rfl (zV (by kernel_rfl)) (by rw [henz]; exact c2 _ hS h2 _ _)) ?_; rintro _ _ ⟨rfl, T, hT, rfl⟩; refine zN ?_; simp only [zP, zU, zT, zW, retA, ↓reduceIte, Nat.reduceEqDiff]; rotate_left; (all_goals (repeat (rename BV _ _ => hbv; cases hbv))); (all_goals (try (first | cases ‹true = false› | cases ‹false = true›))))
            | (refine zX ?_; refine zX (zZ ?_); refine xMv ?_; refine xMv ?_; refine xBi ?_; intro _ _; refine zY ?_; refine q_c (fun h h_k => ?_) (fun h h_k => ?_) <;> ((try subst h_k); (have hp := h; try simp only [q_n] at hp); (try (exfalso; first | omega | (cases hp; done)))); refine ex_exit ?_; refine zX (zZ ?_); refine xMv ?_; refine xMv ?_; refine xSu ?_; refine xAs ?_; refine zY ?_; refine zX ?_; refine zX (zZ ?_); refine xMv ?_; refine xMv ?_; refine xBi ?_; intro _ _; refine xMv ?_; refine q_d (fun h h_k => ?_) (fun h h_k => ?_) <;> ((try subst h_k); (have hp := h; try simp only [q_n] at hp); (try (exfalso; first | omega | (cases hp; done)))); refine yMv ?_; refine yMv ?_; refine yBi ?_; intro _ _; refine xPt ?_; refine zY ?_; refine q_c (fun h h_k => ?_) (fun h h_k => ?_) <;> ((try subst h_k); (have hp := h; try simp only [q_n] at hp); (try (exfalso; first | omega | (cases hp; done)))); refine zZ ?_; refine xMv ?_; refine xMv ?_; refine xMv ?_; refine xMv ?_; refine xMv ?_; refine exl_call rfl rfl rfl (zK rfl rfl (zV (by kernel_rfl)) (by rw [henz]; exact crot hr _ _)) ?_; rintro _ _ ⟨rfl, rfl⟩; refine zY ?_; refine zX ?_; refine zX (zZ ?_); refine xMv ?_; refine xMv ?_; refine xBi ?_; intro _ _; refine xMv ?_; refine q_d (fun h h_k => ?_) (fun h h_k => ?_) <;> ((try subst h_k); (have hp := h; try simp only [q_n] at hp); (try (exfalso; first | omega | (cases hp; done)))); refine xSk ?_; refine xSk ?_; refine xSk ?_; refine xPf ?_; refine zY ?_; refine ex_cond_f rfl (by rfl) ?_; refine zR ?_; refine zX (zZ ?_); refine xMv ?_; refine xMv ?_; refine xBi ?_; intro _ _; refine xMv ?_; refine q_d (fun h h_k => ?_) (fun h h_k => ?_) <;> ((try subst h_k); (have hp := h; try simp only [q_n] at hp); (try (exfalso; first | omega | (cases hp; done)))); refine yMv ?_; refine yMv ?_; refine yBi ?_; intro _ _; refine xPt ?_; refine zY ?_; refine q_c (fun h h_k => ?_) (fun h h_k => ?_) <;> ((try subst h_k); (have hp := h; try simp only [q_n] at hp); (try (exfalso; first | omega | (cases hp; done)))); refine zR ?_; simp only [zP, zU, zT, zW, retA, ↓reduceIte, Nat.reduceEqDiff]; rotate_left; (all_goals (repeat (rename BV _ _ => hbv; cases hbv))); (all_goals (try (first | cases ‹true = false› | cases ‹false = true›))))
            | (refine zX ?_; refine zX (zZ ?_); refine xMv ?_; refine xMv ?_; refine xBi ?_; intro _ _; refine zY ?_; refine q_c (fun h h_k => ?_) (fun h h_k => ?_) <;> ((try subst h_k); (have hp := h; try simp only [q_n] at hp); (try (exfalso; first | omega | (cases hp; done)))); refine ex_exit ?_; refine zX (zZ ?_); refine xMv ?_; refine xMv ?_; refine xSu ?_; refine xAs ?_; refine zY ?_; refine zX ?_; refine zX (zZ ?_); refine xMv ?_; refine xMv ?_; refine xBi ?_; intro _ _; refine xMv ?_; refine q_d (fun h h_k => ?_) (fun h h_k => ?_) <;> ((try subst h_k); (have hp := h; try simp only [q_n] at hp); (try (exfalso; first | omega | (cases hp; done)))); refine yMv ?_; refine yMv ?_; refine yBi ?_; intro _ _; refine xPt ?_; refine zY ?_; refine q_c (fun h h_k => ?_) (fun h h_k => ?_) <;> ((try subst h_k); (have hp := h; try simp only [q_n] at hp); (try (exfalso; first | omega | (cases hp; done)))); refine zR ?_; refine zX ?_; refine zX (zZ ?_); refine xMv ?_; refine xMv ?_; refine xBi ?_; intro _ _; refine xMv ?_; refine q_d (fun h h_k => ?_) (fun h h_k => ?_) <;> ((try subst h_k); (have hp := h; try simp only [q_n] at hp); (try (exfalso; first | omega | (cases hp; done)))); refine yMv ?_; refine yMv ?_; refine yBi ?_; intro _ _; refine xPt ?_; refine zY ?_; refine q_c (fun h h_k => ?_) (fun h h_k => ?_) <;> ((try subst h_k); (have hp := h; try simp only [q_n] at hp); (try (exfalso; first | omega | (cases hp; done)))); refine zR ?_; refine zX (zZ ?_); refine xMv ?_; refine xMv ?_; refine xBi ?_; intro _ _; refine xMv ?_; refine q_d (fun h h_k => ?_) (fun h h_k => ?_) <;> ((try subst h_k); (have hp := h; try simp only [q_n] at hp); (try (exfalso; first | omega | (cases hp; done)))); refine yMv ?_; refine yMv ?_; refine yBi ?_; intro _ _; refine xPt ?_; refine zY ?_; refine q_c (fun h h_k => ?_) (fun h h_k => ?_) <;> ((try subst h_k); (have hp := h; try simp only [q_n] at hp); (try (exfalso; first | omega | (cases hp; done)))); refine zZ ?_; refine xMv ?_; refine xMv ?_; refine xMv ?_; refine xMv ?_; refine xMv ?_; refine exl_call rfl rfl rfl (zK rfl rfl (zV (by kernel_rfl)) (by rw [henz]; exact c2 _ hS h2 _ _)) ?_; rintro _ _ ⟨rfl, T, hT, rfl⟩; refine zN ?_; simp only [zP, zU, zT, zW, retA, ↓reduceIte, Nat.reduceEqDiff]; rotate_left; (all_goals (repeat (rename BV _ _ => hbv; cases hbv))); (all_goals (try (first | cases ‹true = false› | cases ‹false = true›))))
            | (refine zX ?_; refine zX (zZ ?_); refine xMv ?_; refine xMv ?_; refine xBi ?_; intro _ _; refine zY ?_; refine q_c (fun h h_k => ?_) (fun h h_k => ?_) <;> ((try subst h_k); (have hp := h; try simp only [q_n] at hp); (try (exfalso; first | omega | (cases hp; done)))); refine ex_exit ?_; refine zX (zZ ?_); refine xMv ?_; refine xMv ?_; refine xSu ?_; refine xAs ?_; refine zY ?_; refine zX ?_; refine zX (zZ ?_); refine xMv ?_; refine xMv ?_; refine xBi ?_; intro _ _; refine xMv ?_; refine q_d (fun h h_k => ?_) (fun h h_k => ?_) <;> ((try subst h_k); (have hp := h; try simp only [q_n] at hp); (try (exfalso; first | omega | (cases hp; done)))); refine xSk ?_; refine xSk ?_; refine xSk ?_; refine xPf ?_; refine zY ?_; refine ex_cond_f rfl (by rfl) ?_; refine zR ?_; refine zX ?_; refine zX (zZ ?_); refine xMv ?_; refine xMv ?_; refine xBi ?_; intro _ _; refine xMv ?_; refine q_d (fun h h_k => ?_) (fun h h_k => ?_) <;> ((try subst h_k); (have hp := h; try simp only [q_n] at hp); (try (exfalso; first | omega | (cases hp; done)))); refine yMv ?_; refine yMv ?_; refine yBi ?_; intro _ _; refine xPt ?_; refine zY ?_; refine q_c (fun h h_k => ?_) (fun h h_k => ?_) <;> ((try subst h_k); (have hp := h; try simp only [q_n] at hp); (try (exfalso; first | omega | (cases hp; done)))); refine zZ ?_; refine xMv ?_; refine xMv ?_; refine xMv ?_; refine xMv ?_; refine xMv ?_; refine exl_call rfl rfl rfl (zK rfl rfl (zV (by kernel_rfl)) (c1 h1 _ _)) ?_; rintro _ _ ⟨rfl, S, hS, rfl⟩; refine zY ?_; refine zX (zZ ?_); refine xMv ?_; refine xMv ?_; refine xBi ?_; intro _ _; refine xMv ?_; refine q_d (fun h h_k => ?_) (fun h h_k => ?_) <;> ((try subst h_k); (have hp := h; try simp only [q_n] at hp); (try (exfalso; first | omega | (cases hp; done)))); refine xSk ?_; refine xSk ?_; refine xSk ?_; refine xPf ?_; refine zY ?_; refine ex_cond_f rfl (by rfl) ?_; refine zR ?_; simp only [zP, zU, zT, zW, retA, ↓reduceIte, Nat.reduceEqDiff]; rotate_left; (all_goals (repeat (rename BV _ _ => hbv; cases hbv))); (all_goals (try (first | cases ‹true = false› | cases ‹false = true›))))
            | (refine zX ?_; refine zX (zZ ?_); refine xMv ?_; refine xMv ?_; refine xBi ?_; intro _ _; refine zY ?_; refine q_c (fun h h_k => ?_) (fun h h_k => ?_) <;> ((try subst h_k); (have hp := h; try simp only [q_n] at hp); (try (exfalso; first | omega | (cases hp; done)))); refine ex_exit ?_; refine zX (zZ ?_); refine xMv ?_; refine xMv ?_; refine xSu ?_; refine xAs ?_; refine zY ?_; refine zX ?_; refine zX (zZ ?_); refine xMv ?_; refine xMv ?_; refine xBi ?_; intro _ _; refine xMv ?_; refine q_d (fun h h_k => ?_) (fun h h_k => ?_) <;> ((try subst h_k); (have hp := h; try simp only [q_n] at hp); (try (exfalso; first | omega | (cases hp; done)))); refine xSk ?_; refine xSk ?_; refine xSk ?_; refine xPf ?_; refine zY ?_; refine ex_cond_f rfl (by rfl) ?_; refine zR ?_; refine zX ?_; refine zX (zZ ?_); refine xMv ?_; refine xMv ?_; refine xBi ?_; intro _ _; refine xMv ?_; refine q_d (fun h h_k => ?_) (fun h h_k => ?_) <;> ((try subst h_k); (have hp := h; try simp only [q_n] at hp); (try (exfalso; first | omega | (cases hp; done)))); refine yMv ?_; refine yMv ?_; refine yBi ?_; intro _ _; refine xPt ?_; refine zY ?_; refine q_c (fun h h_k => ?_) (fun h h_k => ?_) <;> ((try subst h_k); (have hp := h; try simp only [q_n] at hp); (try (exfalso; first | omega | (cases hp; done)))); refine zR ?_; refine zX (zZ ?_); refine xMv ?_; refine xMv ?_; refine xBi ?_; intro _ _; refine xMv ?_; refine q_d (fun h h_k => ?_) (fun h h_k => ?_) <;> ((try subst h_k); (have hp := h; try simp only [q_n] at hp); (try (exfalso; first | omega | (cases hp; done)))); refine xSk ?_; refine xSk ?_; refine xSk ?_; refine xPf ?_; refine zY ?_; refine ex_cond_f rfl (by rfl) ?_; refine zR ?_; simp only [zP, zU, zT, zW, retA, ↓reduceIte, Nat.reduceEqDiff]; rotate_left; (all_goals (repeat (rename BV _ _ => hbv; cases hbv))); (all_goals (try (first | cases ‹true = false› | cases ‹false = true›))))
            | (refine zX ?_; refine zX (zZ ?_); refine xMv ?_; refine xMv ?_; refine xBi ?_; intro _ _; refine zY ?_; refine q_c (fun h h_k => ?_) (fun h h_k => ?_) <;> ((try subst h_k); (have hp := h; try simp only [q_n] at hp); (try (exfalso; first | omega | (cases hp; done)))); (all_goals (repeat (rename BV _ _ => hbv; cases hbv))); (all_goals (try (first | cases ‹true = false› | cases ‹false = true›))))
          all_goals
            refine q_rq (σ3 := _ :: σ) ?_
            first
              | exact fin_done ⟨rfl, _, hfin _ _ hS hT, rfl⟩
              | exact fin_done ⟨rfl, _, hfin _ _ hS (hT0 h2), by rw [hF2]⟩
end Go.Proofs.YtkhoengjdfmfaaaGreat
namespace Go.Proofs.YtkhoengjdfmfaaaGreat
abbrev Bk := List Ey × List Ey
def GoodB (p : Bk) : Prop := p.2.Perm p.1 ∧ p.2.Pairwise ltE
def fsts (B : List Bk) : List Ey := (B.map (·.1)).flatten
def snds (B : List Bk) : List Ey := (B.map (·.2)).flatten
structure BlocksE (n : Nat) (B : List Bk) : Prop where
  good : ∀ p ∈ B, GoodB p
  size : ∀ p ∈ B, p.1.length = n
theorem fsts_app (A B : List Bk) : fsts (A ++ B) = fsts A ++ fsts B := by unfold fsts; simp
theorem snds_app (A B : List Bk) : snds (A ++ B) = snds A ++ snds B := by unfold snds; simp
theorem fsts_cons (p : Bk) (B : List Bk) : fsts (p :: B) = p.1 ++ fsts B := rfl
theorem snds_cons (p : Bk) (B : List Bk) : snds (p :: B) = p.2 ++ snds B := rfl
theorem BlocksE.app {n : Nat} {A B : List Bk} (h : BlocksE n A) (k : BlocksE n B) : BlocksE n (A ++ B) :=
  ⟨fun p hp => (List.mem_append.1 hp).elim (h.good p) (k.good p), fun p hp => (List.mem_append.1 hp).elim (h.size p) (k.size p)⟩
theorem BlocksE.one {n : Nat} {p : Bk} (h : GoodB p) (k : p.1.length = n) : BlocksE n [p] :=
  ⟨fun q hq => by rw [List.mem_singleton] at hq; subst hq; exact h, fun q hq => by rw [List.mem_singleton] at hq; subst hq; exact k⟩
theorem BlocksE.nil {n : Nat} : BlocksE n [] := ⟨by simp, by simp⟩
theorem fsts_len {n : Nat} : ∀ {B : List Bk}, BlocksE n B → (fsts B).length = B.length * n
  | [], _ => by simp [fsts]
  | p :: B, h => by
    rw [fsts_cons, List.length_append, h.size p (by simp), fsts_len (B := B) ⟨fun q hq => h.good q (by simp [hq]), fun q hq => h.size q (by simp [hq])⟩, List.length_cons, Nat.add_mul]; omega
theorem snds_perm : ∀ {B : List Bk}, (∀ p ∈ B, GoodB p) → (snds B).Perm (fsts B)
  | [], _ => List.Perm.refl _
  | p :: B, h => by
    rw [fsts_cons, snds_cons]
    exact ((h p (by simp)).1).append (snds_perm fun q hq => h q (by simp [hq]))
theorem snds_len {n : Nat} {B : List Bk} (h : BlocksE n B) : (snds B).length = B.length * n := by
  rw [(snds_perm h.good).length_eq, fsts_len h]
theorem left_of {X Y : List Ey} {A B C : List Ey} {X0 Y0 E : List Ey} (hE : E.Pairwise fun x y => x.1 < y.1) (he : E = A ++ X0 ++ B ++ Y0 ++ C) (hX : X.Perm X0) (hY : Y.Perm Y0) : Left X Y := by
  intro x hx y hy _
  rw [he] at hE
  have h1 := (List.pairwise_append.1 hE).1
  have h2 := (List.pairwise_append.1 h1).2.2
  exact h2 x (by simp [hX.mem_iff.1 hx]) y (hY.mem_iff.1 hy)
theorem merged_good {X Y : Bk} {S : List Ey} (hX : GoodB X) (hY : GoodB Y) (h : MergedE X.2 Y.2 S) : GoodB (X.1 ++ Y.1, S) :=
  ⟨h.perm.trans (hX.1.append hY.1), h.up⟩
theorem sorted_is {E S : List Ey} (hE : E.Pairwise fun x y => x.1 < y.1) (hp : S.Perm E) (hu : S.Pairwise ltE) : S = sortE E :=
  same_up ltE_asymm hu (sortE_up hE) fun y => by rw [hp.mem_iff, sortE_mem]
end Go.Proofs.YtkhoengjdfmfaaaGreat
namespace Go.Proofs.YtkhoengjdfmfaaaGreat
set_option maxHeartbeats 16000000 in
theorem stable_c (E : List Ey) (hE : E.Pairwise fun x y => x.1 < y.1) (hl : E.length ≤ 2000) (v : Value) (σ : List Ent) :
    SCall Tryz.prog 72 [.slv v, .int .i64 (E.length : Nat), entF'] (rowE v E :: σ) (fun r τ => r = .tup [] ∧ τ = rowE v (sortE E) :: σ) := by
  refine scall_of Tryz.func72 rfl (by simp) ?_
  obtain ⟨n, hn⟩ : ∃ n, E.length = n := ⟨_, rfl⟩
  rw [hn]
  refine zX (zZ ?_); refine xAs ?_; refine zY ?_; refine zX (zZ ?_); refine xMv ?_; refine xAs ?_; refine xAs ?_; refine zY ?_; refine zX ?_; refine zL ?_; rotate_left
  (all_goals (repeat (rename BV _ _ => hbv; first | cases hbv | clear hbv)))
  all_goals (try (first | cases ‹true = false› | cases ‹false = true›))
  refine ex_loop (fun (z : List Bk × List Ey) => (⟨[(0, .slv v), (1, .int .i64 n), (2, entF'), (6, .int .i64 20), (7, .int .i64 ((z.1.length * 20 : Nat) : Int)), (8, .int .i64 ((z.1.length * 20 + 20 : Nat) : Int))], rowE v (snds z.1 ++ z.2) :: σ, [], Tryz.f72.ntmps⟩ : St)) (fun z => E = fsts z.1 ++ z.2 ∧ BlocksE 20 z.1) (fun z => z.2.length) ([], E) (⟨rfl, BlocksE.nil⟩) (St.le_of (by repeat (first | exact trivial | refine ⟨rfl, ?_⟩)) (by repeat (first | exact q_r | apply q_q | apply q_k))) ?_
  intro z hI
  obtain ⟨B, R⟩ := z
  obtain ⟨hI1, hI2⟩ := hI
  dsimp only at hI1 hI2 ⊢
  have hfl := fsts_len hI2
  have hsl := snds_len hI2
  have hEl : n = B.length * 20 + R.length := by rw [← hn, hI1, List.length_append, hfl]
  have hRup : R.Pairwise fun x y => x.1 < y.1 := by rw [hI1] at hE; exact (List.pairwise_append.1 hE).2.1
  by_cases hb : B.length * 20 + 20 ≤ n
  · obtain ⟨X, R', hX, hX20⟩ : ∃ X R', R = X ++ R' ∧ X.length = 20 := ⟨R.take 20, R.drop 20, (List.take_append_drop _ _).symm, by rw [List.length_take]; omega⟩
    have hXup : X.Pairwise fun x y => x.1 < y.1 := by rw [hX] at hRup; exact (List.pairwise_append.1 hRup).1
    have hRl : R.length = 20 + R'.length := by rw [hX, List.length_append, hX20]
    have cc := insertion_c (snds B) X R' (B.length * 20) (B.length * 20 + 20) hsl (by omega) hXup (by simp; omega) v σ
    have hrow : snds B ++ R = snds B ++ X ++ R' := by rw [hX]; simp
    rw [hrow]
    have hnew : ∀ S, S.Perm X → S.Pairwise ltE → E = fsts (B ++ [(X, S)]) ++ R' ∧ BlocksE 20 (B ++ [(X, S)]) := fun S h1 h2 => ⟨by rw [hI1, hX, fsts_app]; simp [fsts], hI2.app (.one ⟨h1, h2⟩ hX20)⟩
    have hsn : ∀ S, snds B ++ S ++ R' = snds (B ++ [(X, S)]) ++ R' := fun S => by rw [snds_app]; simp [snds]
    have hz1 : ∀ S : List Ey, ((B ++ [(X, S)]).length * 20 : Nat) = B.length * 20 + 20 := fun S => by rw [List.length_append, List.length_singleton]; omega
    have hz2 : ((B.length * 20 + 20 : Nat) : Int) + 20 = ((B.length * 20 + 20 + 20 : Nat) : Int) := by omega
    clear hI1 hI2 hE hRup hXup hrow hX
    refine zX ?_; refine zX (zZ ?_); refine xMv ?_; refine xMv ?_; refine xBi ?_; intro _ _; refine zY ?_; refine q_c (fun h h_k => ?_) (fun h h_k => ?_) <;> ((try subst h_k); (have hp := h; try simp only [q_n] at hp); (try (exfalso; first | omega | (cases hp; done))));
    refine zR ?_; refine zL ?_; refine zX (zZ ?_); refine xMv ?_; refine xMv ?_; refine xMv ?_; refine xMv ?_; refine exl_call rfl rfl rfl (zK rfl rfl (zV (by kernel_rfl)) cc) ?_; rintro _ _ ⟨rfl, S, hS1, hS2, rfl⟩; refine zY ?_; refine zX (zZ ?_); refine xMv ?_; refine xAs ?_; refine zY ?_; refine zZ ?_; refine xMv ?_; refine xMv ?_; refine xAd ?_; refine xAs ?_; refine zN ?_; simp only [zP, zU, zT, zW, retA, ↓reduceIte, Nat.reduceEqDiff]; rotate_left
    (all_goals (repeat (rename BV _ _ => hbv; first | cases hbv | clear hbv)))
    all_goals (try (first | cases ‹true = false› | cases ‹false = true›))
    rw [hsn, hz2]
    refine ⟨(B ++ [(X, S)], R'), hnew S hS1 hS2, by dsimp only; omega, ?_⟩
    dsimp only
    rw [hz1]
    exact q_le
  · have cc := insertion_c (snds B) R [] (B.length * 20) n hsl (by omega) hRup (by simp; omega) v σ
    simp only [List.append_nil] at cc
    have hRl : R.length < 20 := by omega
    have hlast : ∀ S, S.Perm R → S.Pairwise ltE → E = fsts B ++ (R, S).1 ∧ GoodB (R, S) := fun S h1 h2 => ⟨hI1, h1, h2⟩
    clear hRup
    refine zX ?_; refine zX (zZ ?_); refine xMv ?_; refine xMv ?_; refine xBi ?_; intro _ _; refine zY ?_; refine q_c (fun h h_k => ?_) (fun h h_k => ?_) <;> ((try subst h_k); (have hp := h; try simp only [q_n] at hp); (try (exfalso; first | omega | (cases hp; done))));
    refine ex_exit ?_; refine zX (zZ ?_); refine xMv ?_; refine xMv ?_; refine xMv ?_; refine xMv ?_; refine exl_call rfl rfl rfl (zK rfl rfl (zV (by kernel_rfl)) cc) ?_; rintro _ _ ⟨rfl, S, hS1, hS2, rfl⟩; refine zY ?_; refine zL ?_; rotate_left
    (all_goals (repeat (rename BV _ _ => hbv; first | cases hbv | clear hbv)))
    all_goals (try (first | cases ‹true = false› | cases ‹false = true›))
    obtain ⟨hl1, hl2⟩ := hlast S hS1 hS2
    refine ex_loop (fun (z : List Bk × Bk × Nat) => (⟨[(0, .slv v), (1, .int .i64 n), (2, entF'), (6, .int .i64 z.2.2)], rowE v (snds z.1 ++ z.2.1.2) :: σ, [], Tryz.f72.ntmps⟩ : St)) (fun z => E = fsts z.1 ++ z.2.1.1 ∧ BlocksE z.2.2 z.1 ∧ GoodB z.2.1 ∧ z.2.1.1.length < z.2.2 ∧ z.2.2 ≤ 4000) (fun z => n - z.2.2) (B, (R, S), 20) (⟨hl1, hI2, hl2, hRl, by dsimp only; omega⟩) (St.le_of (by repeat (first | exact trivial | refine ⟨rfl, ?_⟩)) (by repeat (first | exact q_r | apply q_q | apply q_k))) ?_
    intro z hI
    clear cc hlast hl1 hl2 hS1 hS2 hRl hI1 hI2 hfl hsl hEl
    obtain ⟨B, o, bs⟩ := z
    obtain ⟨hI1, hI2, hI3, hI4, hI5⟩ := hI
    dsimp only at hI1 hI2 hI3 hI4 hI5 ⊢
    have hfl := fsts_len hI2
    have hEl : n = B.length * bs + o.1.length := by rw [← hn, hI1, List.length_append, hfl]
    by_cases hbn : bs < n
    · obtain ⟨d, hd⟩ : ∃ d, 2 * bs = d := ⟨_, rfl⟩
      have hdz : (2 : Int) * (bs : Int) = (d : Int) := by omega
      have hdz2 : (bs : Int) * 2 = (d : Int) := by omega
      refine zX ?_; refine zX (zZ ?_); refine xMv ?_; refine xMv ?_; refine xBi ?_; intro _ _; refine zY ?_; refine q_c (fun h h_k => ?_) (fun h h_k => ?_) <;> ((try subst h_k); (have hp := h; try simp only [q_n] at hp); (try (exfalso; first | omega | (cases hp; done))));
      refine zR ?_; refine zL ?_; refine zX (zZ ?_); refine xMv ?_; apply zQ; rfl; rfl; rfl; (apply g_mul; rfl; rfl; rfl; exact ⟨by omega, by omega⟩); refine xAs ?_; refine xAs ?_; refine zY ?_; refine zX ?_; refine zL ?_; rotate_left
      (all_goals (repeat (rename BV _ _ => hbv; first | cases hbv | clear hbv)))
      all_goals (try (first | cases ‹true = false› | cases ‹false = true›))
      rw [hdz]
      refine ex_int (t := 7) (y := ((([] : List Bk).length * d : Nat) : Int)) rfl (by simp) ?_
      refine ex_int (t := 8) (y := ((([] : List Bk).length * d + d : Nat) : Int)) rfl (by simp) ?_
      refine ex_loop (fun (w : List Bk × List Bk) => (⟨[(0, .slv v), (1, .int .i64 n), (2, entF'), (6, .int .i64 bs), (7, .int .i64 ((w.1.length * d : Nat) : Int)), (8, .int .i64 ((w.1.length * d + d : Nat) : Int))], rowE v (snds w.1 ++ snds w.2 ++ o.2) :: σ, [], Tryz.f72.ntmps⟩ : St)) (fun w => E = fsts w.1 ++ fsts w.2 ++ o.1 ∧ BlocksE d w.1 ∧ BlocksE bs w.2) (fun w => w.2.length) ([], B) (⟨hI1, BlocksE.nil, hI2⟩) (St.le_of (by repeat (first | exact trivial | refine ⟨rfl, ?_⟩)) (by repeat (first | exact q_r | apply q_q | apply q_k))) ?_
      intro w hI
      clear hI1 hI2 hfl hEl
      obtain ⟨D, C⟩ := w
      obtain ⟨hJ1, hJ2, hJ3⟩ := hI
      dsimp only at hJ1 hJ2 hJ3 ⊢
      have hDl := snds_len hJ2
      have hDf := fsts_len hJ2
      have hol : o.2.length = o.1.length := hI3.1.length_eq
      have hEl : n = D.length * d + (fsts C).length + o.1.length := by rw [← hn, hJ1, List.length_append, List.length_append, hDf]
      obtain ⟨a, ha⟩ : ∃ a, D.length * d = a := ⟨_, rfl⟩
      have hnx : ∀ p : Bk, (D ++ [p]).length * d = a + d := fun p => by rw [List.length_append, List.length_singleton, Nat.add_mul, ha]; omega
      rw [ha] at hDl hEl ⊢
      match C, hJ1, hJ3, hEl with
      | [], hJ1, hJ3, hEl =>
        have hEl2 : n = a + o.1.length := by simpa [fsts] using hEl
        have e1 : E = fsts D ++ o.1 := by simpa [fsts] using hJ1
        have e2 : snds D ++ snds [] ++ o.2 = snds D ++ o.2 := by simp [snds]
        rw [e2]
        clear hJ1 hJ3 hEl hDf
        refine zX ?_; refine zX (zZ ?_); refine xMv ?_; refine xMv ?_; refine xBi ?_; intro _ _; refine zY ?_; refine q_c (fun h h_k => ?_) (fun h h_k => ?_) <;> ((try subst h_k); (have hp := h; try simp only [q_n] at hp); (try (exfalso; first | omega | (cases hp; done))));
        refine ex_exit ?_; refine zX ?_; refine zX (zZ ?_); refine xMv ?_; refine xMv ?_; refine xAd ?_; refine xAs ?_; refine zY ?_; refine zX (zZ ?_); refine xMv ?_; refine xMv ?_; refine xBi ?_; intro _ _; refine zY ?_; refine q_c (fun h h_k => ?_) (fun h h_k => ?_) <;> ((try subst h_k); (have hp := h; try simp only [q_n] at hp); (try (exfalso; first | omega | (cases hp; done))));
        refine zR ?_; refine zZ ?_; refine xMv ?_; apply zQ; rfl; rfl; rfl; (apply g_mul; rfl; rfl; rfl; exact ⟨by omega, by omega⟩); refine xAs ?_; refine zN ?_; simp only [zP, zU, zT, zW, retA, ↓reduceIte, Nat.reduceEqDiff]; rotate_left
        (all_goals (repeat (rename BV _ _ => hbv; first | cases hbv | clear hbv)))
        all_goals (try (first | cases ‹true = false› | cases ‹false = true›))
        rw [hdz2]
        refine ⟨(D, o, d), ⟨e1, hJ2, hI3, by dsimp only; omega, by dsimp only; omega⟩, by dsimp only; omega, ?_⟩
        dsimp only
        exact q_le
      | [p], hJ1, hJ3, hEl =>
        have hpl := hJ3.size p (by simp)
        have hpg := hJ3.good p (by simp)
        have hpl2 : p.2.length = bs := by rw [hpg.1.length_eq, hpl]
        have hEl2 : n = a + bs + o.1.length := by rw [hEl]; simp [fsts]; omega
        have e0 : E = fsts D ++ p.1 ++ o.1 := by rw [hJ1]; simp [fsts]
        have e2 : snds D ++ snds [p] ++ o.2 = snds D ++ p.2 ++ o.2 := by simp [snds]
        rw [e2]
        by_cases ho : o.1.length = 0
        · have ho1 : o.1 = [] := nil_len ho
          have ho2 : o.2 = [] := nil_len (by omega)
          have e1 : E = fsts D ++ p.1 := by rw [e0, ho1]; simp
          have e3 : snds D ++ p.2 ++ o.2 = snds D ++ p.2 := by rw [ho2]; simp
          rw [e3]
          clear hJ1 hJ3 hEl hDf e0 e2
          refine zX ?_; refine zX (zZ ?_); refine xMv ?_; refine xMv ?_; refine xBi ?_; intro _ _; refine zY ?_; refine q_c (fun h h_k => ?_) (fun h h_k => ?_) <;> ((try subst h_k); (have hp := h; try simp only [q_n] at hp); (try (exfalso; first | omega | (cases hp; done))));
          refine ex_exit ?_; refine zX ?_; refine zX (zZ ?_); refine xMv ?_; refine xMv ?_; refine xAd ?_; refine xAs ?_; refine zY ?_; refine zX (zZ ?_); refine xMv ?_; refine xMv ?_; refine xBi ?_; intro _ _; refine zY ?_; refine q_c (fun h h_k => ?_) (fun h h_k => ?_) <;> ((try subst h_k); (have hp := h; try simp only [q_n] at hp); (try (exfalso; first | omega | (cases hp; done))));
          refine zR ?_; refine zZ ?_; refine xMv ?_; apply zQ; rfl; rfl; rfl; (apply g_mul; rfl; rfl; rfl; exact ⟨by omega, by omega⟩); refine xAs ?_; refine zN ?_; simp only [zP, zU, zT, zW, retA, ↓reduceIte, Nat.reduceEqDiff]; rotate_left
          (all_goals (repeat (rename BV _ _ => hbv; first | cases hbv | clear hbv)))
          all_goals (try (first | cases ‹true = false› | cases ‹false = true›))
          rw [hdz2]
          refine ⟨(D, p, d), ⟨e1, hJ2, hpg, by dsimp only; omega, by dsimp only; omega⟩, by dsimp only; omega, ?_⟩
          dsimp only
          exact q_le
        · have hL : Left p.2 o.2 := left_of (A := fsts D) (X0 := p.1) (B := []) (Y0 := o.1) (C := []) hE (by rw [e0]; simp) hpg.1 hI3.1
          have cc := sym_c (p.2.length + o.2.length) (snds D) p.2 o.2 [] a (a + bs) n hDl (by omega) (by omega) (len_pos (by omega)) (len_pos (by omega)) hpg.2 hI3.2 hL (by simp; omega) (Nat.le_refl _) v σ
          simp only [List.append_nil] at cc
          have hm : ∀ S, MergedE p.2 o.2 S → E = fsts D ++ (p.1 ++ o.1) ∧ GoodB (p.1 ++ o.1, S) := fun S h => ⟨by rw [e0]; simp, merged_good hpg hI3 h⟩
          have hml : (p.1 ++ o.1).length < d := by rw [List.length_append]; omega
          have hz1 : (a : Int) + (bs : Int) = ((a + bs : Nat) : Int) := by omega
          clear hJ1 hJ3 hEl hDf e0 e2
          refine zX ?_; refine zX (zZ ?_); refine xMv ?_; refine xMv ?_; refine xBi ?_; intro _ _; refine zY ?_; refine q_c (fun h h_k => ?_) (fun h h_k => ?_) <;> ((try subst h_k); (have hp := h; try simp only [q_n] at hp); (try (exfalso; first | omega | (cases hp; done))));
          refine ex_exit ?_; refine zX ?_; refine zX (zZ ?_); refine xMv ?_; refine xMv ?_; refine xAd ?_; refine xAs ?_; refine zY ?_; refine zX (zZ ?_); refine xMv ?_; refine xMv ?_; refine xBi ?_; intro _ _; refine zY ?_; refine q_c (fun h h_k => ?_) (fun h h_k => ?_) <;> ((try subst h_k); (have hp := h; try simp only [q_n] at hp); (try (exfalso; first | omega | (cases hp; done))));
          refine zZ ?_; refine xMv ?_; refine xMv ?_; refine xMv ?_; refine xMv ?_; refine xMv ?_; refine exl_call rfl rfl rfl (zK rfl rfl (zV (by kernel_rfl)) (by rw [hz1]; exact cc)) ?_; rintro _ _ ⟨rfl, S, hS, rfl⟩; refine zY ?_; refine zZ ?_; refine xMv ?_; apply zQ; rfl; rfl; rfl; (apply g_mul; rfl; rfl; rfl; exact ⟨by omega, by omega⟩); refine xAs ?_; refine zN ?_; simp only [zP, zU, zT, zW, retA, ↓reduceIte, Nat.reduceEqDiff]; rotate_left
          (all_goals (repeat (rename BV _ _ => hbv; first | cases hbv | clear hbv)))
          all_goals (try (first | cases ‹true = false› | cases ‹false = true›))
          rw [hdz2]
          refine ⟨(D, (p.1 ++ o.1, S), d), ⟨(hm S hS).1, hJ2, (hm S hS).2, hml, by dsimp only; omega⟩, by dsimp only; omega, ?_⟩
          dsimp only
          exact q_le
      | p :: q :: C, hJ1, hJ3, hEl =>
        have hpl := hJ3.size p (by simp)
        have hpg := hJ3.good p (by simp)
        have hpl2 : p.2.length = bs := by rw [hpg.1.length_eq, hpl]
        have hql := hJ3.size q (by simp)
        have hqg := hJ3.good q (by simp)
        have hql2 : q.2.length = bs := by rw [hqg.1.length_eq, hql]
        have hC : BlocksE bs C := ⟨fun u hu => hJ3.good u (by simp [hu]), fun u hu => hJ3.size u (by simp [hu])⟩
        have hCl := fsts_len hC
        have hCl2 := snds_len hC
        have hEl2 : n = a + bs + bs + (fsts C).length + o.1.length := by rw [hEl, fsts_cons, fsts_cons, List.length_append, List.length_append]; omega
        have e0 : E = fsts D ++ p.1 ++ [] ++ q.1 ++ (fsts C ++ o.1) := by rw [hJ1, fsts_cons, fsts_cons]; simp
        have e2 : snds D ++ snds (p :: q :: C) ++ o.2 = snds D ++ p.2 ++ q.2 ++ (snds C ++ o.2) := by rw [snds_cons, snds_cons]; simp
        rw [e2]
        have hL : Left p.2 q.2 := left_of hE e0 hpg.1 hqg.1
        have cc := sym_c (p.2.length + q.2.length) (snds D) p.2 q.2 (snds C ++ o.2) a (a + bs) (a + d) hDl (by omega) (by omega) (len_pos (by omega)) (len_pos (by omega)) hpg.2 hqg.2 hL (by rw [List.length_append]; omega) (Nat.le_refl _) v σ
        have hm : ∀ S, MergedE p.2 q.2 S → E = fsts (D ++ [(p.1 ++ q.1, S)]) ++ fsts C ++ o.1 ∧ BlocksE d (D ++ [(p.1 ++ q.1, S)]) ∧ BlocksE bs C := fun S h => ⟨by rw [e0, fsts_app]; simp [fsts], hJ2.app (.one (merged_good hpg hqg h) (by rw [List.length_append]; omega)), hC⟩
        have hsn : ∀ S, snds D ++ S ++ (snds C ++ o.2) = snds (D ++ [(p.1 ++ q.1, S)]) ++ snds C ++ o.2 := fun S => by rw [snds_app]; simp [snds]
        have hz1 : (a : Int) + (bs : Int) = ((a + bs : Nat) : Int) := by omega
        have hz2 : ((a + d : Nat) : Int) + 2 * (bs : Int) = ((a + d + d : Nat) : Int) := by omega
        have hle : a + d ≤ n := by omega
        clear hJ1 hJ3 hEl hDf e0 e2
        refine zX ?_; refine zX (zZ ?_); refine xMv ?_; refine xMv ?_; refine xBi ?_; intro _ _; refine zY ?_; refine q_c (fun h h_k => ?_) (fun h h_k => ?_) <;> ((try subst h_k); (have hp := h; try simp only [q_n] at hp); (try (exfalso; first | omega | (cases hp; done))));
        refine zR ?_; refine zL ?_; refine zX (zZ ?_); refine xMv ?_; refine xMv ?_; refine xMv ?_; refine xMv ?_; refine xAd ?_; refine xMv ?_; refine xMv ?_; refine exl_call rfl rfl rfl (zK rfl rfl (zV (by kernel_rfl)) (by rw [hz1]; exact cc)) ?_; rintro _ _ ⟨rfl, S, hS, rfl⟩; refine zY ?_; refine zX (zZ ?_); refine xMv ?_; refine xAs ?_; refine zY ?_; refine zZ ?_; refine xMv ?_; refine xMv ?_; apply zQ; rfl; rfl; rfl; (apply g_mul; rfl; rfl; rfl; exact ⟨by omega, by omega⟩); refine xAd ?_; refine xAs ?_; refine zN ?_; simp only [zP, zU, zT, zW, retA, ↓reduceIte, Nat.reduceEqDiff]; rotate_left
        (all_goals (repeat (rename BV _ _ => hbv; first | cases hbv | clear hbv)))
        all_goals (try (first | cases ‹true = false› | cases ‹false = true›))
        rw [hsn, hz2]
        refine ⟨(D ++ [(p.1 ++ q.1, S)], C), hm S hS, by dsimp only; simp only [List.length_cons]; omega, ?_⟩
        dsimp only
        rw [hnx]
        exact q_le
    · have hres : snds B ++ o.2 = sortE E := by
        refine sorted_is hE (by rw [hI1]; exact (snds_perm hI2.good).append hI3.1) ?_
        match B, hI2, hEl with
        | [], _, _ => simpa [snds] using hI3.2
        | [p], hI2, hEl =>
          have ho : o.2 = [] := nil_len (by rw [hI3.1.length_eq]; simp at hEl; omega)
          rw [ho]; simpa [snds] using (hI2.good p (by simp)).2
        | p :: q :: C, hI2, hEl =>
          exfalso
          simp only [List.length_cons, Nat.add_mul, Nat.one_mul] at hEl
          omega
      rw [hres]
      clear hI1 hI2 hI3 hfl hEl hres hE
      refine zX ?_; refine zX (zZ ?_); refine xMv ?_; refine xMv ?_; refine xBi ?_; intro _ _; refine zY ?_; refine q_c (fun h h_k => ?_) (fun h h_k => ?_) <;> ((try subst h_k); (have hp := h; try simp only [q_n] at hp); (try (exfalso; first | omega | (cases hp; done))));
      refine ex_exit ?_; simp only [zP, zU, zT, zW, retA, ↓reduceIte, Nat.reduceEqDiff]; rotate_left
      (all_goals (repeat (rename BV _ _ => hbv; first | cases hbv | clear hbv)))
      all_goals (try (first | cases ‹true = false› | cases ‹false = true›))
      refine q_rq (σ3 := rowE v (sortE E) :: σ) ?_
      exact fin_done ⟨rfl, rfl⟩
theorem sortStable_c (E : List Ey) (hE : E.Pairwise fun x y => x.1 < y.1) (hl : E.length ≤ 2000) (v : Value) (σ : List Ent) :
    SCall Tryz.prog 34 [.slv v, entF'] (rowE v E :: σ) (fun r τ => r = .tup [] ∧ τ = rowE v (sortE E) :: σ) := by
  refine scall_of Tryz.func34 rfl (by simp) ?_
  have cc := stable_c E hE hl v σ
  have hlm : (E.map entC).length = E.length := List.length_map _
  refine zZ ?_; refine xMv ?_; refine xMv ?_; apply zQ; rfl; rfl; rfl; (apply g_len; rfl; rfl; (exact .inl ⟨_, _, _, (by (repeat first | exact q_h | apply q_t | assumption); done), (List.length_map _).symm⟩)); refine xMv ?_; refine exl_call rfl rfl rfl (zK rfl rfl (zV (by kernel_rfl)) (cc)) ?_; rintro _ _ ⟨rfl, rfl⟩; refine zN ?_; simp only [zP, zU, zT, zW, retA, ↓reduceIte, Nat.reduceEqDiff]; rotate_left
  (all_goals (repeat (rename BV _ _ => hbv; first | cases hbv | clear hbv)))
  all_goals (try (first | cases ‹true = false› | cases ‹false = true›))
  refine q_rq (σ3 := rowE v (sortE E) :: σ) ?_
  exact fin_done ⟨rfl, rfl⟩
end Go.Proofs.YtkhoengjdfmfaaaGreat
namespace Go.Proofs.YtkhoengjdfmfaaaGreat
open Go.MapKept
def slM (K : Int → Option Value) : Int → Option AV := fun q => (K q).map AV.slv
structure MapV (es : Array MapEntry) (clock : Nat) (K : Int → Option Value) (n : Nat) : Prop where
  st : Stamped es clock
  ks : ∀ e ∈ es.toList, ∃ a v, e.key = .int .i64 a ∧ K a = some v ∧ e.val = v ∧ v.isSl = true
  al : ∀ a v, K a = some v → ∃ e ∈ es.toList, e.key = .int .i64 a
  sz : es.size = n
theorem MapV.same {es : Array MapEntry} {clock n : Nat} {K : Int → Option Value} (h : MapV es clock K n) {e f : MapEntry} (he : e ∈ es.toList) (hf : f ∈ es.toList) (hk : e.key = f.key ∨ e.born = f.born) : e = f := by
  obtain ⟨i, hi⟩ := List.mem_iff_getElem?.1 he
  obtain ⟨j, hj⟩ := List.mem_iff_getElem?.1 hf
  have hij : i = j := by
    rcases hk with hk | hk
    · have a1 : (es.toList.map (·.key))[i]? = some e.key := by rw [List.getElem?_map, hi]; rfl
      have a2 : (es.toList.map (·.key))[j]? = some e.key := by rw [List.getElem?_map, hj, hk]; rfl
      exact (List.getElem?_inj (List.getElem?_eq_some_iff.1 a1).1 h.st.2.2).1 (a1.trans a2.symm)
    · have a1 : (es.toList.map (·.born))[i]? = some e.born := by rw [List.getElem?_map, hi]; rfl
      have a2 : (es.toList.map (·.born))[j]? = some e.born := by rw [List.getElem?_map, hj, hk]; rfl
      exact (List.getElem?_inj (List.getElem?_eq_some_iff.1 a1).1 h.st.2.1).1 (a1.trans a2.symm)
  subst hij
  rw [hi] at hj
  exact Option.some.inj hj
theorem MapV.push {es : Array MapEntry} {clock n : Nat} {K : Int → Option Value} (h : MapV es clock K n) {e : MapEntry} (he : e ∈ es.toList) {k : Int} (hk : e.key = .int .i64 k) {seen : Array Nat} {q : Int} : Hit es (seen.push e.born) q ↔ Hit es seen q ∨ q = k := by
  constructor
  · rintro ⟨f, hf, hfk, hs⟩
    rw [contains_push, Bool.or_eq_true, beq_iff_eq] at hs
    rcases hs with hs | hs
    · exact .inl ⟨f, hf, hfk, hs⟩
    · obtain rfl := h.same hf he (.inr hs)
      rw [hk] at hfk
      exact .inr (by simpa using hfk.symm)
  · rintro (⟨f, hf, hfk, hs⟩ | rfl)
    · exact ⟨f, hf, hfk, by rw [contains_push, hs]; rfl⟩
    · exact ⟨e, he, hk, by rw [contains_push]; simp⟩
theorem MapV.fresh {es : Array MapEntry} {clock n : Nat} {K : Int → Option Value} (h : MapV es clock K n) {e : MapEntry} (he : e ∈ es.toList) {k : Int} (hk : e.key = .int .i64 k) {seen : Array Nat} (hs : seen.contains e.born = false) : ¬ Hit es seen k := by
  rintro ⟨f, hf, hfk, hs2⟩
  obtain rfl := h.same hf he (.inl (by rw [hfk, hk]))
  rw [hs] at hs2; cases hs2
section
variable {P : Program} {ro : Option Nat} {env : Env} {σ : List Ent} {dst : Option Tmp} {ty : TypeId} {pos : String} {after : Array Edge} {guard : Option (Nat × Bool)}
inductive RangedV (b : Nat) (K : Int → Option Value) (n : Nat) (σ1 : Ent → List Ent) : AV → List Ent → Prop
  | mk (r : Nat) (es : Array MapEntry) (clock : Nat) (h : MapV es clock K n) : RangedV b K n σ1 (.ptr r 0) (.obj r (.mapIter (some b) clock #[] clock) :: σ1 (.obj b (.map es clock)))
theorem g_rangeV {t et : TypeId} {x : Operand} {b n : Nat} {K : Int → Option Value} {σ1 : Ent → List Ent} (ht : mapOf P t = some et) (hx : evA env x = some (.mp b)) (hu : ∀ e, Upd σ (.imap b (slM K) n) e (σ1 e)) :
    GOp P ro ⟨dst, .range t x, ty, pos, after, guard⟩ env σ (RangedV b K n σ1) :=
  gop_run (by intro c h; cases h) fun X M a w hg ho => by
    have h1 := ho x (by simp [Op.operands]) _ hx
    simp only [VRel] at h1
    obtain ⟨kt, e1, e2⟩ := mapOf_spec ht
    obtain ⟨g, ⟨es, clock, hb, hs, hks, hk1, hk2, hsz⟩, hg2⟩ := hg.ent _ (hu (.obj b (.map #[] 0))).mem
    have hE : MapV es clock K n := by
      refine ⟨hs, fun e he => ?_, fun q v hq => ?_, hsz⟩
      · obtain ⟨q, hq⟩ := hks e he
        have h3 := hk1 e he q hq
        have h4 := hg2 q
        rw [h3] at h4
        unfold slM at h4
        cases h0 : K q with
        | none => rw [h0] at h4; exact h4.elim
        | some v =>
          rw [h0] at h4
          simp only [Option.map_some, VRel] at h4
          exact ⟨q, v, hq, h0, h4.1, h4.1 ▸ h4.2⟩
      · have h4 := hg2 q
        unfold slM at h4
        rw [hq] at h4
        cases hgq : g q with
        | none => rw [hgq] at h4; exact h4.elim
        | some v => exact hk2 q v hgq
    have hg3 : Good X M (σ1 (.obj b (.map es clock))) w := hg.upd (hu _) rfl rfl rfl (fun _ _ _ => rfl) hb (.inl rfl)
    refine ⟨M, .pointer (some ⟨w.heap.size, 0, none⟩), w.alloc (.mapIter (some b) clock #[] clock), .ptr w.heap.size 0, _, Mem.le_refl M, hg3.alloc _ (.obj w.heap.size (.mapIter (some b) clock #[] clock)) rfl (Go.heap_alloc_new w _), by simp [VRel], .mk _ es clock hE, .inl ?_⟩
    have := run_range_map (P := P) w t kt et b es clock e1 hb
    simp [execOp, h1, Sem.run_bind, this]
inductive NextedV (b r : Nat) (K : Int → Option Value) (es : Array MapEntry) (clock : Nat) (seen : Array Nat) (σ : List Ent) (σ1 : Array Nat → List Ent) : AV → List Ent → Prop
  | done (h : ∀ q v, K q = some v → Hit es seen q) : NextedV b r K es clock seen σ σ1 (.tup [.bool false]) σ
  | step (e : MapEntry) (k : Int) (v : Value) (he : e ∈ es.toList) (hk : e.key = .int .i64 k) (hv : e.val = v) (hsl : v.isSl = true) (h0 : K k = some v) (hn : ¬ Hit es seen k) (hp : ∀ q, Hit es (seen.push e.born) q ↔ Hit es seen q ∨ q = k) (hm : (leftOf es (seen.push e.born)).size < (leftOf es seen).size) :
      NextedV b r K es clock seen σ σ1 (.tup [.bool true, .int .i64 k, .slv v]) (σ1 (seen.push e.born))
theorem g_nextV {x : Operand} {b r n clock : Nat} {K : Int → Option Value} {es : Array MapEntry} {seen : Array Nat} {σ1 : Array Nat → List Ent} (hE : MapV es clock K n) (hx : evA env x = some (.ptr r 0)) (hm : Ent.obj b (.map es clock) ∈ σ) (hu : ∀ s, Upd σ (.obj r (.mapIter (some b) clock seen clock)) (.obj r (.mapIter (some b) clock s clock)) (σ1 s)) :
    GOp P ro ⟨dst, .next x false, ty, pos, after, guard⟩ env σ (NextedV b r K es clock seen σ σ1) :=
  gop_run (by intro c h; cases h) fun X M a w hg ho => by
    have h1 := ho x (by simp [Op.operands]) _ hx
    simp only [VRel] at h1
    have hb : w.heap[b]? = some (.map es clock) := hg.ent _ hm
    have hr : w.heap[r]? = some (.mapIter (some b) clock seen clock) := hg.ent _ (hu seen).mem
    rcases run_next_at (P := P) w ty r b clock clock seen es clock hr hb hE.st.1 (Nat.le_refl _) with ⟨h0, hrun⟩ | ⟨e, he, w1, hw1, hrun⟩
    · refine ⟨M, .tuple #[.bool false], w, .tup [.bool false], σ, Mem.le_refl M, hg, ?_, .done fun q v hq => ?_, .inl ?_⟩
      · simp only [VRel, VRels]; exact ⟨_, rfl, _, _, rfl, rfl, rfl⟩
      · obtain ⟨e, he, hk⟩ := hE.al q v hq
        refine ⟨e, he, hk, ?_⟩
        cases hs : seen.contains e.born with
        | true => rfl
        | false =>
          have hmem : e ∈ leftOf es seen := Array.mem_filter.2 ⟨Array.mem_toList_iff.1 he, by rw [hs]; rfl⟩
          rw [Array.eq_empty_of_size_eq_zero h0] at hmem
          simp at hmem
      · simp [execOp, h1, Sem.run_bind, hrun]
    · obtain ⟨hel, hes⟩ := mem_left he
      obtain ⟨k, v, hk, h0, hv, hsl⟩ := hE.ks e hel
      have hg1 : Good X M σ w1 := by rcases hw1 with rfl | rfl; exact hg; exact hg.drew
      have hr1 : w1.heap[r]? = some (.mapIter (some b) clock seen clock) := hg1.ent _ (hu seen).mem
      have hset := Go.MapKept.heap_set (o' := Obj.mapIter (some b) clock (seen.push e.born) clock) hr1
      refine ⟨M, .tuple #[.bool true, e.key, e.val], Go.ChangeMaps.setBlock w1 r (.mapIter (some b) clock (seen.push e.born) clock), .tup [.bool true, .int .i64 k, .slv v], _, Mem.le_refl M, ?_, ?_, .step e k v hel hk hv hsl h0 (hE.fresh hel hk hes) (fun q => hE.push hel hk) (left_shrinks es seen e he), .inl ?_⟩
      · refine hg1.upd (hu _) rfl rfl rfl (fun i hi hne => hset.2 i fun e => hne (by rw [e]; rfl)) hset.1 (.inl rfl)
      · rw [hk, hv]
        simp only [VRel, VRels]
        exact ⟨_, rfl, _, _, rfl, rfl, _, _, rfl, rfl, _, _, rfl, ⟨rfl, hsl⟩, rfl⟩
      · simp [execOp, h1, Sem.run_bind, hrun]
theorem g_entryV {x : Operand} {b r n clock : Nat} {K : Int → Option Value} {es : Array MapEntry} {seen : Array Nat} {e : MapEntry} {k : Int} {v : Value} (hE : MapV es clock K n) (he : e ∈ es.toList) (hk : e.key = .int .i64 k) (hv : e.val = v) (hsl : v.isSl = true) (hx : evA env x = some (.ptr r 0)) (hm : Ent.obj b (.map es clock) ∈ σ) (hr : Ent.obj r (.mapIter (some b) clock (seen.push e.born) clock) ∈ σ) :
    GOp P ro ⟨dst, .entry x, ty, pos, after, guard⟩ env σ (Is (.tup [.int .i64 k, .slv v]) σ) :=
  gop_pure _ (by intro c h; cases h) fun X M a w hg ho => by
    have h1 := ho x (by simp [Op.operands]) _ hx
    simp only [VRel] at h1
    have hrun := run_entry_at (P := P) w r b clock seen es clock e (hg.ent _ hr) (hg.ent _ hm) he hE.st.2.1
    refine ⟨.tuple #[e.key, e.val], ?_, by simp [execOp, h1, Sem.run_bind, hrun]⟩
    rw [hk, hv]
    simp only [VRel, VRels]
    exact ⟨_, rfl, _, _, rfl, rfl, _, _, rfl, ⟨rfl, hsl⟩, rfl⟩
end
end Go.Proofs.YtkhoengjdfmfaaaGreat
namespace Go.Proofs.YtkhoengjdfmfaaaGreat
abbrev Asc := List (Int × Value × List Ey)
def kA (A : Asc) : Int → Option Value := fun q => (A.find? fun a => decide (a.1 = q)).map (·.2.1)
def rowsA (A : Asc) : List Ent := A.map fun a => rowE a.2.1 a.2.2
structure AscOf (E : List Ey) (A : Asc) : Prop where
  nd : (A.map (·.1)).Nodup
  ent : ∀ a ∈ A, a.2.2 = E.filter (fun e => decide (e.2.turn = a.1)) ∧ a.2.2 ≠ []
  all : ∀ e ∈ E, ∃ a ∈ A, a.1 = e.2.turn
theorem ascOf_nil : AscOf [] [] := ⟨.nil, by simp, by simp⟩
theorem kA_mid {A1 A2 : Asc} {a : Int × Value × List Ey} (h : ((A1 ++ a :: A2).map (·.1)).Nodup) (q : Int) : kA (A1 ++ a :: A2) q = if q = a.1 then some a.2.1 else (kA (A1 ++ A2) q) := by
  unfold kA
  rw [List.map_append, List.map_cons] at h
  have hn := (List.nodup_append.1 h).2.2
  by_cases hq : q = a.1
  · rw [if_pos hq, List.find?_append]
    have : A1.find? (fun x => decide (x.1 = q)) = none := by
      rw [List.find?_eq_none]
      intro x hx
      have := hn x.1 (List.mem_map.2 ⟨x, hx, rfl⟩) a.1 (by simp)
      simp; omega
    rw [this, Option.none_or, List.find?_cons_of_pos (by simp [hq])]; rfl
  · rw [if_neg hq, List.find?_append, List.find?_append, List.find?_cons_of_neg (by simp; omega)]
theorem kA_some {A : Asc} {q : Int} {v : Value} (h : kA A q = some v) : ∃ A1 L A2, A = A1 ++ (q, v, L) :: A2 := by
  unfold kA at h
  cases hf : A.find? (fun a => decide (a.1 = q)) with
  | none => rw [hf] at h; cases h
  | some a =>
    rw [hf] at h
    have h1 := List.find?_some hf
    have hm := List.mem_of_find?_eq_some hf
    obtain ⟨A1, A2, hA⟩ := List.append_of_mem hm
    simp only [Option.map_some, Option.some.injEq] at h
    have h2 : a.1 = q := by simpa using h1
    exact ⟨A1, a.2.2, A2, by rw [hA, ← h, ← h2]⟩
theorem upd_slM (K : Int → Option Value) (k : Int) (v : Value) : updA (slM K) k (.slv v) = slM (fun q => if q = k then some v else K q) := by
  funext q
  by_cases hq : q = k
  · simp [updA, slM, hq]
  · simp [updA, slM, hq]
/-- One more entry, of a turn that has a row. -/
theorem asc_more {E : List Ey} {A1 A2 : Asc} {L : List Ey} {v v' : Value} {e : Ey} (h : AscOf E (A1 ++ (e.2.turn, v, L) :: A2)) : AscOf (E ++ [e]) (A1 ++ (e.2.turn, v', L ++ [e]) :: A2) := by
  have hk : (A1 ++ (e.2.turn, v', L ++ [e]) :: A2).map (·.1) = (A1 ++ (e.2.turn, v, L) :: A2).map (·.1) := by simp
  have hnd := h.nd
  rw [List.map_append, List.map_cons] at hnd
  have hn1 := (List.nodup_append.1 hnd).2.2
  have hn2 := (List.nodup_cons.1 (List.nodup_append.1 hnd).2.1).1
  refine ⟨by rw [hk]; exact h.nd, fun a ha => ?_, fun x hx => ?_⟩
  · have oth : ∀ a ∈ A1 ++ A2, a.1 ≠ e.2.turn := fun a ha hq => by
      rcases List.mem_append.1 ha with ha | ha
      · exact hn1 a.1 (List.mem_map.2 ⟨a, ha, rfl⟩) e.2.turn (by simp) hq
      · exact hn2 (by rw [← hq]; exact List.mem_map.2 ⟨a, ha, rfl⟩)
    have same : ∀ a ∈ A1 ++ A2, a.2.2 = (E ++ [e]).filter (fun e => decide (e.2.turn = a.1)) ∧ a.2.2 ≠ [] := fun a ha => by
      have h1 := h.ent a (by rcases List.mem_append.1 ha with ha | ha <;> simp [ha])
      rw [List.filter_append, List.filter_cons_of_neg (by simpa using fun hq => oth a ha hq.symm)]
      simpa using h1
    rcases List.mem_append.1 ha with ha | ha
    · exact same a (by simp [ha])
    · rcases List.mem_cons.1 ha with rfl | ha
      · have h1 := h.ent (e.2.turn, v, L) (by simp)
        refine ⟨?_, by simp⟩
        rw [List.filter_append, List.filter_cons_of_pos (by simp)]
        show L ++ [e] = _
        rw [show L = E.filter _ from h1.1]; rfl
      · exact same a (by simp [ha])
  · rcases List.mem_append.1 hx with hx | hx
    · obtain ⟨a, ha, h1⟩ := h.all x hx
      rcases List.mem_append.1 ha with ha | ha
      · exact ⟨a, by simp [ha], h1⟩
      · rcases List.mem_cons.1 ha with rfl | ha
        · exact ⟨_, List.mem_append_right _ (List.mem_cons_self ..), h1⟩
        · exact ⟨a, by simp [ha], h1⟩
    · rw [List.mem_singleton] at hx; subst hx
      exact ⟨_, List.mem_append_right _ (List.mem_cons_self ..), rfl⟩
/-- One more entry, the first of its turn. -/
theorem asc_new {E : List Ey} {A : Asc} {v' : Value} {e : Ey} (h : AscOf E A) (hn : ∀ a ∈ A, a.1 ≠ e.2.turn) : AscOf (E ++ [e]) ((e.2.turn, v', [e]) :: A) := by
  refine ⟨?_, fun a ha => ?_, fun x hx => ?_⟩
  · rw [List.map_cons, List.nodup_cons]
    refine ⟨fun hm => ?_, h.nd⟩
    obtain ⟨a, ha, hq⟩ := List.mem_map.1 hm
    exact hn a ha hq
  · rcases List.mem_cons.1 ha with rfl | ha
    · refine ⟨?_, by simp⟩
      have : E.filter (fun x => decide (x.2.turn = e.2.turn)) = [] := by
        rw [List.filter_eq_nil_iff]
        intro x hx
        obtain ⟨a, ha, hq⟩ := h.all x hx
        have := hn a ha
        simp; omega
      rw [List.filter_append, this, List.filter_cons_of_pos (by simp)]; rfl
    · have h1 := h.ent a ha
      rw [List.filter_append, List.filter_cons_of_neg (by simpa using fun hq => hn a ha hq.symm)]
      simpa using h1
  · rcases List.mem_append.1 hx with hx | hx
    · obtain ⟨a, ha, h1⟩ := h.all x hx
      exact ⟨a, by simp [ha], h1⟩
    · rw [List.mem_singleton] at hx; subst hx
      exact ⟨_, List.mem_cons_self .., rfl⟩
theorem upd_mid {e e' : Ent} : ∀ (A B : List Ent), Upd (A ++ e :: B) e e' (A ++ e' :: B)
  | [], _ => .here
  | x :: A, B => .there (upd_mid A B)
abbrev memK : Ent → Prop := fun e => match e with | .cells .. => True | .imap .. => True | _ => False
theorem upd_keeps {σ σ' : List Ent} {v v' : Value} {e : TypeId} {sz : Nat} {l l' : List (List AV)} (h : Upd σ (.row v e sz l) (.row v' e sz l') σ') : AddsK memK σ σ' := by
  obtain ⟨a, c, rfl, rfl⟩ := h.split
  intro x hx hm
  rcases List.mem_append.1 hm with hm | hm
  · simp [hm]
  · rcases List.mem_cons.1 hm with rfl | hm
    · exact hx.elim
    · simp [hm]
theorem rowsA_app (A B : Asc) : rowsA (A ++ B) = rowsA A ++ rowsA B := by unfold rowsA; simp
theorem rowsA_cons (a : Int × Value × List Ey) (B : Asc) : rowsA (a :: B) = rowE a.2.1 a.2.2 :: rowsA B := rfl
def voidL (r : List Sl) : List Int := (r.filter fun y => decide (y.kind = 3)).map fun y => y.off - 1
theorem voidL_take {r : List Sl} {k : Nat} {c : Sl} (h : r[k]? = some c) : voidL (r.take (k + 1)) = if c.kind = 3 then voidL (r.take k) ++ [c.off - 1] else voidL (r.take k) := by
  unfold voidL
  rw [take_get h, List.filter_append, List.map_append]
  by_cases hk : c.kind = 3
  · rw [if_pos hk, List.filter_cons_of_pos (by simpa using hk)]; rfl
  · rw [if_neg hk, List.filter_cons_of_neg (by simpa using hk)]; simp
theorem voidL_any (r : List Sl) (q : Int) : (voidL r).contains q = r.any fun y => decide (y.kind = 3) && decide (y.off - 1 = q) := by
  unfold voidL
  rw [Bool.eq_iff_iff, List.contains_iff_mem, List.mem_map, List.any_eq_true]
  constructor
  · rintro ⟨y, hy, rfl⟩
    rw [List.mem_filter] at hy
    exact ⟨y, hy.1, by simpa using hy.2⟩
  · rintro ⟨y, hy, h⟩
    simp only [Bool.and_eq_true, decide_eq_true_eq] at h
    exact ⟨y, List.mem_filter.2 ⟨hy, by simpa using h.1⟩, h.2⟩
theorem entF_snoc (l m : List Sl) (x : Sl) : entF l 0 (m ++ [x]) = if cntB l x then entF l 0 m ++ [(m.length, x)] else entF l 0 m := by
  rw [entF_app, Nat.zero_add]
  show entF l 0 m ++ entF l m.length [x] = _
  rw [entF, entF]
  split <;> simp
theorem flat_take {R : List (List Sl)} {k : Nat} {r : List Sl} (h : R[k]? = some r) : (R.take (k + 1)).flatten = (R.take k).flatten ++ r := by
  rw [List.take_add_one, h, List.flatten_append]; simp
def leftA (A : Asc) (K : List Int) : Asc := A.filter fun a => !K.contains a.1
theorem leftA_nil (A : Asc) : leftA A [] = A := by unfold leftA; rw [List.filter_eq_self]; simp
theorem leftA_step {A : Asc} {K : List Int} {k : Int} {v : Value} (hn : (A.map (·.1)).Nodup) (h : kA A k = some v) (hk : k ∉ K) : ∃ A1 L A2, leftA A K = A1 ++ (k, v, L) :: A2 ∧ leftA A (K ++ [k]) = A1 ++ A2 ∧ (k, v, L) ∈ A := by
  obtain ⟨B1, L, B2, rfl⟩ := kA_some h
  rw [List.map_append, List.map_cons] at hn
  have hn1 := (List.nodup_append.1 hn).2.2
  have hn2 := (List.nodup_cons.1 (List.nodup_append.1 hn).2.1).1
  have oth : ∀ B : Asc, (∀ a ∈ B, a.1 ≠ k) → leftA B (K ++ [k]) = leftA B K := fun B hB => by
    unfold leftA
    refine List.filter_congr fun a ha => ?_
    have := hB a ha
    simp [this]
  have o1 := oth B1 fun a ha hq => hn1 a.1 (List.mem_map.2 ⟨a, ha, rfl⟩) k (by simp) hq
  have o2 := oth B2 fun a ha hq => hn2 (by show k ∈ _; rw [← hq]; exact List.mem_map.2 ⟨a, ha, rfl⟩)
  refine ⟨leftA B1 K, L, leftA B2 K, ?_, ?_, by simp⟩
  · unfold leftA
    rw [List.filter_append, List.filter_cons_of_pos (by simpa using hk)]
  · rw [← o1, ← o2]
    unfold leftA
    rw [List.filter_append, List.filter_cons_of_neg (by simp)]
theorem rows_perm (A1 A2 : Asc) (k : Int) (v : Value) (L : List Ey) (σ X : List Ent) : (X ++ (rowsA (A1 ++ (k, v, L) :: A2) ++ σ)).Perm (rowE v L :: (X ++ (rowsA (A1 ++ A2) ++ σ))) := by
  rw [rowsA_app, rowsA_app, rowsA_cons]
  have : X ++ (rowsA A1 ++ rowE v L :: rowsA A2 ++ σ) = (X ++ rowsA A1) ++ rowE v L :: (rowsA A2 ++ σ) := by simp
  rw [this, show X ++ (rowsA A1 ++ rowsA A2 ++ σ) = (X ++ rowsA A1) ++ (rowsA A2 ++ σ) by simp]
  exact List.perm_middle
theorem kA_iff {E : List Ey} {A : Asc} (h : AscOf E A) {q : Int} : (∃ v, kA A q = some v) ↔ q ∈ numsE E := by
  rw [nums_mem]
  constructor
  · rintro ⟨v, hv⟩
    obtain ⟨A1, L, A2, rfl⟩ := kA_some hv
    obtain ⟨h1, h2⟩ := h.ent (q, v, L) (by simp)
    cases hL : L with
    | nil => exact absurd hL h2
    | cons e L' =>
      have he : e ∈ L := by rw [hL]; simp
      rw [show L = E.filter _ from h1, List.mem_filter] at he
      exact ⟨e, he.1, by simpa using he.2⟩
  · rintro ⟨e, he, rfl⟩
    obtain ⟨a, ha, h1⟩ := h.all e he
    cases hk : kA A e.2.turn with
    | some v => exact ⟨v, rfl⟩
    | none =>
      unfold kA at hk
      rw [Option.map_eq_none_iff, List.find?_eq_none] at hk
      exact absurd h1 (by simpa using hk a ha)
theorem fold_turn : ∀ (S : List Ey) (t : Tn), (S.foldl stepT t).turn = t.turn
  | [], _ => rfl
  | e :: S, t => by
    rw [List.foldl_cons, fold_turn S]
    unfold stepT
    split
    · split <;> rfl
    · split
      · split <;> rfl
      · rfl
theorem turnS_turn (l : List Sl) (n : Int) : (turnS l n).turn = n := fold_turn _ _
/-- The turns in their order. -/
theorem turns_sorted {l : List Sl} {K : List Int} {S : List Tn} (hK : K.Nodup) (hm : ∀ q, q ∈ K ↔ q ∈ numsE (entL l)) (hp : S.Perm (K.map (turnS l))) (hs : S.Pairwise fun a b => a.turn ≤ b.turn) : S = (numsE (entL l)).map (turnS l) := by
  have h1 : (S.map (·.turn)).Perm K := by
    have := hp.map (·.turn)
    rwa [List.map_map, show ((fun t : Tn => t.turn) ∘ turnS l) = id by funext n; exact turnS_turn l n, List.map_id] at this
  have h2 : S.map (·.turn) = numsE (entL l) := by
    refine same_up int_asymm ?_ (nums_up _) fun y => by rw [h1.mem_iff, hm]
    have hnd : (S.map (·.turn)).Nodup := h1.nodup_iff.2 hK
    have hle : (S.map (·.turn)).Pairwise (· ≤ ·) := by rw [List.pairwise_map]; exact hs
    exact (hle.and hnd).imp fun h => by omega
  rw [← h2, List.map_map]
  have h3 : ∀ s ∈ S, s = turnS l s.turn := fun s hs => by
    obtain ⟨n, _, rfl⟩ := List.mem_map.1 (hp.mem_iff.1 hs)
    rw [turnS_turn]
  conv => lhs; rw [← List.map_id S]
  exact List.map_congr_left fun s hs => h3 s hs
theorem foldT_take {S : List Ey} {j : Nat} {e : Ey} (h : S[j]? = some e) (t : Tn) : (S.take (j + 1)).foldl stepT t = stepT ((S.take j).foldl stepT t) e := by
  rw [take_get h, List.foldl_append]; rfl
theorem fold_twice : ∀ (S : List Ey) (t : Tn), (S.foldl stepT t).twice.length ≤ t.twice.length + S.length
  | [], _ => Nat.le_refl _
  | e :: S, t => by
    rw [List.foldl_cons]
    have := fold_twice S (stepT t e)
    have h2 : (stepT t e).twice.length ≤ t.twice.length + 1 := by
      unfold stepT
      split
      · split <;> simp
      · split
        · split <;> simp
        · simp
    rw [List.length_cons]; omega
theorem sortE_len : ∀ L : List Ey, (sortE L).length = L.length
  | [] => rfl
  | x :: L => by
    have : ∀ (e : Ey) (l : List Ey), (insE e l).length = l.length + 1 := by
      intro e l
      induction l with
      | nil => rfl
      | cons y l ih => rw [insE]; split <;> simp [ih]
    show (insE x (sortE L)).length = _
    rw [this, sortE_len L, List.length_cons]
theorem nodup_len : ∀ {l m : List Int}, l.Nodup → (∀ x ∈ l, x ∈ m) → l.length ≤ m.length
  | [], _, _, _ => Nat.zero_le _
  | x :: l, m, hn, h => by
    rw [List.nodup_cons] at hn
    obtain ⟨A, B, rfl⟩ := List.append_of_mem (h x (by simp))
    have := nodup_len (l := l) (m := A ++ B) hn.2 fun y hy => by
      have h1 := h y (by simp [hy])
      have h2 : y ≠ x := fun e => hn.1 (by rw [← e]; exact hy)
      simpa [h2] using h1
    simp only [List.length_cons, List.length_append] at this ⊢; omega
end Go.Proofs.YtkhoengjdfmfaaaGreat
