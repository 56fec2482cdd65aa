/- Parts of the proof that belong together: Ye Yf Ws. -/
import Derived.Test.YtkhoengjdfmfaaaGreatGD04
import Derived.Test.YtkhoengjdfmfaaaGreatGD10
import Derived.Test.YtkhoengjdfmfaaaGreatGD16
set_option maxRecDepth 10000
set_option linter.unusedSimpArgs false
set_option linter.unusedVariables false
namespace Go.Proofs.YtkhoengjdfmfaaaGreat
def entN (l : List Sl) (n : Int) (i : Nat) : List Ey := (entF l 0 (l.take i)).filter fun e => decide (e.2.turn = n)
theorem entN_all (l : List Sl) (n : Int) : entN l n l.length = entT l n := by unfold entN entT entL; rw [List.take_length]
theorem entN_out {l : List Sl} {i : Nat} {s : Sl} {n : Int} (hs : l[i]? = some s) (h : ¬ (cntB l s = true ∧ s.turn = n)) : entN l n (i + 1) = entN l n i := by
  unfold entN
  rw [entF_take hs]
  split
  · rename_i hc
    rw [List.filter_append, List.filter_cons_of_neg (by simpa using fun e => h ⟨hc, e⟩)]; simp
  · rfl
theorem entN_in {l : List Sl} {i : Nat} {s : Sl} {n : Int} (hs : l[i]? = some s) (h : cntB l s = true) (hn : s.turn = n) : entN l n (i + 1) = entN l n i ++ [(i, s)] := by
  unfold entN
  rw [entF_take hs, if_pos h, List.filter_append, List.filter_cons_of_pos (by simpa using hn)]; simp
theorem lents_in {E : List Ey} {e : Ey} (h : e.2.kind = 2) : lents (E ++ [e]) = lents E ++ [e] ∧ givs (E ++ [e]) = givs E := by
  unfold lents givs
  rw [List.filter_append, List.filter_append, List.filter_cons_of_pos (by simpa using h), List.filter_cons_of_neg (by simpa using h)]; simp
theorem givs_in {E : List Ey} {e : Ey} (h : e.2.kind ≠ 2) : lents (E ++ [e]) = lents E ∧ givs (E ++ [e]) = givs E ++ [e] := by
  unfold lents givs
  rw [List.filter_append, List.filter_append, List.filter_cons_of_neg (by simpa using h), List.filter_cons_of_pos (by simpa using h)]; simp
def ixO : Option Ey → Int
  | some e => e.1
  | none => -1
def ix1 : Option Ey → Int
  | some e => (e.1 : Int) + 1
  | none => 0
structure OptE (l : List Sl) (i : Nat) (o : Option Ey) : Prop where
  ok : ∀ e, o = some e → l[e.1]? = some e.2 ∧ e.1 < i
theorem optE_none (l : List Sl) (i : Nat) : OptE l i none := ⟨by simp⟩
theorem optE_next {l : List Sl} {i : Nat} {o : Option Ey} (h : OptE l i o) : OptE l (i + 1) o := ⟨fun e he => ⟨(h.ok e he).1, by have := (h.ok e he).2; omega⟩⟩
theorem optE_here {l : List Sl} {i : Nat} {s : Sl} (hs : l[i]? = some s) : OptE l (i + 1) (some (i, s)) := ⟨fun e he => by cases he; exact ⟨hs, by dsimp only; omega⟩⟩
theorem fold_ne {f : Option Ey → Ey → Option Ey} (hf : ∀ o e, f o e ≠ none) : ∀ (E : List Ey) (o : Option Ey), E.foldl f o = none → E = []
  | [], _, _ => rfl
  | e :: E, o, h => by
    rw [List.foldl_cons] at h
    have := fold_ne hf E _ h
    subst this
    exact absurd h (hf o e)
theorem giv_ne (o : Option Ey) (e : Ey) : givF o e ≠ none := by unfold givF; cases o with | none => simp | some p => dsimp only; split <;> simp
theorem lent_ne (o : Option Ey) (e : Ey) : lentF o e ≠ none := by unfold lentF; cases o with | none => simp | some p => dsimp only; split <;> simp
def twN (l : List Sl) (n : Int) (p i : Nat) : List Int := ((giv1 (entN l n i)).filter fun e => !decide (e.1 = p)).map fun e => (e.1 : Int)
theorem twN_in {l : List Sl} {n : Int} {p i : Nat} {s : Sl} (hs : l[i]? = some s) (h : cntB l s = true) (hn : s.turn = n) (hk : s.kind = 1) (hp : i ≠ p) : twN l n p (i + 1) = twN l n p i ++ [(i : Int)] := by
  unfold twN giv1
  rw [entN_in hs h hn, List.filter_append, List.filter_cons_of_pos (by simpa using hk), List.filter_append, List.filter_nil, List.filter_cons_of_pos (by simpa using hp)]; simp
theorem twN_out {l : List Sl} {n : Int} {p i : Nat} {s : Sl} (hs : l[i]? = some s) (h : ¬ (cntB l s = true ∧ s.turn = n ∧ s.kind = 1 ∧ i ≠ p)) : twN l n p (i + 1) = twN l n p i := by
  unfold twN giv1
  by_cases hin : cntB l s = true ∧ s.turn = n
  · rw [entN_in hs hin.1 hin.2, List.filter_append]
    by_cases hk : s.kind = 1
    · have hp : i = p := by
        by_cases e : i = p
        · exact e
        · exact absurd ⟨hin.1, hin.2, hk, e⟩ h
      rw [List.filter_cons_of_pos (by simpa using hk), List.filter_append, List.filter_nil, List.filter_cons_of_neg (by simpa using hp)]; simp
    · rw [List.filter_cons_of_neg (by simpa using hk)]; simp
  · rw [entN_out hs hin]
theorem twN_len (l : List Sl) (n : Int) (p i : Nat) (hi : i ≤ l.length) : (twN l n p i).length ≤ i := by
  have h : ∀ m k : List Sl, ∀ j, (entF k j m).length ≤ m.length := by
    intro m
    induction m with
    | nil => intro k j; simp [entF]
    | cons x m ih =>
      intro k j
      unfold entF
      split
      · simp only [List.length_cons]; have := ih k (j + 1); omega
      · have := ih k (j + 1); simp only [List.length_cons]; omega
  have h1 := h (l.take i) l 0
  rw [List.length_take] at h1
  unfold twN giv1 entN
  rw [List.length_map]
  refine Nat.le_trans (List.length_filter_le _ _) (Nat.le_trans (List.length_filter_le _ _) (Nat.le_trans (List.length_filter_le _ _) ?_))
  omega
set_option maxHeartbeats 16000000 in
theorem turn_c (l : List Sl) (n : Int) (hb : BkS l) (hne : entT l n ≠ []) (σ : List Ent) : SCall Tryz.prog 41 [sls l, .int .i64 n] σ (Is (.agg (tnC (turnR (entT l n) n))) σ) := by
  refine scall_of Tryz.func41 rfl (by simp) ?_
  have hbl := hb.len
  refine zX (zZ ?_); refine xBa ?_; intro _; refine zY ?_; refine zX (zZ ?_); refine xMv ?_; apply zP; rfl; rfl; rfl; (apply g_build; rfl; rfl; rfl; rfl); refine xBa ?_; intro _; refine xSt ?_; refine zY ?_; refine zX (zZ ?_); refine xAs ?_; refine zY ?_; refine zX ?_; refine zX (zZ ?_); refine xAs ?_; refine zY ?_; refine zK ?_; simp only [zQ, zV, zU, zW, zG, ↓reduceIte, Nat.reduceEqDiff]; rotate_left
  (all_goals (repeat (rename BV _ _ => hbv; first | cases hbv | clear hbv)))
  all_goals (try (first | cases ‹true = false› | cases ‹false = true›))
  rename Nat => b5; revert b5; rename Nat => b4; revert b4
  intro b4 b5
  refine ex_loop (fun (z : Nat × Option Ey × Option Ey) => (⟨[(0, sls l), (1, .int .i64 n), (4, .ptr b4 0), (5, .ptr b5 0), (6, .int .i64 (ixO z.2.2)), (7, .int .i64 z.1)], .cells b5 [.int .i64 n, .int .i64 0, .int .i64 (ix1 z.2.1), .slv nilS] 64 :: .cells b4 [.int .i64 0, .int .i64 0, .int .i64 0, .slv nilS] 64 :: σ, [], Tryz.f41.ntmps⟩ : St)) (fun z => (z.1 ≤ l.length ∧ OptE l z.1 z.2.1 ∧ OptE l z.1 z.2.2) ∧ z.2.1 = (givs (entN l n z.1)).foldl givF none ∧ z.2.2 = (lents (entN l n z.1)).foldl lentF none) (fun z => l.length - z.1) (0, none, none) (⟨⟨Nat.zero_le _, optE_none _ _, optE_none _ _⟩, rfl, rfl⟩) (St.le_of (by repeat (first | exact trivial | refine ⟨rfl, ?_⟩)) (by repeat (first | exact q_r | apply q_q | apply q_k))) ?_
  intro z hI
  obtain ⟨i, og, ol⟩ := z
  obtain ⟨⟨hI1, hI2, hI3⟩, hI4, hI5⟩ := hI
  dsimp only at hI1 hI2 hI3 hI4 hI5 ⊢
  refine ex_len (t := 0) rfl ((List.length_map _).symm) (fun hlen => ?_)
  by_cases hi : i < l.length
  · obtain ⟨s, hs⟩ : ∃ s, l[i]? = some s := get_some hi
    have hgs := sl_get hs
    have cc := counts_c l i s hs (hb.seq s (List.mem_of_getElem? hs))
    by_cases hin : cntB l s = true ∧ s.turn = n
    · obtain ⟨hcn, htn⟩ := hin
      have hst := entN_in hs hcn htn
      rw [hcn] at cc
      by_cases hk2 : s.kind = 2
      · obtain ⟨e1, e2⟩ := lents_in (E := entN l n i) (e := (i, s)) hk2
        have n1 : og = (givs (entN l n (i + 1))).foldl givF none := by rw [hst, e2]; exact hI4
        have n2 : lentF ol (i, s) = (lents (entN l n (i + 1))).foldl lentF none := by rw [hst, e1, List.foldl_append, ← hI5]; rfl
        clear hI4 hI5 hst e1 e2 hcn
        cases ol with
        | none =>
          dsimp only [ixO] at n2 ⊢
          refine zX ?_; refine zX (zZ ?_); refine xMv ?_; refine xMv ?_; refine xLn ?_; refine xBi ?_; intro _ _; refine zY ?_; refine q_c (fun h h_k => ?_) (fun h h_k => ?_) <;> ((try subst h_k); (have hp := h; try simp only [q_n] at hp); (try (exfalso; first | omega | (cases hp; done))));
          refine zR ?_; refine zX ?_; refine zK ?_; refine zX (zZ ?_); refine xMv ?_; refine xMv ?_; apply exl_isB; rfl; rfl; rfl; (refine zJ rfl rfl (zT (by kernel_rfl)) ?_; exact cc _); intro _ _; refine xAs ?_; refine zY ?_; refine zX ?_; refine zX (zZ ?_); refine xMv ?_; refine xNo ?_; intro _ _; refine xMv ?_; refine q_d (fun h h_k => ?_) (fun h h_k => ?_) <;> ((try subst h_k); (have hp := h; try simp only [q_n] at hp); (try (exfalso; first | omega | (cases hp; done))));
          refine xSk ?_; refine xSk ?_; refine xSk ?_; refine xSk ?_; refine xSk ?_; refine xSk ?_; refine xSk ?_; refine xPt ?_; refine zY ?_; refine ex_cond_t rfl (by rfl) ?_; refine ex_exit ?_; refine zZ ?_; refine xMv ?_; refine xAd ?_; refine xAs ?_; refine zN ?_; simp only [zQ, zV, zU, zW, zG, ↓reduceIte, Nat.reduceEqDiff]; rotate_left; refine yMv ?_; refine yMv ?_; refine yIx ?_; refine yFa ?_; refine yLd ?_; refine yMv ?_; refine yBi ?_; intro _ _; refine xPf ?_; refine zY ?_; refine q_c (fun h h_k => ?_) (fun h h_k => ?_) <;> ((try subst h_k); (have hp := h; try simp only [q_n] at hp); (try (exfalso; first | omega | (cases hp; done))));
          refine zR ?_; refine zX ?_; refine zX (zZ ?_); refine xMv ?_; refine xMv ?_; refine xIx ?_; refine xFa ?_; refine xLd ?_; refine xBi ?_; intro _ _; refine zY ?_; refine q_c (fun h h_k => ?_) (fun h h_k => ?_) <;> ((try subst h_k); (have hp := h; try simp only [q_n] at hp); (try (exfalso; first | omega | (cases hp; done))));
          refine zX ?_; refine zX ?_; refine ex_drawC rfl rfl (by kernel_rfl) rfl ?_; refine ex_drawQ rfl (by kernel_rfl) rfl ?_; refine wMv ?_; refine wBi ?_; intro _ _; refine wMv ?_; refine q_w (fun h h_k => ?_) (fun h h_k => ?_) <;> ((try subst h_k); (have hp := h; try simp only [q_n] at hp); (try (exfalso; first | omega | (cases hp; done))));
          refine wSk ?_; refine wSk ?_; refine wSk ?_; refine wSk ?_; refine wSk ?_; refine wSk ?_; refine wSk ?_; refine wSk ?_; refine wSk ?_; apply zF; rfl; rfl; rfl; (intro σ' hl; (apply g_pick_t; rfl; (rfl); rfl)); refine wl_nil ?_; show EX _ _ _ _ _; refine ex_cond_t rfl (by rfl) ?_; refine zZ ?_; refine xMv ?_; refine xAs ?_; refine zY ?_; refine ex_exit ?_; refine zZ ?_; refine xMv ?_; refine xAd ?_; refine xAs ?_; refine zN ?_; simp only [zQ, zV, zU, zW, zG, ↓reduceIte, Nat.reduceEqDiff]; rotate_left
          (all_goals (repeat (rename BV _ _ => hbv; first | cases hbv | clear hbv)))
          all_goals (try (first | cases ‹true = false› | cases ‹false = true›))
          refine ⟨(i + 1, og, some (i, s)), ⟨⟨hi, optE_next hI2, optE_here hs⟩, n1, n2⟩, by dsimp only; omega, ?_⟩
          dsimp only [ixO]
          exact q_le
        | some p =>
          obtain ⟨hp1, hp2⟩ := hI3.ok p rfl
          have hgp := sl_get hp1
          have cb := before_c p.2 s
          dsimp only [ixO, lentF] at n2 ⊢
          cases hbf : befS p.2 s with
          | true =>
            rw [hbf] at cb n2
            refine zX ?_; refine zX (zZ ?_); refine xMv ?_; refine xMv ?_; refine xLn ?_; refine xBi ?_; intro _ _; refine zY ?_; refine q_c (fun h h_k => ?_) (fun h h_k => ?_) <;> ((try subst h_k); (have hp := h; try simp only [q_n] at hp); (try (exfalso; first | omega | (cases hp; done))));
            refine zR ?_; refine zX ?_; refine zK ?_; refine zX (zZ ?_); refine xMv ?_; refine xMv ?_; apply exl_isB; rfl; rfl; rfl; (refine zJ rfl rfl (zT (by kernel_rfl)) ?_; exact cc _); intro _ _; refine xAs ?_; refine zY ?_; refine zX ?_; refine zX (zZ ?_); refine xMv ?_; refine xNo ?_; intro _ _; refine xMv ?_; refine q_d (fun h h_k => ?_) (fun h h_k => ?_) <;> ((try subst h_k); (have hp := h; try simp only [q_n] at hp); (try (exfalso; first | omega | (cases hp; done))));
            refine xSk ?_; refine xSk ?_; refine xSk ?_; refine xSk ?_; refine xSk ?_; refine xSk ?_; refine xSk ?_; refine xPt ?_; refine zY ?_; refine ex_cond_t rfl (by rfl) ?_; refine ex_exit ?_; refine zZ ?_; refine xMv ?_; refine xAd ?_; refine xAs ?_; refine zN ?_; simp only [zQ, zV, zU, zW, zG, ↓reduceIte, Nat.reduceEqDiff]; rotate_left; refine yMv ?_; refine yMv ?_; refine yIx ?_; refine yFa ?_; refine yLd ?_; refine yMv ?_; refine yBi ?_; intro _ _; refine xPf ?_; refine zY ?_; refine q_c (fun h h_k => ?_) (fun h h_k => ?_) <;> ((try subst h_k); (have hp := h; try simp only [q_n] at hp); (try (exfalso; first | omega | (cases hp; done))));
            refine zR ?_; refine zX ?_; refine zX (zZ ?_); refine xMv ?_; refine xMv ?_; refine xIx ?_; refine xFa ?_; refine xLd ?_; refine xBi ?_; intro _ _; refine zY ?_; refine q_c (fun h h_k => ?_) (fun h h_k => ?_) <;> ((try subst h_k); (have hp := h; try simp only [q_n] at hp); (try (exfalso; first | omega | (cases hp; done))));
            refine zX ?_; refine zX ?_; refine ex_drawC rfl rfl (by kernel_rfl) rfl ?_; refine ex_drawQ rfl (by kernel_rfl) rfl ?_; refine wMv ?_; refine wBi ?_; intro _ _; refine wMv ?_; refine q_w (fun h h_k => ?_) (fun h h_k => ?_) <;> ((try subst h_k); (have hp := h; try simp only [q_n] at hp); (try (exfalso; first | omega | (cases hp; done))));
            refine vMv ?_; refine vMv ?_; refine vIx ?_; refine vLa ?_; refine vMv ?_; refine vMv ?_; refine vIx ?_; refine vLa ?_; apply wl_isBW; rfl; (rfl); rfl; rfl; (intro σ' hl; (refine zJ rfl rfl (zT (by kernel_rfl)) ?_; exact cb _)); intro _ _; apply zF; rfl; rfl; rfl; (intro σ' hl; (apply g_pick_f; rfl; (rfl); rfl)); refine wl_nil ?_; show EX _ _ _ _ _; refine q_c (fun h h_k => ?_) (fun h h_k => ?_) <;> ((try subst h_k); (have hp := h; try simp only [q_n] at hp); (try (exfalso; first | omega | (cases hp; done))));
            refine zZ ?_; refine xMv ?_; refine xAs ?_; refine zY ?_; refine ex_exit ?_; refine zZ ?_; refine xMv ?_; refine xAd ?_; refine xAs ?_; refine zN ?_; simp only [zQ, zV, zU, zW, zG, ↓reduceIte, Nat.reduceEqDiff]; rotate_left
            (all_goals (repeat (rename BV _ _ => hbv; first | cases hbv | clear hbv)))
            all_goals (try (first | cases ‹true = false› | cases ‹false = true›))
            refine ⟨(i + 1, og, some (i, s)), ⟨⟨hi, optE_next hI2, optE_here hs⟩, n1, n2⟩, by dsimp only; omega, ?_⟩
            dsimp only [ixO]
            exact q_le
          | false =>
            rw [hbf] at cb n2
            refine zX ?_; refine zX (zZ ?_); refine xMv ?_; refine xMv ?_; refine xLn ?_; refine xBi ?_; intro _ _; refine zY ?_; refine q_c (fun h h_k => ?_) (fun h h_k => ?_) <;> ((try subst h_k); (have hp := h; try simp only [q_n] at hp); (try (exfalso; first | omega | (cases hp; done))));
            refine zR ?_; refine zX ?_; refine zK ?_; refine zX (zZ ?_); refine xMv ?_; refine xMv ?_; apply exl_isB; rfl; rfl; rfl; (refine zJ rfl rfl (zT (by kernel_rfl)) ?_; exact cc _); intro _ _; refine xAs ?_; refine zY ?_; refine zX ?_; refine zX (zZ ?_); refine xMv ?_; refine xNo ?_; intro _ _; refine xMv ?_; refine q_d (fun h h_k => ?_) (fun h h_k => ?_) <;> ((try subst h_k); (have hp := h; try simp only [q_n] at hp); (try (exfalso; first | omega | (cases hp; done))));
            refine xSk ?_; refine xSk ?_; refine xSk ?_; refine xSk ?_; refine xSk ?_; refine xSk ?_; refine xSk ?_; refine xPt ?_; refine zY ?_; refine ex_cond_t rfl (by rfl) ?_; refine ex_exit ?_; refine zZ ?_; refine xMv ?_; refine xAd ?_; refine xAs ?_; refine zN ?_; simp only [zQ, zV, zU, zW, zG, ↓reduceIte, Nat.reduceEqDiff]; rotate_left; refine yMv ?_; refine yMv ?_; refine yIx ?_; refine yFa ?_; refine yLd ?_; refine yMv ?_; refine yBi ?_; intro _ _; refine xPf ?_; refine zY ?_; refine q_c (fun h h_k => ?_) (fun h h_k => ?_) <;> ((try subst h_k); (have hp := h; try simp only [q_n] at hp); (try (exfalso; first | omega | (cases hp; done))));
            refine zR ?_; refine zX ?_; refine zX (zZ ?_); refine xMv ?_; refine xMv ?_; refine xIx ?_; refine xFa ?_; refine xLd ?_; refine xBi ?_; intro _ _; refine zY ?_; refine q_c (fun h h_k => ?_) (fun h h_k => ?_) <;> ((try subst h_k); (have hp := h; try simp only [q_n] at hp); (try (exfalso; first | omega | (cases hp; done))));
            refine zX ?_; refine zX ?_; refine ex_drawC rfl rfl (by kernel_rfl) rfl ?_; refine ex_drawQ rfl (by kernel_rfl) rfl ?_; refine wMv ?_; refine wBi ?_; intro _ _; refine wMv ?_; refine q_w (fun h h_k => ?_) (fun h h_k => ?_) <;> ((try subst h_k); (have hp := h; try simp only [q_n] at hp); (try (exfalso; first | omega | (cases hp; done))));
            refine vMv ?_; refine vMv ?_; refine vIx ?_; refine vLa ?_; refine vMv ?_; refine vMv ?_; refine vIx ?_; refine vLa ?_; apply wl_isBW; rfl; (rfl); rfl; rfl; (intro σ' hl; (refine zJ rfl rfl (zT (by kernel_rfl)) ?_; exact cb _)); intro _ _; apply zF; rfl; rfl; rfl; (intro σ' hl; (apply g_pick_f; rfl; (rfl); rfl)); refine wl_nil ?_; show EX _ _ _ _ _; refine q_c (fun h h_k => ?_) (fun h h_k => ?_) <;> ((try subst h_k); (have hp := h; try simp only [q_n] at hp); (try (exfalso; first | omega | (cases hp; done))));
            refine zR ?_; refine ex_exit ?_; refine zZ ?_; refine xMv ?_; refine xAd ?_; refine xAs ?_; refine zN ?_; simp only [zQ, zV, zU, zW, zG, ↓reduceIte, Nat.reduceEqDiff]; rotate_left
            (all_goals (repeat (rename BV _ _ => hbv; first | cases hbv | clear hbv)))
            all_goals (try (first | cases ‹true = false› | cases ‹false = true›))
            refine ⟨(i + 1, og, some p), ⟨⟨hi, optE_next hI2, optE_next hI3⟩, n1, n2⟩, by dsimp only; omega, ?_⟩
            dsimp only [ixO]
            exact q_le
      · obtain ⟨e1, e2⟩ := givs_in (E := entN l n i) (e := (i, s)) hk2
        have n1 : givF og (i, s) = (givs (entN l n (i + 1))).foldl givF none := by rw [hst, e2, List.foldl_append, ← hI4]; rfl
        have n2 : ol = (lents (entN l n (i + 1))).foldl lentF none := by rw [hst, e1]; exact hI5
        clear hI4 hI5 hst e1 e2 hcn
        cases og with
        | none =>
          dsimp only [ix1] at n1 ⊢
          refine zX ?_; refine zX (zZ ?_); refine xMv ?_; refine xMv ?_; refine xLn ?_; refine xBi ?_; intro _ _; refine zY ?_; refine q_c (fun h h_k => ?_) (fun h h_k => ?_) <;> ((try subst h_k); (have hp := h; try simp only [q_n] at hp); (try (exfalso; first | omega | (cases hp; done))));
          refine zR ?_; refine zX ?_; refine zK ?_; refine zX (zZ ?_); refine xMv ?_; refine xMv ?_; apply exl_isB; rfl; rfl; rfl; (refine zJ rfl rfl (zT (by kernel_rfl)) ?_; exact cc _); intro _ _; refine xAs ?_; refine zY ?_; refine zX ?_; refine zX (zZ ?_); refine xMv ?_; refine xNo ?_; intro _ _; refine xMv ?_; refine q_d (fun h h_k => ?_) (fun h h_k => ?_) <;> ((try subst h_k); (have hp := h; try simp only [q_n] at hp); (try (exfalso; first | omega | (cases hp; done))));
          refine xSk ?_; refine xSk ?_; refine xSk ?_; refine xSk ?_; refine xSk ?_; refine xSk ?_; refine xSk ?_; refine xPt ?_; refine zY ?_; refine ex_cond_t rfl (by rfl) ?_; refine ex_exit ?_; refine zZ ?_; refine xMv ?_; refine xAd ?_; refine xAs ?_; refine zN ?_; simp only [zQ, zV, zU, zW, zG, ↓reduceIte, Nat.reduceEqDiff]; rotate_left; refine yMv ?_; refine yMv ?_; refine yIx ?_; refine yFa ?_; refine yLd ?_; refine yMv ?_; refine yBi ?_; intro _ _; refine xPf ?_; refine zY ?_; refine q_c (fun h h_k => ?_) (fun h h_k => ?_) <;> ((try subst h_k); (have hp := h; try simp only [q_n] at hp); (try (exfalso; first | omega | (cases hp; done))));
          refine zR ?_; refine zX ?_; refine zX (zZ ?_); refine xMv ?_; refine xMv ?_; refine xIx ?_; refine xFa ?_; refine xLd ?_; refine xBi ?_; intro _ _; refine zY ?_; refine q_c (fun h h_k => ?_) (fun h h_k => ?_) <;> ((try subst h_k); (have hp := h; try simp only [q_n] at hp); (try (exfalso; first | omega | (cases hp; done))));
          refine zR ?_; refine zX ?_; refine ex_drawC rfl rfl (by kernel_rfl) rfl ?_; refine ex_drawQ rfl (by kernel_rfl) rfl ?_; refine wFa ?_; refine wLd ?_; refine wBi ?_; intro _ _; refine wMv ?_; refine q_w (fun h h_k => ?_) (fun h h_k => ?_) <;> ((try subst h_k); (have hp := h; try simp only [q_n] at hp); (try (exfalso; first | omega | (cases hp; done))));
          refine wSk ?_; refine wSk ?_; refine wSk ?_; refine wSk ?_; refine wSk ?_; refine wSk ?_; refine wSk ?_; refine wSk ?_; refine wSk ?_; refine wSk ?_; refine wSk ?_; apply zF; rfl; rfl; rfl; (intro σ' hl; (apply g_pick_t; rfl; (rfl); rfl)); refine wl_nil ?_; show EX _ _ _ _ _; refine ex_cond_t rfl (by rfl) ?_; refine zZ ?_; refine xMv ?_; refine xAd ?_; refine xFa ?_; refine xSt ?_; refine zN ?_; refine zZ ?_; refine xMv ?_; refine xAd ?_; refine xAs ?_; refine zN ?_; simp only [zQ, zV, zU, zW, zG, ↓reduceIte, Nat.reduceEqDiff]; rotate_left
          (all_goals (repeat (rename BV _ _ => hbv; first | cases hbv | clear hbv)))
          all_goals (try (first | cases ‹true = false› | cases ‹false = true›))
          refine ⟨(i + 1, some (i, s), ol), ⟨⟨hi, optE_here hs, optE_next hI3⟩, n1, n2⟩, by dsimp only; omega, ?_⟩
          dsimp only [ix1]
          exact q_le
        | some p =>
          obtain ⟨hp1, hp2⟩ := hI2.ok p rfl
          have hgp := sl_get hp1
          have cb := before_c s p.2
          have hpz : (p.1 : Int) + 1 - 1 = (p.1 : Int) := by omega
          dsimp only [ix1, givF] at n1 ⊢
          cases hbf : befS s p.2 with
          | true =>
            rw [hbf] at cb n1
            refine zX ?_; refine zX (zZ ?_); refine xMv ?_; refine xMv ?_; refine xLn ?_; refine xBi ?_; intro _ _; refine zY ?_; refine q_c (fun h h_k => ?_) (fun h h_k => ?_) <;> ((try subst h_k); (have hp := h; try simp only [q_n] at hp); (try (exfalso; first | omega | (cases hp; done))));
            refine zR ?_; refine zX ?_; refine zK ?_; refine zX (zZ ?_); refine xMv ?_; refine xMv ?_; apply exl_isB; rfl; rfl; rfl; (refine zJ rfl rfl (zT (by kernel_rfl)) ?_; exact cc _); intro _ _; refine xAs ?_; refine zY ?_; refine zX ?_; refine zX (zZ ?_); refine xMv ?_; refine xNo ?_; intro _ _; refine xMv ?_; refine q_d (fun h h_k => ?_) (fun h h_k => ?_) <;> ((try subst h_k); (have hp := h; try simp only [q_n] at hp); (try (exfalso; first | omega | (cases hp; done))));
            refine xSk ?_; refine xSk ?_; refine xSk ?_; refine xSk ?_; refine xSk ?_; refine xSk ?_; refine xSk ?_; refine xPt ?_; refine zY ?_; refine ex_cond_t rfl (by rfl) ?_; refine ex_exit ?_; refine zZ ?_; refine xMv ?_; refine xAd ?_; refine xAs ?_; refine zN ?_; simp only [zQ, zV, zU, zW, zG, ↓reduceIte, Nat.reduceEqDiff]; rotate_left; refine yMv ?_; refine yMv ?_; refine yIx ?_; refine yFa ?_; refine yLd ?_; refine yMv ?_; refine yBi ?_; intro _ _; refine xPf ?_; refine zY ?_; refine q_c (fun h h_k => ?_) (fun h h_k => ?_) <;> ((try subst h_k); (have hp := h; try simp only [q_n] at hp); (try (exfalso; first | omega | (cases hp; done))));
            refine zR ?_; refine zX ?_; refine zX (zZ ?_); refine xMv ?_; refine xMv ?_; refine xIx ?_; refine xFa ?_; refine xLd ?_; refine xBi ?_; intro _ _; refine zY ?_; refine q_c (fun h h_k => ?_) (fun h h_k => ?_) <;> ((try subst h_k); (have hp := h; try simp only [q_n] at hp); (try (exfalso; first | omega | (cases hp; done))));
            refine zR ?_; refine zX ?_; refine ex_drawC rfl rfl (by kernel_rfl) rfl ?_; refine ex_drawQ rfl (by kernel_rfl) rfl ?_; refine wFa ?_; refine wLd ?_; refine wBi ?_; intro _ _; refine wMv ?_; refine q_w (fun h h_k => ?_) (fun h h_k => ?_) <;> ((try subst h_k); (have hp := h; try simp only [q_n] at hp); (try (exfalso; first | omega | (cases hp; done))));
            refine vMv ?_; refine vMv ?_; refine vIx ?_; refine vLa ?_; refine vMv ?_; refine vFa ?_; refine vLd ?_; apply wl_isW; rfl; (rfl); rfl; rfl; (intro σ' hl; (apply g_sub; rfl; rfl; rfl; exact ⟨by omega, by omega⟩)); refine vIx ?_; refine vLa ?_; apply wl_isBW; rfl; (rfl); rfl; rfl; (intro σ' hl; (refine zJ rfl rfl (zT (by kernel_rfl)) ?_; exact cb _)); intro _ _; apply zF; rfl; rfl; rfl; (intro σ' hl; (apply g_pick_f; rfl; (rfl); rfl)); refine wl_nil ?_; show EX _ _ _ _ _; refine q_c (fun h h_k => ?_) (fun h h_k => ?_) <;> ((try subst h_k); (have hp := h; try simp only [q_n] at hp); (try (exfalso; first | omega | (cases hp; done))));
            refine zZ ?_; refine xMv ?_; refine xAd ?_; refine xFa ?_; refine xSt ?_; refine zN ?_; refine zZ ?_; refine xMv ?_; refine xAd ?_; refine xAs ?_; refine zN ?_; simp only [zQ, zV, zU, zW, zG, ↓reduceIte, Nat.reduceEqDiff]; rotate_left
            (all_goals (repeat (rename BV _ _ => hbv; first | cases hbv | clear hbv)))
            all_goals (try (first | cases ‹true = false› | cases ‹false = true›))
            refine ⟨(i + 1, some (i, s), ol), ⟨⟨hi, optE_here hs, optE_next hI3⟩, n1, n2⟩, by dsimp only; omega, ?_⟩
            dsimp only [ix1]
            exact q_le
          | false =>
            rw [hbf] at cb n1
            refine zX ?_; refine zX (zZ ?_); refine xMv ?_; refine xMv ?_; refine xLn ?_; refine xBi ?_; intro _ _; refine zY ?_; refine q_c (fun h h_k => ?_) (fun h h_k => ?_) <;> ((try subst h_k); (have hp := h; try simp only [q_n] at hp); (try (exfalso; first | omega | (cases hp; done))));
            refine zR ?_; refine zX ?_; refine zK ?_; refine zX (zZ ?_); refine xMv ?_; refine xMv ?_; apply exl_isB; rfl; rfl; rfl; (refine zJ rfl rfl (zT (by kernel_rfl)) ?_; exact cc _); intro _ _; refine xAs ?_; refine zY ?_; refine zX ?_; refine zX (zZ ?_); refine xMv ?_; refine xNo ?_; intro _ _; refine xMv ?_; refine q_d (fun h h_k => ?_) (fun h h_k => ?_) <;> ((try subst h_k); (have hp := h; try simp only [q_n] at hp); (try (exfalso; first | omega | (cases hp; done))));
            refine xSk ?_; refine xSk ?_; refine xSk ?_; refine xSk ?_; refine xSk ?_; refine xSk ?_; refine xSk ?_; refine xPt ?_; refine zY ?_; refine ex_cond_t rfl (by rfl) ?_; refine ex_exit ?_; refine zZ ?_; refine xMv ?_; refine xAd ?_; refine xAs ?_; refine zN ?_; simp only [zQ, zV, zU, zW, zG, ↓reduceIte, Nat.reduceEqDiff]; rotate_left; refine yMv ?_; refine yMv ?_; refine yIx ?_; refine yFa ?_; refine yLd ?_; refine yMv ?_; refine yBi ?_; intro _ _; refine xPf ?_; refine zY ?_; refine q_c (fun h h_k => ?_) (fun h h_k => ?_) <;> ((try subst h_k); (have hp := h; try simp only [q_n] at hp); (try (exfalso; first | omega | (cases hp; done))));
            refine zR ?_; refine zX ?_; refine zX (zZ ?_); refine xMv ?_; refine xMv ?_; refine xIx ?_; refine xFa ?_; refine xLd ?_; refine xBi ?_; intro _ _; refine zY ?_; refine q_c (fun h h_k => ?_) (fun h h_k => ?_) <;> ((try subst h_k); (have hp := h; try simp only [q_n] at hp); (try (exfalso; first | omega | (cases hp; done))));
            refine zR ?_; refine zX ?_; refine ex_drawC rfl rfl (by kernel_rfl) rfl ?_; refine ex_drawQ rfl (by kernel_rfl) rfl ?_; refine wFa ?_; refine wLd ?_; refine wBi ?_; intro _ _; refine wMv ?_; refine q_w (fun h h_k => ?_) (fun h h_k => ?_) <;> ((try subst h_k); (have hp := h; try simp only [q_n] at hp); (try (exfalso; first | omega | (cases hp; done))));
            refine vMv ?_; refine vMv ?_; refine vIx ?_; refine vLa ?_; refine vMv ?_; refine vFa ?_; refine vLd ?_; apply wl_isW; rfl; (rfl); rfl; rfl; (intro σ' hl; (apply g_sub; rfl; rfl; rfl; exact ⟨by omega, by omega⟩)); refine vIx ?_; refine vLa ?_; apply wl_isBW; rfl; (rfl); rfl; rfl; (intro σ' hl; (refine zJ rfl rfl (zT (by kernel_rfl)) ?_; exact cb _)); intro _ _; apply zF; rfl; rfl; rfl; (intro σ' hl; (apply g_pick_f; rfl; (rfl); rfl)); refine wl_nil ?_; show EX _ _ _ _ _; refine q_c (fun h h_k => ?_) (fun h h_k => ?_) <;> ((try subst h_k); (have hp := h; try simp only [q_n] at hp); (try (exfalso; first | omega | (cases hp; done))));
            refine zR ?_; refine zZ ?_; refine xMv ?_; refine xAd ?_; refine xAs ?_; refine zN ?_; simp only [zQ, zV, zU, zW, zG, ↓reduceIte, Nat.reduceEqDiff]; rotate_left
            (all_goals (repeat (rename BV _ _ => hbv; first | cases hbv | clear hbv)))
            all_goals (try (first | cases ‹true = false› | cases ‹false = true›))
            refine ⟨(i + 1, some p, ol), ⟨⟨hi, optE_next hI2, optE_next hI3⟩, n1, n2⟩, by dsimp only; omega, ?_⟩
            dsimp only [ix1]
            exact q_le
    · have hst := entN_out hs hin
      rw [← hst] at hI4 hI5
      clear hst
      cases hcn : cntB l s with
      | false =>
        rw [hcn] at cc hin
        refine zX ?_; refine zX (zZ ?_); refine xMv ?_; refine xMv ?_; refine xLn ?_; refine xBi ?_; intro _ _; refine zY ?_; refine q_c (fun h h_k => ?_) (fun h h_k => ?_) <;> ((try subst h_k); (have hp := h; try simp only [q_n] at hp); (try (exfalso; first | omega | (cases hp; done))));
        refine zR ?_; refine zX ?_; refine zK ?_; refine zX (zZ ?_); refine xMv ?_; refine xMv ?_; apply exl_isB; rfl; rfl; rfl; (refine zJ rfl rfl (zT (by kernel_rfl)) ?_; exact cc _); intro _ _; refine xAs ?_; refine zY ?_; refine zX ?_; refine zX (zZ ?_); refine xMv ?_; refine xNo ?_; intro _ _; refine xMv ?_; refine q_d (fun h h_k => ?_) (fun h h_k => ?_) <;> ((try subst h_k); (have hp := h; try simp only [q_n] at hp); (try (exfalso; first | omega | (cases hp; done))));
        refine xSk ?_; refine xSk ?_; refine xSk ?_; refine xSk ?_; refine xSk ?_; refine xSk ?_; refine xSk ?_; refine xPt ?_; refine zY ?_; refine ex_cond_t rfl (by rfl) ?_; refine ex_exit ?_; refine zZ ?_; refine xMv ?_; refine xAd ?_; refine xAs ?_; refine zN ?_; simp only [zQ, zV, zU, zW, zG, ↓reduceIte, Nat.reduceEqDiff]; rotate_left; refine yMv ?_; refine yMv ?_; refine yIx ?_; refine yFa ?_; refine yLd ?_; refine yMv ?_; refine yBi ?_; intro _ _; refine xPf ?_; refine zY ?_; refine q_c (fun h h_k => ?_) (fun h h_k => ?_) <;> ((try subst h_k); (have hp := h; try simp only [q_n] at hp); (try (exfalso; first | omega | (cases hp; done))));
        refine ex_exit ?_; refine zZ ?_; refine xMv ?_; refine xAd ?_; refine xAs ?_; refine zN ?_; simp only [zQ, zV, zU, zW, zG, ↓reduceIte, Nat.reduceEqDiff]; rotate_left; refine zR ?_; refine zX ?_; refine zX (zZ ?_); refine xMv ?_; refine xMv ?_; refine xIx ?_; refine xFa ?_; refine xLd ?_; refine xBi ?_; intro _ _; refine zY ?_; refine q_c (fun h h_k => ?_) (fun h h_k => ?_) <;> ((try subst h_k); (have hp := h; try simp only [q_n] at hp); (try (exfalso; first | omega | (cases hp; done))));
        refine zX ?_; refine zX ?_; refine ex_drawC rfl rfl (by kernel_rfl) rfl ?_; refine ex_drawQ rfl (by kernel_rfl) rfl ?_; refine wMv ?_; refine wBi ?_; intro _ _; refine wMv ?_; refine q_w (fun h h_k => ?_) (fun h h_k => ?_) <;> ((try subst h_k); (have hp := h; try simp only [q_n] at hp); (try (exfalso; first | omega | (cases hp; done))));
        refine wSk ?_; refine wSk ?_; refine wSk ?_; refine wSk ?_; refine wSk ?_; refine wSk ?_; refine wSk ?_; refine wSk ?_; refine wSk ?_; apply zF; rfl; rfl; rfl; (intro σ' hl; (apply g_pick_t; rfl; (rfl); rfl)); refine wl_nil ?_; show EX _ _ _ _ _; refine ex_cond_t rfl (by rfl) ?_; refine zZ ?_; refine xMv ?_; refine xAs ?_; refine zY ?_; refine ex_exit ?_; refine zZ ?_; refine xMv ?_; refine xAd ?_; refine xAs ?_; refine zN ?_; simp only [zQ, zV, zU, zW, zG, ↓reduceIte, Nat.reduceEqDiff]; rotate_left; refine vMv ?_; refine vMv ?_; simp only [zQ, zV, zU, zW, zG, ↓reduceIte, Nat.reduceEqDiff]; rotate_left; refine zR ?_; refine zX ?_; refine ex_drawC rfl rfl (by kernel_rfl) rfl ?_; refine ex_drawQ rfl (by kernel_rfl) rfl ?_; refine wFa ?_; refine wLd ?_; refine wBi ?_; intro _ _; refine wMv ?_; refine q_w (fun h h_k => ?_) (fun h h_k => ?_) <;> ((try subst h_k); (have hp := h; try simp only [q_n] at hp); (try (exfalso; first | omega | (cases hp; done))));
        refine wSk ?_; refine wSk ?_; refine wSk ?_; refine wSk ?_; refine wSk ?_; refine wSk ?_; refine wSk ?_; refine wSk ?_; refine wSk ?_; refine wSk ?_; refine wSk ?_; apply zF; rfl; rfl; rfl; (intro σ' hl; (apply g_pick_t; rfl; (rfl); rfl)); refine wl_nil ?_; show EX _ _ _ _ _; refine ex_cond_t rfl (by rfl) ?_; refine zZ ?_; refine xMv ?_; refine xAd ?_; refine xFa ?_; refine xSt ?_; refine zN ?_; refine zZ ?_; refine xMv ?_; refine xAd ?_; refine xAs ?_; refine zN ?_; simp only [zQ, zV, zU, zW, zG, ↓reduceIte, Nat.reduceEqDiff]; rotate_left; refine vMv ?_; refine vMv ?_; refine vIx ?_; refine vLa ?_; refine vMv ?_; refine vFa ?_; refine vLd ?_; apply wl_isW; rfl; (rfl); rfl; rfl; (intro σ' hl; (apply g_binInt; rfl; rfl; rfl)); simp only [zQ, zV, zU, zW, zG, ↓reduceIte, Nat.reduceEqDiff]; rotate_left
        (all_goals (repeat (rename BV _ _ => hbv; first | cases hbv | clear hbv)))
        all_goals (try (first | cases ‹true = false› | cases ‹false = true›))
        refine ⟨(i + 1, og, ol), ⟨⟨hi, optE_next hI2, optE_next hI3⟩, hI4, hI5⟩, by dsimp only; omega, ?_⟩
        dsimp only
        exact q_le
      | true =>
        rw [hcn] at cc hin
        have htn : s.turn ≠ n := fun e => hin ⟨rfl, e⟩
        refine zX ?_; refine zX (zZ ?_); refine xMv ?_; refine xMv ?_; refine xLn ?_; refine xBi ?_; intro _ _; refine zY ?_; refine q_c (fun h h_k => ?_) (fun h h_k => ?_) <;> ((try subst h_k); (have hp := h; try simp only [q_n] at hp); (try (exfalso; first | omega | (cases hp; done))));
        refine zR ?_; refine zX ?_; refine zK ?_; refine zX (zZ ?_); refine xMv ?_; refine xMv ?_; apply exl_isB; rfl; rfl; rfl; (refine zJ rfl rfl (zT (by kernel_rfl)) ?_; exact cc _); intro _ _; refine xAs ?_; refine zY ?_; refine zX ?_; refine zX (zZ ?_); refine xMv ?_; refine xNo ?_; intro _ _; refine xMv ?_; refine q_d (fun h h_k => ?_) (fun h h_k => ?_) <;> ((try subst h_k); (have hp := h; try simp only [q_n] at hp); (try (exfalso; first | omega | (cases hp; done))));
        refine xSk ?_; refine xSk ?_; refine xSk ?_; refine xSk ?_; refine xSk ?_; refine xSk ?_; refine xSk ?_; refine xPt ?_; refine zY ?_; refine ex_cond_t rfl (by rfl) ?_; refine ex_exit ?_; refine zZ ?_; refine xMv ?_; refine xAd ?_; refine xAs ?_; refine zN ?_; simp only [zQ, zV, zU, zW, zG, ↓reduceIte, Nat.reduceEqDiff]; rotate_left; refine yMv ?_; refine yMv ?_; refine yIx ?_; refine yFa ?_; refine yLd ?_; refine yMv ?_; refine yBi ?_; intro _ _; refine xPf ?_; refine zY ?_; refine q_c (fun h h_k => ?_) (fun h h_k => ?_) <;> ((try subst h_k); (have hp := h; try simp only [q_n] at hp); (try (exfalso; first | omega | (cases hp; done))));
        refine ex_exit ?_; refine zZ ?_; refine xMv ?_; refine xAd ?_; refine xAs ?_; refine zN ?_; simp only [zQ, zV, zU, zW, zG, ↓reduceIte, Nat.reduceEqDiff]; rotate_left
        (all_goals (repeat (rename BV _ _ => hbv; first | cases hbv | clear hbv)))
        all_goals (try (first | cases ‹true = false› | cases ‹false = true›))
        refine ⟨(i + 1, og, ol), ⟨⟨hi, optE_next hI2, optE_next hI3⟩, hI4, hI5⟩, by dsimp only; omega, ?_⟩
        dsimp only
        exact q_le
  · have e : i = l.length := by omega
    subst e
    rw [entN_all] at hI4 hI5
    clear hI1 hi
    cases og with
    | none =>
      cases ol with
      | none =>
        exfalso
        have g1 := fold_ne giv_ne _ _ hI4.symm
        have g2 := fold_ne lent_ne _ _ hI5.symm
        refine hne (List.eq_nil_iff_forall_not_mem.2 fun e he => ?_)
        by_cases h2 : e.2.kind = 2
        · have : e ∈ lents (entT l n) := List.mem_filter.2 ⟨he, by simpa using h2⟩
          rw [g2] at this; cases this
        · have : e ∈ givs (entT l n) := List.mem_filter.2 ⟨he, by simpa using h2⟩
          rw [g1] at this; cases this
      | some p =>
        obtain ⟨hp1, hp2⟩ := hI3.ok p rfl
        have hgp := sl_get hp1
        have hT : turnR (entT l n) n = ⟨n, p.2.farm, 0, []⟩ := by unfold turnR; rw [← hI4, ← hI5]
        rw [hT]
        dsimp only [ixO, ix1]
        clear hI4 hI5 hT
        refine zX ?_; refine zX (zZ ?_); refine xMv ?_; refine xMv ?_; refine xLn ?_; refine xBi ?_; intro _ _; refine zY ?_; refine q_c (fun h h_k => ?_) (fun h h_k => ?_) <;> ((try subst h_k); (have hp := h; try simp only [q_n] at hp); (try (exfalso; first | omega | (cases hp; done))));
        refine ex_exit ?_; refine zX ?_; refine zX (zZ ?_); refine xFa ?_; refine xLd ?_; refine xBi ?_; intro _ _; refine zY ?_; refine q_c (fun h h_k => ?_) (fun h h_k => ?_) <;> ((try subst h_k); (have hp := h; try simp only [q_n] at hp); (try (exfalso; first | omega | (cases hp; done))));
        refine zX (zZ ?_); refine xMv ?_; refine xMv ?_; refine xIx ?_; refine xFa ?_; refine xLd ?_; refine xFa ?_; refine xSt ?_; refine zY ?_; refine zX (zZ ?_); refine xLa ?_; refine xSt ?_; refine zY ?_; refine zL ?_; simp only [zQ, zV, zU, zW, zG, ↓reduceIte, Nat.reduceEqDiff]; rotate_left
        (all_goals (repeat (rename BV _ _ => hbv; first | cases hbv | clear hbv)))
        all_goals (try (first | cases ‹true = false› | cases ‹false = true›))
        refine q_rq (σ3 := σ) ?_
        exact fin_nil (sz := 1) (.agg (.same (.same (.same (.here .nil)))) .nil) (fin_done .mk)
    | some p =>
      obtain ⟨hp1, hp2⟩ := hI2.ok p rfl
      have hgp := sl_get hp1
      have hpz : (p.1 : Int) + 1 - 1 = (p.1 : Int) := by omega
      have hT : turnR (entT l n) n = ⟨n, p.2.farm, (p.1 : Int) + 1, ((giv1 (entT l n)).filter fun e => !decide (e.1 = p.1)).map fun e => (e.1 : Int)⟩ := by unfold turnR; rw [← hI4]
      have hTw : ((giv1 (entT l n)).filter fun e => !decide (e.1 = p.1)).map (fun e => (e.1 : Int)) = twN l n p.1 l.length := by unfold twN; rw [entN_all]
      rw [hT, hTw]
      dsimp only [ix1]
      clear hI4 hI5 hT hTw
      refine ex_nilRow 3 1 ?_
      refine zX ?_; refine zX (zZ ?_); refine xMv ?_; refine xMv ?_; refine xLn ?_; refine xBi ?_; intro _ _; refine zY ?_; refine q_c (fun h h_k => ?_) (fun h h_k => ?_) <;> ((try subst h_k); (have hp := h; try simp only [q_n] at hp); (try (exfalso; first | omega | (cases hp; done))));
      refine ex_exit ?_; refine zX ?_; refine zX (zZ ?_); refine xFa ?_; refine xLd ?_; refine xBi ?_; intro _ _; refine zY ?_; refine q_c (fun h h_k => ?_) (fun h h_k => ?_) <;> ((try subst h_k); (have hp := h; try simp only [q_n] at hp); (try (exfalso; first | omega | (cases hp; done))));
      refine zR ?_; refine zX (zZ ?_); refine xMv ?_; refine xFa ?_; refine xLd ?_; refine xSu ?_; refine xIx ?_; refine xFa ?_; refine xLd ?_; refine xFa ?_; refine xSt ?_; refine zY ?_; refine zX ?_; refine zX (zZ ?_); refine xAs ?_; refine zY ?_; refine zK ?_; rotate_left
      (all_goals (repeat (rename BV _ _ => hbv; first | cases hbv | clear hbv)))
      all_goals (try (first | cases ‹true = false› | cases ‹false = true›))
      refine ex_loop (fun (z : Nat × Value) => (⟨[(0, sls l), (1, .int .i64 n), (4, .ptr b4 0), (5, .ptr b5 0), (9, .int .i64 z.1)], .row z.2 3 1 ((twN l n p.1 z.1).map intC) :: .cells b5 [.int .i64 n, .int .i64 p.2.farm, .int .i64 ((p.1 : Int) + 1), .slv z.2] 64 :: .cells b4 [.int .i64 0, .int .i64 0, .int .i64 0, .slv nilS] 64 :: σ, [], Tryz.f41.ntmps⟩ : St)) (fun z => z.1 ≤ l.length) (fun z => l.length - z.1) (0, nilS) (Nat.zero_le _) (St.le_of (by repeat (first | exact trivial | refine ⟨rfl, ?_⟩)) (by repeat (first | exact q_r | apply q_q | apply q_k))) ?_
      intro z hI
      obtain ⟨i, v⟩ := z
      dsimp only at hI ⊢
      by_cases hi : i < l.length
      · obtain ⟨s, hs⟩ : ∃ s, l[i]? = some s := get_some hi
        have hgs := sl_get hs
        have cc := counts_c l i s hs (hb.seq s (List.mem_of_getElem? hs))
        have hTl : (twN l n p.1 i).length ≤ 100000 := by have := twN_len l n p.1 i hI; omega
        by_cases hin : cntB l s = true ∧ s.turn = n ∧ s.kind = 1 ∧ i ≠ p.1
        · obtain ⟨hcn, htn, hk1, hip⟩ := hin
          have hst := twN_in hs hcn htn hk1 hip
          rw [hcn] at cc
          generalize twN l n p.1 i = T at hst hTl ⊢
          clear hcn
          refine zX ?_; refine zX (zZ ?_); refine xMv ?_; refine xMv ?_; refine xLn ?_; refine xBi ?_; intro _ _; refine zY ?_; refine q_c (fun h h_k => ?_) (fun h h_k => ?_) <;> ((try subst h_k); (have hp := h; try simp only [q_n] at hp); (try (exfalso; first | omega | (cases hp; done))));
          refine zR ?_; refine zX ?_; refine zK ?_; refine zX (zZ ?_); refine xMv ?_; refine xMv ?_; apply exl_isB; rfl; rfl; rfl; (refine zJ rfl rfl (zT (by kernel_rfl)) ?_; exact cc _); intro _ _; refine xAs ?_; refine zY ?_; refine zX (zZ ?_); refine xMv ?_; refine xMv ?_; refine q_d (fun h h_k => ?_) (fun h h_k => ?_) <;> ((try subst h_k); (have hp := h; try simp only [q_n] at hp); (try (exfalso; first | omega | (cases hp; done))));
          refine yMv ?_; refine yMv ?_; refine yIx ?_; refine yFa ?_; refine yLd ?_; refine yMv ?_; refine yBi ?_; intro _ _; refine xPt ?_; refine xMv ?_; refine q_d (fun h h_k => ?_) (fun h h_k => ?_) <;> ((try subst h_k); (have hp := h; try simp only [q_n] at hp); (try (exfalso; first | omega | (cases hp; done))));
          refine yMv ?_; refine yMv ?_; refine yIx ?_; refine yFa ?_; refine yLd ?_; refine yBi ?_; intro _ _; refine xPt ?_; refine xMv ?_; refine q_d (fun h h_k => ?_) (fun h h_k => ?_) <;> ((try subst h_k); (have hp := h; try simp only [q_n] at hp); (try (exfalso; first | omega | (cases hp; done))));
          refine yMv ?_; refine yFa ?_; refine yLd ?_; apply exl_isW; rfl; (rfl); rfl; rfl; (apply g_sub; rfl; rfl; rfl; exact ⟨by omega, by omega⟩); refine yBi ?_; intro _ _; refine xPt ?_; refine zY ?_; refine q_c (fun h h_k => ?_) (fun h h_k => ?_) <;> ((try subst h_k); (have hp := h; try simp only [q_n] at hp); (try (exfalso; first | omega | (cases hp; done))));
          refine zZ ?_; refine xFa ?_; refine xLd ?_; refine xMv ?_; refine exl_row rfl rfl rfl (by exact g_buildSlice rfl rfl (by decide) rfl rfl (by (simp only [chunkN, List.take_succ_cons, List.take_zero, List.drop_succ_cons, List.drop_zero]; rfl))) ?_; intro _; apply exl_grew; rfl; rfl; rfl; (apply g_append; rfl; rfl; rfl; (intro v'; (exact Upd.there (Upd.here))); (exact .r (by (repeat first | exact q_h | apply q_t | assumption); done)); (intro y hy; simp only [List.mem_map, List.mem_cons, List.not_mem_nil, or_false, List.mem_append] at hy; (focus (obtain ⟨_, _, rfl⟩ := hy; rfl; done))); (refine app_ok ?_ (by kernel_rfl); (try simp only [List.length_append, List.length_map, List.length_cons, List.length_nil, List.length_take, List.length_drop]); omega)); intro _; refine xFa ?_; refine xSt ?_; refine zN ?_; refine zZ ?_; refine xMv ?_; refine xAd ?_; refine xAs ?_; refine zN ?_; simp only [zQ, zV, zU, zW, zG, ↓reduceIte, Nat.reduceEqDiff]; rotate_left
          (all_goals (repeat (rename BV _ _ => hbv; first | cases hbv | clear hbv)))
          all_goals (try (first | cases ‹true = false› | cases ‹false = true›))
          rename Value => v2
          refine ⟨(i + 1, v2), hi, by dsimp only; omega, ?_⟩
          dsimp only
          rw [hst, List.map_append]
          exact q_le
        · have hst := twN_out (n := n) (p := p.1) hs hin
          cases hcn : cntB l s with
          | false =>
            rw [hcn] at cc
            clear hin hcn
            refine zX ?_; refine zX (zZ ?_); refine xMv ?_; refine xMv ?_; refine xLn ?_; refine xBi ?_; intro _ _; refine zY ?_; refine q_c (fun h h_k => ?_) (fun h h_k => ?_) <;> ((try subst h_k); (have hp := h; try simp only [q_n] at hp); (try (exfalso; first | omega | (cases hp; done))));
            refine zR ?_; refine zX ?_; refine zK ?_; refine zX (zZ ?_); refine xMv ?_; refine xMv ?_; apply exl_isB; rfl; rfl; rfl; (refine zJ rfl rfl (zT (by kernel_rfl)) ?_; exact cc _); intro _ _; refine xAs ?_; refine zY ?_; refine zX (zZ ?_); refine xMv ?_; refine xMv ?_; refine q_d (fun h h_k => ?_) (fun h h_k => ?_) <;> ((try subst h_k); (have hp := h; try simp only [q_n] at hp); (try (exfalso; first | omega | (cases hp; done))));
            refine xSk ?_; refine xSk ?_; refine xSk ?_; refine xSk ?_; refine xSk ?_; refine xSk ?_; refine xSk ?_; refine xPf ?_; refine xMv ?_; refine xSk ?_; refine xSk ?_; refine xSk ?_; refine xSk ?_; refine xSk ?_; refine xSk ?_; refine xPf ?_; refine xMv ?_; refine xSk ?_; refine xSk ?_; refine xSk ?_; refine xSk ?_; refine xSk ?_; refine xPf ?_; refine zY ?_; refine ex_cond_f rfl (by rfl) ?_; refine zR ?_; refine zZ ?_; refine xMv ?_; refine xAd ?_; refine xAs ?_; refine zN ?_; simp only [zQ, zV, zU, zW, zG, ↓reduceIte, Nat.reduceEqDiff]; rotate_left
            (all_goals (repeat (rename BV _ _ => hbv; first | cases hbv | clear hbv)))
            all_goals (try (first | cases ‹true = false› | cases ‹false = true›))
            refine ⟨(i + 1, v), hi, by dsimp only; omega, ?_⟩
            dsimp only
            rw [hst]
            exact q_le
          | true =>
            rw [hcn] at cc hin
            by_cases htn : s.turn = n
            · by_cases hk1 : s.kind = 1
              · have hip : i = p.1 := by
                  by_cases e : i = p.1
                  · exact e
                  · exact absurd ⟨rfl, htn, hk1, e⟩ hin
                clear hin hcn
                refine zX ?_; refine zX (zZ ?_); refine xMv ?_; refine xMv ?_; refine xLn ?_; refine xBi ?_; intro _ _; refine zY ?_; refine q_c (fun h h_k => ?_) (fun h h_k => ?_) <;> ((try subst h_k); (have hp := h; try simp only [q_n] at hp); (try (exfalso; first | omega | (cases hp; done))));
                refine zR ?_; refine zX ?_; refine zK ?_; refine zX (zZ ?_); refine xMv ?_; refine xMv ?_; apply exl_isB; rfl; rfl; rfl; (refine zJ rfl rfl (zT (by kernel_rfl)) ?_; exact cc _); intro _ _; refine xAs ?_; refine zY ?_; refine zX (zZ ?_); refine xMv ?_; refine xMv ?_; refine q_d (fun h h_k => ?_) (fun h h_k => ?_) <;> ((try subst h_k); (have hp := h; try simp only [q_n] at hp); (try (exfalso; first | omega | (cases hp; done))));
                refine yMv ?_; refine yMv ?_; refine yIx ?_; refine yFa ?_; refine yLd ?_; refine yMv ?_; refine yBi ?_; intro _ _; refine xPt ?_; refine xMv ?_; refine q_d (fun h h_k => ?_) (fun h h_k => ?_) <;> ((try subst h_k); (have hp := h; try simp only [q_n] at hp); (try (exfalso; first | omega | (cases hp; done))));
                refine yMv ?_; refine yMv ?_; refine yIx ?_; refine yFa ?_; refine yLd ?_; refine yBi ?_; intro _ _; refine xPt ?_; refine xMv ?_; refine q_d (fun h h_k => ?_) (fun h h_k => ?_) <;> ((try subst h_k); (have hp := h; try simp only [q_n] at hp); (try (exfalso; first | omega | (cases hp; done))));
                refine yMv ?_; refine yFa ?_; refine yLd ?_; apply exl_isW; rfl; (rfl); rfl; rfl; (apply g_sub; rfl; rfl; rfl; exact ⟨by omega, by omega⟩); refine yBi ?_; intro _ _; refine xPt ?_; refine zY ?_; refine q_c (fun h h_k => ?_) (fun h h_k => ?_) <;> ((try subst h_k); (have hp := h; try simp only [q_n] at hp); (try (exfalso; first | omega | (cases hp; done))));
                refine zR ?_; refine zZ ?_; refine xMv ?_; refine xAd ?_; refine xAs ?_; refine zN ?_; simp only [zQ, zV, zU, zW, zG, ↓reduceIte, Nat.reduceEqDiff]; rotate_left
                (all_goals (repeat (rename BV _ _ => hbv; first | cases hbv | clear hbv)))
                all_goals (try (first | cases ‹true = false› | cases ‹false = true›))
                refine ⟨(i + 1, v), hi, by dsimp only; omega, ?_⟩
                dsimp only
                rw [hst]
                exact q_le
              · clear hin hcn
                refine zX ?_; refine zX (zZ ?_); refine xMv ?_; refine xMv ?_; refine xLn ?_; refine xBi ?_; intro _ _; refine zY ?_; refine q_c (fun h h_k => ?_) (fun h h_k => ?_) <;> ((try subst h_k); (have hp := h; try simp only [q_n] at hp); (try (exfalso; first | omega | (cases hp; done))));
                refine zR ?_; refine zX ?_; refine zK ?_; refine zX (zZ ?_); refine xMv ?_; refine xMv ?_; apply exl_isB; rfl; rfl; rfl; (refine zJ rfl rfl (zT (by kernel_rfl)) ?_; exact cc _); intro _ _; refine xAs ?_; refine zY ?_; refine zX (zZ ?_); refine xMv ?_; refine xMv ?_; refine q_d (fun h h_k => ?_) (fun h h_k => ?_) <;> ((try subst h_k); (have hp := h; try simp only [q_n] at hp); (try (exfalso; first | omega | (cases hp; done))));
                refine yMv ?_; refine yMv ?_; refine yIx ?_; refine yFa ?_; refine yLd ?_; refine yMv ?_; refine yBi ?_; intro _ _; refine xPt ?_; refine xMv ?_; refine q_d (fun h h_k => ?_) (fun h h_k => ?_) <;> ((try subst h_k); (have hp := h; try simp only [q_n] at hp); (try (exfalso; first | omega | (cases hp; done))));
                refine yMv ?_; refine yMv ?_; refine yIx ?_; refine yFa ?_; refine yLd ?_; refine yBi ?_; intro _ _; refine xPt ?_; refine xMv ?_; refine q_d (fun h h_k => ?_) (fun h h_k => ?_) <;> ((try subst h_k); (have hp := h; try simp only [q_n] at hp); (try (exfalso; first | omega | (cases hp; done))));
                refine xSk ?_; refine xSk ?_; refine xSk ?_; refine xSk ?_; refine xSk ?_; refine xPf ?_; refine zY ?_; refine ex_cond_f rfl (by rfl) ?_; refine zR ?_; refine zZ ?_; refine xMv ?_; refine xAd ?_; refine xAs ?_; refine zN ?_; simp only [zQ, zV, zU, zW, zG, ↓reduceIte, Nat.reduceEqDiff]; rotate_left
                (all_goals (repeat (rename BV _ _ => hbv; first | cases hbv | clear hbv)))
                all_goals (try (first | cases ‹true = false› | cases ‹false = true›))
                refine ⟨(i + 1, v), hi, by dsimp only; omega, ?_⟩
                dsimp only
                rw [hst]
                exact q_le
            · clear hin hcn
              refine zX ?_; refine zX (zZ ?_); refine xMv ?_; refine xMv ?_; refine xLn ?_; refine xBi ?_; intro _ _; refine zY ?_; refine q_c (fun h h_k => ?_) (fun h h_k => ?_) <;> ((try subst h_k); (have hp := h; try simp only [q_n] at hp); (try (exfalso; first | omega | (cases hp; done))));
              refine zR ?_; refine zX ?_; refine zK ?_; refine zX (zZ ?_); refine xMv ?_; refine xMv ?_; apply exl_isB; rfl; rfl; rfl; (refine zJ rfl rfl (zT (by kernel_rfl)) ?_; exact cc _); intro _ _; refine xAs ?_; refine zY ?_; refine zX (zZ ?_); refine xMv ?_; refine xMv ?_; refine q_d (fun h h_k => ?_) (fun h h_k => ?_) <;> ((try subst h_k); (have hp := h; try simp only [q_n] at hp); (try (exfalso; first | omega | (cases hp; done))));
              refine yMv ?_; refine yMv ?_; refine yIx ?_; refine yFa ?_; refine yLd ?_; refine yMv ?_; refine yBi ?_; intro _ _; refine xPt ?_; refine xMv ?_; refine q_d (fun h h_k => ?_) (fun h h_k => ?_) <;> ((try subst h_k); (have hp := h; try simp only [q_n] at hp); (try (exfalso; first | omega | (cases hp; done))));
              refine xSk ?_; refine xSk ?_; refine xSk ?_; refine xSk ?_; refine xSk ?_; refine xSk ?_; refine xPf ?_; refine xMv ?_; refine xSk ?_; refine xSk ?_; refine xSk ?_; refine xSk ?_; refine xSk ?_; refine xPf ?_; refine zY ?_; refine ex_cond_f rfl (by rfl) ?_; refine zR ?_; refine zZ ?_; refine xMv ?_; refine xAd ?_; refine xAs ?_; refine zN ?_; simp only [zQ, zV, zU, zW, zG, ↓reduceIte, Nat.reduceEqDiff]; rotate_left
              (all_goals (repeat (rename BV _ _ => hbv; first | cases hbv | clear hbv)))
              all_goals (try (first | cases ‹true = false› | cases ‹false = true›))
              refine ⟨(i + 1, v), hi, by dsimp only; omega, ?_⟩
              dsimp only
              rw [hst]
              exact q_le
      · have e : i = l.length := by omega
        subst e
        refine zX ?_; refine zX (zZ ?_); refine xMv ?_; refine xMv ?_; refine xLn ?_; refine xBi ?_; intro _ _; refine zY ?_; refine q_c (fun h h_k => ?_) (fun h h_k => ?_) <;> ((try subst h_k); (have hp := h; try simp only [q_n] at hp); (try (exfalso; first | omega | (cases hp; done))));
        refine ex_exit ?_; refine zX (zZ ?_); refine xLa ?_; refine xSt ?_; refine zY ?_; refine zL ?_; simp only [zQ, zV, zU, zW, zG, ↓reduceIte, Nat.reduceEqDiff]; rotate_left
        (all_goals (repeat (rename BV _ _ => hbv; first | cases hbv | clear hbv)))
        all_goals (try (first | cases ‹true = false› | cases ‹false = true›))
        refine q_rq (σ3 := .row v 3 1 ((twN l n p.1 l.length).map intC) :: σ) ?_
        exact fin_seal .here (.agg (.same (.same (.same (.here .nil)))) .nil) (fin_done .mk)
end Go.Proofs.YtkhoengjdfmfaaaGreat
namespace Go.Proofs.YtkhoengjdfmfaaaGreat
theorem book_bks {l : List Sl} (h : checkS l = 0) : BkS l := by
  have h5 := (check_zero.1 h).1
  refine ⟨fun s hs => ?_, by omega⟩
  have := book_seq (check_book h) hs
  omega
theorem next_is {l : List Sl} (n : Int) : (entL l).foldl (nxF n) none = (numsE (entL l)).find? fun m => decide (n < m) := by
  have h := least_fold n (entL l) [] none (by simp [LeastO])
  rw [List.nil_append] at h
  exact least_one h (least_find n)
set_option maxHeartbeats 16000000 in
theorem rturns_c (l : List Sl) (σ : List Ent) : SCall Tryz.prog 14 [.agg [sls l]] σ (Is (.tup [.dl 4 ((turnsS l).1.map tnC), .int .i64 (turnsS l).2]) σ) := by
  refine scall_of Tryz.func14 rfl (by simp) ?_
  have c1 := rcheck_c l
  by_cases h0 : checkS l = 0
  · rw [h0] at c1
    have hbk := check_book h0
    have hbs := book_bks h0
    rw [show turnsS l = ((numsE (entL l)).map (turnS l), 0) by unfold turnsS; rw [if_neg (by rw [h0]; simp)]]
    obtain ⟨M, hM⟩ : ∃ M, numsE (entL l) = M := ⟨_, rfl⟩
    rw [hM]
    have hup := nums_up (entL l)
    rw [hM] at hup
    have hMl : M.length ≤ 512 := by
      rw [← hM]
      exact Nat.le_trans (nums_len _) (Nat.le_trans (entL_len l) (check_zero.1 h0).1)
    have hmem : ∀ n ∈ M, entT l n ≠ [] ∧ (-1 : Int) < n := fun n hn => by
      rw [← hM] at hn
      obtain ⟨e, he, hen⟩ := nums_mem.1 hn
      have h1 := ent_turn hbk he
      refine ⟨fun e0 => ?_, by omega⟩
      have : e ∈ entT l n := entT_mem.2 ⟨he, hen⟩
      rw [e0] at this; cases this
    have x0 := next_c l (-1) hbs
    rw [next_is, hM, find_first (fun x hx => (hmem x hx).2)] at x0
    refine zX (zZ ?_); refine xBb ?_; intro _; refine xAs ?_; refine xAs ?_; refine zY ?_; refine zX (zZ ?_); refine xLa ?_; apply zP; rfl; rfl; rfl; (refine zJ rfl rfl (zT (by kernel_rfl)) ?_; exact c1 _); refine xAs ?_; refine zY ?_; refine zX ?_; refine zX (zZ ?_); refine xMv ?_; refine xBi ?_; intro _ _; refine zY ?_; refine q_c (fun h h_k => ?_) (fun h h_k => ?_) <;> ((try subst h_k); (have hp := h; try simp only [q_n] at hp); (try (exfalso; first | omega | (cases hp; done))));
    refine zR ?_; refine zX (zZ ?_); refine xAs ?_; refine zY ?_; refine zX (zZ ?_); refine xFa ?_; refine xLd ?_; apply zP; rfl; rfl; rfl; (refine zJ rfl rfl (zT (by kernel_rfl)) ?_; exact x0 _); refine xMv ?_; refine xEx ?_; refine xEx ?_; refine xAs ?_; refine xAs ?_; refine zY ?_; refine zX ?_; refine zK ?_; simp only [zQ, zV, zU, zW, zG, ↓reduceIte, Nat.reduceEqDiff]; rotate_left
    (all_goals (repeat (rename BV _ _ => hbv; first | cases hbv | clear hbv)))
    all_goals (try (first | cases ‹true = false› | cases ‹false = true›))
    rename Nat => b1; revert b1
    intro b1
    clear x0 c1
    refine ex_nilRow 64 4 ?_
    refine ex_loop (fun (z : Nat × Value) => (⟨[(1, .ptr b1 0), (5, .slv z.2), (6, .int .i64 (optI M[z.1]?)), (7, .bool (M[z.1]?).isSome)], .row z.2 64 4 (((M.take z.1).map (turnS l)).map tnC) :: .cells b1 [sls l] 24 :: σ, [], Tryz.f14.ntmps⟩ : St)) (fun z => z.1 ≤ M.length) (fun z => M.length - z.1) (0, nilS) (Nat.zero_le _) (St.le_of (by repeat (first | exact trivial | refine ⟨rfl, ?_⟩)) (by repeat (first | exact q_r | apply q_q | apply q_k))) ?_
    intro z hI
    obtain ⟨k, v⟩ := z
    dsimp only at hI ⊢
    by_cases hk : k < M.length
    · obtain ⟨n, hn⟩ : ∃ n, M[k]? = some n := get_some hk
      have ct := turn_c l n hbs (hmem n (List.mem_of_getElem? hn)).1
      rw [turnR_is hbk n] at ct
      have xn := next_c l n hbs
      rw [next_is, hM, find_next hup hn] at xn
      rw [hn]
      dsimp only [optI, Option.isSome]
      have hRl : ((M.take k).map (turnS l)).length ≤ 512 := by rw [List.length_map, List.length_take]; omega
      have hnext : ((M.take (k + 1)).map (turnS l)).map tnC = ((M.take k).map (turnS l)).map tnC ++ [tnC (turnS l n)] := by rw [List.take_add_one, hn]; simp

      generalize (M.take k).map (turnS l) = R at hRl hnext ⊢
      generalize turnS l n = T at ct hnext ⊢
      clear hn hmem hbk
      refine zX ?_; refine zX (zZ ?_); refine xMv ?_; refine zY ?_; refine ex_cond_t rfl (by rfl) ?_; refine zR ?_; refine zK ?_; refine zX (zZ ?_); refine xMv ?_; refine xFa ?_; refine xLd ?_; refine xMv ?_; apply zP; rfl; rfl; rfl; (refine zJ rfl rfl (zT (by kernel_rfl)) ?_; exact ct _); refine exl_row rfl rfl rfl (by exact g_buildSlice rfl rfl (by decide) rfl rfl (by (simp only [chunkN, List.take_succ_cons, List.take_zero, List.drop_succ_cons, List.drop_zero]; rfl))) ?_; intro _; apply exl_grew; rfl; rfl; rfl; (apply g_append; rfl; rfl; rfl; (intro v'; (exact Upd.there (Upd.here))); (exact .r (by (repeat first | exact q_h | apply q_t | assumption); done)); (intro y hy; simp only [List.mem_map, List.mem_cons, List.not_mem_nil, or_false, List.mem_append] at hy; (focus (obtain ⟨_, _, rfl⟩ := hy; rfl; done))); (refine app_ok ?_ (by kernel_rfl); (try simp only [List.length_append, List.length_map, List.length_cons, List.length_nil, List.length_take, List.length_drop]); omega)); intro _; refine xAs ?_; refine zY ?_; refine zZ ?_; refine xFa ?_; refine xLd ?_; refine xMv ?_; apply zP; rfl; rfl; rfl; (refine zJ rfl rfl (zT (by kernel_rfl)) ?_; exact xn _); refine xMv ?_; refine xEx ?_; refine xEx ?_; refine xAs ?_; refine xAs ?_; refine zN ?_; simp only [zQ, zV, zU, zW, zG, ↓reduceIte, Nat.reduceEqDiff]; rotate_left
      (all_goals (repeat (rename BV _ _ => hbv; first | cases hbv | clear hbv)))
      all_goals (try (first | cases ‹true = false› | cases ‹false = true›))
      rename Value => v2
      refine ⟨(k + 1, v2), hk, by dsimp only; omega, ?_⟩
      dsimp only
      rw [hnext]
      exact q_le
    · have e : k = M.length := by omega
      subst e
      rw [List.getElem?_eq_none (Nat.le_refl _), List.take_length]
      dsimp only [optI, Option.isSome]
      refine zX ?_; refine zX (zZ ?_); refine xMv ?_; refine zY ?_; refine ex_cond_f rfl (by rfl) ?_; refine ex_exit ?_; refine zX (zZ ?_); refine xMv ?_; refine xAs ?_; refine xAs ?_; refine zY ?_; refine zL ?_; simp only [zQ, zV, zU, zW, zG, ↓reduceIte, Nat.reduceEqDiff]; rotate_left
      (all_goals (repeat (rename BV _ _ => hbv; first | cases hbv | clear hbv)))
      all_goals (try (first | cases ‹true = false› | cases ‹false = true›))
      refine q_rq (σ3 := .row v 64 4 ((M.map (turnS l)).map tnC) :: σ) ?_
      exact fin_seal .here (.tup (.here (.same .nil)) .nil) (fin_done .mk)
  · rw [show turnsS l = ([], checkS l) by unfold turnsS; rw [if_pos h0]]
    refine zX (zZ ?_); refine xBb ?_; intro _; refine xAs ?_; refine xAs ?_; refine zY ?_; refine zX (zZ ?_); refine xLa ?_; apply zP; rfl; rfl; rfl; (refine zJ rfl rfl (zT (by kernel_rfl)) ?_; exact c1 _); refine xAs ?_; refine zY ?_; refine zX ?_; refine zX (zZ ?_); refine xMv ?_; refine xBi ?_; intro _ _; refine zY ?_; refine q_c (fun h h_k => ?_) (fun h h_k => ?_) <;> ((try subst h_k); (have hp := h; try simp only [q_n] at hp); (try (exfalso; first | omega | (cases hp; done))));
    refine zX (zZ ?_); refine xMv ?_; refine xAs ?_; refine xAs ?_; refine zY ?_; refine zL ?_; simp only [zQ, zV, zU, zW, zG, ↓reduceIte, Nat.reduceEqDiff]; rotate_left
    (all_goals (repeat (rename BV _ _ => hbv; first | cases hbv | clear hbv)))
    all_goals (try (first | cases ‹true = false› | cases ‹false = true›))
    refine q_rq (σ3 := σ) ?_
    exact fin_nil (sz := 4) (.tup (.here (.same .nil)) .nil) (fin_done .mk)
set_option maxHeartbeats 8000000 in
theorem mergeSpec_c (a b : List Sl) : SCall Tryz.prog 3 [.agg [sls a], .agg [sls b]] [] (Is (.bool true) []) := by
  refine scall_of Tryz.func3 rfl (by simp) ?_
  have fa := few_c a
  have fb := few_c b
  have m1 := merge_c a b
  have m2 := rmerge_c a b
  have t1 := fun σ => scall_or' (turns_c a σ)
  have t2 := rturns_c a
  cases ha : fewB a with
  | false =>
    rw [ha] at fa
    clear fb m1 m2 t1 t2
    refine zX (zZ ?_); refine xBb ?_; intro _; refine xBb ?_; intro _; refine xAs ?_; refine zY ?_; refine zX ?_; refine zX (zZ ?_); apply exl_isB; rfl; rfl; rfl; (refine zJ rfl rfl (zT (by kernel_rfl)) ?_; exact sane_c _); intro _ _; refine xNo ?_; intro _ _; refine zY ?_; refine q_c (fun h h_k => ?_) (fun h h_k => ?_) <;> ((try subst h_k); (have hp := h; try simp only [q_n] at hp); (try (exfalso; first | omega | (cases hp; done))));
    refine zX (zZ ?_); refine xAs ?_; refine zY ?_; refine zL ?_; simp only [zQ, zV, zU, zW, zG, ↓reduceIte, Nat.reduceEqDiff]; rotate_left; refine zR ?_; refine zX ?_; refine zX (zZ ?_); refine xLa ?_; apply exl_isB; rfl; rfl; rfl; (refine zJ rfl rfl (zT (by kernel_rfl)) ?_; exact fa _); intro _ _; refine xNo ?_; intro _ _; refine xMv ?_; refine q_d (fun h h_k => ?_) (fun h h_k => ?_) <;> ((try subst h_k); (have hp := h; try simp only [q_n] at hp); (try (exfalso; first | omega | (cases hp; done))));
    refine xSk ?_; refine xSk ?_; refine xSk ?_; refine xPt ?_; refine zY ?_; refine ex_cond_t rfl (by rfl) ?_; refine zX (zZ ?_); refine xAs ?_; refine zY ?_; refine zL ?_; simp only [zQ, zV, zU, zW, zG, ↓reduceIte, Nat.reduceEqDiff]; rotate_left; refine yLa ?_; rotate_left
    (all_goals (repeat (rename BV _ _ => hbv; first | cases hbv | clear hbv)))
    all_goals (try (first | cases ‹true = false› | cases ‹false = true›))
    refine q_ri ?_
    rfl
  | true =>
    cases hb : fewB b with
    | false =>
      rw [ha] at fa; rw [hb] at fb
      clear m1 m2 t1 t2
      refine zX (zZ ?_); refine xBb ?_; intro _; refine xBb ?_; intro _; refine xAs ?_; refine zY ?_; refine zX ?_; refine zX (zZ ?_); apply exl_isB; rfl; rfl; rfl; (refine zJ rfl rfl (zT (by kernel_rfl)) ?_; exact sane_c _); intro _ _; refine xNo ?_; intro _ _; refine zY ?_; refine q_c (fun h h_k => ?_) (fun h h_k => ?_) <;> ((try subst h_k); (have hp := h; try simp only [q_n] at hp); (try (exfalso; first | omega | (cases hp; done))));
      refine zX (zZ ?_); refine xAs ?_; refine zY ?_; refine zL ?_; simp only [zQ, zV, zU, zW, zG, ↓reduceIte, Nat.reduceEqDiff]; rotate_left; refine zR ?_; refine zX ?_; refine zX (zZ ?_); refine xLa ?_; apply exl_isB; rfl; rfl; rfl; (refine zJ rfl rfl (zT (by kernel_rfl)) ?_; exact fa _); intro _ _; refine xNo ?_; intro _ _; refine xMv ?_; refine q_d (fun h h_k => ?_) (fun h h_k => ?_) <;> ((try subst h_k); (have hp := h; try simp only [q_n] at hp); (try (exfalso; first | omega | (cases hp; done))));
      refine xSk ?_; refine xSk ?_; refine xSk ?_; refine xPt ?_; refine zY ?_; refine ex_cond_t rfl (by rfl) ?_; refine zX (zZ ?_); refine xAs ?_; refine zY ?_; refine zL ?_; simp only [zQ, zV, zU, zW, zG, ↓reduceIte, Nat.reduceEqDiff]; rotate_left; refine yLa ?_; apply exl_isBW; rfl; (rfl); rfl; rfl; (refine zJ rfl rfl (zT (by kernel_rfl)) ?_; exact fb _); intro _ _; refine yNo ?_; intro _ _; refine xPf ?_; refine zY ?_; refine q_c (fun h h_k => ?_) (fun h h_k => ?_) <;> ((try subst h_k); (have hp := h; try simp only [q_n] at hp); (try (exfalso; first | omega | (cases hp; done))));
      refine zX (zZ ?_); refine xAs ?_; refine zY ?_; refine zL ?_; simp only [zQ, zV, zU, zW, zG, ↓reduceIte, Nat.reduceEqDiff]; rotate_left; refine zR ?_; refine zX (zZ ?_); refine xLa ?_; refine xLa ?_; rotate_left
      (all_goals (repeat (rename BV _ _ => hbv; first | cases hbv | clear hbv)))
      all_goals (try (first | cases ‹true = false› | cases ‹false = true›))
      refine q_ri ?_
      rfl
    | true =>
      rw [ha] at fa; rw [hb] at fb
      clear ha hb
      have s1 := same_c (mergeS a b).1
      have s2 := sameTurns_c (turnsS a).1
      generalize (mergeS a b).1 = o at m1 m2 s1
      generalize (mergeS a b).2 = e at m1 m2
      generalize (turnsS a).1 = T at t1 t2 s2
      generalize (turnsS a).2 = f at t1 t2
      refine zX (zZ ?_); refine xBb ?_; intro _; refine xBb ?_; intro _; refine xAs ?_; refine zY ?_; refine zX ?_; refine zX (zZ ?_); apply exl_isB; rfl; rfl; rfl; (refine zJ rfl rfl (zT (by kernel_rfl)) ?_; exact sane_c _); intro _ _; refine xNo ?_; intro _ _; refine zY ?_; refine q_c (fun h h_k => ?_) (fun h h_k => ?_) <;> ((try subst h_k); (have hp := h; try simp only [q_n] at hp); (try (exfalso; first | omega | (cases hp; done))));
      refine zX (zZ ?_); refine xAs ?_; refine zY ?_; refine zL ?_; simp only [zQ, zV, zU, zW, zG, ↓reduceIte, Nat.reduceEqDiff]; rotate_left; refine zR ?_; refine zX ?_; refine zX (zZ ?_); refine xLa ?_; apply exl_isB; rfl; rfl; rfl; (refine zJ rfl rfl (zT (by kernel_rfl)) ?_; exact fa _); intro _ _; refine xNo ?_; intro _ _; refine xMv ?_; refine q_d (fun h h_k => ?_) (fun h h_k => ?_) <;> ((try subst h_k); (have hp := h; try simp only [q_n] at hp); (try (exfalso; first | omega | (cases hp; done))));
      refine xSk ?_; refine xSk ?_; refine xSk ?_; refine xPt ?_; refine zY ?_; refine ex_cond_t rfl (by rfl) ?_; refine zX (zZ ?_); refine xAs ?_; refine zY ?_; refine zL ?_; simp only [zQ, zV, zU, zW, zG, ↓reduceIte, Nat.reduceEqDiff]; rotate_left; refine yLa ?_; apply exl_isBW; rfl; (rfl); rfl; rfl; (refine zJ rfl rfl (zT (by kernel_rfl)) ?_; exact fb _); intro _ _; refine yNo ?_; intro _ _; refine xPf ?_; refine zY ?_; refine q_c (fun h h_k => ?_) (fun h h_k => ?_) <;> ((try subst h_k); (have hp := h; try simp only [q_n] at hp); (try (exfalso; first | omega | (cases hp; done))));
      refine zX (zZ ?_); refine xAs ?_; refine zY ?_; refine zL ?_; simp only [zQ, zV, zU, zW, zG, ↓reduceIte, Nat.reduceEqDiff]; rotate_left; refine zR ?_; refine zX (zZ ?_); refine xLa ?_; refine xLa ?_; apply zP; rfl; rfl; rfl; (refine zJ rfl rfl (zT (by kernel_rfl)) ?_; exact m1 _); refine xMv ?_; refine xEx ?_; refine xEx ?_; refine xBa ?_; intro _; refine xSt ?_; refine xAs ?_; refine zY ?_; refine zX (zZ ?_); refine xLa ?_; refine xLa ?_; apply zP; rfl; rfl; rfl; (refine zJ rfl rfl (zT (by kernel_rfl)) ?_; exact m2 _); refine xMv ?_; refine xEx ?_; refine xEx ?_; refine xBa ?_; intro _; refine xSt ?_; refine xAs ?_; refine zY ?_; refine zX (zZ ?_); refine xLa ?_; apply zP; rfl; rfl; rfl; (refine zJ rfl rfl (zT (by kernel_rfl)) ?_; exact t1 _); refine xMv ?_; refine xEx ?_; refine xEx ?_; refine xAs ?_; refine xAs ?_; refine zY ?_; refine zX (zZ ?_); refine xLa ?_; apply zP; rfl; rfl; rfl; (refine zJ rfl rfl (zT (by kernel_rfl)) ?_; exact t2 _); refine xMv ?_; refine xEx ?_; refine xEx ?_; refine xAs ?_; refine xAs ?_; refine zY ?_; refine zX (zZ ?_); refine xLa ?_; refine xLa ?_; apply exl_isB; rfl; rfl; rfl; (refine zJ rfl rfl (zT (by kernel_rfl)) ?_; exact s1 _); intro _ _; refine xMv ?_; refine q_d (fun h h_k => ?_) (fun h h_k => ?_) <;> ((try subst h_k); (have hp := h; try simp only [q_n] at hp); (try (exfalso; first | omega | (cases hp; done))));
      refine yMv ?_; refine yMv ?_; refine yBi ?_; intro _ _; refine xPt ?_; refine xMv ?_; refine q_d (fun h h_k => ?_) (fun h h_k => ?_) <;> ((try subst h_k); (have hp := h; try simp only [q_n] at hp); (try (exfalso; first | omega | (cases hp; done))));
      refine yMv ?_; refine yMv ?_; apply exl_isBW; rfl; (rfl); rfl; rfl; (refine zJ rfl rfl (zT (by kernel_rfl)) ?_; exact s2 _); intro _ _; refine xPt ?_; refine xMv ?_; refine q_d (fun h h_k => ?_) (fun h h_k => ?_) <;> ((try subst h_k); (have hp := h; try simp only [q_n] at hp); (try (exfalso; first | omega | (cases hp; done))));
      refine yMv ?_; refine yMv ?_; refine yBi ?_; intro _ _; refine xPt ?_; refine xAs ?_; refine zY ?_; refine zL ?_; simp only [zQ, zV, zU, zW, zG, ↓reduceIte, Nat.reduceEqDiff]; rotate_left
      (all_goals (repeat (rename BV _ _ => hbv; first | cases hbv | clear hbv)))
      all_goals (try (first | cases ‹true = false› | cases ‹false = true›))
      all_goals
        refine q_ri (bool_eq ?_)
        simp
end Go.Proofs.YtkhoengjdfmfaaaGreat
namespace Go.Proofs.YtkhoengjdfmfaaaGreat
def slS : Sh := .agg [.int .i64, .int .i64, .int .i64, .int .i64, .int .i64, .int .i64, .int .i64, .int .i64]
def bkS : Sh := .agg [.slice slS]
theorem fits_sl {l : List AV} (h : Fits slS l) : ∃ s : Sl, l = slC s := by
  simp only [slS, Fits, Fitss] at h
  obtain ⟨_, _, rfl, ⟨a, rfl, _⟩, _, _, rfl, ⟨b, rfl, _⟩, _, _, rfl, ⟨c, rfl, _⟩, _, _, rfl, ⟨d, rfl, _⟩, _, _, rfl, ⟨e, rfl, _⟩, _, _, rfl, ⟨f, rfl, _⟩, _, _, rfl, ⟨g, rfl, _⟩, _, _, rfl, ⟨i, rfl, _⟩, rfl⟩ := h
  exact ⟨⟨a, b, c, d, e, f, g, i⟩, rfl⟩
theorem fits_bk {l : List AV} (h : Fits bkS l) : ∃ xs : List Sl, l = [sls xs] := by
  unfold bkS at h
  rw [Fits] at h
  simp only [Fitss] at h
  obtain ⟨_, _, rfl, h1, rfl⟩ := h
  obtain ⟨xs, rfl, _⟩ := fits_slice (f := slC) (p := fun _ => True) (fun x hx => by obtain ⟨n, rfl⟩ := fits_sl hx; exact ⟨n, rfl, trivial⟩) h1
  exact ⟨xs, rfl⟩
end Go.Proofs.YtkhoengjdfmfaaaGreat
