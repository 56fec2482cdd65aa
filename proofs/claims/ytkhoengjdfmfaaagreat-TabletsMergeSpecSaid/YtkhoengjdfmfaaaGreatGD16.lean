/- Parts of the proof that belong together: Yb Yc Yd. -/
import Derived.Test.YtkhoengjdfmfaaaGreatGD15
set_option maxRecDepth 10000
set_option linter.unusedSimpArgs false
set_option linter.unusedVariables false
namespace Go.Proofs.YtkhoengjdfmfaaaGreat
set_option maxHeartbeats 2000000 in
theorem rcheck_c (l : List Sl) (σ : List Ent) : SCall Tryz.prog 30 [.agg [sls l]] σ (Is (.int .i64 (checkS l)) σ) := by
  refine scall_of Tryz.func30 rfl (by simp) ?_
  have cv := rvalid_c l
  unfold checkS
  cases hb : bookB l with
  | true =>
    rw [hb] at cv
    by_cases h : (512 : Int) < l.length
    · rw [if_pos h]
      refine zX (zZ ?_); refine xBb ?_; intro _; refine xAs ?_; refine zY ?_; refine zX ?_; refine zX (zZ ?_); refine xFa ?_; refine xLd ?_; refine xLn ?_; refine xBi ?_; intro _ _; refine zY ?_; refine q_c (fun h h_k => ?_) (fun h h_k => ?_) <;> ((try subst h_k); (have hp := h; try simp only [q_n] at hp); (try (exfalso; first | omega | (cases hp; done))));
      refine zX (zZ ?_); refine xAs ?_; refine zY ?_; refine zL ?_; simp only [zQ, zV, zU, zW, zG, ↓reduceIte, Nat.reduceEqDiff]; rotate_left
      (all_goals (repeat (rename BV _ _ => hbv; first | cases hbv | clear hbv)))
      all_goals (try (first | cases ‹true = false› | cases ‹false = true›))
      refine q_ri ?_
      rfl
    · rw [if_neg h]
      refine zX (zZ ?_); refine xBb ?_; intro _; refine xAs ?_; refine zY ?_; refine zX ?_; refine zX (zZ ?_); refine xFa ?_; refine xLd ?_; refine xLn ?_; refine xBi ?_; intro _ _; refine zY ?_; refine q_c (fun h h_k => ?_) (fun h h_k => ?_) <;> ((try subst h_k); (have hp := h; try simp only [q_n] at hp); (try (exfalso; first | omega | (cases hp; done))));
      refine zR ?_; refine zX ?_; refine zX (zZ ?_); refine xFa ?_; refine xLd ?_; apply exl_isB; rfl; rfl; rfl; (refine zJ rfl rfl (zT (by kernel_rfl)) ?_; exact cv _); intro _ _; refine xNo ?_; intro _ _; refine zY ?_; refine q_c (fun h h_k => ?_) (fun h h_k => ?_) <;> ((try subst h_k); (have hp := h; try simp only [q_n] at hp); (try (exfalso; first | omega | (cases hp; done))));
      refine zX (zZ ?_); refine xAs ?_; refine zY ?_; refine zL ?_; simp only [zQ, zV, zU, zW, zG, ↓reduceIte, Nat.reduceEqDiff]; rotate_left; refine zR ?_; refine zX (zZ ?_); refine xAs ?_; refine zY ?_; refine zL ?_; simp only [zQ, zV, zU, zW, zG, ↓reduceIte, Nat.reduceEqDiff]; rotate_left
      (all_goals (repeat (rename BV _ _ => hbv; first | cases hbv | clear hbv)))
      all_goals (try (first | cases ‹true = false› | cases ‹false = true›))
      refine q_ri ?_
      rfl
  | false =>
    rw [hb] at cv
    by_cases h : (512 : Int) < l.length
    · rw [if_pos h]
      refine zX (zZ ?_); refine xBb ?_; intro _; refine xAs ?_; refine zY ?_; refine zX ?_; refine zX (zZ ?_); refine xFa ?_; refine xLd ?_; refine xLn ?_; refine xBi ?_; intro _ _; refine zY ?_; refine q_c (fun h h_k => ?_) (fun h h_k => ?_) <;> ((try subst h_k); (have hp := h; try simp only [q_n] at hp); (try (exfalso; first | omega | (cases hp; done))));
      refine zX (zZ ?_); refine xAs ?_; refine zY ?_; refine zL ?_; simp only [zQ, zV, zU, zW, zG, ↓reduceIte, Nat.reduceEqDiff]; rotate_left
      (all_goals (repeat (rename BV _ _ => hbv; first | cases hbv | clear hbv)))
      all_goals (try (first | cases ‹true = false› | cases ‹false = true›))
      refine q_ri ?_
      rfl
    · rw [if_neg h]
      refine zX (zZ ?_); refine xBb ?_; intro _; refine xAs ?_; refine zY ?_; refine zX ?_; refine zX (zZ ?_); refine xFa ?_; refine xLd ?_; refine xLn ?_; refine xBi ?_; intro _ _; refine zY ?_; refine q_c (fun h h_k => ?_) (fun h h_k => ?_) <;> ((try subst h_k); (have hp := h; try simp only [q_n] at hp); (try (exfalso; first | omega | (cases hp; done))));
      refine zR ?_; refine zX ?_; refine zX (zZ ?_); refine xFa ?_; refine xLd ?_; apply exl_isB; rfl; rfl; rfl; (refine zJ rfl rfl (zT (by kernel_rfl)) ?_; exact cv _); intro _ _; refine xNo ?_; intro _ _; refine zY ?_; refine q_c (fun h h_k => ?_) (fun h h_k => ?_) <;> ((try subst h_k); (have hp := h; try simp only [q_n] at hp); (try (exfalso; first | omega | (cases hp; done))));
      refine zX (zZ ?_); refine xAs ?_; refine zY ?_; refine zL ?_; simp only [zQ, zV, zU, zW, zG, ↓reduceIte, Nat.reduceEqDiff]; rotate_left; refine zR ?_; refine zX (zZ ?_); refine xAs ?_; refine zY ?_; refine zL ?_; simp only [zQ, zV, zU, zW, zG, ↓reduceIte, Nat.reduceEqDiff]; rotate_left
      (all_goals (repeat (rename BV _ _ => hbv; first | cases hbv | clear hbv)))
      all_goals (try (first | cases ‹true = false› | cases ‹false = true›))
      refine q_ri ?_
      rfl
def findI (l : List Sl) (t s : Int) : Int := match findS l t s with
  | some k => (k : Int)
  | none => -1
set_option maxHeartbeats 4000000 in
theorem rfind_c (l : List Sl) (t s : Int) (σ : List Ent) : SCall Tryz.prog 31 [sls l, .int .i64 t, .int .i64 s] σ (Is (.int .i64 (findI l t s)) σ) := by
  refine scall_of Tryz.func31 rfl (by simp) ?_
  obtain ⟨R, hR⟩ : ∃ R, findI l t s = R := ⟨_, rfl⟩
  rw [hR]
  refine zX (zZ ?_); refine xAs ?_; refine zY ?_; refine zX ?_; refine zX (zZ ?_); refine xAs ?_; refine zY ?_; refine zK ?_; rotate_left
  (all_goals (repeat (rename BV _ _ => hbv; first | cases hbv | clear hbv)))
  all_goals (try (first | cases ‹true = false› | cases ‹false = true›))
  refine ex_loop (fun (k : Nat) => (⟨[(0, sls l), (1, .int .i64 t), (2, .int .i64 s), (7, .int .i64 k)], σ, [], Tryz.f31.ntmps⟩ : St)) (fun k => k ≤ l.length ∧ ∀ x ∈ l.take k, ¬ (x.tab = t ∧ x.seq = s)) (fun k => l.length - k) 0 (⟨Nat.zero_le _, by simp⟩) (St.le_of (by repeat (first | exact trivial | refine ⟨rfl, ?_⟩)) (by repeat (first | exact q_r | apply q_q | apply q_k))) ?_
  intro k hI
  obtain ⟨hI1, hI2⟩ := hI
  refine ex_len (t := 0) rfl ((List.length_map _).symm) (fun hlen => ?_)
  by_cases hk : k < l.length
  · obtain ⟨c, hc⟩ : ∃ c, l[k]? = some c := get_some hk
    have hgc := sl_get hc
    by_cases h : c.tab = t ∧ c.seq = s
    · have hRv : R = k := by rw [← hR]; unfold findI; rw [find_some hc h hI2]
      rw [hRv]
      obtain ⟨h1, h2⟩ := h
      clear hI2 hR
      refine zX ?_; refine zX (zZ ?_); refine xMv ?_; refine xMv ?_; refine xLn ?_; refine xBi ?_; intro _ _; refine zY ?_; refine q_c (fun h h_k => ?_) (fun h h_k => ?_) <;> ((try subst h_k); (have hp := h; try simp only [q_n] at hp); (try (exfalso; first | omega | (cases hp; done))));
      refine zR ?_; refine zX ?_; refine zK ?_; refine zX (zZ ?_); refine xMv ?_; refine xMv ?_; refine xIx ?_; refine xFa ?_; refine xLd ?_; refine xMv ?_; refine xBi ?_; intro _ _; refine xMv ?_; refine q_d (fun h h_k => ?_) (fun h h_k => ?_) <;> ((try subst h_k); (have hp := h; try simp only [q_n] at hp); (try (exfalso; first | omega | (cases hp; done))));
      refine yMv ?_; refine yMv ?_; refine yIx ?_; refine yFa ?_; refine yLd ?_; refine yMv ?_; refine yBi ?_; intro _ _; refine xPt ?_; refine zY ?_; refine q_c (fun h h_k => ?_) (fun h h_k => ?_) <;> ((try subst h_k); (have hp := h; try simp only [q_n] at hp); (try (exfalso; first | omega | (cases hp; done))));
      refine zX (zZ ?_); refine xMv ?_; refine xAs ?_; refine zY ?_; refine zL ?_; simp only [zQ, zV, zU, zW, zG, ↓reduceIte, Nat.reduceEqDiff]; rotate_left
      (all_goals (repeat (rename BV _ _ => hbv; first | cases hbv | clear hbv)))
      all_goals (try (first | cases ‹true = false› | cases ‹false = true›))
      refine q_ri ?_
      rfl
    · have hn : ∀ x ∈ l.take (k + 1), ¬ (x.tab = t ∧ x.seq = s) := fun x hx => by
        rcases (take_next hc).1 hx with hx | rfl
        · exact hI2 x hx
        · exact h
      clear hI2 hR
      by_cases h1 : c.tab = t
      · have h2 : c.seq ≠ s := fun e => h ⟨h1, e⟩
        clear h
        refine zX ?_; refine zX (zZ ?_); refine xMv ?_; refine xMv ?_; refine xLn ?_; refine xBi ?_; intro _ _; refine zY ?_; refine q_c (fun h h_k => ?_) (fun h h_k => ?_) <;> ((try subst h_k); (have hp := h; try simp only [q_n] at hp); (try (exfalso; first | omega | (cases hp; done))));
        refine zR ?_; refine zX ?_; refine zK ?_; refine zX (zZ ?_); refine xMv ?_; refine xMv ?_; refine xIx ?_; refine xFa ?_; refine xLd ?_; refine xMv ?_; refine xBi ?_; intro _ _; refine xMv ?_; refine q_d (fun h h_k => ?_) (fun h h_k => ?_) <;> ((try subst h_k); (have hp := h; try simp only [q_n] at hp); (try (exfalso; first | omega | (cases hp; done))));
        refine yMv ?_; refine yMv ?_; refine yIx ?_; refine yFa ?_; refine yLd ?_; refine yMv ?_; refine yBi ?_; intro _ _; refine xPt ?_; refine zY ?_; refine q_c (fun h h_k => ?_) (fun h h_k => ?_) <;> ((try subst h_k); (have hp := h; try simp only [q_n] at hp); (try (exfalso; first | omega | (cases hp; done))));
        refine zR ?_; refine zZ ?_; refine xMv ?_; refine xAd ?_; refine xAs ?_; refine zN ?_; simp only [zQ, zV, zU, zW, zG, ↓reduceIte, Nat.reduceEqDiff]; rotate_left
        (all_goals (repeat (rename BV _ _ => hbv; first | cases hbv | clear hbv)))
        all_goals (try (first | cases ‹true = false› | cases ‹false = true›))
        refine ⟨k + 1, ⟨hk, hn⟩, by omega, ?_⟩
        exact q_le
      · clear h
        refine zX ?_; refine zX (zZ ?_); refine xMv ?_; refine xMv ?_; refine xLn ?_; refine xBi ?_; intro _ _; refine zY ?_; refine q_c (fun h h_k => ?_) (fun h h_k => ?_) <;> ((try subst h_k); (have hp := h; try simp only [q_n] at hp); (try (exfalso; first | omega | (cases hp; done))));
        refine zR ?_; refine zX ?_; refine zK ?_; refine zX (zZ ?_); refine xMv ?_; refine xMv ?_; refine xIx ?_; refine xFa ?_; refine xLd ?_; refine xMv ?_; refine xBi ?_; intro _ _; refine xMv ?_; refine q_d (fun h h_k => ?_) (fun h h_k => ?_) <;> ((try subst h_k); (have hp := h; try simp only [q_n] at hp); (try (exfalso; first | omega | (cases hp; done))));
        refine xSk ?_; refine xSk ?_; refine xSk ?_; refine xSk ?_; refine xSk ?_; refine xSk ?_; refine xSk ?_; refine xPf ?_; refine zY ?_; refine ex_cond_f rfl (by rfl) ?_; refine zR ?_; refine zZ ?_; refine xMv ?_; refine xAd ?_; refine xAs ?_; refine zN ?_; simp only [zQ, zV, zU, zW, zG, ↓reduceIte, Nat.reduceEqDiff]; rotate_left
        (all_goals (repeat (rename BV _ _ => hbv; first | cases hbv | clear hbv)))
        all_goals (try (first | cases ‹true = false› | cases ‹false = true›))
        refine ⟨k + 1, ⟨hk, hn⟩, by omega, ?_⟩
        exact q_le
  · have hRv : R = -1 := by rw [← hR]; unfold findI; rw [find_none (fun x hx => hI2 x (by rw [List.take_of_length_le (by omega)]; exact hx))]
    rw [hRv]
    clear hI2 hR
    refine zX ?_; refine zX (zZ ?_); refine xMv ?_; refine xMv ?_; refine xLn ?_; refine xBi ?_; intro _ _; refine zY ?_; refine q_c (fun h h_k => ?_) (fun h h_k => ?_) <;> ((try subst h_k); (have hp := h; try simp only [q_n] at hp); (try (exfalso; first | omega | (cases hp; done))));
    refine ex_exit ?_; refine zX (zZ ?_); refine xAs ?_; refine zY ?_; refine zL ?_; simp only [zQ, zV, zU, zW, zG, ↓reduceIte, Nat.reduceEqDiff]; rotate_left
    (all_goals (repeat (rename BV _ _ => hbv; first | cases hbv | clear hbv)))
    all_goals (try (first | cases ‹true = false› | cases ‹false = true›))
    refine q_ri ?_
    rfl
set_option maxHeartbeats 8000000 in
theorem rput_c (l : List Sl) (s : Sl) (hup : l.Pairwise fun x y => x.tab ≤ y.tab) (hl5 : l.length ≤ 100000) (σ : List Ent) : SCall Tryz.prog 32 [sls l, slV s] σ (Is (sls (putS l s)) σ) := by
  refine scall_of Tryz.func32 rfl (by simp) ?_
  refine zX (zZ ?_); refine xBb ?_; intro _; refine xAs ?_; refine zY ?_; refine zX (zZ ?_); refine xAs ?_; refine zY ?_; refine zX ?_; refine zK ?_; rotate_left
  (all_goals (repeat (rename BV _ _ => hbv; first | cases hbv | clear hbv)))
  all_goals (try (first | cases ‹true = false› | cases ‹false = true›))
  rename Nat => b3; revert b3
  intro b3
  refine ex_loop (fun (k : Nat) => (⟨[(0, sls l), (3, .ptr b3 0), (5, .int .i64 k)], .cells b3 (slC s) 43 :: σ, [], Tryz.f32.ntmps⟩ : St)) (fun k => k ≤ l.length ∧ ∀ y ∈ l.take k, y.tab ≤ s.tab) (fun k => l.length - k) 0 (⟨Nat.zero_le _, by simp⟩) (St.le_of (by repeat (first | exact trivial | refine ⟨rfl, ?_⟩)) (by repeat (first | exact q_r | apply q_q | apply q_k))) ?_
  intro k hI
  obtain ⟨hI1, hI2⟩ := hI
  refine ex_len (t := 0) rfl ((List.length_map _).symm) (fun hlen => ?_)
  by_cases hgo : ∃ c, l[k]? = some c ∧ c.tab ≤ s.tab
  · obtain ⟨c, hc, hct⟩ := hgo
    have hk := get_lt hc
    have hgc := sl_get hc
    have hn : ∀ y ∈ l.take (k + 1), y.tab ≤ s.tab := fun x hx => by
      rcases (take_next hc).1 hx with hx | rfl
      · exact hI2 x hx
      · exact hct
    clear hI2
    refine zX ?_; refine zX ?_; refine ex_drawP rfl rfl (by kernel_rfl) rfl ?_; refine ex_drawQ rfl (by kernel_rfl) rfl ?_; refine wMv ?_; refine wMv ?_; apply zF; rfl; rfl; rfl; (intro σ' hl; (apply g_len; rfl; rfl; (exact (List.length_map _).symm))); refine wBi ?_; intro _ _; refine wMv ?_; refine q_w (fun h h_k => ?_) (fun h h_k => ?_) <;> ((try subst h_k); (have hp := h; try simp only [q_n] at hp); (try (exfalso; first | omega | (cases hp; done))));
    refine vMv ?_; refine vMv ?_; refine vIx ?_; refine vFa ?_; refine vLd ?_; refine vFa ?_; refine vLd ?_; refine vBi ?_; intro _ _; apply zF; rfl; rfl; rfl; (intro σ' hl; (apply g_pick_t; rfl; (rfl); rfl)); refine wl_nil ?_; show EX _ _ _ _ _; refine q_c (fun h h_k => ?_) (fun h h_k => ?_) <;> ((try subst h_k); (have hp := h; try simp only [q_n] at hp); (try (exfalso; first | omega | (cases hp; done))));
    refine zR ?_; refine zK ?_; refine zZ ?_; refine xMv ?_; refine xAd ?_; refine xAs ?_; refine zN ?_; simp only [zQ, zV, zU, zW, zG, ↓reduceIte, Nat.reduceEqDiff]; rotate_left
    (all_goals (repeat (rename BV _ _ => hbv; first | cases hbv | clear hbv)))
    all_goals (try (first | cases ‹true = false› | cases ‹false = true›))
    refine ⟨k + 1, ⟨hk, hn⟩, by omega, ?_⟩
    exact q_le
  · have hat : k = atS l s.tab := at_first hup hI1 hI2 (fun y hy => by
      by_cases h : y.tab ≤ s.tab
      · exact absurd ⟨y, hy, h⟩ hgo
      · omega)
    have hpt : (l.take k).map slC ++ [slC s] ++ (l.drop k).map slC = (putS l s).map slC := by
      unfold putS; rw [← hat]; simp
    have hlm : (l.map slC).length = l.length := List.length_map _
    have htl : ((l.map slC).take k).length ≤ l.length := by rw [List.length_take]; omega
    rcases (by omega : k < l.length ∨ k = l.length) with hk | hk
    · obtain ⟨c, hc⟩ : ∃ c, l[k]? = some c := get_some hk
      have hgc := sl_get hc
      have hct : ¬ c.tab ≤ s.tab := fun h => hgo ⟨c, hc, h⟩
      clear hgo hI2 hup hat
      refine zX ?_; refine zX ?_; refine ex_drawP rfl rfl (by kernel_rfl) rfl ?_; refine ex_drawQ rfl (by kernel_rfl) rfl ?_; refine wMv ?_; refine wMv ?_; apply zF; rfl; rfl; rfl; (intro σ' hl; (apply g_len; rfl; rfl; (exact (List.length_map _).symm))); refine wBi ?_; intro _ _; refine wMv ?_; refine q_w (fun h h_k => ?_) (fun h h_k => ?_) <;> ((try subst h_k); (have hp := h; try simp only [q_n] at hp); (try (exfalso; first | omega | (cases hp; done))));
      refine vMv ?_; refine vMv ?_; refine vIx ?_; refine vFa ?_; refine vLd ?_; refine vFa ?_; refine vLd ?_; refine vBi ?_; intro _ _; apply zF; rfl; rfl; rfl; (intro σ' hl; (apply g_pick_t; rfl; (rfl); rfl)); refine wl_nil ?_; show EX _ _ _ _ _; refine q_c (fun h h_k => ?_) (fun h h_k => ?_) <;> ((try subst h_k); (have hp := h; try simp only [q_n] at hp); (try (exfalso; first | omega | (cases hp; done))));
      refine ex_exit ?_; refine zX ?_; rotate_left
      (all_goals (repeat (rename BV _ _ => hbv; first | cases hbv | clear hbv)))
      all_goals (try (first | cases ‹true = false› | cases ‹false = true›))
      refine ex_weaken (s' := ⟨[(0, sls l), (3, .ptr b3 0), (5, .int .i64 k)], .cells b3 (slC s) 43 :: σ, [], Tryz.f32.ntmps⟩) (St.le_of (by repeat (first | exact trivial | refine ⟨rfl, ?_⟩)) (by repeat (first | exact q_r | apply q_q | apply q_k))) ?_
      refine ex_drawLO (fun e => e = .cells b3 (slC s) 43) 12 [1, 2, 3, 5, 6, 8, 9, 10, 0, 4, 7, 11] [8, 9, 10, 11] rfl (by kernel_rfl) rfl (by kernel_rfl) rfl ?_
      simp only [pick, List.filterMap_cons, List.filterMap_nil, List.getElem?_cons_zero, List.getElem?_cons_succ, List.take_succ_cons, List.take_zero, List.drop_succ_cons, List.drop_zero]
      refine wMv ?_; refine wMv ?_; apply zF; rfl; rfl; rfl; (intro σ' hl; (apply g_sliceHi; rfl; rfl; rfl; (rfl); omega)); refine wLa ?_; apply zF; rfl; rfl; rfl; (intro σ' hl; (show GOp _ _ { dst := _, op := .buildSlice _ 1 _, type := _, pos := _, after := _, guard := _ } _ _ _; exact gop_sealed (g_buildSlice rfl rfl (by decide) rfl rfl (by (simp only [chunkN, List.take_succ_cons, List.take_zero, List.drop_succ_cons, List.drop_zero]; rfl))))); refine wMv ?_; refine wMv ?_; apply zF; rfl; rfl; rfl; (intro σ' hl; (apply g_sliceLo; rfl; rfl; rfl; (rfl); omega)); refine wl_row rfl rfl rfl (by exact g_buildSlice rfl rfl (by decide) rfl rfl (by (simp only [chunkN, List.take_succ_cons, List.take_zero, List.drop_succ_cons, List.drop_zero]; rfl))) ?_; intro _; refine wl_eff rfl rfl rfl (by apply g_append; rfl; rfl; rfl; (intro v'; (exact Upd.here)); (exact .d); (intro y hy; simp only [List.mem_map, List.mem_cons, List.not_mem_nil, or_false, List.mem_append] at hy; (focus (obtain ⟨_, _, rfl⟩ := hy; rfl; done))); (refine app_ok ?_ (by kernel_rfl); (try simp only [List.length_append, List.length_map, List.length_cons, List.length_nil, List.length_take, List.length_drop]); omega)) ?_; rintro _ _ ⟨v'⟩; refine ⟨(by (rintro _ (rfl | rfl) _ <;> exact (by (repeat first | exact q_h | apply q_t | assumption); done))), ?_⟩; refine wl_eff rfl rfl rfl (by apply g_append; rfl; rfl; rfl; (intro v'; (exact Upd.here)); (exact .d); (intro y hy; simp only [List.mem_map, List.mem_cons, List.not_mem_nil, or_false, List.mem_append] at hy; (focus (obtain ⟨_, _, rfl⟩ := hy; rfl; done))); (refine app_ok ?_ (by kernel_rfl); (try simp only [List.length_append, List.length_map, List.length_cons, List.length_nil, List.length_take, List.length_drop]); omega)) ?_; rintro _ _ ⟨v'⟩; refine ⟨(by (rintro _ (rfl | rfl) _ <;> exact (by (repeat first | exact q_h | apply q_t | assumption); done))), ?_⟩; refine wl_eff rfl rfl rfl (by apply g_append; rfl; rfl; rfl; (intro v'; (exact Upd.here)); (exact .d); (intro y hy; simp only [List.mem_map, List.mem_cons, List.not_mem_nil, or_false, List.mem_append] at hy; (focus (obtain ⟨_, _, rfl⟩ := hy; rfl; done))); (refine app_ok ?_ (by kernel_rfl); (try simp only [List.length_append, List.length_map, List.length_cons, List.length_nil, List.length_take, List.length_drop]); omega)) ?_; rintro _ _ ⟨v'⟩; refine ⟨(by (rintro _ (rfl | rfl) _ <;> exact (by (repeat first | exact q_h | apply q_t | assumption); done))), ?_⟩; refine wl_nil ?_; refine xAs ?_; refine zY ?_; refine zL ?_; simp only [zQ, zV, zU, zW, zG, ↓reduceIte, Nat.reduceEqDiff]; rotate_left
      (all_goals (repeat (rename BV _ _ => hbv; first | cases hbv | clear hbv)))
      all_goals (try (first | cases ‹true = false› | cases ‹false = true›))
      rename Value => v
      refine q_rq (σ3 := .row v 43 8 ((l.take k).map slC ++ [slC s] ++ (l.drop k).map slC) :: σ) ?_
      rw [hpt]
      exact fin_seal .here (.here .nil) (fin_done .mk)
    · subst hk
      clear hgo hI2 hup hat
      refine zX ?_; refine zX ?_; refine ex_drawP rfl rfl (by kernel_rfl) rfl ?_; refine ex_drawQ rfl (by kernel_rfl) rfl ?_; refine wMv ?_; refine wMv ?_; apply zF; rfl; rfl; rfl; (intro σ' hl; (apply g_len; rfl; rfl; (exact (List.length_map _).symm))); refine wBi ?_; intro _ _; refine wMv ?_; refine q_w (fun h h_k => ?_) (fun h h_k => ?_) <;> ((try subst h_k); (have hp := h; try simp only [q_n] at hp); (try (exfalso; first | omega | (cases hp; done))));
      refine wSk ?_; refine wSk ?_; refine wSk ?_; refine wSk ?_; refine wSk ?_; refine wSk ?_; refine wSk ?_; refine wSk ?_; apply zF; rfl; rfl; rfl; (intro σ' hl; (apply g_pick_f; rfl; (rfl); rfl)); refine wl_nil ?_; show EX _ _ _ _ _; refine ex_cond_f rfl (by rfl) ?_; refine ex_exit ?_; refine zX ?_; rotate_left
      (all_goals (repeat (rename BV _ _ => hbv; first | cases hbv | clear hbv)))
      all_goals (try (first | cases ‹true = false› | cases ‹false = true›))
      refine ex_weaken (s' := ⟨[(0, sls l), (3, .ptr b3 0), (5, .int .i64 l.length)], .cells b3 (slC s) 43 :: σ, [], Tryz.f32.ntmps⟩) (St.le_of (by repeat (first | exact trivial | refine ⟨rfl, ?_⟩)) (by repeat (first | exact q_r | apply q_q | apply q_k))) ?_
      refine ex_drawLO (fun e => e = .cells b3 (slC s) 43) 12 [1, 2, 3, 5, 6, 8, 9, 10, 0, 4, 7, 11] [8, 9, 10, 11] rfl (by kernel_rfl) rfl (by kernel_rfl) rfl ?_
      simp only [pick, List.filterMap_cons, List.filterMap_nil, List.getElem?_cons_zero, List.getElem?_cons_succ, List.take_succ_cons, List.take_zero, List.drop_succ_cons, List.drop_zero]
      refine wMv ?_; refine wMv ?_; apply zF; rfl; rfl; rfl; (intro σ' hl; (apply g_sliceHi; rfl; rfl; rfl; (rfl); omega)); refine wLa ?_; apply zF; rfl; rfl; rfl; (intro σ' hl; (show GOp _ _ { dst := _, op := .buildSlice _ 1 _, type := _, pos := _, after := _, guard := _ } _ _ _; exact gop_sealed (g_buildSlice rfl rfl (by decide) rfl rfl (by (simp only [chunkN, List.take_succ_cons, List.take_zero, List.drop_succ_cons, List.drop_zero]; rfl))))); refine wMv ?_; refine wMv ?_; apply zF; rfl; rfl; rfl; (intro σ' hl; (apply g_sliceLo; rfl; rfl; rfl; (rfl); omega)); refine wl_row rfl rfl rfl (by exact g_buildSlice rfl rfl (by decide) rfl rfl (by (simp only [chunkN, List.take_succ_cons, List.take_zero, List.drop_succ_cons, List.drop_zero]; rfl))) ?_; intro _; refine wl_eff rfl rfl rfl (by apply g_append; rfl; rfl; rfl; (intro v'; (exact Upd.here)); (exact .d); (intro y hy; simp only [List.mem_map, List.mem_cons, List.not_mem_nil, or_false, List.mem_append] at hy; (focus (obtain ⟨_, _, rfl⟩ := hy; rfl; done))); (refine app_ok ?_ (by kernel_rfl); (try simp only [List.length_append, List.length_map, List.length_cons, List.length_nil, List.length_take, List.length_drop]); omega)) ?_; rintro _ _ ⟨v'⟩; refine ⟨(by (rintro _ (rfl | rfl) _ <;> exact (by (repeat first | exact q_h | apply q_t | assumption); done))), ?_⟩; refine wl_eff rfl rfl rfl (by apply g_append; rfl; rfl; rfl; (intro v'; (exact Upd.here)); (exact .d); (intro y hy; simp only [List.mem_map, List.mem_cons, List.not_mem_nil, or_false, List.mem_append] at hy; (focus (obtain ⟨_, _, rfl⟩ := hy; rfl; done))); (refine app_ok ?_ (by kernel_rfl); (try simp only [List.length_append, List.length_map, List.length_cons, List.length_nil, List.length_take, List.length_drop]); omega)) ?_; rintro _ _ ⟨v'⟩; refine ⟨(by (rintro _ (rfl | rfl) _ <;> exact (by (repeat first | exact q_h | apply q_t | assumption); done))), ?_⟩; refine wl_eff rfl rfl rfl (by apply g_append; rfl; rfl; rfl; (intro v'; (exact Upd.here)); (exact .d); (intro y hy; simp only [List.mem_map, List.mem_cons, List.not_mem_nil, or_false, List.mem_append] at hy; (focus (obtain ⟨_, _, rfl⟩ := hy; rfl; done))); (refine app_ok ?_ (by kernel_rfl); (try simp only [List.length_append, List.length_map, List.length_cons, List.length_nil, List.length_take, List.length_drop]); omega)) ?_; rintro _ _ ⟨v'⟩; refine ⟨(by (rintro _ (rfl | rfl) _ <;> exact (by (repeat first | exact q_h | apply q_t | assumption); done))), ?_⟩; refine wl_nil ?_; refine xAs ?_; refine zY ?_; refine zL ?_; simp only [zQ, zV, zU, zW, zG, ↓reduceIte, Nat.reduceEqDiff]; rotate_left
      (all_goals (repeat (rename BV _ _ => hbv; first | cases hbv | clear hbv)))
      all_goals (try (first | cases ‹true = false› | cases ‹false = true›))
      rename Value => v
      refine q_rq (σ3 := .row v 43 8 ((l.take l.length).map slC ++ [slC s] ++ (l.drop l.length).map slC) :: σ) ?_
      rw [hpt]
      exact fin_seal .here (.here .nil) (fin_done .mk)
end Go.Proofs.YtkhoengjdfmfaaaGreat
namespace Go.Proofs.YtkhoengjdfmfaaaGreat
set_option maxHeartbeats 16000000 in
theorem rmerge_c (l m : List Sl) (σ : List Ent) : SCall Tryz.prog 12 [.agg [sls l], .agg [sls m]] σ (Is (.tup [.agg [sls (mergeS l m).1], .int .i64 (mergeS l m).2]) σ) := by
  refine scall_of Tryz.func12 rfl (by simp) ?_
  have c1 := rcheck_c l
  have c2 := rcheck_c m
  by_cases h0 : checkS l = 0
  · rw [h0] at c1
    by_cases h1 : checkS m = 0
    · rw [h1] at c2
      have e : mergeS l m = match mergeR l m with | none => ([], 540) | some o => if (512 : Int) < o.length then ([], 2) else (o, 0) := by unfold mergeS; rw [if_neg (by rw [h0]; simp), if_neg (by rw [h1]; simp)]; cases mergeR l m <;> rfl
      rw [e]
      have hl5 := (check_zero.1 h0).1
      have hm5 := (check_zero.1 h1).1
      have ba := check_book h0
      have bb := check_book h1
      have hl5' : (l.map slC).length ≤ 512 := by rw [List.length_map]; exact hl5
      clear e h0 h1
      refine zX (zZ ?_); refine xBb ?_; intro _; refine xBb ?_; intro _; refine xBa ?_; intro _; refine xAs ?_; refine zY ?_; refine zX (zZ ?_); refine xLa ?_; apply zP; rfl; rfl; rfl; (refine zJ rfl rfl (zT (by kernel_rfl)) ?_; exact c1 _); refine xAs ?_; refine zY ?_; refine zX ?_; refine zX (zZ ?_); refine xMv ?_; refine xBi ?_; intro _ _; refine zY ?_; refine q_c (fun h h_k => ?_) (fun h h_k => ?_) <;> ((try subst h_k); (have hp := h; try simp only [q_n] at hp); (try (exfalso; first | omega | (cases hp; done))));
      refine zR ?_; refine zX (zZ ?_); refine xLa ?_; apply zP; rfl; rfl; rfl; (refine zJ rfl rfl (zT (by kernel_rfl)) ?_; exact c2 _); refine xAs ?_; refine zY ?_; refine zX ?_; refine zX (zZ ?_); refine xMv ?_; refine xBi ?_; intro _ _; refine zY ?_; refine q_c (fun h h_k => ?_) (fun h h_k => ?_) <;> ((try subst h_k); (have hp := h; try simp only [q_n] at hp); (try (exfalso; first | omega | (cases hp; done))));
      refine zR ?_; refine zX (zZ ?_); refine exl_row rfl rfl rfl (by exact g_buildSlice rfl rfl (by decide) rfl rfl (by (simp only [chunkN, List.take_succ_cons, List.take_zero, List.drop_succ_cons, List.drop_zero]; rfl))) ?_; intro _; refine xFa ?_; refine xLd ?_; apply exl_grew; rfl; rfl; rfl; (apply g_append; rfl; rfl; rfl; (intro v'; (exact Upd.here)); (exact .d); (intro y hy; simp only [List.mem_map, List.mem_cons, List.not_mem_nil, or_false, List.mem_append] at hy; (focus (obtain ⟨_, _, rfl⟩ := hy; rfl; done))); (refine app_ok ?_ (by kernel_rfl); (try simp only [List.length_append, List.length_map, List.length_cons, List.length_nil, List.length_take, List.length_drop]); omega)); intro _; refine xAs ?_; refine zY ?_; refine zX ?_; refine zX (zZ ?_); refine xAs ?_; refine zY ?_; refine zK ?_; rotate_left
      (all_goals (repeat (rename BV _ _ => hbv; first | cases hbv | clear hbv)))
      all_goals (try (first | cases ‹true = false› | cases ‹false = true›))
      rename Nat => b4; revert b4; rename Nat => b3; revert b3; rename Nat => b2; revert b2
      intro b2 b3 b4
      rename Value => v
      clear c1 c2 hl5'
      refine ex_seal (env' := [(2, .ptr b2 0), (3, .ptr b3 0), (4, .ptr b4 0), (7, sls l), (8, .int .i64 0)]) .here (by repeat (first | exact .nil | refine .same rfl ?_ | refine .here rfl ?_)) ?_
      refine ex_loop (fun (z : Nat × List Sl) => (⟨[(2, .ptr b2 0), (3, .ptr b3 0), (4, .ptr b4 0), (7, sls z.2), (8, .int .i64 z.1)], .cells b4 [.slv nilS] 24 :: .cells b3 [sls m] 24 :: .cells b2 [sls l] 24 :: σ, [], Tryz.f12.ntmps⟩ : St)) (fun z => z.1 ≤ m.length ∧ PutM l m z.1 z.2 ∧ z.2.length ≤ l.length + z.1) (fun z => m.length - z.1) (0, l) (⟨Nat.zero_le _, putM_zero ba, Nat.le_refl _⟩) (St.le_of (by repeat (first | exact trivial | refine ⟨rfl, ?_⟩)) (by repeat (first | exact q_r | apply q_q | apply q_k))) ?_
      intro z hI
      obtain ⟨i, o⟩ := z
      obtain ⟨hI1, hI2, hI3⟩ := hI
      dsimp only at hI1 hI2 hI3 ⊢
      by_cases hi : i < m.length
      · obtain ⟨s, hs⟩ : ∃ s, m[i]? = some s := get_some hi
        have hgs := sl_get hs
        have cf := rfind_c l s.tab s.seq
        rcases find_is (l := l) (t := s.tab) (s := s.seq) with ⟨k, x, hk, hx, e1, e2⟩ | ⟨hk, hno⟩
        · have hfi : findI l s.tab s.seq = k := by unfold findI; rw [hk]
          rw [hfi] at cf
          have hgx := sl_get hx
          have hkl := get_lt hx
          by_cases hxs : x = s
          · have hnx := putM_has hI2 hs (List.mem_of_getElem? hx) e1 e2 hxs (book_lt bb) (book_lt ba)
            have hq : decide (x = s) = true := decide_eq_true hxs
            clear hI2 hk hfi
            refine zX ?_; refine zX (zZ ?_); refine xMv ?_; refine xFa ?_; refine xLd ?_; refine xLn ?_; refine xBi ?_; intro _ _; refine zY ?_; refine q_c (fun h h_k => ?_) (fun h h_k => ?_) <;> ((try subst h_k); (have hp := h; try simp only [q_n] at hp); (try (exfalso; first | omega | (cases hp; done))));
            refine zR ?_; refine zX ?_; refine zK ?_; refine zX (zZ ?_); refine xFa ?_; refine xLd ?_; refine xMv ?_; refine xIx ?_; refine xLa ?_; refine xBa ?_; intro _; refine xSt ?_; refine zY ?_; refine zX (zZ ?_); refine xFa ?_; refine xLd ?_; refine xFa ?_; refine xLd ?_; refine xFa ?_; refine xLd ?_; apply zP; rfl; rfl; rfl; (refine zJ rfl rfl (zT (by kernel_rfl)) ?_; exact cf _); refine xAs ?_; refine zY ?_; refine zX ?_; refine zX ?_; refine ex_drawP rfl rfl (by kernel_rfl) rfl ?_; refine ex_drawQ rfl (by kernel_rfl) rfl ?_; refine wMv ?_; refine wBi ?_; intro _ _; refine wMv ?_; refine q_w (fun h h_k => ?_) (fun h h_k => ?_) <;> ((try subst h_k); (have hp := h; try simp only [q_n] at hp); (try (exfalso; first | omega | (cases hp; done))));
            refine vFa ?_; refine vLd ?_; refine vMv ?_; refine vIx ?_; refine vLa ?_; refine vLa ?_; refine wl_isBW rfl rfl rfl rfl (fun σ' hl => g_neqSl (a := x) (b := s) rfl rfl rfl hq) ?_; intro _ _; apply zF; rfl; rfl; rfl; (intro σ' hl; (apply g_pick_t; rfl; (rfl); rfl)); refine wl_nil ?_; show EX _ _ _ _ _; refine q_c (fun h h_k => ?_) (fun h h_k => ?_) <;> ((try subst h_k); (have hp := h; try simp only [q_n] at hp); (try (exfalso; first | omega | (cases hp; done))));
            refine zR ?_; refine zX (zZ ?_); refine xMv ?_; refine xBi ?_; intro _ _; refine zY ?_; refine q_c (fun h h_k => ?_) (fun h h_k => ?_) <;> ((try subst h_k); (have hp := h; try simp only [q_n] at hp); (try (exfalso; first | omega | (cases hp; done))));
            refine zR ?_; refine zZ ?_; refine xMv ?_; refine xAd ?_; refine xAs ?_; refine zN ?_; simp only [zQ, zV, zU, zW, zG, ↓reduceIte, Nat.reduceEqDiff]; rotate_left
            (all_goals (repeat (rename BV _ _ => hbv; first | cases hbv | clear hbv)))
            all_goals (try (first | cases ‹true = false› | cases ‹false = true›))
            refine ⟨(i + 1, o), ⟨hi, hnx, by dsimp only; omega⟩, by dsimp only; omega, ?_⟩
            dsimp only
            exact q_le
          · have hnone := putM_clash hs (List.mem_of_getElem? hx) e1 e2 hxs ba bb
            have hq : decide (x = s) = false := decide_eq_false hxs
            rw [hnone]
            clear hI2 hk hfi
            refine zX ?_; refine zX (zZ ?_); refine xMv ?_; refine xFa ?_; refine xLd ?_; refine xLn ?_; refine xBi ?_; intro _ _; refine zY ?_; refine q_c (fun h h_k => ?_) (fun h h_k => ?_) <;> ((try subst h_k); (have hp := h; try simp only [q_n] at hp); (try (exfalso; first | omega | (cases hp; done))));
            refine zR ?_; refine zX ?_; refine zK ?_; refine zX (zZ ?_); refine xFa ?_; refine xLd ?_; refine xMv ?_; refine xIx ?_; refine xLa ?_; refine xBa ?_; intro _; refine xSt ?_; refine zY ?_; refine zX (zZ ?_); refine xFa ?_; refine xLd ?_; refine xFa ?_; refine xLd ?_; refine xFa ?_; refine xLd ?_; apply zP; rfl; rfl; rfl; (refine zJ rfl rfl (zT (by kernel_rfl)) ?_; exact cf _); refine xAs ?_; refine zY ?_; refine zX ?_; refine zX ?_; refine ex_drawP rfl rfl (by kernel_rfl) rfl ?_; refine ex_drawQ rfl (by kernel_rfl) rfl ?_; refine wMv ?_; refine wBi ?_; intro _ _; refine wMv ?_; refine q_w (fun h h_k => ?_) (fun h h_k => ?_) <;> ((try subst h_k); (have hp := h; try simp only [q_n] at hp); (try (exfalso; first | omega | (cases hp; done))));
            refine vFa ?_; refine vLd ?_; refine vMv ?_; refine vIx ?_; refine vLa ?_; refine vLa ?_; refine wl_isBW rfl rfl rfl rfl (fun σ' hl => g_neqSl (a := x) (b := s) rfl rfl rfl hq) ?_; intro _ _; apply zF; rfl; rfl; rfl; (intro σ' hl; (apply g_pick_t; rfl; (rfl); rfl)); refine wl_nil ?_; show EX _ _ _ _ _; refine q_c (fun h h_k => ?_) (fun h h_k => ?_) <;> ((try subst h_k); (have hp := h; try simp only [q_n] at hp); (try (exfalso; first | omega | (cases hp; done))));
            refine zX (zZ ?_); apply zP; rfl; rfl; rfl; (apply g_build; rfl; rfl; rfl; rfl); refine xSt ?_; refine xAs ?_; refine zY ?_; refine zL ?_; simp only [zQ, zV, zU, zW, zG, ↓reduceIte, Nat.reduceEqDiff]; rotate_left
            (all_goals (repeat (rename BV _ _ => hbv; first | cases hbv | clear hbv)))
            all_goals (try (first | cases ‹true = false› | cases ‹false = true›))
            refine q_rq (σ3 := σ) ?_
            exact fin_nil (sz := 8) (.tup (.agg (.here .nil) (.same .nil)) .nil) (fin_done .mk)
        · have hfi : findI l s.tab s.seq = -1 := by unfold findI; rw [hk]
          rw [hfi] at cf
          have hnx := putM_put hI2 hs hno bb ba
          have hpl := put_len o s
          have cp := rput_c o s hI2.book.up (by omega)
          clear hI2 hk hfi hno
          refine zX ?_; refine zX (zZ ?_); refine xMv ?_; refine xFa ?_; refine xLd ?_; refine xLn ?_; refine xBi ?_; intro _ _; refine zY ?_; refine q_c (fun h h_k => ?_) (fun h h_k => ?_) <;> ((try subst h_k); (have hp := h; try simp only [q_n] at hp); (try (exfalso; first | omega | (cases hp; done))));
          refine zR ?_; refine zX ?_; refine zK ?_; refine zX (zZ ?_); refine xFa ?_; refine xLd ?_; refine xMv ?_; refine xIx ?_; refine xLa ?_; refine xBa ?_; intro _; refine xSt ?_; refine zY ?_; refine zX (zZ ?_); refine xFa ?_; refine xLd ?_; refine xFa ?_; refine xLd ?_; refine xFa ?_; refine xLd ?_; apply zP; rfl; rfl; rfl; (refine zJ rfl rfl (zT (by kernel_rfl)) ?_; exact cf _); refine xAs ?_; refine zY ?_; refine zX ?_; refine zX ?_; refine ex_drawP rfl rfl (by kernel_rfl) rfl ?_; refine ex_drawQ rfl (by kernel_rfl) rfl ?_; refine wMv ?_; refine wBi ?_; intro _ _; refine wMv ?_; refine q_w (fun h h_k => ?_) (fun h h_k => ?_) <;> ((try subst h_k); (have hp := h; try simp only [q_n] at hp); (try (exfalso; first | omega | (cases hp; done))));
          refine wSk ?_; refine wSk ?_; refine wSk ?_; refine wSk ?_; refine wSk ?_; refine wSk ?_; refine wSk ?_; apply zF; rfl; rfl; rfl; (intro σ' hl; (apply g_pick_f; rfl; (rfl); rfl)); refine wl_nil ?_; show EX _ _ _ _ _; refine ex_cond_f rfl (by rfl) ?_; refine zR ?_; refine zX (zZ ?_); refine xMv ?_; refine xBi ?_; intro _ _; refine zY ?_; refine q_c (fun h h_k => ?_) (fun h h_k => ?_) <;> ((try subst h_k); (have hp := h; try simp only [q_n] at hp); (try (exfalso; first | omega | (cases hp; done))));
          refine zZ ?_; refine xMv ?_; refine xLa ?_; apply zP; rfl; rfl; rfl; (refine zJ rfl rfl (zT (by kernel_rfl)) ?_; exact cp _); refine xAs ?_; refine zN ?_; refine zZ ?_; refine xMv ?_; refine xAd ?_; refine xAs ?_; refine zN ?_; simp only [zQ, zV, zU, zW, zG, ↓reduceIte, Nat.reduceEqDiff]; rotate_left
          (all_goals (repeat (rename BV _ _ => hbv; first | cases hbv | clear hbv)))
          all_goals (try (first | cases ‹true = false› | cases ‹false = true›))
          refine ⟨(i + 1, putS o s), ⟨hi, hnx, by dsimp only; omega⟩, by dsimp only; omega, ?_⟩
          dsimp only
          exact q_le
      · have e : i = m.length := by omega
        subst e
        have hm := putM_all hI2 ba bb
        rw [hm]
        dsimp only
        clear hI2
        refine ex_len (t := 7) rfl ((List.length_map _).symm) (fun hol => ?_)
        by_cases h5 : (512 : Int) < o.length
        · rw [if_pos h5]
          refine zX ?_; refine zX (zZ ?_); refine xMv ?_; refine xFa ?_; refine xLd ?_; refine xLn ?_; refine xBi ?_; intro _ _; refine zY ?_; refine q_c (fun h h_k => ?_) (fun h h_k => ?_) <;> ((try subst h_k); (have hp := h; try simp only [q_n] at hp); (try (exfalso; first | omega | (cases hp; done))));
          refine ex_exit ?_; refine zX ?_; refine zX (zZ ?_); refine xMv ?_; refine xLn ?_; refine xBi ?_; intro _ _; refine zY ?_; refine q_c (fun h h_k => ?_) (fun h h_k => ?_) <;> ((try subst h_k); (have hp := h; try simp only [q_n] at hp); (try (exfalso; first | omega | (cases hp; done))));
          refine zX (zZ ?_); apply zP; rfl; rfl; rfl; (apply g_build; rfl; rfl; rfl; rfl); refine xSt ?_; refine xAs ?_; refine zY ?_; refine zL ?_; simp only [zQ, zV, zU, zW, zG, ↓reduceIte, Nat.reduceEqDiff]; rotate_left
          (all_goals (repeat (rename BV _ _ => hbv; first | cases hbv | clear hbv)))
          all_goals (try (first | cases ‹true = false› | cases ‹false = true›))
          refine q_rq (σ3 := σ) ?_
          exact fin_nil (sz := 8) (.tup (.agg (.here .nil) (.same .nil)) .nil) (fin_done .mk)
        · rw [if_neg h5]
          refine zX ?_; refine zX (zZ ?_); refine xMv ?_; refine xFa ?_; refine xLd ?_; refine xLn ?_; refine xBi ?_; intro _ _; refine zY ?_; refine q_c (fun h h_k => ?_) (fun h h_k => ?_) <;> ((try subst h_k); (have hp := h; try simp only [q_n] at hp); (try (exfalso; first | omega | (cases hp; done))));
          refine ex_exit ?_; refine zX ?_; refine zX (zZ ?_); refine xMv ?_; refine xLn ?_; refine xBi ?_; intro _ _; refine zY ?_; refine q_c (fun h h_k => ?_) (fun h h_k => ?_) <;> ((try subst h_k); (have hp := h; try simp only [q_n] at hp); (try (exfalso; first | omega | (cases hp; done))));
          refine zR ?_; refine zX (zZ ?_); refine xMv ?_; apply zP; rfl; rfl; rfl; (apply g_build; rfl; rfl; rfl; rfl); refine xSt ?_; refine xAs ?_; refine zY ?_; refine zL ?_; simp only [zQ, zV, zU, zW, zG, ↓reduceIte, Nat.reduceEqDiff]; rotate_left
          (all_goals (repeat (rename BV _ _ => hbv; first | cases hbv | clear hbv)))
          all_goals (try (first | cases ‹true = false› | cases ‹false = true›))
          refine q_rq (σ3 := σ) ?_
          exact fin_done .mk
    · have e : mergeS l m = ([], checkS m) := by unfold mergeS; rw [if_neg (by rw [h0]; simp), if_pos h1]
      rw [e]
      refine zX (zZ ?_); refine xBb ?_; intro _; refine xBb ?_; intro _; refine xBa ?_; intro _; refine xAs ?_; refine zY ?_; refine zX (zZ ?_); refine xLa ?_; apply zP; rfl; rfl; rfl; (refine zJ rfl rfl (zT (by kernel_rfl)) ?_; exact c1 _); refine xAs ?_; refine zY ?_; refine zX ?_; refine zX (zZ ?_); refine xMv ?_; refine xBi ?_; intro _ _; refine zY ?_; refine q_c (fun h h_k => ?_) (fun h h_k => ?_) <;> ((try subst h_k); (have hp := h; try simp only [q_n] at hp); (try (exfalso; first | omega | (cases hp; done))));
      refine zR ?_; refine zX (zZ ?_); refine xLa ?_; apply zP; rfl; rfl; rfl; (refine zJ rfl rfl (zT (by kernel_rfl)) ?_; exact c2 _); refine xAs ?_; refine zY ?_; refine zX ?_; refine zX (zZ ?_); refine xMv ?_; refine xBi ?_; intro _ _; refine zY ?_; refine q_c (fun h h_k => ?_) (fun h h_k => ?_) <;> ((try subst h_k); (have hp := h; try simp only [q_n] at hp); (try (exfalso; first | omega | (cases hp; done))));
      refine zX (zZ ?_); apply zP; rfl; rfl; rfl; (apply g_build; rfl; rfl; rfl; rfl); refine xMv ?_; refine xSt ?_; refine xAs ?_; refine zY ?_; refine zL ?_; simp only [zQ, zV, zU, zW, zG, ↓reduceIte, Nat.reduceEqDiff]; rotate_left
      (all_goals (repeat (rename BV _ _ => hbv; first | cases hbv | clear hbv)))
      all_goals (try (first | cases ‹true = false› | cases ‹false = true›))
      refine q_rq (σ3 := σ) ?_
      exact fin_nil (sz := 8) (.tup (.agg (.here .nil) (.same .nil)) .nil) (fin_done .mk)
  · have e : mergeS l m = ([], checkS l) := by unfold mergeS; rw [if_pos h0]
    rw [e]
    refine zX (zZ ?_); refine xBb ?_; intro _; refine xBb ?_; intro _; refine xBa ?_; intro _; refine xAs ?_; refine zY ?_; refine zX (zZ ?_); refine xLa ?_; apply zP; rfl; rfl; rfl; (refine zJ rfl rfl (zT (by kernel_rfl)) ?_; exact c1 _); refine xAs ?_; refine zY ?_; refine zX ?_; refine zX (zZ ?_); refine xMv ?_; refine xBi ?_; intro _ _; refine zY ?_; refine q_c (fun h h_k => ?_) (fun h h_k => ?_) <;> ((try subst h_k); (have hp := h; try simp only [q_n] at hp); (try (exfalso; first | omega | (cases hp; done))));
    refine zX (zZ ?_); apply zP; rfl; rfl; rfl; (apply g_build; rfl; rfl; rfl; rfl); refine xMv ?_; refine xSt ?_; refine xAs ?_; refine zY ?_; refine zL ?_; simp only [zQ, zV, zU, zW, zG, ↓reduceIte, Nat.reduceEqDiff]; rotate_left
    (all_goals (repeat (rename BV _ _ => hbv; first | cases hbv | clear hbv)))
    all_goals (try (first | cases ‹true = false› | cases ‹false = true›))
    refine q_rq (σ3 := σ) ?_
    exact fin_nil (sz := 8) (.tup (.agg (.here .nil) (.same .nil)) .nil) (fin_done .mk)
end Go.Proofs.YtkhoengjdfmfaaaGreat
namespace Go.Proofs.YtkhoengjdfmfaaaGreat
theorem cnt_not {l : List Sl} {s : Sl} (hk : s.kind ≠ 3) (h : ∀ y ∈ l, ¬ (y.kind = 3 ∧ y.tab = s.tab ∧ y.off = s.seq + 1)) : cntB l s = true := by
  unfold cntB voidIn
  rw [decide_eq_false hk, Bool.not_false, Bool.true_and, Bool.not_eq_true', List.any_eq_false]
  intro y hy
  have := h y hy
  simp only [Bool.and_eq_true, decide_eq_true_eq]
  intro ⟨⟨e1, e2⟩, e3⟩
  exact this ⟨e1, e2, e3⟩
theorem cnt_void {l : List Sl} {s y : Sl} (hy : y ∈ l) (h : y.kind = 3 ∧ y.tab = s.tab ∧ y.off = s.seq + 1) : cntB l s = false := by
  unfold cntB voidIn
  have : (l.any fun y => decide (y.kind = 3) && decide (y.tab = s.tab) && decide (y.off = s.seq + 1)) = true := by
    rw [List.any_eq_true]; exact ⟨y, hy, by simp [h.1, h.2.1, h.2.2]⟩
  rw [this]; simp
set_option maxHeartbeats 8000000 in
theorem counts_c (l : List Sl) (i : Nat) (s : Sl) (hs : l[i]? = some s) (hsq : 0 ≤ s.seq ∧ s.seq ≤ 100000) (σ : List Ent) : SCall Tryz.prog 77 [sls l, .int .i64 i] σ (Is (.bool (cntB l s)) σ) := by
  refine scall_of Tryz.func77 rfl (by simp) ?_
  obtain ⟨R, hR⟩ : ∃ R, cntB l s = R := ⟨_, rfl⟩
  rw [hR]
  have hgs := sl_get hs
  have hil := get_lt hs
  by_cases hk3 : s.kind = 3
  · have hRf : R = false := by rw [← hR]; unfold cntB; rw [decide_eq_true hk3]; rfl
    rw [hRf]
    clear hR
    refine zX (zZ ?_); refine xAs ?_; refine zY ?_; refine zX ?_; refine zX (zZ ?_); refine xMv ?_; refine xMv ?_; refine xIx ?_; refine xFa ?_; refine xLd ?_; refine xBi ?_; intro _ _; refine zY ?_; refine q_c (fun h h_k => ?_) (fun h h_k => ?_) <;> ((try subst h_k); (have hp := h; try simp only [q_n] at hp); (try (exfalso; first | omega | (cases hp; done))));
    refine zX (zZ ?_); refine xAs ?_; refine zY ?_; refine zL ?_; simp only [zQ, zV, zU, zW, zG, ↓reduceIte, Nat.reduceEqDiff]; rotate_left
    (all_goals (repeat (rename BV _ _ => hbv; first | cases hbv | clear hbv)))
    all_goals (try (first | cases ‹true = false› | cases ‹false = true›))
    refine q_ri ?_
    rfl
  refine zX (zZ ?_); refine xAs ?_; refine zY ?_; refine zX ?_; refine zX (zZ ?_); refine xMv ?_; refine xMv ?_; refine xIx ?_; refine xFa ?_; refine xLd ?_; refine xBi ?_; intro _ _; refine zY ?_; refine q_c (fun h h_k => ?_) (fun h h_k => ?_) <;> ((try subst h_k); (have hp := h; try simp only [q_n] at hp); (try (exfalso; first | omega | (cases hp; done))));
  refine zR ?_; refine zX ?_; refine zX (zZ ?_); refine xAs ?_; refine zY ?_; refine zK ?_; rotate_left
  (all_goals (repeat (rename BV _ _ => hbv; first | cases hbv | clear hbv)))
  all_goals (try (first | cases ‹true = false› | cases ‹false = true›))
  refine ex_loop (fun (k : Nat) => (⟨[(0, sls l), (1, .int .i64 i), (5, .int .i64 k)], σ, [], Tryz.f77.ntmps⟩ : St)) (fun k => k ≤ l.length ∧ ∀ y ∈ l.take k, ¬ (y.kind = 3 ∧ y.tab = s.tab ∧ y.off = s.seq + 1)) (fun k => l.length - k) 0 (⟨Nat.zero_le _, by simp⟩) (St.le_of (by repeat (first | exact trivial | refine ⟨rfl, ?_⟩)) (by repeat (first | exact q_r | apply q_q | apply q_k))) ?_
  intro k hI
  obtain ⟨hI1, hI2⟩ := hI
  refine ex_len (t := 0) rfl ((List.length_map _).symm) (fun hlen => ?_)
  by_cases hk : k < l.length
  · obtain ⟨c, hc⟩ : ∃ c, l[k]? = some c := get_some hk
    have hgc := sl_get hc
    by_cases hv : c.kind = 3 ∧ c.tab = s.tab ∧ c.off = s.seq + 1
    · have hRf : R = false := by rw [← hR]; exact cnt_void (List.mem_of_getElem? hc) hv
      rw [hRf]
      obtain ⟨v1, v2, v3⟩ := hv
      clear hR hI2
      refine zX ?_; refine zX (zZ ?_); refine xMv ?_; refine xMv ?_; refine xLn ?_; refine xBi ?_; intro _ _; refine zY ?_; refine q_c (fun h h_k => ?_) (fun h h_k => ?_) <;> ((try subst h_k); (have hp := h; try simp only [q_n] at hp); (try (exfalso; first | omega | (cases hp; done))));
      refine zR ?_; refine zX ?_; refine zK ?_; refine zX ?_; refine ex_drawP rfl rfl (by kernel_rfl) rfl ?_; refine ex_drawQ rfl (by kernel_rfl) rfl ?_; refine wMv ?_; refine wMv ?_; refine wIx ?_; refine wFa ?_; refine wLd ?_; refine wBi ?_; intro _ _; refine wMv ?_; refine q_w (fun h h_k => ?_) (fun h h_k => ?_) <;> ((try subst h_k); (have hp := h; try simp only [q_n] at hp); (try (exfalso; first | omega | (cases hp; done))));
      refine vMv ?_; refine vMv ?_; refine vIx ?_; refine vFa ?_; refine vLd ?_; refine vMv ?_; refine vMv ?_; refine vIx ?_; refine vFa ?_; refine vLd ?_; refine vBi ?_; intro _ _; apply zF; rfl; rfl; rfl; (intro σ' hl; (apply g_pick_t; rfl; (rfl); rfl)); refine wMv ?_; refine q_w (fun h h_k => ?_) (fun h h_k => ?_) <;> ((try subst h_k); (have hp := h; try simp only [q_n] at hp); (try (exfalso; first | omega | (cases hp; done))));
      refine vMv ?_; refine vMv ?_; refine vIx ?_; refine vFa ?_; refine vLd ?_; refine vMv ?_; refine vMv ?_; refine vIx ?_; refine vFa ?_; refine vLd ?_; apply wl_isW; rfl; (rfl); rfl; rfl; (intro σ' hl; (apply g_add; rfl; rfl; rfl; exact ⟨by omega, by omega⟩)); refine vBi ?_; intro _ _; apply zF; rfl; rfl; rfl; (intro σ' hl; (apply g_pick_t; rfl; (rfl); rfl)); refine wl_nil ?_; show EX _ _ _ _ _; refine q_c (fun h h_k => ?_) (fun h h_k => ?_) <;> ((try subst h_k); (have hp := h; try simp only [q_n] at hp); (try (exfalso; first | omega | (cases hp; done))));
      refine zX (zZ ?_); refine xAs ?_; refine zY ?_; refine zL ?_; simp only [zQ, zV, zU, zW, zG, ↓reduceIte, Nat.reduceEqDiff]; rotate_left
      (all_goals (repeat (rename BV _ _ => hbv; first | cases hbv | clear hbv)))
      all_goals (try (first | cases ‹true = false› | cases ‹false = true›))
      refine q_ri ?_
      rfl
    · have hn : ∀ x ∈ l.take (k + 1), ¬ (x.kind = 3 ∧ x.tab = s.tab ∧ x.off = s.seq + 1) := fun x hx => by
        rcases (take_next hc).1 hx with hx | rfl
        · exact hI2 x hx
        · exact hv
      clear hR hI2
      refine zX ?_; refine zX (zZ ?_); refine xMv ?_; refine xMv ?_; refine xLn ?_; refine xBi ?_; intro _ _; refine zY ?_; refine q_c (fun h h_k => ?_) (fun h h_k => ?_) <;> ((try subst h_k); (have hp := h; try simp only [q_n] at hp); (try (exfalso; first | omega | (cases hp; done))));
      refine zR ?_; refine zX ?_; refine zK ?_; refine zX ?_; refine ex_drawP rfl rfl (by kernel_rfl) rfl ?_; refine ex_drawQ rfl (by kernel_rfl) rfl ?_; refine wMv ?_; refine wMv ?_; refine wIx ?_; refine wFa ?_; refine wLd ?_; refine wBi ?_; intro _ _; refine wMv ?_; refine q_w (fun h h_k => ?_) (fun h h_k => ?_) <;> ((try subst h_k); (have hp := h; try simp only [q_n] at hp); (try (exfalso; first | omega | (cases hp; done))));
      refine vMv ?_; refine vMv ?_; refine vIx ?_; refine vFa ?_; refine vLd ?_; refine vMv ?_; refine vMv ?_; refine vIx ?_; refine vFa ?_; refine vLd ?_; refine vBi ?_; intro _ _; apply zF; rfl; rfl; rfl; (intro σ' hl; (apply g_pick_t; rfl; (rfl); rfl)); refine wMv ?_; refine q_w (fun h h_k => ?_) (fun h h_k => ?_) <;> ((try subst h_k); (have hp := h; try simp only [q_n] at hp); (try (exfalso; first | omega | (cases hp; done))));
      refine vMv ?_; refine vMv ?_; refine vIx ?_; refine vFa ?_; refine vLd ?_; refine vMv ?_; refine vMv ?_; refine vIx ?_; refine vFa ?_; refine vLd ?_; apply wl_isW; rfl; (rfl); rfl; rfl; (intro σ' hl; (apply g_add; rfl; rfl; rfl; exact ⟨by omega, by omega⟩)); refine vBi ?_; intro _ _; apply zF; rfl; rfl; rfl; (intro σ' hl; (apply g_pick_t; rfl; (rfl); rfl)); refine wl_nil ?_; show EX _ _ _ _ _; refine q_c (fun h h_k => ?_) (fun h h_k => ?_) <;> ((try subst h_k); (have hp := h; try simp only [q_n] at hp); (try (exfalso; first | omega | (cases hp; done))));
      refine zR ?_; refine zZ ?_; refine xMv ?_; refine xAd ?_; refine xAs ?_; refine zN ?_; simp only [zQ, zV, zU, zW, zG, ↓reduceIte, Nat.reduceEqDiff]; rotate_left; refine wSk ?_; refine wSk ?_; refine wSk ?_; refine wSk ?_; refine wSk ?_; refine wSk ?_; refine wSk ?_; refine wSk ?_; refine wSk ?_; refine wSk ?_; refine wSk ?_; refine wSk ?_; apply zF; rfl; rfl; rfl; (intro σ' hl; (apply g_pick_f; rfl; (rfl); rfl)); refine wl_nil ?_; show EX _ _ _ _ _; refine ex_cond_f rfl (by rfl) ?_; refine zR ?_; refine zZ ?_; refine xMv ?_; refine xAd ?_; refine xAs ?_; refine zN ?_; simp only [zQ, zV, zU, zW, zG, ↓reduceIte, Nat.reduceEqDiff]; rotate_left; refine wSk ?_; refine wSk ?_; refine wSk ?_; refine wSk ?_; refine wSk ?_; refine wSk ?_; refine wSk ?_; refine wSk ?_; refine wSk ?_; refine wSk ?_; refine wSk ?_; apply zF; rfl; rfl; rfl; (intro σ' hl; (apply g_pick_f; rfl; (rfl); rfl)); refine wMv ?_; refine wSk ?_; refine wSk ?_; refine wSk ?_; refine wSk ?_; refine wSk ?_; refine wSk ?_; refine wSk ?_; refine wSk ?_; refine wSk ?_; refine wSk ?_; refine wSk ?_; refine wSk ?_; apply zF; rfl; rfl; rfl; (intro σ' hl; (apply g_pick_f; rfl; (rfl); rfl)); refine wl_nil ?_; show EX _ _ _ _ _; refine ex_cond_f rfl (by rfl) ?_; refine zR ?_; refine zZ ?_; refine xMv ?_; refine xAd ?_; refine xAs ?_; refine zN ?_; simp only [zQ, zV, zU, zW, zG, ↓reduceIte, Nat.reduceEqDiff]; rotate_left
      (all_goals (repeat (rename BV _ _ => hbv; first | cases hbv | clear hbv)))
      all_goals (try (first | cases ‹true = false› | cases ‹false = true›))
      all_goals
        refine ⟨k + 1, ⟨hk, hn⟩, by omega, ?_⟩
        exact q_le
  · have hRt : R = true := by rw [← hR]; exact cnt_not hk3 (fun y hy => hI2 y (by rw [List.take_of_length_le (by omega)]; exact hy))
    rw [hRt]
    clear hR hI2
    refine zX ?_; refine zX (zZ ?_); refine xMv ?_; refine xMv ?_; refine xLn ?_; refine xBi ?_; intro _ _; refine zY ?_; refine q_c (fun h h_k => ?_) (fun h h_k => ?_) <;> ((try subst h_k); (have hp := h; try simp only [q_n] at hp); (try (exfalso; first | omega | (cases hp; done))));
    refine ex_exit ?_; refine zX (zZ ?_); refine xAs ?_; refine zY ?_; refine zL ?_; simp only [zQ, zV, zU, zW, zG, ↓reduceIte, Nat.reduceEqDiff]; rotate_left
    (all_goals (repeat (rename BV _ _ => hbv; first | cases hbv | clear hbv)))
    all_goals (try (first | cases ‹true = false› | cases ‹false = true›))
    refine q_ri ?_
    rfl
set_option maxHeartbeats 4000000 in
theorem before_c (x y : Sl) (σ : List Ent) : SCall Tryz.prog 78 [slV x, slV y] σ (Is (.bool (befS x y)) σ) := by
  refine scall_of Tryz.func78 rfl (by simp) ?_
  unfold befS
  by_cases h1 : x.hour ≠ y.hour
  · rw [if_pos h1]
    refine zX (zZ ?_); refine xBb ?_; intro _; refine xBb ?_; intro _; refine xAs ?_; refine zY ?_; refine zX ?_; refine zX (zZ ?_); refine xFa ?_; refine xLd ?_; refine xFa ?_; refine xLd ?_; refine xBi ?_; intro _ _; refine zY ?_; refine q_c (fun h h_k => ?_) (fun h h_k => ?_) <;> ((try subst h_k); (have hp := h; try simp only [q_n] at hp); (try (exfalso; first | omega | (cases hp; done))));
    refine zX (zZ ?_); refine xFa ?_; refine xLd ?_; refine xFa ?_; refine xLd ?_; refine xBi ?_; intro _ _; refine xAs ?_; refine zY ?_; refine zL ?_; simp only [zQ, zV, zU, zW, zG, ↓reduceIte, Nat.reduceEqDiff]; rotate_left
    (all_goals (repeat (rename BV _ _ => hbv; first | cases hbv | clear hbv)))
    all_goals (try (first | cases ‹true = false› | cases ‹false = true›))
    refine q_ri ?_
    rfl
  · rw [if_neg h1]
    by_cases h2 : x.tab ≠ y.tab
    · rw [if_pos h2]
      refine zX (zZ ?_); refine xBb ?_; intro _; refine xBb ?_; intro _; refine xAs ?_; refine zY ?_; refine zX ?_; refine zX (zZ ?_); refine xFa ?_; refine xLd ?_; refine xFa ?_; refine xLd ?_; refine xBi ?_; intro _ _; refine zY ?_; refine q_c (fun h h_k => ?_) (fun h h_k => ?_) <;> ((try subst h_k); (have hp := h; try simp only [q_n] at hp); (try (exfalso; first | omega | (cases hp; done))));
      refine zR ?_; refine zX ?_; refine zX (zZ ?_); refine xFa ?_; refine xLd ?_; refine xFa ?_; refine xLd ?_; refine xBi ?_; intro _ _; refine zY ?_; refine q_c (fun h h_k => ?_) (fun h h_k => ?_) <;> ((try subst h_k); (have hp := h; try simp only [q_n] at hp); (try (exfalso; first | omega | (cases hp; done))));
      refine zX (zZ ?_); refine xFa ?_; refine xLd ?_; refine xFa ?_; refine xLd ?_; refine xBi ?_; intro _ _; refine xAs ?_; refine zY ?_; refine zL ?_; simp only [zQ, zV, zU, zW, zG, ↓reduceIte, Nat.reduceEqDiff]; rotate_left
      (all_goals (repeat (rename BV _ _ => hbv; first | cases hbv | clear hbv)))
      all_goals (try (first | cases ‹true = false› | cases ‹false = true›))
      refine q_ri ?_
      rfl
    · rw [if_neg h2]
      refine zX (zZ ?_); refine xBb ?_; intro _; refine xBb ?_; intro _; refine xAs ?_; refine zY ?_; refine zX ?_; refine zX (zZ ?_); refine xFa ?_; refine xLd ?_; refine xFa ?_; refine xLd ?_; refine xBi ?_; intro _ _; refine zY ?_; refine q_c (fun h h_k => ?_) (fun h h_k => ?_) <;> ((try subst h_k); (have hp := h; try simp only [q_n] at hp); (try (exfalso; first | omega | (cases hp; done))));
      refine zR ?_; refine zX ?_; refine zX (zZ ?_); refine xFa ?_; refine xLd ?_; refine xFa ?_; refine xLd ?_; refine xBi ?_; intro _ _; refine zY ?_; refine q_c (fun h h_k => ?_) (fun h h_k => ?_) <;> ((try subst h_k); (have hp := h; try simp only [q_n] at hp); (try (exfalso; first | omega | (cases hp; done))));
      refine zR ?_; refine zX (zZ ?_); refine xFa ?_; refine xLd ?_; refine xFa ?_; refine xLd ?_; refine xBi ?_; intro _ _; refine xAs ?_; refine zY ?_; refine zL ?_; simp only [zQ, zV, zU, zW, zG, ↓reduceIte, Nat.reduceEqDiff]; rotate_left
      (all_goals (repeat (rename BV _ _ => hbv; first | cases hbv | clear hbv)))
      all_goals (try (first | cases ‹true = false› | cases ‹false = true›))
      refine q_ri ?_
      rfl
theorem entF_take {l : List Sl} {i : Nat} {s : Sl} (hs : l[i]? = some s) : entF l 0 (l.take (i + 1)) = if cntB l s then entF l 0 (l.take i) ++ [(i, s)] else entF l 0 (l.take i) := by
  have hi := get_lt hs
  rw [List.take_add_one, hs]
  show entF l 0 (l.take i ++ [s]) = _
  rw [entF_app]
  have hlen : 0 + (l.take i).length = i := by rw [List.length_take]; omega
  rw [hlen]
  cases h : cntB l s with
  | true => simp [entF, h]
  | false => simp [entF, h]
def optI : Option Int → Int
  | some b => b
  | none => 0
structure BkS (l : List Sl) : Prop where
  seq : ∀ s ∈ l, 0 ≤ s.seq ∧ s.seq ≤ 100000
  len : l.length ≤ 100000
set_option maxHeartbeats 8000000 in
theorem next_c (l : List Sl) (n : Int) (hb : BkS l) (σ : List Ent) : SCall Tryz.prog 40 [sls l, .int .i64 n] σ (Is (.tup [.int .i64 (optI ((entL l).foldl (nxF n) none)), .bool ((entL l).foldl (nxF n) none).isSome]) σ) := by
  refine scall_of Tryz.func40 rfl (by simp) ?_
  refine zX (zZ ?_); refine xAs ?_; refine xAs ?_; refine zY ?_; refine zX (zZ ?_); refine xAs ?_; refine zY ?_; refine zX (zZ ?_); refine xAs ?_; refine zY ?_; refine zX ?_; refine zX (zZ ?_); refine xAs ?_; refine zY ?_; refine zK ?_; rotate_left
  (all_goals (repeat (rename BV _ _ => hbv; first | cases hbv | clear hbv)))
  all_goals (try (first | cases ‹true = false› | cases ‹false = true›))
  refine ex_loop (fun (z : Nat × Option Int) => (⟨[(0, sls l), (1, .int .i64 n), (6, .int .i64 (optI z.2)), (7, .bool z.2.isSome), (8, .int .i64 z.1)], σ, [], Tryz.f40.ntmps⟩ : St)) (fun z => z.1 ≤ l.length ∧ z.2 = (entF l 0 (l.take z.1)).foldl (nxF n) none) (fun z => l.length - z.1) (0, none) (⟨Nat.zero_le _, rfl⟩) (St.le_of (by repeat (first | exact trivial | refine ⟨rfl, ?_⟩)) (by repeat (first | exact q_r | apply q_q | apply q_k))) ?_
  intro z hI
  obtain ⟨i, o⟩ := z
  obtain ⟨hI1, hI2⟩ := hI
  dsimp only at hI1 hI2 ⊢
  refine ex_len (t := 0) rfl ((List.length_map _).symm) (fun hlen => ?_)
  by_cases hi : i < l.length
  · obtain ⟨s, hs⟩ : ∃ s, l[i]? = some s := get_some hi
    have hgs := sl_get hs
    have cc := counts_c l i s hs (hb.seq s (List.mem_of_getElem? hs))
    have hst := entF_take hs
    cases hcn : cntB l s with
    | false =>
      rw [hcn] at cc hst
      have hnx : o = (entF l 0 (l.take (i + 1))).foldl (nxF n) none := by rw [hst]; exact hI2
      clear hI2 hst hcn
      refine zX ?_; refine zX (zZ ?_); refine xMv ?_; refine xMv ?_; refine xLn ?_; refine xBi ?_; intro _ _; refine zY ?_; refine q_c (fun h h_k => ?_) (fun h h_k => ?_) <;> ((try subst h_k); (have hp := h; try simp only [q_n] at hp); (try (exfalso; first | omega | (cases hp; done))));
      refine zR ?_; refine zX ?_; refine zK ?_; refine zX (zZ ?_); refine xMv ?_; refine xMv ?_; apply exl_isB; rfl; rfl; rfl; (refine zJ rfl rfl (zT (by kernel_rfl)) ?_; exact cc _); intro _ _; refine xAs ?_; refine zY ?_; refine zX (zZ ?_); refine xMv ?_; refine xMv ?_; refine q_d (fun h h_k => ?_) (fun h h_k => ?_) <;> ((try subst h_k); (have hp := h; try simp only [q_n] at hp); (try (exfalso; first | omega | (cases hp; done))));
      refine xSk ?_; refine xSk ?_; refine xSk ?_; refine xSk ?_; refine xSk ?_; refine xSk ?_; refine xSk ?_; refine xPf ?_; refine xMv ?_; refine xSk ?_; refine xSk ?_; refine xSk ?_; refine xSr ?_; refine xSr ?_; refine xSr ?_; refine xSr ?_; refine xSr ?_; refine xSr ?_; refine xSr ?_; refine xSk ?_; refine xPf ?_; refine zY ?_; refine ex_cond_f rfl (by rfl) ?_; refine zR ?_; refine zZ ?_; refine xMv ?_; refine xAd ?_; refine xAs ?_; refine zN ?_; simp only [zQ, zV, zU, zW, zG, ↓reduceIte, Nat.reduceEqDiff]; rotate_left
      (all_goals (repeat (rename BV _ _ => hbv; first | cases hbv | clear hbv)))
      all_goals (try (first | cases ‹true = false› | cases ‹false = true›))
      refine ⟨(i + 1, o), ⟨hi, hnx⟩, by dsimp only; omega, ?_⟩
      dsimp only
      exact q_le
    | true =>
      rw [hcn] at cc hst
      have hnx : nxF n o (i, s) = (entF l 0 (l.take (i + 1))).foldl (nxF n) none := by rw [hst, if_pos rfl, List.foldl_append, ← hI2]; rfl
      clear hI2 hst hcn
      unfold nxF at hnx
      cases o with
      | none =>
        dsimp only [optI, Option.isSome] at hnx ⊢
        by_cases h1 : n < s.turn
        · rw [decide_eq_true h1] at hnx
          refine zX ?_; refine zX (zZ ?_); refine xMv ?_; refine xMv ?_; refine xLn ?_; refine xBi ?_; intro _ _; refine zY ?_; refine q_c (fun h h_k => ?_) (fun h h_k => ?_) <;> ((try subst h_k); (have hp := h; try simp only [q_n] at hp); (try (exfalso; first | omega | (cases hp; done))));
          refine zR ?_; refine zX ?_; refine zK ?_; refine zX (zZ ?_); refine xMv ?_; refine xMv ?_; apply exl_isB; rfl; rfl; rfl; (refine zJ rfl rfl (zT (by kernel_rfl)) ?_; exact cc _); intro _ _; refine xAs ?_; refine zY ?_; refine zX (zZ ?_); refine xMv ?_; refine xMv ?_; refine q_d (fun h h_k => ?_) (fun h h_k => ?_) <;> ((try subst h_k); (have hp := h; try simp only [q_n] at hp); (try (exfalso; first | omega | (cases hp; done))));
          refine yMv ?_; refine yMv ?_; refine yIx ?_; refine yFa ?_; refine yLd ?_; refine yMv ?_; refine yBi ?_; intro _ _; refine xPt ?_; refine xMv ?_; refine q_d (fun h h_k => ?_) (fun h h_k => ?_) <;> ((try subst h_k); (have hp := h; try simp only [q_n] at hp); (try (exfalso; first | omega | (cases hp; done))));
          refine yMv ?_; refine yNo ?_; intro _ _; refine yMv ?_; refine q_d (fun h h_k => ?_) (fun h h_k => ?_) <;> ((try subst h_k); (have hp := h; try simp only [q_n] at hp); (try (exfalso; first | omega | (cases hp; done))));
          refine xSk ?_; refine xSk ?_; refine xSk ?_; refine xSk ?_; refine xSk ?_; refine xSk ?_; refine xSk ?_; apply exl_isW; rfl; (rfl); rfl; rfl; (apply g_pick_t; rfl; (rfl); rfl); refine xPt ?_; refine zY ?_; refine ex_cond_t rfl (by rfl) ?_; refine zX (zZ ?_); refine xMv ?_; refine xMv ?_; refine xIx ?_; refine xFa ?_; refine xLd ?_; refine xAs ?_; refine zY ?_; refine zZ ?_; refine xAs ?_; refine zN ?_; refine zZ ?_; refine xMv ?_; refine xAd ?_; refine xAs ?_; refine zN ?_; simp only [zQ, zV, zU, zW, zG, ↓reduceIte, Nat.reduceEqDiff]; rotate_left
          (all_goals (repeat (rename BV _ _ => hbv; first | cases hbv | clear hbv)))
          all_goals (try (first | cases ‹true = false› | cases ‹false = true›))
          refine ⟨(i + 1, some s.turn), ⟨hi, hnx⟩, by dsimp only; omega, ?_⟩
          dsimp only [optI, Option.isSome]
          exact q_le
        · rw [decide_eq_false h1] at hnx
          refine zX ?_; refine zX (zZ ?_); refine xMv ?_; refine xMv ?_; refine xLn ?_; refine xBi ?_; intro _ _; refine zY ?_; refine q_c (fun h h_k => ?_) (fun h h_k => ?_) <;> ((try subst h_k); (have hp := h; try simp only [q_n] at hp); (try (exfalso; first | omega | (cases hp; done))));
          refine zR ?_; refine zX ?_; refine zK ?_; refine zX (zZ ?_); refine xMv ?_; refine xMv ?_; apply exl_isB; rfl; rfl; rfl; (refine zJ rfl rfl (zT (by kernel_rfl)) ?_; exact cc _); intro _ _; refine xAs ?_; refine zY ?_; refine zX (zZ ?_); refine xMv ?_; refine xMv ?_; refine q_d (fun h h_k => ?_) (fun h h_k => ?_) <;> ((try subst h_k); (have hp := h; try simp only [q_n] at hp); (try (exfalso; first | omega | (cases hp; done))));
          refine yMv ?_; refine yMv ?_; refine yIx ?_; refine yFa ?_; refine yLd ?_; refine yMv ?_; refine yBi ?_; intro _ _; refine xPt ?_; refine xMv ?_; refine q_d (fun h h_k => ?_) (fun h h_k => ?_) <;> ((try subst h_k); (have hp := h; try simp only [q_n] at hp); (try (exfalso; first | omega | (cases hp; done))));
          refine xSk ?_; refine xSk ?_; refine xSk ?_; refine xSr ?_; refine xSr ?_; refine xSr ?_; refine xSr ?_; refine xSr ?_; refine xSr ?_; refine xSr ?_; refine xSk ?_; refine xPf ?_; refine zY ?_; refine ex_cond_f rfl (by rfl) ?_; refine zR ?_; refine zZ ?_; refine xMv ?_; refine xAd ?_; refine xAs ?_; refine zN ?_; simp only [zQ, zV, zU, zW, zG, ↓reduceIte, Nat.reduceEqDiff]; rotate_left
          (all_goals (repeat (rename BV _ _ => hbv; first | cases hbv | clear hbv)))
          all_goals (try (first | cases ‹true = false› | cases ‹false = true›))
          refine ⟨(i + 1, none), ⟨hi, hnx⟩, by dsimp only; omega, ?_⟩
          dsimp only [optI, Option.isSome]
          exact q_le
      | some b =>
        dsimp only [optI, Option.isSome] at hnx ⊢
        by_cases h1 : n < s.turn
        · by_cases h2 : s.turn < b
          · rw [if_pos (by simp [h1, h2])] at hnx
            refine zX ?_; refine zX (zZ ?_); refine xMv ?_; refine xMv ?_; refine xLn ?_; refine xBi ?_; intro _ _; refine zY ?_; refine q_c (fun h h_k => ?_) (fun h h_k => ?_) <;> ((try subst h_k); (have hp := h; try simp only [q_n] at hp); (try (exfalso; first | omega | (cases hp; done))));
            refine zR ?_; refine zX ?_; refine zK ?_; refine zX (zZ ?_); refine xMv ?_; refine xMv ?_; apply exl_isB; rfl; rfl; rfl; (refine zJ rfl rfl (zT (by kernel_rfl)) ?_; exact cc _); intro _ _; refine xAs ?_; refine zY ?_; refine zX (zZ ?_); refine xMv ?_; refine xMv ?_; refine q_d (fun h h_k => ?_) (fun h h_k => ?_) <;> ((try subst h_k); (have hp := h; try simp only [q_n] at hp); (try (exfalso; first | omega | (cases hp; done))));
            refine yMv ?_; refine yMv ?_; refine yIx ?_; refine yFa ?_; refine yLd ?_; refine yMv ?_; refine yBi ?_; intro _ _; refine xPt ?_; refine xMv ?_; refine q_d (fun h h_k => ?_) (fun h h_k => ?_) <;> ((try subst h_k); (have hp := h; try simp only [q_n] at hp); (try (exfalso; first | omega | (cases hp; done))));
            refine yMv ?_; refine yNo ?_; intro _ _; refine yMv ?_; refine q_d (fun h h_k => ?_) (fun h h_k => ?_) <;> ((try subst h_k); (have hp := h; try simp only [q_n] at hp); (try (exfalso; first | omega | (cases hp; done))));
            refine yMv ?_; refine yMv ?_; refine yIx ?_; refine yFa ?_; refine yLd ?_; refine yMv ?_; refine yBi ?_; intro _ _; apply exl_isW; rfl; (rfl); rfl; rfl; (apply g_pick_f; rfl; (rfl); rfl); refine xPt ?_; refine zY ?_; refine q_c (fun h h_k => ?_) (fun h h_k => ?_) <;> ((try subst h_k); (have hp := h; try simp only [q_n] at hp); (try (exfalso; first | omega | (cases hp; done))));
            refine zX (zZ ?_); refine xMv ?_; refine xMv ?_; refine xIx ?_; refine xFa ?_; refine xLd ?_; refine xAs ?_; refine zY ?_; refine zZ ?_; refine xAs ?_; refine zN ?_; refine zZ ?_; refine xMv ?_; refine xAd ?_; refine xAs ?_; refine zN ?_; simp only [zQ, zV, zU, zW, zG, ↓reduceIte, Nat.reduceEqDiff]; rotate_left
            (all_goals (repeat (rename BV _ _ => hbv; first | cases hbv | clear hbv)))
            all_goals (try (first | cases ‹true = false› | cases ‹false = true›))
            refine ⟨(i + 1, some s.turn), ⟨hi, hnx⟩, by dsimp only; omega, ?_⟩
            dsimp only [optI, Option.isSome]
            exact q_le
          · rw [if_neg (by simp [h2])] at hnx
            refine zX ?_; refine zX (zZ ?_); refine xMv ?_; refine xMv ?_; refine xLn ?_; refine xBi ?_; intro _ _; refine zY ?_; refine q_c (fun h h_k => ?_) (fun h h_k => ?_) <;> ((try subst h_k); (have hp := h; try simp only [q_n] at hp); (try (exfalso; first | omega | (cases hp; done))));
            refine zR ?_; refine zX ?_; refine zK ?_; refine zX (zZ ?_); refine xMv ?_; refine xMv ?_; apply exl_isB; rfl; rfl; rfl; (refine zJ rfl rfl (zT (by kernel_rfl)) ?_; exact cc _); intro _ _; refine xAs ?_; refine zY ?_; refine zX (zZ ?_); refine xMv ?_; refine xMv ?_; refine q_d (fun h h_k => ?_) (fun h h_k => ?_) <;> ((try subst h_k); (have hp := h; try simp only [q_n] at hp); (try (exfalso; first | omega | (cases hp; done))));
            refine yMv ?_; refine yMv ?_; refine yIx ?_; refine yFa ?_; refine yLd ?_; refine yMv ?_; refine yBi ?_; intro _ _; refine xPt ?_; refine xMv ?_; refine q_d (fun h h_k => ?_) (fun h h_k => ?_) <;> ((try subst h_k); (have hp := h; try simp only [q_n] at hp); (try (exfalso; first | omega | (cases hp; done))));
            refine yMv ?_; refine yNo ?_; intro _ _; refine yMv ?_; refine q_d (fun h h_k => ?_) (fun h h_k => ?_) <;> ((try subst h_k); (have hp := h; try simp only [q_n] at hp); (try (exfalso; first | omega | (cases hp; done))));
            refine yMv ?_; refine yMv ?_; refine yIx ?_; refine yFa ?_; refine yLd ?_; refine yMv ?_; refine yBi ?_; intro _ _; apply exl_isW; rfl; (rfl); rfl; rfl; (apply g_pick_f; rfl; (rfl); rfl); refine xPt ?_; refine zY ?_; refine q_c (fun h h_k => ?_) (fun h h_k => ?_) <;> ((try subst h_k); (have hp := h; try simp only [q_n] at hp); (try (exfalso; first | omega | (cases hp; done))));
            refine zR ?_; refine zZ ?_; refine xMv ?_; refine xAd ?_; refine xAs ?_; refine zN ?_; simp only [zQ, zV, zU, zW, zG, ↓reduceIte, Nat.reduceEqDiff]; rotate_left
            (all_goals (repeat (rename BV _ _ => hbv; first | cases hbv | clear hbv)))
            all_goals (try (first | cases ‹true = false› | cases ‹false = true›))
            refine ⟨(i + 1, some b), ⟨hi, hnx⟩, by dsimp only; omega, ?_⟩
            dsimp only [optI, Option.isSome]
            exact q_le
        · rw [decide_eq_false h1, Bool.false_and] at hnx
          refine zX ?_; refine zX (zZ ?_); refine xMv ?_; refine xMv ?_; refine xLn ?_; refine xBi ?_; intro _ _; refine zY ?_; refine q_c (fun h h_k => ?_) (fun h h_k => ?_) <;> ((try subst h_k); (have hp := h; try simp only [q_n] at hp); (try (exfalso; first | omega | (cases hp; done))));
          refine zR ?_; refine zX ?_; refine zK ?_; refine zX (zZ ?_); refine xMv ?_; refine xMv ?_; apply exl_isB; rfl; rfl; rfl; (refine zJ rfl rfl (zT (by kernel_rfl)) ?_; exact cc _); intro _ _; refine xAs ?_; refine zY ?_; refine zX (zZ ?_); refine xMv ?_; refine xMv ?_; refine q_d (fun h h_k => ?_) (fun h h_k => ?_) <;> ((try subst h_k); (have hp := h; try simp only [q_n] at hp); (try (exfalso; first | omega | (cases hp; done))));
          refine yMv ?_; refine yMv ?_; refine yIx ?_; refine yFa ?_; refine yLd ?_; refine yMv ?_; refine yBi ?_; intro _ _; refine xPt ?_; refine xMv ?_; refine q_d (fun h h_k => ?_) (fun h h_k => ?_) <;> ((try subst h_k); (have hp := h; try simp only [q_n] at hp); (try (exfalso; first | omega | (cases hp; done))));
          refine xSk ?_; refine xSk ?_; refine xSk ?_; refine xSr ?_; refine xSr ?_; refine xSr ?_; refine xSr ?_; refine xSr ?_; refine xSr ?_; refine xSr ?_; refine xSk ?_; refine xPf ?_; refine zY ?_; refine ex_cond_f rfl (by rfl) ?_; refine zR ?_; refine zZ ?_; refine xMv ?_; refine xAd ?_; refine xAs ?_; refine zN ?_; simp only [zQ, zV, zU, zW, zG, ↓reduceIte, Nat.reduceEqDiff]; rotate_left
          (all_goals (repeat (rename BV _ _ => hbv; first | cases hbv | clear hbv)))
          all_goals (try (first | cases ‹true = false› | cases ‹false = true›))
          refine ⟨(i + 1, some b), ⟨hi, hnx⟩, by dsimp only; omega, ?_⟩
          dsimp only [optI, Option.isSome]
          exact q_le
  · have e : i = l.length := by omega
    subst e
    rw [List.take_length] at hI2
    have hI2 : o = (entL l).foldl (nxF n) none := hI2
    rw [← hI2]
    clear hI2
    refine zX ?_; refine zX (zZ ?_); refine xMv ?_; refine xMv ?_; refine xLn ?_; refine xBi ?_; intro _ _; refine zY ?_; refine q_c (fun h h_k => ?_) (fun h h_k => ?_) <;> ((try subst h_k); (have hp := h; try simp only [q_n] at hp); (try (exfalso; first | omega | (cases hp; done))));
    refine ex_exit ?_; refine zX (zZ ?_); refine xMv ?_; refine xMv ?_; refine xAs ?_; refine xAs ?_; refine zY ?_; refine zL ?_; simp only [zQ, zV, zU, zW, zG, ↓reduceIte, Nat.reduceEqDiff]; rotate_left
    (all_goals (repeat (rename BV _ _ => hbv; first | cases hbv | clear hbv)))
    all_goals (try (first | cases ‹true = false› | cases ‹false = true›))
    refine q_ri ?_
    rfl
end Go.Proofs.YtkhoengjdfmfaaaGreat
