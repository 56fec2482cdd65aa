/- Parts of the proof that belong together: Um. -/
import Derived.Test.YtkhoengjdfmfaaaGreatGC16
set_option maxRecDepth 10000
set_option linter.unusedSimpArgs false
set_option linter.unusedVariables false
namespace Go.Proofs.YtkhoengjdfmfaaaGreat
open Go.MapKept
theorem insJ_le {n : Int} : ∀ {l : List Int}, l.Pairwise (· ≤ ·) → (insJ n l).Pairwise (· ≤ ·)
  | [], _ => by simp [insJ]
  | x :: l, h => by
    have h' := List.pairwise_cons.1 h
    rw [insJ]
    split
    · rename_i hle
      refine List.pairwise_cons.2 ⟨fun y hy => ?_, h⟩
      rcases List.mem_cons.1 hy with rfl | hy
      · exact hle
      · have := h'.1 y hy; omega
    · refine List.pairwise_cons.2 ⟨fun y hy => ?_, insJ_le h'.2⟩
      rcases insJ_mem.1 hy with rfl | hy
      · omega
      · exact h'.1 y hy
theorem insJ_perm (n : Int) : ∀ l : List Int, (insJ n l).Perm (n :: l)
  | [] => List.Perm.refl _
  | x :: l => by
    rw [insJ]
    split
    · exact List.Perm.refl _
    · exact ((insJ_perm n l).cons x).trans (List.Perm.swap ..)
theorem sortJ_le : ∀ l : List Int, (sortJ l).Pairwise (· ≤ ·)
  | [] => .nil
  | x :: l => insJ_le (sortJ_le l)
theorem sortJ_perm : ∀ l : List Int, (sortJ l).Perm l
  | [] => List.Perm.refl _
  | x :: l => (insJ_perm x (sortJ l)).trans ((sortJ_perm l).cons x)
theorem sortIJ (l : List Int) : sortI l = sortJ l := by
  have h1 : (sortI l).Pairwise (· ≤ ·) := by
    have := List.pairwise_mergeSort (le := fun x y : Int => decide (x ≤ y)) (by simp; omega) (by simp; omega) l
    exact this.imp fun h => by simpa using h
  exact List.Perm.eq_of_pairwise (le := (· ≤ ·)) (fun a b _ _ h k => by omega) h1 (sortJ_le l) ((List.mergeSort_perm _ _).trans (sortJ_perm l).symm)
abbrev mapT : TypeId := 74
set_option maxHeartbeats 16000000 in
theorem turns_c (l : List Sl) (σ : List Ent) : SCall Tryz.prog 13 [.agg [sls l]] σ (fun r τ => r = .tup [.dl 4 ((turnsS l).1.map tnC), .int .i64 (turnsS l).2] ∧ τ = σ) := by
  refine scall_of Tryz.func13 rfl (by simp) ?_
  have c1 := check_c l
  by_cases h0 : checkS l = 0
  · rw [h0] at c1
    have hbk := check_book h0
    have hl : l.length ≤ 600 := by have := (check_zero.1 h0).1; omega
    rw [show turnsS l = ((numsE (entL l)).map (turnS l), 0) by unfold turnsS; rw [if_neg (by rw [h0]; simp)]]
    refine zX (zZ ?_); refine zE rfl rfl rfl (g_box rfl rfl) ?_; intro _; refine xAs rfl rfl rfl rfl ?_; refine xAs rfl rfl rfl rfl ?_; refine zY ?_; refine zX ?_; refine zX (zZ ?_); refine xLa rfl rfl rfl rfl (by decide) rfl (.p (by (repeat first | exact q_h | apply q_t | assumption); done) rfl rfl) ?_; apply zV; rfl; rfl; rfl; (refine yX rfl rfl (zQ (by kernel_rfl)) ?_; exact c1 _); refine xAs rfl rfl rfl rfl ?_; refine zY ?_; refine zX (zZ ?_); refine xMv rfl rfl rfl rfl ?_; refine xBi rfl rfl rfl rfl rfl rfl ?_; intro _ _; refine zY ?_; refine zU rfl (fun h => ?_) (fun h => ?_) <;> ((first | (subst h; rename BV _ true => g; have h := g.eq; clear g) | (subst h; rename BV _ false => g; have h := g.eq; clear g) | skip); (have hp := h; try simp only [q_n] at hp); (try (exfalso; first | omega | (cases hp; done))));
    refine zG ?_; refine zX (zZ ?_); refine exl_map rfl rfl rfl (by exact g_makeMap) ?_; intro _; refine zE rfl rfl rfl (g_alloc rfl) ?_; intro _; apply yY; rfl; rfl; (apply zL; rfl; rfl; rfl; (exact Upd.here); (simp only [setL, q_z, AV.cells]; rfl); rfl; rfl; rfl; exact q_b rfl); refine zY ?_; refine zX (zZ ?_); refine zE rfl rfl rfl (g_alloc rfl) ?_; intro _; apply yY; rfl; rfl; (apply zL; rfl; rfl; rfl; (exact Upd.here); (simp only [setL, q_z, AV.cells]; rfl); rfl; rfl; rfl; exact q_b rfl); refine zY ?_; refine zX ?_; refine zX (zZ ?_); refine xFa rfl rfl rfl rfl rfl rfl ?_; refine xLd rfl rfl rfl rfl rfl (.p (by (repeat first | exact q_h | apply q_t | assumption); done) rfl) ?_; refine exl_call rfl rfl rfl (yX rfl rfl (zQ (by kernel_rfl)) (runs_c _ _)) ?_; rintro _ _ ⟨bs, rfl, rfl⟩; refine zY ?_; refine yZ ?_; simp only [zD, zK, zJ, zT, retA, ↓reduceIte, Nat.reduceEqDiff]; rotate_left
    (all_goals (repeat (rename BV _ _ => hbv; cases hbv)))
    all_goals (try (first | cases ‹true = false› | cases ‹false = true›))
    rename Nat => bs; revert bs; rename Nat => b5; revert b5; rename Nat => b4; revert b4; rename Nat => bm; revert bm; rename Nat => b1; revert b1
    intro b1 bm b4 b5 bs
    clear c1
    refine ex_nilRow 64 4 ?_
    refine ex_weaken (s' := ⟨[(2, .slv nilS), (4, .ptr b4 0), (5, .ptr b5 0), (25, .fn (.func 69) [] [.ptr bs 0])], .row nilS 64 4 [] :: .cells bs [sls l] 22 :: .cells b5 [.int .i64 0] 3 :: .cells b4 [.mp bm] mapT :: .imap bm (fun _ => none) 0 :: σ, [], Tryz.f13.ntmps⟩) (St.le_of (by repeat (first | exact trivial | refine ⟨rfl, ?_⟩)) (by repeat (first | exact q_r | apply q_q | apply q_k))) ?_
    refine ex_range rfl (zQ (by kernel_rfl)) ?_
    intro D l0 fn
    show SCall _ _ _ (Ent.loop _ _ _ _ ?ee ?nn ?ps ?asg ?body _ :: _) _
    obtain ⟨L, hL⟩ : ∃ L, L = Ent.loop l0 .ready none fn ?ee ?nn ?ps ?asg ?body D := ⟨_, rfl⟩
    obtain ⟨L3, hL3⟩ : ∃ L3, L3 = Ent.loop l0 .busy none fn ?ee ?nn ?ps ?asg ?body D := ⟨_, rfl⟩
    rw [← hL]
    refine scall_permu (List.perm_append_comm_assoc [L, .obj D (.deferred (some [])), .row nilS 64 4 []] [.cells bs [sls l] 22] _) ?_
    refine SCall.mono (runs1_c l bs l0 _
      (fun k τ => ∃ (A : Asc) (n : Nat), τ = L :: .obj D (.deferred (some [])) :: .row nilS 64 4 [] :: .cells b5 [.int .i64 ((((runsL l).take k).flatten.length : Nat) : Int)] 3 :: .cells b4 [.mp bm] mapT :: .imap bm (slM (kA A)) n :: (rowsA A ++ σ) ∧ AscOf (entF l 0 ((runsL l).take k).flatten) A)
      (fun _ => False) ?_ ⟨[], 0, rfl, ascOf_nil⟩) ?_
    · rintro k r τ hkr ⟨A, n, rfl, hA⟩
      obtain ⟨t, hrt, hr0⟩ := runs_ofT (Nat.le_refl _) hbk.up r (List.mem_of_getElem? hkr)
      have hright := hbk.each t
      rw [← hrt] at hright
      have hft := flat_take hkr
      have hpl : ((runsL l).take (k + 1)).flatten.length ≤ l.length := by
        have h1 := runs_flat (Nat.le_refl l.length)
        have h2 : (runsL l).flatten = ((runsL l).take (k + 1)).flatten ++ ((runsL l).drop (k + 1)).flatten := by rw [← List.flatten_append, List.take_append_drop]
        have h3 := congrArg List.length (h1.symm.trans h2)
        rw [List.length_append] at h3; omega
      rw [hft] at hpl ⊢
      generalize ((runsL l).take k).flatten = pre at hpl hA ⊢
      rw [List.length_append] at hpl
      have hcnt : ∀ x ∈ r, cntB l x = (!decide (x.kind = 3) && !(voidL r).contains x.seq) := fun x hx => by rw [cnt_run hrt hx, voidL_any]
      clear hft hkr hrt
      rw [hL]
      refine SRound.sub ?_
      refine sround (by (repeat first | exact q_h | apply q_t | assumption); done) rfl (by decide) ?_
      refine zZ ?_; refine xAs rfl rfl rfl rfl ?_; refine zC ?_; simp only [zD]; refine ⟨_, (by (exact Upd.here)), ?_⟩; show EX _ _ _ _ _; refine yZ ?_; refine zX (zZ ?_); refine exl_map rfl rfl rfl (by exact g_makeMap) ?_; intro _; refine xAs rfl rfl rfl rfl ?_; refine zY ?_; refine zX ?_; refine zX (zZ ?_); refine xMv rfl rfl rfl rfl ?_; apply zV; rfl; rfl; rfl; (apply g_len; rfl; rfl; (exact (List.length_map _).symm)); refine xMv rfl rfl rfl rfl ?_; refine zY ?_; refine yZ ?_; rotate_left
      (all_goals (repeat (rename BV _ _ => hbv; cases hbv)))
      all_goals (try (first | cases ‹true = false› | cases ‹false = true›))
      rename Nat => bv
      rw [← hL3]
      rw [show (fun _ => none : Int → Option AV) = boolM (voidL (r.take 0)).contains from boolM_none]
      refine ex_loop (fun (z : Nat × Nat) => (⟨[(4, .ptr b4 0), (5, .ptr b5 0), (6, sls r), (7, .mp bv), (28, sls r), (29, .int .i64 r.length), (30, .int .i64 z.1)], .imap bv (boolM (voidL (r.take z.1)).contains) z.2 :: L3 :: .obj D (.deferred (some [])) :: .row nilS 64 4 [] :: .cells b5 [.int .i64 (pre.length : Nat)] 3 :: .cells b4 [.mp bm] mapT :: .imap bm (slM (kA A)) n :: (rowsA A ++ σ), [], Tryz.f13.ntmps⟩ : St)) (fun z => z.1 ≤ r.length) (fun z => r.length - z.1) (0, 0) (Nat.zero_le _) (St.le_of (by repeat (first | exact trivial | refine ⟨rfl, ?_⟩)) (by repeat (first | exact q_r | apply q_q | apply q_k))) ?_
      intro z hI
      obtain ⟨i, n2⟩ := z
      dsimp only at hI ⊢
      by_cases hi : i < r.length
      · obtain ⟨c, hc⟩ : ∃ c, r[i]? = some c := get_some hi
        have hgc := sl_get hc
        have hv := voidL_take hc
        have hcm := List.mem_of_getElem? hc
        have hsl := hright.slip c hcm
        have hsq := hright.seq i c hc
        clear hcnt hA hright hbk
        rw [hL3]
        by_cases hk : c.kind = 3
        · have ho := slip_off hsl hk
          rw [if_pos hk] at hv
          refine zX (zZ ?_); refine xBi rfl rfl rfl rfl rfl rfl ?_; intro _ _; refine zY ?_; refine zX ?_; refine zU rfl (fun h => ?_) (fun h => ?_) <;> ((first | (subst h; rename BV _ true => g; have h := g.eq; clear g) | (subst h; rename BV _ false => g; have h := g.eq; clear g) | skip); (have hp := h; try simp only [q_n] at hp); (try (exfalso; first | omega | (cases hp; done))));
          refine zG ?_; refine zX ?_; refine yZ ?_; refine zX (zZ ?_); apply zV; rfl; rfl; rfl; (apply g_indexDl; rfl; rfl; rfl; (rfl); (assumption)); apply zV; rfl; rfl; rfl; (apply zB; rfl; decide; rfl; (exact .e rfl rfl)); refine zE rfl rfl rfl (g_alloc rfl) ?_; intro _; apply yY; rfl; rfl; (apply zL; rfl; rfl; rfl; (exact Upd.here); (simp only [setL, q_z, AV.cells]; rfl); rfl; rfl; rfl; exact q_b rfl); refine zY ?_; refine zX (zZ ?_); refine xFa rfl rfl rfl rfl rfl rfl ?_; refine xLd rfl rfl rfl rfl rfl (.p (by (repeat first | exact q_h | apply q_t | assumption); done) rfl) ?_; refine xBi rfl rfl rfl rfl rfl rfl ?_; intro _ _; refine zY ?_; refine zU rfl (fun h => ?_) (fun h => ?_) <;> ((first | (subst h; rename BV _ true => g; have h := g.eq; clear g) | (subst h; rename BV _ false => g; have h := g.eq; clear g) | skip); (have hp := h; try simp only [q_n] at hp); (try (exfalso; first | omega | (cases hp; done))));
          refine zZ ?_; refine xMv rfl rfl rfl rfl ?_; refine xFa rfl rfl rfl rfl rfl rfl ?_; refine xLd rfl rfl rfl rfl rfl (.p (by (repeat first | exact q_h | apply q_t | assumption); done) rfl) ?_; apply zV; rfl; rfl; rfl; (apply g_sub; rfl; rfl; rfl; exact ⟨by omega, by omega⟩); apply yY; rfl; rfl; (apply g_mapUpdate; rfl; rfl; rfl; rfl; (exact Upd.there (Upd.here)); (exact boolM_list _ _)); refine zC ?_; refine zZ ?_; apply zV; rfl; rfl; rfl; (apply g_add; rfl; rfl; rfl; exact ⟨by omega, by omega⟩); refine xMv rfl rfl rfl rfl ?_; refine zC ?_; simp only [zD, zK, zJ, zT, retA, ↓reduceIte, Nat.reduceEqDiff]; rotate_left
          (all_goals (repeat (rename BV _ _ => hbv; cases hbv)))
          all_goals (try (first | cases ‹true = false› | cases ‹false = true›))
          refine ⟨(i + 1, if ((boolM (voidL (r.take i)).contains) (c.off - 1)).isSome then n2 else n2 + 1), hi, by dsimp only; omega, ?_⟩
          dsimp only
          rw [hv]
          exact (St.le_of (by repeat (first | exact trivial | refine ⟨rfl, ?_⟩)) (by repeat (first | exact q_r | apply q_q | apply q_k | exact q_a)))
        · rw [if_neg hk] at hv
          refine zX (zZ ?_); refine xBi rfl rfl rfl rfl rfl rfl ?_; intro _ _; refine zY ?_; refine zX ?_; refine zU rfl (fun h => ?_) (fun h => ?_) <;> ((first | (subst h; rename BV _ true => g; have h := g.eq; clear g) | (subst h; rename BV _ false => g; have h := g.eq; clear g) | skip); (have hp := h; try simp only [q_n] at hp); (try (exfalso; first | omega | (cases hp; done))));
          refine zG ?_; refine zX ?_; refine yZ ?_; refine zX (zZ ?_); apply zV; rfl; rfl; rfl; (apply g_indexDl; rfl; rfl; rfl; (rfl); (assumption)); apply zV; rfl; rfl; rfl; (apply zB; rfl; decide; rfl; (exact .e rfl rfl)); refine zE rfl rfl rfl (g_alloc rfl) ?_; intro _; apply yY; rfl; rfl; (apply zL; rfl; rfl; rfl; (exact Upd.here); (simp only [setL, q_z, AV.cells]; rfl); rfl; rfl; rfl; exact q_b rfl); refine zY ?_; refine zX (zZ ?_); refine xFa rfl rfl rfl rfl rfl rfl ?_; refine xLd rfl rfl rfl rfl rfl (.p (by (repeat first | exact q_h | apply q_t | assumption); done) rfl) ?_; refine xBi rfl rfl rfl rfl rfl rfl ?_; intro _ _; refine zY ?_; refine zU rfl (fun h => ?_) (fun h => ?_) <;> ((first | (subst h; rename BV _ true => g; have h := g.eq; clear g) | (subst h; rename BV _ false => g; have h := g.eq; clear g) | skip); (have hp := h; try simp only [q_n] at hp); (try (exfalso; first | omega | (cases hp; done))));
          refine zG ?_; refine zZ ?_; apply zV; rfl; rfl; rfl; (apply g_add; rfl; rfl; rfl; exact ⟨by omega, by omega⟩); refine xMv rfl rfl rfl rfl ?_; refine zC ?_; simp only [zD, zK, zJ, zT, retA, ↓reduceIte, Nat.reduceEqDiff]; rotate_left
          (all_goals (repeat (rename BV _ _ => hbv; cases hbv)))
          all_goals (try (first | cases ‹true = false› | cases ‹false = true›))
          refine ⟨(i + 1, n2), hi, by dsimp only; omega, ?_⟩
          dsimp only
          rw [hv]
          exact (St.le_of (by repeat (first | exact trivial | refine ⟨rfl, ?_⟩)) (by repeat (first | exact q_r | apply q_q | apply q_k | exact q_a)))
      · have e : i = r.length := by omega
        subst e
        rw [List.take_length]
        rw [hL3]
        clear hI hi
        refine zX (zZ ?_); refine xBi rfl rfl rfl rfl rfl rfl ?_; intro _ _; refine zY ?_; refine zX ?_; refine zU rfl (fun h => ?_) (fun h => ?_) <;> ((first | (subst h; rename BV _ true => g; have h := g.eq; clear g) | (subst h; rename BV _ false => g; have h := g.eq; clear g) | skip); (have hp := h; try simp only [q_n] at hp); (try (exfalso; first | omega | (cases hp; done))));
        refine ex_exit ?_; refine zX (zZ ?_); refine xMv rfl rfl rfl rfl ?_; apply zV; rfl; rfl; rfl; (apply g_len; rfl; rfl; (exact (List.length_map _).symm)); refine xMv rfl rfl rfl rfl ?_; refine zY ?_; refine yZ ?_; rotate_left
        (all_goals (repeat (rename BV _ _ => hbv; cases hbv)))
        all_goals (try (first | cases ‹true = false› | cases ‹false = true›))
        rw [← hL3]
        refine ex_loop (fun (z : Nat × Asc × Nat) => (⟨[(4, .ptr b4 0), (5, .ptr b5 0), (7, .mp bv), (42, sls r), (43, .int .i64 r.length), (44, .int .i64 z.1)], .imap bv (boolM (voidL r).contains) n2 :: L3 :: .obj D (.deferred (some [])) :: .row nilS 64 4 [] :: .cells b5 [.int .i64 ((pre.length + z.1 : Nat) : Int)] 3 :: .cells b4 [.mp bm] mapT :: .imap bm (slM (kA z.2.1)) z.2.2 :: (rowsA z.2.1 ++ σ), [], Tryz.f13.ntmps⟩ : St)) (fun z => z.1 ≤ r.length ∧ AscOf (entF l 0 (pre ++ r.take z.1)) z.2.1) (fun z => r.length - z.1) (0, A, n) (⟨Nat.zero_le _, by simpa using hA⟩) (St.le_of (by repeat (first | exact trivial | refine ⟨rfl, ?_⟩)) (by repeat (first | exact q_r | apply q_q | apply q_k))) ?_
        intro z hI
        clear hA
        obtain ⟨j, A', n'⟩ := z
        obtain ⟨hJ1, hJ2⟩ := hI
        dsimp only at hJ1 hJ2 ⊢
        rw [hL3]
        by_cases hj : j < r.length
        · obtain ⟨c, hc⟩ : ∃ c, r[j]? = some c := get_some hj
          have hgc := sl_get hc
          have hcm := List.mem_of_getElem? hc
          have hcb := hcnt c hcm
          have hsn := entF_snoc l (pre ++ r.take j) c
          have hpj : (pre ++ r.take j).length = pre.length + j := by rw [List.length_append, List.length_take]; omega
          rw [List.append_assoc, ← take_get hc, hpj] at hsn
          have hz1 : ((pre.length + j : Nat) : Int) + 1 = ((pre.length + (j + 1) : Nat) : Int) := by omega
          clear hcnt hright hbk hc hcm
          by_cases hk : c.kind = 3
          · have hno : cntB l c = false := by rw [hcb, decide_eq_true hk]; rfl
            rw [hno, if_neg (by simp)] at hsn
            rw [← hsn] at hJ2
            refine zX (zZ ?_); refine xBi rfl rfl rfl rfl rfl rfl ?_; intro _ _; refine zY ?_; refine zX ?_; refine zU rfl (fun h => ?_) (fun h => ?_) <;> ((first | (subst h; rename BV _ true => g; have h := g.eq; clear g) | (subst h; rename BV _ false => g; have h := g.eq; clear g) | skip); (have hp := h; try simp only [q_n] at hp); (try (exfalso; first | omega | (cases hp; done))));
            refine zG ?_; refine zX ?_; refine yZ ?_; refine zX (zZ ?_); apply zV; rfl; rfl; rfl; (apply g_indexDl; rfl; rfl; rfl; (rfl); (assumption)); apply zV; rfl; rfl; rfl; (apply zB; rfl; decide; rfl; (exact .e rfl rfl)); refine zE rfl rfl rfl (g_alloc rfl) ?_; intro _; apply yY; rfl; rfl; (apply zL; rfl; rfl; rfl; (exact Upd.here); (simp only [setL, q_z, AV.cells]; rfl); rfl; rfl; rfl; exact q_b rfl); refine zY ?_; refine zX ?_; refine zX (zZ ?_); refine xFa rfl rfl rfl rfl rfl rfl ?_; refine xLd rfl rfl rfl rfl rfl (.p (by (repeat first | exact q_h | apply q_t | assumption); done) rfl) ?_; refine xBi rfl rfl rfl rfl rfl rfl ?_; intro _ _; refine xMv rfl rfl rfl rfl ?_; refine zA rfl (fun h => ?_) (fun h => ?_) <;> ((first | (subst h; rename BV _ true => g; have h := g.eq; clear g) | (subst h; rename BV _ false => g; have h := g.eq; clear g) | skip); (have hp := h; try simp only [q_n] at hp); (try (exfalso; first | omega | (cases hp; done))));
            refine zW rfl rfl rfl rfl ?_; refine zW rfl rfl rfl rfl ?_; refine zW rfl rfl rfl rfl ?_; refine zW rfl rfl rfl rfl ?_; refine zW rfl rfl rfl rfl ?_; refine xPf rfl rfl rfl rfl rfl rfl ?_; refine zY ?_; refine ex_cond_f rfl (by rfl) ?_; refine zG ?_; refine zZ ?_; refine xLd rfl rfl rfl rfl rfl (.p (by (repeat first | exact q_h | apply q_t | assumption); done) rfl) ?_; apply zV; rfl; rfl; rfl; (apply g_add; rfl; rfl; rfl; exact ⟨by omega, by omega⟩); apply yY; rfl; rfl; (apply zL; rfl; rfl; rfl; (exact Upd.there (Upd.there (Upd.there (Upd.there (Upd.there (Upd.here)))))); (simp only [setL, q_z, AV.cells]; rfl); rfl; rfl; rfl; exact q_b rfl); refine zC ?_; refine zZ ?_; apply zV; rfl; rfl; rfl; (apply g_add; rfl; rfl; rfl; exact ⟨by omega, by omega⟩); refine xMv rfl rfl rfl rfl ?_; refine zC ?_; simp only [zD, zK, zJ, zT, retA, ↓reduceIte, Nat.reduceEqDiff]; rotate_left
            (all_goals (repeat (rename BV _ _ => hbv; cases hbv)))
            all_goals (try (first | cases ‹true = false› | cases ‹false = true›))
            rw [hz1]
            refine ⟨(j + 1, A', n'), ⟨hj, hJ2⟩, by dsimp only; omega, ?_⟩
            dsimp only
            exact (St.le_of (by repeat (first | exact trivial | refine ⟨rfl, ?_⟩)) (by repeat (first | exact q_r | apply q_q | apply q_k | exact q_a)))
          · cases hvo : (voidL r).contains c.seq with
            | true =>
              have hgd : ((boolM (voidL r).contains) c.seq).getD (.bool false) = .bool true := by rw [boolM_getD, hvo]
              have hno : cntB l c = false := by rw [hcb, hvo]; simp
              rw [hno, if_neg (by simp)] at hsn
              rw [← hsn] at hJ2
              refine zX (zZ ?_); refine xBi rfl rfl rfl rfl rfl rfl ?_; intro _ _; refine zY ?_; refine zX ?_; refine zU rfl (fun h => ?_) (fun h => ?_) <;> ((first | (subst h; rename BV _ true => g; have h := g.eq; clear g) | (subst h; rename BV _ false => g; have h := g.eq; clear g) | skip); (have hp := h; try simp only [q_n] at hp); (try (exfalso; first | omega | (cases hp; done))));
              refine zG ?_; refine zX ?_; refine yZ ?_; refine zX (zZ ?_); apply zV; rfl; rfl; rfl; (apply g_indexDl; rfl; rfl; rfl; (rfl); (assumption)); apply zV; rfl; rfl; rfl; (apply zB; rfl; decide; rfl; (exact .e rfl rfl)); refine zE rfl rfl rfl (g_alloc rfl) ?_; intro _; apply yY; rfl; rfl; (apply zL; rfl; rfl; rfl; (exact Upd.here); (simp only [setL, q_z, AV.cells]; rfl); rfl; rfl; rfl; exact q_b rfl); refine zY ?_; refine zX ?_; refine zX (zZ ?_); refine xFa rfl rfl rfl rfl rfl rfl ?_; refine xLd rfl rfl rfl rfl rfl (.p (by (repeat first | exact q_h | apply q_t | assumption); done) rfl) ?_; refine xBi rfl rfl rfl rfl rfl rfl ?_; intro _ _; refine xMv rfl rfl rfl rfl ?_; refine zA rfl (fun h => ?_) (fun h => ?_) <;> ((first | (subst h; rename BV _ true => g; have h := g.eq; clear g) | (subst h; rename BV _ false => g; have h := g.eq; clear g) | skip); (have hp := h; try simp only [q_n] at hp); (try (exfalso; first | omega | (cases hp; done))));
              apply exl_isW; rfl; (rfl); rfl; rfl; (apply zH; rfl); refine yFa rfl rfl rfl rfl rfl rfl rfl ?_; refine yLd rfl rfl rfl rfl rfl rfl (.p (by (repeat first | exact q_h | apply q_t | assumption); done) rfl) ?_; show EXL _ _ _ ({ dst := _, op := .lookup _ _ _ _, type := _, pos := _, after := _, guard := _ } :: _) _ _; apply exl_isW; rfl; (rfl); rfl; rfl; exact g_lookup rfl rfl (by (repeat first | exact q_h | apply q_t | assumption); done) rfl rfl hgd; apply exl_isBW; rfl; (rfl); rfl; rfl; (apply g_not; rfl); intro _ _; refine xPt rfl rfl rfl rfl rfl rfl ?_; refine zY ?_; refine zU rfl (fun h => ?_) (fun h => ?_) <;> ((first | (subst h; rename BV _ true => g; have h := g.eq; clear g) | (subst h; rename BV _ false => g; have h := g.eq; clear g) | skip); (have hp := h; try simp only [q_n] at hp); (try (exfalso; first | omega | (cases hp; done))));
              refine zG ?_; refine zZ ?_; refine xLd rfl rfl rfl rfl rfl (.p (by (repeat first | exact q_h | apply q_t | assumption); done) rfl) ?_; apply zV; rfl; rfl; rfl; (apply g_add; rfl; rfl; rfl; exact ⟨by omega, by omega⟩); apply yY; rfl; rfl; (apply zL; rfl; rfl; rfl; (exact Upd.there (Upd.there (Upd.there (Upd.there (Upd.there (Upd.here)))))); (simp only [setL, q_z, AV.cells]; rfl); rfl; rfl; rfl; exact q_b rfl); refine zC ?_; refine zZ ?_; apply zV; rfl; rfl; rfl; (apply g_add; rfl; rfl; rfl; exact ⟨by omega, by omega⟩); refine xMv rfl rfl rfl rfl ?_; refine zC ?_; simp only [zD, zK, zJ, zT, retA, ↓reduceIte, Nat.reduceEqDiff]; rotate_left
              (all_goals (repeat (rename BV _ _ => hbv; cases hbv)))
              all_goals (try (first | cases ‹true = false› | cases ‹false = true›))
              rw [hz1]
              refine ⟨(j + 1, A', n'), ⟨hj, hJ2⟩, by dsimp only; omega, ?_⟩
              dsimp only
              exact (St.le_of (by repeat (first | exact trivial | refine ⟨rfl, ?_⟩)) (by repeat (first | exact q_r | apply q_q | apply q_k | exact q_a)))
            | false =>
              have hgd : ((boolM (voidL r).contains) c.seq).getD (.bool false) = .bool false := by rw [boolM_getD, hvo]
              have hye : cntB l c = true := by rw [hcb, hvo, decide_eq_false hk]; rfl
              rw [hye, if_pos rfl] at hsn
              cases hK : kA A' c.turn with
              | some v =>
                obtain ⟨A1, L', A2, rfl⟩ := kA_some hK
                have hGD : ((slM (kA (A1 ++ (c.turn, v, L') :: A2))) c.turn).getD (.slv nilS) = .slv v := by unfold slM; rw [hK]; rfl
                have hrows : rowsA (A1 ++ (c.turn, v, L') :: A2) ++ σ = rowsA A1 ++ rowE v L' :: (rowsA A2 ++ σ) := by rw [rowsA_app, rowsA_cons]; simp
                have hup : ∀ v' l', Upd (rowsA A1 ++ rowE v L' :: (rowsA A2 ++ σ)) (rowE v L') (.row v' 80 9 l') (rowsA A1 ++ .row v' 80 9 l' :: (rowsA A2 ++ σ)) := fun v' l' => upd_mid _ _
                have hLl : L'.length ≤ 600 := by
                  have h1 := (hJ2.ent (c.turn, v, L') (by simp)).1
                  have h2 : (entF l 0 (pre ++ r.take j)).length ≤ (pre ++ r.take j).length := by
                    have : ∀ (m : List Sl) i, (entF l i m).length ≤ m.length := by
                      intro m
                      induction m with
                      | nil => intro i; simp [entF]
                      | cons x m ih => intro i; rw [entF]; have := ih (i + 1); split <;> simp <;> omega
                    exact this _ 0
                  have h3 := congrArg List.length h1
                  have h4 := List.length_filter_le (fun e : Ey => decide (e.2.turn = c.turn)) (entF l 0 (pre ++ r.take j))
                  dsimp only at h3
                  omega
                have hnew : ∀ v', AscOf (entF l 0 (pre ++ r.take (j + 1))) (A1 ++ (c.turn, v', L' ++ [(pre.length + j, c)]) :: A2) := fun v' => by rw [hsn]; exact asc_more (e := (pre.length + j, c)) hJ2
                have hmap : ∀ v', updA (slM (kA (A1 ++ (c.turn, v, L') :: A2))) c.turn (.slv v') = slM (kA (A1 ++ (c.turn, v', L' ++ [(pre.length + j, c)]) :: A2)) := fun v' => by
                  rw [upd_slM]
                  congr 1
                  funext q
                  have hk : (A1 ++ (c.turn, v', L' ++ [(pre.length + j, c)]) :: A2).map (·.1) = (A1 ++ (c.turn, v, L') :: A2).map (·.1) := by simp
                  rw [kA_mid hJ2.nd, kA_mid (by rw [hk]; exact hJ2.nd)]
                  dsimp only
                  by_cases hq : q = c.turn
                  · rw [if_pos hq, if_pos hq]
                  · rw [if_neg hq, if_neg hq, if_neg hq]
                have hrows2 : ∀ v', rowsA (A1 ++ (c.turn, v', L' ++ [(pre.length + j, c)]) :: A2) ++ σ = rowsA A1 ++ .row v' 80 9 (L'.map entC ++ [entC (pre.length + j, c)]) :: (rowsA A2 ++ σ) := fun v' => by rw [rowsA_app, rowsA_cons]; simp
                rw [hrows]
                clear hsn hcb hye hJ2 hK hrows
                refine zX (zZ ?_); refine xBi rfl rfl rfl rfl rfl rfl ?_; intro _ _; refine zY ?_; refine zX ?_; refine zU rfl (fun h => ?_) (fun h => ?_) <;> ((first | (subst h; rename BV _ true => g; have h := g.eq; clear g) | (subst h; rename BV _ false => g; have h := g.eq; clear g) | skip); (have hp := h; try simp only [q_n] at hp); (try (exfalso; first | omega | (cases hp; done))));
                refine zG ?_; refine zX ?_; refine yZ ?_; refine zX (zZ ?_); apply zV; rfl; rfl; rfl; (apply g_indexDl; rfl; rfl; rfl; (rfl); (assumption)); apply zV; rfl; rfl; rfl; (apply zB; rfl; decide; rfl; (exact .e rfl rfl)); refine zE rfl rfl rfl (g_alloc rfl) ?_; intro _; apply yY; rfl; rfl; (apply zL; rfl; rfl; rfl; (exact Upd.here); (simp only [setL, q_z, AV.cells]; rfl); rfl; rfl; rfl; exact q_b rfl); refine zY ?_; refine zX ?_; refine zX (zZ ?_); refine xFa rfl rfl rfl rfl rfl rfl ?_; refine xLd rfl rfl rfl rfl rfl (.p (by (repeat first | exact q_h | apply q_t | assumption); done) rfl) ?_; refine xBi rfl rfl rfl rfl rfl rfl ?_; intro _ _; refine xMv rfl rfl rfl rfl ?_; refine zA rfl (fun h => ?_) (fun h => ?_) <;> ((first | (subst h; rename BV _ true => g; have h := g.eq; clear g) | (subst h; rename BV _ false => g; have h := g.eq; clear g) | skip); (have hp := h; try simp only [q_n] at hp); (try (exfalso; first | omega | (cases hp; done))));
                apply exl_isW; rfl; (rfl); rfl; rfl; (apply zH; rfl); refine yFa rfl rfl rfl rfl rfl rfl rfl ?_; refine yLd rfl rfl rfl rfl rfl rfl (.p (by (repeat first | exact q_h | apply q_t | assumption); done) rfl) ?_; show EXL _ _ _ ({ dst := _, op := .lookup _ _ _ _, type := _, pos := _, after := _, guard := _ } :: _) _ _; apply exl_isW; rfl; (rfl); rfl; rfl; exact g_lookup rfl rfl (by (repeat first | exact q_h | apply q_t | assumption); done) rfl rfl hgd; apply exl_isBW; rfl; (rfl); rfl; rfl; (apply g_not; rfl); intro _ _; refine xPt rfl rfl rfl rfl rfl rfl ?_; refine zY ?_; refine zU rfl (fun h => ?_) (fun h => ?_) <;> ((first | (subst h; rename BV _ true => g; have h := g.eq; clear g) | (subst h; rename BV _ false => g; have h := g.eq; clear g) | skip); (have hp := h; try simp only [q_n] at hp); (try (exfalso; first | omega | (cases hp; done))));
                rotate_left
                (all_goals (repeat (rename BV _ _ => hbv; cases hbv)))
                all_goals (try (first | cases ‹true = false› | cases ‹false = true›))
                refine ex_drawLK memK 12 [11] rfl (by kernel_rfl) rfl ?_
                simp only [List.take_succ_cons, List.take_zero, List.drop_succ_cons, List.drop_zero]
                apply zR; rfl; rfl; rfl; (intro σ' hl; (apply g_load1; rfl; rfl; (exact .p (hl _ (by (exact True.intro)) (by (repeat first | exact q_h | apply q_t | assumption); done)) rfl))); apply zR; rfl; rfl; rfl; (intro σ' hl; (apply zP; rfl; rfl; rfl)); apply zR; rfl; rfl; rfl; (intro σ' hl; (apply g_load1; rfl; rfl; (exact .p (hl _ (by (exact True.intro)) (by (repeat first | exact q_h | apply q_t | assumption); done)) rfl))); apply zR; rfl; rfl; rfl; (intro σ' hl; (apply g_load1; rfl; rfl; (exact .p (hl _ (by (exact True.intro)) (by (repeat first | exact q_h | apply q_t | assumption); done)) rfl))); apply zR; rfl; rfl; rfl; (intro σ' hl; (apply zP; rfl; rfl; rfl)); apply zR; rfl; rfl; rfl; (intro σ' hl; (apply g_load1; rfl; rfl; (exact .p (hl _ (by (exact True.intro)) (by (repeat first | exact q_h | apply q_t | assumption); done)) rfl))); apply zR; rfl; rfl; rfl; (intro σ' hl; exact g_lookup rfl rfl (hl _ True.intro (by (repeat first | exact q_h | apply q_t | assumption); done)) rfl rfl hGD); apply zR; rfl; rfl; rfl; (intro σ' hl; (apply g_load1; rfl; rfl; (exact .p (hl _ (by (exact True.intro)) (by (repeat first | exact q_h | apply q_t | assumption); done)) rfl))); apply zR; rfl; rfl; rfl; (intro σ' hl; (apply zB; rfl; decide; rfl; (exact .p (hl _ (by (exact True.intro)) (by (repeat first | exact q_h | apply q_t | assumption); done)) rfl rfl))); apply zR; rfl; rfl; rfl; (intro σ' hl; (apply g_build; rfl; rfl; rfl; rfl)); apply zR; rfl; rfl; rfl; (intro σ' hl; (exact gop_sealed (g_buildSlice rfl rfl (by decide) rfl rfl (by (simp only [chunkN, List.take_succ_cons, List.take_zero, List.drop_succ_cons, List.drop_zero]; rfl))))); refine wl_eff rfl rfl rfl (by apply g_append; rfl; rfl; rfl; (intro v'; (repeat (first | exact hup v' _ | apply Upd.there))); (exact .d); (intro y hy; simp only [List.mem_map, List.mem_cons, List.not_mem_nil, or_false, List.mem_append] at hy; (focus (obtain ⟨_, _, rfl⟩ := hy; rfl; done))); (refine app_ok ?_ (by kernel_rfl); (try simp only [List.length_append, List.length_map, List.length_cons, List.length_nil, List.length_take, List.length_drop]); omega)) ?_; rintro _ _ ⟨v'⟩; refine ⟨upd_keeps (by (repeat (first | exact hup v' _ | apply Upd.there))), ?_⟩; refine wl_nil ?_; apply yY; rfl; rfl; (apply g_mapUpdate; rfl; rfl; rfl; rfl; (exact Upd.there (Upd.there (Upd.there (Upd.there (Upd.there (Upd.there (Upd.there (Upd.here)))))))); (rfl)); refine zY ?_; refine zZ ?_; refine xLd rfl rfl rfl rfl rfl (.p (by (repeat first | exact q_h | apply q_t | assumption); done) rfl) ?_; apply zV; rfl; rfl; rfl; (apply g_add; rfl; rfl; rfl; exact ⟨by omega, by omega⟩); apply yY; rfl; rfl; (apply zL; rfl; rfl; rfl; (exact Upd.there (Upd.there (Upd.there (Upd.there (Upd.there (Upd.here)))))); (simp only [setL, q_z, AV.cells]; rfl); rfl; rfl; rfl; exact q_b rfl); refine zC ?_; refine zZ ?_; apply zV; rfl; rfl; rfl; (apply g_add; rfl; rfl; rfl; exact ⟨by omega, by omega⟩); refine xMv rfl rfl rfl rfl ?_; refine zC ?_; simp only [zD, zK, zJ, zT, retA, ↓reduceIte, Nat.reduceEqDiff]; rotate_left
                (all_goals (repeat (rename BV _ _ => hbv; cases hbv)))
                all_goals (try (first | cases ‹true = false› | cases ‹false = true›))
                rename Value => v'
                rw [hz1, hmap]
                refine ⟨(j + 1, A1 ++ (c.turn, v', L' ++ [(pre.length + j, c)]) :: A2, if ((slM (kA (A1 ++ (c.turn, v, L') :: A2))) c.turn).isSome then n' else n' + 1), ⟨hj, hnew v'⟩, by dsimp only; omega, ?_⟩
                dsimp only
                rw [hrows2]
                exact (St.le_of (by repeat (first | exact trivial | refine ⟨rfl, ?_⟩)) (by repeat (first | exact q_r | apply q_q | apply q_k | exact q_a)))
              | none =>
                have hno : ∀ a ∈ A', a.1 ≠ c.turn := fun a ha hq => by
                  unfold kA at hK
                  rw [Option.map_eq_none_iff, List.find?_eq_none] at hK
                  have := hK a ha
                  simp at this; exact this hq
                have hGD : ((slM (kA A')) c.turn).getD (.slv nilS) = .slv nilS := by unfold slM; rw [hK]; rfl
                have hnew : ∀ v', AscOf (entF l 0 (pre ++ r.take (j + 1))) ((c.turn, v', [(pre.length + j, c)]) :: A') := fun v' => by rw [hsn]; exact asc_new (e := (pre.length + j, c)) hJ2 hno
                have hmap : ∀ v', updA (slM (kA A')) c.turn (.slv v') = slM (kA ((c.turn, v', [(pre.length + j, c)]) :: A')) := fun v' => by
                  rw [upd_slM]
                  congr 1
                  funext q
                  unfold kA
                  by_cases hq : q = c.turn
                  · rw [if_pos hq, List.find?_cons_of_pos (by simp [hq])]; rfl
                  · rw [if_neg hq, List.find?_cons_of_neg (by simp; omega)]
                clear hsn hcb hye hJ2 hK hno
                refine zX (zZ ?_); refine xBi rfl rfl rfl rfl rfl rfl ?_; intro _ _; refine zY ?_; refine zX ?_; refine zU rfl (fun h => ?_) (fun h => ?_) <;> ((first | (subst h; rename BV _ true => g; have h := g.eq; clear g) | (subst h; rename BV _ false => g; have h := g.eq; clear g) | skip); (have hp := h; try simp only [q_n] at hp); (try (exfalso; first | omega | (cases hp; done))));
                refine zG ?_; refine zX ?_; refine yZ ?_; refine zX (zZ ?_); apply zV; rfl; rfl; rfl; (apply g_indexDl; rfl; rfl; rfl; (rfl); (assumption)); apply zV; rfl; rfl; rfl; (apply zB; rfl; decide; rfl; (exact .e rfl rfl)); refine zE rfl rfl rfl (g_alloc rfl) ?_; intro _; apply yY; rfl; rfl; (apply zL; rfl; rfl; rfl; (exact Upd.here); (simp only [setL, q_z, AV.cells]; rfl); rfl; rfl; rfl; exact q_b rfl); refine zY ?_; refine zX ?_; refine zX (zZ ?_); refine xFa rfl rfl rfl rfl rfl rfl ?_; refine xLd rfl rfl rfl rfl rfl (.p (by (repeat first | exact q_h | apply q_t | assumption); done) rfl) ?_; refine xBi rfl rfl rfl rfl rfl rfl ?_; intro _ _; refine xMv rfl rfl rfl rfl ?_; refine zA rfl (fun h => ?_) (fun h => ?_) <;> ((first | (subst h; rename BV _ true => g; have h := g.eq; clear g) | (subst h; rename BV _ false => g; have h := g.eq; clear g) | skip); (have hp := h; try simp only [q_n] at hp); (try (exfalso; first | omega | (cases hp; done))));
                apply exl_isW; rfl; (rfl); rfl; rfl; (apply zH; rfl); refine yFa rfl rfl rfl rfl rfl rfl rfl ?_; refine yLd rfl rfl rfl rfl rfl rfl (.p (by (repeat first | exact q_h | apply q_t | assumption); done) rfl) ?_; show EXL _ _ _ ({ dst := _, op := .lookup _ _ _ _, type := _, pos := _, after := _, guard := _ } :: _) _ _; apply exl_isW; rfl; (rfl); rfl; rfl; exact g_lookup rfl rfl (by (repeat first | exact q_h | apply q_t | assumption); done) rfl rfl hgd; apply exl_isBW; rfl; (rfl); rfl; rfl; (apply g_not; rfl); intro _ _; refine xPt rfl rfl rfl rfl rfl rfl ?_; refine zY ?_; refine zU rfl (fun h => ?_) (fun h => ?_) <;> ((first | (subst h; rename BV _ true => g; have h := g.eq; clear g) | (subst h; rename BV _ false => g; have h := g.eq; clear g) | skip); (have hp := h; try simp only [q_n] at hp); (try (exfalso; first | omega | (cases hp; done))));
                rotate_left
                (all_goals (repeat (rename BV _ _ => hbv; cases hbv)))
                all_goals (try (first | cases ‹true = false› | cases ‹false = true›))
                refine ex_drawLK memK 12 [11] rfl (by kernel_rfl) rfl ?_
                simp only [List.take_succ_cons, List.take_zero, List.drop_succ_cons, List.drop_zero]
                apply zR; rfl; rfl; rfl; (intro σ' hl; (apply g_load1; rfl; rfl; (exact .p (hl _ (by (exact True.intro)) (by (repeat first | exact q_h | apply q_t | assumption); done)) rfl))); apply zR; rfl; rfl; rfl; (intro σ' hl; (apply zP; rfl; rfl; rfl)); apply zR; rfl; rfl; rfl; (intro σ' hl; (apply g_load1; rfl; rfl; (exact .p (hl _ (by (exact True.intro)) (by (repeat first | exact q_h | apply q_t | assumption); done)) rfl))); apply zR; rfl; rfl; rfl; (intro σ' hl; (apply g_load1; rfl; rfl; (exact .p (hl _ (by (exact True.intro)) (by (repeat first | exact q_h | apply q_t | assumption); done)) rfl))); apply zR; rfl; rfl; rfl; (intro σ' hl; (apply zP; rfl; rfl; rfl)); apply zR; rfl; rfl; rfl; (intro σ' hl; (apply g_load1; rfl; rfl; (exact .p (hl _ (by (exact True.intro)) (by (repeat first | exact q_h | apply q_t | assumption); done)) rfl))); apply zR; rfl; rfl; rfl; (intro σ' hl; exact g_lookup rfl rfl (hl _ True.intro (by (repeat first | exact q_h | apply q_t | assumption); done)) rfl rfl hGD); apply zR; rfl; rfl; rfl; (intro σ' hl; (apply g_load1; rfl; rfl; (exact .p (hl _ (by (exact True.intro)) (by (repeat first | exact q_h | apply q_t | assumption); done)) rfl))); apply zR; rfl; rfl; rfl; (intro σ' hl; (apply zB; rfl; decide; rfl; (exact .p (hl _ (by (exact True.intro)) (by (repeat first | exact q_h | apply q_t | assumption); done)) rfl rfl))); apply zR; rfl; rfl; rfl; (intro σ' hl; (apply g_build; rfl; rfl; rfl; rfl)); apply zR; rfl; rfl; rfl; (intro σ' hl; (exact gop_sealed (g_buildSlice rfl rfl (by decide) rfl rfl (by (simp only [chunkN, List.take_succ_cons, List.take_zero, List.drop_succ_cons, List.drop_zero]; rfl))))); refine wl_row rfl rfl rfl (by apply g_appendNil; rfl; rfl; rfl; (exact .d); (intro y hy; simp only [List.mem_map, List.mem_cons, List.not_mem_nil, or_false, List.mem_append] at hy; (focus (obtain ⟨_, _, rfl⟩ := hy; rfl; done))); (refine app_ok ?_ (by kernel_rfl); (try simp only [List.length_append, List.length_map, List.length_cons, List.length_nil, List.length_take, List.length_drop]); omega)) ?_; intro v'; refine wl_nil ?_; show EXL _ _ _ ({ dst := _, op := .mapUpdate _ _ _ _, type := _, pos := _, after := _, guard := _ } :: _) _ _; refine exl_perm (List.perm_middle (l₁ := [_, _, _, _, _, _, _, _]) (l₂ := rowsA A' ++ σ)).symm ?_; simp only [List.cons_append, List.nil_append]; (apply yY; rfl; rfl; (apply g_mapUpdate; rfl; rfl; rfl; rfl; exact (by (exact Upd.there (Upd.there (Upd.there (Upd.there (Upd.there (Upd.there (Upd.there (Upd.here))))))))); rfl)); refine zY ?_; refine zZ ?_; refine xLd rfl rfl rfl rfl rfl (.p (by (repeat first | exact q_h | apply q_t | assumption); done) rfl) ?_; apply zV; rfl; rfl; rfl; (apply g_add; rfl; rfl; rfl; exact ⟨by omega, by omega⟩); apply yY; rfl; rfl; (apply zL; rfl; rfl; rfl; (exact Upd.there (Upd.there (Upd.there (Upd.there (Upd.there (Upd.here)))))); (simp only [setL, q_z, AV.cells]; rfl); rfl; rfl; rfl; exact q_b rfl); refine zC ?_; refine zZ ?_; apply zV; rfl; rfl; rfl; (apply g_add; rfl; rfl; rfl; exact ⟨by omega, by omega⟩); refine xMv rfl rfl rfl rfl ?_; refine zC ?_; simp only [zD, zK, zJ, zT, retA, ↓reduceIte, Nat.reduceEqDiff]; rotate_left
                (all_goals (repeat (rename BV _ _ => hbv; cases hbv)))
                all_goals (try (first | cases ‹true = false› | cases ‹false = true›))
                rename Value => v'
                rw [hz1, hmap]
                refine ⟨(j + 1, (c.turn, v', [(pre.length + j, c)]) :: A', if ((slM (kA A')) c.turn).isSome then n' else n' + 1), ⟨hj, hnew v'⟩, by dsimp only; omega, ?_⟩
                dsimp only
                exact (St.le_of (by repeat (first | exact trivial | refine ⟨rfl, ?_⟩)) (by repeat (first | exact q_r | apply q_q | apply q_k | exact q_a)))
        · have e : j = r.length := by omega
          subst e
          rw [List.take_length] at hJ2
          rw [← List.length_append]
          refine zX (zZ ?_); refine xBi rfl rfl rfl rfl rfl rfl ?_; intro _ _; refine zY ?_; refine zX ?_; refine zU rfl (fun h => ?_) (fun h => ?_) <;> ((first | (subst h; rename BV _ true => g; have h := g.eq; clear g) | (subst h; rename BV _ false => g; have h := g.eq; clear g) | skip); (have hp := h; try simp only [q_n] at hp); (try (exfalso; first | omega | (cases hp; done))));
          refine ex_exit ?_; simp only [zD, zK, zJ, zT, retA, ↓reduceIte, Nat.reduceEqDiff]; show rndA _ _ _ _ _ _ _ _ _ _ _; refine ⟨_, _, rfl, (by (exact Upd.there (Upd.here))), ?_⟩; simp only [zD, zK, zJ, zT, retA, ↓reduceIte, Nat.reduceEqDiff]; rotate_left
          (all_goals (repeat (rename BV _ _ => hbv; cases hbv)))
          all_goals (try (first | cases ‹true = false› | cases ‹false = true›))
          subst hL hL3
          refine ⟨_, ?_, .inl ⟨rfl, A', n', rfl, hJ2⟩⟩
          exact (by repeat (first | exact q_r | apply q_q | apply q_k | exact q_a))
    · rintro r τ (⟨A, n, rfl, hA⟩ | h)
      · rw [List.take_length, runs_flat (Nat.le_refl _)] at hA ⊢
        rw [hL]
        refine RangeEnd.done .here ?_
        clear hL hL3 L L3
        show EX _ _ _ _ _
        refine zX ?_; refine zX (zZ ?_); refine xLd rfl rfl rfl rfl rfl (.p (by (repeat first | exact q_h | apply q_t | assumption); done) rfl) ?_; show EXL _ _ _ ({ dst := _, op := .range _ _, type := _, pos := _, after := _, guard := _ } :: _) _ _; refine exl_call rfl rfl rfl (g_rangeV rfl rfl (by intro e; exact (by (exact Upd.there (Upd.there (Upd.there (Upd.there (Upd.here)))))))) ?_; rintro _ _ ⟨rb, es, clock, hE⟩; refine zY ?_; refine yZ ?_; rotate_left
        (all_goals (repeat (rename BV _ _ => hbv; cases hbv)))
        all_goals (try (first | cases ‹true = false› | cases ‹false = true›))
        have hkn := fun q => @kA_iff _ _ hA q
        have hS9 := fun K S => @turns_sorted l K S
        have hent : ∀ k v L, (k, v, L) ∈ A → L = entT l k := fun k v L h => (hA.ent _ h).1
        have hnd := hA.nd
        have hel := entL_len l
        have hnl := nums_len (entL l)
        rw [← show entL l = entF l 0 l from rfl] at hkn
        have hstart : rowsA A ++ σ = rowsA (leftA A []) ++ σ := by rw [leftA_nil]
        rw [hstart]
        clear hstart hA hbk h0
        refine ex_loop (fun (z : Array Nat × List Int × Value) => (⟨[(2, .slv z.2.2), (74, .ptr rb 0)], .obj rb (.mapIter (some bm) clock z.1 clock) :: .obj D (.deferred (some [])) :: .row z.2.2 64 4 ((z.2.1.map (turnS l)).map tnC) :: .obj bm (.map es clock) :: (rowsA (leftA A z.2.1) ++ σ), [D], Tryz.f13.ntmps⟩ : St)) (fun z => z.2.1.Nodup ∧ (∀ q, q ∈ z.2.1 ↔ Hit es z.1 q) ∧ ∀ q ∈ z.2.1, q ∈ numsE (entL l)) (fun z => (leftOf es z.1).size) (#[], [], nilS) (⟨.nil, fun q => ⟨fun h => by simp at h, fun h => absurd h (Hit.none es q)⟩, fun q h => by simp at h⟩) (St.le_of (by repeat (first | exact trivial | refine ⟨rfl, ?_⟩)) (by repeat (first | exact q_r | apply q_q | apply q_k))) ?_
        intro z hI
        obtain ⟨seen, K, vo⟩ := z
        obtain ⟨hI1, hI2, hI3⟩ := hI
        dsimp only at hI1 hI2 hI3 ⊢
        have hKl : K.length ≤ 600 := by
          have := nodup_len hI1 (fun q hq => hI3 q hq)
          omega
        refine zX (zZ ?_); show EXL _ _ _ ({ dst := _, op := .next _ _, type := _, pos := _, after := _, guard := _ } :: _) _ _; refine exl_call rfl rfl rfl (g_nextV hE rfl (by (repeat first | exact q_h | apply q_t | assumption); done) (by intro s; exact Upd.here)) ?_; rintro _ _ (hd | ⟨e, k, v, he, hk, hv, hsl, h0, hn, hpp, hm⟩); apply zV; rfl; rfl; rfl; (apply yW; rfl; rfl); refine zY ?_; refine zX ?_; refine ex_cond_f rfl (by rfl) ?_; refine ex_exit ?_; refine zX (zZ ?_); refine xMv rfl rfl rfl rfl ?_; rotate_left; apply zV; rfl; rfl; rfl; (apply yW; rfl; rfl); refine zY ?_; refine zX ?_; refine ex_cond_t rfl (by rfl) ?_; refine zG ?_; refine yZ ?_; refine zX (zZ ?_); show EXL _ _ _ ({ dst := _, op := .entry _, type := _, pos := _, after := _, guard := _ } :: _) _ _; apply zV; rfl; rfl; rfl; exact g_entryV hE he hk hv hsl rfl (by (repeat first | exact q_h | apply q_t | assumption); done) (by (repeat first | exact q_h | apply q_t | assumption); done); apply zV; rfl; rfl; rfl; (apply yW; rfl; rfl); apply zV; rfl; rfl; rfl; (apply yW; rfl; rfl); refine xAs rfl rfl rfl rfl ?_; refine xAs rfl rfl rfl rfl ?_; refine zY ?_; refine zX (zZ ?_); refine xMv rfl rfl rfl rfl ?_; rotate_left
        (all_goals (repeat (rename BV _ _ => hbv; cases hbv)))
        all_goals (try (first | cases ‹true = false› | cases ‹false = true›))
        · have hall : ∀ q, q ∈ K ↔ q ∈ numsE (entL l) := fun q => ⟨hI3 q, fun h => by
            obtain ⟨v, hv⟩ := (hkn q).2 h
            exact (hI2 q).2 (hd q v hv)⟩
          have hfin := fun S => hS9 K S hI1 hall
          have hlen : (K.map (turnS l)).length ≤ 100000 := by rw [List.length_map]; omega
          clear hd hkn hent hS9 hnd hI2 hI3 hall
          refine exl_call rfl rfl rfl (yX rfl rfl (zQ (by kernel_rfl)) (scall_permu (List.perm_middle (l₁ := [_, _])) (sortTurn_c hlen))) ?_; rintro _ _ ⟨rfl, S, hS1, hS2, rfl⟩; simp only [List.cons_append, List.nil_append]; refine zY ?_; refine zX (zZ ?_); refine xMv rfl rfl rfl rfl ?_; refine xAs rfl rfl rfl rfl ?_; refine xAs rfl rfl rfl rfl ?_; refine zY ?_; refine yV ?_; simp only [zD, zK, zJ, zT, retA, ↓reduceIte, Nat.reduceEqDiff]; rotate_left
          (all_goals (repeat (rename BV _ _ => hbv; cases hbv)))
          all_goals (try (first | cases ‹true = false› | cases ‹false = true›))
          rw [← hfin S hS1 hS2]
          refine ret_q (σ3 := .row vo 64 4 (S.map tnC) :: σ) (.cons (Rem.there (.there .here)) .nil) (.cons (.ofTmp rfl) (.cons (.ofTmp rfl) .nil)) (by repeat (first | exact q_r | apply q_q | apply q_k | exact q_a)) ?_
          exact fin_seal .here (.tup (.here (.same .nil)) .nil) (fin_done ⟨rfl, rfl⟩)
        · have hkK : k ∉ K := fun h => hn ((hI2 k).1 h)
          obtain ⟨A1, L, A2, hA1, hA2, hmem⟩ := leftA_step hnd h0 hkK
          have hLd := hent k v L hmem
          have hLu : L.Pairwise (fun a b => a.1 < b.1) := by rw [hLd]; exact entT_up l k
          have hLl : L.length ≤ 2000 := by
            rw [hLd]
            have : (entT l k).length ≤ (entL l).length := List.length_filter_le _ _
            omega
          have hK2 : (K ++ [k]).Nodup := by
            rw [List.nodup_append]
            exact ⟨hI1, by simp, fun a ha b hb => by rw [List.mem_singleton] at hb; subst hb; exact fun h => hkK (h ▸ ha)⟩
          have hI2' : ∀ q, q ∈ K ++ [k] ↔ Hit es (seen.push e.born) q := fun q => by rw [hpp q, ← hI2 q]; simp
          have hI3' : ∀ q ∈ K ++ [k], q ∈ numsE (entL l) := fun q hq => by
            rcases List.mem_append.1 hq with hq | hq
            · exact hI3 q hq
            · rw [List.mem_singleton] at hq; subst hq; exact (hkn q).1 ⟨v, h0⟩
          have hrp := rows_perm A1 A2 k v L σ
          rw [hA1]
          rw [← hA2] at hrp
          obtain ⟨S, hSd⟩ : ∃ S, sortE L = S := ⟨_, rfl⟩
          have hSl : S.length ≤ 2000 := by rw [← hSd, sortE_len]; exact hLl
          have cst := sortStable_c L hLu hLl v
          rw [hSd] at cst
          have hturn : turnS l k = { S.foldl stepT ⟨k, 0, 0, []⟩ with twice := sortJ (S.foldl stepT ⟨k, 0, 0, []⟩).twice } := by rw [← hSd, hLd]; rfl
          have hidx : ∀ x ∈ S, x.1 ≤ 600 := fun x hx => by
            rw [← hSd, sortE_mem, hLd, entT_mem, entL_get] at hx
            have := get_lt hx.1.1
            omega
          clear hkn hent hS9 hnd hI1 hI2 hI3 hA1 hA2 hmem hLd hLu hSd hLl h0 hn hpp
          refine exl_call rfl rfl rfl (yX rfl rfl (zQ (by kernel_rfl)) (scall_permu (hrp [_, _, _, _]) (cst _))) ?_; rintro _ _ ⟨rfl, rfl⟩; simp only [List.cons_append, List.nil_append]; refine zY ?_; refine zX (zZ ?_); refine xMv rfl rfl rfl rfl ?_; apply zV; rfl; rfl; rfl; (apply g_build; rfl; rfl; rfl; rfl); refine zE rfl rfl rfl (g_alloc rfl) ?_; intro _; apply yY; rfl; rfl; (apply zL; rfl; rfl; rfl; (exact Upd.here); (simp only [setL, q_z, AV.cells]; rfl); rfl; rfl; rfl; exact q_b rfl); refine zY ?_; refine zX ?_; refine zX (zZ ?_); refine xMv rfl rfl rfl rfl ?_; apply zV; rfl; rfl; rfl; (apply g_len; rfl; rfl; (exact .inl ⟨_, _, _, (by (repeat first | exact q_h | apply q_t | assumption); done), (List.length_map _).symm⟩)); refine xMv rfl rfl rfl rfl ?_; refine zY ?_; refine yZ ?_; simp only [zD, zK, zJ, zT, retA, ↓reduceIte, Nat.reduceEqDiff]; rotate_left
          (all_goals (repeat (rename BV _ _ => hbv; cases hbv)))
          all_goals (try (first | cases ‹true = false› | cases ‹false = true›))
          rename Nat => b14
          clear cst hrp
          refine ex_nilRow 3 1 ?_
          obtain ⟨τ, hτ⟩ : ∃ τ, τ = Ent.obj rb (.mapIter (some bm) clock (seen.push e.born) clock) :: .obj D (.deferred (some [])) :: .row vo 64 4 ((K.map (turnS l)).map tnC) :: .obj bm (.map es clock) :: (rowsA (leftA A (K ++ [k])) ++ σ) := ⟨_, rfl⟩
          rw [← hτ]
          refine ex_loop (fun (z : Nat × Tn × Value) => (⟨[(2, .slv vo), (74, .ptr rb 0), (14, .ptr b14 0), (84, .slv v), (85, .int .i64 (S.length : Nat)), (86, .int .i64 z.1)], .row z.2.2 3 1 (z.2.1.twice.map intC) :: .cells b14 [.int .i64 z.2.1.turn, .int .i64 z.2.1.farm, .int .i64 z.2.1.given, .slv z.2.2] 64 :: rowE v S :: τ, [D], Tryz.f13.ntmps⟩ : St)) (fun z => z.1 ≤ S.length ∧ z.2.1 = (S.take z.1).foldl stepT ⟨k, 0, 0, []⟩) (fun z => S.length - z.1) (0, ⟨k, 0, 0, []⟩, nilS) (⟨Nat.zero_le _, rfl⟩) (St.le_of (by repeat (first | exact trivial | refine ⟨rfl, ?_⟩)) (by repeat (first | exact q_r | apply q_q | apply q_k))) ?_
          intro z hI
          obtain ⟨j, t, w⟩ := z
          obtain ⟨hJ1, hJ2⟩ := hI
          dsimp only at hJ1 hJ2 ⊢
          have hslen : (S.map entC).length = S.length := List.length_map _
          have htw : t.twice.length ≤ j := by
            rw [hJ2]
            have := fold_twice (S.take j) ⟨k, 0, 0, []⟩
            rw [List.length_take] at this
            simp at this; omega
          by_cases hj : j < S.length
          · obtain ⟨x, hx⟩ : ∃ x, S[j]? = some x := get_some hj
            have hgx := ent_get hx
            have hst := foldT_take hx ⟨k, 0, 0, []⟩
            rw [← hJ2] at hst
            have hxj := hidx x (List.mem_of_getElem? hx)
            clear hJ2 hx hτ hturn hI2' hI3' hK2 hE
            unfold stepT at hst
            by_cases hk2 : x.2.kind = 2
            · rw [if_pos hk2] at hst
              by_cases hg : t.given = 0
              · rw [if_pos hg] at hst
                refine zX (zZ ?_); refine xBi rfl rfl rfl rfl rfl rfl ?_; intro _ _; refine zY ?_; refine zX ?_; refine zU rfl (fun h => ?_) (fun h => ?_) <;> ((first | (subst h; rename BV _ true => g; have h := g.eq; clear g) | (subst h; rename BV _ false => g; have h := g.eq; clear g) | skip); (have hp := h; try simp only [q_n] at hp); (try (exfalso; first | omega | (cases hp; done))));
                refine zG ?_; refine zX ?_; refine yZ ?_; refine zX (zZ ?_); apply zV; rfl; rfl; rfl; (apply g_indexRow; rfl; rfl; exact (by (repeat first | exact q_h | apply q_t | assumption); done); rfl; (rfl); (omega)); apply zV; rfl; rfl; rfl; (apply zB; rfl; decide; rfl; (exact .k0 (by (repeat first | exact q_h | apply q_t | assumption); done) (by assumption) rfl rfl)); refine zE rfl rfl rfl (g_alloc rfl) ?_; intro _; apply yY; rfl; rfl; (apply zL; rfl; rfl; rfl; (exact Upd.here); (simp only [setL, q_z, AV.cells]; rfl); rfl; rfl; rfl; exact q_b rfl); refine zY ?_; refine yZ ?_; refine zX (zZ ?_); refine xFa rfl rfl rfl rfl rfl rfl ?_; refine xFa rfl rfl rfl rfl rfl rfl ?_; refine xLd rfl rfl rfl rfl rfl (.p (by (repeat first | exact q_h | apply q_t | assumption); done) rfl) ?_; refine xBi rfl rfl rfl rfl rfl rfl ?_; intro _ _; refine xMv rfl rfl rfl rfl ?_; refine zA rfl (fun h => ?_) (fun h => ?_) <;> ((first | (subst h; rename BV _ true => g; have h := g.eq; clear g) | (subst h; rename BV _ false => g; have h := g.eq; clear g) | skip); (have hp := h; try simp only [q_n] at hp); (try (exfalso; first | omega | (cases hp; done))));
                refine yFa rfl rfl rfl rfl rfl rfl rfl ?_; refine yLd rfl rfl rfl rfl rfl rfl (.p (by (repeat first | exact q_h | apply q_t | assumption); done) rfl) ?_; refine yBi rfl rfl rfl rfl rfl rfl rfl ?_; intro _ _; refine xPt rfl rfl rfl rfl rfl rfl ?_; refine xAs rfl rfl rfl rfl ?_; refine zY ?_; refine zU rfl (fun h => ?_) (fun h => ?_) <;> ((first | (subst h; rename BV _ true => g; have h := g.eq; clear g) | (subst h; rename BV _ false => g; have h := g.eq; clear g) | skip); (have hp := h; try simp only [q_n] at hp); (try (exfalso; first | omega | (cases hp; done))));
                refine zZ ?_; refine xFa rfl rfl rfl rfl rfl rfl ?_; refine xFa rfl rfl rfl rfl rfl rfl ?_; refine xLd rfl rfl rfl rfl rfl (.p (by (repeat first | exact q_h | apply q_t | assumption); done) rfl) ?_; refine xFa rfl rfl rfl rfl rfl rfl ?_; apply yY; rfl; rfl; (apply zL; rfl; rfl; rfl; (exact Upd.there (Upd.there (Upd.here))); (simp only [setL, q_z, AV.cells]; rfl); rfl; rfl; rfl; exact q_b rfl); refine zC ?_; refine zZ ?_; apply zV; rfl; rfl; rfl; (apply g_add; rfl; rfl; rfl; exact ⟨by omega, by omega⟩); refine xMv rfl rfl rfl rfl ?_; refine zC ?_; simp only [zD, zK, zJ, zT, retA, ↓reduceIte, Nat.reduceEqDiff]; rotate_left
                (all_goals (repeat (rename BV _ _ => hbv; cases hbv)))
                all_goals (try (first | cases ‹true = false› | cases ‹false = true›))
                refine ⟨(j + 1, { t with farm := x.2.farm }, w), ⟨hj, hst.symm⟩, by dsimp only; omega, ?_⟩
                dsimp only
                exact (St.le_of (by repeat (first | exact trivial | refine ⟨rfl, ?_⟩)) (by repeat (first | exact q_r | apply q_q | apply q_k | exact q_a)))
              · rw [if_neg hg] at hst
                refine zX (zZ ?_); refine xBi rfl rfl rfl rfl rfl rfl ?_; intro _ _; refine zY ?_; refine zX ?_; refine zU rfl (fun h => ?_) (fun h => ?_) <;> ((first | (subst h; rename BV _ true => g; have h := g.eq; clear g) | (subst h; rename BV _ false => g; have h := g.eq; clear g) | skip); (have hp := h; try simp only [q_n] at hp); (try (exfalso; first | omega | (cases hp; done))));
                refine zG ?_; refine zX ?_; refine yZ ?_; refine zX (zZ ?_); apply zV; rfl; rfl; rfl; (apply g_indexRow; rfl; rfl; exact (by (repeat first | exact q_h | apply q_t | assumption); done); rfl; (rfl); (omega)); apply zV; rfl; rfl; rfl; (apply zB; rfl; decide; rfl; (exact .k0 (by (repeat first | exact q_h | apply q_t | assumption); done) (by assumption) rfl rfl)); refine zE rfl rfl rfl (g_alloc rfl) ?_; intro _; apply yY; rfl; rfl; (apply zL; rfl; rfl; rfl; (exact Upd.here); (simp only [setL, q_z, AV.cells]; rfl); rfl; rfl; rfl; exact q_b rfl); refine zY ?_; refine yZ ?_; refine zX (zZ ?_); refine xFa rfl rfl rfl rfl rfl rfl ?_; refine xFa rfl rfl rfl rfl rfl rfl ?_; refine xLd rfl rfl rfl rfl rfl (.p (by (repeat first | exact q_h | apply q_t | assumption); done) rfl) ?_; refine xBi rfl rfl rfl rfl rfl rfl ?_; intro _ _; refine xMv rfl rfl rfl rfl ?_; refine zA rfl (fun h => ?_) (fun h => ?_) <;> ((first | (subst h; rename BV _ true => g; have h := g.eq; clear g) | (subst h; rename BV _ false => g; have h := g.eq; clear g) | skip); (have hp := h; try simp only [q_n] at hp); (try (exfalso; first | omega | (cases hp; done))));
                refine yFa rfl rfl rfl rfl rfl rfl rfl ?_; refine yLd rfl rfl rfl rfl rfl rfl (.p (by (repeat first | exact q_h | apply q_t | assumption); done) rfl) ?_; refine yBi rfl rfl rfl rfl rfl rfl rfl ?_; intro _ _; refine xPt rfl rfl rfl rfl rfl rfl ?_; refine xAs rfl rfl rfl rfl ?_; refine zY ?_; refine zU rfl (fun h => ?_) (fun h => ?_) <;> ((first | (subst h; rename BV _ true => g; have h := g.eq; clear g) | (subst h; rename BV _ false => g; have h := g.eq; clear g) | skip); (have hp := h; try simp only [q_n] at hp); (try (exfalso; first | omega | (cases hp; done))));
                refine zX (zZ ?_); refine xFa rfl rfl rfl rfl rfl rfl ?_; refine xFa rfl rfl rfl rfl rfl rfl ?_; refine xLd rfl rfl rfl rfl rfl (.p (by (repeat first | exact q_h | apply q_t | assumption); done) rfl) ?_; refine xBi rfl rfl rfl rfl rfl rfl ?_; intro _ _; refine xMv rfl rfl rfl rfl ?_; refine zA rfl (fun h => ?_) (fun h => ?_) <;> ((first | (subst h; rename BV _ true => g; have h := g.eq; clear g) | (subst h; rename BV _ false => g; have h := g.eq; clear g) | skip); (have hp := h; try simp only [q_n] at hp); (try (exfalso; first | omega | (cases hp; done))));
                refine zW rfl rfl rfl rfl ?_; refine zW rfl rfl rfl rfl ?_; refine zW rfl rfl rfl rfl ?_; refine xPf rfl rfl rfl rfl rfl rfl ?_; refine xAs rfl rfl rfl rfl ?_; refine zY ?_; refine ex_cond_f rfl (by rfl) ?_; refine zX (zZ ?_); refine xFa rfl rfl rfl rfl rfl rfl ?_; refine xFa rfl rfl rfl rfl rfl rfl ?_; refine xLd rfl rfl rfl rfl rfl (.p (by (repeat first | exact q_h | apply q_t | assumption); done) rfl) ?_; refine xBi rfl rfl rfl rfl rfl rfl ?_; intro _ _; refine xAs rfl rfl rfl rfl ?_; refine zY ?_; refine zU rfl (fun h => ?_) (fun h => ?_) <;> ((first | (subst h; rename BV _ true => g; have h := g.eq; clear g) | (subst h; rename BV _ false => g; have h := g.eq; clear g) | skip); (have hp := h; try simp only [q_n] at hp); (try (exfalso; first | omega | (cases hp; done))));
                refine zG ?_; refine zZ ?_; apply zV; rfl; rfl; rfl; (apply g_add; rfl; rfl; rfl; exact ⟨by omega, by omega⟩); refine xMv rfl rfl rfl rfl ?_; refine zC ?_; simp only [zD, zK, zJ, zT, retA, ↓reduceIte, Nat.reduceEqDiff]; rotate_left
                (all_goals (repeat (rename BV _ _ => hbv; cases hbv)))
                all_goals (try (first | cases ‹true = false› | cases ‹false = true›))
                refine ⟨(j + 1, t, w), ⟨hj, hst.symm⟩, by dsimp only; omega, ?_⟩
                dsimp only
                exact (St.le_of (by repeat (first | exact trivial | refine ⟨rfl, ?_⟩)) (by repeat (first | exact q_r | apply q_q | apply q_k | exact q_a)))
            · rw [if_neg hk2] at hst
              by_cases hk1 : x.2.kind = 1
              · rw [if_pos hk1] at hst
                by_cases hg : t.given = 0
                · rw [if_pos hg] at hst
                  refine zX (zZ ?_); refine xBi rfl rfl rfl rfl rfl rfl ?_; intro _ _; refine zY ?_; refine zX ?_; refine zU rfl (fun h => ?_) (fun h => ?_) <;> ((first | (subst h; rename BV _ true => g; have h := g.eq; clear g) | (subst h; rename BV _ false => g; have h := g.eq; clear g) | skip); (have hp := h; try simp only [q_n] at hp); (try (exfalso; first | omega | (cases hp; done))));
                  refine zG ?_; refine zX ?_; refine yZ ?_; refine zX (zZ ?_); apply zV; rfl; rfl; rfl; (apply g_indexRow; rfl; rfl; exact (by (repeat first | exact q_h | apply q_t | assumption); done); rfl; (rfl); (omega)); apply zV; rfl; rfl; rfl; (apply zB; rfl; decide; rfl; (exact .k0 (by (repeat first | exact q_h | apply q_t | assumption); done) (by assumption) rfl rfl)); refine zE rfl rfl rfl (g_alloc rfl) ?_; intro _; apply yY; rfl; rfl; (apply zL; rfl; rfl; rfl; (exact Upd.here); (simp only [setL, q_z, AV.cells]; rfl); rfl; rfl; rfl; exact q_b rfl); refine zY ?_; refine yZ ?_; refine zX (zZ ?_); refine xFa rfl rfl rfl rfl rfl rfl ?_; refine xFa rfl rfl rfl rfl rfl rfl ?_; refine xLd rfl rfl rfl rfl rfl (.p (by (repeat first | exact q_h | apply q_t | assumption); done) rfl) ?_; refine xBi rfl rfl rfl rfl rfl rfl ?_; intro _ _; refine xMv rfl rfl rfl rfl ?_; refine zA rfl (fun h => ?_) (fun h => ?_) <;> ((first | (subst h; rename BV _ true => g; have h := g.eq; clear g) | (subst h; rename BV _ false => g; have h := g.eq; clear g) | skip); (have hp := h; try simp only [q_n] at hp); (try (exfalso; first | omega | (cases hp; done))));
                  refine zW rfl rfl rfl rfl ?_; refine zW rfl rfl rfl rfl ?_; refine zW rfl rfl rfl rfl ?_; refine xPf rfl rfl rfl rfl rfl rfl ?_; refine xAs rfl rfl rfl rfl ?_; refine zY ?_; refine ex_cond_f rfl (by rfl) ?_; refine zX (zZ ?_); refine xFa rfl rfl rfl rfl rfl rfl ?_; refine xFa rfl rfl rfl rfl rfl rfl ?_; refine xLd rfl rfl rfl rfl rfl (.p (by (repeat first | exact q_h | apply q_t | assumption); done) rfl) ?_; refine xBi rfl rfl rfl rfl rfl rfl ?_; intro _ _; refine xMv rfl rfl rfl rfl ?_; refine zA rfl (fun h => ?_) (fun h => ?_) <;> ((first | (subst h; rename BV _ true => g; have h := g.eq; clear g) | (subst h; rename BV _ false => g; have h := g.eq; clear g) | skip); (have hp := h; try simp only [q_n] at hp); (try (exfalso; first | omega | (cases hp; done))));
                  refine yFa rfl rfl rfl rfl rfl rfl rfl ?_; refine yLd rfl rfl rfl rfl rfl rfl (.p (by (repeat first | exact q_h | apply q_t | assumption); done) rfl) ?_; refine yBi rfl rfl rfl rfl rfl rfl rfl ?_; intro _ _; refine xPt rfl rfl rfl rfl rfl rfl ?_; refine xAs rfl rfl rfl rfl ?_; refine zY ?_; refine zU rfl (fun h => ?_) (fun h => ?_) <;> ((first | (subst h; rename BV _ true => g; have h := g.eq; clear g) | (subst h; rename BV _ false => g; have h := g.eq; clear g) | skip); (have hp := h; try simp only [q_n] at hp); (try (exfalso; first | omega | (cases hp; done))));
                  rotate_left
                  (all_goals (repeat (rename BV _ _ => hbv; cases hbv)))
                  all_goals (try (first | cases ‹true = false› | cases ‹false = true›))
                  rename Nat => b16
                  refine ex_drfT (fun y => y = .cells b16 (entC x) 80) [7] 8 rfl (by kernel_rfl) rfl ?_
                  simp only [List.take_succ_cons, List.take_zero, List.drop_succ_cons, List.drop_zero]
                  refine zN rfl rfl (by kernel_rfl) ?_; apply zF; rfl; rfl; (intro σ' hl; (apply zP; rfl; rfl; rfl)); refine zN rfl rfl (by kernel_rfl) ?_; apply zF; rfl; rfl; (intro σ' hl; (apply g_load1; rfl; rfl; (exact .p (hl _ (by (rfl)) (by (repeat first | exact q_h | apply q_t | assumption); done)) rfl))); refine zN rfl rfl (by kernel_rfl) ?_; apply zF; rfl; rfl; (intro σ' hl; (apply g_add; rfl; rfl; rfl; exact ⟨by omega, by omega⟩)); refine zN rfl rfl (by kernel_rfl) ?_; apply zF; rfl; rfl; (intro σ' hl; (apply zP; rfl; rfl; rfl)); refine zN rfl rfl (by kernel_rfl) ?_; apply zF; rfl; rfl; (intro σ' hl; (apply zP; rfl; rfl; rfl)); refine zN rfl rfl (by kernel_rfl) ?_; apply zF; rfl; rfl; (intro σ' hl; (apply g_load1; rfl; rfl; (exact .p (hl _ (by (rfl)) (by (repeat first | exact q_h | apply q_t | assumption); done)) rfl))); refine zN rfl rfl (by kernel_rfl) ?_; apply zF; rfl; rfl; (intro σ' hl; (apply zP; rfl; rfl; rfl)); refine drf_one rfl rfl ?_; apply drs_do; rfl; rfl; (apply zL; rfl; rfl; rfl; (exact Upd.there (Upd.there (Upd.here))); (simp only [setL, q_z, AV.cells]; rfl); rfl; rfl; rfl; exact q_b rfl); (rintro _ (rfl | rfl | rfl) _ <;> exact (by (repeat first | exact q_h | apply q_t | assumption); done)); refine drf_nil rfl ?_; refine xFa rfl rfl rfl rfl rfl rfl ?_; apply yY; rfl; rfl; (apply zL; rfl; rfl; rfl; (exact Upd.there (Upd.there (Upd.here))); (simp only [setL, q_z, AV.cells]; rfl); rfl; rfl; rfl; exact q_b rfl); refine zC ?_; refine zZ ?_; apply zV; rfl; rfl; rfl; (apply g_add; rfl; rfl; rfl; exact ⟨by omega, by omega⟩); refine xMv rfl rfl rfl rfl ?_; refine zC ?_; simp only [zD, zK, zJ, zT, retA, ↓reduceIte, Nat.reduceEqDiff]; rotate_left
                  (all_goals (repeat (rename BV _ _ => hbv; cases hbv)))
                  all_goals (try (first | cases ‹true = false› | cases ‹false = true›))
                  refine ⟨(j + 1, { t with given := (x.1 : Int) + 1, farm := x.2.farm }, w), ⟨hj, hst.symm⟩, by dsimp only; omega, ?_⟩
                  dsimp only
                  exact (St.le_of (by repeat (first | exact trivial | refine ⟨rfl, ?_⟩)) (by repeat (first | exact q_r | apply q_q | apply q_k | exact q_a)))
                · rw [if_neg hg] at hst
                  refine zX (zZ ?_); refine xBi rfl rfl rfl rfl rfl rfl ?_; intro _ _; refine zY ?_; refine zX ?_; refine zU rfl (fun h => ?_) (fun h => ?_) <;> ((first | (subst h; rename BV _ true => g; have h := g.eq; clear g) | (subst h; rename BV _ false => g; have h := g.eq; clear g) | skip); (have hp := h; try simp only [q_n] at hp); (try (exfalso; first | omega | (cases hp; done))));
                  refine zG ?_; refine zX ?_; refine yZ ?_; refine zX (zZ ?_); apply zV; rfl; rfl; rfl; (apply g_indexRow; rfl; rfl; exact (by (repeat first | exact q_h | apply q_t | assumption); done); rfl; (rfl); (omega)); apply zV; rfl; rfl; rfl; (apply zB; rfl; decide; rfl; (exact .k0 (by (repeat first | exact q_h | apply q_t | assumption); done) (by assumption) rfl rfl)); refine zE rfl rfl rfl (g_alloc rfl) ?_; intro _; apply yY; rfl; rfl; (apply zL; rfl; rfl; rfl; (exact Upd.here); (simp only [setL, q_z, AV.cells]; rfl); rfl; rfl; rfl; exact q_b rfl); refine zY ?_; refine yZ ?_; refine zX (zZ ?_); refine xFa rfl rfl rfl rfl rfl rfl ?_; refine xFa rfl rfl rfl rfl rfl rfl ?_; refine xLd rfl rfl rfl rfl rfl (.p (by (repeat first | exact q_h | apply q_t | assumption); done) rfl) ?_; refine xBi rfl rfl rfl rfl rfl rfl ?_; intro _ _; refine xMv rfl rfl rfl rfl ?_; refine zA rfl (fun h => ?_) (fun h => ?_) <;> ((first | (subst h; rename BV _ true => g; have h := g.eq; clear g) | (subst h; rename BV _ false => g; have h := g.eq; clear g) | skip); (have hp := h; try simp only [q_n] at hp); (try (exfalso; first | omega | (cases hp; done))));
                  refine zW rfl rfl rfl rfl ?_; refine zW rfl rfl rfl rfl ?_; refine zW rfl rfl rfl rfl ?_; refine xPf rfl rfl rfl rfl rfl rfl ?_; refine xAs rfl rfl rfl rfl ?_; refine zY ?_; refine ex_cond_f rfl (by rfl) ?_; refine zX (zZ ?_); refine xFa rfl rfl rfl rfl rfl rfl ?_; refine xFa rfl rfl rfl rfl rfl rfl ?_; refine xLd rfl rfl rfl rfl rfl (.p (by (repeat first | exact q_h | apply q_t | assumption); done) rfl) ?_; refine xBi rfl rfl rfl rfl rfl rfl ?_; intro _ _; refine xMv rfl rfl rfl rfl ?_; refine zA rfl (fun h => ?_) (fun h => ?_) <;> ((first | (subst h; rename BV _ true => g; have h := g.eq; clear g) | (subst h; rename BV _ false => g; have h := g.eq; clear g) | skip); (have hp := h; try simp only [q_n] at hp); (try (exfalso; first | omega | (cases hp; done))));
                  refine yFa rfl rfl rfl rfl rfl rfl rfl ?_; refine yLd rfl rfl rfl rfl rfl rfl (.p (by (repeat first | exact q_h | apply q_t | assumption); done) rfl) ?_; refine yBi rfl rfl rfl rfl rfl rfl rfl ?_; intro _ _; refine xPt rfl rfl rfl rfl rfl rfl ?_; refine xAs rfl rfl rfl rfl ?_; refine zY ?_; refine zU rfl (fun h => ?_) (fun h => ?_) <;> ((first | (subst h; rename BV _ true => g; have h := g.eq; clear g) | (subst h; rename BV _ false => g; have h := g.eq; clear g) | skip); (have hp := h; try simp only [q_n] at hp); (try (exfalso; first | omega | (cases hp; done))));
                  refine zX (zZ ?_); refine xFa rfl rfl rfl rfl rfl rfl ?_; refine xFa rfl rfl rfl rfl rfl rfl ?_; refine xLd rfl rfl rfl rfl rfl (.p (by (repeat first | exact q_h | apply q_t | assumption); done) rfl) ?_; refine xBi rfl rfl rfl rfl rfl rfl ?_; intro _ _; refine xAs rfl rfl rfl rfl ?_; refine zY ?_; refine zU rfl (fun h => ?_) (fun h => ?_) <;> ((first | (subst h; rename BV _ true => g; have h := g.eq; clear g) | (subst h; rename BV _ false => g; have h := g.eq; clear g) | skip); (have hp := h; try simp only [q_n] at hp); (try (exfalso; first | omega | (cases hp; done))));
                  refine zZ ?_; refine xFa rfl rfl rfl rfl rfl rfl ?_; refine xLd rfl rfl rfl rfl rfl (.p (by (repeat first | exact q_h | apply q_t | assumption); done) rfl) ?_; refine xFa rfl rfl rfl rfl rfl rfl ?_; refine xLd rfl rfl rfl rfl rfl (.p (by (repeat first | exact q_h | apply q_t | assumption); done) rfl) ?_; refine exl_row rfl rfl rfl (by exact g_buildSlice rfl rfl (by decide) rfl rfl (by (simp only [chunkN, List.take_succ_cons, List.take_zero, List.drop_succ_cons, List.drop_zero]; rfl))) ?_; intro _; apply exl_grew; rfl; rfl; rfl; (apply g_append; rfl; rfl; rfl; (intro v'; (exact Upd.there (Upd.there (Upd.here)))); (exact .r (by (repeat first | exact q_h | apply q_t | assumption); done)); (intro y hy; simp only [List.mem_map, List.mem_cons, List.not_mem_nil, or_false, List.mem_append] at hy; (focus (obtain ⟨_, _, rfl⟩ := hy; rfl; done))); (refine app_ok ?_ (by kernel_rfl); (try simp only [List.length_append, List.length_map, List.length_cons, List.length_nil, List.length_take, List.length_drop]); omega)); intro _; refine xFa rfl rfl rfl rfl rfl rfl ?_; apply yY; rfl; rfl; (apply zL; rfl; rfl; rfl; (exact Upd.there (Upd.there (Upd.there (Upd.here)))); (simp only [setL, q_z, AV.cells]; rfl); rfl; rfl; rfl; exact q_b rfl); refine zC ?_; refine zZ ?_; apply zV; rfl; rfl; rfl; (apply g_add; rfl; rfl; rfl; exact ⟨by omega, by omega⟩); refine xMv rfl rfl rfl rfl ?_; refine zC ?_; simp only [zD, zK, zJ, zT, retA, ↓reduceIte, Nat.reduceEqDiff]; rotate_left
                  (all_goals (repeat (rename BV _ _ => hbv; cases hbv)))
                  all_goals (try (first | cases ‹true = false› | cases ‹false = true›))
                  rename Value => w2
                  refine ⟨(j + 1, { t with twice := t.twice ++ [(x.1 : Int)] }, w2), ⟨hj, hst.symm⟩, by dsimp only; omega, ?_⟩
                  dsimp only
                  rw [List.map_append]
                  exact (St.le_of (by repeat (first | exact trivial | refine ⟨rfl, ?_⟩)) (by repeat (first | exact q_r | apply q_q | apply q_k | exact q_a)))
              · rw [if_neg hk1] at hst
                refine zX (zZ ?_); refine xBi rfl rfl rfl rfl rfl rfl ?_; intro _ _; refine zY ?_; refine zX ?_; refine zU rfl (fun h => ?_) (fun h => ?_) <;> ((first | (subst h; rename BV _ true => g; have h := g.eq; clear g) | (subst h; rename BV _ false => g; have h := g.eq; clear g) | skip); (have hp := h; try simp only [q_n] at hp); (try (exfalso; first | omega | (cases hp; done))));
                refine zG ?_; refine zX ?_; refine yZ ?_; refine zX (zZ ?_); apply zV; rfl; rfl; rfl; (apply g_indexRow; rfl; rfl; exact (by (repeat first | exact q_h | apply q_t | assumption); done); rfl; (rfl); (omega)); apply zV; rfl; rfl; rfl; (apply zB; rfl; decide; rfl; (exact .k0 (by (repeat first | exact q_h | apply q_t | assumption); done) (by assumption) rfl rfl)); refine zE rfl rfl rfl (g_alloc rfl) ?_; intro _; apply yY; rfl; rfl; (apply zL; rfl; rfl; rfl; (exact Upd.here); (simp only [setL, q_z, AV.cells]; rfl); rfl; rfl; rfl; exact q_b rfl); refine zY ?_; refine yZ ?_; refine zX (zZ ?_); refine xFa rfl rfl rfl rfl rfl rfl ?_; refine xFa rfl rfl rfl rfl rfl rfl ?_; refine xLd rfl rfl rfl rfl rfl (.p (by (repeat first | exact q_h | apply q_t | assumption); done) rfl) ?_; refine xBi rfl rfl rfl rfl rfl rfl ?_; intro _ _; refine xMv rfl rfl rfl rfl ?_; refine zA rfl (fun h => ?_) (fun h => ?_) <;> ((first | (subst h; rename BV _ true => g; have h := g.eq; clear g) | (subst h; rename BV _ false => g; have h := g.eq; clear g) | skip); (have hp := h; try simp only [q_n] at hp); (try (exfalso; first | omega | (cases hp; done))));
                refine zW rfl rfl rfl rfl ?_; refine zW rfl rfl rfl rfl ?_; refine zW rfl rfl rfl rfl ?_; refine xPf rfl rfl rfl rfl rfl rfl ?_; refine xAs rfl rfl rfl rfl ?_; refine zY ?_; refine ex_cond_f rfl (by rfl) ?_; refine zX (zZ ?_); refine xFa rfl rfl rfl rfl rfl rfl ?_; refine xFa rfl rfl rfl rfl rfl rfl ?_; refine xLd rfl rfl rfl rfl rfl (.p (by (repeat first | exact q_h | apply q_t | assumption); done) rfl) ?_; refine xBi rfl rfl rfl rfl rfl rfl ?_; intro _ _; refine xMv rfl rfl rfl rfl ?_; refine zA rfl (fun h => ?_) (fun h => ?_) <;> ((first | (subst h; rename BV _ true => g; have h := g.eq; clear g) | (subst h; rename BV _ false => g; have h := g.eq; clear g) | skip); (have hp := h; try simp only [q_n] at hp); (try (exfalso; first | omega | (cases hp; done))));
                refine zW rfl rfl rfl rfl ?_; refine zW rfl rfl rfl rfl ?_; refine zW rfl rfl rfl rfl ?_; refine xPf rfl rfl rfl rfl rfl rfl ?_; refine xAs rfl rfl rfl rfl ?_; refine zY ?_; refine ex_cond_f rfl (by rfl) ?_; refine zX (zZ ?_); refine xFa rfl rfl rfl rfl rfl rfl ?_; refine xFa rfl rfl rfl rfl rfl rfl ?_; refine xLd rfl rfl rfl rfl rfl (.p (by (repeat first | exact q_h | apply q_t | assumption); done) rfl) ?_; refine xBi rfl rfl rfl rfl rfl rfl ?_; intro _ _; refine xAs rfl rfl rfl rfl ?_; refine zY ?_; refine zU rfl (fun h => ?_) (fun h => ?_) <;> ((first | (subst h; rename BV _ true => g; have h := g.eq; clear g) | (subst h; rename BV _ false => g; have h := g.eq; clear g) | skip); (have hp := h; try simp only [q_n] at hp); (try (exfalso; first | omega | (cases hp; done))));
                refine zG ?_; refine zZ ?_; apply zV; rfl; rfl; rfl; (apply g_add; rfl; rfl; rfl; exact ⟨by omega, by omega⟩); refine xMv rfl rfl rfl rfl ?_; refine zC ?_; simp only [zD, zK, zJ, zT, retA, ↓reduceIte, Nat.reduceEqDiff]; rotate_left
                (all_goals (repeat (rename BV _ _ => hbv; cases hbv)))
                all_goals (try (first | cases ‹true = false› | cases ‹false = true›))
                refine ⟨(j + 1, t, w), ⟨hj, hst.symm⟩, by dsimp only; omega, ?_⟩
                dsimp only
                exact (St.le_of (by repeat (first | exact trivial | refine ⟨rfl, ?_⟩)) (by repeat (first | exact q_r | apply q_q | apply q_k | exact q_a)))
          · have e : j = S.length := by omega
            subst e
            rw [List.take_length] at hJ2
            rw [← hJ2] at hturn
            have hsj := sortIJ t.twice
            have hcells : [AV.int .i64 t.turn, .int .i64 t.farm, .int .i64 t.given, .dl 1 ((sortI t.twice).map intC)] = tnC (turnS l k) := by rw [hturn, hsj]
            have hKm : ((K ++ [k]).map (turnS l)).map tnC = (K.map (turnS l)).map tnC ++ [tnC (turnS l k)] := by simp
            have htl : t.twice.length < 4611686018427387904 := by omega
            clear hJ2 hsj hturn hidx
            rw [hτ]
            refine zX (zZ ?_); refine xBi rfl rfl rfl rfl rfl rfl ?_; intro _ _; refine zY ?_; refine zX ?_; refine zU rfl (fun h => ?_) (fun h => ?_) <;> ((first | (subst h; rename BV _ true => g; have h := g.eq; clear g) | (subst h; rename BV _ false => g; have h := g.eq; clear g) | skip); (have hp := h; try simp only [q_n] at hp); (try (exfalso; first | omega | (cases hp; done))));
            refine ex_exit ?_; refine zX (zZ ?_); refine xFa rfl rfl rfl rfl rfl rfl ?_; refine xLd rfl rfl rfl rfl rfl (.p (by (repeat first | exact q_h | apply q_t | assumption); done) rfl) ?_; refine exl_call rfl rfl rfl (yX rfl rfl (zQ (by kernel_rfl)) (sort_c Upd.here htl)) ?_; rintro _ _ ⟨rfl, rfl⟩; refine exl_shut (v := w) (env' := [(2, .slv vo), (74, .ptr rb 0), (14, .ptr b14 0)]) .here (.cells (.same (.same (.same (.here .nil)))) (ShutEnts.refl _)) (by repeat (first | exact .nil | refine .same rfl ?_)) ?_; refine zY ?_; refine zZ ?_; refine xMv rfl rfl rfl rfl ?_; refine xLa rfl rfl rfl rfl (by decide) rfl (.p (by (repeat first | exact q_h | apply q_t | assumption); done) rfl rfl) ?_; apply zV; rfl; rfl; rfl; (exact gop_sealed (g_buildSlice rfl rfl (by decide) rfl rfl (by (simp only [chunkN, List.take_succ_cons, List.take_zero, List.drop_succ_cons, List.drop_zero]; rfl)))); apply exl_grew; rfl; rfl; rfl; (apply g_append; rfl; rfl; rfl; (intro v'; (exact Upd.there (Upd.there (Upd.there (Upd.there (Upd.here)))))); (exact .d); (intro y hy; simp only [List.mem_map, List.mem_cons, List.not_mem_nil, or_false, List.mem_append] at hy; (focus (obtain ⟨_, _, rfl⟩ := hy; rfl; done))); (refine app_ok ?_ (by kernel_rfl); (try simp only [List.length_append, List.length_map, List.length_cons, List.length_nil, List.length_take, List.length_drop]); omega)); intro _; refine xAs rfl rfl rfl rfl ?_; refine zC ?_; simp only [zD, zK, zJ, zT, retA, ↓reduceIte, Nat.reduceEqDiff]; rotate_left
            (all_goals (repeat (rename BV _ _ => hbv; cases hbv)))
            all_goals (try (first | cases ‹true = false› | cases ‹false = true›))
            rename Value => vo2
            refine ⟨(seen.push e.born, K ++ [k], vo2), ⟨hK2, hI2', hI3'⟩, hm, ?_⟩
            dsimp only
            rw [hKm, ← hcells]
            exact (St.le_of (by repeat (first | exact trivial | refine ⟨rfl, ?_⟩)) (by repeat (first | exact q_r | apply q_q | apply q_k | exact q_a)))
      · exact h.elim
  · rw [show turnsS l = ([], checkS l) by unfold turnsS; rw [if_pos h0]]
    refine zX (zZ ?_); refine zE rfl rfl rfl (g_box rfl rfl) ?_; intro _; refine xAs rfl rfl rfl rfl ?_; refine xAs rfl rfl rfl rfl ?_; refine zY ?_; refine zX ?_; refine zX (zZ ?_); refine xLa rfl rfl rfl rfl (by decide) rfl (.p (by (repeat first | exact q_h | apply q_t | assumption); done) rfl rfl) ?_; apply zV; rfl; rfl; rfl; (refine yX rfl rfl (zQ (by kernel_rfl)) ?_; exact c1 _); refine xAs rfl rfl rfl rfl ?_; refine zY ?_; refine zX (zZ ?_); refine xMv rfl rfl rfl rfl ?_; refine xBi rfl rfl rfl rfl rfl rfl ?_; intro _ _; refine zY ?_; refine zU rfl (fun h => ?_) (fun h => ?_) <;> ((first | (subst h; rename BV _ true => g; have h := g.eq; clear g) | (subst h; rename BV _ false => g; have h := g.eq; clear g) | skip); (have hp := h; try simp only [q_n] at hp); (try (exfalso; first | omega | (cases hp; done))));
    refine zX (zZ ?_); refine xMv rfl rfl rfl rfl ?_; refine xAs rfl rfl rfl rfl ?_; refine xAs rfl rfl rfl rfl ?_; refine zY ?_; refine yV ?_; simp only [zD, zK, zJ, zT, retA, ↓reduceIte, Nat.reduceEqDiff]; rotate_left
    (all_goals (repeat (rename BV _ _ => hbv; cases hbv)))
    all_goals (try (first | cases ‹true = false› | cases ‹false = true›))
    refine ret_q (σ3 := σ) .nil (.cons (.ofTmp rfl) (.cons (.ofTmp rfl) .nil)) (by repeat (first | exact q_r | apply q_q | apply q_k | exact q_a)) ?_
    exact fin_nil (sz := 4) (.tup (.here (.same .nil)) .nil) (fin_done ⟨rfl, rfl⟩)
end Go.Proofs.YtkhoengjdfmfaaaGreat
