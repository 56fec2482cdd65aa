/- Parts of the proof that belong together: Um Wl Wm To Sne Wn. -/
import Derived.Test.YtkhoengjdfmfaaaGreatGF03
import Derived.Test.YtkhoengjdfmfaaaGreatGF07
import Derived.Test.YtkhoengjdfmfaaaGreatGF13
import Derived.Test.YtkhoengjdfmfaaaGreatGF15
set_option maxRecDepth 10000
set_option maxHeartbeats 16000000
set_option linter.unusedSimpArgs false
set_option linter.unusedVariables false
namespace Go.Proofs.YtkhoengjdfmfaaaGreat
open Go.MapKept
theorem insJ_le {n : Int} : ∀ {l : List Int}, l.Pairwise (· ≤ ·) → (insJ n l).Pairwise (· ≤ ·)
 | [], _ => by simp [insJ]
 | x :: l, h => by
  have h' := List.pairwise_cons.1 h
  rw [insJ]
  split
  ·rename_i hle
   refine List.pairwise_cons.2 ⟨fun y hy => ?_, h⟩
   rcases List.mem_cons.1 hy with rfl | hy
   ·exact hle
   ·have := h'.1 y hy; omega
  ·refine List.pairwise_cons.2 ⟨fun y hy => ?_, insJ_le h'.2⟩
   rcases insJ_mem.1 hy with rfl | hy
   ·omega
   ·exact h'.1 y hy
theorem insJ_perm (n : Int) : ∀ l : List Int, (insJ n l).Perm (n :: l)
 | [] => List.Perm.refl _
 | x :: l => by
  rw [insJ]
  split
  ·exact List.Perm.refl _
  ·exact ((insJ_perm n l).cons x).trans (List.Perm.swap ..)
theorem sortJ_le : ∀ l : List Int, (sortJ l).Pairwise (· ≤ ·)
 | [] => .nil
 | x :: l => insJ_le (sortJ_le l)
theorem sortJ_perm : ∀ l : List Int, (sortJ l).Perm l
 | [] => List.Perm.refl _
 | x :: l => (insJ_perm x (sortJ l)).trans ((sortJ_perm l).cons x)
theorem sortIJ (l : List Int) : sortI l = sortJ l := by
 have h1 : (sortI l).Pairwise (· ≤ ·) := by
  have := List.pairwise_mergeSort (le := fun x y : Int => decide (x ≤ y)) (by simp; omega) (by simp; omega) l
  exact this.imp fun h => by simpa using h
 exact List.Perm.eq_of_pairwise (le := (· ≤ ·)) (fun a b _ _ h k => by omega) h1 (sortJ_le l) ((List.mergeSort_perm _ _).trans (sortJ_perm l).symm)
abbrev mapT : TypeId := 74
theorem turns_c (l : List Sl) (σ : List Ent) : SCall Tryz.prog 13 [.agg [sls l]] σ (fun r τ => r = .tup [.dl 4 ((turnsS l).1.map tnC), .int .i64 (turnsS l).2] ∧ τ = σ) := by
 refine zL Tryz.func13 rfl (by simp) ?_
 have c1 := check_c l
 by_cases h0 : xQ l = 0
 ·rw [h0] at c1
  have hbk := uC h0
  have hl : l.length ≤ 600 := by have := (check_zero.1 h0).1; omega
  rw [show turnsS l = ((numsE (entL l)).map (turnS l), 0) by unfold turnsS; rw [if_neg (by rw [h0]; simp)]]
  refine zY (zZ ?_); refine xB ?_; intro _; (iterate 2 refine zP ?_); refine zX (zY (zY (zZ ?_))); refine yA ?_; apply zU; rfl; rfl; rfl; (refine yJ ?_; exact c1 _); refine zP ?_; refine zX (zY (zZ ?_)); refine zR ?_; refine zD ?_ ?_ <;> (intro h hp; (try simp only [q_n] at hp); try first | omega | (cases hp; done));
  refine zW (zY (zZ ?_)); refine exl_map rfl rfl rfl (by exact g_makeMap) ?_; intro _; refine xK ?_; intro _; refine yR ?_; refine zX (zY (zZ ?_)); refine xK ?_; intro _; refine yR ?_; refine zX (zY (zY (zZ ?_))); refine yG ?_; refine xL rfl rfl rfl (xJ rfl rfl (zB (by kernel_rfl)) (runs_c _ _)) ?_; rintro _ _ ⟨bs, rfl, rfl⟩; refine zX (zT ?_); simp only [zA, zF, zE, zH, yK, ↓reduceIte, Nat.reduceEqDiff]; rotate_left
  all_goals ((repeat (rename BV _ _ => k; first | cases k | clear k)); try exact zN)
  rename Nat => bs; revert bs; rename Nat => b5; revert b5; rename Nat => b4; revert b4; rename Nat => bm; revert bm; rename Nat => b1; revert b1
  intro b1 bm b4 b5 bs
  clear c1
  refine qR 64 4 ?_
  refine qD (s' := ⟨[(2, .slv nilS), (4, .ptr b4 0), (5, .ptr b5 0), (25, .fn (.func 69) [] [.ptr bs 0])], .row nilS 64 4 [] :: .cells bs [sls l] 22 :: .cells b5 [.int .i64 0] 3 :: .cells b4 [.mp bm] mapT :: .imap bm (fun _ => none) 0 :: σ, [], Tryz.f13.ntmps⟩) (St.le_of (by repeat (first | exact trivial | refine ⟨rfl, ?_⟩)) (by repeat (first | exact q_r | apply q_q | apply q_k))) ?_
  refine ex_range rfl (zB (by kernel_rfl)) ?_
  intro D l0 fn
  show SCall _ _ _ (Ent.loop _ _ _ _ ?ee ?nn ?ps ?asg ?body _ :: _) _
  obtain ⟨L, hL⟩ : ∃ L, L = Ent.loop l0 .ready none fn ?ee ?nn ?ps ?asg ?body D := ⟨_, rfl⟩
  obtain ⟨L3, hL3⟩ : ∃ L3, L3 = Ent.loop l0 .busy none fn ?ee ?nn ?ps ?asg ?body D := ⟨_, rfl⟩
  rw [← hL]
  refine scall_permu (List.perm_append_comm_assoc [L, .obj D (.deferred (some [])), .row nilS 64 4 []] [.cells bs [sls l] 22] _) ?_
  refine SCall.mono (runs1_c l bs l0 _
   (fun k τ => ∃ (A : Asc) (n : Nat), τ = L :: .obj D (.deferred (some [])) :: .row nilS 64 4 [] :: .cells b5 [.int .i64 ((((vL l).take k).flatten.length : Nat) : Int)] 3 :: .cells b4 [.mp bm] mapT :: .imap bm (slM (kA A)) n :: (vE A ++ σ) ∧ AscOf (qQ l 0 ((vL l).take k).flatten) A)
   (fun _ => False) ?_ ⟨[], 0, rfl, ascOf_nil⟩) ?_
  ·rintro k r τ hkr ⟨A, n, rfl, hA⟩
   obtain ⟨t, hrt, hr0⟩ := runs_ofT (Nat.le_refl _) hbk.up r (List.mem_of_getElem? hkr)
   have hright := hbk.each t
   rw [← hrt] at hright
   have hft := flat_take hkr
   have hpl : ((vL l).take (k + 1)).flatten.length ≤ l.length := by
    have h1 := runs_flat (Nat.le_refl l.length)
    have h2 : (vL l).flatten = ((vL l).take (k + 1)).flatten ++ ((vL l).drop (k + 1)).flatten := by rw [← List.flatten_append, List.take_append_drop]
    have h3 := congrArg List.length (h1.symm.trans h2)
    rw [List.length_append] at h3; omega
   rw [hft] at hpl ⊢
   generalize ((vL l).take k).flatten = pre at hpl hA ⊢
   rw [List.length_append] at hpl
   have hcnt : ∀ x ∈ r, cntB l x = (!decide (x.kind = 3) && !(voidL r).contains x.seq) := fun x hx => by rw [cnt_run hrt hx, voidL_any]
   clear hft hkr hrt
   rw [hL]
   refine SRound.sub ?_
   refine sround (by repeat first | exact q_h | apply q_t | assumption) rfl (by decide) ?_
   refine zZ (zP ?_); refine zQ ?_; simp only [zA]; refine ⟨_, (by (exact Upd.here)), ?_⟩; show EX _ _ _ _ _; refine zT (zY (zZ ?_)); refine exl_map rfl rfl rfl (by exact g_makeMap) ?_; intro _; refine zP ?_; refine zX (zY (zY (zZ ?_))); refine zR ?_; refine wH ?_; refine zR ?_; refine zX (zT ?_); rotate_left
   all_goals ((repeat (rename BV _ _ => k; first | cases k | clear k)); try exact zN)
   rename Nat => bv
   rw [← hL3]
   rw [show (fun _ => none : Int → Option AV) = boolM (voidL (r.take 0)).contains from boolM_none]
   refine yD (fun (z : Nat × Nat) => (⟨[(4, .ptr b4 0), (5, .ptr b5 0), (6, sls r), (7, .mp bv), (28, sls r), (29, .int .i64 r.length), (30, .int .i64 z.1)], .imap bv (boolM (voidL (r.take z.1)).contains) z.2 :: L3 :: .obj D (.deferred (some [])) :: .row nilS 64 4 [] :: .cells b5 [.int .i64 (pre.length : Nat)] 3 :: .cells b4 [.mp bm] mapT :: .imap bm (slM (kA A)) n :: (vE A ++ σ), [], Tryz.f13.ntmps⟩ : St)) (fun z => z.1 ≤ r.length) (fun z => r.length - z.1) (0, 0) (Nat.zero_le _) (St.le_of (by repeat (first | exact trivial | refine ⟨rfl, ?_⟩)) (by repeat (first | exact q_r | apply q_q | apply q_k))) ?_
   intro z hI
   obtain ⟨i, n2⟩ := z
   dsimp only at hI ⊢
   by_cases hi : i < r.length
   ·obtain ⟨c, hc⟩ : ∃ c, r[i]? = some c := yW hi
    have hgc := uH hc
    have hv := voidL_take hc
    have hcm := List.mem_of_getElem? hc
    have hsl := hright.slip c hcm
    have hsq := hright.seq i c hc
    clear hcnt hA hright hbk
    rw [hL3]
    by_cases hk : c.kind = 3
    ·have ho := tT hsl hk
     rw [if_pos hk] at hv
     refine zY (zZ ?_); refine xY ?_; intro _ _; refine zX (zY (yN ?_ ?_)) <;> (intro h hp k; (try subst k); (try simp only [q_n] at hp); try first | omega | (cases hp; done));
     refine zW (zY (zT ?_)); refine zY (zZ ?_); refine vG ?_; refine yA ?_; refine xK ?_; intro _; refine yR ?_; refine zX (zY (zZ ?_)); refine yG ?_; refine zD ?_ ?_ <;> (intro h hp; (try simp only [q_n] at hp); try first | omega | (cases hp; done));
     refine zZ (zR ?_); refine yG ?_; refine xSu ?_; apply vT; rfl; rfl; (apply g_mapUpdate; rfl; rfl; rfl; rfl; (exact Upd.there (Upd.here)); (exact boolM_list _ _)); refine zQ (zZ (vX ?_)); refine zR ?_; refine zQ ?_; simp only [zA, zF, zE, zH, yK, ↓reduceIte, Nat.reduceEqDiff]; rotate_left
     all_goals ((repeat (rename BV _ _ => k; first | cases k | clear k)); try exact zN)
     refine ⟨(i + 1, if ((boolM (voidL (r.take i)).contains) (c.off - 1)).isSome then n2 else n2 + 1), hi, by dsimp only; omega, ?_⟩
     dsimp only
     rw [hv]
     exact wW
    ·rw [if_neg hk] at hv
     refine zY (zZ ?_); refine xY ?_; intro _ _; refine zX (zY (yN ?_ ?_)) <;> (intro h hp k; (try subst k); (try simp only [q_n] at hp); try first | omega | (cases hp; done));
     refine zW (zY (zT ?_)); refine zY (zZ ?_); refine vG ?_; refine yA ?_; refine xK ?_; intro _; refine yR ?_; refine zX (zY (zZ ?_)); refine yG ?_; refine zD ?_ ?_ <;> (intro h hp; (try simp only [q_n] at hp); try first | omega | (cases hp; done));
     refine zW (zZ (vX ?_)); refine zR ?_; refine zQ ?_; simp only [zA, zF, zE, zH, yK, ↓reduceIte, Nat.reduceEqDiff]; rotate_left
     all_goals ((repeat (rename BV _ _ => k; first | cases k | clear k)); try exact zN)
     refine ⟨(i + 1, n2), hi, by dsimp only; omega, ?_⟩
     dsimp only
     rw [hv]
     exact wW
   ·have e : i = r.length := by omega
    subst e
    rw [List.take_length]
    rw [hL3]
    clear hI hi
    refine zY (zZ ?_); refine xY ?_; intro _ _; refine zX (zY (yN ?_ ?_)) <;> (intro h hp k; (try subst k); (try simp only [q_n] at hp); try first | omega | (cases hp; done));
    refine yQ ?_; refine zY (zZ ?_); refine zR ?_; refine wH ?_; refine zR ?_; refine zX (zT ?_); rotate_left
    all_goals ((repeat (rename BV _ _ => k; first | cases k | clear k)); try exact zN)
    rw [← hL3]
    refine yD (fun (z : Nat × Asc × Nat) => (⟨[(4, .ptr b4 0), (5, .ptr b5 0), (7, .mp bv), (42, sls r), (43, .int .i64 r.length), (44, .int .i64 z.1)], .imap bv (boolM (voidL r).contains) n2 :: L3 :: .obj D (.deferred (some [])) :: .row nilS 64 4 [] :: .cells b5 [.int .i64 ((pre.length + z.1 : Nat) : Int)] 3 :: .cells b4 [.mp bm] mapT :: .imap bm (slM (kA z.2.1)) z.2.2 :: (vE z.2.1 ++ σ), [], Tryz.f13.ntmps⟩ : St)) (fun z => z.1 ≤ r.length ∧ AscOf (qQ l 0 (pre ++ r.take z.1)) z.2.1) (fun z => r.length - z.1) (0, A, n) (⟨Nat.zero_le _, by simpa using hA⟩) (St.le_of (by repeat (first | exact trivial | refine ⟨rfl, ?_⟩)) (by repeat (first | exact q_r | apply q_q | apply q_k))) ?_
    intro z hI
    clear hA
    obtain ⟨j, A', n'⟩ := z
    obtain ⟨hJ1, hJ2⟩ := hI
    dsimp only at hJ1 hJ2 ⊢
    rw [hL3]
    by_cases hj : j < r.length
    ·obtain ⟨c, hc⟩ : ∃ c, r[j]? = some c := yW hj
     have hgc := uH hc
     have hcm := List.mem_of_getElem? hc
     have hcb := hcnt c hcm
     have hsn := entF_snoc l (pre ++ r.take j) c
     have hpj : (pre ++ r.take j).length = pre.length + j := by rw [List.length_append, List.length_take]; omega
     rw [List.append_assoc, ← take_get hc, hpj] at hsn
     have hz1 : ((pre.length + j : Nat) : Int) + 1 = ((pre.length + (j + 1) : Nat) : Int) := by omega
     clear hcnt hright hbk hc hcm
     by_cases hk : c.kind = 3
     ·have hno : cntB l c = false := by rw [hcb, decide_eq_true hk]; rfl
      rw [hno, if_neg (by simp)] at hsn
      rw [← hsn] at hJ2
      refine zY (zZ ?_); refine xY ?_; intro _ _; refine zX (zY (yN ?_ ?_)) <;> (intro h hp k; (try subst k); (try simp only [q_n] at hp); try first | omega | (cases hp; done));
      refine zW (zY (zT ?_)); refine zY (zZ ?_); refine vG ?_; refine yA ?_; refine xK ?_; intro _; refine yR ?_; refine zX (zY (zY (zZ ?_))); refine yG ?_; refine xY ?_; intro _ _; refine zR ?_; refine xT ?_ ?_ <;> (intro h hp k; (try subst k); (try simp only [q_n] at hp); try first | omega | (cases hp; done));
      (iterate 5 refine yC ?_); refine yB ?_; refine zX (yH rfl (by rfl) ?_); refine zW (zZ (xLd ?_)); refine vX ?_; refine yR ?_; refine zQ (zZ (vX ?_)); refine zR ?_; refine zQ ?_; simp only [zA, zF, zE, zH, yK, ↓reduceIte, Nat.reduceEqDiff]; rotate_left
      all_goals ((repeat (rename BV _ _ => k; first | cases k | clear k)); try exact zN)
      rw [hz1]
      refine ⟨(j + 1, A', n'), ⟨hj, hJ2⟩, by dsimp only; omega, ?_⟩
      dsimp only
      exact wW
     ·cases hvo : (voidL r).contains c.seq with
      | true =>
       have hgd : ((boolM (voidL r).contains) c.seq).getD (.bool false) = .bool true := by rw [boolM_getD, hvo]
       have hno : cntB l c = false := by rw [hcb, hvo]; simp
       rw [hno, if_neg (by simp)] at hsn
       rw [← hsn] at hJ2
       refine zY (zZ ?_); refine xY ?_; intro _ _; refine zX (zY (yN ?_ ?_)) <;> (intro h hp k; (try subst k); (try simp only [q_n] at hp); try first | omega | (cases hp; done));
       refine zW (zY (zT ?_)); refine zY (zZ ?_); refine vG ?_; refine yA ?_; refine xK ?_; intro _; refine yR ?_; refine zX (zY (zY (zZ ?_))); refine yG ?_; refine xY ?_; intro _ _; refine zR ?_; refine xT ?_ ?_ <;> (intro h hp k; (try subst k); (try simp only [q_n] at hp); try first | omega | (cases hp; done));
       refine vN ?_; refine wL ?_; show EXL _ _ _ ({ dst := _, op := .lookup _ _ _ _, type := _, pos := _, after := _, guard := _ } :: _) _ _; apply yZ; rfl; (rfl); rfl; rfl; exact g_lookup rfl rfl (by repeat first | exact q_h | apply q_t | assumption) rfl rfl hgd; refine yNo ?_; intro _ _; refine xF ?_; refine zX (yN ?_ ?_) <;> (intro h hp k; (try subst k); (try simp only [q_n] at hp); try first | omega | (cases hp; done));
       refine zW (zZ (xLd ?_)); refine vX ?_; refine yR ?_; refine zQ (zZ (vX ?_)); refine zR ?_; refine zQ ?_; simp only [zA, zF, zE, zH, yK, ↓reduceIte, Nat.reduceEqDiff]; rotate_left
       all_goals ((repeat (rename BV _ _ => k; first | cases k | clear k)); try exact zN)
       rw [hz1]
       refine ⟨(j + 1, A', n'), ⟨hj, hJ2⟩, by dsimp only; omega, ?_⟩
       dsimp only
       exact wW
      | false =>
       have hgd : ((boolM (voidL r).contains) c.seq).getD (.bool false) = .bool false := by rw [boolM_getD, hvo]
       have hye : cntB l c = true := by rw [hcb, hvo, decide_eq_false hk]; rfl
       rw [hye, if_pos rfl] at hsn
       cases hK : kA A' c.turn with
       | some v =>
        obtain ⟨A1, L', A2, rfl⟩ := kA_some hK
        have hGD : ((slM (kA (A1 ++ (c.turn, v, L') :: A2))) c.turn).getD (.slv nilS) = .slv v := by unfold slM; rw [hK]; rfl
        have hrows : vE (A1 ++ (c.turn, v, L') :: A2) ++ σ = vE A1 ++ rowE v L' :: (vE A2 ++ σ) := by rw [rowsA_app, rowsA_cons]; simp
        have hup : ∀ v' l', Upd (vE A1 ++ rowE v L' :: (vE A2 ++ σ)) (rowE v L') (.row v' 80 9 l') (vE A1 ++ .row v' 80 9 l' :: (vE A2 ++ σ)) := fun v' l' => upd_mid _ _
        have hLl : L'.length ≤ 600 := by
         have h1 := (hJ2.ent (c.turn, v, L') (by simp)).1
         have h2 : (qQ l 0 (pre ++ r.take j)).length ≤ (pre ++ r.take j).length := by
          have : ∀ (m : List Sl) i, (qQ l i m).length ≤ m.length := by
           intro m
           induction m with
           | nil => intro i; simp [qQ]
           | cons x m ih => intro i; rw [qQ]; have := ih (i + 1); split <;> simp <;> omega
          exact this _ 0
         have h3 := congrArg List.length h1
         have h4 := List.length_filter_le (fun e : Ey => decide (e.2.turn = c.turn)) (qQ l 0 (pre ++ r.take j))
         dsimp only at h3
         omega
        have hnew : ∀ v', AscOf (qQ l 0 (pre ++ r.take (j + 1))) (A1 ++ (c.turn, v', L' ++ [(pre.length + j, c)]) :: A2) := fun v' => by rw [hsn]; exact asc_more (e := (pre.length + j, c)) hJ2
        have hmap : ∀ v', updA (slM (kA (A1 ++ (c.turn, v, L') :: A2))) c.turn (.slv v') = slM (kA (A1 ++ (c.turn, v', L' ++ [(pre.length + j, c)]) :: A2)) := fun v' => by
         rw [upd_slM]
         congr 1
         funext q
         have hk : (A1 ++ (c.turn, v', L' ++ [(pre.length + j, c)]) :: A2).map (·.1) = (A1 ++ (c.turn, v, L') :: A2).map (·.1) := by simp
         rw [kA_mid hJ2.nd, kA_mid (by rw [hk]; exact hJ2.nd)]
         dsimp only
         by_cases hq : q = c.turn
         ·rw [if_pos hq, if_pos hq]
         ·rw [if_neg hq, if_neg hq, if_neg hq]
        have hrows2 : ∀ v', vE (A1 ++ (c.turn, v', L' ++ [(pre.length + j, c)]) :: A2) ++ σ = vE A1 ++ .row v' 80 9 (L'.map entC ++ [entC (pre.length + j, c)]) :: (vE A2 ++ σ) := fun v' => by rw [rowsA_app, rowsA_cons]; simp
        rw [hrows]
        clear hsn hcb hye hJ2 hK hrows
        refine zY (zZ ?_); refine xY ?_; intro _ _; refine zX (zY (yN ?_ ?_)) <;> (intro h hp k; (try subst k); (try simp only [q_n] at hp); try first | omega | (cases hp; done));
        refine zW (zY (zT ?_)); refine zY (zZ ?_); refine vG ?_; refine yA ?_; refine xK ?_; intro _; refine yR ?_; refine zX (zY (zY (zZ ?_))); refine yG ?_; refine xY ?_; intro _ _; refine zR ?_; refine xT ?_ ?_ <;> (intro h hp k; (try subst k); (try simp only [q_n] at hp); try first | omega | (cases hp; done));
        refine vN ?_; refine wL ?_; show EXL _ _ _ ({ dst := _, op := .lookup _ _ _ _, type := _, pos := _, after := _, guard := _ } :: _) _ _; apply yZ; rfl; (rfl); rfl; rfl; exact g_lookup rfl rfl (by repeat first | exact q_h | apply q_t | assumption) rfl rfl hgd; refine yNo ?_; intro _ _; refine xF ?_; refine zX (yN ?_ ?_) <;> (intro h hp k; (try subst k); (try simp only [q_n] at hp); try first | omega | (cases hp; done));
        rotate_left
        all_goals ((repeat (rename BV _ _ => k; first | cases k | clear k)); try exact zN)
        refine xN memK 12 [11] rfl (by kernel_rfl) rfl ?_
        simp only [wU]
        refine vW ?_; refine vR ?_; (iterate 2 refine vW ?_); refine vR ?_; refine vW ?_; apply yY; rfl; rfl; rfl; (intro σ' hl; exact g_lookup rfl rfl (hl _ True.intro (by repeat first | exact q_h | apply q_t | assumption)) rfl rfl hGD); refine vW ?_; refine qB ?_; apply yY; rfl; rfl; rfl; (intro σ' hl; (apply tK <;> rfl)); apply yY; rfl; rfl; rfl; (intro σ' hl; (exact xE (yV rfl rfl (by decide) rfl rfl (by (simp only [xC, wU]; rfl))))); refine wE rfl rfl rfl (by apply xG; rfl; rfl; rfl; (intro v'; (repeat (first | exact hup v' _ | apply Upd.there))); (exact .d); (intro y hy; simp only [tC] at hy; (focus (obtain ⟨_, _, rfl⟩ := hy; rfl; done))); (refine wP ?_ (by kernel_rfl); (try simp only [List.length_append, List.length_map, List.length_cons, List.length_nil, List.length_take, List.length_drop]); omega)) ?_; rintro _ _ ⟨v'⟩; refine ⟨upd_keeps (by (repeat (first | exact hup v' _ | apply Upd.there))), ?_⟩; refine zC ?_; apply vT; rfl; rfl; (apply g_mapUpdate; rfl; rfl; rfl; rfl; (exact Upd.there (Upd.there (Upd.there (Upd.there (Upd.there (Upd.there (Upd.there (Upd.here)))))))); (rfl)); refine zX (zZ (xLd ?_)); refine vX ?_; refine yR ?_; refine zQ (zZ (vX ?_)); refine zR ?_; refine zQ ?_; simp only [zA, zF, zE, zH, yK, ↓reduceIte, Nat.reduceEqDiff]; rotate_left
        all_goals ((repeat (rename BV _ _ => k; first | cases k | clear k)); try exact zN)
        rename Value => v'
        rw [hz1, hmap]
        refine ⟨(j + 1, A1 ++ (c.turn, v', L' ++ [(pre.length + j, c)]) :: A2, if ((slM (kA (A1 ++ (c.turn, v, L') :: A2))) c.turn).isSome then n' else n' + 1), ⟨hj, hnew v'⟩, by dsimp only; omega, ?_⟩
        dsimp only
        rw [hrows2]
        exact wW
       | none =>
        have hno : ∀ a ∈ A', a.1 ≠ c.turn := fun a ha hq => by
         unfold kA at hK
         rw [Option.map_eq_none_iff, List.find?_eq_none] at hK
         have := hK a ha
         simp at this; exact this hq
        have hGD : ((slM (kA A')) c.turn).getD (.slv nilS) = .slv nilS := by unfold slM; rw [hK]; rfl
        have hnew : ∀ v', AscOf (qQ l 0 (pre ++ r.take (j + 1))) ((c.turn, v', [(pre.length + j, c)]) :: A') := fun v' => by rw [hsn]; exact asc_new (e := (pre.length + j, c)) hJ2 hno
        have hmap : ∀ v', updA (slM (kA A')) c.turn (.slv v') = slM (kA ((c.turn, v', [(pre.length + j, c)]) :: A')) := fun v' => by
         rw [upd_slM]
         congr 1
         funext q
         unfold kA
         by_cases hq : q = c.turn
         ·rw [if_pos hq, List.find?_cons_of_pos (by simp [hq])]; rfl
         ·rw [if_neg hq, List.find?_cons_of_neg (by simp; omega)]
        clear hsn hcb hye hJ2 hK hno
        refine zY (zZ ?_); refine xY ?_; intro _ _; refine zX (zY (yN ?_ ?_)) <;> (intro h hp k; (try subst k); (try simp only [q_n] at hp); try first | omega | (cases hp; done));
        refine zW (zY (zT ?_)); refine zY (zZ ?_); refine vG ?_; refine yA ?_; refine xK ?_; intro _; refine yR ?_; refine zX (zY (zY (zZ ?_))); refine yG ?_; refine xY ?_; intro _ _; refine zR ?_; refine xT ?_ ?_ <;> (intro h hp k; (try subst k); (try simp only [q_n] at hp); try first | omega | (cases hp; done));
        refine vN ?_; refine wL ?_; show EXL _ _ _ ({ dst := _, op := .lookup _ _ _ _, type := _, pos := _, after := _, guard := _ } :: _) _ _; apply yZ; rfl; (rfl); rfl; rfl; exact g_lookup rfl rfl (by repeat first | exact q_h | apply q_t | assumption) rfl rfl hgd; refine yNo ?_; intro _ _; refine xF ?_; refine zX (yN ?_ ?_) <;> (intro h hp k; (try subst k); (try simp only [q_n] at hp); try first | omega | (cases hp; done));
        rotate_left
        all_goals ((repeat (rename BV _ _ => k; first | cases k | clear k)); try exact zN)
        refine xN memK 12 [11] rfl (by kernel_rfl) rfl ?_
        simp only [wU]
        refine vW ?_; refine vR ?_; (iterate 2 refine vW ?_); refine vR ?_; refine vW ?_; apply yY; rfl; rfl; rfl; (intro σ' hl; exact g_lookup rfl rfl (hl _ True.intro (by repeat first | exact q_h | apply q_t | assumption)) rfl rfl hGD); refine vW ?_; refine qB ?_; apply yY; rfl; rfl; rfl; (intro σ' hl; (apply tK <;> rfl)); apply yY; rfl; rfl; rfl; (intro σ' hl; (exact xE (yV rfl rfl (by decide) rfl rfl (by (simp only [xC, wU]; rfl))))); refine wl_row rfl rfl rfl (by apply g_appendNil; rfl; rfl; rfl; (exact .d); (intro y hy; simp only [tC] at hy; (focus (obtain ⟨_, _, rfl⟩ := hy; rfl; done))); (refine wP ?_ (by kernel_rfl); (try simp only [List.length_append, List.length_map, List.length_cons, List.length_nil, List.length_take, List.length_drop]); omega)) ?_; intro v'; refine zC ?_; show EXL _ _ _ ({ dst := _, op := .mapUpdate _ _ _ _, type := _, pos := _, after := _, guard := _ } :: _) _ _; refine exl_perm (List.perm_middle (l₁ := [_, _, _, _, _, _, _, _]) (l₂ := vE A' ++ σ)).symm ?_; simp only [List.cons_append, List.nil_append]; (apply vT; rfl; rfl; (apply g_mapUpdate; rfl; rfl; rfl; rfl; exact (by (exact Upd.there (Upd.there (Upd.there (Upd.there (Upd.there (Upd.there (Upd.there (Upd.here))))))))); rfl)); refine zX (zZ (xLd ?_)); refine vX ?_; refine yR ?_; refine zQ (zZ (vX ?_)); refine zR ?_; refine zQ ?_; simp only [zA, zF, zE, zH, yK, ↓reduceIte, Nat.reduceEqDiff]; rotate_left
        all_goals ((repeat (rename BV _ _ => k; first | cases k | clear k)); try exact zN)
        rename Value => v'
        rw [hz1, hmap]
        refine ⟨(j + 1, (c.turn, v', [(pre.length + j, c)]) :: A', if ((slM (kA A')) c.turn).isSome then n' else n' + 1), ⟨hj, hnew v'⟩, by dsimp only; omega, ?_⟩
        dsimp only
        exact wW
    ·have e : j = r.length := by omega
     subst e
     rw [List.take_length] at hJ2
     rw [← List.length_append]
     refine zY (zZ ?_); refine xY ?_; intro _ _; refine zX (zY (yN ?_ ?_)) <;> (intro h hp k; (try subst k); (try simp only [q_n] at hp); try first | omega | (cases hp; done));
     refine yQ ?_; simp only [yX, ↓reduceIte, Nat.reduceEqDiff]; show rndA _ _ _ _ _ _ _ _ _ _ _; refine ⟨_, _, rfl, (by (exact Upd.there (Upd.here))), ?_⟩; simp only [zA, zF, zE, zH, yK, ↓reduceIte, Nat.reduceEqDiff]; rotate_left
     all_goals ((repeat (rename BV _ _ => k; first | cases k | clear k)); try exact zN)
     subst hL hL3
     refine ⟨_, ?_, .inl ⟨rfl, A', n', rfl, hJ2⟩⟩
     exact (by repeat (first | exact q_r | apply q_q | apply q_k | exact q_a))
  ·rintro r τ (⟨A, n, rfl, hA⟩ | h)
   ·rw [List.take_length, runs_flat (Nat.le_refl _)] at hA ⊢
    rw [hL]
    refine RangeEnd.done .here ?_
    clear hL hL3 L L3
    show EX _ _ _ _ _
    refine zY (zY (zZ ?_)); refine xLd ?_; show EXL _ _ _ ({ dst := _, op := .range _ _, type := _, pos := _, after := _, guard := _ } :: _) _ _; refine xL rfl rfl rfl (g_rangeV rfl rfl (by intro e; exact (by (exact Upd.there (Upd.there (Upd.there (Upd.there (Upd.here)))))))) ?_; rintro _ _ ⟨rb, es, clock, hE⟩; refine zX (zT ?_); rotate_left
    all_goals ((repeat (rename BV _ _ => k; first | cases k | clear k)); try exact zN)
    have hkn := fun q => @kA_iff _ _ hA q
    have hS9 := fun K S => @turns_sorted l K S
    have hent : ∀ k v L, (k, v, L) ∈ A → L = entT l k := fun k v L h => (hA.ent _ h).1
    have hnd := hA.nd
    have hel := entL_len l
    have hnl := nums_len (entL l)
    rw [← show entL l = qQ l 0 l from rfl] at hkn
    have hstart : vE A ++ σ = vE (leftA A []) ++ σ := by rw [leftA_nil]
    rw [hstart]
    clear hstart hA hbk h0
    refine yD (fun (z : Array Nat × List Int × Value) => (⟨[(2, .slv z.2.2), (74, .ptr rb 0)], .obj rb (.mapIter (some bm) clock z.1 clock) :: .obj D (.deferred (some [])) :: .row z.2.2 64 4 ((z.2.1.map (turnS l)).map tnC) :: .obj bm (.map es clock) :: (vE (leftA A z.2.1) ++ σ), [D], Tryz.f13.ntmps⟩ : St)) (fun z => z.2.1.Nodup ∧ (∀ q, q ∈ z.2.1 ↔ Hit es z.1 q) ∧ ∀ q ∈ z.2.1, q ∈ numsE (entL l)) (fun z => (leftOf es z.1).size) (#[], [], nilS) (⟨.nil, fun q => ⟨fun h => by simp at h, fun h => absurd h (Hit.none es q)⟩, fun q h => by simp at h⟩) (St.le_of (by repeat (first | exact trivial | refine ⟨rfl, ?_⟩)) (by repeat (first | exact q_r | apply q_q | apply q_k))) ?_
    intro z hI
    obtain ⟨seen, K, vo⟩ := z
    obtain ⟨hI1, hI2, hI3⟩ := hI
    dsimp only at hI1 hI2 hI3 ⊢
    have hKl : K.length ≤ 600 := by
     have := nodup_len hI1 (fun q hq => hI3 q hq)
     omega
    refine zY (zZ ?_); show EXL _ _ _ ({ dst := _, op := .next _ _, type := _, pos := _, after := _, guard := _ } :: _) _ _; refine xL rfl rfl rfl (g_nextV hE rfl (by repeat first | exact q_h | apply q_t | assumption) (by intro s; exact Upd.here)) ?_; rintro _ _ (hd | ⟨e, k, v, he, hk, hv, hsl, h0, hn, hpp, hm⟩); refine tG ?_; refine zX (zY (yH rfl (by rfl) ?_)); refine yQ ?_; refine zY (zZ ?_); refine zR ?_; rotate_left; refine tG ?_; refine zX (zY (zG rfl (by rfl) ?_)); refine zW (zT ?_); refine zY (zZ ?_); show EXL _ _ _ ({ dst := _, op := .entry _, type := _, pos := _, after := _, guard := _ } :: _) _ _; apply zU; rfl; rfl; rfl; exact g_entryV hE he hk hv hsl rfl (by repeat first | exact q_h | apply q_t | assumption) (by repeat first | exact q_h | apply q_t | assumption); (iterate 2 refine tG ?_); (iterate 2 refine zP ?_); refine zX (zY (zZ ?_)); refine zR ?_; rotate_left
    all_goals ((repeat (rename BV _ _ => k; first | cases k | clear k)); try exact zN)
    ·have hall : ∀ q, q ∈ K ↔ q ∈ numsE (entL l) := fun q => ⟨hI3 q, fun h => by
      obtain ⟨v, hv⟩ := (hkn q).2 h
      exact (hI2 q).2 (hd q v hv)⟩
     have hfin := fun S => hS9 K S hI1 hall
     have hlen : (K.map (turnS l)).length ≤ 100000 := by rw [List.length_map]; omega
     clear hd hkn hent hS9 hnd hI2 hI3 hall
     refine xL rfl rfl rfl (xJ rfl rfl (zB (by kernel_rfl)) (scall_permu (List.perm_middle (l₁ := [_, _])) (sortTurn_c hlen))) ?_; rintro _ _ ⟨rfl, S, hS1, hS2, rfl⟩; simp only [List.cons_append, List.nil_append]; refine zX (zY (zZ ?_)); refine zR ?_; (iterate 2 refine zP ?_); refine zX (zV ?_); simp only [yX]; rotate_left
     all_goals ((repeat (rename BV _ _ => k; first | cases k | clear k)); try exact zN)
     rw [← hfin S hS1 hS2]
     refine ret_q (σ3 := .row vo 64 4 (S.map tnC) :: σ) (.cons (Rem.there (.there .here)) .nil) (.cons (.ofTmp rfl) (.cons (.ofTmp rfl) .nil)) (by repeat (first | exact q_r | apply q_q | apply q_k | exact q_a)) ?_
     exact vV .here (.tup (.here (.same .nil)) .nil) (zJ ⟨rfl, rfl⟩)
    ·have hkK : k ∉ K := fun h => hn ((hI2 k).1 h)
     obtain ⟨A1, L, A2, hA1, hA2, hmem⟩ := leftA_step hnd h0 hkK
     have hLd := hent k v L hmem
     have hLu : L.Pairwise (fun a b => a.1 < b.1) := by rw [hLd]; exact entT_up l k
     have hLl : L.length ≤ 2000 := by
      rw [hLd]
      have : (entT l k).length ≤ (entL l).length := List.length_filter_le _ _
      omega
     have hK2 : (K ++ [k]).Nodup := by
      rw [List.nodup_append]
      exact ⟨hI1, by simp, fun a ha b hb => by rw [List.mem_singleton] at hb; subst hb; exact fun h => hkK (h ▸ ha)⟩
     have hI2' : ∀ q, q ∈ K ++ [k] ↔ Hit es (seen.push e.born) q := fun q => by rw [hpp q, ← hI2 q]; simp
     have hI3' : ∀ q ∈ K ++ [k], q ∈ numsE (entL l) := fun q hq => by
      rcases List.mem_append.1 hq with hq | hq
      ·exact hI3 q hq
      ·rw [List.mem_singleton] at hq; subst hq; exact (hkn q).1 ⟨v, h0⟩
     have hrp := rows_perm A1 A2 k v L σ
     rw [hA1]
     rw [← hA2] at hrp
     obtain ⟨S, hSd⟩ : ∃ S, sortE L = S := ⟨_, rfl⟩
     have hSl : S.length ≤ 2000 := by rw [← hSd, sortE_len]; exact hLl
     have cst := sortStable_c L hLu hLl v
     rw [hSd] at cst
     have hturn : turnS l k = { S.foldl stepT ⟨k, 0, 0, []⟩ with twice := sortJ (S.foldl stepT ⟨k, 0, 0, []⟩).twice } := by rw [← hSd, hLd]; rfl
     have hidx : ∀ x ∈ S, x.1 ≤ 600 := fun x hx => by
      rw [← hSd, sortE_mem, hLd, entT_mem, entL_get] at hx
      have := wD hx.1.1
      omega
     clear hkn hent hS9 hnd hI1 hI2 hI3 hA1 hA2 hmem hLd hLu hSd hLl h0 hn hpp
     refine xL rfl rfl rfl (xJ rfl rfl (zB (by kernel_rfl)) (scall_permu (hrp [_, _, _, _]) (cst _))) ?_; rintro _ _ ⟨rfl, rfl⟩; simp only [List.cons_append, List.nil_append]; refine zX (zY (zZ ?_)); refine zR ?_; refine uA ?_; refine xK ?_; intro _; refine yR ?_; refine zX (zY (zY (zZ ?_))); refine zR ?_; apply zU; rfl; rfl; rfl; (apply xH; rfl; rfl; (exact .inl ⟨_, _, _, (by repeat first | exact q_h | apply q_t | assumption), (List.length_map _).symm⟩)); refine zR ?_; refine zX (zT ?_); simp only [zA, zF, zE, zH, yK, ↓reduceIte, Nat.reduceEqDiff]; rotate_left
     all_goals ((repeat (rename BV _ _ => k; first | cases k | clear k)); try exact zN)
     rename Nat => b14
     clear cst hrp
     refine qR 3 1 ?_
     obtain ⟨τ, hτ⟩ : ∃ τ, τ = Ent.obj rb (.mapIter (some bm) clock (seen.push e.born) clock) :: .obj D (.deferred (some [])) :: .row vo 64 4 ((K.map (turnS l)).map tnC) :: .obj bm (.map es clock) :: (vE (leftA A (K ++ [k])) ++ σ) := ⟨_, rfl⟩
     rw [← hτ]
     refine yD (fun (z : Nat × Tn × Value) => (⟨[(2, .slv vo), (74, .ptr rb 0), (14, .ptr b14 0), (84, .slv v), (85, .int .i64 (S.length : Nat)), (86, .int .i64 z.1)], .row z.2.2 3 1 (z.2.1.twice.map intC) :: .cells b14 [.int .i64 z.2.1.turn, .int .i64 z.2.1.farm, .int .i64 z.2.1.given, .slv z.2.2] 64 :: rowE v S :: τ, [D], Tryz.f13.ntmps⟩ : St)) (fun z => z.1 ≤ S.length ∧ z.2.1 = (S.take z.1).foldl stepT ⟨k, 0, 0, []⟩) (fun z => S.length - z.1) (0, ⟨k, 0, 0, []⟩, nilS) (⟨Nat.zero_le _, rfl⟩) (St.le_of (by repeat (first | exact trivial | refine ⟨rfl, ?_⟩)) (by repeat (first | exact q_r | apply q_q | apply q_k))) ?_
     intro z hI
     obtain ⟨j, t, w⟩ := z
     obtain ⟨hJ1, hJ2⟩ := hI
     dsimp only at hJ1 hJ2 ⊢
     have hslen : (S.map entC).length = S.length := List.length_map _
     have htw : t.twice.length ≤ j := by
      rw [hJ2]
      have := fold_twice (S.take j) ⟨k, 0, 0, []⟩
      rw [List.length_take] at this
      simp at this; omega
     by_cases hj : j < S.length
     ·obtain ⟨x, hx⟩ : ∃ x, S[j]? = some x := yW hj
      have hgx := tH hx
      have hst := foldT_take hx ⟨k, 0, 0, []⟩
      rw [← hJ2] at hst
      have hxj := hidx x (List.mem_of_getElem? hx)
      clear hJ2 hx hτ hturn hI2' hI3' hK2 hE
      unfold stepT at hst
      by_cases hk2 : x.2.kind = 2
      ·rw [if_pos hk2] at hst
       by_cases hg : t.given = 0
       ·rw [if_pos hg] at hst
        refine zY (zZ ?_); refine xY ?_; intro _ _; refine zX (zY (yN ?_ ?_)) <;> (intro h hp k; (try subst k); (try simp only [q_n] at hp); try first | omega | (cases hp; done));
        refine zW (zY (zT ?_)); refine zY (zZ ?_); apply zU; rfl; rfl; rfl; (apply yF; rfl; rfl; exact (by repeat first | exact q_h | apply q_t | assumption); rfl; (rfl); (omega)); refine yA ?_; refine xK ?_; intro _; refine yR ?_; refine zX (zT ?_); refine zY (zZ ?_); refine uZ ?_; refine yG ?_; refine xY ?_; intro _ _; refine zR ?_; refine xT ?_ ?_ <;> (intro h hp k; (try subst k); (try simp only [q_n] at hp); try first | omega | (cases hp; done));
        refine wL ?_; refine wT ?_; intro _ _; refine xF ?_; refine zP ?_; refine zX (yN ?_ ?_) <;> (intro h hp k; (try subst k); (try simp only [q_n] at hp); try first | omega | (cases hp; done));
        refine zZ (uZ ?_); refine yG ?_; refine uZ ?_; refine yR ?_; refine zQ (zZ (vX ?_)); refine zR ?_; refine zQ ?_; simp only [zA, zF, zE, zH, yK, ↓reduceIte, Nat.reduceEqDiff]; rotate_left
        all_goals ((repeat (rename BV _ _ => k; first | cases k | clear k)); try exact zN)
        refine ⟨(j + 1, { t with farm := x.2.farm }, w), ⟨hj, hst.symm⟩, by dsimp only; omega, ?_⟩
        dsimp only
        exact wW
       ·rw [if_neg hg] at hst
        refine zY (zZ ?_); refine xY ?_; intro _ _; refine zX (zY (yN ?_ ?_)) <;> (intro h hp k; (try subst k); (try simp only [q_n] at hp); try first | omega | (cases hp; done));
        refine zW (zY (zT ?_)); refine zY (zZ ?_); apply zU; rfl; rfl; rfl; (apply yF; rfl; rfl; exact (by repeat first | exact q_h | apply q_t | assumption); rfl; (rfl); (omega)); refine yA ?_; refine xK ?_; intro _; refine yR ?_; refine zX (zT ?_); refine zY (zZ ?_); refine uZ ?_; refine yG ?_; refine xY ?_; intro _ _; refine zR ?_; refine xT ?_ ?_ <;> (intro h hp k; (try subst k); (try simp only [q_n] at hp); try first | omega | (cases hp; done));
        refine wL ?_; refine wT ?_; intro _ _; refine xF ?_; refine zP ?_; refine zX (yN ?_ ?_) <;> (intro h hp k; (try subst k); (try simp only [q_n] at hp); try first | omega | (cases hp; done));
        refine zY (zZ ?_); refine uZ ?_; refine yG ?_; refine xY ?_; intro _ _; refine zR ?_; refine xT ?_ ?_ <;> (intro h hp k; (try subst k); (try simp only [q_n] at hp); try first | omega | (cases hp; done));
        (iterate 3 refine yC ?_); refine yB ?_; refine zP ?_; refine zX (yH rfl (by rfl) ?_); refine zY (zZ ?_); refine uZ ?_; refine yG ?_; refine xY ?_; intro _ _; refine zP ?_; refine zX (yN ?_ ?_) <;> (intro h hp k; (try subst k); (try simp only [q_n] at hp); try first | omega | (cases hp; done));
        refine zW (zZ (vX ?_)); refine zR ?_; refine zQ ?_; simp only [zA, zF, zE, zH, yK, ↓reduceIte, Nat.reduceEqDiff]; rotate_left
        all_goals ((repeat (rename BV _ _ => k; first | cases k | clear k)); try exact zN)
        refine ⟨(j + 1, t, w), ⟨hj, hst.symm⟩, by dsimp only; omega, ?_⟩
        dsimp only
        exact wW
      ·rw [if_neg hk2] at hst
       by_cases hk1 : x.2.kind = 1
       ·rw [if_pos hk1] at hst
        by_cases hg : t.given = 0
        ·rw [if_pos hg] at hst
         refine zY (zZ ?_); refine xY ?_; intro _ _; refine zX (zY (yN ?_ ?_)) <;> (intro h hp k; (try subst k); (try simp only [q_n] at hp); try first | omega | (cases hp; done));
         refine zW (zY (zT ?_)); refine zY (zZ ?_); apply zU; rfl; rfl; rfl; (apply yF; rfl; rfl; exact (by repeat first | exact q_h | apply q_t | assumption); rfl; (rfl); (omega)); refine yA ?_; refine xK ?_; intro _; refine yR ?_; refine zX (zT ?_); refine zY (zZ ?_); refine uZ ?_; refine yG ?_; refine xY ?_; intro _ _; refine zR ?_; refine xT ?_ ?_ <;> (intro h hp k; (try subst k); (try simp only [q_n] at hp); try first | omega | (cases hp; done));
         (iterate 3 refine yC ?_); refine yB ?_; refine zP ?_; refine zX (yH rfl (by rfl) ?_); refine zY (zZ ?_); refine uZ ?_; refine yG ?_; refine xY ?_; intro _ _; refine zR ?_; refine xT ?_ ?_ <;> (intro h hp k; (try subst k); (try simp only [q_n] at hp); try first | omega | (cases hp; done));
         refine wL ?_; refine wT ?_; intro _ _; refine xF ?_; refine zP ?_; refine zX (yN ?_ ?_) <;> (intro h hp k; (try subst k); (try simp only [q_n] at hp); try first | omega | (cases hp; done));
         rotate_left
         all_goals ((repeat (rename BV _ _ => k; first | cases k | clear k)); try exact zN)
         rename Nat => b16
         refine wA (fun y => y = .cells b16 (entC x) 80) [7] 8 rfl (by kernel_rfl) rfl ?_
         simp only [wU]
         refine yL ?_; refine tN ?_; refine yL ?_; refine dLd ?_; refine yL ?_; apply yS; rfl; rfl; (intro σ' hl; (apply g_add; rfl; rfl; rfl; exact ⟨by omega, by omega⟩)); refine yL ?_; refine tN ?_; refine yL ?_; refine tN ?_; refine yL ?_; refine dLd ?_; refine yL ?_; refine tN ?_; refine yP rfl rfl ?_; apply wF; rfl; rfl; (apply wV; rfl; rfl; rfl; (exact Upd.there (Upd.there (Upd.here))); (simp only [tS, q_z, AV.cells]; rfl); rfl; rfl; rfl; exact q_b rfl); (rintro _ (rfl | rfl | rfl) _ <;> exact (by repeat first | exact q_h | apply q_t | assumption)); refine wQ rfl ?_; refine uZ ?_; refine yR ?_; refine zQ (zZ (vX ?_)); refine zR ?_; refine zQ ?_; simp only [zA, zF, zE, zH, yK, ↓reduceIte, Nat.reduceEqDiff]; rotate_left
         all_goals ((repeat (rename BV _ _ => k; first | cases k | clear k)); try exact zN)
         refine ⟨(j + 1, { t with given := (x.1 : Int) + 1, farm := x.2.farm }, w), ⟨hj, hst.symm⟩, by dsimp only; omega, ?_⟩
         dsimp only
         exact wW
        ·rw [if_neg hg] at hst
         refine zY (zZ ?_); refine xY ?_; intro _ _; refine zX (zY (yN ?_ ?_)) <;> (intro h hp k; (try subst k); (try simp only [q_n] at hp); try first | omega | (cases hp; done));
         refine zW (zY (zT ?_)); refine zY (zZ ?_); apply zU; rfl; rfl; rfl; (apply yF; rfl; rfl; exact (by repeat first | exact q_h | apply q_t | assumption); rfl; (rfl); (omega)); refine yA ?_; refine xK ?_; intro _; refine yR ?_; refine zX (zT ?_); refine zY (zZ ?_); refine uZ ?_; refine yG ?_; refine xY ?_; intro _ _; refine zR ?_; refine xT ?_ ?_ <;> (intro h hp k; (try subst k); (try simp only [q_n] at hp); try first | omega | (cases hp; done));
         (iterate 3 refine yC ?_); refine yB ?_; refine zP ?_; refine zX (yH rfl (by rfl) ?_); refine zY (zZ ?_); refine uZ ?_; refine yG ?_; refine xY ?_; intro _ _; refine zR ?_; refine xT ?_ ?_ <;> (intro h hp k; (try subst k); (try simp only [q_n] at hp); try first | omega | (cases hp; done));
         refine wL ?_; refine wT ?_; intro _ _; refine xF ?_; refine zP ?_; refine zX (yN ?_ ?_) <;> (intro h hp k; (try subst k); (try simp only [q_n] at hp); try first | omega | (cases hp; done));
         refine zY (zZ ?_); refine uZ ?_; refine yG ?_; refine xY ?_; intro _ _; refine zP ?_; refine zX (yN ?_ ?_) <;> (intro h hp k; (try subst k); (try simp only [q_n] at hp); try first | omega | (cases hp; done));
         refine zZ (yG ?_); refine yG ?_; refine qS rfl rfl rfl (by exact yV rfl rfl (by decide) rfl rfl (by (simp only [xC, wU]; rfl))) ?_; intro _; apply tQ; rfl; rfl; rfl; (apply xG; rfl; rfl; rfl; (intro v'; (exact Upd.there (Upd.there (Upd.here)))); (exact .r (by repeat first | exact q_h | apply q_t | assumption)); (intro y hy; simp only [tC] at hy; (focus (obtain ⟨_, _, rfl⟩ := hy; rfl; done))); (refine wP ?_ (by kernel_rfl); (try simp only [List.length_append, List.length_map, List.length_cons, List.length_nil, List.length_take, List.length_drop]); omega)); intro _; refine uZ ?_; refine yR ?_; refine zQ (zZ (vX ?_)); refine zR ?_; refine zQ ?_; simp only [zA, zF, zE, zH, yK, ↓reduceIte, Nat.reduceEqDiff]; rotate_left
         all_goals ((repeat (rename BV _ _ => k; first | cases k | clear k)); try exact zN)
         rename Value => w2
         refine ⟨(j + 1, { t with twice := t.twice ++ [(x.1 : Int)] }, w2), ⟨hj, hst.symm⟩, by dsimp only; omega, ?_⟩
         dsimp only
         rw [List.map_append]
         exact wW
       ·rw [if_neg hk1] at hst
        refine zY (zZ ?_); refine xY ?_; intro _ _; refine zX (zY (yN ?_ ?_)) <;> (intro h hp k; (try subst k); (try simp only [q_n] at hp); try first | omega | (cases hp; done));
        refine zW (zY (zT ?_)); refine zY (zZ ?_); apply zU; rfl; rfl; rfl; (apply yF; rfl; rfl; exact (by repeat first | exact q_h | apply q_t | assumption); rfl; (rfl); (omega)); refine yA ?_; refine xK ?_; intro _; refine yR ?_; refine zX (zT ?_); refine zY (zZ ?_); refine uZ ?_; refine yG ?_; refine xY ?_; intro _ _; refine zR ?_; refine xT ?_ ?_ <;> (intro h hp k; (try subst k); (try simp only [q_n] at hp); try first | omega | (cases hp; done));
        (iterate 3 refine yC ?_); refine yB ?_; refine zP ?_; refine zX (yH rfl (by rfl) ?_); refine zY (zZ ?_); refine uZ ?_; refine yG ?_; refine xY ?_; intro _ _; refine zR ?_; refine xT ?_ ?_ <;> (intro h hp k; (try subst k); (try simp only [q_n] at hp); try first | omega | (cases hp; done));
        (iterate 3 refine yC ?_); refine yB ?_; refine zP ?_; refine zX (yH rfl (by rfl) ?_); refine zY (zZ ?_); refine uZ ?_; refine yG ?_; refine xY ?_; intro _ _; refine zP ?_; refine zX (yN ?_ ?_) <;> (intro h hp k; (try subst k); (try simp only [q_n] at hp); try first | omega | (cases hp; done));
        refine zW (zZ (vX ?_)); refine zR ?_; refine zQ ?_; simp only [zA, zF, zE, zH, yK, ↓reduceIte, Nat.reduceEqDiff]; rotate_left
        all_goals ((repeat (rename BV _ _ => k; first | cases k | clear k)); try exact zN)
        refine ⟨(j + 1, t, w), ⟨hj, hst.symm⟩, by dsimp only; omega, ?_⟩
        dsimp only
        exact wW
     ·have e : j = S.length := by omega
      subst e
      rw [List.take_length] at hJ2
      rw [← hJ2] at hturn
      have hsj := sortIJ t.twice
      have hcells : [AV.int .i64 t.turn, .int .i64 t.farm, .int .i64 t.given, .dl 1 ((sortI t.twice).map intC)] = tnC (turnS l k) := by rw [hturn, hsj]
      have hKm : ((K ++ [k]).map (turnS l)).map tnC = (K.map (turnS l)).map tnC ++ [tnC (turnS l k)] := by simp
      have htl : t.twice.length < 4611686018427387904 := by omega
      clear hJ2 hsj hturn hidx
      rw [hτ]
      refine zY (zZ ?_); refine xY ?_; intro _ _; refine zX (zY (yN ?_ ?_)) <;> (intro h hp k; (try subst k); (try simp only [q_n] at hp); try first | omega | (cases hp; done));
      refine yQ ?_; refine zY (zZ ?_); refine yG ?_; refine xL rfl rfl rfl (xJ rfl rfl (zB (by kernel_rfl)) (sort_c Upd.here htl)) ?_; rintro _ _ ⟨rfl, rfl⟩; refine exl_shut (v := w) (env' := [(2, .slv vo), (74, .ptr rb 0), (14, .ptr b14 0)]) .here (.cells (.same (.same (.same (.here .nil)))) (ShutEnts.refl _)) (by repeat (first | exact .nil | refine .same rfl ?_)) ?_; refine zX (zZ (zR ?_)); refine yA ?_; apply zU; rfl; rfl; rfl; (exact xE (yV rfl rfl (by decide) rfl rfl (by (simp only [xC, wU]; rfl)))); apply tQ; rfl; rfl; rfl; (apply xG; rfl; rfl; rfl; (intro v'; (exact Upd.there (Upd.there (Upd.there (Upd.there (Upd.here)))))); (exact .d); (intro y hy; simp only [tC] at hy; (focus (obtain ⟨_, _, rfl⟩ := hy; rfl; done))); (refine wP ?_ (by kernel_rfl); (try simp only [List.length_append, List.length_map, List.length_cons, List.length_nil, List.length_take, List.length_drop]); omega)); intro _; refine zP ?_; refine zQ ?_; simp only [zA, zF, zE, zH, yK, ↓reduceIte, Nat.reduceEqDiff]; rotate_left
      all_goals ((repeat (rename BV _ _ => k; first | cases k | clear k)); try exact zN)
      rename Value => vo2
      refine ⟨(seen.push e.born, K ++ [k], vo2), ⟨hK2, hI2', hI3'⟩, hm, ?_⟩
      dsimp only
      rw [hKm, ← hcells]
      exact wW
   ·exact h.elim
 ·rw [show turnsS l = ([], xQ l) by unfold turnsS; rw [if_pos h0]]
  refine zY (zZ ?_); refine xB ?_; intro _; (iterate 2 refine zP ?_); refine zX (zY (zY (zZ ?_))); refine yA ?_; apply zU; rfl; rfl; rfl; (refine yJ ?_; exact c1 _); refine zP ?_; refine zX (zY (zZ ?_)); refine zR ?_; refine zD ?_ ?_ <;> (intro h hp; (try simp only [q_n] at hp); try first | omega | (cases hp; done));
  refine zY (zZ ?_); refine zR ?_; (iterate 2 refine zP ?_); refine zX (zV ?_); simp only [yX]; rotate_left
  all_goals ((repeat (rename BV _ _ => k; first | cases k | clear k)); try exact zN)
  refine xX (σ3 := σ) ?_
  exact wJ (sz := 4) (.tup (.here (.same .nil)) .nil) (zJ ⟨rfl, rfl⟩)
theorem same_c (l : List Sl) (σ : List Ent) : SCall Tryz.prog 15 [.agg [sls l], .agg [sls l]] σ (Is (.bool true) σ) := by
 refine zL Tryz.func15 rfl (by simp) ?_
 refine zY (zZ ?_); refine xB ?_; intro _; refine xB ?_; intro _; refine zP ?_; refine zX (zY (zY (zZ ?_))); refine yG ?_; refine wH ?_; refine yG ?_; refine wH ?_; refine zD ?_ ?_ <;> (intro h hp; (try simp only [q_n] at hp); try first | omega | (cases hp; done));
 refine zW (zY (zY (zZ ?_))); refine zP ?_; refine zX (zT ?_); rotate_left
 all_goals ((repeat (rename BV _ _ => k; first | cases k | clear k)); try exact zN)
 refine pS (t := 7) rfl ((List.length_map _).symm) (fun hlen => ?_)
 rename Nat => b3; revert b3; rename Nat => b2; revert b2
 intro b2 b3
 refine yD (fun (k : Nat) => (⟨[(2, .ptr b2 0), (3, .ptr b3 0), (5, .int .i64 k)], .cells b3 [sls l] 24 :: .cells b2 [sls l] 24 :: σ, [], Tryz.f15.ntmps⟩ : St)) (fun k => k ≤ l.length) (fun k => l.length - k) 0 (Nat.zero_le _) (St.le_of (by repeat (first | exact trivial | refine ⟨rfl, ?_⟩)) (by repeat (first | exact q_r | apply q_q | apply q_k))) ?_
 intro k hI
 by_cases hk : k < l.length
 ·obtain ⟨s, hs⟩ : ∃ s, l[k]? = some s := yW hk
  have hg := uH hs
  refine zY (zY (zZ ?_)); refine zR ?_; refine yG ?_; refine wH ?_; refine zD ?_ ?_ <;> (intro h hp; (try simp only [q_n] at hp); try first | omega | (cases hp; done));
  refine zW (zY (zT ?_)); refine zY (wN rfl rfl (by kernel_rfl) rfl ?_); refine yU rfl (by kernel_rfl) rfl ?_; refine vR ?_; refine vW ?_; refine xU ?_; refine wIx ?_; refine qB ?_; refine vR ?_; refine vW ?_; refine xU ?_; refine wIx ?_; refine qB ?_; refine yY (v := .bool false) rfl rfl rfl (fun σ' hl => g_neqSl (a := s) (b := s) (q := true) rfl rfl rfl (by simp)) ?_; refine zC ?_; show EX _ _ _ _ _; refine yH rfl (by rfl) ?_; refine zW (zZ (zR ?_)); refine vX ?_; refine zP ?_; refine zQ ?_; simp only [zA, zF, zE, zH, yK, ↓reduceIte, Nat.reduceEqDiff]; rotate_left
  all_goals ((repeat (rename BV _ _ => k; first | cases k | clear k)); try exact zN)
  refine ⟨k + 1, hk, by omega, ?_⟩
  exact wW
 ·refine zY (zY (zZ ?_)); refine zR ?_; refine yG ?_; refine wH ?_; refine zD ?_ ?_ <;> (intro h hp; (try simp only [q_n] at hp); try first | omega | (cases hp; done));
  refine yQ ?_; refine zY (zZ ?_); refine zP ?_; refine zX (zV ?_); simp only [yX]; rotate_left
  all_goals ((repeat (rename BV _ _ => k; first | cases k | clear k)); try exact zN)
  refine xW ?_
  rfl
theorem tnC_get {L : List Tn} {k : Nat} {t : Tn} (h : L[k]? = some t) : (L.map tnC)[k]? = some (tnC t) := by rw [List.getElem?_map, h]; rfl
theorem intC_get {L : List Int} {k : Nat} {x : Int} (h : L[k]? = some x) : (L.map intC)[k]? = some (intC x) := by rw [List.getElem?_map, h]; rfl
theorem sameTurn_c (t : Tn) (σ : List Ent) : SCall Tryz.prog 42 [.agg (tnC t), .agg (tnC t)] σ (Is (.bool true) σ) := by
 refine zL Tryz.func42 rfl (by simp) ?_
 refine zY (zZ ?_); refine xB ?_; intro _; refine xB ?_; intro _; refine zP ?_; refine zX (zY (zY (zZ ?_))); (iterate 2 refine yG ?_); refine xY ?_; intro _ _; refine zR ?_; refine xT ?_ ?_ <;> (intro h hp k; (try subst k); (try simp only [q_n] at hp); try first | omega | (cases hp; done));
 (iterate 2 refine wL ?_); refine wT ?_; intro _ _; refine yB ?_; refine zR ?_; refine xT ?_ ?_ <;> (intro h hp k; (try subst k); (try simp only [q_n] at hp); try first | omega | (cases hp; done));
 (iterate 2 refine wL ?_); refine wT ?_; intro _ _; refine yB ?_; refine zR ?_; refine xT ?_ ?_ <;> (intro h hp k; (try subst k); (try simp only [q_n] at hp); try first | omega | (cases hp; done));
 refine wL ?_; apply yZ; rfl; (rfl); rfl; rfl; (apply xH; rfl; rfl; (exact (List.length_map _).symm)); refine wL ?_; apply yZ; rfl; (rfl); rfl; rfl; (apply xH; rfl; rfl; (exact (List.length_map _).symm)); refine wT ?_; intro _ _; refine yB ?_; refine zX (yN ?_ ?_) <;> (intro h hp k; (try subst k); (try simp only [q_n] at hp); try first | omega | (cases hp; done));
 refine zW (zY (zY (zZ ?_))); refine zP ?_; refine zX (zT ?_); rotate_left
 all_goals ((repeat (rename BV _ _ => k; first | cases k | clear k)); try exact zN)
 refine pS (t := 27) rfl ((List.length_map _).symm) (fun hlen => ?_)
 rename Nat => b3; revert b3; rename Nat => b2; revert b2
 intro b2 b3
 refine yD (fun (k : Nat) => (⟨[(2, .ptr b2 0), (3, .ptr b3 0), (5, .int .i64 k)], .cells b3 (tnC t) 64 :: .cells b2 (tnC t) 64 :: σ, [], Tryz.f42.ntmps⟩ : St)) (fun k => k ≤ t.twice.length) (fun k => t.twice.length - k) 0 (Nat.zero_le _) (St.le_of (by repeat (first | exact trivial | refine ⟨rfl, ?_⟩)) (by repeat (first | exact q_r | apply q_q | apply q_k))) ?_
 intro k hI
 by_cases hk : k < t.twice.length
 ·obtain ⟨x, hx⟩ : ∃ x, t.twice[k]? = some x := yW hk
  have hg := intC_get hx
  refine zY (zY (zZ ?_)); refine zR ?_; refine yG ?_; refine wH ?_; refine zD ?_ ?_ <;> (intro h hp; (try simp only [q_n] at hp); try first | omega | (cases hp; done));
  refine zW (zY (zT ?_)); refine zY (wN rfl rfl (by kernel_rfl) rfl ?_); refine yU rfl (by kernel_rfl) rfl ?_; refine vR ?_; refine vW ?_; refine xU ?_; refine wIx ?_; refine vW ?_; refine vR ?_; refine vW ?_; refine xU ?_; refine wIx ?_; refine vW ?_; refine wBi ?_; intro _ _; refine zC ?_; show EX _ _ _ _ _; refine yN ?_ ?_ <;> (intro h hp k; (try subst k); (try simp only [q_n] at hp); try first | omega | (cases hp; done));
  refine zW (zZ (zR ?_)); refine vX ?_; refine zP ?_; refine zQ ?_; simp only [zA, zF, zE, zH, yK, ↓reduceIte, Nat.reduceEqDiff]; rotate_left
  all_goals ((repeat (rename BV _ _ => k; first | cases k | clear k)); try exact zN)
  refine ⟨k + 1, hk, by omega, ?_⟩
  exact wW
 ·refine zY (zY (zZ ?_)); refine zR ?_; refine yG ?_; refine wH ?_; refine zD ?_ ?_ <;> (intro h hp; (try simp only [q_n] at hp); try first | omega | (cases hp; done));
  refine yQ ?_; refine zY (zZ ?_); refine zP ?_; refine zX (zV ?_); simp only [yX]; rotate_left
  all_goals ((repeat (rename BV _ _ => k; first | cases k | clear k)); try exact zN)
  refine xW ?_
  rfl
theorem sameTurns_c (L : List Tn) (σ : List Ent) : SCall Tryz.prog 16 [.dl 4 (L.map tnC), .dl 4 (L.map tnC)] σ (Is (.bool true) σ) := by
 refine zL Tryz.func16 rfl (by simp) ?_
 refine zY (zZ ?_); refine zP ?_; refine zX (zY (zY (zZ ?_))); refine zR ?_; refine wH ?_; refine zR ?_; refine wH ?_; refine zD ?_ ?_ <;> (intro h hp; (try simp only [q_n] at hp); try first | omega | (cases hp; done));
 refine zW (zY (zY (zZ ?_))); refine zP ?_; refine zX (zT ?_); rotate_left
 all_goals ((repeat (rename BV _ _ => k; first | cases k | clear k)); try exact zN)
 refine pS (t := 6) rfl ((List.length_map _).symm) (fun hlen => ?_)
 refine yD (fun (k : Nat) => (⟨[(0, .dl 4 (L.map tnC)), (1, .dl 4 (L.map tnC)), (5, .int .i64 k)], σ, [], Tryz.f16.ntmps⟩ : St)) (fun k => k ≤ L.length) (fun k => L.length - k) 0 (Nat.zero_le _) (St.le_of (by repeat (first | exact trivial | refine ⟨rfl, ?_⟩)) (by repeat (first | exact q_r | apply q_q | apply q_k))) ?_
 intro k hI
 by_cases hk : k < L.length
 ·obtain ⟨x, hx⟩ : ∃ x, L[k]? = some x := yW hk
  have hg := tnC_get hx
  refine zY (zY (zZ ?_)); (iterate 2 refine zR ?_); refine wH ?_; refine zD ?_ ?_ <;> (intro h hp; (try simp only [q_n] at hp); try first | omega | (cases hp; done));
  refine zW (zY (zT ?_)); refine zY ?_; rotate_left
  all_goals ((repeat (rename BV _ _ => k; first | cases k | clear k)); try exact zN)
  refine xN anyK 10 [] rfl (by kernel_rfl) rfl ?_
  simp only [wU]
  (iterate 2 refine xU ?_); refine wIx ?_; refine qB ?_; (iterate 2 refine xU ?_); refine wIx ?_; refine qB ?_; apply vP; rfl; rfl; rfl; (intro σ' hl; (refine yJ ?_; exact sameTurn_c _ _)); intro _ _; apply vP; rfl; rfl; rfl; (intro σ' hl; (apply tD <;> rfl)); intro _ _; refine zC (zX (yN ?_ ?_)) <;> (intro h hp k; (try subst k); (try simp only [q_n] at hp); try first | omega | (cases hp; done));
  refine zY (zZ ?_); refine zP ?_; refine zX (zV ?_); simp only [yX]; rotate_left; refine zW (zZ (zR ?_)); refine vX ?_; refine zP ?_; refine zQ ?_; simp only [zA, zF, zE, zH, yK, ↓reduceIte, Nat.reduceEqDiff]; rotate_left
  all_goals ((repeat (rename BV _ _ => k; first | cases k | clear k)); try exact zN)
  refine ⟨k + 1, hk, by omega, ?_⟩
  exact wW
 ·refine zY (zY (zZ ?_)); (iterate 2 refine zR ?_); refine wH ?_; refine zD ?_ ?_ <;> (intro h hp; (try simp only [q_n] at hp); try first | omega | (cases hp; done));
  refine yQ ?_; refine zY (zZ ?_); refine zP ?_; refine zX (zV ?_); simp only [yX]; rotate_left
  all_goals ((repeat (rename BV _ _ => k; first | cases k | clear k)); try exact zN)
  refine xW ?_
  rfl
theorem given_c (tab turn farm hour : Int) (σ : List Ent) : SCall Tryz.prog 28 [.int .i64 tab, .int .i64 turn, .int .i64 farm, .int .i64 hour] σ (Is (slV ⟨tab, 0, 1, turn, farm, hour, 5, 0⟩) σ) := by
 refine zL Tryz.func28 rfl (by simp) ?_
 refine zY (zZ ?_); refine xK ?_; intro _; refine zX (zY (zZ ?_)); (iterate 4 refine zR ?_); refine uA ?_; refine yR ?_; refine zX (zV ?_); simp only [yX]; rotate_left
 all_goals ((repeat (rename BV _ _ => k; first | cases k | clear k)); try exact zN)
 refine xW ?_
 rfl
abbrev qP (q : Qk) : Pk := ⟨q.f, q.t, msgS q.s⟩
abbrev qPs (Q : List Qk) : List Pk := Q.map qP
theorem RtQ.rt {B : List (List Sl)} {Q : List Qk} {A : List Ap} (h : RtQ B Q) (hA : OkA A) : Rt B (qPs Q) A :=
 ⟨h.n1, h.n8, h.ck, h.tab, fun p hp => by
  obtain ⟨q, hq, rfl⟩ := List.mem_map.1 hp
  obtain ⟨h1, h2, h3, h4, h5, h6, h7⟩ := h.net q hq
  exact ⟨h1, h2, h3, h4, h5, q.s, rfl, h6, h7⟩, by rw [List.length_map]; exact h.few, hA⟩
def doV (A : List Ap) : Except Int (List (List Sl) × List Qk) → AV
 | .error e => .tup [rnd0, .int .i64 e]
 | .ok x => .tup [.agg (stC x.1 (qPs x.2) A), .int .i64 0]
theorem qPs_erase (Q : List Qk) (k : Nat) : (qPs Q).eraseIdx k = qPs (Q.eraseIdx k) := by
 show (Q.map qP).eraseIdx k = (Q.eraseIdx k).map qP
 rw [List.eraseIdx_eq_take_drop_succ, List.eraseIdx_eq_take_drop_succ, List.map_append, List.map_take, List.map_drop]
theorem do_write (B : List (List Sl)) (Q : List Qk) (A : List Ap) (hA : OkA A) (r : Ps) (hR : RtQ B Q) (hk : r.k = 1) (σ : List Ent) :
  SCall Tryz.prog 20 [.agg (stC B (qPs Q) A), psV r] σ (Is (doV A (doSA A B Q r)) σ) := by
 have hz : passM r.k = some (.fn (.func 48) [] []) := by rw [hk]; rfl
 rw [doSA_not (by omega)]
 unfold doS
 rw [if_pos hk]
 by_cases hc : 0 ≤ r.a ∧ r.a < B.length ∧ r.s.tab = r.a
 ·rw [if_pos hc]
  obtain ⟨k, hkk⟩ : ∃ k : Nat, r.a = k := ⟨r.a.toNat, by omega⟩
  have hkB : k < B.length := by omega
  obtain ⟨l, hl⟩ : ∃ l, B[k]? = some l := yW hkB
  have hgd : B.getD r.a.toNat [] = l := by rw [show r.a.toNat = k by omega, List.getD_eq_getElem?_getD, hl]; rfl
  rw [hgd, show r.a.toNat = k by omega]
  by_cases he : (vQ l r.s).2 = 0
  ·rw [if_pos he]
   refine do_ok B _ A r (hR.rt hA) _ (zB (by kernel_rfl)) hz _ _ (fun b σ => ?_) σ
   have h0 := pwrite_ok b k B (qPs Q) A r hR.n8 hkB hkk hc.2.2 l hl 0 he σ
   rwa [if_pos rfl] at h0
  ·rw [if_neg he]
   refine do_err B _ A r (hR.rt hA) _ (zB (by kernel_rfl)) hz (bks B) (pks (qPs Q)) (aps A) _ he (fun b σ => ?_) σ
   have h0 := pwrite_ok b k B (qPs Q) A r hR.n8 hkB hkk hc.2.2 l hl _ rfl σ
   rw [if_neg he] at h0
   exact h0
 ·rw [if_neg hc]
  exact do_err B _ A r (hR.rt hA) _ (zB (by kernel_rfl)) hz _ _ _ _ (by omega) (fun b σ => pwrite_bad b B _ A r hR.n8 hc σ) σ
theorem do_tell (B : List (List Sl)) (Q : List Qk) (A : List Ap) (hA : OkA A) (r : Ps) (hR : RtQ B Q) (hk : r.k = 2) (σ : List Ent) :
  SCall Tryz.prog 20 [.agg (stC B (qPs Q) A), psV r] σ (Is (doV A (doSA A B Q r)) σ) := by
 have hz : passM r.k = some (.fn (.func 49) [] []) := by rw [hk]; rfl
 rw [doSA_not (by omega)]
 unfold doS
 rw [if_neg (by omega), if_pos hk]
 have hfew : (qPs Q).length ≤ 4096 := (hR.rt hA).few
 have hQl : (qPs Q).length = Q.length := List.length_map ..
 by_cases hc : 0 ≤ r.a ∧ r.a < B.length ∧ 0 ≤ r.t ∧ r.t < B.length ∧ r.a ≠ r.t
 ·rw [if_pos hc]
  obtain ⟨k, hkk⟩ : ∃ k : Nat, r.a = k := ⟨r.a.toNat, by omega⟩
  have hkB : k < B.length := by omega
  obtain ⟨l, hl⟩ : ∃ l, B[k]? = some l := yW hkB
  have hlm := List.mem_of_getElem? hl
  have hck := hR.ck l hlm
  have hgd : B.getD r.a.toNat [] = l := by rw [show r.a.toNat = k by omega, List.getD_eq_getElem?_getD, hl]; rfl
  rw [hgd]
  have hln : l.length ≤ 512 := by have := (check_zero.1 hck).1; omega
  have hsd : ∀ s ∈ l, Sendable s := fun s hs => sendable_book hck hs
  by_cases he : Q.length + l.length ≤ 4096
  ·rw [if_pos he]
   have hmp : qPs (Q ++ l.map fun s => ⟨r.a, r.t, s⟩) = qPs Q ++ l.map (sentP r) := by
    show (Q ++ l.map fun s => (⟨r.a, r.t, s⟩ : Qk)).map qP = Q.map qP ++ l.map (sentP r)
    rw [List.map_append, List.map_map]; rfl
   show SCall _ _ _ _ (Is (.tup [.agg (stC B (qPs (Q ++ l.map fun s => ⟨r.a, r.t, s⟩)) A), .int .i64 0]) σ)
   rw [hmp]
   refine do_ok B _ A r (hR.rt hA) _ (zB (by kernel_rfl)) hz _ _ (fun b σ => ?_) σ
   refine uY (ptell_ok b k B (qPs Q) A r (hR.rt hA).netOk hR.n8 hc hkk l hl hsd hln σ) ?_
   rintro v τ (⟨_, rfl, rfl⟩ | ⟨h, _⟩)
   ·exact .mk
   ·omega
  ·rw [if_neg he]
   refine do_err B _ A r (hR.rt hA) _ (zB (by kernel_rfl)) hz (bks B) (.slv nilS) (.slv nilS) 2 (by omega) (fun b σ => ?_) σ
   refine uY (ptell_ok b k B (qPs Q) A r (hR.rt hA).netOk hR.n8 hc hkk l hl hsd hln σ) ?_
   rintro v τ (⟨h, _⟩ | ⟨_, rfl, rfl⟩)
   ·omega
   ·exact .mk
 ·rw [if_neg hc]
  exact do_err B _ A r (hR.rt hA) _ (zB (by kernel_rfl)) hz _ _ _ _ (by omega) (fun b σ => ptell_bad b B _ A r hR.n8 hc σ) σ
theorem do_net (B : List (List Sl)) (Q : List Qk) (A : List Ap) (hA : OkA A) (r : Ps) (hR : RtQ B Q) (hk : r.k = 3 ∨ r.k = 4 ∨ r.k = 5) (hnc : ∀ q, r.k = 3 → 0 ≤ r.i → Q[r.i.toNat]? = some q → cutB A q.f q.t = false) (σ : List Ent) :
  SCall Tryz.prog 20 [.agg (stC B (qPs Q) A), psV r] σ (Is (doV A (doS B Q r)) σ) := by
 unfold doS
 rw [if_neg (by omega), if_neg (by omega), if_pos hk]
 have hfew : (qPs Q).length ≤ 4096 := (hR.rt hA).few
 have hQl : (qPs Q).length = Q.length := List.length_map ..
 have hok := (hR.rt hA).netOk
 by_cases hi : r.i < 0 ∨ (Q.length : Int) ≤ r.i
 ·rw [if_pos hi]
  have hi' : r.i < 0 ∨ ((qPs Q).length : Int) ≤ r.i := by omega
  rcases hk with hk | hk | hk
  ·exact do_err B _ A r (hR.rt hA) _ (zB (by kernel_rfl)) (by rw [hk]; rfl) _ _ _ _ (by omega) (fun b σ => pdeliver_out b B _ A r hok hi' σ) σ
  ·exact do_err B _ A r (hR.rt hA) _ (zB (by kernel_rfl)) (by rw [hk]; rfl) _ _ _ _ (by omega) (fun b σ => plose_out b B _ A r hok hi' σ) σ
  ·exact do_err B _ A r (hR.rt hA) _ (zB (by kernel_rfl)) (by rw [hk]; rfl) _ _ _ _ (by omega) (fun b σ => prepeat_out b B _ A r hok hi' σ) σ
 ·rw [if_neg hi]
  obtain ⟨k, hkk⟩ : ∃ k : Nat, r.i = k := ⟨r.i.toNat, by omega⟩
  have hkt : r.i.toNat = k := by omega
  obtain ⟨q, hq⟩ : ∃ q, Q[k]? = some q := yW (by omega)
  rw [hkt, hq]
  have hqP : (qPs Q)[k]? = some (qP q) := by rw [List.getElem?_map, hq]; rfl
  obtain ⟨h1, h2, h3, h4, h5, h6, h7⟩ := hR.net q (List.mem_of_getElem? hq)
  dsimp only
  rcases hk with hk | hk | hk
  ·rw [if_pos hk]
   have hcut := hnc q hk (by omega) (by rw [hkt]; exact hq)
   obtain ⟨t, htt⟩ : ∃ t : Nat, q.t = t := ⟨q.t.toNat, by omega⟩
   have htB : t < B.length := by omega
   obtain ⟨l, hl⟩ : ∃ l, B[t]? = some l := yW htB
   have hgd : B.getD q.t.toNat [] = l := by rw [show q.t.toNat = t by omega, List.getD_eq_getElem?_getD, hl]; rfl
   rw [hgd, show q.t.toNat = t by omega]
   have hck := hR.ck l (List.mem_of_getElem? hl)
   have hln : l.length ≤ 512 := by have := (check_zero.1 hck).1; omega
   show SCall _ _ _ _ (Is (.tup [.agg (stC (B.set t (heardS l q.s)) (qPs (Q.eraseIdx k)) A), .int .i64 0]) σ)
   rw [← qPs_erase]
   exact do_ok B _ A r (hR.rt hA) _ (zB (by kernel_rfl)) (by rw [hk]; rfl) _ _ (fun b σ => pdeliver_in b B _ A r hok hR.n8 k t _ hqP hkk hcut q.s h6 rfl htt l hl hln σ) σ
  ·rw [if_neg (by omega), if_pos hk]
   show SCall _ _ _ _ (Is (.tup [.agg (stC B (qPs (Q.eraseIdx k)) A), .int .i64 0]) σ)
   rw [← qPs_erase]
   exact do_ok B _ A r (hR.rt hA) _ (zB (by kernel_rfl)) (by rw [hk]; rfl) _ _ (fun b σ => plose_in b B _ A r hok k _ hqP hkk σ) σ
  ·rw [if_neg (by omega), if_neg (by omega)]
   by_cases he : Q.length = 4096
   ·rw [if_pos he]
    exact do_err B _ A r (hR.rt hA) _ (zB (by kernel_rfl)) (by rw [hk]; rfl) _ _ _ _ (by omega) (fun b σ => prepeat_full b B _ A r hok k _ hqP hkk (by omega) σ) σ
   ·rw [if_neg he]
    show SCall _ _ _ _ (Is (.tup [.agg (stC B (qPs (Q ++ [q])) A), .int .i64 0]) σ)
    rw [show qPs (Q ++ [q]) = qPs Q ++ [qP q] from List.map_append ..]
    exact do_ok B _ A r (hR.rt hA) _ (zB (by kernel_rfl)) (by rw [hk]; rfl) _ _ (fun b σ => prepeat_in b B _ A r hok k _ hqP hkk (by omega) σ) σ
theorem do_cut (B : List (List Sl)) (Q : List Qk) (A : List Ap) (hA : OkA A) (r : Ps) (hR : RtQ B Q) (hk : r.k = 3) (hi : 0 ≤ r.i) (q : Qk) (hq : Q[r.i.toNat]? = some q) (hcut : cutB A q.f q.t = true) (σ : List Ent) :
  SCall Tryz.prog 20 [.agg (stC B (qPs Q) A), psV r] σ (Is (doV A (doSA A B Q r)) σ) := by
 obtain ⟨k, hkk⟩ : ∃ k : Nat, r.i = k := ⟨r.i.toNat, by omega⟩
 have hkt : r.i.toNat = k := by omega
 have hqP : (qPs Q)[k]? = some (qP q) := by rw [List.getElem?_map, ← hkt, hq]; rfl
 unfold doSA
 rw [hq]
 dsimp only
 rw [if_pos ⟨hk, hi, hcut⟩, hkt]
 show SCall _ _ _ _ (Is (.tup [.agg (stC B (qPs (Q.eraseIdx k)) A), .int .i64 0]) σ)
 rw [← qPs_erase]
 exact do_ok B _ A r (hR.rt hA) _ (zB (by kernel_rfl)) (by rw [hk]; rfl) _ _ (fun b σ => pdeliver_cut b B _ A r (hR.rt hA).netOk k _ hqP hkk hcut σ) σ
theorem do_c (B : List (List Sl)) (Q : List Qk) (A : List Ap) (hA : OkA A) (r : Ps) (hR : RtQ B Q) (σ : List Ent) :
  SCall Tryz.prog 20 [.agg (stC B (qPs Q) A), psV r] σ (Is (doV A (doSA A B Q r)) σ) := by
 by_cases h1 : r.k = 1
 ·exact do_write B Q A hA r hR h1 σ
 by_cases h2 : r.k = 2
 ·exact do_tell B Q A hA r hR h2 σ
 by_cases h3 : r.k = 3 ∨ r.k = 4 ∨ r.k = 5
 ·by_cases hc : r.k = 3 ∧ 0 ≤ r.i ∧ ∃ q, Q[r.i.toNat]? = some q ∧ cutB A q.f q.t = true
  ·obtain ⟨g1, g2, q, g3, g4⟩ := hc
   exact do_cut B Q A hA r hR g1 g2 q g3 g4 σ
  ·have hnc : ∀ q, r.k = 3 → 0 ≤ r.i → Q[r.i.toNat]? = some q → cutB A q.f q.t = false := fun q g1 g2 g3 => by
    cases hb : cutB A q.f q.t with
    | false => rfl
    | true => exact absurd ⟨g1, g2, q, g3, hb⟩ hc
   have he : doSA A B Q r = doS B Q r := by
    unfold doSA
    cases hq : Q[r.i.toNat]? with
    | none => rfl
    | some q => exact if_neg fun h => by rw [hnc q h.1 h.2.1 hq] at h; exact absurd h.2.2 (by decide)
   rw [he]
   exact do_net B Q A hA r hR h3 hnc σ
 rw [doSA_not (by omega)]
 unfold doS
 rw [if_neg h1, if_neg h2, if_neg h3]
 exact do_none B _ A r (hR.rt hA) (by omega) σ
theorem do_c0 (B : List (List Sl)) (Q : List Qk) (r : Ps) (hR : RtQ B Q) (σ : List Ent) :
  SCall Tryz.prog 20 [.agg (stC B (qPs Q) []), psV r] σ (Is (doV [] (doS B Q r)) σ) := by
 have := do_c B Q [] okA_nil r hR σ
 rwa [doSA_nil] at this
/-- At a wrong state. -/
theorem do_bad (B : List (List Sl)) (L : List Pk) (A : List Ap) (r : Ps) (hs : Small L) (h : ¬ RightA B L A) (σ : List Ent) :
  SCall Tryz.prog 20 [.agg (stC B L A), psV r] σ (Is (.tup [rnd0, .int .i64 540]) σ) := by
 refine zL Tryz.func20 rfl (by simp) ?_
 have hr := fun σ => right_bad hs h σ
 clear hs h
 refine zY (zZ ?_); refine xB ?_; intro _; refine xB ?_; intro _; refine xK ?_; intro _; refine zP ?_; refine zX (zY (zY (zZ ?_))); refine yA ?_; apply yE; rfl; rfl; rfl; (refine yJ ?_; exact hr _); intro _ _; refine qY ?_; intro _ _; refine zX (yN ?_ ?_) <;> (intro h hp k; (try subst k); (try simp only [q_n] at hp); try first | omega | (cases hp; done));
 refine zY (zZ ?_); refine yA ?_; refine yR ?_; refine zP ?_; refine zX (zV ?_); simp only [yX]; rotate_left; refine zW (zY (zZ ?_)); refine exl_map rfl rfl rfl (by exact g_makeMap) ?_; intro _; rotate_left
 all_goals ((repeat (rename BV _ _ => k; first | cases k | clear k)); try exact zN)
 refine xX (σ3 := σ) ?_
 exact zJ .mk
def bkA : List Sl := [⟨0, 0, 1, 7, 1, 4, 5, 0⟩]
def bkB : List Sl := [⟨1, 0, 1, 7, 2, 3, 5, 0⟩]
def bkL : List Sl := [⟨0, 0, 1, 7, 1, 4, 5, 0⟩, ⟨1, 0, 1, 7, 2, 3, 5, 0⟩]
def bkV : List Sl := [⟨0, 0, 1, 7, 1, 4, 5, 0⟩, ⟨1, 0, 1, 7, 2, 3, 5, 0⟩, ⟨1, 1, 3, 0, 0, 0, 0, 1⟩]
theorem ex1 : vQ [] ⟨0, 0, 1, 7, 1, 4, 5, 0⟩ = (bkA, 0) ∧ vQ [] ⟨1, 0, 1, 7, 2, 3, 5, 0⟩ = (bkB, 0) ∧ vQ [] ⟨0, 0, 3, 0, 0, 0, 0, 0⟩ = ([], 540) := by decide +kernel
theorem ex2 : wR bkA bkB = some bkL := by
 unfold bkA bkB bkL
 rw [wR, if_pos (by decide), wR]; rfl
theorem ex3 : xQ bkA = 0 ∧ xQ bkB = 0 ∧ xQ bkL = 0 := by decide +kernel
theorem ex4 : pV bkA bkB = (bkL, 0) := by
 unfold pV
 rw [ex2, if_neg (by rw [ex3.1]; simp), if_neg (by rw [ex3.2.1]; simp)]; rfl
theorem ex5 : pV bkL bkL = (bkL, 0) := mergeS_self ex3.2.2
theorem ex6 : turnsS bkL = ([⟨7, 2, 2, [0]⟩], 0) := by decide +kernel
theorem ex7 : vQ bkL ⟨1, 0, 3, 0, 0, 0, 0, 1⟩ = (bkV, 0) := by decide +kernel
theorem ex8 : turnsS bkV = ([⟨7, 1, 1, []⟩], 0) := by decide +kernel
def rdS : List Ps := [⟨1, 0, 0, 0, ⟨0, 0, 1, 7, 1, 4, 5, 0⟩⟩, ⟨1, 0, 0, 0, ⟨0, 0, 1, 8, 1, 4, 5, 0⟩⟩, ⟨2, 0, 1, 0, ⟨0, 0, 0, 0, 0, 0, 0, 0⟩⟩, ⟨3, 0, 0, 1, ⟨0, 0, 0, 0, 0, 0, 0, 0⟩⟩, ⟨3, 0, 0, 0, ⟨0, 0, 0, 0, 0, 0, 0, 0⟩⟩]
abbrev sA : Sl := ⟨0, 0, 1, 7, 1, 4, 5, 0⟩
abbrev sB : Sl := ⟨0, 1, 1, 8, 1, 4, 5, 0⟩
def rdB : List (List (List Sl)) := [[[], []], [[sA], []], [[sA, sB], []], [[sA, sB], []], [[sA, sB], []], [[sA, sB], [sA]]]
def rdQ : List (List Qk) := [[], [], [], [⟨0, 1, sA⟩, ⟨0, 1, sB⟩], [⟨0, 1, sA⟩], []]
def isOk (r : Except Int (List (List Sl) × List Qk)) (B : List (List Sl)) (Q : List Qk) : Bool := match r with
 | .ok (B', Q') => decide (B' = B) && decide (Q' = Q)
 | .error _ => false
theorem ok_is {r : Except Int (List (List Sl) × List Qk)} {B : List (List Sl)} {Q : List Qk} (h : isOk r B Q = true) : r = .ok (B, Q) := by
 unfold isOk at h
 split at h
 ·rw [Bool.and_eq_true, decide_eq_true_eq, decide_eq_true_eq] at h; rw [h.1, h.2]
 ·cases h
theorem ex9a : ∀ k < 5, isOk (doS (rdB.getD k []) (rdQ.getD k []) (rdS.getD k ⟨0, 0, 0, 0, sA⟩)) (rdB.getD (k + 1) []) (rdQ.getD (k + 1) []) = true := by decide +kernel
theorem ex9 (k : Nat) (hk : k < 5) : doS (rdB.getD k []) (rdQ.getD k []) (rdS.getD k ⟨0, 0, 0, 0, sA⟩) = .ok (rdB.getD (k + 1) [], rdQ.getD (k + 1) []) := ok_is (ex9a k hk)
theorem ex10 : ∀ k, k ≤ 5 → RtQ (rdB.getD k []) (rdQ.getD k []) := by
 have key : ∀ k, k ≤ 5 → ∃ W, Hist (rdB.getD k []) (rdQ.getD k []) W := by
  intro k
  induction k with
  | zero => intro _; exact ⟨_, hist_new (n := 2) (by decide) (by decide)⟩
  | succ k ih =>
   intro hk
   obtain ⟨W, hW⟩ := ih (by omega)
   exact ⟨_, (hist_do hW (ex9 k (by omega))).1⟩
 intro k hk
 obtain ⟨W, hW⟩ := key k hk
 exact hW.rt
theorem ex11 : doS (rdB.getD 0 []) (rdQ.getD 0 []) ⟨0, 0, 0, 0, ⟨0, 0, 0, 0, 0, 0, 0, 0⟩⟩ = .error 1 := rfl
section
variable {P : Program} {ro : Option Nat} {env : Env} {σ : List Ent} {dst : Option Tmp} {ty : TypeId} {pos : String} {after : Array Edge} {guard : Option (Nat × Bool)}
end
theorem right_none (σ : List Ent) : SCall Tryz.prog 47 [rnd0] σ (Is (.bool false) σ) := by
 refine zL Tryz.func47 rfl (by simp) ?_
 have hi := fun σ => in_c 0 1 8 σ
 rw [show inB 0 1 8 = false by rfl] at hi
 refine zY (zZ ?_); refine xB ?_; intro _; refine zP ?_; refine zX (zY (zZ ?_)); refine yG ?_; apply zU; rfl; rfl; rfl; (apply xH; rfl; rfl; (exact .inr ⟨rfl, rfl⟩)); refine xK ?_; intro _; refine yR ?_; refine zX (zY (zY (zZ ?_))); refine xLd ?_; apply yE; rfl; rfl; rfl; (refine yJ ?_; exact hi _); intro _ _; refine qY ?_; intro _ _; refine zR ?_; refine xT ?_ ?_ <;> (intro h hp k; (try subst k); (try simp only [q_n] at hp); try first | omega | (cases hp; done));
 (iterate 4 refine yC ?_); refine xF ?_; refine zX (zG rfl (by rfl) ?_); refine zY (zZ ?_); refine zP ?_; refine zX (zV ?_); simp only [yX]; rotate_left; refine yFa ?_; refine yLa ?_; rotate_left
 all_goals ((repeat (rename BV _ _ => k; first | cases k | clear k)); try exact zN)
 refine xW ?_
 rfl
theorem do_empty (r : Ps) (σ : List Ent) : SCall Tryz.prog 20 [rnd0, psV r] σ (Is (.tup [rnd0, .int .i64 540]) σ) := by
 refine zL Tryz.func20 rfl (by simp) ?_
 refine zY (zZ ?_); refine xB ?_; intro _; refine xB ?_; intro _; refine xK ?_; intro _; refine zP ?_; refine zX (zY (zY (zZ ?_))); refine yA ?_; apply yE; rfl; rfl; rfl; (refine yJ ?_; exact right_none _); intro _ _; refine qY ?_; intro _ _; refine zX (yN ?_ ?_) <;> (intro h hp k; (try subst k); (try simp only [q_n] at hp); try first | omega | (cases hp; done));
 refine zY (zZ ?_); refine yA ?_; refine yR ?_; refine zP ?_; refine zX (zV ?_); simp only [yX]; rotate_left; refine zW (zY (zZ ?_)); refine exl_map rfl rfl rfl (by exact g_makeMap) ?_; intro _; rotate_left
 all_goals ((repeat (rename BV _ _ => k; first | cases k | clear k)); try exact zN)
 refine xX (σ3 := σ) ?_
 exact zJ .mk
theorem bk_view {M : Mem} {vs : List Value} : VRels M [.agg [.slv nilS]] vs → VRels M [.agg [sls []]] vs := fun h => by
 simp only [VRels, VRel, List.map_nil] at h ⊢
 obtain ⟨v, r, rfl, ⟨ws, rfl, w, q, h2, ⟨rfl, h3⟩, h4⟩, h5⟩ := h
 exact ⟨_, _, rfl, ⟨_, rfl, _, _, h2, ⟨none, 0, rfl, by simp, by omega, by simp, by simp⟩, h4⟩, h5⟩
theorem write_e (s : Sl) (σ : List Ent) : SCall Tryz.prog 26 [.agg [.slv nilS], slV s] σ (Is (.tup [.agg [sls (vQ [] s).1], .int .i64 (vQ [] s).2]) σ) :=
 scall_view (fun M vs h => by
  simp only [VRels] at h ⊢
  obtain ⟨v, r, rfl, h1, h2⟩ := h
  have := bk_view (M := M) (vs := [v]) (by simp only [VRels]; exact ⟨v, [], rfl, h1, rfl⟩)
  simp only [VRels, List.cons.injEq] at this
  obtain ⟨_, _, ⟨rfl, _⟩, h3, _⟩ := this
  exact ⟨_, _, rfl, h3, h2⟩) (write_c [] s σ)
theorem scall_or' {P : Program} {f : FuncId} {args : List AV} {σ : List Ent} {v : AV} (h : SCall P f args σ (fun r τ => r = v ∧ τ = σ)) : SCall P f args σ (Is v σ) :=
 uY h fun _ _ ⟨h1, h2⟩ => by subst h1 h2; exact .mk
theorem same_v (σ : List Ent) : SCall Tryz.prog 16 [.dl 4 ([(⟨7, 1, 1, []⟩ : Tn)].map tnC), .dl 4 [[.int .i64 7, .int .i64 1, .int .i64 1, .slv nilS]]] σ (Is (.bool true) σ) :=
 scall_view (fun M vs h => by
  simp only [VRels] at h ⊢
  obtain ⟨v, r, rfl, h1, u, q, rfl, h2, h3⟩ := h
  refine ⟨_, _, rfl, h1, _, _, rfl, ?_, h3⟩
  refine VRel.dl_view (l := [[.int .i64 7, .int .i64 1, .int .i64 1, .slv nilS]]) (l' := [(⟨7, 1, 1, []⟩ : Tn)].map tnC) rfl (fun x hx => by simp at hx; subst hx; rfl) (fun k x x' b i hx hx' hc => ?_) h2
  cases k with
  | zero =>
   simp at hx hx'; subst hx hx'
   exact hc.view fun vs hvs => (Cv.same (.same (.same (.here .nil))) : Cv nilS (.dl 1 []) [.int .i64 7, .int .i64 1, .int .i64 1, .slv nilS] [.int .i64 7, .int .i64 1, .int .i64 1, .dl 1 []]).rel (nil_rel M 1) hvs
  | succ k => simp at hx) (sameTurns_c [⟨7, 1, 1, []⟩] σ)
abbrev zS : Sl := ⟨0, 0, 0, 0, 0, 0, 0, 0⟩
theorem st_rd (k : Nat) (hk : k < 5) (σ : List Ent) : SCall Tryz.prog 20 [.agg (stC (rdB.getD k []) (qPs (rdQ.getD k [])) []), psV (rdS.getD k ⟨0, 0, 0, 0, sA⟩)] σ (Is (.tup [.agg (stC (rdB.getD (k + 1) []) (qPs (rdQ.getD (k + 1) [])) []), .int .i64 0]) σ) := by
 have := do_c0 _ _ (rdS.getD k ⟨0, 0, 0, 0, sA⟩) (ex10 k (by omega)) σ
 rwa [ex9 k hk] at this
theorem sane_c (σ : List Ent) : SCall Tryz.prog 9 [] σ (Is (.bool true) σ) := by
 refine zL Tryz.func9 rfl (by simp) ?_
 have g1 := given_c 0 7 1 4
 have g2 := given_c 1 7 2 3
 have w1 := write_e ⟨0, 0, 1, 7, 1, 4, 5, 0⟩
 have w2 := write_e ⟨1, 0, 1, 7, 2, 3, 5, 0⟩
 have w3 := write_e ⟨0, 0, 3, 0, 0, 0, 0, 0⟩
 have m1 := merge_c bkA bkB
 have m2 := merge_c bkL bkL
 have t1 := fun σ => scall_or' (turns_c bkL σ)
 have w4 := write_c bkL ⟨1, 0, 3, 0, 0, 0, 0, 1⟩
 have t2 := fun σ => scall_or' (turns_c bkV σ)
 have k1 := check_c bkL
 have s1 := same_c bkL
 rw [ex1.1] at w1
 rw [ex1.2.1] at w2
 rw [ex1.2.2] at w3
 rw [ex4] at m1
 rw [ex5] at m2
 rw [ex6] at t1
 rw [ex7] at w4
 rw [ex8] at t2
 rw [ex3.2.2] at k1
 dsimp only at w1 w2 w3 w4 m1 m2 t1 t2
 obtain ⟨A, hA⟩ : ∃ A, sls bkA = .dl 8 A := ⟨_, rfl⟩
 obtain ⟨B, hB⟩ : ∃ B, sls bkB = .dl 8 B := ⟨_, rfl⟩
 obtain ⟨L, hL, hLl⟩ : ∃ L, sls bkL = .dl 8 L ∧ L.length = 2 := ⟨_, rfl, rfl⟩
 obtain ⟨V, hV⟩ : ∃ V, sls bkV = .dl 8 V := ⟨_, rfl⟩
 rw [hA] at w1 m1
 rw [hB] at w2 m1
 rw [hL] at m1 m2 t1 w4 k1 s1
 rw [hV] at w4 t2
 clear hA hB hL hV
 refine zY (zZ ?_); refine zP ?_; refine zX (zY (zZ ?_)); refine uA ?_; apply zU; rfl; rfl; rfl; (refine yJ ?_; exact g1 _); apply zU; rfl; rfl; rfl; (refine yJ ?_; exact w1 _); refine zR ?_; (iterate 2 refine tG ?_); refine xK ?_; intro _; refine yR ?_; refine zP ?_; refine zX (zY (zZ ?_)); refine uA ?_; apply zU; rfl; rfl; rfl; (refine yJ ?_; exact g2 _); apply zU; rfl; rfl; rfl; (refine yJ ?_; exact w2 _); refine zR ?_; (iterate 2 refine tG ?_); refine xK ?_; intro _; refine yR ?_; refine zP ?_; refine zX (zY (zZ ?_)); (iterate 2 refine uA ?_); apply zU; rfl; rfl; rfl; (refine yJ ?_; exact w3 _); refine zR ?_; (iterate 2 refine tG ?_); refine xK ?_; intro _; refine yR ?_; refine zP ?_; refine zX (zY (zZ ?_)); (iterate 2 refine yA ?_); simp only [zA, zF, zE, zH, yK, ↓reduceIte, Nat.reduceEqDiff]; rotate_left
 all_goals ((repeat (rename BV _ _ => k; first | cases k | clear k)); try exact zN)
 clear g1 g2 w1 w2 w3
 refine exl_weaken (s' := ⟨[(39, .agg [.dl 8 A]), (40, .agg [.dl 8 B]), (2, .int .i64 0), (4, .int .i64 0), (6, .int .i64 540)], σ, [], Tryz.f9.ntmps⟩) (St.le_of (by repeat (first | exact trivial | refine ⟨rfl, ?_⟩)) (by repeat (first | exact q_r | apply q_q | apply q_k | exact q_a))) ?_
 have v1 := sameTurns_c [⟨7, 2, 2, [0]⟩]
 have v2 := same_v
 apply zU; rfl; rfl; rfl; (refine yJ ?_; exact m1 _); refine zR ?_; (iterate 2 refine tG ?_); refine xK ?_; intro _; refine yR ?_; refine zP ?_; refine zX (zY (zZ ?_)); (iterate 2 refine yA ?_); apply zU; rfl; rfl; rfl; (refine yJ ?_; exact m2 _); refine zR ?_; (iterate 2 refine tG ?_); refine xK ?_; intro _; refine yR ?_; refine zP ?_; refine zX (zY (zZ ?_)); refine yA ?_; apply zU; rfl; rfl; rfl; (refine yJ ?_; exact t1 _); refine zR ?_; (iterate 2 refine tG ?_); (iterate 2 refine zP ?_); refine zX (zY (zZ ?_)); refine yA ?_; refine uA ?_; apply zU; rfl; rfl; rfl; (refine yJ ?_; exact w4 _); refine zR ?_; (iterate 2 refine tG ?_); refine xK ?_; intro _; refine yR ?_; refine zP ?_; refine zX (zY (zZ ?_)); refine yA ?_; apply zU; rfl; rfl; rfl; (refine yJ ?_; exact t2 _); refine zR ?_; (iterate 2 refine tG ?_); (iterate 2 refine zP ?_); refine zX (zY (zY (zZ ?_))); refine zR ?_; refine xY ?_; intro _ _; refine zR ?_; refine xT ?_ ?_ <;> (intro h hp k; (try subst k); (try simp only [q_n] at hp); try first | omega | (cases hp; done));
 refine vN ?_; refine wT ?_; intro _ _; refine yB ?_; refine zR ?_; refine xT ?_ ?_ <;> (intro h hp k; (try subst k); (try simp only [q_n] at hp); try first | omega | (cases hp; done));
 refine vN ?_; refine wT ?_; intro _ _; refine yB ?_; refine zR ?_; refine xT ?_ ?_ <;> (intro h hp k; (try subst k); (try simp only [q_n] at hp); try first | omega | (cases hp; done));
 refine vN ?_; refine wT ?_; intro _ _; refine yB ?_; refine zR ?_; refine xT ?_ ?_ <;> (intro h hp k; (try subst k); (try simp only [q_n] at hp); try first | omega | (cases hp; done));
 refine vN ?_; refine wT ?_; intro _ _; refine yB ?_; refine zR ?_; refine xT ?_ ?_ <;> (intro h hp k; (try subst k); (try simp only [q_n] at hp); try first | omega | (cases hp; done));
 refine vN ?_; refine wT ?_; intro _ _; refine yB ?_; refine zR ?_; refine xT ?_ ?_ <;> (intro h hp k; (try subst k); (try simp only [q_n] at hp); try first | omega | (cases hp; done));
 refine vN ?_; refine wT ?_; intro _ _; refine yB ?_; refine zR ?_; refine xT ?_ ?_ <;> (intro h hp k; (try subst k); (try simp only [q_n] at hp); try first | omega | (cases hp; done));
 refine vN ?_; refine wT ?_; intro _ _; refine yB ?_; refine zR ?_; refine xT ?_ ?_ <;> (intro h hp k; (try subst k); (try simp only [q_n] at hp); try first | omega | (cases hp; done));
 refine yLa ?_; apply yZ; rfl; (rfl); rfl; rfl; (refine yJ ?_; exact k1 _); refine wT ?_; intro _ _; refine yB ?_; refine zR ?_; refine xT ?_ ?_ <;> (intro h hp k; (try subst k); (try simp only [q_n] at hp); try first | omega | (cases hp; done));
 (iterate 2 refine yLa ?_); apply xR; rfl; (rfl); rfl; rfl; (refine yJ ?_; exact s1 _); intro _ _; refine yNo ?_; intro _ _; refine yB ?_; refine zR ?_; refine xT ?_ ?_ <;> (intro h hp k; (try subst k); (try simp only [q_n] at hp); try first | omega | (cases hp; done));
 (iterate 4 refine yC ?_); refine xF ?_; refine zX (zG rfl (by rfl) ?_); refine zY (zZ ?_); refine zP ?_; refine zX (zV ?_); simp only [yX]; rotate_left; refine wL ?_; apply yZ; rfl; (rfl); rfl; rfl; (apply xH <;> rfl); refine wT ?_; intro _ _; refine yB ?_; refine zX (yN ?_ ?_) <;> (intro h hp k; (try subst k); (try simp only [q_n] at hp); try first | omega | (cases hp; done));
 refine zW (zY (zY (zZ ?_))); refine zR ?_; apply zU; rfl; rfl; rfl; (exact xE (yV rfl rfl (by decide) rfl rfl (by (simp only [xC, wU]; rfl)))); refine uA ?_; apply zU; rfl; rfl; rfl; (exact xE (yV rfl rfl (by decide) rfl rfl (by (simp only [xC, wU]; rfl)))); apply yE; rfl; rfl; rfl; (refine yJ ?_; exact v1 _); intro _ _; refine qY ?_; intro _ _; refine zR ?_; refine xT ?_ ?_ <;> (intro h hp k; (try subst k); (try simp only [q_n] at hp); try first | omega | (cases hp; done));
 (iterate 5 refine yC ?_); refine xF ?_; refine zX (zG rfl (by rfl) ?_); refine zY (zZ ?_); refine zP ?_; refine zX (zV ?_); simp only [yX]; rotate_left; refine vN ?_; apply yZ; rfl; (rfl); rfl; rfl; (apply tK <;> rfl); apply yZ; rfl; (rfl); rfl; rfl; (exact xE (yV rfl rfl (by decide) rfl rfl (by (simp only [xC, wU]; rfl)))); apply xR; rfl; (rfl); rfl; rfl; (refine yJ ?_; exact v2 _); intro _ _; refine yNo ?_; intro _ _; refine yB ?_; refine zX (yN ?_ ?_) <;> (intro h hp k; (try subst k); (try simp only [q_n] at hp); try first | omega | (cases hp; done));
 refine zY (zZ ?_); refine zP ?_; refine zX (zV ?_); simp only [yX]; rotate_left; refine zW (zY (zZ ?_)); simp only [zA, zF, zE, zH, yK, ↓reduceIte, Nat.reduceEqDiff]; rotate_left
 all_goals ((repeat (rename BV _ _ => k; first | cases k | clear k)); try exact zN)
 clear m1 m2 t1 w4 t2 k1 s1 v1 v2
 refine exl_weaken (s' := ⟨[], σ, [], Tryz.f9.ntmps⟩) (St.le_of (by repeat (first | exact trivial | refine ⟨rfl, ?_⟩)) (by repeat (first | exact q_r | apply q_q | apply q_k | exact q_a))) ?_
 have n1 := new_ok 2 (by decide)
 have n2 := new_bad 9 (by decide)
 have d1 := do_empty ⟨0, 0, 0, 0, zS⟩
 have d2 := do_c0 _ _ ⟨0, 0, 0, 0, zS⟩ (ex10 0 (by decide))
 rw [ex11] at d2
 apply zU; rfl; rfl; rfl; (refine yJ ?_; exact n1 _); refine zR ?_; (iterate 2 refine tG ?_); refine xK ?_; intro _; refine yR ?_; refine zP ?_; refine zX (zY (zZ ?_)); apply zU; rfl; rfl; rfl; (refine yJ ?_; exact n2 _); refine zR ?_; (iterate 2 refine tG ?_); refine zP ?_; refine zX (zY (zZ ?_)); (iterate 2 refine uA ?_); apply zU; rfl; rfl; rfl; (refine yJ ?_; exact d1 _); refine zR ?_; (iterate 2 refine tG ?_); refine zP ?_; refine zX (zY (zZ ?_)); refine yA ?_; refine uA ?_; apply zU; rfl; rfl; rfl; (refine yJ ?_; exact d2 _); refine zR ?_; (iterate 2 refine tG ?_); refine zP ?_; refine zX (zY (zY (zZ ?_))); refine zR ?_; refine xY ?_; intro _ _; refine zR ?_; refine xT ?_ ?_ <;> (intro h hp k; (try subst k); (try simp only [q_n] at hp); try first | omega | (cases hp; done));
 refine vN ?_; refine wT ?_; intro _ _; refine yB ?_; refine zR ?_; refine xT ?_ ?_ <;> (intro h hp k; (try subst k); (try simp only [q_n] at hp); try first | omega | (cases hp; done));
 refine vN ?_; refine wT ?_; intro _ _; refine yB ?_; refine zR ?_; refine xT ?_ ?_ <;> (intro h hp k; (try subst k); (try simp only [q_n] at hp); try first | omega | (cases hp; done));
 refine vN ?_; refine wT ?_; intro _ _; refine yB ?_; refine zX (yN ?_ ?_) <;> (intro h hp k; (try subst k); (try simp only [q_n] at hp); try first | omega | (cases hp; done));
 refine zW (zY (zY (zZ ?_))); apply zU; rfl; rfl; rfl; (refine yJ ?_; exact given_c _ _ _ _ _); refine uA ?_; apply zU; rfl; rfl; rfl; (refine yJ ?_; exact given_c _ _ _ _ _); (iterate 4 refine uA ?_); apply zU; rfl; rfl; rfl; (exact xE (yV rfl rfl (by decide) rfl rfl (by (simp only [xC, wU]; rfl)))); apply zU; rfl; rfl; rfl; (apply xH <;> rfl); refine zR ?_; refine zX (zT ?_); simp only [zA, zF, zE, zH, yK, ↓reduceIte, Nat.reduceEqDiff]; rotate_left
 all_goals ((repeat (rename BV _ _ => k; first | cases k | clear k)); try exact zN)
 clear n1 n2 d1 d2
 rename Nat => b; revert b
 intro b
 refine yD (fun (k : Nat) => (⟨[(167, .dl 12 (rdS.map psC)), (168, .int .i64 5), (169, .int .i64 k), (17, .ptr b 0)], .cells b (stC (rdB.getD k []) (qPs (rdQ.getD k [])) []) 41 :: σ, [], Tryz.f9.ntmps⟩ : St)) (fun k => k ≤ 5) (fun k => 5 - k) 0 (by decide) (St.le_of (by repeat (first | exact trivial | refine ⟨rfl, ?_⟩)) (by repeat (first | exact q_r | apply q_q | apply q_k))) ?_
 intro k hI
 by_cases hk : k < 5
 ·have hd := st_rd k hk
  have hg : (rdS.map psC)[k]? = some (psC (rdS.getD k ⟨0, 0, 0, 0, sA⟩)) := by
   obtain ⟨r, hr⟩ : ∃ r, rdS[k]? = some r := yW hk
   rw [List.getElem?_map, List.getD_eq_getElem?_getD, hr]; rfl
  have hl5 : 5 = (rdS.map psC).length := rfl
  generalize rdS.map psC = R at hg hl5 ⊢
  generalize rdS.getD k ⟨0, 0, 0, 0, sA⟩ = r at hd hg
  generalize rdB.getD k [] = B1 at hd ⊢
  generalize rdQ.getD k [] = Q1 at hd ⊢
  generalize hB2 : rdB.getD (k + 1) [] = B2 at hd
  generalize hQ2 : rdQ.getD (k + 1) [] = Q2 at hd
  refine zY (zZ ?_); refine xY ?_; intro _ _; refine zX (zY (yN ?_ ?_)) <;> (intro h hp k; (try subst k); (try simp only [q_n] at hp); try first | omega | (cases hp; done));
  refine zW (zY (zT ?_)); refine zY (zZ ?_); refine vG ?_; refine yA ?_; refine xK ?_; intro _; refine yR ?_; refine zX (zY (zZ ?_)); (iterate 2 refine yA ?_); apply zU; rfl; rfl; rfl; (refine yJ ?_; exact hd _); refine zR ?_; (iterate 2 refine tG ?_); refine yR ?_; refine zP ?_; refine zX (zY (zZ ?_)); refine zR ?_; refine zD ?_ ?_ <;> (intro h hp; (try simp only [q_n] at hp); try first | omega | (cases hp; done));
  refine zW (zZ (vX ?_)); refine zR ?_; refine zQ ?_; simp only [zA, zF, zE, zH, yK, ↓reduceIte, Nat.reduceEqDiff]; rotate_left
  all_goals ((repeat (rename BV _ _ => k; first | cases k | clear k)); try exact zN)
  refine ⟨k + 1, hk, by omega, ?_⟩
  rw [hB2, hQ2]
  exact wW
 ·obtain rfl : k = 5 := by omega
  rw [show rdB.getD 5 [] = [[sA, sB], [sA]] from rfl, show rdQ.getD 5 [] = [] from rfl]
  clear hI hk
  have h0 : (([[sA, sB], [sA]] : List (List Sl)).map bkC)[0]? = some (bkC [sA, sB]) := rfl
  have h1 : (([[sA, sB], [sA]] : List (List Sl)).map bkC)[1]? = some (bkC [sA]) := rfl
  refine zY (zZ ?_); refine xY ?_; intro _ _; refine zX (zY (yN ?_ ?_)) <;> (intro h hp k; (try subst k); (try simp only [q_n] at hp); try first | omega | (cases hp; done));
  refine yQ ?_; refine zY (zZ ?_); refine yG ?_; refine wH ?_; refine xY ?_; intro _ _; refine zR ?_; refine xT ?_ ?_ <;> (intro h hp k; (try subst k); (try simp only [q_n] at hp); try first | omega | (cases hp; done));
  refine wL ?_; refine yIx ?_; refine wL ?_; apply yZ; rfl; (rfl); rfl; rfl; (apply xH; rfl; rfl; (exact (List.length_map _).symm)); refine wT ?_; intro _ _; refine xF ?_; refine zR ?_; refine xT ?_ ?_ <;> (intro h hp k; (try subst k); (try simp only [q_n] at hp); try first | omega | (cases hp; done));
  refine wL ?_; refine yIx ?_; refine wL ?_; apply yZ; rfl; (rfl); rfl; rfl; (apply xH; rfl; rfl; (exact (List.length_map _).symm)); refine wT ?_; intro _ _; refine xF ?_; refine zR ?_; refine xT ?_ ?_ <;> (intro h hp k; (try subst k); (try simp only [q_n] at hp); try first | omega | (cases hp; done));
  refine yFa ?_; refine wL ?_; apply yZ; rfl; (rfl); rfl; rfl; (apply xH; rfl; rfl; (exact (List.length_map _).symm)); refine wT ?_; intro _ _; refine xF ?_; refine zP ?_; refine zX (zV ?_); simp only [yX]; rotate_left; (iterate 5 refine yC ?_); refine yB ?_; refine zP ?_; refine zX (zV ?_); simp only [yX]; rotate_left; (iterate 7 refine yC ?_); refine yB ?_; refine zR ?_; (iterate 5 refine yC ?_); refine yB ?_; refine zP ?_; refine zX (zV ?_); simp only [yX]; rotate_left; (iterate 7 refine yC ?_); refine yB ?_; refine zR ?_; (iterate 7 refine yC ?_); refine yB ?_; refine zR ?_; (iterate 5 refine yC ?_); refine yB ?_; refine zP ?_; refine zX (zV ?_); simp only [yX]; rotate_left
  all_goals ((repeat (rename BV _ _ => k; first | cases k | clear k)); try exact zN)
  refine xW (tV ?_)
  rfl
end Go.Proofs.YtkhoengjdfmfaaaGreat
