/- Parts of the proof that belong together: Ub Uc Ud Sbt Sco Ssw. -/
import Derived.Test.YtkhoengjdfmfaaaGreatGF04
import Derived.Test.YtkhoengjdfmfaaaGreatGF05
set_option maxRecDepth 10000
set_option maxHeartbeats 16000000
set_option linter.unusedSimpArgs false
set_option linter.unusedVariables false
namespace Go.Proofs.YtkhoengjdfmfaaaGreat
theorem range_all (k : Nat) (f : Nat → Bool) : (List.range (k + 1)).all f = ((List.range k).all f && f k) := by
 rw [List.range_succ, List.all_append]; simp
theorem runs_ne : ∀ {n : Nat} {l : List Sl}, l.length ≤ n → ∀ r ∈ vL l, r ≠ []
 | _, [], _, r, hr => by rw [vL] at hr; simp at hr
 | 0, x :: l, h, _, _ => by simp at h
 | n + 1, x :: l, h, r, hr => by
  have hlen := dropW_len (sameT x) l
  rw [runsL_cons] at hr
  rcases List.mem_cons.1 hr with rfl | hr
  ·simp
  ·exact runs_ne (n := n) (by simp only [List.length_cons] at h; omega) r hr
def elAt (r : List Sl) (i : Nat) : Bool := match r[i]? with
 | some x => elB r i x
 | none => true
theorem elAt_some {r : List Sl} {i : Nat} {c : Sl} (h : r[i]? = some c) : elAt r i = elB r i c := by unfold elAt; rw [h]
theorem allE_at (r : List Sl) : allE r = (List.range r.length).all (elAt r) := rfl
theorem all_false {n i : Nat} {f : Nat → Bool} (hi : i < n) (h : f i = false) : (List.range n).all f = false := by
 rw [List.all_eq_false]; exact ⟨i, List.mem_range.2 hi, by rw [h]; simp⟩
theorem check_c (l : List Sl) (σ : List Ent) : SCall Tryz.prog 23 [.agg [sls l]] σ (Is (.int .i64 (xQ l)) σ) := by
 refine zL Tryz.func23 rfl (by simp) ?_
 by_cases h512 : (512 : Int) < l.length
 ·rw [show xQ l = 2 by unfold xQ; rw [if_pos h512]]
  refine zY (zZ ?_); refine xB ?_; intro _; refine xK ?_; intro _; refine zX (zY (zY (zZ ?_))); refine yG ?_; refine wH ?_; refine zD ?_ ?_ <;> (intro h hp; (try simp only [q_n] at hp); try first | omega | (cases hp; done));
  refine zY (zZ ?_); refine yR ?_; refine zX (zV ?_); simp only [yX]; rotate_left
  all_goals ((repeat (rename BV _ _ => k; first | cases k | clear k)); try exact zN)
  refine xW ?_
  rfl
 ·rw [show xQ l = if runsB (-1) (vL l) then 0 else 540 by unfold xQ; rw [if_neg h512, runs_book]]
  obtain ⟨B, hB⟩ : ∃ B, runsB (-1) (vL l) = B := ⟨_, rfl⟩
  rw [hB]
  refine zY (zZ ?_); refine xB ?_; intro _; refine xK ?_; intro _; refine zX (zY (zY (zZ ?_))); refine yG ?_; refine wH ?_; refine zD ?_ ?_ <;> (intro h hp; (try simp only [q_n] at hp); try first | omega | (cases hp; done));
  refine zW (zY (zZ ?_)); refine xK ?_; intro _; refine yR ?_; refine zX (zY (zY (zZ ?_))); refine yG ?_; refine xL rfl rfl rfl (xJ rfl rfl (zB (by kernel_rfl)) (runs_c _ _)) ?_; rintro _ _ ⟨bs, rfl, rfl⟩; refine zX (zT ?_); rotate_left
  all_goals ((repeat (rename BV _ _ => k; first | cases k | clear k)); try exact zN)
  rename Nat => bs; revert bs; rename Nat => b3; revert b3; rename Nat => b2; revert b2; rename Nat => b1; revert b1
  intro b1 b2 b3 bs
  refine qD (s' := ⟨[(2, .ptr b2 0), (3, .ptr b3 0), (13, .fn (.func 69) [] [.ptr bs 0])], .cells bs [sls l] 22 :: .cells b3 [.int .i64 (-1)] 3 :: .cells b2 [.int .i64 0] 27 :: σ, [], Tryz.f23.ntmps⟩) (St.le_of (by repeat (first | exact trivial | refine ⟨rfl, ?_⟩)) (by repeat (first | exact q_r | apply q_q | apply q_k))) ?_
  refine ex_range rfl (zB (by kernel_rfl)) ?_
  intro D l0 fn
  show SCall _ _ _ (Ent.loop _ _ _ _ ?ee ?nn ?ps ?asg ?body _ :: _) _
  obtain ⟨L, hL⟩ : ∃ L, L = Ent.loop l0 .ready none fn ?ee ?nn ?ps ?asg ?body D := ⟨_, rfl⟩
  obtain ⟨L2, hL2⟩ : ∃ L2, L2 = Ent.loop l0 .done (some .ret) fn ?ee ?nn ?ps ?asg ?body D := ⟨_, rfl⟩
  obtain ⟨L3, hL3⟩ : ∃ L3, L3 = Ent.loop l0 .busy none fn ?ee ?nn ?ps ?asg ?body D := ⟨_, rfl⟩
  rw [← hL]
  refine scall_permu (List.perm_append_comm_assoc [L, .obj D (.deferred (some []))] [.cells bs [sls l] 22] _) ?_
  have hrn := runs_ne (Nat.le_refl l.length)
  refine SCall.mono (runs1_c l bs l0 _
   (fun k τ => ∃ last : Int, τ = L :: .obj D (.deferred (some [])) :: .cells b3 [.int .i64 last] 3 :: .cells b2 [.int .i64 0] 27 :: σ ∧ (-1 ≤ last ∧ last ≤ 7) ∧ runsB last ((vL l).drop k) = B)
   (fun τ => ∃ last : Int, τ = L2 :: .obj D (.deferred (some [])) :: .cells b3 [.int .i64 last] 3 :: .cells b2 [.int .i64 540] 27 :: σ ∧ B = false) ?_ ⟨-1, rfl, by omega, hB⟩) ?_
  ·rintro k r τ hkr ⟨last, rfl, hlast, hI⟩
   rw [sl_drop hkr, runsB] at hI
   have hr0 := hrn r (List.mem_of_getElem? hkr)
   obtain ⟨x, hx⟩ : ∃ x, r[0]? = some x := by
    cases r with
    | nil => exact absurd rfl hr0
    | cons x r => exact ⟨x, rfl⟩
   have hgx := uH hx
   have htr : tabR r = x.tab := by
    cases r with
    | nil => exact absurd rfl hr0
    | cons y r => simp at hx; subst hx; rfl
   have hrb : runB last r = (inB x.tab (last + 1) 7 && allE r) := by
    cases r with
    | nil => exact absurd rfl hr0
    | cons y r => simp at hx; subst hx; rfl
   rw [htr, hrb] at hI
   generalize (vL l).drop (k + 1) = R at hI ⊢
   clear hrn hB hkr hr0 htr hrb h512
   rw [hL]
   refine SRound.sub ?_
   refine sround (by repeat first | exact q_h | apply q_t | assumption) rfl (by decide) ?_
   have c1 := in_c x.tab (last + 1) 7
   cases hin : inB x.tab (last + 1) 7 with
   | false =>
    rw [hin] at c1 hI
    rw [Bool.false_and, Bool.false_and] at hI
    refine zZ (zP ?_); refine zQ ?_; simp only [zA]; refine ⟨_, (by (exact Upd.here)), ?_⟩; show EX _ _ _ _ _; refine zT (zY ?_); refine zY (xV rfl rfl (by kernel_rfl) rfl ?_); refine yU rfl (by kernel_rfl) rfl ?_; refine xU ?_; refine wIx ?_; refine vR ?_; (iterate 2 refine vW ?_); refine wAd ?_; apply vP; rfl; rfl; rfl; (intro σ' hl; (refine yJ ?_; exact c1 _)); intro _ _; apply vP; rfl; rfl; rfl; (intro σ' hl; (apply tD <;> rfl)); intro _ _; refine zC ?_; show EX _ _ _ _ _; refine yN ?_ ?_ <;> (intro h hp k; (try subst k); (try simp only [q_n] at hp); try first | omega | (cases hp; done));
    refine zY (zZ ?_); refine yR ?_; refine zX (zV ?_); simp only [yX]; show rndA _ _ _ _ _ _ _ _ _ _ _; refine ⟨_, _, rfl, (by (exact Upd.here)), ?_⟩; simp only [zA, zF, zE, zH, yK, ↓reduceIte, Nat.reduceEqDiff]; rotate_left; refine zW (zY (zZ ?_)); refine zR ?_; refine vG ?_; refine yG ?_; refine yR ?_; refine zX (zY (zZ ?_)); refine zR ?_; refine wH ?_; refine zR ?_; refine zX (zT ?_); rotate_left
    all_goals ((repeat (rename BV _ _ => k; first | cases k | clear k)); try exact zN)
    subst hL hL2
    exact ⟨_, List.Sublist.refl _, .inr ⟨rfl, last, rfl, hI.symm⟩⟩
   | true =>
    rw [hin] at c1 hI
    rw [Bool.true_and] at hI
    have hxt := inB_iff.1 hin
    clear hin
    refine zZ (zP ?_); refine zQ ?_; simp only [zA]; refine ⟨_, (by (exact Upd.here)), ?_⟩; show EX _ _ _ _ _; refine zT (zY ?_); refine zY (xV rfl rfl (by kernel_rfl) rfl ?_); refine yU rfl (by kernel_rfl) rfl ?_; refine xU ?_; refine wIx ?_; refine vR ?_; (iterate 2 refine vW ?_); refine wAd ?_; apply vP; rfl; rfl; rfl; (intro σ' hl; (refine yJ ?_; exact c1 _)); intro _ _; apply vP; rfl; rfl; rfl; (intro σ' hl; (apply tD <;> rfl)); intro _ _; refine zC ?_; show EX _ _ _ _ _; refine yN ?_ ?_ <;> (intro h hp k; (try subst k); (try simp only [q_n] at hp); try first | omega | (cases hp; done));
    refine zY (zZ ?_); refine yR ?_; refine zX (zV ?_); simp only [yX]; show rndA _ _ _ _ _ _ _ _ _ _ _; refine ⟨_, _, rfl, (by (exact Upd.here)), ?_⟩; simp only [zA, zF, zE, zH, yK, ↓reduceIte, Nat.reduceEqDiff]; rotate_left; refine zW (zY (zZ ?_)); refine zR ?_; refine vG ?_; refine yG ?_; refine yR ?_; refine zX (zY (zZ ?_)); refine zR ?_; refine wH ?_; refine zR ?_; refine zX (zT ?_); rotate_left
    all_goals ((repeat (rename BV _ _ => k; first | cases k | clear k)); try exact zN)
    clear c1
    rw [allE_at] at hI
    have hJ := hI
    clear hI
    rw [← hL3]
    refine yD (fun (i : Nat) => (⟨[(2, .ptr b2 0), (3, .ptr b3 0), (4, sls r), (27, sls r), (28, .int .i64 r.length), (29, .int .i64 i)], L3 :: .obj D (.deferred (some [])) :: .cells b3 [.int .i64 x.tab] 3 :: .cells b2 [.int .i64 0] 27 :: σ, [], Tryz.f23.ntmps⟩ : St)) (fun i => i ≤ r.length ∧ (List.range i).all (elAt r) = true) (fun i => r.length - i) 0 (⟨Nat.zero_le _, rfl⟩) (St.le_of (by repeat (first | exact trivial | refine ⟨rfl, ?_⟩)) (by repeat (first | exact q_r | apply q_q | apply q_k))) ?_
    intro i hI
    obtain ⟨hI1, hI2⟩ := hI
    rw [hL3]
    refine pS (t := 27) rfl ((List.length_map _).symm) (fun hrl => ?_)
    by_cases hi : i < r.length
    ·obtain ⟨c, hc⟩ : ∃ c, r[i]? = some c := ⟨_, List.getElem?_eq_getElem hi⟩
     have hgc := uH hc
     have hst := range_all i (elAt r)
     rw [hI2, Bool.true_and, elAt_some hc] at hst
     have hbad : elB r i c = false → B = false := fun h => by
      rw [← hJ, all_false hi (by rw [elAt_some hc, h]), Bool.false_and]
     have cv := valid_c c
     clear hJ hI2
     unfold elB at hst hbad
     cases hv : uR c with
     | false =>
      rw [hv] at cv hst hbad
      rw [Bool.and_false, Bool.false_and] at hbad
      refine zY (zZ ?_); refine xY ?_; intro _ _; refine zX (zY (yN ?_ ?_)) <;> (intro h hp k; (try subst k); (try simp only [q_n] at hp); try first | omega | (cases hp; done));
      refine zW (zY (zT ?_)); refine zY (zZ ?_); refine zR ?_; refine vG ?_; refine yA ?_; refine xK ?_; intro _; refine zP ?_; refine yR ?_; refine zX (zY (zZ ?_)); refine yG ?_; refine zR ?_; refine xY ?_; intro _ _; refine zR ?_; refine xT ?_ ?_ <;> (intro h hp k; (try subst k); (try simp only [q_n] at hp); try first | omega | (cases hp; done));
      (iterate 3 refine yC ?_); refine xF ?_; refine zR ?_; (iterate 4 refine yC ?_); (iterate 8 refine xSr ?_); refine yC ?_; refine xF ?_; refine zX (zG rfl (by rfl) ?_); refine zY (zZ ?_); refine yR ?_; refine zX (zV ?_); simp only [yX]; show rndA _ _ _ _ _ _ _ _ _ _ _; refine ⟨_, _, rfl, (by (exact Upd.there (Upd.here))), ?_⟩; simp only [zA, zF, zE, zH, yK, ↓reduceIte, Nat.reduceEqDiff]; rotate_left; refine yLa ?_; apply xR; rfl; (rfl); rfl; rfl; (refine yJ ?_; exact cv _); intro _ _; refine yNo ?_; intro _ _; refine yB ?_; refine zR ?_; refine xT ?_ ?_ <;> (intro h hp k; (try subst k); (try simp only [q_n] at hp); try first | omega | (cases hp; done));
      (iterate 4 refine yC ?_); (iterate 8 refine xSr ?_); refine yC ?_; refine xF ?_; refine zX (zG rfl (by rfl) ?_); refine zY (zZ ?_); refine yR ?_; refine zX (zV ?_); simp only [yX]; show rndA _ _ _ _ _ _ _ _ _ _ _; refine ⟨_, _, rfl, (by (exact Upd.there (Upd.here))), ?_⟩; simp only [zA, zF, zE, zH, yK, ↓reduceIte, Nat.reduceEqDiff]; rotate_left; refine wL ?_; refine wT ?_; intro _ _; refine vN ?_; refine xT ?_ ?_ <;> (intro h hp k; (try subst k); (try simp only [q_n] at hp); try first | omega | (cases hp; done));
      refine vN ?_; refine wL ?_; apply yZ; rfl; (rfl); rfl; rfl; (apply wG <;> rfl); rotate_left; (iterate 8 refine yC ?_); refine yPf ?_; refine yB ?_; refine zX (yH rfl (by rfl) ?_); refine zW (zZ (vX ?_)); refine zR ?_; refine zQ ?_; simp only [zA, zF, zE, zH, yK, ↓reduceIte, Nat.reduceEqDiff]; rotate_left
      all_goals ((repeat (rename BV _ _ => k; first | cases k | clear k)); try exact zN)
      ·rw [hbad rfl]
       subst hL hL2 hL3
       exact ⟨_, (by repeat (first | exact q_r | apply q_q | apply q_k | exact q_a)), .inr ⟨rfl, _, rfl, rfl⟩⟩
      ·rw [hbad rfl]
       subst hL hL2 hL3
       exact ⟨_, (by repeat (first | exact q_r | apply q_q | apply q_k | exact q_a)), .inr ⟨rfl, _, rfl, rfl⟩⟩
     | true =>
      rw [hv] at cv hst hbad
      by_cases hk : c.kind = 3
      ·have ho := tT hv hk
       by_cases hs : c.seq = i
       ·obtain ⟨y, hy⟩ : ∃ y, r[(c.off - 1).toNat]? = some y := yW (by omega)
        rw [hy] at hst hbad
        obtain ⟨j, hj⟩ : ∃ j, (c.off - 1).toNat = j := ⟨_, rfl⟩
        rw [hj] at hy
        have hjz : c.off - 1 = (j : Int) := by omega
        have hgy := uH hy
        dsimp only at hst hbad
        refine zY (zZ ?_); refine xY ?_; intro _ _; refine zX (zY (yN ?_ ?_)) <;> (intro h hp k; (try subst k); (try simp only [q_n] at hp); try first | omega | (cases hp; done));
        refine zW (zY (zT ?_)); refine zY (zZ ?_); refine zR ?_; refine vG ?_; refine yA ?_; refine xK ?_; intro _; refine zP ?_; refine yR ?_; refine zX (zY (zZ ?_)); refine yG ?_; refine zR ?_; refine xY ?_; intro _ _; refine zR ?_; refine xT ?_ ?_ <;> (intro h hp k; (try subst k); (try simp only [q_n] at hp); try first | omega | (cases hp; done));
        refine yLa ?_; apply xR; rfl; (rfl); rfl; rfl; (refine yJ ?_; exact cv _); intro _ _; refine yNo ?_; intro _ _; refine yB ?_; refine zR ?_; refine xT ?_ ?_ <;> (intro h hp k; (try subst k); (try simp only [q_n] at hp); try first | omega | (cases hp; done));
        (iterate 4 refine yC ?_); (iterate 8 refine xSr ?_); refine yC ?_; refine xF ?_; refine zX (zG rfl (by rfl) ?_); refine zY (zZ ?_); refine yR ?_; refine zX (zV ?_); simp only [yX]; show rndA _ _ _ _ _ _ _ _ _ _ _; refine ⟨_, _, rfl, (by (exact Upd.there (Upd.here))), ?_⟩; simp only [zA, zF, zE, zH, yK, ↓reduceIte, Nat.reduceEqDiff]; rotate_left; refine wL ?_; refine wT ?_; intro _ _; refine vN ?_; refine xT ?_ ?_ <;> (intro h hp k; (try subst k); (try simp only [q_n] at hp); try first | omega | (cases hp; done));
        refine vN ?_; refine wL ?_; refine ySu ?_; refine yIx ?_; refine wL ?_; refine wT ?_; intro _ _; refine yPt ?_; refine yB ?_; refine zX (yN ?_ ?_) <;> (intro h hp k; (try subst k); (try simp only [q_n] at hp); try first | omega | (cases hp; done));
        refine zY (zZ ?_); refine yR ?_; refine zX (zV ?_); simp only [yX]; show rndA _ _ _ _ _ _ _ _ _ _ _; refine ⟨_, _, rfl, (by (exact Upd.there (Upd.here))), ?_⟩; simp only [zA, zF, zE, zH, yK, ↓reduceIte, Nat.reduceEqDiff]; rotate_left; refine zW (zZ (vX ?_)); refine zR ?_; refine zQ ?_; simp only [zA, zF, zE, zH, yK, ↓reduceIte, Nat.reduceEqDiff]; rotate_left
        all_goals ((repeat (rename BV _ _ => k; first | cases k | clear k)); try exact zN)
        ·rw [hbad (by simp [*])]
         subst hL hL2 hL3
         exact ⟨_, (by repeat (first | exact q_r | apply q_q | apply q_k | exact q_a)), .inr ⟨rfl, _, rfl, rfl⟩⟩
        ·refine ⟨i + 1, ⟨hi, by rw [hst]; simp [*]⟩, by omega, ?_⟩
         exact wW
       ·refine zY (zZ ?_); refine xY ?_; intro _ _; refine zX (zY (yN ?_ ?_)) <;> (intro h hp k; (try subst k); (try simp only [q_n] at hp); try first | omega | (cases hp; done));
        refine zW (zY (zT ?_)); refine zY (zZ ?_); refine zR ?_; refine vG ?_; refine yA ?_; refine xK ?_; intro _; refine zP ?_; refine yR ?_; refine zX (zY (zZ ?_)); refine yG ?_; refine zR ?_; refine xY ?_; intro _ _; refine zR ?_; refine xT ?_ ?_ <;> (intro h hp k; (try subst k); (try simp only [q_n] at hp); try first | omega | (cases hp; done));
        (iterate 3 refine yC ?_); refine xF ?_; refine zR ?_; (iterate 4 refine yC ?_); (iterate 8 refine xSr ?_); refine yC ?_; refine xF ?_; refine zX (zG rfl (by rfl) ?_); refine zY (zZ ?_); refine yR ?_; refine zX (zV ?_); simp only [yX]; show rndA _ _ _ _ _ _ _ _ _ _ _; refine ⟨_, _, rfl, (by (exact Upd.there (Upd.here))), ?_⟩; simp only [zA, zF, zE, zH, yK, ↓reduceIte, Nat.reduceEqDiff]; rotate_left
        all_goals ((repeat (rename BV _ _ => k; first | cases k | clear k)); try exact zN)
        rw [hbad (by simp [hs])]
        subst hL hL2 hL3
        exact ⟨_, (by repeat (first | exact q_r | apply q_q | apply q_k | exact q_a)), .inr ⟨rfl, _, rfl, rfl⟩⟩
      ·refine zY (zZ ?_); refine xY ?_; intro _ _; refine zX (zY (yN ?_ ?_)) <;> (intro h hp k; (try subst k); (try simp only [q_n] at hp); try first | omega | (cases hp; done));
       refine zW (zY (zT ?_)); refine zY (zZ ?_); refine zR ?_; refine vG ?_; refine yA ?_; refine xK ?_; intro _; refine zP ?_; refine yR ?_; refine zX (zY (zZ ?_)); refine yG ?_; refine zR ?_; refine xY ?_; intro _ _; refine zR ?_; refine xT ?_ ?_ <;> (intro h hp k; (try subst k); (try simp only [q_n] at hp); try first | omega | (cases hp; done));
       (iterate 3 refine yC ?_); refine xF ?_; refine zR ?_; (iterate 4 refine yC ?_); (iterate 8 refine xSr ?_); refine yC ?_; refine xF ?_; refine zX (zG rfl (by rfl) ?_); refine zY (zZ ?_); refine yR ?_; refine zX (zV ?_); simp only [yX]; show rndA _ _ _ _ _ _ _ _ _ _ _; refine ⟨_, _, rfl, (by (exact Upd.there (Upd.here))), ?_⟩; simp only [zA, zF, zE, zH, yK, ↓reduceIte, Nat.reduceEqDiff]; rotate_left; refine yLa ?_; apply xR; rfl; (rfl); rfl; rfl; (refine yJ ?_; exact cv _); intro _ _; refine yNo ?_; intro _ _; refine yB ?_; refine zR ?_; refine xT ?_ ?_ <;> (intro h hp k; (try subst k); (try simp only [q_n] at hp); try first | omega | (cases hp; done));
       (iterate 4 refine yC ?_); (iterate 8 refine xSr ?_); refine yC ?_; refine xF ?_; refine zX (zG rfl (by rfl) ?_); refine zY (zZ ?_); refine yR ?_; refine zX (zV ?_); simp only [yX]; show rndA _ _ _ _ _ _ _ _ _ _ _; refine ⟨_, _, rfl, (by (exact Upd.there (Upd.here))), ?_⟩; simp only [zA, zF, zE, zH, yK, ↓reduceIte, Nat.reduceEqDiff]; rotate_left; refine wL ?_; refine wT ?_; intro _ _; refine vN ?_; refine xT ?_ ?_ <;> (intro h hp k; (try subst k); (try simp only [q_n] at hp); try first | omega | (cases hp; done));
       (iterate 8 refine yC ?_); refine yPf ?_; refine yB ?_; refine zX (yH rfl (by rfl) ?_); refine zW (zZ (vX ?_)); refine zR ?_; refine zQ ?_; simp only [zA, zF, zE, zH, yK, ↓reduceIte, Nat.reduceEqDiff]; rotate_left
       all_goals ((repeat (rename BV _ _ => k; first | cases k | clear k)); try exact zN)
       ·rw [hbad (by simp [*])]
        subst hL hL2 hL3
        exact ⟨_, (by repeat (first | exact q_r | apply q_q | apply q_k | exact q_a)), .inr ⟨rfl, _, rfl, rfl⟩⟩
       ·refine ⟨i + 1, ⟨hi, by rw [hst]; simp [*]⟩, by omega, ?_⟩
        exact wW
    ·have e : i = r.length := by omega
     subst e
     rw [hI2, Bool.true_and] at hJ
     refine zY (zZ ?_); refine xY ?_; intro _ _; refine zX (zY (yN ?_ ?_)) <;> (intro h hp k; (try subst k); (try simp only [q_n] at hp); try first | omega | (cases hp; done));
     refine yQ ?_; simp only [yX, ↓reduceIte, Nat.reduceEqDiff]; show rndA _ _ _ _ _ _ _ _ _ _ _; refine ⟨_, _, rfl, (by (exact Upd.here)), ?_⟩; simp only [zA, zF, zE, zH, yK, ↓reduceIte, Nat.reduceEqDiff]; rotate_left
     all_goals ((repeat (rename BV _ _ => k; first | cases k | clear k)); try exact zN)
     subst hL hL2 hL3
     exact ⟨_, List.Sublist.refl _, .inl ⟨rfl, _, rfl, by omega, hJ⟩⟩
  ·rintro r τ (⟨last, rfl, hlast, hI⟩ | ⟨last, rfl, hI⟩)
   ·rw [hL]
    refine RangeEnd.done .here ?_
    rw [List.drop_length] at hI
    rw [← hI]
    refine zY (zZ ?_); refine yR ?_; refine zX (zV ?_); simp only [yX]; rotate_left
    all_goals ((repeat (rename BV _ _ => k; first | cases k | clear k)); try exact zN)
    refine ret_q (σ3 := σ) (.cons .here .nil) ((by repeat (first | exact Res.nil | (apply Res.cons; (first | (apply Res1.ofTmp <;> rfl) | (apply Res1.ofCell; rfl; rfl; (first | exact .e rfl | exact .p (by repeat first | exact q_h | apply q_t | assumption) rfl | exact .r (by repeat first | exact q_h | apply q_t | assumption) rfl)) | (apply Res1.ofAgg; rfl; rfl; decide; (first | exact .e rfl rfl | exact .p (by repeat first | exact q_h | apply q_t | assumption) rfl rfl | exact .r (by repeat first | exact q_h | apply q_t | assumption) rfl rfl))))))) (by repeat (first | exact q_r | apply q_q | apply q_k | exact q_a)) ?_
    exact zJ .mk
   ·rw [hL2, hI]
    refine RangeEnd.jump .here ?_
    refine zV ?_; simp only [yX]; rotate_left
    all_goals ((repeat (rename BV _ _ => k; first | cases k | clear k)); try exact zN)
    refine ret_q (σ3 := σ) (.cons .here .nil) ((by repeat (first | exact Res.nil | (apply Res.cons; (first | (apply Res1.ofTmp <;> rfl) | (apply Res1.ofCell; rfl; rfl; (first | exact .e rfl | exact .p (by repeat first | exact q_h | apply q_t | assumption) rfl | exact .r (by repeat first | exact q_h | apply q_t | assumption) rfl)) | (apply Res1.ofAgg; rfl; rfl; decide; (first | exact .e rfl rfl | exact .p (by repeat first | exact q_h | apply q_t | assumption) rfl rfl | exact .r (by repeat first | exact q_h | apply q_t | assumption) rfl rfl))))))) (by repeat (first | exact q_r | apply q_q | apply q_k | exact q_a)) ?_
    exact zJ .mk
theorem count_take {l : List Sl} {k : Nat} {c : Sl} (h : l[k]? = some c) (p : Sl → Bool) : (l.take (k + 1)).countP p = (l.take k).countP p + if p c then 1 else 0 := by
 rw [List.take_add_one, h, List.countP_append]
 simp [List.countP_cons]
theorem atS_take {l : List Sl} {k : Nat} {c : Sl} (h : l[k]? = some c) (t : Int) : atS (l.take (k + 1)) t = atS (l.take k) t + if c.tab ≤ t then 1 else 0 := by
 unfold atS; rw [count_take h]; simp
theorem manyS_take {l : List Sl} {k : Nat} {c : Sl} (h : l[k]? = some c) (t : Int) : uJ (l.take (k + 1)) t = uJ (l.take k) t + if c.tab = t then 1 else 0 := by
 unfold uJ; rw [count_take h]; simp
theorem at_le (l : List Sl) (t : Int) : atS l t ≤ l.length := List.countP_le_length
theorem many_le (l : List Sl) (t : Int) : uJ l t ≤ l.length := List.countP_le_length
theorem end_c (l : List Sl) (t : Int) (σ : List Ent) : SCall Tryz.prog 60 [.agg [sls l], .int .i64 t] σ (Is (.tup [.int .i64 (atS l t : Nat), .int .i64 (uJ l t : Nat)]) σ) := by
 refine zL Tryz.func60 rfl (by simp) ?_
 refine zY (zZ ?_); refine xB ?_; intro _; (iterate 2 refine zP ?_); refine zX (zY (zY (zZ ?_))); refine yG ?_; refine wH ?_; refine zR ?_; refine zX (zT ?_); rotate_left
 all_goals ((repeat (rename BV _ _ => k; first | cases k | clear k)); try exact zN)
 refine pS (t := 9) rfl ((List.length_map _).symm) (fun hlen => ?_)
 refine yD (fun (z : Nat × Nat × Nat) => (⟨[(1, .int .i64 t), (4, .int .i64 (z.2.1 : Int)), (5, .int .i64 (z.2.2 : Int)), (9, sls l), (10, .int .i64 l.length), (11, .int .i64 z.1)], σ, [], Tryz.f60.ntmps⟩ : St)) (fun z => z.1 ≤ l.length ∧ z.2.1 = atS (l.take z.1) t ∧ z.2.2 = uJ (l.take z.1) t) (fun z => l.length - z.1) (0, 0, 0) (⟨Nat.zero_le _, rfl, rfl⟩) (St.le_of (by repeat (first | exact trivial | refine ⟨rfl, ?_⟩)) (by repeat (first | exact q_r | apply q_q | apply q_k))) ?_
 intro z hI
 obtain ⟨k, a, m⟩ := z
 obtain ⟨hI1, hI2, hI3⟩ := hI
 dsimp only at hI1 hI2 hI3 ⊢
 by_cases hk : k < l.length
 ·obtain ⟨c, hc⟩ : ∃ c, l[k]? = some c := ⟨_, List.getElem?_eq_getElem hk⟩
  have hgc := uH hc
  have h1 := atS_take hc t
  have h2 := manyS_take hc t
  rw [← hI2] at h1
  rw [← hI3] at h2
  have ha : a ≤ k := by rw [hI2]; exact Nat.le_trans (at_le _ _) (by rw [List.length_take]; omega)
  have hm : m ≤ k := by rw [hI3]; exact Nat.le_trans (many_le _ _) (by rw [List.length_take]; omega)
  clear hI2 hI3
  by_cases hle : c.tab ≤ t
  ·rw [if_pos hle] at h1
   have hz1 : (a : Int) + 1 = ((a + 1 : Nat) : Int) := by omega
   by_cases heq : c.tab = t
   ·rw [if_pos heq] at h2
    have hz2 : (m : Int) + 1 = ((m + 1 : Nat) : Int) := by omega
    refine zY (zZ ?_); refine xY ?_; intro _ _; refine zX (zY (yN ?_ ?_)) <;> (intro h hp k; (try subst k); (try simp only [q_n] at hp); try first | omega | (cases hp; done));
    refine zW (zY (zT ?_)); refine zY (zZ ?_); refine vG ?_; refine yA ?_; refine xK ?_; intro _; refine yR ?_; refine zX (zY (zY (zZ ?_))); refine yG ?_; refine zR ?_; refine zD ?_ ?_ <;> (intro h hp; (try simp only [q_n] at hp); try first | omega | (cases hp; done));
    refine zZ (zR ?_); refine vX ?_; refine zP ?_; refine zX (zY (zZ ?_)); refine yG ?_; refine zR ?_; refine zD ?_ ?_ <;> (intro h hp; (try simp only [q_n] at hp); try first | omega | (cases hp; done));
    refine zZ (zR ?_); refine vX ?_; refine zP ?_; refine zQ (zZ (vX ?_)); refine zR ?_; refine zQ ?_; simp only [zA, zF, zE, zH, yK, ↓reduceIte, Nat.reduceEqDiff]; rotate_left
    all_goals ((repeat (rename BV _ _ => k; first | cases k | clear k)); try exact zN)
    refine ⟨(k + 1, a + 1, m + 1), ⟨hk, h1.symm, h2.symm⟩, by dsimp only; omega, ?_⟩
    dsimp only
    exact wW
   ·rw [if_neg heq] at h2
    refine zY (zZ ?_); refine xY ?_; intro _ _; refine zX (zY (yN ?_ ?_)) <;> (intro h hp k; (try subst k); (try simp only [q_n] at hp); try first | omega | (cases hp; done));
    refine zW (zY (zT ?_)); refine zY (zZ ?_); refine vG ?_; refine yA ?_; refine xK ?_; intro _; refine yR ?_; refine zX (zY (zY (zZ ?_))); refine yG ?_; refine zR ?_; refine zD ?_ ?_ <;> (intro h hp; (try simp only [q_n] at hp); try first | omega | (cases hp; done));
    refine zZ (zR ?_); refine vX ?_; refine zP ?_; refine zX (zY (zZ ?_)); refine yG ?_; refine zR ?_; refine zD ?_ ?_ <;> (intro h hp; (try simp only [q_n] at hp); try first | omega | (cases hp; done));
    refine zW (zZ (vX ?_)); refine zR ?_; refine zQ ?_; simp only [zA, zF, zE, zH, yK, ↓reduceIte, Nat.reduceEqDiff]; rotate_left
    all_goals ((repeat (rename BV _ _ => k; first | cases k | clear k)); try exact zN)
    refine ⟨(k + 1, a + 1, m), ⟨hk, h1.symm, h2.symm⟩, by dsimp only; omega, ?_⟩
    dsimp only
    exact wW
  ·rw [if_neg hle] at h1
   rw [if_neg (by omega)] at h2
   refine zY (zZ ?_); refine xY ?_; intro _ _; refine zX (zY (yN ?_ ?_)) <;> (intro h hp k; (try subst k); (try simp only [q_n] at hp); try first | omega | (cases hp; done));
   refine zW (zY (zT ?_)); refine zY (zZ ?_); refine vG ?_; refine yA ?_; refine xK ?_; intro _; refine yR ?_; refine zX (zY (zY (zZ ?_))); refine yG ?_; refine zR ?_; refine zD ?_ ?_ <;> (intro h hp; (try simp only [q_n] at hp); try first | omega | (cases hp; done));
   refine zW (zY (zZ ?_)); refine yG ?_; refine zR ?_; refine zD ?_ ?_ <;> (intro h hp; (try simp only [q_n] at hp); try first | omega | (cases hp; done));
   refine zW (zZ (vX ?_)); refine zR ?_; refine zQ ?_; simp only [zA, zF, zE, zH, yK, ↓reduceIte, Nat.reduceEqDiff]; rotate_left
   all_goals ((repeat (rename BV _ _ => k; first | cases k | clear k)); try exact zN)
   refine ⟨(k + 1, a, m), ⟨hk, h1.symm, h2.symm⟩, by dsimp only; omega, ?_⟩
   dsimp only
   exact wW
 ·have e : k = l.length := by omega
  subst e
  rw [List.take_length] at hI2 hI3
  subst hI2 hI3
  refine zY (zZ ?_); refine xY ?_; intro _ _; refine zX (zY (yN ?_ ?_)) <;> (intro h hp k; (try subst k); (try simp only [q_n] at hp); try first | omega | (cases hp; done));
  refine yQ ?_; refine zY (zZ ?_); (iterate 2 refine zR ?_); (iterate 2 refine zP ?_); refine zX (zV ?_); simp only [yX]; rotate_left
  all_goals ((repeat (rename BV _ _ => k; first | cases k | clear k)); try exact zN)
  refine xW ?_
  rfl
theorem added_c (l : List Sl) (s : Sl) (hl : l.length ≤ 1000) (σ : List Ent) : SCall Tryz.prog 61 [.agg [sls l], slV s] σ (Is (.agg [sls (uT l s)]) σ) := by
 refine zL Tryz.func61 rfl (by simp) ?_
 have c1 := end_c l s.tab
 have hat : atS l s.tab ≤ (l.map slC).length := by rw [List.length_map]; exact at_le _ _
 have hput : (l.map slC).take (atS l s.tab) ++ [slC s] ++ (l.drop (atS l s.tab)).map slC = (uT l s).map slC := by
  unfold uT; simp [List.map_take]
 generalize atS l s.tab = k at c1 hat hput
 generalize uJ l s.tab = m at c1
 have htl : ((l.map slC).take k).length = k := by rw [List.length_take]; omega
 have hkl : k ≤ l.length := by simpa using hat
 refine zY (zZ ?_); refine xB ?_; intro _; refine xB ?_; intro _; refine xK ?_; intro _; refine zX (zY (zZ ?_)); refine yA ?_; refine yG ?_; apply zU; rfl; rfl; rfl; (refine yJ ?_; exact c1 _); refine zR ?_; (iterate 2 refine tG ?_); (iterate 2 refine zP ?_); refine zX (zY ?_); rotate_left
 all_goals ((repeat (rename BV _ _ => k; first | cases k | clear k)); try exact zN)
 rename Nat => b4; revert b4; rename Nat => b3; revert b3; rename Nat => b2; revert b2
 intro b2 b3 b4
 clear c1
 refine uS (fun e => e = .cells b2 [sls l] 24 ∨ e = .cells b3 (slC s) 43) 13 [0, 1, 2, 3, 4, 5, 6, 8, 9, 10, 11, 7, 12] [11, 12] rfl (by kernel_rfl) rfl (by kernel_rfl) rfl ?_
 simp only [pick, List.filterMap_cons, List.filterMap_nil, List.getElem?_cons_zero, List.getElem?_cons_succ, wU]
 refine vR ?_; refine vW ?_; (iterate 2 refine xU ?_); apply yY; rfl; rfl; rfl; (intro σ' hl; (exact g_slice3 rfl rfl rfl rfl rfl rfl hat)); refine qB ?_; apply yY; rfl; rfl; rfl; (intro σ' hl; (exact xE (yV rfl rfl (by decide) rfl rfl (by (simp only [xC, wU]; rfl))))); refine vR ?_; refine vW ?_; refine xU ?_; apply yY; rfl; rfl; rfl; (intro σ' hl; (apply vD; rfl; rfl; rfl; (rfl); omega)); refine wl_row rfl rfl rfl (by refine g_appendT rfl rfl rfl (.s .d) (by simp) ?_; refine wP ?_ (by kernel_rfl); rw [htl]; simp; omega) ?_; intro _; refine wE rfl rfl rfl (by apply xG; rfl; rfl; rfl; (intro v'; (exact Upd.here)); (exact .d); (intro y hy; simp only [tC] at hy; (focus (obtain ⟨_, _, rfl⟩ := hy; rfl; done))); (refine wP ?_ (by kernel_rfl); (try simp only [List.length_append, List.length_map, List.length_cons, List.length_nil, List.length_take, List.length_drop]); omega)) ?_; rintro _ _ ⟨v'⟩; refine ⟨(by (rintro _ (rfl | rfl) _ <;> exact (by repeat first | exact q_h | apply q_t | assumption))), ?_⟩; refine zC (uA ?_); refine yR ?_; refine zX (zV ?_); simp only [yX]; rotate_left
 all_goals ((repeat (rename BV _ _ => k; first | cases k | clear k)); try exact zN)
 rename Value => v
 refine xX (σ3 := .row v 43 8 ((l.map slC).take k ++ [slC s] ++ (l.drop k).map slC) :: σ) ?_
 rw [hput]
 exact vV .here (.agg (.here .nil) .nil) (zJ .mk)
theorem put_512 {l : List Sl} {s : Sl} (h : l.length ≤ 511) : xQ (uT l s) = if qN (uT l s) then 0 else 540 := by
 unfold xQ; rw [if_neg (by rw [put_len]; omega)]
theorem write_c (l : List Sl) (s : Sl) (σ : List Ent) : SCall Tryz.prog 26 [.agg [sls l], slV s] σ (Is (.tup [.agg [sls (vQ l s).1], .int .i64 (vQ l s).2]) σ) := by
 refine zL Tryz.func26 rfl (by simp) ?_
 have c1 := check_c l
 unfold vQ
 by_cases h0 : xQ l = 0
 ·rw [if_neg (by rw [h0]; simp)]
  rw [h0] at c1
  have h512 := (check_zero.1 h0).1
  by_cases hl : l.length = 512
  ·rw [if_pos hl]
   refine zY (zZ ?_); refine xB ?_; intro _; refine xB ?_; intro _; refine xK ?_; intro _; refine zP ?_; refine zX (zY (zY (zZ ?_))); refine yA ?_; apply zU; rfl; rfl; rfl; (refine yJ ?_; exact c1 _); refine zP ?_; refine zX (zY (zZ ?_)); refine zR ?_; refine zD ?_ ?_ <;> (intro h hp; (try simp only [q_n] at hp); try first | omega | (cases hp; done));
   refine zW (zY (zY (zZ ?_))); refine yG ?_; refine wH ?_; refine zD ?_ ?_ <;> (intro h hp; (try simp only [q_n] at hp); try first | omega | (cases hp; done));
   refine zY (zZ ?_); refine yA ?_; refine yR ?_; refine zP ?_; refine zX (zV ?_); simp only [yX]; rotate_left
   all_goals ((repeat (rename BV _ _ => k; first | cases k | clear k)); try exact zN)
   refine xX (σ3 := σ) ?_
   exact wJ (sz := 8) (.tup (.agg (.here .nil) (.same .nil)) .nil) (zJ .mk)
  ·rw [if_neg hl]
   have c2 := end_c l s.tab
   generalize uJ l s.tab = m at c2
   obtain ⟨s', hs'⟩ : ∃ s' : Sl, s' = { s with seq := (m : Int) } := ⟨_, rfl⟩
   have c3 := added_c l s' (by omega)
   have c4 := check_c (uT l s')
   rw [put_512 (by omega)] at c4
   rw [← hs']
   rw [show slV s' = .agg [.int .i64 s.tab, .int .i64 (m : Int), .int .i64 s.kind, .int .i64 s.turn, .int .i64 s.farm, .int .i64 s.hour, .int .i64 s.lit, .int .i64 s.off] by rw [hs']] at c3
   clear hs'
   generalize uT l s' = y at c3 c4 ⊢
   cases hy : qN y with
   | true =>
    rw [hy] at c4
    refine zY (zZ ?_); refine xB ?_; intro _; refine xB ?_; intro _; refine xK ?_; intro _; refine zP ?_; refine zX (zY (zY (zZ ?_))); refine yA ?_; apply zU; rfl; rfl; rfl; (refine yJ ?_; exact c1 _); refine zP ?_; refine zX (zY (zZ ?_)); refine zR ?_; refine zD ?_ ?_ <;> (intro h hp; (try simp only [q_n] at hp); try first | omega | (cases hp; done));
    refine zW (zY (zY (zZ ?_))); refine yG ?_; refine wH ?_; refine zD ?_ ?_ <;> (intro h hp; (try simp only [q_n] at hp); try first | omega | (cases hp; done));
    refine zW (zY (zZ ?_)); refine yA ?_; refine yG ?_; apply zU; rfl; rfl; rfl; (refine yJ ?_; exact c2 _); refine zR ?_; (iterate 2 refine tG ?_); refine uZ ?_; refine yR ?_; refine zX (zY (zZ ?_)); (iterate 2 refine yA ?_); apply zU; rfl; rfl; rfl; (refine yJ ?_; exact c3 _); refine xK ?_; intro _; refine yR ?_; refine zX (zY (zY (zZ ?_))); refine yA ?_; apply zU; rfl; rfl; rfl; (refine yJ ?_; exact c4 _); refine zP ?_; refine zX (zY (zZ ?_)); refine zR ?_; refine zD ?_ ?_ <;> (intro h hp; (try simp only [q_n] at hp); try first | omega | (cases hp; done));
    refine zY (zZ ?_); refine yA ?_; refine zR ?_; refine yR ?_; refine zP ?_; refine zX (zV ?_); simp only [yX]; rotate_left; refine zW (zY (zZ ?_)); refine yA ?_; refine yR ?_; refine zP ?_; refine zX (zV ?_); simp only [yX]; rotate_left
    all_goals ((repeat (rename BV _ _ => k; first | cases k | clear k)); try exact zN)
    refine xW ?_
    rfl
   | false =>
    rw [hy] at c4
    refine zY (zZ ?_); refine xB ?_; intro _; refine xB ?_; intro _; refine xK ?_; intro _; refine zP ?_; refine zX (zY (zY (zZ ?_))); refine yA ?_; apply zU; rfl; rfl; rfl; (refine yJ ?_; exact c1 _); refine zP ?_; refine zX (zY (zZ ?_)); refine zR ?_; refine zD ?_ ?_ <;> (intro h hp; (try simp only [q_n] at hp); try first | omega | (cases hp; done));
    refine zW (zY (zY (zZ ?_))); refine yG ?_; refine wH ?_; refine zD ?_ ?_ <;> (intro h hp; (try simp only [q_n] at hp); try first | omega | (cases hp; done));
    refine zW (zY (zZ ?_)); refine yA ?_; refine yG ?_; apply zU; rfl; rfl; rfl; (refine yJ ?_; exact c2 _); refine zR ?_; (iterate 2 refine tG ?_); refine uZ ?_; refine yR ?_; refine zX (zY (zZ ?_)); (iterate 2 refine yA ?_); apply zU; rfl; rfl; rfl; (refine yJ ?_; exact c3 _); refine xK ?_; intro _; refine yR ?_; refine zX (zY (zY (zZ ?_))); refine yA ?_; apply zU; rfl; rfl; rfl; (refine yJ ?_; exact c4 _); refine zP ?_; refine zX (zY (zZ ?_)); refine zR ?_; refine zD ?_ ?_ <;> (intro h hp; (try simp only [q_n] at hp); try first | omega | (cases hp; done));
    refine zY (zZ ?_); refine yA ?_; refine zR ?_; refine yR ?_; refine zP ?_; refine zX (zV ?_); simp only [yX]; rotate_left
    all_goals ((repeat (rename BV _ _ => k; first | cases k | clear k)); try exact zN)
    refine xX (σ3 := σ) ?_
    exact wJ (sz := 8) (.tup (.agg (.here .nil) (.same .nil)) .nil) (zJ .mk)
 ·rw [if_pos h0]
  refine zY (zZ ?_); refine xB ?_; intro _; refine xB ?_; intro _; refine xK ?_; intro _; refine zP ?_; refine zX (zY (zY (zZ ?_))); refine yA ?_; apply zU; rfl; rfl; rfl; (refine yJ ?_; exact c1 _); refine zP ?_; refine zX (zY (zZ ?_)); refine zR ?_; refine zD ?_ ?_ <;> (intro h hp; (try simp only [q_n] at hp); try first | omega | (cases hp; done));
  refine zY (zZ ?_); refine yA ?_; refine zR ?_; refine yR ?_; refine zP ?_; refine zX (zV ?_); simp only [yX]; rotate_left
  all_goals ((repeat (rename BV _ _ => k; first | cases k | clear k)); try exact zN)
  refine xX (σ3 := σ) ?_
  exact wJ (sz := 8) (.tup (.agg (.here .nil) (.same .nil)) .nil) (zJ .mk)
theorem sl_eqB (x y : Sl) : ((x.tab == y.tab) && ((x.seq == y.seq) && ((x.kind == y.kind) && ((x.turn == y.turn) && ((x.farm == y.farm) && ((x.hour == y.hour) && ((x.lit == y.lit) && ((x.off == y.off) && true)))))))) = decide (x = y) := by
 rw [Bool.eq_iff_iff]
 simp only [Bool.and_eq_true, beq_iff_eq, decide_eq_true_eq, and_true]
 constructor
 ·rintro ⟨h1, h2, h3, h4, h5, h6, h7, h8⟩
  cases x; cases y
  simp only at h1 h2 h3 h4 h5 h6 h7 h8
  subst h1 h2 h3 h4 h5 h6 h7 h8; rfl
 ·rintro rfl; simp
theorem g_neqSl {ro : Option Nat} {env : Env} {σ : List Ent} {dst : Option Tmp} {ty : TypeId} {pos : String} {after : Array Edge} {guard : Option (Nat × Bool)} {x y : Operand} {t yt : TypeId} {a b : Sl} {q : Bool} (ht : t = 43) (hx : xP env x = some (slV a)) (hy : xP env y = some (slV b)) (hq : decide (a = b) = q) :
  GOp Tryz.prog ro ⟨dst, .binOp .neq t x y yt, ty, pos, after, guard⟩ env σ (Is (.bool (!q)) σ) := by
 subst ht
 refine g_neqAgg rfl (by kernel_rfl) hx hy ?_
 rw [← hq, ← sl_eqB]
 rfl
theorem isNaN_c (n : Int) (σ : List Ent) : SCall Tryz.prog 73 [.int .i64 n] σ (Is (.bool false) σ) := by
 refine zL Tryz.func73 rfl (by simp) ?_
 refine zY (zZ ?_); refine zP ?_; refine zX (zY (zZ ?_)); (iterate 2 refine zR ?_); refine xY ?_; intro _ _; refine zP ?_; refine zX (zV ?_); simp only [yX]; rotate_left
 all_goals ((repeat (rename BV _ _ => k; first | cases k | clear k)); try exact zN)
 all_goals
  refine xW (tV ?_)
  simp
def qJ (a b : Int) : Int := if a < b then -1 else if b < a then 1 else 0
theorem cmpI_c (a b : Int) (σ : List Ent) : SCall Tryz.prog 36 [.int .i64 a, .int .i64 b] σ (Is (.int .i64 (qJ a b)) σ) := by
 refine zL Tryz.func36 rfl (by simp) ?_
 refine zY (zZ ?_); refine zP ?_; refine zX (zY (zZ ?_)); refine zR ?_; apply yE; rfl; rfl; rfl; (refine yJ ?_; exact isNaN_c _ _); intro _ _; refine zP ?_; refine zX (zY (zZ ?_)); refine zR ?_; apply yE; rfl; rfl; rfl; (refine yJ ?_; exact isNaN_c _ _); intro _ _; refine zP ?_; refine zX (zY (zY (zZ ?_))); refine zR ?_; refine zX (yN ?_ ?_) <;> (intro h hp k; (try subst k); (try simp only [q_n] at hp); try first | omega | (cases hp; done));
 refine zW (zY (zY (zZ ?_))); refine zR ?_; refine zX (yN ?_ ?_) <;> (intro h hp k; (try subst k); (try simp only [q_n] at hp); try first | omega | (cases hp; done));
 refine zW (zY (zY (zZ ?_))); (iterate 2 refine zR ?_); refine zD ?_ ?_ <;> (intro h hp; (try simp only [q_n] at hp); try first | omega | (cases hp; done));
 refine zY (zZ ?_); refine zP ?_; refine zX (zV ?_); simp only [yX]; rotate_left; refine zW (zY (zY (zZ ?_))); (iterate 2 refine zR ?_); refine zD ?_ ?_ <;> (intro h hp; (try simp only [q_n] at hp); try first | omega | (cases hp; done));
 refine zY (zZ ?_); refine zP ?_; refine zX (zV ?_); simp only [yX]; rotate_left; refine zW (zY (zZ ?_)); refine zP ?_; refine zX (zV ?_); simp only [yX]; rotate_left
 all_goals ((repeat (rename BV _ _ => k; first | cases k | clear k)); try exact zN)
 all_goals
  refine xW ?_
  refine int_eq ?_
  unfold qJ
  first
   | (rw [if_pos (by omega)]; done)
   | (rw [if_neg (by omega), if_pos (by omega)]; done)
   | (rw [if_neg (by omega), if_neg (by omega)]; done)
abbrev intC (n : Int) : List AV := [.int .i64 n]
abbrev ints (l : List Int) : AV := .dl 1 (l.map intC)
theorem int_get {l : List Int} {k : Nat} {x : Int} (h : l[k]? = some x) : (l.map intC)[k]? = some (intC x) := by rw [List.getElem?_map, h]; rfl
def orL : List Int → Int
 | [] => 0
 | x :: r => if x = 0 then orL r else x
theorem or_c (l : List Int) (σ : List Ent) : SCall Tryz.prog 67 [ints l] σ (Is (.int .i64 (orL l)) σ) := by
 refine zL Tryz.func67 rfl (by simp) ?_
 refine zY (zZ ?_); refine zP ?_; refine zX (zY (zZ ?_)); refine zP ?_; refine zX (zY (zY (zZ ?_))); refine zR ?_; refine wH ?_; refine zR ?_; refine zX (zT ?_); rotate_left
 all_goals ((repeat (rename BV _ _ => k; first | cases k | clear k)); try exact zN)
 refine pS (t := 6) rfl ((List.length_map _).symm) (fun hlen => ?_)
 refine yD (fun (k : Nat) => (⟨[(3, .int .i64 0), (6, ints l), (7, .int .i64 l.length), (8, .int .i64 k)], σ, [], Tryz.f67.ntmps⟩ : St)) (fun k => k ≤ l.length ∧ orL l = orL (l.drop k)) (fun k => l.length - k) 0 (⟨Nat.zero_le _, rfl⟩) (St.le_of (by repeat (first | exact trivial | refine ⟨rfl, ?_⟩)) (by repeat (first | exact q_r | apply q_q | apply q_k))) ?_
 intro k hI
 obtain ⟨hI1, hI2⟩ := hI
 by_cases hk : k < l.length
 ·obtain ⟨c, hc⟩ : ∃ c, l[k]? = some c := ⟨_, List.getElem?_eq_getElem hk⟩
  have hgc := int_get hc
  rw [sl_drop hc, orL] at hI2
  by_cases h0 : c = 0
  ·rw [if_pos h0] at hI2
   refine zY (zZ ?_); refine xY ?_; intro _ _; refine zX (zY (yN ?_ ?_)) <;> (intro h hp k; (try subst k); (try simp only [q_n] at hp); try first | omega | (cases hp; done));
   refine zW (zY (zT ?_)); refine zY (zZ ?_); refine vG ?_; refine xLd ?_; refine zP ?_; refine zX (zY (zZ ?_)); (iterate 2 refine zR ?_); refine zD ?_ ?_ <;> (intro h hp; (try simp only [q_n] at hp); try first | omega | (cases hp; done));
   refine zW (zZ (vX ?_)); refine zR ?_; refine zQ ?_; simp only [zA, zF, zE, zH, yK, ↓reduceIte, Nat.reduceEqDiff]; rotate_left
   all_goals ((repeat (rename BV _ _ => k; first | cases k | clear k)); try exact zN)
   refine ⟨k + 1, ⟨hk, hI2⟩, by omega, ?_⟩
   exact wW
  ·rw [if_neg h0] at hI2
   rw [hI2]
   clear hI2
   refine zY (zZ ?_); refine xY ?_; intro _ _; refine zX (zY (yN ?_ ?_)) <;> (intro h hp k; (try subst k); (try simp only [q_n] at hp); try first | omega | (cases hp; done));
   refine zW (zY (zT ?_)); refine zY (zZ ?_); refine vG ?_; refine xLd ?_; refine zP ?_; refine zX (zY (zZ ?_)); (iterate 2 refine zR ?_); refine zD ?_ ?_ <;> (intro h hp; (try simp only [q_n] at hp); try first | omega | (cases hp; done));
   refine zY (zZ ?_); refine zR ?_; refine zP ?_; refine zX (zV ?_); simp only [yX]; rotate_left
   all_goals ((repeat (rename BV _ _ => k; first | cases k | clear k)); try exact zN)
   refine xW ?_
   rfl
 ·rw [List.drop_of_length_le (by omega), orL] at hI2
  rw [hI2]
  clear hI2
  refine zY (zZ ?_); refine xY ?_; intro _ _; refine zX (zY (yN ?_ ?_)) <;> (intro h hp k; (try subst k); (try simp only [q_n] at hp); try first | omega | (cases hp; done));
  refine yQ ?_; refine zY (zZ ?_); refine zR ?_; refine zP ?_; refine zX (zV ?_); simp only [yX]; rotate_left
  all_goals ((repeat (rename BV _ _ => k; first | cases k | clear k)); try exact zN)
  refine xW ?_
  rfl
def cmpS (x y : Sl) : Int := if qJ x.tab y.tab = 0 then qJ x.seq y.seq else qJ x.tab y.tab
theorem cmpI_lt {a b : Int} : qJ a b < 0 ↔ a < b := by
 unfold qJ
 by_cases h1 : a < b
 ·rw [if_pos h1]; omega
 ·rw [if_neg h1]; split <;> omega
theorem cmpI_zero {a b : Int} : qJ a b = 0 ↔ a = b := by
 unfold qJ
 by_cases h1 : a < b
 ·rw [if_pos h1]; omega
 ·rw [if_neg h1]; split <;> omega
theorem cmpS_lt {x y : Sl} : cmpS x y < 0 ↔ ltS x y := by
 have h1 := @cmpI_lt x.tab y.tab; have h2 := @cmpI_zero x.tab y.tab
 have h3 := @cmpI_lt x.seq y.seq; have h4 := @cmpI_zero x.seq y.seq
 unfold cmpS ltS; split <;> omega
theorem cmpS_gt {x y : Sl} : 0 < cmpS x y ↔ ltS y x := by
 have h1 := @cmpI_lt x.tab y.tab; have h2 := @cmpI_zero x.tab y.tab
 have h3 := @cmpI_lt x.seq y.seq; have h4 := @cmpI_zero x.seq y.seq
 unfold cmpS ltS; split <;> omega
theorem compare_c (x y : Sl) (σ : List Ent) : SCall Tryz.prog 29 [slV x, slV y] σ (Is (.int .i64 (cmpS x y)) σ) := by
 refine zL Tryz.func29 rfl (by simp) ?_
 have e : cmpS x y = orL [qJ x.tab y.tab, qJ x.seq y.seq] := by
  unfold cmpS
  by_cases h1 : qJ x.tab y.tab = 0
  ·rw [if_pos h1, orL, if_pos h1, orL, orL]
   by_cases h2 : qJ x.seq y.seq = 0
   ·rw [if_pos h2, h2]
   ·rw [if_neg h2]
  ·rw [if_neg h1, orL, if_neg h1]
 rw [e]
 have c1 := or_c [qJ x.tab y.tab, qJ x.seq y.seq]
 refine zY (zZ ?_); refine xB ?_; intro _; refine xB ?_; intro _; refine zP ?_; refine zX (zY ?_); rotate_left
 all_goals ((repeat (rename BV _ _ => k; first | cases k | clear k)); try exact zN)
 refine xN anyK 12 [] rfl (by kernel_rfl) rfl ?_
 simp only [wU]
 refine vR ?_; refine vW ?_; refine vR ?_; refine vW ?_; apply yY; rfl; rfl; rfl; (intro σ' hl; (refine yJ ?_; exact cmpI_c _ _ _)); refine vR ?_; refine vW ?_; refine vR ?_; refine vW ?_; apply yY; rfl; rfl; rfl; (intro σ' hl; (refine yJ ?_; exact cmpI_c _ _ _)); apply yY; rfl; rfl; rfl; (intro σ' hl; (exact xE (yV rfl rfl (by decide) rfl rfl (by (simp only [xC, wU]; rfl))))); apply yY; rfl; rfl; rfl; (intro σ' hl; (refine yJ ?_; exact c1 _)); refine zC (zP ?_); refine zX (zV ?_); simp only [yX]; rotate_left
 all_goals ((repeat (rename BV _ _ => k; first | cases k | clear k)); try exact zN)
 refine xW ?_
 rfl
theorem merge_step {l m o : List Sl} {x y : Sl} {L M : List Sl} (h : wR l m = (wR (x :: L) (y :: M)).map (o ++ ·)) :
  (ltS x y → wR l m = (wR L (y :: M)).map (o ++ [x] ++ ·)) ∧ (ltS y x → wR l m = (wR (x :: L) M).map (o ++ [y] ++ ·)) ∧ (¬ ltS x y → ¬ ltS y x → x = y → wR l m = (wR L M).map (o ++ [x] ++ ·)) ∧ (¬ ltS x y → ¬ ltS y x → x ≠ y → wR l m = none) := by
 rw [wR] at h
 refine ⟨fun h1 => ?_, fun h1 => ?_, fun h1 h2 h3 => ?_, fun h1 h2 h3 => ?_⟩
 ·rw [h, if_pos h1]; cases wR L (y :: M) <;> simp
 ·have h2 : ¬ ltS x y := fun h2 => by unfold ltS at h1 h2; omega
  rw [h, if_neg h2, if_pos h1]; cases wR (x :: L) M <;> simp
 ·rw [h, if_neg h1, if_neg h2, if_pos h3]; cases wR L M <;> simp
 ·rw [h, if_neg h1, if_neg h2, if_neg h3]; rfl
theorem sl_snoc (o : List Sl) (x : Sl) : o.map slC ++ [slC x] = (o ++ [x]).map slC := by simp
theorem merge_c (l m : List Sl) (σ : List Ent) : SCall Tryz.prog 11 [.agg [sls l], .agg [sls m]] σ (Is (.tup [.agg [sls (pV l m).1], .int .i64 (pV l m).2]) σ) := by
 refine zL Tryz.func11 rfl (by simp) ?_
 have c1 := check_c l
 have c2 := check_c m
 refine zY (zZ ?_); refine xB ?_; intro _; refine xB ?_; intro _; refine xK ?_; intro _; refine zP ?_; refine zX (zY (zY (zZ ?_))); (iterate 2 refine yA ?_); apply zU; rfl; rfl; rfl; (exact xE (yV rfl rfl (by decide) rfl rfl (by (simp only [xC, wU]; rfl)))); apply zU; rfl; rfl; rfl; (apply xH <;> rfl); refine zR ?_; refine zX (zT ?_); rotate_left
 all_goals ((repeat (rename BV _ _ => k; first | cases k | clear k)); try exact zN)
 rename Nat => b4; revert b4; rename Nat => b3; revert b3; rename Nat => b2; revert b2
 intro b2 b3 b4
 refine yD (fun (i : Nat) => (⟨[(2, .ptr b2 0), (3, .ptr b3 0), (4, .ptr b4 0), (14, .dl 1 [[sls l], [sls m]]), (15, .int .i64 2), (16, .int .i64 i)], .cells b4 [.slv nilS] 24 :: .cells b3 [sls m] 24 :: .cells b2 [sls l] 24 :: σ, [], Tryz.f11.ntmps⟩ : St)) (fun i => i ≤ 2 ∧ (1 ≤ i → xQ l = 0) ∧ (2 ≤ i → xQ m = 0)) (fun i => 2 - i) 0 (⟨by omega, by omega, by omega⟩) (St.le_of (by repeat (first | exact trivial | refine ⟨rfl, ?_⟩)) (by repeat (first | exact q_r | apply q_q | apply q_k))) ?_
 intro i hI
 obtain ⟨hI1, hI2, hI3⟩ := hI
 have hg0 : ([[sls l], [sls m]] : List (List AV))[0]? = some [sls l] := rfl
 have hg1 : ([[sls l], [sls m]] : List (List AV))[1]? = some [sls m] := rfl
 rcases (by omega : i = 0 ∨ i = 1 ∨ i = 2) with rfl | rfl | rfl
 ·by_cases h0 : xQ l = 0
  ·rw [h0] at c1
   clear hI2 hI3 c2
   refine zY (zZ ?_); refine xY ?_; intro _ _; refine zX (zY (yN ?_ ?_)) <;> (intro h hp k; (try subst k); (try simp only [q_n] at hp); try first | omega | (cases hp; done));
   refine zW (zY (zT ?_)); refine zY (zZ ?_); refine vG ?_; refine yA ?_; refine xK ?_; intro _; refine yR ?_; refine zX (zY (zZ ?_)); refine yA ?_; apply zU; rfl; rfl; rfl; (refine yJ ?_; exact c1 _); refine zP ?_; refine zX (zY (zZ ?_)); refine zR ?_; refine zD ?_ ?_ <;> (intro h hp; (try simp only [q_n] at hp); try first | omega | (cases hp; done));
   refine zW (zZ (vX ?_)); refine zR ?_; refine zQ ?_; simp only [zA, zF, zE, zH, yK, ↓reduceIte, Nat.reduceEqDiff]; rotate_left
   all_goals ((repeat (rename BV _ _ => k; first | cases k | clear k)); try exact zN)
   refine ⟨1, ⟨by omega, fun _ => h0, by omega⟩, by omega, ?_⟩
   exact wW
  ·have e : pV l m = ([], xQ l) := by unfold pV; rw [if_pos h0]
   rw [e]
   clear hI2 hI3 c2
   refine zY (zZ ?_); refine xY ?_; intro _ _; refine zX (zY (yN ?_ ?_)) <;> (intro h hp k; (try subst k); (try simp only [q_n] at hp); try first | omega | (cases hp; done));
   refine zW (zY (zT ?_)); refine zY (zZ ?_); refine vG ?_; refine yA ?_; refine xK ?_; intro _; refine yR ?_; refine zX (zY (zZ ?_)); refine yA ?_; apply zU; rfl; rfl; rfl; (refine yJ ?_; exact c1 _); refine zP ?_; refine zX (zY (zZ ?_)); refine zR ?_; refine zD ?_ ?_ <;> (intro h hp; (try simp only [q_n] at hp); try first | omega | (cases hp; done));
   refine zY (zZ ?_); refine yA ?_; refine zR ?_; refine yR ?_; refine zP ?_; refine zX (zV ?_); simp only [yX]; rotate_left
   all_goals ((repeat (rename BV _ _ => k; first | cases k | clear k)); try exact zN)
   refine xX (σ3 := σ) ?_
   exact wJ (sz := 8) (.tup (.agg (.here .nil) (.same .nil)) .nil) (zJ .mk)
 ·have hl0 := hI2 (by omega)
  by_cases h0 : xQ m = 0
  ·rw [h0] at c2
   clear hI2 hI3 c1
   refine zY (zZ ?_); refine xY ?_; intro _ _; refine zX (zY (yN ?_ ?_)) <;> (intro h hp k; (try subst k); (try simp only [q_n] at hp); try first | omega | (cases hp; done));
   refine zW (zY (zT ?_)); refine zY (zZ ?_); refine vG ?_; refine yA ?_; refine xK ?_; intro _; refine yR ?_; refine zX (zY (zZ ?_)); refine yA ?_; apply zU; rfl; rfl; rfl; (refine yJ ?_; exact c2 _); refine zP ?_; refine zX (zY (zZ ?_)); refine zR ?_; refine zD ?_ ?_ <;> (intro h hp; (try simp only [q_n] at hp); try first | omega | (cases hp; done));
   refine zW (zZ (vX ?_)); refine zR ?_; refine zQ ?_; simp only [zA, zF, zE, zH, yK, ↓reduceIte, Nat.reduceEqDiff]; rotate_left
   all_goals ((repeat (rename BV _ _ => k; first | cases k | clear k)); try exact zN)
   refine ⟨2, ⟨by omega, fun _ => hl0, fun _ => h0⟩, by omega, ?_⟩
   exact wW
  ·have e : pV l m = ([], xQ m) := by unfold pV; rw [if_neg (by rw [hl0]; simp), if_pos h0]
   rw [e]
   clear hI2 hI3 c1
   refine zY (zZ ?_); refine xY ?_; intro _ _; refine zX (zY (yN ?_ ?_)) <;> (intro h hp k; (try subst k); (try simp only [q_n] at hp); try first | omega | (cases hp; done));
   refine zW (zY (zT ?_)); refine zY (zZ ?_); refine vG ?_; refine yA ?_; refine xK ?_; intro _; refine yR ?_; refine zX (zY (zZ ?_)); refine yA ?_; apply zU; rfl; rfl; rfl; (refine yJ ?_; exact c2 _); refine zP ?_; refine zX (zY (zZ ?_)); refine zR ?_; refine zD ?_ ?_ <;> (intro h hp; (try simp only [q_n] at hp); try first | omega | (cases hp; done));
   refine zY (zZ ?_); refine yA ?_; refine zR ?_; refine yR ?_; refine zP ?_; refine zX (zV ?_); simp only [yX]; rotate_left
   all_goals ((repeat (rename BV _ _ => k; first | cases k | clear k)); try exact zN)
   refine xX (σ3 := σ) ?_
   exact wJ (sz := 8) (.tup (.agg (.here .nil) (.same .nil)) .nil) (zJ .mk)
 ·have hl0 := hI2 (by omega)
  have hm0 := hI3 (by omega)
  have e : pV l m = match wR l m with | none => ([], 540) | some o => if (512 : Int) < o.length then ([], 2) else (o, 0) := by unfold pV; rw [if_neg (by rw [hl0]; simp), if_neg (by rw [hm0]; simp)]; cases wR l m <;> rfl
  have hl5 := (check_zero.1 hl0).1
  have hm5 := (check_zero.1 hm0).1
  rw [e]
  clear e c1 c2 hI1 hI2 hI3 hl0 hm0
  refine qR 43 8 ?_
  refine zY (zZ ?_); refine xY ?_; intro _ _; refine zX (zY (yN ?_ ?_)) <;> (intro h hp k; (try subst k); (try simp only [q_n] at hp); try first | omega | (cases hp; done));
  refine yQ ?_; refine zY (zZ ?_); refine zP ?_; refine zX (zY (wN rfl rfl (by kernel_rfl) rfl ?_)); refine yU rfl (by kernel_rfl) rfl ?_; refine vR ?_; refine vW ?_; refine vR ?_; refine vW ?_; (iterate 2 refine wAs ?_); refine zC ?_; show EX _ _ _ _ _; refine zY (zT ?_); rotate_left
  all_goals ((repeat (rename BV _ _ => k; first | cases k | clear k)); try exact zN)
  refine yD (fun (z : List Sl × List Sl × List Sl × Value) => (⟨[(4, .ptr b4 0), (8, .slv z.2.2.2), (9, sls z.2.1), (10, sls z.2.2.1)], .row z.2.2.2 43 8 (z.1.map slC) :: .cells b4 [.slv nilS] 24 :: σ, [], Tryz.f11.ntmps⟩ : St)) (fun z => wR l m = (wR z.2.1 z.2.2.1).map (z.1 ++ ·) ∧ z.1.length + z.2.1.length + z.2.2.1.length ≤ 1024) (fun z => z.2.1.length + z.2.2.1.length) ([], l, m, nilS) (⟨by simp, by simp; omega⟩) (St.le_of (by repeat (first | exact trivial | refine ⟨rfl, ?_⟩)) (by repeat (first | exact q_r | apply q_q | apply q_k))) ?_
  intro z hI
  obtain ⟨o, L, M, v⟩ := z
  obtain ⟨hI1, hI2⟩ := hI
  dsimp only at hI1 hI2 ⊢
  clear hl5 hm5
  have hol : (o.map slC).length = o.length := List.length_map _
  cases L with
  | nil =>
   cases M with
   | nil =>
    rw [wR] at hI1
    rw [hI1]
    dsimp only [Option.map_some]
    rw [List.append_nil]
    by_cases h5 : (512 : Int) < o.length
    ·rw [if_pos h5]
     refine zY (zY (zZ ?_)); refine zR ?_; refine wH ?_; refine zR ?_; refine wH ?_; refine vX ?_; refine zD ?_ ?_ <;> (intro h hp; (try simp only [q_n] at hp); try first | omega | (cases hp; done));
     refine yQ ?_; refine zY (zY (zZ ?_)); refine zR ?_; apply zU; rfl; rfl; rfl; (apply xH; rfl; rfl; (exact .inl ⟨_, _, _, (by repeat first | exact q_h | apply q_t | assumption), (List.length_map _).symm⟩)); refine zD ?_ ?_ <;> (intro h hp; (try simp only [q_n] at hp); try first | omega | (cases hp; done));
     refine zY (zZ ?_); refine yA ?_; refine yR ?_; refine zP ?_; refine zX (zV ?_); simp only [yX]; rotate_left
     all_goals ((repeat (rename BV _ _ => k; first | cases k | clear k)); try exact zN)
     refine xX (σ3 := σ) ?_
     exact wJ (sz := 8) (.tup (.agg (.here .nil) (.same .nil)) .nil) (zJ .mk)
    ·rw [if_neg h5]
     refine zY (zY (zZ ?_)); refine zR ?_; refine wH ?_; refine zR ?_; refine wH ?_; refine vX ?_; refine zD ?_ ?_ <;> (intro h hp; (try simp only [q_n] at hp); try first | omega | (cases hp; done));
     refine yQ ?_; refine zY (zY (zZ ?_)); refine zR ?_; apply zU; rfl; rfl; rfl; (apply xH; rfl; rfl; (exact .inl ⟨_, _, _, (by repeat first | exact q_h | apply q_t | assumption), (List.length_map _).symm⟩)); refine zD ?_ ?_ <;> (intro h hp; (try simp only [q_n] at hp); try first | omega | (cases hp; done));
     refine zW (zY (zZ ?_)); refine zR ?_; refine uA ?_; refine yR ?_; refine zP ?_; refine zX (zV ?_); simp only [yX]; rotate_left
     all_goals ((repeat (rename BV _ _ => k; first | cases k | clear k)); try exact zN)
     refine xX (σ3 := .row v 43 8 (o.map slC) :: σ) ?_
     exact vV .here (.tup (.agg (.here .nil) (.same .nil)) .nil) (zJ .mk)
   | cons y M =>
    have hgy := uH (l := y :: M) (k := 0) rfl
    have hnx : wR l m = (wR [] M).map (o ++ [y] ++ ·) := by rw [hI1, wR, wR]; simp
    refine zY (zY (zZ ?_)); refine zR ?_; refine wH ?_; refine zR ?_; refine wH ?_; refine vX ?_; refine zD ?_ ?_ <;> (intro h hp; (try simp only [q_n] at hp); try first | omega | (cases hp; done));
    refine zW (zT ?_); refine zY (zZ ?_); refine zP ?_; refine zX (zY (zT ?_)); refine zY (zZ ?_); refine zR ?_; refine wH ?_; refine xY ?_; intro _ _; refine zP ?_; refine zX (yN ?_ ?_) <;> (intro h hp k; (try subst k); (try simp only [q_n] at hp); try first | omega | (cases hp; done));
    refine zZ (zP ?_); refine zQ (zY ?_); refine zY (wN rfl rfl (by kernel_rfl) rfl ?_); refine yU rfl (by kernel_rfl) rfl ?_; refine xU ?_; refine wBi ?_; intro _ _; refine xU ?_; refine uW ?_ ?_ <;> (intro h hp k; (try subst k); (try simp only [q_n] at hp); try first | omega | (cases hp; done));
    (iterate 7 refine vF ?_); refine qW ?_; refine zC ?_; show EX _ _ _ _ _; refine yH rfl (by rfl) ?_; refine zW (zY (zY (zZ ?_))); refine zR ?_; refine zD ?_ ?_ <;> (intro h hp; (try simp only [q_n] at hp); try first | omega | (cases hp; done));
    refine zZ (zR ?_); refine zR ?_; refine vG ?_; refine yA ?_; refine qS rfl rfl rfl (by exact yV rfl rfl (by decide) rfl rfl (by (simp only [xC, wU]; rfl))) ?_; intro _; apply tQ; rfl; rfl; rfl; (apply xG; rfl; rfl; rfl; (intro v'; (exact Upd.there (Upd.here))); (exact .r (by repeat first | exact q_h | apply q_t | assumption)); (intro y hy; simp only [tC] at hy; (focus (obtain ⟨_, _, rfl⟩ := hy; rfl; done))); (refine wP ?_ (by kernel_rfl); (try simp only [List.length_append, List.length_map, List.length_cons, List.length_nil, List.length_take, List.length_drop]); omega)); intro _; refine zP ?_; refine zX (zY (zZ ?_)); refine zR ?_; refine zD ?_ ?_ <;> (intro h hp; (try simp only [q_n] at hp); try first | omega | (cases hp; done));
    refine zZ (zR ?_); apply zU; rfl; rfl; rfl; (apply vD; rfl; rfl; rfl; (exact (rfl : (1:Int) = ((1:Nat):Int))); omega); refine zP ?_; refine zQ ?_; simp only [zA, zF, zE, zH, yK, ↓reduceIte, Nat.reduceEqDiff]; rotate_left; refine zY (zZ ?_); refine zR ?_; refine wH ?_; refine xY ?_; intro _ _; refine zP ?_; refine zX (yN ?_ ?_) <;> (intro h hp k; (try subst k); (try simp only [q_n] at hp); try first | omega | (cases hp; done));
    rotate_left
    all_goals ((repeat (rename BV _ _ => k; first | cases k | clear k)); try exact zN)
    rename Value => v2
    refine ⟨(o ++ [y], [], M, v2), ⟨hnx, by simp at hI2 ⊢; omega⟩, by simp, ?_⟩
    dsimp only
    rw [← sl_snoc]
    exact wW
  | cons x L =>
   have hgx := uH (l := x :: L) (k := 0) rfl
   cases M with
   | nil =>
    have hnx : wR l m = (wR L []).map (o ++ [x] ++ ·) := by rw [hI1, mergeR_nil, mergeR_nil]; simp
    refine zY (zY (zZ ?_)); refine zR ?_; refine wH ?_; refine zR ?_; refine wH ?_; refine vX ?_; refine zD ?_ ?_ <;> (intro h hp; (try simp only [q_n] at hp); try first | omega | (cases hp; done));
    refine zW (zT ?_); refine zY (zZ ?_); refine zP ?_; refine zX (zY (zT ?_)); refine zY (zZ ?_); refine zR ?_; refine wH ?_; refine xY ?_; intro _ _; refine zP ?_; refine zX (yN ?_ ?_) <;> (intro h hp k; (try subst k); (try simp only [q_n] at hp); try first | omega | (cases hp; done));
    refine zY (zZ ?_); refine zR ?_; refine wH ?_; refine xY ?_; intro _ _; refine zP ?_; refine zX (yN ?_ ?_) <;> (intro h hp k; (try subst k); (try simp only [q_n] at hp); try first | omega | (cases hp; done));
    refine zZ (zP ?_); refine zQ (zY ?_); refine zY (wN rfl rfl (by kernel_rfl) rfl ?_); refine yU rfl (by kernel_rfl) rfl ?_; refine xU ?_; refine wBi ?_; intro _ _; refine xU ?_; refine uW ?_ ?_ <;> (intro h hp k; (try subst k); (try simp only [q_n] at hp); try first | omega | (cases hp; done));
    (iterate 7 refine vF ?_); refine qW ?_; refine zC ?_; show EX _ _ _ _ _; refine yH rfl (by rfl) ?_; refine zW (zY (zY (zZ ?_))); refine zR ?_; refine zD ?_ ?_ <;> (intro h hp; (try simp only [q_n] at hp); try first | omega | (cases hp; done));
    rotate_left; rotate_left
    all_goals ((repeat (rename BV _ _ => k; first | cases k | clear k)); try exact zN)
    refine uS (fun _ => False) 9 [0, 1, 2, 3, 4, 6, 7, 5, 8] [7] rfl (by kernel_rfl) rfl (by kernel_rfl) rfl ?_
    simp only [pick, List.filterMap_cons, List.filterMap_nil, List.getElem?_cons_zero, List.getElem?_cons_succ, wU]
    (iterate 2 refine xU ?_); refine wIx ?_; refine qB ?_; apply yY; rfl; rfl; rfl; (intro σ' hl; (exact xE (yV rfl rfl (by decide) rfl rfl (by (simp only [xC, wU]; rfl))))); refine xU ?_; apply yY; rfl; rfl; rfl; (intro σ' hl; (apply vD; rfl; rfl; rfl; (exact (rfl : (1:Int) = ((1:Nat):Int))); omega)); refine wE rfl rfl rfl (by apply xG; rfl; rfl; rfl; (intro v'; (exact Upd.here)); (exact .d); (intro y hy; simp only [tC] at hy; (focus (obtain ⟨_, _, rfl⟩ := hy; rfl; done))); (refine wP ?_ (by kernel_rfl); (try simp only [List.length_append, List.length_map, List.length_cons, List.length_nil, List.length_take, List.length_drop]); omega)) ?_; rintro _ _ ⟨v'⟩; refine ⟨(by (rintro _ (rfl | rfl) _ <;> exact (by repeat first | exact q_h | apply q_t | assumption))), ?_⟩; refine wAs ?_; refine zC (zP ?_); refine zX (zY (zZ ?_)); refine zR ?_; refine zD ?_ ?_ <;> (intro h hp; (try simp only [q_n] at hp); try first | omega | (cases hp; done));
    refine zW ?_; simp only [zA, zF, zE, zH, yK, ↓reduceIte, Nat.reduceEqDiff]; rotate_left
    all_goals ((repeat (rename BV _ _ => k; first | cases k | clear k)); try exact zN)
    rename Value => v2
    refine ⟨(o ++ [x], L, [], v2), ⟨hnx, by simp at hI2 ⊢; omega⟩, by simp, ?_⟩
    dsimp only
    rw [← sl_snoc]
    exact wW
   | cons y M =>
    have hgy := uH (l := y :: M) (k := 0) rfl
    obtain ⟨s1, s2, s3, s4⟩ := merge_step hI1
    have cc := compare_c x y
    obtain ⟨c, hc⟩ : ∃ c, cmpS x y = c := ⟨_, rfl⟩
    rw [hc] at cc
    have hlt := @cmpS_lt x y
    have hgt := @cmpS_gt x y
    rw [hc] at hlt hgt
    clear hI1
    rcases Int.lt_trichotomy c 0 with hc0 | hc0 | hc0
    ·have hnx := s1 (hlt.1 hc0)
     clear s1 s2 s3 s4 hlt hgt hc
     refine zY (zY (zZ ?_)); refine zR ?_; refine wH ?_; refine zR ?_; refine wH ?_; refine vX ?_; refine zD ?_ ?_ <;> (intro h hp; (try simp only [q_n] at hp); try first | omega | (cases hp; done));
     refine zW (zT ?_); refine zY (zZ ?_); refine zP ?_; refine zX (zY (zT ?_)); refine zY (zZ ?_); refine zR ?_; refine wH ?_; refine xY ?_; intro _ _; refine zP ?_; refine zX (yN ?_ ?_) <;> (intro h hp k; (try subst k); (try simp only [q_n] at hp); try first | omega | (cases hp; done));
     refine zY (zZ ?_); refine zR ?_; refine wH ?_; refine xY ?_; intro _ _; refine zP ?_; refine zX (yN ?_ ?_) <;> (intro h hp k; (try subst k); (try simp only [q_n] at hp); try first | omega | (cases hp; done));
     refine xV rfl rfl (by kernel_rfl) rfl ?_; refine yU rfl (by kernel_rfl) rfl ?_; refine xU ?_; refine wIx ?_; refine qB ?_; refine xU ?_; refine wIx ?_; refine qB ?_; apply yY; rfl; rfl; rfl; (intro σ' hl; (refine yJ ?_; exact cc _)); refine wAs ?_; refine zC ?_; show EX _ _ _ _ _; refine zY ?_; refine zY (xV rfl rfl (by kernel_rfl) rfl ?_); refine yU rfl (by kernel_rfl) rfl ?_; refine xU ?_; refine wBi ?_; intro _ _; refine xU ?_; refine uW ?_ ?_ <;> (intro h hp k; (try subst k); (try simp only [q_n] at hp); try first | omega | (cases hp; done));
     (iterate 7 refine vF ?_); refine qW ?_; refine zC ?_; show EX _ _ _ _ _; refine yH rfl (by rfl) ?_; refine zW (zY (zY (zZ ?_))); refine zR ?_; refine zD ?_ ?_ <;> (intro h hp; (try simp only [q_n] at hp); try first | omega | (cases hp; done));
     rotate_left
     all_goals ((repeat (rename BV _ _ => k; first | cases k | clear k)); try exact zN)
     refine uS (fun _ => False) 9 [0, 1, 2, 3, 4, 6, 7, 5, 8] [7] rfl (by kernel_rfl) rfl (by kernel_rfl) rfl ?_
     simp only [pick, List.filterMap_cons, List.filterMap_nil, List.getElem?_cons_zero, List.getElem?_cons_succ, wU]
     (iterate 2 refine xU ?_); refine wIx ?_; refine qB ?_; apply yY; rfl; rfl; rfl; (intro σ' hl; (exact xE (yV rfl rfl (by decide) rfl rfl (by (simp only [xC, wU]; rfl))))); refine xU ?_; apply yY; rfl; rfl; rfl; (intro σ' hl; (apply vD; rfl; rfl; rfl; (exact (rfl : (1:Int) = ((1:Nat):Int))); omega)); refine wE rfl rfl rfl (by apply xG; rfl; rfl; rfl; (intro v'; (exact Upd.here)); (exact .d); (intro y hy; simp only [tC] at hy; (focus (obtain ⟨_, _, rfl⟩ := hy; rfl; done))); (refine wP ?_ (by kernel_rfl); (try simp only [List.length_append, List.length_map, List.length_cons, List.length_nil, List.length_take, List.length_drop]); omega)) ?_; rintro _ _ ⟨v'⟩; refine ⟨(by (rintro _ (rfl | rfl) _ <;> exact (by repeat first | exact q_h | apply q_t | assumption))), ?_⟩; refine wAs ?_; refine zC (zP ?_); refine zX (zY (zZ ?_)); refine zR ?_; refine zD ?_ ?_ <;> (intro h hp; (try simp only [q_n] at hp); try first | omega | (cases hp; done));
     refine zW ?_; simp only [zA, zF, zE, zH, yK, ↓reduceIte, Nat.reduceEqDiff]; rotate_left
     all_goals ((repeat (rename BV _ _ => k; first | cases k | clear k)); try exact zN)
     rename Value => v2
     refine ⟨(o ++ [x], L, y :: M, v2), ⟨hnx, by simp at hI2 ⊢; omega⟩, by simp, ?_⟩
     dsimp only
     rw [← sl_snoc]
     exact wW
    ·have hn1 : ¬ ltS x y := fun h => by have := hlt.2 h; omega
     have hn2 : ¬ ltS y x := fun h => by have := hgt.2 h; omega
     subst hc0
     by_cases hxy : x = y
     ·have hnx := s3 hn1 hn2 hxy
      have hq : decide (x = y) = true := decide_eq_true hxy
      clear s1 s2 s3 s4 hlt hgt hc
      refine zY (zY (zZ ?_)); refine zR ?_; refine wH ?_; refine zR ?_; refine wH ?_; refine vX ?_; refine zD ?_ ?_ <;> (intro h hp; (try simp only [q_n] at hp); try first | omega | (cases hp; done));
      refine zW (zT ?_); refine zY (zZ ?_); refine zP ?_; refine zX (zY (zT ?_)); refine zY (zZ ?_); refine zR ?_; refine wH ?_; refine xY ?_; intro _ _; refine zP ?_; refine zX (yN ?_ ?_) <;> (intro h hp k; (try subst k); (try simp only [q_n] at hp); try first | omega | (cases hp; done));
      refine zY (zZ ?_); refine zR ?_; refine wH ?_; refine xY ?_; intro _ _; refine zP ?_; refine zX (yN ?_ ?_) <;> (intro h hp k; (try subst k); (try simp only [q_n] at hp); try first | omega | (cases hp; done));
      refine xV rfl rfl (by kernel_rfl) rfl ?_; refine yU rfl (by kernel_rfl) rfl ?_; refine xU ?_; refine wIx ?_; refine qB ?_; refine xU ?_; refine wIx ?_; refine qB ?_; apply yY; rfl; rfl; rfl; (intro σ' hl; (refine yJ ?_; exact cc _)); refine wAs ?_; refine zC ?_; show EX _ _ _ _ _; refine zY ?_; refine zY (xV rfl rfl (by kernel_rfl) rfl ?_); refine yU rfl (by kernel_rfl) rfl ?_; refine xU ?_; refine wBi ?_; intro _ _; refine xU ?_; refine uW ?_ ?_ <;> (intro h hp k; (try subst k); (try simp only [q_n] at hp); try first | omega | (cases hp; done));
      refine uV ?_; refine vIx ?_; refine vLa ?_; refine uV ?_; refine vIx ?_; refine vLa ?_; refine uX rfl rfl rfl rfl (fun σ' hl => g_neqSl rfl rfl rfl hq) ?_; intro _ _; refine tZ ?_; refine zC ?_; show EX _ _ _ _ _; refine yN ?_ ?_ <;> (intro h hp k; (try subst k); (try simp only [q_n] at hp); try first | omega | (cases hp; done));
      refine zW (zY (zY (zZ ?_))); refine zR ?_; refine zD ?_ ?_ <;> (intro h hp; (try simp only [q_n] at hp); try first | omega | (cases hp; done));
      rotate_left
      all_goals ((repeat (rename BV _ _ => k; first | cases k | clear k)); try exact zN)
      refine uS (fun _ => False) 9 [0, 1, 2, 3, 4, 6, 7, 5, 8] [7] rfl (by kernel_rfl) rfl (by kernel_rfl) rfl ?_
      simp only [pick, List.filterMap_cons, List.filterMap_nil, List.getElem?_cons_zero, List.getElem?_cons_succ, wU]
      (iterate 2 refine xU ?_); refine wIx ?_; refine qB ?_; apply yY; rfl; rfl; rfl; (intro σ' hl; (exact xE (yV rfl rfl (by decide) rfl rfl (by (simp only [xC, wU]; rfl))))); refine xU ?_; apply yY; rfl; rfl; rfl; (intro σ' hl; (apply vD; rfl; rfl; rfl; (exact (rfl : (1:Int) = ((1:Nat):Int))); omega)); refine wE rfl rfl rfl (by apply xG; rfl; rfl; rfl; (intro v'; (exact Upd.here)); (exact .d); (intro y hy; simp only [tC] at hy; (focus (obtain ⟨_, _, rfl⟩ := hy; rfl; done))); (refine wP ?_ (by kernel_rfl); (try simp only [List.length_append, List.length_map, List.length_cons, List.length_nil, List.length_take, List.length_drop]); omega)) ?_; rintro _ _ ⟨v'⟩; refine ⟨(by (rintro _ (rfl | rfl) _ <;> exact (by repeat first | exact q_h | apply q_t | assumption))), ?_⟩; refine wAs ?_; refine zC (zP ?_); refine zX (zY (zZ ?_)); refine zR ?_; refine zD ?_ ?_ <;> (intro h hp; (try simp only [q_n] at hp); try first | omega | (cases hp; done));
      refine zZ (zR ?_); apply zU; rfl; rfl; rfl; (apply vD; rfl; rfl; rfl; (exact (rfl : (1:Int) = ((1:Nat):Int))); omega); refine zP ?_; refine zQ ?_; simp only [zA, zF, zE, zH, yK, ↓reduceIte, Nat.reduceEqDiff]; rotate_left
      all_goals ((repeat (rename BV _ _ => k; first | cases k | clear k)); try exact zN)
      rename Value => v2
      refine ⟨(o ++ [x], L, M, v2), ⟨hnx, by simp at hI2 ⊢; omega⟩, by simp; omega, ?_⟩
      dsimp only
      rw [← sl_snoc]
      exact wW
     ·have hnx := s4 hn1 hn2 hxy
      have hq : decide (x = y) = false := decide_eq_false hxy
      rw [hnx]
      clear s1 s2 s3 s4 hlt hgt hc
      refine zY (zY (zZ ?_)); refine zR ?_; refine wH ?_; refine zR ?_; refine wH ?_; refine vX ?_; refine zD ?_ ?_ <;> (intro h hp; (try simp only [q_n] at hp); try first | omega | (cases hp; done));
      refine zW (zT ?_); refine zY (zZ ?_); refine zP ?_; refine zX (zY (zT ?_)); refine zY (zZ ?_); refine zR ?_; refine wH ?_; refine xY ?_; intro _ _; refine zP ?_; refine zX (yN ?_ ?_) <;> (intro h hp k; (try subst k); (try simp only [q_n] at hp); try first | omega | (cases hp; done));
      refine zY (zZ ?_); refine zR ?_; refine wH ?_; refine xY ?_; intro _ _; refine zP ?_; refine zX (yN ?_ ?_) <;> (intro h hp k; (try subst k); (try simp only [q_n] at hp); try first | omega | (cases hp; done));
      refine xV rfl rfl (by kernel_rfl) rfl ?_; refine yU rfl (by kernel_rfl) rfl ?_; refine xU ?_; refine wIx ?_; refine qB ?_; refine xU ?_; refine wIx ?_; refine qB ?_; apply yY; rfl; rfl; rfl; (intro σ' hl; (refine yJ ?_; exact cc _)); refine wAs ?_; refine zC ?_; show EX _ _ _ _ _; refine zY ?_; refine zY (xV rfl rfl (by kernel_rfl) rfl ?_); refine yU rfl (by kernel_rfl) rfl ?_; refine xU ?_; refine wBi ?_; intro _ _; refine xU ?_; refine uW ?_ ?_ <;> (intro h hp k; (try subst k); (try simp only [q_n] at hp); try first | omega | (cases hp; done));
      refine uV ?_; refine vIx ?_; refine vLa ?_; refine uV ?_; refine vIx ?_; refine vLa ?_; refine uX rfl rfl rfl rfl (fun σ' hl => g_neqSl rfl rfl rfl hq) ?_; intro _ _; refine tZ ?_; refine zC ?_; show EX _ _ _ _ _; refine yN ?_ ?_ <;> (intro h hp k; (try subst k); (try simp only [q_n] at hp); try first | omega | (cases hp; done));
      refine zY (zZ ?_); refine yA ?_; refine yR ?_; refine zP ?_; refine zX (zV ?_); simp only [yX]; rotate_left
      all_goals ((repeat (rename BV _ _ => k; first | cases k | clear k)); try exact zN)
      refine xX (σ3 := σ) ?_
      exact wJ (sz := 8) (.tup (.agg (.here .nil) (.same .nil)) .nil) (zJ .mk)
    ·have hnx := s2 (hgt.1 hc0)
     clear s1 s2 s3 s4 hlt hgt hc
     refine zY (zY (zZ ?_)); refine zR ?_; refine wH ?_; refine zR ?_; refine wH ?_; refine vX ?_; refine zD ?_ ?_ <;> (intro h hp; (try simp only [q_n] at hp); try first | omega | (cases hp; done));
     refine zW (zT ?_); refine zY (zZ ?_); refine zP ?_; refine zX (zY (zT ?_)); refine zY (zZ ?_); refine zR ?_; refine wH ?_; refine xY ?_; intro _ _; refine zP ?_; refine zX (yN ?_ ?_) <;> (intro h hp k; (try subst k); (try simp only [q_n] at hp); try first | omega | (cases hp; done));
     refine zY (zZ ?_); refine zR ?_; refine wH ?_; refine xY ?_; intro _ _; refine zP ?_; refine zX (yN ?_ ?_) <;> (intro h hp k; (try subst k); (try simp only [q_n] at hp); try first | omega | (cases hp; done));
     refine xV rfl rfl (by kernel_rfl) rfl ?_; refine yU rfl (by kernel_rfl) rfl ?_; refine xU ?_; refine wIx ?_; refine qB ?_; refine xU ?_; refine wIx ?_; refine qB ?_; apply yY; rfl; rfl; rfl; (intro σ' hl; (refine yJ ?_; exact cc _)); refine wAs ?_; refine zC ?_; show EX _ _ _ _ _; refine zY ?_; refine zY (xV rfl rfl (by kernel_rfl) rfl ?_); refine yU rfl (by kernel_rfl) rfl ?_; refine xU ?_; refine wBi ?_; intro _ _; refine xU ?_; refine uW ?_ ?_ <;> (intro h hp k; (try subst k); (try simp only [q_n] at hp); try first | omega | (cases hp; done));
     (iterate 7 refine vF ?_); refine qW ?_; refine zC ?_; show EX _ _ _ _ _; refine yH rfl (by rfl) ?_; refine zW (zY (zY (zZ ?_))); refine zR ?_; refine zD ?_ ?_ <;> (intro h hp; (try simp only [q_n] at hp); try first | omega | (cases hp; done));
     refine zZ (zR ?_); refine zR ?_; refine vG ?_; refine yA ?_; refine qS rfl rfl rfl (by exact yV rfl rfl (by decide) rfl rfl (by (simp only [xC, wU]; rfl))) ?_; intro _; apply tQ; rfl; rfl; rfl; (apply xG; rfl; rfl; rfl; (intro v'; (exact Upd.there (Upd.here))); (exact .r (by repeat first | exact q_h | apply q_t | assumption)); (intro y hy; simp only [tC] at hy; (focus (obtain ⟨_, _, rfl⟩ := hy; rfl; done))); (refine wP ?_ (by kernel_rfl); (try simp only [List.length_append, List.length_map, List.length_cons, List.length_nil, List.length_take, List.length_drop]); omega)); intro _; refine zP ?_; refine zX (zY (zZ ?_)); refine zR ?_; refine zD ?_ ?_ <;> (intro h hp; (try simp only [q_n] at hp); try first | omega | (cases hp; done));
     refine zZ (zR ?_); apply zU; rfl; rfl; rfl; (apply vD; rfl; rfl; rfl; (exact (rfl : (1:Int) = ((1:Nat):Int))); omega); refine zP ?_; refine zQ ?_; simp only [zA, zF, zE, zH, yK, ↓reduceIte, Nat.reduceEqDiff]; rotate_left
     all_goals ((repeat (rename BV _ _ => k; first | cases k | clear k)); try exact zN)
     rename Value => v2
     refine ⟨(o ++ [y], x :: L, M, v2), ⟨hnx, by simp at hI2 ⊢; omega⟩, by simp, ?_⟩
     dsimp only
     rw [← sl_snoc]
     exact wW
def andNot (a b : Nat) : Nat := a ^^^ (a &&& b)
theorem ofInt_nat (a : Nat) (h : a < 9223372036854775808) : (BitVec.ofInt 64 (a : Int)).toNat = a := by
 rw [BitVec.ofInt_natCast, BitVec.toNat_ofNat]
 exact Nat.mod_eq_of_lt (by omega)
section
variable {P : Program} {ro : Option Nat} {env : Env} {σ : List Ent} {dst : Option Tmp} {ty : TypeId} {pos : String} {after : Array Edge} {guard : Option (Nat × Bool)}
theorem g_xorN {x y : Operand} {t yt : TypeId} {a b : Int} {m n : Nat} (hx : xP env x = some (.int .i64 a)) (hy : xP env y = some (.int .i64 b)) (ha : a = (m : Int)) (hb : b = (n : Int)) (h1 : m < 9223372036854775808) (h2 : n < 9223372036854775808) :
  GOp P ro ⟨dst, .binOp .xor t x y yt, ty, pos, after, guard⟩ env σ (Is (.int .i64 ((m ^^^ n : Nat) : Int)) σ) := by
 subst ha hb
 refine g_bits hx hy (.inl rfl) rfl ?_
 show IntKind.i64.wrap ((BitVec.ofInt 64 (m : Int) ^^^ BitVec.ofInt 64 (n : Int)).toNat : Int) = _
 rw [BitVec.toNat_xor, ofInt_nat m h1, ofInt_nat n h2]
 have : m ^^^ n < 9223372036854775808 := Nat.xor_lt_two_pow (n := 63) h1 h2
 exact wrap64 ⟨by omega, by omega⟩
end
section
variable {P : Program} {ro : Option Nat} {env : Env} {σ : List Ent} {dst : Option Tmp} {ty : TypeId} {pos : String} {after : Array Edge} {guard : Option (Nat × Bool)}
theorem vA {s t : TypeId} {x : Operand} {k' ks k2 : IntKind} {n c : Int} (hs : P.underlying s = some (.int ks)) (ht : P.underlying t = some (.int k2)) (hx : xP env x = some (.int k' n)) (hc : k2.wrap n = c) :
  GOp P ro ⟨dst, .convert s t x, ty, pos, after, guard⟩ env σ (Is (.int k2 c) σ) :=
 xZ _ (by intro c h; cases h) fun X M e w hg ho => by
  have h1 := ho x (by simp [Op.operands]) _ hx
  simp only [VRel] at h1
  refine ⟨.int k2 c, by simp [VRel], ?_⟩
  simp [execOp, h1, convert, Sem.run_bind, run_underlying hs, run_underlying ht, Conv.intToInt, hc]
theorem tY {m : Nat} (h : m < 18446744073709551616) : IntKind.u64.wrap (m : Int) = m := by rw [IntKind.wrap_u64]; omega
theorem wrapU8 {m : Nat} (h : m < 256) : IntKind.u8.wrap (m : Int) = m := by rw [IntKind.wrap_u8]; omega
theorem ofInt64 {a : Nat} (h : a < 18446744073709551616) : (BitVec.ofInt 64 (a : Int)).toNat = a := by
 rw [BitVec.ofInt_natCast, BitVec.toNat_ofNat]; omega
theorem ofInt8 {a : Nat} (h : a < 256) : (BitVec.ofInt 8 (a : Int)).toNat = a := by
 rw [BitVec.ofInt_natCast, BitVec.toNat_ofNat]; omega
theorem g_orU {x y : Operand} {t yt : TypeId} {a b : Int} {m n q : Nat} (hx : xP env x = some (.int .u64 a)) (hy : xP env y = some (.int .u64 b)) (ha : a = (m : Int)) (hb : b = (n : Int)) (h1 : m < 18446744073709551616) (h2 : n < 18446744073709551616) (hq : m ||| n = q) :
  GOp P ro ⟨dst, .binOp .or t x y yt, ty, pos, after, guard⟩ env σ (Is (.int .u64 (q : Int)) σ) := by
 subst ha hb hq
 refine g_bits hx hy (.inl rfl) rfl ?_
 show IntKind.u64.wrap ((BitVec.ofInt 64 (m : Int) ||| BitVec.ofInt 64 (n : Int)).toNat : Int) = _
 rw [BitVec.toNat_or, ofInt64 h1, ofInt64 h2, tY (Nat.or_lt_two_pow (n := 64) h1 h2)]
theorem g_xorU {x y : Operand} {t yt : TypeId} {a b : Int} {m n q : Nat} (hx : xP env x = some (.int .u64 a)) (hy : xP env y = some (.int .u64 b)) (ha : a = (m : Int)) (hb : b = (n : Int)) (h1 : m < 18446744073709551616) (h2 : n < 18446744073709551616) (hq : m ^^^ n = q) :
  GOp P ro ⟨dst, .binOp .xor t x y yt, ty, pos, after, guard⟩ env σ (Is (.int .u64 (q : Int)) σ) := by
 subst ha hb hq
 refine g_bits hx hy (.inl rfl) rfl ?_
 show IntKind.u64.wrap ((BitVec.ofInt 64 (m : Int) ^^^ BitVec.ofInt 64 (n : Int)).toNat : Int) = _
 rw [BitVec.toNat_xor, ofInt64 h1, ofInt64 h2, tY (Nat.xor_lt_two_pow (n := 64) h1 h2)]
theorem g_andU {x y : Operand} {t yt : TypeId} {a b : Int} {m n q : Nat} (hx : xP env x = some (.int .u64 a)) (hy : xP env y = some (.int .u64 b)) (ha : a = (m : Int)) (hb : b = (n : Int)) (h1 : m < 18446744073709551616) (h2 : n < 18446744073709551616) (hq : m &&& n = q) :
  GOp P ro ⟨dst, .binOp .and t x y yt, ty, pos, after, guard⟩ env σ (Is (.int .u64 (q : Int)) σ) := by
 subst ha hb hq
 refine g_bits hx hy (.inl rfl) rfl ?_
 show IntKind.u64.wrap ((BitVec.ofInt 64 (m : Int) &&& BitVec.ofInt 64 (n : Int)).toNat : Int) = _
 rw [BitVec.toNat_and, ofInt64 h1, ofInt64 h2, tY (Nat.and_lt_two_pow (n := 64) _ h2)]
theorem g_or8 {x y : Operand} {t yt : TypeId} {a b : Int} {m n q : Nat} (hx : xP env x = some (.int .u8 a)) (hy : xP env y = some (.int .u8 b)) (ha : a = (m : Int)) (hb : b = (n : Int)) (h1 : m < 256) (h2 : n < 256) (hq : m ||| n = q) :
  GOp P ro ⟨dst, .binOp .or t x y yt, ty, pos, after, guard⟩ env σ (Is (.int .u8 (q : Int)) σ) := by
 subst ha hb hq
 refine g_bits hx hy (.inl rfl) rfl ?_
 show IntKind.u8.wrap ((BitVec.ofInt 8 (m : Int) ||| BitVec.ofInt 8 (n : Int)).toNat : Int) = _
 rw [BitVec.toNat_or, ofInt8 h1, ofInt8 h2, wrapU8 (Nat.or_lt_two_pow (n := 8) h1 h2)]
theorem g_and8 {x y : Operand} {t yt : TypeId} {a b : Int} {m n q : Nat} (hx : xP env x = some (.int .u8 a)) (hy : xP env y = some (.int .u8 b)) (ha : a = (m : Int)) (hb : b = (n : Int)) (h1 : m < 256) (h2 : n < 256) (hq : m &&& n = q) :
  GOp P ro ⟨dst, .binOp .and t x y yt, ty, pos, after, guard⟩ env σ (Is (.int .u8 (q : Int)) σ) := by
 subst ha hb hq
 refine g_bits hx hy (.inl rfl) rfl ?_
 show IntKind.u8.wrap ((BitVec.ofInt 8 (m : Int) &&& BitVec.ofInt 8 (n : Int)).toNat : Int) = _
 rw [BitVec.toNat_and, ofInt8 h1, ofInt8 h2, wrapU8 (Nat.and_lt_two_pow (n := 8) _ h2)]
theorem g_shlU {x y : Operand} {t yt : TypeId} {k' : IntKind} {a b : Int} {m n q : Nat} (hx : xP env x = some (.int .u64 a)) (hy : xP env y = some (.int k' b)) (ha : a = (m : Int)) (hb : b = (n : Int)) (hn : n ≤ 64) (hq : m * 2 ^ n = q) (hl : q < 18446744073709551616) :
  GOp P ro ⟨dst, .binOp .shl t x y yt, ty, pos, after, guard⟩ env σ (Is (.int .u64 (q : Int)) σ) := by
 subst ha hb
 refine g_bits (c := IntKind.u64.wrap ((m : Int) * 2 ^ min (n : Int).toNat 64)) hx hy (.inr (.inl rfl)) ?_ ?_
 ·show (if (n : Int) < 0 then none else _) = _
  rw [if_neg (by omega)]; rfl
 ·rw [Int.toNat_natCast, Nat.min_eq_left hn, show (m : Int) * 2 ^ n = ((m * 2 ^ n : Nat) : Int) by simp, hq, tY hl]
theorem g_shrU {x y : Operand} {t yt : TypeId} {k' : IntKind} {a b : Int} {m n q : Nat} (hx : xP env x = some (.int .u64 a)) (hy : xP env y = some (.int k' b)) (ha : a = (m : Int)) (hb : b = (n : Int)) (hn : n ≤ 64) (hq : m / 2 ^ n = q) :
  GOp P ro ⟨dst, .binOp .shr t x y yt, ty, pos, after, guard⟩ env σ (Is (.int .u64 (q : Int)) σ) := by
 subst ha hb
 refine g_bits (c := (m : Int).fdiv (2 ^ min (n : Int).toNat 64)) hx hy (.inr (.inr rfl)) ?_ ?_
 ·show (if (n : Int) < 0 then none else _) = _
  rw [if_neg (by omega)]; rfl
 ·rw [Int.toNat_natCast, Nat.min_eq_left hn, show (2 : Int) ^ n = ((2 ^ n : Nat) : Int) by simp, Int.fdiv_eq_ediv_of_nonneg _ (Int.natCast_nonneg _), ← Int.natCast_ediv, hq]
theorem g_shrI {x y : Operand} {t yt : TypeId} {k' : IntKind} {a b : Int} {m n q : Nat} (hx : xP env x = some (.int .i64 a)) (hy : xP env y = some (.int k' b)) (ha : a = (m : Int)) (hb : b = (n : Int)) (hn : n ≤ 64) (hq : m / 2 ^ n = q) :
  GOp P ro ⟨dst, .binOp .shr t x y yt, ty, pos, after, guard⟩ env σ (Is (.int .i64 (q : Int)) σ) := by
 subst ha hb
 refine g_bits (c := (m : Int).fdiv (2 ^ min (n : Int).toNat 64)) hx hy (.inr (.inr rfl)) ?_ ?_
 ·show (if (n : Int) < 0 then none else _) = _
  rw [if_neg (by omega)]; rfl
 ·rw [Int.toNat_natCast, Nat.min_eq_left hn, show (2 : Int) ^ n = ((2 ^ n : Nat) : Int) by simp, Int.fdiv_eq_ediv_of_nonneg _ (Int.natCast_nonneg _), ← Int.natCast_ediv, hq]
theorem g_eqlStr {x y : Operand} {t yt : TypeId} {a b : ByteArray} {q : Bool} (ht : P.underlying t = some .string) (hx : xP env x = some (.str a)) (hy : xP env y = some (.str b)) (hq : (a.toList == b.toList) = q) :
  GOp P ro ⟨dst, .binOp .eql t x y yt, ty, pos, after, guard⟩ env σ (Is (.bool q) σ) :=
 xZ _ (by intro c h; cases h) fun X M e w hg ho => by
  have h1 := ho x (by simp [Op.operands]) _ hx
  have h2 := ho y (by simp [Op.operands]) _ hy
  simp only [VRel] at h1 h2
  refine ⟨.bool q, by simp [VRel], ?_⟩
  simp [execOp, h1, h2, eqGuard, binOp, Sem.run_bind, Op.stringOp, hq]
end
section
variable {P : Program} {ro : Option Nat} {env : Env} {σ : List Ent} {dst : Option Tmp} {ty : TypeId} {pos : String} {after : Array Edge} {guard : Option (Nat × Bool)}
theorem wB {t e : TypeId} {x ix : Operand} {sz k n g cap : Nat} {kk : IntKind} {i : Int} (ht : tB P t = some (e, sz)) (hx : xP env x = some (.slv (.slice (some ⟨g, 0, none⟩) n cap))) (hi : xP env ix = some (.int kk i)) (hk : i = (k : Int)) (hlt : k < n) :
  GOp P ro ⟨dst, .indexAddr t x ix, ty, pos, after, guard⟩ env σ (Is (.rptr (.slice (some ⟨g, 0, none⟩) n cap) (k * sz)) σ) :=
 xZ _ (by intro c h; cases h) fun X M en w hg ho => by
  have h1 := ho x (by simp [Op.operands]) _ hx
  have h2 := ho ix (by simp [Op.operands]) _ hi
  simp only [VRel] at h1 h2
  obtain ⟨h1, _⟩ := h1
  obtain ⟨hue, inf, hinf, hsz⟩ := qC ht
  have add : (⟨g, 0, none⟩ : Addr).add (k * sz) = ⟨g, k * sz, none⟩ := by unfold Addr.add; split <;> simp_all
  refine ⟨.pointer (some ⟨g, k * sz, none⟩), ⟨g, n, cap, rfl, rfl⟩, ?_⟩
  subst hk
  simp [execOp, h2, h1, Instr.indexAt, asIntOf, Sem.run_bind, run_underlying hue, sizeOf, typeInfo, hinf, hsz, hlt, add]
theorem ex_rowV {c : Code} {Q : Exit → St → Prop} {s : St} {v : Value} {e : TypeId} {sz : Nat} {L : List (List AV)} (hm : Ent.row v e sz L ∈ s.σ) (hL : L ≠ []) (h : ∀ g cap, v = .slice (some ⟨g, 0, none⟩) L.length cap → EX P ro c Q s) : EX P ro c Q s :=
 ⟨fun X M a w hs => by
  obtain ⟨xs, ⟨ho1, ho2⟩, _, _⟩ := hs.good.ent _ hm
  rcases ho2 with ⟨rfl, h0⟩ | ⟨g, cap, cur, hv, _⟩
  ·exact absurd (List.eq_nil_of_length_eq_zero h0) hL
  ·exact (h g cap hv).run X M a w hs⟩
end
end Go.Proofs.YtkhoengjdfmfaaaGreat
