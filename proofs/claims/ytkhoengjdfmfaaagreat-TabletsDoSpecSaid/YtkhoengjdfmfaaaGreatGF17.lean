/- Parts of the proof that belong together: Tq Ya Yb Rj. -/
import Derived.Test.YtkhoengjdfmfaaaGreatGF05
import Derived.Test.YtkhoengjdfmfaaaGreatGF10
import Derived.Test.YtkhoengjdfmfaaaGreatGF12
import Derived.Test.YtkhoengjdfmfaaaGreatGF16
set_option maxRecDepth 10000
set_option maxHeartbeats 8000000
set_option linter.unusedSimpArgs false
set_option linter.unusedVariables false
namespace Go.Proofs.YtkhoengjdfmfaaaGreat
structure FirstI (l : List Sl) (i f : Nat) : Prop where
 le : f ≤ i
 pr : ∀ p, 0 < i → l[i - 1]? = some p → f < i ∧ p.seq = (i : Int) - 1 - f
theorem first_zero (l : List Sl) : FirstI l 0 0 := ⟨Nat.le_refl _, fun p h => by omega⟩
def nextF (l : List Sl) (i f : Nat) (s : Sl) : Nat := match pW l i with
 | some p => if s.tab = p.tab then f else i
 | none => f
theorem ok_iff {l : List Sl} {i f : Nat} {s : Sl} (hs : l[i]? = some s) (h : FirstI l i f) : okAt l i = true ↔ (0 ≤ s.tab ∧ s.tab < 8) ∧ (∀ p, pW l i = some p → p.tab ≤ s.tab) ∧ s.seq = (i : Int) - nextF l i f s ∧ uR s = true ∧ (s.kind = 3 → ∀ y, l[nextF l i f s + (s.off - 1).toNat]? = some y → y.kind ≠ 3) := by
 rw [ok_some hs]
 have hf := h.le
 cases i with
 | zero =>
  have hp : pW l 0 = none := rfl
  have f0 : f = 0 := by omega
  unfold nextF
  rw [hp]
  dsimp only
  subst f0
  simp only [stepB, decide_eq_true_eq]
  constructor
  ·rintro ⟨h1, h2, h3, h4⟩
   refine ⟨⟨h1.1, by omega⟩, by simp, by omega, h3, fun hk y hy => ?_⟩
   have := tT h3 hk
   omega
  ·rintro ⟨h1, _, h2, h3, h4⟩
   refine ⟨⟨h1.1, by omega⟩, by omega, h3, ?_⟩
   unfold voidB
   by_cases hk : s.kind = 3
   ·have := tT h3 hk; omega
   ·rw [decide_eq_false hk]; rfl
 | succ j =>
  obtain ⟨p, hp⟩ : ∃ p, l[j]? = some p := yW (by have := wD hs; omega)
  have hpl : pW l (j + 1) = some p := hp
  obtain ⟨g1, g2⟩ := h.pr p (by omega) (by simpa using hp)
  unfold nextF
  rw [hpl]
  dsimp only
  simp only [stepB, Bool.or_eq_true, Bool.and_eq_true, decide_eq_true_eq, Option.some.injEq, forall_eq']
  have key : ∀ F : Nat, s.seq = ((j + 1 : Nat) : Int) - F → uR s = true → F ≤ j + 1 → (voidB l (j + 1) s = true ↔ (s.kind = 3 → ∀ y, l[F + (s.off - 1).toNat]? = some y → y.kind ≠ 3)) := by
   intro F e1 e2 e3
   unfold voidB
   by_cases hk : s.kind = 3
   ·have ho := tT e2 hk
    rw [decide_eq_true hk, show j + 1 - s.seq.toNat = F by omega]
    simp only [Bool.not_true, Bool.false_or, Bool.and_eq_true, decide_eq_true_eq, hk, true_implies]
    cases hy : l[F + (s.off - 1).toNat]? with
    | none => simp; omega
    | some y => simp; omega
   ·rw [decide_eq_false hk]
    simp [hk]
  by_cases e : s.tab = p.tab
  ·rw [if_pos e]
   constructor
   ·rintro ⟨h1, h2, h3, h4⟩
    have e1 : s.seq = ((j + 1 : Nat) : Int) - f := by omega
    exact ⟨⟨h1.1, by omega⟩, by omega, e1, h3, (key f e1 h3 hf).1 h4⟩
   ·rintro ⟨h1, _, h2, h3, h4⟩
    exact ⟨⟨h1.1, by omega⟩, .inr ⟨e.symm, by omega⟩, h3, (key f h2 h3 hf).2 h4⟩
  ·rw [if_neg e]
   constructor
   ·rintro ⟨h1, h2, h3, h4⟩
    have e1 : s.seq = ((j + 1 : Nat) : Int) - (j + 1 : Nat) := by omega
    exact ⟨⟨h1.1, by omega⟩, by omega, e1, h3, (key (j + 1) e1 h3 (Nat.le_refl _)).1 h4⟩
   ·rintro ⟨h1, h1', h2, h3, h4⟩
    exact ⟨⟨h1.1, by omega⟩, .inl ⟨by omega, by omega⟩, h3, (key (j + 1) h2 h3 (Nat.le_refl _)).2 h4⟩
theorem first_next {l : List Sl} {i f : Nat} {s : Sl} (hs : l[i]? = some s) (h : FirstI l i f) (hok : okAt l i = true) : FirstI l (i + 1) (nextF l i f s) := by
 have h1 := ((ok_iff hs h).1 hok).2.2.1
 have hle : nextF l i f s ≤ i := by
  unfold nextF
  have := h.le
  split
  ·split <;> omega
  ·omega
 refine ⟨by omega, fun p _ hp => ?_⟩
 rw [Nat.add_sub_cancel, hs] at hp
 cases hp
 exact ⟨by omega, by omega⟩
theorem rvalid_c (l : List Sl) (σ : List Ent) : SCall Tryz.prog 68 [sls l] σ (Is (.bool (qN l)) σ) := by
 refine zL Tryz.func68 rfl (by simp) ?_
 obtain ⟨B, hB⟩ : ∃ B, qN l = B := ⟨_, rfl⟩
 rw [hB]
 refine zY (zZ ?_); refine zP ?_; refine zX (zY (zZ ?_)); refine zP ?_; refine zX (zY (zY (zZ ?_))); refine zP ?_; refine zX (zT ?_); rotate_left
 all_goals ((repeat (rename BV _ _ => k; first | cases k | clear k)); try exact zN)
 refine yD (fun (z : Nat × Nat) => (⟨[(0, sls l), (3, .int .i64 z.2), (4, .int .i64 z.1)], σ, [], Tryz.f68.ntmps⟩ : St)) (fun z => z.1 ≤ l.length ∧ FirstI l z.1 z.2 ∧ (∀ j, j < z.1 → okAt l j = true)) (fun z => l.length - z.1) (0, 0) (⟨Nat.zero_le _, first_zero l, by omega⟩) (St.le_of (by repeat (first | exact trivial | refine ⟨rfl, ?_⟩)) (by repeat (first | exact q_r | apply q_q | apply q_k))) ?_
 intro z hI
 obtain ⟨i, f⟩ := z
 obtain ⟨hI1, hI2, hI3⟩ := hI
 dsimp only at hI1 hI2 hI3 ⊢
 by_cases hi : i < l.length
 ·refine pS (t := 0) rfl ((List.length_map _).symm) (fun hlen => ?_)
  obtain ⟨s, hs⟩ : ∃ s, l[i]? = some s := yW hi
  have hgs := uH hs
  have hiff := ok_iff hs hI2
  have hnx : okAt l i = true → (∀ j, j < i + 1 → okAt l j = true) := fun h j hj => by
   by_cases e : j = i
   ·rw [e]; exact h
   ·exact hI3 j (by omega)
  have hnf : okAt l i = true → FirstI l (i + 1) (nextF l i f s) := first_next hs hI2
  have hbad : okAt l i = false → B = false := fun h => by
   rw [← hB]; unfold qN; exact all_false hi h
  have hfi := hI2.le
  have cs := slip_c s
  have hpr : ∀ p, pW l i = some p → 0 < i ∧ l[i - 1]? = some p := fun p hp => by
   cases i with
   | zero => cases hp
   | succ j => exact ⟨by omega, hp⟩
  obtain ⟨F, hF⟩ : ∃ F, nextF l i f s = F := ⟨_, rfl⟩
  have hFi : F ≤ i := by
   rw [← hF]; unfold nextF
   split
   ·split <;> omega
   ·omega
  rw [hF] at hiff hnf
  obtain ⟨K, hK⟩ : ∃ K, okAt l i = K := ⟨_, rfl⟩
  rw [hK] at hiff hnx hnf hbad
  clear hK hI3 hB
  have hneg : K = true → (0 ≤ s.tab ∧ s.tab < 8) ∧ (∀ p, pW l i = some p → p.tab ≤ s.tab) ∧ s.seq = (i : Int) - F ∧ uR s = true ∧ (s.kind = 3 → ∀ y, l[F + (s.off - 1).toNat]? = some y → y.kind ≠ 3) := fun h => hiff.1 h
  have hpos := hiff.2
  clear hiff
  -- what a road's end says
  have hend0 : ∀ (h : ¬ ((0 ≤ s.tab ∧ s.tab < 8) ∧ (∀ p, pW l i = some p → p.tab ≤ s.tab) ∧ s.seq = (i : Int) - F ∧ uR s = true ∧ (s.kind = 3 → ∀ y, l[F + (s.off - 1).toNat]? = some y → y.kind ≠ 3))), B = false := fun h => hbad (by
   cases hk : K with
   | false => rfl
   | true => exact absurd (hneg hk) h)
  clear hneg hbad
  cases hv : uR s with
  | false =>
   rw [hv] at cs
   have hBf : B = false := hend0 (fun h => by rw [hv] at h; exact absurd h.2.2.2.1 (by simp))
   rw [hBf]
   clear hend0 hpos hnx hnf hF
   cases hpv : pW l i with
   | none =>
    have hi0 : i = 0 := by
     cases i with
     | zero => rfl
     | succ j => have : pW l (j + 1) = l[j]? := rfl; rw [this, List.getElem?_eq_getElem (by omega)] at hpv; cases hpv
    refine zY (zY (zZ ?_)); (iterate 2 refine zR ?_); refine wH ?_; refine zD ?_ ?_ <;> (intro h hp; (try simp only [q_n] at hp); try first | omega | (cases hp; done));
    refine zW (zY (zT ?_)); refine zY (zZ ?_); (iterate 2 refine zR ?_); refine vG ?_; refine yA ?_; refine xK ?_; intro _; refine yR ?_; refine zX (zY ?_); refine zY (xV rfl rfl (by kernel_rfl) rfl ?_); refine yU rfl (by kernel_rfl) rfl ?_; refine xU ?_; refine wBi ?_; intro _ _; refine xU ?_; refine uW ?_ ?_ <;> (intro h hp k; (try subst k); (try simp only [q_n] at hp); try first | omega | (cases hp; done));
    (iterate 9 refine vF ?_); refine qW ?_; refine zC ?_; show EX _ _ _ _ _; refine yH rfl (by rfl) ?_; refine zW (zY ?_); refine zY (xV rfl rfl (by kernel_rfl) rfl ?_); refine yU rfl (by kernel_rfl) rfl ?_; refine vR ?_; refine vW ?_; refine wBi ?_; intro _ _; refine xU ?_; refine uW ?_ ?_ <;> (intro h hp k; (try subst k); (try simp only [q_n] at hp); try first | omega | (cases hp; done));
    (iterate 3 refine vF ?_); refine tZ ?_; refine xU ?_; (iterate 3 refine vF ?_); (iterate 9 refine wS rfl rfl rfl ?_); refine vF ?_; refine tZ ?_; refine xU ?_; (iterate 6 refine vF ?_); refine tZ ?_; refine xU ?_; (iterate 3 refine vF ?_); refine tZ ?_; refine zC ?_; show EX _ _ _ _ _; refine zG rfl (by rfl) ?_; refine zY (zZ ?_); refine zP ?_; refine zX (zV ?_); simp only [yX]; rotate_left; refine tX ?_; refine uU ?_; refine tE ?_; intro _ _; refine qW ?_; refine xU ?_; refine uW ?_ ?_ <;> (intro h hp k; (try subst k); (try simp only [q_n] at hp); try first | omega | (cases hp; done));
    (iterate 3 refine vF ?_); (iterate 9 refine wS rfl rfl rfl ?_); refine vF ?_; refine tZ ?_; refine xU ?_; (iterate 6 refine vF ?_); refine tZ ?_; refine xU ?_; (iterate 3 refine vF ?_); refine tZ ?_; refine zC ?_; show EX _ _ _ _ _; refine zG rfl (by rfl) ?_; refine zY (zZ ?_); refine zP ?_; refine zX (zV ?_); simp only [yX]; rotate_left; refine uV ?_; refine tE ?_; intro _ _; refine uV ?_; refine uW ?_ ?_ <;> (intro h hp k; (try subst k); (try simp only [q_n] at hp); try first | omega | (cases hp; done));
    (iterate 9 refine vF ?_); refine vPf ?_; refine qW ?_; refine xU ?_; refine tX ?_; refine uU ?_; (iterate 2 refine uV ?_); refine vSu ?_; refine tE ?_; intro _ _; refine qW ?_; refine xU ?_; refine uW ?_ ?_ <;> (intro h hp k; (try subst k); (try simp only [q_n] at hp); try first | omega | (cases hp; done));
    (iterate 3 refine vF ?_); refine tZ ?_; refine zC ?_; show EX _ _ _ _ _; refine zG rfl (by rfl) ?_; refine zY (zZ ?_); refine zP ?_; refine zX (zV ?_); simp only [yX]; rotate_left; refine vLa ?_; apply uX; rfl; (rfl); rfl; rfl; (intro σ' hl; (refine yJ ?_; exact cs _)); intro _ _; apply uX; rfl; (rfl); rfl; rfl; (intro σ' hl; (apply tD <;> rfl)); intro _ _; refine qW ?_; refine zC ?_; show EX _ _ _ _ _; refine yN ?_ ?_ <;> (intro h hp k; (try subst k); (try simp only [q_n] at hp); try first | omega | (cases hp; done));
    refine zY (zZ ?_); refine zP ?_; refine zX (zV ?_); simp only [yX]; rotate_left; refine zW (zY (zZ ?_)); refine yG ?_; refine xY ?_; intro _ _; refine zR ?_; refine xT ?_ ?_ <;> (intro h hp k; (try subst k); (try simp only [q_n] at hp); try first | omega | (cases hp; done));
    (iterate 2 refine vN ?_); refine wL ?_; apply yZ; rfl; (rfl); rfl; rfl; (apply wG <;> rfl); apply yZ; rfl; (rfl); rfl; rfl; (apply wG <;> rfl); rotate_left; (iterate 10 refine yC ?_); refine yB ?_; refine zX (yH rfl (by rfl) ?_); refine zW (zZ (zR ?_)); refine vX ?_; refine zP ?_; refine zQ ?_; simp only [zA, zF, zE, zH, yK, ↓reduceIte, Nat.reduceEqDiff]; rotate_left
    all_goals ((repeat (rename BV _ _ => k; first | cases k | clear k)); try exact zN)
    all_goals
     refine xW ?_
     rfl
   | some p =>
    obtain ⟨hi1, hpp⟩ := hpr p hpv
    have hgp := uH hpp
    have hzi : (i : Int) - 1 = ((i - 1 : Nat) : Int) := by omega
    clear hpr hpp hpv hI2 hgs
    have hgs := uH hs
    by_cases e : s.tab = p.tab
    ·refine zY (zY (zZ ?_)); (iterate 2 refine zR ?_); refine wH ?_; refine zD ?_ ?_ <;> (intro h hp; (try simp only [q_n] at hp); try first | omega | (cases hp; done));
     refine zW (zY (zT ?_)); refine zY (zZ ?_); (iterate 2 refine zR ?_); refine vG ?_; refine yA ?_; refine xK ?_; intro _; refine yR ?_; refine zX (zY ?_); refine zY (xV rfl rfl (by kernel_rfl) rfl ?_); refine yU rfl (by kernel_rfl) rfl ?_; refine xU ?_; refine wBi ?_; intro _ _; refine xU ?_; refine uW ?_ ?_ <;> (intro h hp k; (try subst k); (try simp only [q_n] at hp); try first | omega | (cases hp; done));
     refine tX ?_; refine uU ?_; (iterate 2 refine uV ?_); refine vSu ?_; refine vIx ?_; refine tX ?_; refine uU ?_; refine tE ?_; intro _ _; refine tZ ?_; refine zC ?_; show EX _ _ _ _ _; refine yN ?_ ?_ <;> (intro h hp k; (try subst k); (try simp only [q_n] at hp); try first | omega | (cases hp; done));
     refine zW (zY ?_); refine zY (xV rfl rfl (by kernel_rfl) rfl ?_); refine yU rfl (by kernel_rfl) rfl ?_; refine vR ?_; refine vW ?_; refine wBi ?_; intro _ _; refine xU ?_; refine uW ?_ ?_ <;> (intro h hp k; (try subst k); (try simp only [q_n] at hp); try first | omega | (cases hp; done));
     (iterate 3 refine vF ?_); refine tZ ?_; refine xU ?_; (iterate 3 refine vF ?_); (iterate 9 refine wS rfl rfl rfl ?_); refine vF ?_; refine tZ ?_; refine xU ?_; (iterate 6 refine vF ?_); refine tZ ?_; refine xU ?_; (iterate 3 refine vF ?_); refine tZ ?_; refine zC ?_; show EX _ _ _ _ _; refine zG rfl (by rfl) ?_; refine zY (zZ ?_); refine zP ?_; refine zX (zV ?_); simp only [yX]; rotate_left; refine tX ?_; refine uU ?_; refine tE ?_; intro _ _; refine qW ?_; refine xU ?_; refine uW ?_ ?_ <;> (intro h hp k; (try subst k); (try simp only [q_n] at hp); try first | omega | (cases hp; done));
     (iterate 3 refine vF ?_); (iterate 9 refine wS rfl rfl rfl ?_); refine vF ?_; refine tZ ?_; refine xU ?_; (iterate 6 refine vF ?_); refine tZ ?_; refine xU ?_; (iterate 3 refine vF ?_); refine tZ ?_; refine zC ?_; show EX _ _ _ _ _; refine zG rfl (by rfl) ?_; refine zY (zZ ?_); refine zP ?_; refine zX (zV ?_); simp only [yX]; rotate_left; refine uV ?_; refine tE ?_; intro _ _; refine uV ?_; refine uW ?_ ?_ <;> (intro h hp k; (try subst k); (try simp only [q_n] at hp); try first | omega | (cases hp; done));
     refine tX ?_; refine uU ?_; (iterate 2 refine uV ?_); refine vSu ?_; refine vIx ?_; refine tX ?_; refine uU ?_; refine tE ?_; intro _ _; refine vPt ?_; refine qW ?_; refine xU ?_; refine uW ?_ ?_ <;> (intro h hp k; (try subst k); (try simp only [q_n] at hp); try first | omega | (cases hp; done));
     refine tX ?_; refine uU ?_; (iterate 2 refine uV ?_); refine vSu ?_; refine tE ?_; intro _ _; refine qW ?_; refine xU ?_; refine uW ?_ ?_ <;> (intro h hp k; (try subst k); (try simp only [q_n] at hp); try first | omega | (cases hp; done));
     (iterate 3 refine vF ?_); refine tZ ?_; refine zC ?_; show EX _ _ _ _ _; refine zG rfl (by rfl) ?_; refine zY (zZ ?_); refine zP ?_; refine zX (zV ?_); simp only [yX]; rotate_left; refine vLa ?_; apply uX; rfl; (rfl); rfl; rfl; (intro σ' hl; (refine yJ ?_; exact cs _)); intro _ _; apply uX; rfl; (rfl); rfl; rfl; (intro σ' hl; (apply tD <;> rfl)); intro _ _; refine qW ?_; refine zC ?_; show EX _ _ _ _ _; refine yN ?_ ?_ <;> (intro h hp k; (try subst k); (try simp only [q_n] at hp); try first | omega | (cases hp; done));
     refine zY (zZ ?_); refine zP ?_; refine zX (zV ?_); simp only [yX]; rotate_left; refine zW (zY (zZ ?_)); refine yG ?_; refine xY ?_; intro _ _; refine zR ?_; refine xT ?_ ?_ <;> (intro h hp k; (try subst k); (try simp only [q_n] at hp); try first | omega | (cases hp; done));
     (iterate 2 refine vN ?_); refine wL ?_; apply yZ; rfl; (rfl); rfl; rfl; (apply wG <;> rfl); apply yZ; rfl; (rfl); rfl; rfl; (apply wG <;> rfl); rotate_left; (iterate 10 refine yC ?_); refine yB ?_; refine zX (yH rfl (by rfl) ?_); refine zW (zZ (zR ?_)); refine vX ?_; refine zP ?_; refine zQ ?_; simp only [zA, zF, zE, zH, yK, ↓reduceIte, Nat.reduceEqDiff]; rotate_left
     all_goals ((repeat (rename BV _ _ => k; first | cases k | clear k)); try exact zN)
     all_goals
      refine xW ?_
      rfl
    ·refine zY (zY (zZ ?_)); (iterate 2 refine zR ?_); refine wH ?_; refine zD ?_ ?_ <;> (intro h hp; (try simp only [q_n] at hp); try first | omega | (cases hp; done));
     refine zW (zY (zT ?_)); refine zY (zZ ?_); (iterate 2 refine zR ?_); refine vG ?_; refine yA ?_; refine xK ?_; intro _; refine yR ?_; refine zX (zY ?_); refine zY (xV rfl rfl (by kernel_rfl) rfl ?_); refine yU rfl (by kernel_rfl) rfl ?_; refine xU ?_; refine wBi ?_; intro _ _; refine xU ?_; refine uW ?_ ?_ <;> (intro h hp k; (try subst k); (try simp only [q_n] at hp); try first | omega | (cases hp; done));
     refine tX ?_; refine uU ?_; (iterate 2 refine uV ?_); refine vSu ?_; refine vIx ?_; refine tX ?_; refine uU ?_; refine tE ?_; intro _ _; refine tZ ?_; refine zC ?_; show EX _ _ _ _ _; refine yN ?_ ?_ <;> (intro h hp k; (try subst k); (try simp only [q_n] at hp); try first | omega | (cases hp; done));
     refine zZ (zR ?_); refine zP ?_; refine zX (zY ?_); refine zY (xV rfl rfl (by kernel_rfl) rfl ?_); refine yU rfl (by kernel_rfl) rfl ?_; refine vR ?_; refine vW ?_; refine wBi ?_; intro _ _; refine xU ?_; refine uW ?_ ?_ <;> (intro h hp k; (try subst k); (try simp only [q_n] at hp); try first | omega | (cases hp; done));
     (iterate 3 refine vF ?_); refine tZ ?_; refine xU ?_; (iterate 3 refine vF ?_); (iterate 9 refine wS rfl rfl rfl ?_); refine vF ?_; refine tZ ?_; refine xU ?_; (iterate 6 refine vF ?_); refine tZ ?_; refine xU ?_; (iterate 3 refine vF ?_); refine tZ ?_; refine zC ?_; show EX _ _ _ _ _; refine zG rfl (by rfl) ?_; refine zY (zZ ?_); refine zP ?_; refine zX (zV ?_); simp only [yX]; rotate_left; refine tX ?_; refine uU ?_; refine tE ?_; intro _ _; refine qW ?_; refine xU ?_; refine uW ?_ ?_ <;> (intro h hp k; (try subst k); (try simp only [q_n] at hp); try first | omega | (cases hp; done));
     (iterate 3 refine vF ?_); (iterate 9 refine wS rfl rfl rfl ?_); refine vF ?_; refine tZ ?_; refine xU ?_; (iterate 6 refine vF ?_); refine tZ ?_; refine xU ?_; (iterate 3 refine vF ?_); refine tZ ?_; refine zC ?_; show EX _ _ _ _ _; refine zG rfl (by rfl) ?_; refine zY (zZ ?_); refine zP ?_; refine zX (zV ?_); simp only [yX]; rotate_left; refine uV ?_; refine tE ?_; intro _ _; refine uV ?_; refine uW ?_ ?_ <;> (intro h hp k; (try subst k); (try simp only [q_n] at hp); try first | omega | (cases hp; done));
     refine tX ?_; refine uU ?_; (iterate 2 refine uV ?_); refine vSu ?_; refine vIx ?_; refine tX ?_; refine uU ?_; refine tE ?_; intro _ _; refine vPt ?_; refine qW ?_; refine xU ?_; refine uW ?_ ?_ <;> (intro h hp k; (try subst k); (try simp only [q_n] at hp); try first | omega | (cases hp; done));
     (iterate 6 refine vF ?_); refine tZ ?_; refine xU ?_; (iterate 3 refine vF ?_); refine tZ ?_; refine zC ?_; show EX _ _ _ _ _; refine zG rfl (by rfl) ?_; refine zY (zZ ?_); refine zP ?_; refine zX (zV ?_); simp only [yX]; rotate_left; refine tX ?_; refine uU ?_; (iterate 2 refine uV ?_); refine vSu ?_; refine tE ?_; intro _ _; refine qW ?_; refine xU ?_; refine uW ?_ ?_ <;> (intro h hp k; (try subst k); (try simp only [q_n] at hp); try first | omega | (cases hp; done));
     (iterate 3 refine vF ?_); refine tZ ?_; refine zC ?_; show EX _ _ _ _ _; refine zG rfl (by rfl) ?_; refine zY (zZ ?_); refine zP ?_; refine zX (zV ?_); simp only [yX]; rotate_left; refine vLa ?_; apply uX; rfl; (rfl); rfl; rfl; (intro σ' hl; (refine yJ ?_; exact cs _)); intro _ _; apply uX; rfl; (rfl); rfl; rfl; (intro σ' hl; (apply tD <;> rfl)); intro _ _; refine qW ?_; refine zC ?_; show EX _ _ _ _ _; refine yN ?_ ?_ <;> (intro h hp k; (try subst k); (try simp only [q_n] at hp); try first | omega | (cases hp; done));
     refine zY (zZ ?_); refine zP ?_; refine zX (zV ?_); simp only [yX]; rotate_left; refine zW (zY (zZ ?_)); refine yG ?_; refine xY ?_; intro _ _; refine zR ?_; refine xT ?_ ?_ <;> (intro h hp k; (try subst k); (try simp only [q_n] at hp); try first | omega | (cases hp; done));
     (iterate 2 refine vN ?_); refine wL ?_; apply yZ; rfl; (rfl); rfl; rfl; (apply wG <;> rfl); apply yZ; rfl; (rfl); rfl; rfl; (apply wG <;> rfl); rotate_left; (iterate 10 refine yC ?_); refine yB ?_; refine zX (yH rfl (by rfl) ?_); refine zW (zZ (zR ?_)); refine vX ?_; refine zP ?_; refine zQ ?_; simp only [zA, zF, zE, zH, yK, ↓reduceIte, Nat.reduceEqDiff]; rotate_left
     all_goals ((repeat (rename BV _ _ => k; first | cases k | clear k)); try exact zN)
     all_goals
      refine xW ?_
      rfl
  | true =>
   rw [hv] at cs
   cases hpv : pW l i with
   | none =>
    have hi0 : i = 0 := by
     cases i with
     | zero => rfl
     | succ j => have : pW l (j + 1) = l[j]? := rfl; rw [this, List.getElem?_eq_getElem (by omega)] at hpv; cases hpv
    have hFf : F = f := by rw [← hF]; unfold nextF; rw [hpv]
    clear hF
    subst hFf
    by_cases ha : (0 ≤ s.tab ∧ s.tab < 8) ∧ s.seq = (i : Int) - F
    ·by_cases hk : s.kind = 3
     ·have ho := tT hv hk
      exfalso; omega
     ·have hKt : K = true := hpos ⟨ha.1, fun q hq => (by rw [hpv] at hq; cases hq), ha.2, hv, fun h => absurd h hk⟩
      have hn1 := hnx hKt
      have hn2 := hnf hKt
      clear hend0 hpos hnx hnf hpr hpv hI2
      refine zY (zY (zZ ?_)); (iterate 2 refine zR ?_); refine wH ?_; refine zD ?_ ?_ <;> (intro h hp; (try simp only [q_n] at hp); try first | omega | (cases hp; done));
      refine zW (zY (zT ?_)); refine zY (zZ ?_); (iterate 2 refine zR ?_); refine vG ?_; refine yA ?_; refine xK ?_; intro _; refine yR ?_; refine zX (zY ?_); refine zY (xV rfl rfl (by kernel_rfl) rfl ?_); refine yU rfl (by kernel_rfl) rfl ?_; refine xU ?_; refine wBi ?_; intro _ _; refine xU ?_; refine uW ?_ ?_ <;> (intro h hp k; (try subst k); (try simp only [q_n] at hp); try first | omega | (cases hp; done));
      (iterate 9 refine vF ?_); refine qW ?_; refine zC ?_; show EX _ _ _ _ _; refine yH rfl (by rfl) ?_; refine zW (zY ?_); refine zY (xV rfl rfl (by kernel_rfl) rfl ?_); refine yU rfl (by kernel_rfl) rfl ?_; refine vR ?_; refine vW ?_; refine wBi ?_; intro _ _; refine xU ?_; refine uW ?_ ?_ <;> (intro h hp k; (try subst k); (try simp only [q_n] at hp); try first | omega | (cases hp; done));
      refine tX ?_; refine uU ?_; refine tE ?_; intro _ _; refine qW ?_; refine xU ?_; refine uW ?_ ?_ <;> (intro h hp k; (try subst k); (try simp only [q_n] at hp); try first | omega | (cases hp; done));
      refine uV ?_; refine tE ?_; intro _ _; refine uV ?_; refine uW ?_ ?_ <;> (intro h hp k; (try subst k); (try simp only [q_n] at hp); try first | omega | (cases hp; done));
      (iterate 9 refine vF ?_); refine vPf ?_; refine qW ?_; refine xU ?_; refine tX ?_; refine uU ?_; (iterate 2 refine uV ?_); refine vSu ?_; refine tE ?_; intro _ _; refine qW ?_; refine xU ?_; refine uW ?_ ?_ <;> (intro h hp k; (try subst k); (try simp only [q_n] at hp); try first | omega | (cases hp; done));
      refine vLa ?_; apply uX; rfl; (rfl); rfl; rfl; (intro σ' hl; (refine yJ ?_; exact cs _)); intro _ _; apply uX; rfl; (rfl); rfl; rfl; (intro σ' hl; (apply tD <;> rfl)); intro _ _; refine qW ?_; refine zC ?_; show EX _ _ _ _ _; refine yN ?_ ?_ <;> (intro h hp k; (try subst k); (try simp only [q_n] at hp); try first | omega | (cases hp; done));
      refine zY (zZ ?_); refine zP ?_; refine zX (zV ?_); simp only [yX]; rotate_left; refine zW (zY (zZ ?_)); refine yG ?_; refine xY ?_; intro _ _; refine zR ?_; refine xT ?_ ?_ <;> (intro h hp k; (try subst k); (try simp only [q_n] at hp); try first | omega | (cases hp; done));
      (iterate 10 refine yC ?_); refine yB ?_; refine zX (yH rfl (by rfl) ?_); refine zW (zZ (zR ?_)); refine vX ?_; refine zP ?_; refine zQ ?_; simp only [zA, zF, zE, zH, yK, ↓reduceIte, Nat.reduceEqDiff]; rotate_left
      all_goals ((repeat (rename BV _ _ => k; first | cases k | clear k)); try exact zN)
      refine ⟨(i + 1, F), ⟨hi, hn2, hn1⟩, by dsimp only; omega, ?_⟩
      dsimp only
      exact wW
    ·have hBf : B = false := hend0 fun h => ha ⟨h.1, h.2.2.1⟩
     rw [hBf]
     clear hend0 hpos hnx hnf hpr hpv hI2
     refine zY (zY (zZ ?_)); (iterate 2 refine zR ?_); refine wH ?_; refine zD ?_ ?_ <;> (intro h hp; (try simp only [q_n] at hp); try first | omega | (cases hp; done));
     refine zW (zY (zT ?_)); refine zY (zZ ?_); (iterate 2 refine zR ?_); refine vG ?_; refine yA ?_; refine xK ?_; intro _; refine yR ?_; refine zX (zY ?_); refine zY (xV rfl rfl (by kernel_rfl) rfl ?_); refine yU rfl (by kernel_rfl) rfl ?_; refine xU ?_; refine wBi ?_; intro _ _; refine xU ?_; refine uW ?_ ?_ <;> (intro h hp k; (try subst k); (try simp only [q_n] at hp); try first | omega | (cases hp; done));
     (iterate 9 refine vF ?_); refine qW ?_; refine zC ?_; show EX _ _ _ _ _; refine yH rfl (by rfl) ?_; refine zW (zY ?_); refine zY (xV rfl rfl (by kernel_rfl) rfl ?_); refine yU rfl (by kernel_rfl) rfl ?_; refine vR ?_; refine vW ?_; refine wBi ?_; intro _ _; refine xU ?_; refine uW ?_ ?_ <;> (intro h hp k; (try subst k); (try simp only [q_n] at hp); try first | omega | (cases hp; done));
     (iterate 3 refine vF ?_); refine tZ ?_; refine xU ?_; (iterate 3 refine vF ?_); (iterate 9 refine wS rfl rfl rfl ?_); refine vF ?_; refine tZ ?_; refine xU ?_; (iterate 6 refine vF ?_); refine tZ ?_; refine xU ?_; (iterate 3 refine vF ?_); refine tZ ?_; refine zC ?_; show EX _ _ _ _ _; refine zG rfl (by rfl) ?_; refine zY (zZ ?_); refine zP ?_; refine zX (zV ?_); simp only [yX]; rotate_left; refine tX ?_; refine uU ?_; refine tE ?_; intro _ _; refine qW ?_; refine xU ?_; refine uW ?_ ?_ <;> (intro h hp k; (try subst k); (try simp only [q_n] at hp); try first | omega | (cases hp; done));
     (iterate 3 refine vF ?_); (iterate 9 refine wS rfl rfl rfl ?_); refine vF ?_; refine tZ ?_; refine xU ?_; (iterate 6 refine vF ?_); refine tZ ?_; refine xU ?_; (iterate 3 refine vF ?_); refine tZ ?_; refine zC ?_; show EX _ _ _ _ _; refine zG rfl (by rfl) ?_; refine zY (zZ ?_); refine zP ?_; refine zX (zV ?_); simp only [yX]; rotate_left; refine uV ?_; refine tE ?_; intro _ _; refine uV ?_; refine uW ?_ ?_ <;> (intro h hp k; (try subst k); (try simp only [q_n] at hp); try first | omega | (cases hp; done));
     (iterate 9 refine vF ?_); refine vPf ?_; refine qW ?_; refine xU ?_; refine tX ?_; refine uU ?_; (iterate 2 refine uV ?_); refine vSu ?_; refine tE ?_; intro _ _; refine qW ?_; refine xU ?_; refine uW ?_ ?_ <;> (intro h hp k; (try subst k); (try simp only [q_n] at hp); try first | omega | (cases hp; done));
     (iterate 3 refine vF ?_); refine tZ ?_; refine zC ?_; show EX _ _ _ _ _; refine zG rfl (by rfl) ?_; refine zY (zZ ?_); refine zP ?_; refine zX (zV ?_); simp only [yX]; rotate_left
     all_goals ((repeat (rename BV _ _ => k; first | cases k | clear k)); try exact zN)
     all_goals
      refine xW ?_
      rfl
   | some p =>
    obtain ⟨hi1, hpp⟩ := hpr p hpv
    have hgp := uH hpp
    have hzi : (i : Int) - 1 = ((i - 1 : Nat) : Int) := by omega
    by_cases e : s.tab = p.tab
    ·have hFf : F = f := by rw [← hF]; unfold nextF; rw [hpv]; exact if_pos e
     clear hF
     subst hFf
     by_cases ha : (0 ≤ s.tab ∧ s.tab < 8) ∧ p.tab ≤ s.tab ∧ s.seq = (i : Int) - F
     ·by_cases hk : s.kind = 3
      ·have ho := tT hv hk
       obtain ⟨j, hj⟩ : ∃ j : Nat, F + (s.off - 1).toNat = j := ⟨_, rfl⟩
       have hjl : j < l.length := by omega
       obtain ⟨y, hy⟩ : ∃ y, l[j]? = some y := yW hjl
       have hgy := uH hy
       have hz : (F : Int) + s.off - 1 = (j : Int) := by omega
       by_cases hyk : y.kind = 3
       ·have hBf : B = false := hend0 fun h => h.2.2.2.2 hk y (by rw [hj]; exact hy) hyk
        rw [hBf]
        clear hend0 hpos hnx hnf hpr hpv hI2
        refine zY (zY (zZ ?_)); (iterate 2 refine zR ?_); refine wH ?_; refine zD ?_ ?_ <;> (intro h hp; (try simp only [q_n] at hp); try first | omega | (cases hp; done));
        refine zW (zY (zT ?_)); refine zY (zZ ?_); (iterate 2 refine zR ?_); refine vG ?_; refine yA ?_; refine xK ?_; intro _; refine yR ?_; refine zX (zY ?_); refine zY (xV rfl rfl (by kernel_rfl) rfl ?_); refine yU rfl (by kernel_rfl) rfl ?_; refine xU ?_; refine wBi ?_; intro _ _; refine xU ?_; refine uW ?_ ?_ <;> (intro h hp k; (try subst k); (try simp only [q_n] at hp); try first | omega | (cases hp; done));
        refine tX ?_; refine uU ?_; (iterate 2 refine uV ?_); refine vSu ?_; refine vIx ?_; refine tX ?_; refine uU ?_; refine tE ?_; intro _ _; refine tZ ?_; refine zC ?_; show EX _ _ _ _ _; refine yN ?_ ?_ <;> (intro h hp k; (try subst k); (try simp only [q_n] at hp); try first | omega | (cases hp; done));
        refine zW (zY ?_); refine zY (xV rfl rfl (by kernel_rfl) rfl ?_); refine yU rfl (by kernel_rfl) rfl ?_; refine vR ?_; refine vW ?_; refine wBi ?_; intro _ _; refine xU ?_; refine uW ?_ ?_ <;> (intro h hp k; (try subst k); (try simp only [q_n] at hp); try first | omega | (cases hp; done));
        refine tX ?_; refine uU ?_; refine tE ?_; intro _ _; refine qW ?_; refine xU ?_; refine uW ?_ ?_ <;> (intro h hp k; (try subst k); (try simp only [q_n] at hp); try first | omega | (cases hp; done));
        refine uV ?_; refine tE ?_; intro _ _; refine uV ?_; refine uW ?_ ?_ <;> (intro h hp k; (try subst k); (try simp only [q_n] at hp); try first | omega | (cases hp; done));
        refine tX ?_; refine uU ?_; (iterate 2 refine uV ?_); refine vSu ?_; refine vIx ?_; refine tX ?_; refine uU ?_; refine tE ?_; intro _ _; refine vPt ?_; refine qW ?_; refine xU ?_; refine uW ?_ ?_ <;> (intro h hp k; (try subst k); (try simp only [q_n] at hp); try first | omega | (cases hp; done));
        refine tX ?_; refine uU ?_; (iterate 2 refine uV ?_); refine vSu ?_; refine tE ?_; intro _ _; refine qW ?_; refine xU ?_; refine uW ?_ ?_ <;> (intro h hp k; (try subst k); (try simp only [q_n] at hp); try first | omega | (cases hp; done));
        refine vLa ?_; apply uX; rfl; (rfl); rfl; rfl; (intro σ' hl; (refine yJ ?_; exact cs _)); intro _ _; apply uX; rfl; (rfl); rfl; rfl; (intro σ' hl; (apply tD <;> rfl)); intro _ _; refine qW ?_; refine zC ?_; show EX _ _ _ _ _; refine yN ?_ ?_ <;> (intro h hp k; (try subst k); (try simp only [q_n] at hp); try first | omega | (cases hp; done));
        refine zY (zZ ?_); refine zP ?_; refine zX (zV ?_); simp only [yX]; rotate_left; refine zW (zY (zZ ?_)); refine yG ?_; refine xY ?_; intro _ _; refine zR ?_; refine xT ?_ ?_ <;> (intro h hp k; (try subst k); (try simp only [q_n] at hp); try first | omega | (cases hp; done));
        (iterate 2 refine vN ?_); refine wL ?_; refine yAd ?_; refine ySu ?_; refine yIx ?_; refine wL ?_; refine wT ?_; intro _ _; refine xF ?_; refine zX (yN ?_ ?_) <;> (intro h hp k; (try subst k); (try simp only [q_n] at hp); try first | omega | (cases hp; done));
        refine zY (zZ ?_); refine zP ?_; refine zX (zV ?_); simp only [yX]; rotate_left
        all_goals ((repeat (rename BV _ _ => k; first | cases k | clear k)); try exact zN)
        all_goals
         refine xW ?_
         rfl
       ·have hKt : K = true := hpos ⟨ha.1, fun q hq => (by rw [hpv] at hq; cases hq; exact ha.2.1), ha.2.2, hv, fun _ y' hy' => by rw [hj, hy] at hy'; cases hy'; exact hyk⟩
        have hn1 := hnx hKt
        have hn2 := hnf hKt
        clear hend0 hpos hnx hnf hpr hpv hI2
        refine zY (zY (zZ ?_)); (iterate 2 refine zR ?_); refine wH ?_; refine zD ?_ ?_ <;> (intro h hp; (try simp only [q_n] at hp); try first | omega | (cases hp; done));
        refine zW (zY (zT ?_)); refine zY (zZ ?_); (iterate 2 refine zR ?_); refine vG ?_; refine yA ?_; refine xK ?_; intro _; refine yR ?_; refine zX (zY ?_); refine zY (xV rfl rfl (by kernel_rfl) rfl ?_); refine yU rfl (by kernel_rfl) rfl ?_; refine xU ?_; refine wBi ?_; intro _ _; refine xU ?_; refine uW ?_ ?_ <;> (intro h hp k; (try subst k); (try simp only [q_n] at hp); try first | omega | (cases hp; done));
        refine tX ?_; refine uU ?_; (iterate 2 refine uV ?_); refine vSu ?_; refine vIx ?_; refine tX ?_; refine uU ?_; refine tE ?_; intro _ _; refine tZ ?_; refine zC ?_; show EX _ _ _ _ _; refine yN ?_ ?_ <;> (intro h hp k; (try subst k); (try simp only [q_n] at hp); try first | omega | (cases hp; done));
        refine zW (zY ?_); refine zY (xV rfl rfl (by kernel_rfl) rfl ?_); refine yU rfl (by kernel_rfl) rfl ?_; refine vR ?_; refine vW ?_; refine wBi ?_; intro _ _; refine xU ?_; refine uW ?_ ?_ <;> (intro h hp k; (try subst k); (try simp only [q_n] at hp); try first | omega | (cases hp; done));
        refine tX ?_; refine uU ?_; refine tE ?_; intro _ _; refine qW ?_; refine xU ?_; refine uW ?_ ?_ <;> (intro h hp k; (try subst k); (try simp only [q_n] at hp); try first | omega | (cases hp; done));
        refine uV ?_; refine tE ?_; intro _ _; refine uV ?_; refine uW ?_ ?_ <;> (intro h hp k; (try subst k); (try simp only [q_n] at hp); try first | omega | (cases hp; done));
        refine tX ?_; refine uU ?_; (iterate 2 refine uV ?_); refine vSu ?_; refine vIx ?_; refine tX ?_; refine uU ?_; refine tE ?_; intro _ _; refine vPt ?_; refine qW ?_; refine xU ?_; refine uW ?_ ?_ <;> (intro h hp k; (try subst k); (try simp only [q_n] at hp); try first | omega | (cases hp; done));
        refine tX ?_; refine uU ?_; (iterate 2 refine uV ?_); refine vSu ?_; refine tE ?_; intro _ _; refine qW ?_; refine xU ?_; refine uW ?_ ?_ <;> (intro h hp k; (try subst k); (try simp only [q_n] at hp); try first | omega | (cases hp; done));
        refine vLa ?_; apply uX; rfl; (rfl); rfl; rfl; (intro σ' hl; (refine yJ ?_; exact cs _)); intro _ _; apply uX; rfl; (rfl); rfl; rfl; (intro σ' hl; (apply tD <;> rfl)); intro _ _; refine qW ?_; refine zC ?_; show EX _ _ _ _ _; refine yN ?_ ?_ <;> (intro h hp k; (try subst k); (try simp only [q_n] at hp); try first | omega | (cases hp; done));
        refine zY (zZ ?_); refine zP ?_; refine zX (zV ?_); simp only [yX]; rotate_left; refine zW (zY (zZ ?_)); refine yG ?_; refine xY ?_; intro _ _; refine zR ?_; refine xT ?_ ?_ <;> (intro h hp k; (try subst k); (try simp only [q_n] at hp); try first | omega | (cases hp; done));
        (iterate 2 refine vN ?_); refine wL ?_; refine yAd ?_; refine ySu ?_; refine yIx ?_; refine wL ?_; refine wT ?_; intro _ _; refine xF ?_; refine zX (yN ?_ ?_) <;> (intro h hp k; (try subst k); (try simp only [q_n] at hp); try first | omega | (cases hp; done));
        refine zW (zZ (zR ?_)); refine vX ?_; refine zP ?_; refine zQ ?_; simp only [zA, zF, zE, zH, yK, ↓reduceIte, Nat.reduceEqDiff]; rotate_left
        all_goals ((repeat (rename BV _ _ => k; first | cases k | clear k)); try exact zN)
        refine ⟨(i + 1, F), ⟨hi, hn2, hn1⟩, by dsimp only; omega, ?_⟩
        dsimp only
        exact wW
      ·have hKt : K = true := hpos ⟨ha.1, fun q hq => (by rw [hpv] at hq; cases hq; exact ha.2.1), ha.2.2, hv, fun h => absurd h hk⟩
       have hn1 := hnx hKt
       have hn2 := hnf hKt
       clear hend0 hpos hnx hnf hpr hpv hI2
       refine zY (zY (zZ ?_)); (iterate 2 refine zR ?_); refine wH ?_; refine zD ?_ ?_ <;> (intro h hp; (try simp only [q_n] at hp); try first | omega | (cases hp; done));
       refine zW (zY (zT ?_)); refine zY (zZ ?_); (iterate 2 refine zR ?_); refine vG ?_; refine yA ?_; refine xK ?_; intro _; refine yR ?_; refine zX (zY ?_); refine zY (xV rfl rfl (by kernel_rfl) rfl ?_); refine yU rfl (by kernel_rfl) rfl ?_; refine xU ?_; refine wBi ?_; intro _ _; refine xU ?_; refine uW ?_ ?_ <;> (intro h hp k; (try subst k); (try simp only [q_n] at hp); try first | omega | (cases hp; done));
       refine tX ?_; refine uU ?_; (iterate 2 refine uV ?_); refine vSu ?_; refine vIx ?_; refine tX ?_; refine uU ?_; refine tE ?_; intro _ _; refine tZ ?_; refine zC ?_; show EX _ _ _ _ _; refine yN ?_ ?_ <;> (intro h hp k; (try subst k); (try simp only [q_n] at hp); try first | omega | (cases hp; done));
       refine zW (zY ?_); refine zY (xV rfl rfl (by kernel_rfl) rfl ?_); refine yU rfl (by kernel_rfl) rfl ?_; refine vR ?_; refine vW ?_; refine wBi ?_; intro _ _; refine xU ?_; refine uW ?_ ?_ <;> (intro h hp k; (try subst k); (try simp only [q_n] at hp); try first | omega | (cases hp; done));
       refine tX ?_; refine uU ?_; refine tE ?_; intro _ _; refine qW ?_; refine xU ?_; refine uW ?_ ?_ <;> (intro h hp k; (try subst k); (try simp only [q_n] at hp); try first | omega | (cases hp; done));
       refine uV ?_; refine tE ?_; intro _ _; refine uV ?_; refine uW ?_ ?_ <;> (intro h hp k; (try subst k); (try simp only [q_n] at hp); try first | omega | (cases hp; done));
       refine tX ?_; refine uU ?_; (iterate 2 refine uV ?_); refine vSu ?_; refine vIx ?_; refine tX ?_; refine uU ?_; refine tE ?_; intro _ _; refine vPt ?_; refine qW ?_; refine xU ?_; refine uW ?_ ?_ <;> (intro h hp k; (try subst k); (try simp only [q_n] at hp); try first | omega | (cases hp; done));
       refine tX ?_; refine uU ?_; (iterate 2 refine uV ?_); refine vSu ?_; refine tE ?_; intro _ _; refine qW ?_; refine xU ?_; refine uW ?_ ?_ <;> (intro h hp k; (try subst k); (try simp only [q_n] at hp); try first | omega | (cases hp; done));
       refine vLa ?_; apply uX; rfl; (rfl); rfl; rfl; (intro σ' hl; (refine yJ ?_; exact cs _)); intro _ _; apply uX; rfl; (rfl); rfl; rfl; (intro σ' hl; (apply tD <;> rfl)); intro _ _; refine qW ?_; refine zC ?_; show EX _ _ _ _ _; refine yN ?_ ?_ <;> (intro h hp k; (try subst k); (try simp only [q_n] at hp); try first | omega | (cases hp; done));
       refine zY (zZ ?_); refine zP ?_; refine zX (zV ?_); simp only [yX]; rotate_left; refine zW (zY (zZ ?_)); refine yG ?_; refine xY ?_; intro _ _; refine zR ?_; refine xT ?_ ?_ <;> (intro h hp k; (try subst k); (try simp only [q_n] at hp); try first | omega | (cases hp; done));
       (iterate 10 refine yC ?_); refine yB ?_; refine zX (yH rfl (by rfl) ?_); refine zW (zZ (zR ?_)); refine vX ?_; refine zP ?_; refine zQ ?_; simp only [zA, zF, zE, zH, yK, ↓reduceIte, Nat.reduceEqDiff]; rotate_left
       all_goals ((repeat (rename BV _ _ => k; first | cases k | clear k)); try exact zN)
       refine ⟨(i + 1, F), ⟨hi, hn2, hn1⟩, by dsimp only; omega, ?_⟩
       dsimp only
       exact wW
     ·have hBf : B = false := hend0 fun h => ha ⟨h.1, h.2.1 p hpv, h.2.2.1⟩
      rw [hBf]
      clear hend0 hpos hnx hnf hpr hpv hI2
      refine zY (zY (zZ ?_)); (iterate 2 refine zR ?_); refine wH ?_; refine zD ?_ ?_ <;> (intro h hp; (try simp only [q_n] at hp); try first | omega | (cases hp; done));
      refine zW (zY (zT ?_)); refine zY (zZ ?_); (iterate 2 refine zR ?_); refine vG ?_; refine yA ?_; refine xK ?_; intro _; refine yR ?_; refine zX (zY ?_); refine zY (xV rfl rfl (by kernel_rfl) rfl ?_); refine yU rfl (by kernel_rfl) rfl ?_; refine xU ?_; refine wBi ?_; intro _ _; refine xU ?_; refine uW ?_ ?_ <;> (intro h hp k; (try subst k); (try simp only [q_n] at hp); try first | omega | (cases hp; done));
      refine tX ?_; refine uU ?_; (iterate 2 refine uV ?_); refine vSu ?_; refine vIx ?_; refine tX ?_; refine uU ?_; refine tE ?_; intro _ _; refine tZ ?_; refine zC ?_; show EX _ _ _ _ _; refine yN ?_ ?_ <;> (intro h hp k; (try subst k); (try simp only [q_n] at hp); try first | omega | (cases hp; done));
      refine zW (zY ?_); refine zY (xV rfl rfl (by kernel_rfl) rfl ?_); refine yU rfl (by kernel_rfl) rfl ?_; refine vR ?_; refine vW ?_; refine wBi ?_; intro _ _; refine xU ?_; refine uW ?_ ?_ <;> (intro h hp k; (try subst k); (try simp only [q_n] at hp); try first | omega | (cases hp; done));
      (iterate 3 refine vF ?_); refine tZ ?_; refine xU ?_; (iterate 3 refine vF ?_); (iterate 9 refine wS rfl rfl rfl ?_); refine vF ?_; refine tZ ?_; refine xU ?_; (iterate 6 refine vF ?_); refine tZ ?_; refine xU ?_; (iterate 3 refine vF ?_); refine tZ ?_; refine zC ?_; show EX _ _ _ _ _; refine zG rfl (by rfl) ?_; refine zY (zZ ?_); refine zP ?_; refine zX (zV ?_); simp only [yX]; rotate_left; refine tX ?_; refine uU ?_; refine tE ?_; intro _ _; refine qW ?_; refine xU ?_; refine uW ?_ ?_ <;> (intro h hp k; (try subst k); (try simp only [q_n] at hp); try first | omega | (cases hp; done));
      (iterate 3 refine vF ?_); (iterate 9 refine wS rfl rfl rfl ?_); refine vF ?_; refine tZ ?_; refine xU ?_; (iterate 6 refine vF ?_); refine tZ ?_; refine xU ?_; (iterate 3 refine vF ?_); refine tZ ?_; refine zC ?_; show EX _ _ _ _ _; refine zG rfl (by rfl) ?_; refine zY (zZ ?_); refine zP ?_; refine zX (zV ?_); simp only [yX]; rotate_left; refine uV ?_; refine tE ?_; intro _ _; refine uV ?_; refine uW ?_ ?_ <;> (intro h hp k; (try subst k); (try simp only [q_n] at hp); try first | omega | (cases hp; done));
      refine tX ?_; refine uU ?_; (iterate 2 refine uV ?_); refine vSu ?_; refine vIx ?_; refine tX ?_; refine uU ?_; refine tE ?_; intro _ _; refine vPt ?_; refine qW ?_; refine xU ?_; refine uW ?_ ?_ <;> (intro h hp k; (try subst k); (try simp only [q_n] at hp); try first | omega | (cases hp; done));
      refine tX ?_; refine uU ?_; (iterate 2 refine uV ?_); refine vSu ?_; refine tE ?_; intro _ _; refine qW ?_; refine xU ?_; refine uW ?_ ?_ <;> (intro h hp k; (try subst k); (try simp only [q_n] at hp); try first | omega | (cases hp; done));
      (iterate 3 refine vF ?_); refine tZ ?_; refine zC ?_; show EX _ _ _ _ _; refine zG rfl (by rfl) ?_; refine zY (zZ ?_); refine zP ?_; refine zX (zV ?_); simp only [yX]; rotate_left
      all_goals ((repeat (rename BV _ _ => k; first | cases k | clear k)); try exact zN)
      all_goals
       refine xW ?_
       rfl
    ·have hFf : F = i := by rw [← hF]; unfold nextF; rw [hpv]; exact if_neg e
     clear hF
     have hFf := hFf.symm
     subst hFf
     by_cases ha : (0 ≤ s.tab ∧ s.tab < 8) ∧ p.tab ≤ s.tab ∧ s.seq = (i : Int) - i
     ·by_cases hk : s.kind = 3
      ·have ho := tT hv hk
       exfalso; omega
      ·have hKt : K = true := hpos ⟨ha.1, fun q hq => (by rw [hpv] at hq; cases hq; exact ha.2.1), ha.2.2, hv, fun h => absurd h hk⟩
       have hn1 := hnx hKt
       have hn2 := hnf hKt
       clear hend0 hpos hnx hnf hpr hpv hI2
       refine zY (zY (zZ ?_)); (iterate 2 refine zR ?_); refine wH ?_; refine zD ?_ ?_ <;> (intro h hp; (try simp only [q_n] at hp); try first | omega | (cases hp; done));
       refine zW (zY (zT ?_)); refine zY (zZ ?_); (iterate 2 refine zR ?_); refine vG ?_; refine yA ?_; refine xK ?_; intro _; refine yR ?_; refine zX (zY ?_); refine zY (xV rfl rfl (by kernel_rfl) rfl ?_); refine yU rfl (by kernel_rfl) rfl ?_; refine xU ?_; refine wBi ?_; intro _ _; refine xU ?_; refine uW ?_ ?_ <;> (intro h hp k; (try subst k); (try simp only [q_n] at hp); try first | omega | (cases hp; done));
       refine tX ?_; refine uU ?_; (iterate 2 refine uV ?_); refine vSu ?_; refine vIx ?_; refine tX ?_; refine uU ?_; refine tE ?_; intro _ _; refine tZ ?_; refine zC ?_; show EX _ _ _ _ _; refine yN ?_ ?_ <;> (intro h hp k; (try subst k); (try simp only [q_n] at hp); try first | omega | (cases hp; done));
       refine zZ (zR ?_); refine zP ?_; refine zX (zY ?_); refine zY (xV rfl rfl (by kernel_rfl) rfl ?_); refine yU rfl (by kernel_rfl) rfl ?_; refine vR ?_; refine vW ?_; refine wBi ?_; intro _ _; refine xU ?_; refine uW ?_ ?_ <;> (intro h hp k; (try subst k); (try simp only [q_n] at hp); try first | omega | (cases hp; done));
       refine tX ?_; refine uU ?_; refine tE ?_; intro _ _; refine qW ?_; refine xU ?_; refine uW ?_ ?_ <;> (intro h hp k; (try subst k); (try simp only [q_n] at hp); try first | omega | (cases hp; done));
       refine uV ?_; refine tE ?_; intro _ _; refine uV ?_; refine uW ?_ ?_ <;> (intro h hp k; (try subst k); (try simp only [q_n] at hp); try first | omega | (cases hp; done));
       refine tX ?_; refine uU ?_; (iterate 2 refine uV ?_); refine vSu ?_; refine vIx ?_; refine tX ?_; refine uU ?_; refine tE ?_; intro _ _; refine vPt ?_; refine qW ?_; refine xU ?_; refine uW ?_ ?_ <;> (intro h hp k; (try subst k); (try simp only [q_n] at hp); try first | omega | (cases hp; done));
       refine tX ?_; refine uU ?_; (iterate 2 refine uV ?_); refine vSu ?_; refine tE ?_; intro _ _; refine qW ?_; refine xU ?_; refine uW ?_ ?_ <;> (intro h hp k; (try subst k); (try simp only [q_n] at hp); try first | omega | (cases hp; done));
       refine vLa ?_; apply uX; rfl; (rfl); rfl; rfl; (intro σ' hl; (refine yJ ?_; exact cs _)); intro _ _; apply uX; rfl; (rfl); rfl; rfl; (intro σ' hl; (apply tD <;> rfl)); intro _ _; refine qW ?_; refine zC ?_; show EX _ _ _ _ _; refine yN ?_ ?_ <;> (intro h hp k; (try subst k); (try simp only [q_n] at hp); try first | omega | (cases hp; done));
       refine zY (zZ ?_); refine zP ?_; refine zX (zV ?_); simp only [yX]; rotate_left; refine zW (zY (zZ ?_)); refine yG ?_; refine xY ?_; intro _ _; refine zR ?_; refine xT ?_ ?_ <;> (intro h hp k; (try subst k); (try simp only [q_n] at hp); try first | omega | (cases hp; done));
       (iterate 10 refine yC ?_); refine yB ?_; refine zX (yH rfl (by rfl) ?_); refine zW (zZ (zR ?_)); refine vX ?_; refine zP ?_; refine zQ ?_; simp only [zA, zF, zE, zH, yK, ↓reduceIte, Nat.reduceEqDiff]; rotate_left
       all_goals ((repeat (rename BV _ _ => k; first | cases k | clear k)); try exact zN)
       refine ⟨(i + 1, i), ⟨hi, hn2, hn1⟩, by dsimp only; omega, ?_⟩
       dsimp only
       exact wW
     ·have hBf : B = false := hend0 fun h => ha ⟨h.1, h.2.1 p hpv, h.2.2.1⟩
      rw [hBf]
      clear hend0 hpos hnx hnf hpr hpv hI2
      refine zY (zY (zZ ?_)); (iterate 2 refine zR ?_); refine wH ?_; refine zD ?_ ?_ <;> (intro h hp; (try simp only [q_n] at hp); try first | omega | (cases hp; done));
      refine zW (zY (zT ?_)); refine zY (zZ ?_); (iterate 2 refine zR ?_); refine vG ?_; refine yA ?_; refine xK ?_; intro _; refine yR ?_; refine zX (zY ?_); refine zY (xV rfl rfl (by kernel_rfl) rfl ?_); refine yU rfl (by kernel_rfl) rfl ?_; refine xU ?_; refine wBi ?_; intro _ _; refine xU ?_; refine uW ?_ ?_ <;> (intro h hp k; (try subst k); (try simp only [q_n] at hp); try first | omega | (cases hp; done));
      refine tX ?_; refine uU ?_; (iterate 2 refine uV ?_); refine vSu ?_; refine vIx ?_; refine tX ?_; refine uU ?_; refine tE ?_; intro _ _; refine tZ ?_; refine zC ?_; show EX _ _ _ _ _; refine yN ?_ ?_ <;> (intro h hp k; (try subst k); (try simp only [q_n] at hp); try first | omega | (cases hp; done));
      refine zZ (zR ?_); refine zP ?_; refine zX (zY ?_); refine zY (xV rfl rfl (by kernel_rfl) rfl ?_); refine yU rfl (by kernel_rfl) rfl ?_; refine vR ?_; refine vW ?_; refine wBi ?_; intro _ _; refine xU ?_; refine uW ?_ ?_ <;> (intro h hp k; (try subst k); (try simp only [q_n] at hp); try first | omega | (cases hp; done));
      (iterate 3 refine vF ?_); refine tZ ?_; refine xU ?_; (iterate 3 refine vF ?_); (iterate 9 refine wS rfl rfl rfl ?_); refine vF ?_; refine tZ ?_; refine xU ?_; (iterate 6 refine vF ?_); refine tZ ?_; refine xU ?_; (iterate 3 refine vF ?_); refine tZ ?_; refine zC ?_; show EX _ _ _ _ _; refine zG rfl (by rfl) ?_; refine zY (zZ ?_); refine zP ?_; refine zX (zV ?_); simp only [yX]; rotate_left; refine tX ?_; refine uU ?_; refine tE ?_; intro _ _; refine qW ?_; refine xU ?_; refine uW ?_ ?_ <;> (intro h hp k; (try subst k); (try simp only [q_n] at hp); try first | omega | (cases hp; done));
      (iterate 3 refine vF ?_); (iterate 9 refine wS rfl rfl rfl ?_); refine vF ?_; refine tZ ?_; refine xU ?_; (iterate 6 refine vF ?_); refine tZ ?_; refine xU ?_; (iterate 3 refine vF ?_); refine tZ ?_; refine zC ?_; show EX _ _ _ _ _; refine zG rfl (by rfl) ?_; refine zY (zZ ?_); refine zP ?_; refine zX (zV ?_); simp only [yX]; rotate_left; refine uV ?_; refine tE ?_; intro _ _; refine uV ?_; refine uW ?_ ?_ <;> (intro h hp k; (try subst k); (try simp only [q_n] at hp); try first | omega | (cases hp; done));
      refine tX ?_; refine uU ?_; (iterate 2 refine uV ?_); refine vSu ?_; refine vIx ?_; refine tX ?_; refine uU ?_; refine tE ?_; intro _ _; refine vPt ?_; refine qW ?_; refine xU ?_; refine uW ?_ ?_ <;> (intro h hp k; (try subst k); (try simp only [q_n] at hp); try first | omega | (cases hp; done));
      (iterate 6 refine vF ?_); refine tZ ?_; refine xU ?_; (iterate 3 refine vF ?_); refine tZ ?_; refine zC ?_; show EX _ _ _ _ _; refine zG rfl (by rfl) ?_; refine zY (zZ ?_); refine zP ?_; refine zX (zV ?_); simp only [yX]; rotate_left; refine tX ?_; refine uU ?_; (iterate 2 refine uV ?_); refine vSu ?_; refine tE ?_; intro _ _; refine qW ?_; refine xU ?_; refine uW ?_ ?_ <;> (intro h hp k; (try subst k); (try simp only [q_n] at hp); try first | omega | (cases hp; done));
      (iterate 3 refine vF ?_); refine tZ ?_; refine zC ?_; show EX _ _ _ _ _; refine zG rfl (by rfl) ?_; refine zY (zZ ?_); refine zP ?_; refine zX (zV ?_); simp only [yX]; rotate_left
      all_goals ((repeat (rename BV _ _ => k; first | cases k | clear k)); try exact zN)
      all_goals
       refine xW ?_
       rfl
 ·refine pS (t := 0) rfl ((List.length_map _).symm) (fun hlen => ?_)
  have hBt : B = true := by rw [← hB, book_iff]; exact fun j hj => hI3 j (by omega)
  rw [hBt]
  clear hI3 hI2
  refine zY (zY (zZ ?_)); (iterate 2 refine zR ?_); refine wH ?_; refine zD ?_ ?_ <;> (intro h hp; (try simp only [q_n] at hp); try first | omega | (cases hp; done));
  refine yQ ?_; refine zY (zZ ?_); refine zP ?_; refine zX (zV ?_); simp only [yX]; rotate_left
  all_goals ((repeat (rename BV _ _ => k; first | cases k | clear k)); try exact zN)
  refine xW ?_
  rfl
theorem rcheck_c (l : List Sl) (σ : List Ent) : SCall Tryz.prog 30 [.agg [sls l]] σ (Is (.int .i64 (xQ l)) σ) := by
 refine zL Tryz.func30 rfl (by simp) ?_
 have cv := rvalid_c l
 unfold xQ
 cases hb : qN l with
 | true =>
  rw [hb] at cv
  by_cases h : (512 : Int) < l.length
  ·rw [if_pos h]
   refine zY (zZ ?_); refine xB ?_; intro _; refine zP ?_; refine zX (zY (zY (zZ ?_))); refine yG ?_; refine wH ?_; refine zD ?_ ?_ <;> (intro h hp; (try simp only [q_n] at hp); try first | omega | (cases hp; done));
   refine zY (zZ ?_); refine zP ?_; refine zX (zV ?_); simp only [yX]; rotate_left
   all_goals ((repeat (rename BV _ _ => k; first | cases k | clear k)); try exact zN)
   refine xW ?_
   rfl
  ·rw [if_neg h]
   refine zY (zZ ?_); refine xB ?_; intro _; refine zP ?_; refine zX (zY (zY (zZ ?_))); refine yG ?_; refine wH ?_; refine zD ?_ ?_ <;> (intro h hp; (try simp only [q_n] at hp); try first | omega | (cases hp; done));
   refine zW (zY (zY (zZ ?_))); refine yG ?_; apply yE; rfl; rfl; rfl; (refine yJ ?_; exact cv _); intro _ _; refine qY ?_; intro _ _; refine zX (yN ?_ ?_) <;> (intro h hp k; (try subst k); (try simp only [q_n] at hp); try first | omega | (cases hp; done));
   refine zY (zZ ?_); refine zP ?_; refine zX (zV ?_); simp only [yX]; rotate_left; refine zW (zY (zZ ?_)); refine zP ?_; refine zX (zV ?_); simp only [yX]; rotate_left
   all_goals ((repeat (rename BV _ _ => k; first | cases k | clear k)); try exact zN)
   refine xW ?_
   rfl
 | false =>
  rw [hb] at cv
  by_cases h : (512 : Int) < l.length
  ·rw [if_pos h]
   refine zY (zZ ?_); refine xB ?_; intro _; refine zP ?_; refine zX (zY (zY (zZ ?_))); refine yG ?_; refine wH ?_; refine zD ?_ ?_ <;> (intro h hp; (try simp only [q_n] at hp); try first | omega | (cases hp; done));
   refine zY (zZ ?_); refine zP ?_; refine zX (zV ?_); simp only [yX]; rotate_left
   all_goals ((repeat (rename BV _ _ => k; first | cases k | clear k)); try exact zN)
   refine xW ?_
   rfl
  ·rw [if_neg h]
   refine zY (zZ ?_); refine xB ?_; intro _; refine zP ?_; refine zX (zY (zY (zZ ?_))); refine yG ?_; refine wH ?_; refine zD ?_ ?_ <;> (intro h hp; (try simp only [q_n] at hp); try first | omega | (cases hp; done));
   refine zW (zY (zY (zZ ?_))); refine yG ?_; apply yE; rfl; rfl; rfl; (refine yJ ?_; exact cv _); intro _ _; refine qY ?_; intro _ _; refine zX (yN ?_ ?_) <;> (intro h hp k; (try subst k); (try simp only [q_n] at hp); try first | omega | (cases hp; done));
   refine zY (zZ ?_); refine zP ?_; refine zX (zV ?_); simp only [yX]; rotate_left; refine zW (zY (zZ ?_)); refine zP ?_; refine zX (zV ?_); simp only [yX]; rotate_left
   all_goals ((repeat (rename BV _ _ => k; first | cases k | clear k)); try exact zN)
   refine xW ?_
   rfl
theorem rput_c (l : List Sl) (s : Sl) (hup : l.Pairwise fun x y => x.tab ≤ y.tab) (hl5 : l.length ≤ 100000) (σ : List Ent) : SCall Tryz.prog 32 [sls l, slV s] σ (Is (sls (uT l s)) σ) := by
 refine zL Tryz.func32 rfl (by simp) ?_
 refine zY (zZ ?_); refine xB ?_; intro _; refine zP ?_; refine zX (zY (zZ ?_)); refine zP ?_; refine zX (zY (zT ?_)); rotate_left
 all_goals ((repeat (rename BV _ _ => k; first | cases k | clear k)); try exact zN)
 rename Nat => b3; revert b3
 intro b3
 refine yD (fun (k : Nat) => (⟨[(0, sls l), (3, .ptr b3 0), (5, .int .i64 k)], .cells b3 (slC s) 43 :: σ, [], Tryz.f32.ntmps⟩ : St)) (fun k => k ≤ l.length ∧ ∀ y ∈ l.take k, y.tab ≤ s.tab) (fun k => l.length - k) 0 (⟨Nat.zero_le _, by simp⟩) (St.le_of (by repeat (first | exact trivial | refine ⟨rfl, ?_⟩)) (by repeat (first | exact q_r | apply q_q | apply q_k))) ?_
 intro k hI
 obtain ⟨hI1, hI2⟩ := hI
 refine pS (t := 0) rfl ((List.length_map _).symm) (fun hlen => ?_)
 by_cases hgo : ∃ c, l[k]? = some c ∧ c.tab ≤ s.tab
 ·obtain ⟨c, hc, hct⟩ := hgo
  have hk := wD hc
  have hgc := uH hc
  have hn : ∀ y ∈ l.take (k + 1), y.tab ≤ s.tab := fun x hx => by
   rcases (take_next hc).1 hx with hx | rfl
   ·exact hI2 x hx
   ·exact hct
  clear hI2
  refine zY ?_; refine zY (wN rfl rfl (by kernel_rfl) rfl ?_); refine yU rfl (by kernel_rfl) rfl ?_; (iterate 2 refine xU ?_); apply yY; rfl; rfl; rfl; (intro σ' hl; (apply xH; rfl; rfl; (exact (List.length_map _).symm))); refine wBi ?_; intro _ _; refine xU ?_; refine uW ?_ ?_ <;> (intro h hp k; (try subst k); (try simp only [q_n] at hp); try first | omega | (cases hp; done));
  (iterate 2 refine uV ?_); refine vIx ?_; refine tX ?_; refine uU ?_; refine tX ?_; refine uU ?_; refine tE ?_; intro _ _; refine tZ ?_; refine zC ?_; show EX _ _ _ _ _; refine yN ?_ ?_ <;> (intro h hp k; (try subst k); (try simp only [q_n] at hp); try first | omega | (cases hp; done));
  refine zW (zT ?_); refine zZ (zR ?_); refine vX ?_; refine zP ?_; refine zQ ?_; simp only [zA, zF, zE, zH, yK, ↓reduceIte, Nat.reduceEqDiff]; rotate_left
  all_goals ((repeat (rename BV _ _ => k; first | cases k | clear k)); try exact zN)
  refine ⟨k + 1, ⟨hk, hn⟩, by omega, ?_⟩
  exact wW
 ·have hat : k = atS l s.tab := at_first hup hI1 hI2 (fun y hy => by
   by_cases h : y.tab ≤ s.tab
   ·exact absurd ⟨y, hy, h⟩ hgo
   ·omega)
  have hpt : (l.take k).map slC ++ [slC s] ++ (l.drop k).map slC = (uT l s).map slC := by
   unfold uT; rw [← hat]; simp
  have hlm : (l.map slC).length = l.length := List.length_map _
  have htl : ((l.map slC).take k).length ≤ l.length := by rw [List.length_take]; omega
  rcases (by omega : k < l.length ∨ k = l.length) with hk | hk
  ·obtain ⟨c, hc⟩ : ∃ c, l[k]? = some c := yW hk
   have hgc := uH hc
   have hct : ¬ c.tab ≤ s.tab := fun h => hgo ⟨c, hc, h⟩
   clear hgo hI2 hup hat
   refine zY ?_; refine zY (wN rfl rfl (by kernel_rfl) rfl ?_); refine yU rfl (by kernel_rfl) rfl ?_; (iterate 2 refine xU ?_); apply yY; rfl; rfl; rfl; (intro σ' hl; (apply xH; rfl; rfl; (exact (List.length_map _).symm))); refine wBi ?_; intro _ _; refine xU ?_; refine uW ?_ ?_ <;> (intro h hp k; (try subst k); (try simp only [q_n] at hp); try first | omega | (cases hp; done));
   (iterate 2 refine uV ?_); refine vIx ?_; refine tX ?_; refine uU ?_; refine tX ?_; refine uU ?_; refine tE ?_; intro _ _; refine tZ ?_; refine zC ?_; show EX _ _ _ _ _; refine yN ?_ ?_ <;> (intro h hp k; (try subst k); (try simp only [q_n] at hp); try first | omega | (cases hp; done));
   refine yQ ?_; refine zY ?_; rotate_left
   all_goals ((repeat (rename BV _ _ => k; first | cases k | clear k)); try exact zN)
   refine qD (s' := ⟨[(0, sls l), (3, .ptr b3 0), (5, .int .i64 k)], .cells b3 (slC s) 43 :: σ, [], Tryz.f32.ntmps⟩) (St.le_of (by repeat (first | exact trivial | refine ⟨rfl, ?_⟩)) (by repeat (first | exact q_r | apply q_q | apply q_k))) ?_
   refine uS (fun e => e = .cells b3 (slC s) 43) 12 [1, 2, 3, 5, 6, 8, 9, 10, 0, 4, 7, 11] [8, 9, 10, 11] rfl (by kernel_rfl) rfl (by kernel_rfl) rfl ?_
   simp only [pick, List.filterMap_cons, List.filterMap_nil, List.getElem?_cons_zero, List.getElem?_cons_succ, wU]
   (iterate 2 refine xU ?_); apply yY; rfl; rfl; rfl; (intro σ' hl; (apply g_sliceHi; rfl; rfl; rfl; (rfl); omega)); refine qB ?_; apply yY; rfl; rfl; rfl; (intro σ' hl; (show GOp _ _ { dst := _, op := .buildSlice _ 1 _, type := _, pos := _, after := _, guard := _ } _ _ _; exact xE (yV rfl rfl (by decide) rfl rfl (by (simp only [xC, wU]; rfl))))); (iterate 2 refine xU ?_); apply yY; rfl; rfl; rfl; (intro σ' hl; (apply vD; rfl; rfl; rfl; (rfl); omega)); refine wl_row rfl rfl rfl (by exact yV rfl rfl (by decide) rfl rfl (by (simp only [xC, wU]; rfl))) ?_; intro _; refine wE rfl rfl rfl (by apply xG; rfl; rfl; rfl; (intro v'; (exact Upd.here)); (exact .d); (intro y hy; simp only [tC] at hy; (focus (obtain ⟨_, _, rfl⟩ := hy; rfl; done))); (refine wP ?_ (by kernel_rfl); (try simp only [List.length_append, List.length_map, List.length_cons, List.length_nil, List.length_take, List.length_drop]); omega)) ?_; rintro _ _ ⟨v'⟩; refine ⟨(by (rintro _ (rfl | rfl) _ <;> exact (by repeat first | exact q_h | apply q_t | assumption))), ?_⟩; refine wE rfl rfl rfl (by apply xG; rfl; rfl; rfl; (intro v'; (exact Upd.here)); (exact .d); (intro y hy; simp only [tC] at hy; (focus (obtain ⟨_, _, rfl⟩ := hy; rfl; done))); (refine wP ?_ (by kernel_rfl); (try simp only [List.length_append, List.length_map, List.length_cons, List.length_nil, List.length_take, List.length_drop]); omega)) ?_; rintro _ _ ⟨v'⟩; refine ⟨(by (rintro _ (rfl | rfl) _ <;> exact (by repeat first | exact q_h | apply q_t | assumption))), ?_⟩; refine wE rfl rfl rfl (by apply xG; rfl; rfl; rfl; (intro v'; (exact Upd.here)); (exact .d); (intro y hy; simp only [tC] at hy; (focus (obtain ⟨_, _, rfl⟩ := hy; rfl; done))); (refine wP ?_ (by kernel_rfl); (try simp only [List.length_append, List.length_map, List.length_cons, List.length_nil, List.length_take, List.length_drop]); omega)) ?_; rintro _ _ ⟨v'⟩; refine ⟨(by (rintro _ (rfl | rfl) _ <;> exact (by repeat first | exact q_h | apply q_t | assumption))), ?_⟩; refine zC (zP ?_); refine zX (zV ?_); simp only [yX]; rotate_left
   all_goals ((repeat (rename BV _ _ => k; first | cases k | clear k)); try exact zN)
   rename Value => v
   refine xX (σ3 := .row v 43 8 ((l.take k).map slC ++ [slC s] ++ (l.drop k).map slC) :: σ) ?_
   rw [hpt]
   exact vV .here (.here .nil) (zJ .mk)
  ·subst hk
   clear hgo hI2 hup hat
   refine zY ?_; refine zY (wN rfl rfl (by kernel_rfl) rfl ?_); refine yU rfl (by kernel_rfl) rfl ?_; (iterate 2 refine xU ?_); apply yY; rfl; rfl; rfl; (intro σ' hl; (apply xH; rfl; rfl; (exact (List.length_map _).symm))); refine wBi ?_; intro _ _; refine xU ?_; refine uW ?_ ?_ <;> (intro h hp k; (try subst k); (try simp only [q_n] at hp); try first | omega | (cases hp; done));
   (iterate 8 refine vF ?_); refine qW ?_; refine zC ?_; show EX _ _ _ _ _; refine yH rfl (by rfl) ?_; refine yQ ?_; refine zY ?_; rotate_left
   all_goals ((repeat (rename BV _ _ => k; first | cases k | clear k)); try exact zN)
   refine qD (s' := ⟨[(0, sls l), (3, .ptr b3 0), (5, .int .i64 l.length)], .cells b3 (slC s) 43 :: σ, [], Tryz.f32.ntmps⟩) (St.le_of (by repeat (first | exact trivial | refine ⟨rfl, ?_⟩)) (by repeat (first | exact q_r | apply q_q | apply q_k))) ?_
   refine uS (fun e => e = .cells b3 (slC s) 43) 12 [1, 2, 3, 5, 6, 8, 9, 10, 0, 4, 7, 11] [8, 9, 10, 11] rfl (by kernel_rfl) rfl (by kernel_rfl) rfl ?_
   simp only [pick, List.filterMap_cons, List.filterMap_nil, List.getElem?_cons_zero, List.getElem?_cons_succ, wU]
   (iterate 2 refine xU ?_); apply yY; rfl; rfl; rfl; (intro σ' hl; (apply g_sliceHi; rfl; rfl; rfl; (rfl); omega)); refine qB ?_; apply yY; rfl; rfl; rfl; (intro σ' hl; (show GOp _ _ { dst := _, op := .buildSlice _ 1 _, type := _, pos := _, after := _, guard := _ } _ _ _; exact xE (yV rfl rfl (by decide) rfl rfl (by (simp only [xC, wU]; rfl))))); (iterate 2 refine xU ?_); apply yY; rfl; rfl; rfl; (intro σ' hl; (apply vD; rfl; rfl; rfl; (rfl); omega)); refine wl_row rfl rfl rfl (by exact yV rfl rfl (by decide) rfl rfl (by (simp only [xC, wU]; rfl))) ?_; intro _; refine wE rfl rfl rfl (by apply xG; rfl; rfl; rfl; (intro v'; (exact Upd.here)); (exact .d); (intro y hy; simp only [tC] at hy; (focus (obtain ⟨_, _, rfl⟩ := hy; rfl; done))); (refine wP ?_ (by kernel_rfl); (try simp only [List.length_append, List.length_map, List.length_cons, List.length_nil, List.length_take, List.length_drop]); omega)) ?_; rintro _ _ ⟨v'⟩; refine ⟨(by (rintro _ (rfl | rfl) _ <;> exact (by repeat first | exact q_h | apply q_t | assumption))), ?_⟩; refine wE rfl rfl rfl (by apply xG; rfl; rfl; rfl; (intro v'; (exact Upd.here)); (exact .d); (intro y hy; simp only [tC] at hy; (focus (obtain ⟨_, _, rfl⟩ := hy; rfl; done))); (refine wP ?_ (by kernel_rfl); (try simp only [List.length_append, List.length_map, List.length_cons, List.length_nil, List.length_take, List.length_drop]); omega)) ?_; rintro _ _ ⟨v'⟩; refine ⟨(by (rintro _ (rfl | rfl) _ <;> exact (by repeat first | exact q_h | apply q_t | assumption))), ?_⟩; refine wE rfl rfl rfl (by apply xG; rfl; rfl; rfl; (intro v'; (exact Upd.here)); (exact .d); (intro y hy; simp only [tC] at hy; (focus (obtain ⟨_, _, rfl⟩ := hy; rfl; done))); (refine wP ?_ (by kernel_rfl); (try simp only [List.length_append, List.length_map, List.length_cons, List.length_nil, List.length_take, List.length_drop]); omega)) ?_; rintro _ _ ⟨v'⟩; refine ⟨(by (rintro _ (rfl | rfl) _ <;> exact (by repeat first | exact q_h | apply q_t | assumption))), ?_⟩; refine zC (zP ?_); refine zX (zV ?_); simp only [yX]; rotate_left
   all_goals ((repeat (rename BV _ _ => k; first | cases k | clear k)); try exact zN)
   rename Value => v
   refine xX (σ3 := .row v 43 8 ((l.take l.length).map slC ++ [slC s] ++ (l.drop l.length).map slC) :: σ) ?_
   rw [hpt]
   exact vV .here (.here .nil) (zJ .mk)
theorem last_tab {l : List Sl} (hb : BookC l) {x : Sl} {n : Int} (hx : l[l.length - 1]? = some x) : x.tab < n ↔ ∀ s ∈ l, s.tab < n := by
 constructor
 ·intro h s hs
  obtain ⟨i, hi⟩ := List.getElem?_of_mem hs
  have hil := wD hi
  by_cases e : i = l.length - 1
  ·subst e; rw [hx] at hi; cases hi; exact h
  ·have := List.pairwise_iff_getElem.1 hb.up i (l.length - 1) hil (by omega) (by omega)
   rw [List.getElem?_eq_getElem hil] at hi
   rw [List.getElem?_eq_getElem (by omega)] at hx
   have e1 := Option.some.inj hi
   have e2 := Option.some.inj hx
   rw [e1, e2] at this
   omega
 ·intro h; exact h x (List.mem_of_getElem? hx)
theorem rround_c (B : List (List Sl)) (L : List Pk) (A : List Ap) (hs : Small L) (hBl : B.length ≤ 1000) (hbl : ∀ l ∈ B, l.length ≤ 1000) (hLl : L.length ≤ 100000) (hAl : A.length ≤ 100000) (σ : List Ent) : SCall Tryz.prog 53 [.agg (stC B L A)] σ (RightQ B L A σ) := by
 refine zL Tryz.func53 rfl (by simp) ?_
 by_cases hn : 1 ≤ B.length ∧ B.length ≤ 8
 ·by_cases hnet : NetOk L A
  ·have hnc := fun σ => checkn_ok hnet hAl σ
   refine zY (zZ ?_); refine xB ?_; intro _; refine zP ?_; refine zX (zY (zZ ?_)); refine yG ?_; refine wH ?_; refine zP ?_; refine zX (zY (zY (zZ ?_))); refine zR ?_; refine xY ?_; intro _ _; refine zR ?_; refine xT ?_ ?_ <;> (intro h hp k; (try subst k); (try simp only [q_n] at hp); try first | omega | (cases hp; done));
   refine vN ?_; refine wT ?_; intro _ _; refine yB ?_; refine zR ?_; refine xT ?_ ?_ <;> (intro h hp k; (try subst k); (try simp only [q_n] at hp); try first | omega | (cases hp; done));
   refine yFa ?_; refine yLa ?_; apply yZ; rfl; (rfl); rfl; rfl; (refine yJ ?_; exact hnc _); refine wT ?_; intro _ _; refine yB ?_; refine zX (yN ?_ ?_) <;> (intro h hp k; (try subst k); (try simp only [q_n] at hp); try first | omega | (cases hp; done));
   refine zW (zY (zY (zZ ?_))); refine zP ?_; refine zX (zT ?_); rotate_left
   all_goals ((repeat (rename BV _ _ => k; first | cases k | clear k)); try exact zN)
   rename Nat => b1; revert b1
   intro b1
   clear hnc
   refine yD (fun (k : Nat) => (⟨[(1, .ptr b1 0), (3, .int .i64 B.length), (4, .int .i64 k)], .cells b1 (stC B L A) 41 :: σ, [], Tryz.f53.ntmps⟩ : St)) (fun k => k ≤ B.length ∧ ∀ i l, i < k → B[i]? = some l → xQ l = 0 ∧ ∀ s ∈ l, s.tab < B.length) (fun k => B.length - k) 0 (⟨Nat.zero_le _, fun i l h => absurd h (Nat.not_lt_zero _)⟩) (St.le_of (by repeat (first | exact trivial | refine ⟨rfl, ?_⟩)) (by repeat (first | exact q_r | apply q_q | apply q_k))) ?_
   intro k hI
   obtain ⟨hI1, hI2⟩ := hI
   by_cases hk : k < B.length
   ·obtain ⟨l, hlk⟩ : ∃ l, B[k]? = some l := yW hk
    have hmem := List.mem_of_getElem? hlk
    have hll := hbl l hmem
    have hck := fun σ => rcheck_c l σ
    have hg := bk_get hlk
    by_cases hc0 : xQ l = 0
    ·have hbk := uC hc0
     have hnext : (∀ s ∈ l, s.tab < B.length) → ∀ i m, i < k + 1 → B[i]? = some m → xQ m = 0 ∧ ∀ s ∈ m, s.tab < B.length := fun h i m h1 h2 => by
      by_cases e : i = k
      ·subst e; rw [hlk] at h2; cases h2; exact ⟨hc0, h⟩
      ·exact hI2 i m (by omega) h2
     have hbad : ¬ (∀ s ∈ l, s.tab < B.length) → ¬ RightA B L A := fun h1 h => h1 (h.tab l hmem)
     rw [hc0] at hck
     by_cases hl0 : l.length = 0
     ·have hnil : l = [] := List.eq_nil_of_length_eq_zero hl0
      have hnx := hnext (fun s h => by rw [hnil] at h; cases h)
      clear hI2 hbl hs hnet hnext hbad hbk hlk
      refine zY (zY (zZ ?_)); (iterate 2 refine zR ?_); refine zD ?_ ?_ <;> (intro h hp; (try simp only [q_n] at hp); try first | omega | (cases hp; done));
      refine zW (zY (zT ?_)); refine zY (zZ ?_); refine yG ?_; refine zR ?_; refine vG ?_; refine yG ?_; refine zP ?_; refine zX (zY (zZ ?_)); refine yG ?_; refine zR ?_; refine vG ?_; refine yA ?_; apply zU; rfl; rfl; rfl; (refine yJ ?_; exact hck _); refine xY ?_; intro _ _; refine zR ?_; refine xT ?_ ?_ <;> (intro h hp k; (try subst k); (try simp only [q_n] at hp); try first | omega | (cases hp; done));
      refine vN ?_; apply yZ; rfl; (rfl); rfl; rfl; (apply xH; rfl; rfl; (exact (List.length_map _).symm)); refine wT ?_; intro _ _; refine vN ?_; refine xT ?_ ?_ <;> (intro h hp k; (try subst k); (try simp only [q_n] at hp); try first | omega | (cases hp; done));
      (iterate 9 refine yC ?_); refine yPf ?_; refine yB ?_; refine zX (yH rfl (by rfl) ?_); refine zW (zZ (zR ?_)); refine vX ?_; refine zP ?_; refine zQ ?_; simp only [zA, zF, zE, zH, yK, ↓reduceIte, Nat.reduceEqDiff]; rotate_left
      all_goals ((repeat (rename BV _ _ => k; first | cases k | clear k)); try exact zN)
      refine ⟨k + 1, ⟨hk, hnx⟩, by omega, ?_⟩
      exact wW
     ·obtain ⟨x, hx⟩ : ∃ x, l[l.length - 1]? = some x := yW (by omega)
      have hgx := uH hx
      have hlt := last_tab (n := B.length) hbk hx
      have hkj : ((l.length : Nat) : Int) - 1 = ((l.length - 1 : Nat) : Int) := by omega
      by_cases hq : x.tab < B.length
      ·have hnx := hnext (hlt.1 hq)
       clear hI2 hbl hs hnet hnext hbad hbk hlk hlt hx
       refine zY (zY (zZ ?_)); (iterate 2 refine zR ?_); refine zD ?_ ?_ <;> (intro h hp; (try simp only [q_n] at hp); try first | omega | (cases hp; done));
       refine zW (zY (zT ?_)); refine zY (zZ ?_); refine yG ?_; refine zR ?_; refine vG ?_; refine yG ?_; refine zP ?_; refine zX (zY (zZ ?_)); refine yG ?_; refine zR ?_; refine vG ?_; refine yA ?_; apply zU; rfl; rfl; rfl; (refine yJ ?_; exact hck _); refine xY ?_; intro _ _; refine zR ?_; refine xT ?_ ?_ <;> (intro h hp k; (try subst k); (try simp only [q_n] at hp); try first | omega | (cases hp; done));
       refine vN ?_; apply yZ; rfl; (rfl); rfl; rfl; (apply xH; rfl; rfl; (exact (List.length_map _).symm)); refine wT ?_; intro _ _; refine vN ?_; refine xT ?_ ?_ <;> (intro h hp k; (try subst k); (try simp only [q_n] at hp); try first | omega | (cases hp; done));
       (iterate 2 refine vN ?_); apply yZ; rfl; (rfl); rfl; rfl; (apply xH; rfl; rfl; (exact (List.length_map _).symm)); refine ySu ?_; refine yIx ?_; refine wL ?_; refine vN ?_; refine wT ?_; intro _ _; refine yPt ?_; refine yB ?_; refine zX (yN ?_ ?_) <;> (intro h hp k; (try subst k); (try simp only [q_n] at hp); try first | omega | (cases hp; done));
       refine zW (zZ (zR ?_)); refine vX ?_; refine zP ?_; refine zQ ?_; simp only [zA, zF, zE, zH, yK, ↓reduceIte, Nat.reduceEqDiff]; rotate_left
       all_goals ((repeat (rename BV _ _ => k; first | cases k | clear k)); try exact zN)
       refine ⟨k + 1, ⟨hk, hnx⟩, by omega, ?_⟩
       exact wW
      ·have hb := hbad (fun h => hq (hlt.2 h))
       clear hI2 hbl hs hnet hnext hbad hbk hlk hlt hx
       refine zY (zY (zZ ?_)); (iterate 2 refine zR ?_); refine zD ?_ ?_ <;> (intro h hp; (try simp only [q_n] at hp); try first | omega | (cases hp; done));
       refine zW (zY (zT ?_)); refine zY (zZ ?_); refine yG ?_; refine zR ?_; refine vG ?_; refine yG ?_; refine zP ?_; refine zX (zY (zZ ?_)); refine yG ?_; refine zR ?_; refine vG ?_; refine yA ?_; apply zU; rfl; rfl; rfl; (refine yJ ?_; exact hck _); refine xY ?_; intro _ _; refine zR ?_; refine xT ?_ ?_ <;> (intro h hp k; (try subst k); (try simp only [q_n] at hp); try first | omega | (cases hp; done));
       refine vN ?_; apply yZ; rfl; (rfl); rfl; rfl; (apply xH; rfl; rfl; (exact (List.length_map _).symm)); refine wT ?_; intro _ _; refine vN ?_; refine xT ?_ ?_ <;> (intro h hp k; (try subst k); (try simp only [q_n] at hp); try first | omega | (cases hp; done));
       (iterate 2 refine vN ?_); apply yZ; rfl; (rfl); rfl; rfl; (apply xH; rfl; rfl; (exact (List.length_map _).symm)); refine ySu ?_; refine yIx ?_; refine wL ?_; refine vN ?_; refine wT ?_; intro _ _; refine yPt ?_; refine yB ?_; refine zX (yN ?_ ?_) <;> (intro h hp k; (try subst k); (try simp only [q_n] at hp); try first | omega | (cases hp; done));
       refine zY (zZ ?_); refine zP ?_; refine zX (zV ?_); simp only [yX]; rotate_left
       all_goals ((repeat (rename BV _ _ => k; first | cases k | clear k)); try exact zN)
       refine xX (σ3 := σ) ?_
       exact zJ ⟨rfl, .inr ⟨hb, rfl⟩⟩
    ·have hbad : ¬ RightA B L A := fun h => hc0 (h.ck l hmem)
     generalize xQ l = e at hck hc0
     clear hI2 hbl hs hnet hlk
     refine zY (zY (zZ ?_)); (iterate 2 refine zR ?_); refine zD ?_ ?_ <;> (intro h hp; (try simp only [q_n] at hp); try first | omega | (cases hp; done));
     refine zW (zY (zT ?_)); refine zY (zZ ?_); refine yG ?_; refine zR ?_; refine vG ?_; refine yG ?_; refine zP ?_; refine zX (zY (zZ ?_)); refine yG ?_; refine zR ?_; refine vG ?_; refine yA ?_; apply zU; rfl; rfl; rfl; (refine yJ ?_; exact hck _); refine xY ?_; intro _ _; refine zR ?_; refine xT ?_ ?_ <;> (intro h hp k; (try subst k); (try simp only [q_n] at hp); try first | omega | (cases hp; done));
     (iterate 4 refine yC ?_); (iterate 9 refine xSr ?_); refine yC ?_; refine xF ?_; refine zX (zG rfl (by rfl) ?_); refine zY (zZ ?_); refine zP ?_; refine zX (zV ?_); simp only [yX]; rotate_left
     all_goals ((repeat (rename BV _ _ => k; first | cases k | clear k)); try exact zN)
     refine xX (σ3 := σ) ?_
     exact zJ ⟨rfl, .inr ⟨hbad, rfl⟩⟩
   ·have hBok : ∀ l ∈ B, xQ l = 0 ∧ ∀ s ∈ l, s.tab < B.length := fun l hl => by
     obtain ⟨i, hi⟩ := List.getElem?_of_mem hl
     exact hI2 i l (by have := wD hi; omega) hi
    clear hI2 hbl
    refine zY (zY (zZ ?_)); (iterate 2 refine zR ?_); refine zD ?_ ?_ <;> (intro h hp; (try simp only [q_n] at hp); try first | omega | (cases hp; done));
    refine yQ ?_; refine zY (zY (zZ ?_)); refine zP ?_; refine zX (zT ?_); rotate_left
    all_goals ((repeat (rename BV _ _ => k; first | cases k | clear k)); try exact zN)
    refine yD (fun (j : Nat) => (⟨[(1, .ptr b1 0), (3, .int .i64 B.length), (6, .int .i64 j)], .cells b1 (stC B L A) 41 :: σ, [], Tryz.f53.ntmps⟩ : St)) (fun j => j ≤ L.length ∧ ∀ i p, i < j → L[i]? = some p → ∃ s, PkR B.length p s) (fun j => L.length - j) 0 (⟨Nat.zero_le _, fun i p h => absurd h (Nat.not_lt_zero _)⟩) (St.le_of (by repeat (first | exact trivial | refine ⟨rfl, ?_⟩)) (by repeat (first | exact q_r | apply q_q | apply q_k))) ?_
    intro j hI
    obtain ⟨hI1, hI2⟩ := hI
    by_cases hj : j < L.length
    ·obtain ⟨p, hpj⟩ : ∃ p, L[j]? = some p := yW hj
     have hmem := List.mem_of_getElem? hpj
     have hg := pk_get hpj
     obtain ⟨hsm1, hsm2⟩ := hs p hmem
     have hrd := fun σ => rread_c p.d hsm1 hsm2 σ
     unfold rdR at hrd
     cases hsd : pX p.d with
     | none =>
      have hbad : ¬ RightA B L A := fun h => by
       obtain ⟨s, h1⟩ := h.pk p hmem
       have := h1.says
       rw [hsd] at this; cases this
      rw [hsd] at hrd
      clear hI2 hBok hs hnet hpj hsm1 hsd
      refine zY (zY (zZ ?_)); refine zR ?_; refine uZ ?_; refine yG ?_; refine wH ?_; refine zD ?_ ?_ <;> (intro h hp; (try simp only [q_n] at hp); try first | omega | (cases hp; done));
      refine zW (zY (zT ?_)); refine zY (zZ ?_); refine uZ ?_; refine yG ?_; refine zR ?_; refine vG ?_; refine yA ?_; refine xK ?_; intro _; refine yR ?_; refine zX (zY (zZ ?_)); refine yG ?_; apply zU; rfl; rfl; rfl; (refine yJ ?_; exact hrd _); refine zR ?_; (iterate 2 refine tG ?_); refine xK ?_; intro _; refine yR ?_; refine zP ?_; refine zX (zY (zZ ?_)); refine zR ?_; refine qY ?_; intro _ _; refine zR ?_; refine xT ?_ ?_ <;> (intro h hp k; (try subst k); (try simp only [q_n] at hp); try first | omega | (cases hp; done));
      (iterate 4 refine yC ?_); refine xF ?_; refine zR ?_; (iterate 4 refine yC ?_); refine xF ?_; refine zR ?_; (iterate 3 refine yC ?_); refine xF ?_; refine zR ?_; (iterate 4 refine yC ?_); refine xF ?_; refine zR ?_; (iterate 3 refine yC ?_); refine xF ?_; refine zR ?_; (iterate 3 refine yC ?_); refine xF ?_; refine zR ?_; (iterate 3 refine yC ?_); refine xF ?_; refine zX (zG rfl (by rfl) ?_); refine zY (zZ ?_); refine zP ?_; refine zX (zV ?_); simp only [yX]; rotate_left
      all_goals ((repeat (rename BV _ _ => k; first | cases k | clear k)); try exact zN)
      refine xX (σ3 := σ) ?_
      exact zJ ⟨rfl, .inr ⟨hbad, rfl⟩⟩
     | some s =>
      rw [hsd] at hrd
      have hsl := fun σ => slip_c s σ
      by_cases hall : uR s = true ∧ p.f < B.length ∧ p.t < B.length ∧ 0 ≤ s.tab ∧ s.tab < B.length ∧ 0 ≤ s.seq ∧ s.seq < 512
      ·obtain ⟨a1, a2, a3, a4, a5, a6, a7⟩ := hall
       have hpk : PkR B.length p s := ⟨hsd, a1, by omega, ⟨a4, a5⟩, ⟨a6, by omega⟩⟩
       have hnext : ∀ i q, i < j + 1 → L[i]? = some q → ∃ s, PkR B.length q s := fun i q h1 h2 => by
        by_cases e : i = j
        ·subst e; rw [hpj] at h2; cases h2; exact ⟨s, hpk⟩
        ·exact hI2 i q (by omega) h2
       rw [a1] at hsl
       clear hI2 hBok hs hnet hpk hpj hsm1 hsd
       refine zY (zY (zZ ?_)); refine zR ?_; refine uZ ?_; refine yG ?_; refine wH ?_; refine zD ?_ ?_ <;> (intro h hp; (try simp only [q_n] at hp); try first | omega | (cases hp; done));
       refine zW (zY (zT ?_)); refine zY (zZ ?_); refine uZ ?_; refine yG ?_; refine zR ?_; refine vG ?_; refine yA ?_; refine xK ?_; intro _; refine yR ?_; refine zX (zY (zZ ?_)); refine yG ?_; apply zU; rfl; rfl; rfl; (refine yJ ?_; exact hrd _); refine zR ?_; (iterate 2 refine tG ?_); refine xK ?_; intro _; refine yR ?_; refine zP ?_; refine zX (zY (zZ ?_)); refine zR ?_; refine qY ?_; intro _ _; refine zR ?_; refine xT ?_ ?_ <;> (intro h hp k; (try subst k); (try simp only [q_n] at hp); try first | omega | (cases hp; done));
       refine wL ?_; refine vN ?_; refine wT ?_; intro _ _; refine yB ?_; refine zR ?_; refine xT ?_ ?_ <;> (intro h hp k; (try subst k); (try simp only [q_n] at hp); try first | omega | (cases hp; done));
       refine wL ?_; refine vN ?_; refine wT ?_; intro _ _; refine yB ?_; refine zR ?_; refine xT ?_ ?_ <;> (intro h hp k; (try subst k); (try simp only [q_n] at hp); try first | omega | (cases hp; done));
       refine wL ?_; refine wT ?_; intro _ _; refine yB ?_; refine zR ?_; refine xT ?_ ?_ <;> (intro h hp k; (try subst k); (try simp only [q_n] at hp); try first | omega | (cases hp; done));
       refine wL ?_; refine vN ?_; refine wT ?_; intro _ _; refine yB ?_; refine zR ?_; refine xT ?_ ?_ <;> (intro h hp k; (try subst k); (try simp only [q_n] at hp); try first | omega | (cases hp; done));
       refine wL ?_; refine wT ?_; intro _ _; refine yB ?_; refine zR ?_; refine xT ?_ ?_ <;> (intro h hp k; (try subst k); (try simp only [q_n] at hp); try first | omega | (cases hp; done));
       refine wL ?_; refine wT ?_; intro _ _; refine yB ?_; refine zR ?_; refine xT ?_ ?_ <;> (intro h hp k; (try subst k); (try simp only [q_n] at hp); try first | omega | (cases hp; done));
       refine yLa ?_; apply xR; rfl; (rfl); rfl; rfl; (refine yJ ?_; exact hsl _); intro _ _; refine yNo ?_; intro _ _; refine yB ?_; refine zX (yN ?_ ?_) <;> (intro h hp k; (try subst k); (try simp only [q_n] at hp); try first | omega | (cases hp; done));
       refine zY (zZ ?_); refine zP ?_; refine zX (zV ?_); simp only [yX]; rotate_left; refine zW (zZ (zR ?_)); refine vX ?_; refine zP ?_; refine zQ ?_; simp only [zA, zF, zE, zH, yK, ↓reduceIte, Nat.reduceEqDiff]; rotate_left
       all_goals ((repeat (rename BV _ _ => k; first | cases k | clear k)); try exact zN)
       refine ⟨j + 1, ⟨hj, hnext⟩, by omega, ?_⟩
       exact wW
      ·have hbad : ¬ RightA B L A := fun h => by
        obtain ⟨s', h1⟩ := h.pk p hmem
        have h2 := h1.says
        rw [hsd] at h2; cases h2
        have h3 := h1.tab
        have h4 := h1.seq
        have h5 := h1.ft
        exact hall ⟨h1.slip, by omega, by omega, h3.1, h3.2, h4.1, by omega⟩
       generalize uR s = q0 at hsl hall
       clear hI2 hBok hs hnet hpj hsm1 hsd
       refine zY (zY (zZ ?_)); refine zR ?_; refine uZ ?_; refine yG ?_; refine wH ?_; refine zD ?_ ?_ <;> (intro h hp; (try simp only [q_n] at hp); try first | omega | (cases hp; done));
       refine zW (zY (zT ?_)); refine zY (zZ ?_); refine uZ ?_; refine yG ?_; refine zR ?_; refine vG ?_; refine yA ?_; refine xK ?_; intro _; refine yR ?_; refine zX (zY (zZ ?_)); refine yG ?_; apply zU; rfl; rfl; rfl; (refine yJ ?_; exact hrd _); refine zR ?_; (iterate 2 refine tG ?_); refine xK ?_; intro _; refine yR ?_; refine zP ?_; refine zX (zY (zZ ?_)); refine zR ?_; refine qY ?_; intro _ _; refine zR ?_; refine xT ?_ ?_ <;> (intro h hp k; (try subst k); (try simp only [q_n] at hp); try first | omega | (cases hp; done));
       refine wL ?_; refine vN ?_; refine wT ?_; intro _ _; refine yB ?_; refine zR ?_; refine xT ?_ ?_ <;> (intro h hp k; (try subst k); (try simp only [q_n] at hp); try first | omega | (cases hp; done));
       (iterate 4 refine yC ?_); refine xF ?_; refine zR ?_; (iterate 3 refine yC ?_); refine xF ?_; refine zR ?_; (iterate 4 refine yC ?_); refine xF ?_; refine zR ?_; (iterate 3 refine yC ?_); refine xF ?_; refine zR ?_; (iterate 3 refine yC ?_); refine xF ?_; refine zR ?_; (iterate 3 refine yC ?_); refine xF ?_; refine zX (zG rfl (by rfl) ?_); refine zY (zZ ?_); refine zP ?_; refine zX (zV ?_); simp only [yX]; rotate_left; refine wL ?_; refine vN ?_; refine wT ?_; intro _ _; refine yB ?_; refine zR ?_; refine xT ?_ ?_ <;> (intro h hp k; (try subst k); (try simp only [q_n] at hp); try first | omega | (cases hp; done));
       (iterate 3 refine yC ?_); refine xF ?_; refine zR ?_; (iterate 4 refine yC ?_); refine xF ?_; refine zR ?_; (iterate 3 refine yC ?_); refine xF ?_; refine zR ?_; (iterate 3 refine yC ?_); refine xF ?_; refine zR ?_; (iterate 3 refine yC ?_); refine xF ?_; refine zX (zG rfl (by rfl) ?_); refine zY (zZ ?_); refine zP ?_; refine zX (zV ?_); simp only [yX]; rotate_left; refine wL ?_; refine wT ?_; intro _ _; refine yB ?_; refine zR ?_; refine xT ?_ ?_ <;> (intro h hp k; (try subst k); (try simp only [q_n] at hp); try first | omega | (cases hp; done));
       (iterate 4 refine yC ?_); refine xF ?_; refine zR ?_; (iterate 3 refine yC ?_); refine xF ?_; refine zR ?_; (iterate 3 refine yC ?_); refine xF ?_; refine zR ?_; (iterate 3 refine yC ?_); refine xF ?_; refine zX (zG rfl (by rfl) ?_); refine zY (zZ ?_); refine zP ?_; refine zX (zV ?_); simp only [yX]; rotate_left; refine wL ?_; refine vN ?_; refine wT ?_; intro _ _; refine yB ?_; refine zR ?_; refine xT ?_ ?_ <;> (intro h hp k; (try subst k); (try simp only [q_n] at hp); try first | omega | (cases hp; done));
       (iterate 3 refine yC ?_); refine xF ?_; refine zR ?_; (iterate 3 refine yC ?_); refine xF ?_; refine zR ?_; (iterate 3 refine yC ?_); refine xF ?_; refine zX (zG rfl (by rfl) ?_); refine zY (zZ ?_); refine zP ?_; refine zX (zV ?_); simp only [yX]; rotate_left; refine wL ?_; refine wT ?_; intro _ _; refine yB ?_; refine zR ?_; refine xT ?_ ?_ <;> (intro h hp k; (try subst k); (try simp only [q_n] at hp); try first | omega | (cases hp; done));
       (iterate 3 refine yC ?_); refine xF ?_; refine zR ?_; (iterate 3 refine yC ?_); refine xF ?_; refine zX (zG rfl (by rfl) ?_); refine zY (zZ ?_); refine zP ?_; refine zX (zV ?_); simp only [yX]; rotate_left; refine wL ?_; refine wT ?_; intro _ _; refine yB ?_; refine zR ?_; refine xT ?_ ?_ <;> (intro h hp k; (try subst k); (try simp only [q_n] at hp); try first | omega | (cases hp; done));
       (iterate 3 refine yC ?_); refine xF ?_; refine zX (zG rfl (by rfl) ?_); refine zY (zZ ?_); refine zP ?_; refine zX (zV ?_); simp only [yX]; rotate_left; refine yLa ?_; apply xR; rfl; (rfl); rfl; rfl; (refine yJ ?_; exact hsl _); intro _ _; refine yNo ?_; intro _ _; refine yB ?_; refine zX (yN ?_ ?_) <;> (intro h hp k; (try subst k); (try simp only [q_n] at hp); try first | omega | (cases hp; done));
       refine zY (zZ ?_); refine zP ?_; refine zX (zV ?_); simp only [yX]; rotate_left; refine zW (zZ (zR ?_)); refine vX ?_; refine zP ?_; refine zQ ?_; simp only [zA, zF, zE, zH, yK, ↓reduceIte, Nat.reduceEqDiff]; rotate_left
       all_goals ((repeat (rename BV _ _ => k; first | cases k | clear k)); try exact zN)
       all_goals (try (exact absurd ⟨by assumption, by omega, by omega, by omega, by omega, by omega, by omega⟩ hall))
       all_goals
        refine xX (σ3 := σ) ?_
        exact zJ ⟨rfl, .inr ⟨hbad, rfl⟩⟩
    ·have hok : RightA B L A := ⟨hn.1, hn.2, hnet, fun l hl => (hBok l hl).1, fun l hl => (hBok l hl).2, fun p hp => (by
      obtain ⟨i, hi⟩ := List.getElem?_of_mem hp
      exact hI2 i p (by have := wD hi; omega) hi)⟩
     clear hI2 hBok hs hnet
     refine zY (zY (zZ ?_)); refine zR ?_; refine uZ ?_; refine yG ?_; refine wH ?_; refine zD ?_ ?_ <;> (intro h hp; (try simp only [q_n] at hp); try first | omega | (cases hp; done));
     refine yQ ?_; refine zY (zZ ?_); refine zP ?_; refine zX (zV ?_); simp only [yX]; rotate_left
     all_goals ((repeat (rename BV _ _ => k; first | cases k | clear k)); try exact zN)
     refine xX (σ3 := σ) ?_
     exact zJ ⟨rfl, .inl ⟨hok, rfl⟩⟩
  ·have hbad : ¬ RightA B L A := fun h => hnet h.net
   have hnc := fun σ => checkn_bad hnet hLl hAl σ
   refine zY (zZ ?_); refine xB ?_; intro _; refine zP ?_; refine zX (zY (zZ ?_)); refine yG ?_; refine wH ?_; refine zP ?_; refine zX (zY (zY (zZ ?_))); refine zR ?_; refine xY ?_; intro _ _; refine zR ?_; refine xT ?_ ?_ <;> (intro h hp k; (try subst k); (try simp only [q_n] at hp); try first | omega | (cases hp; done));
   refine vN ?_; refine wT ?_; intro _ _; refine yB ?_; refine zR ?_; refine xT ?_ ?_ <;> (intro h hp k; (try subst k); (try simp only [q_n] at hp); try first | omega | (cases hp; done));
   refine yFa ?_; refine yLa ?_; apply yZ; rfl; (rfl); rfl; rfl; (refine yJ ?_; exact hnc _); refine wT ?_; intro _ _; refine yB ?_; refine zX (yN ?_ ?_) <;> (intro h hp k; (try subst k); (try simp only [q_n] at hp); try first | omega | (cases hp; done));
   refine zY (zZ ?_); refine zP ?_; refine zX (zV ?_); simp only [yX]; rotate_left
   all_goals ((repeat (rename BV _ _ => k; first | cases k | clear k)); try exact zN)
   refine xX (σ3 := σ) ?_
   exact zJ ⟨rfl, .inr ⟨hbad, rfl⟩⟩
 ·have hbad : ¬ RightA B L A := fun h => hn ⟨h.n1, h.n8⟩
  refine zY (zZ ?_); refine xB ?_; intro _; refine zP ?_; refine zX (zY (zZ ?_)); refine yG ?_; refine wH ?_; refine zP ?_; refine zX (zY (zY (zZ ?_))); refine zR ?_; refine xY ?_; intro _ _; refine zR ?_; refine xT ?_ ?_ <;> (intro h hp k; (try subst k); (try simp only [q_n] at hp); try first | omega | (cases hp; done));
  (iterate 2 refine yC ?_); refine xF ?_; refine zR ?_; (iterate 4 refine yC ?_); refine xF ?_; refine zX (zG rfl (by rfl) ?_); refine zY (zZ ?_); refine zP ?_; refine zX (zV ?_); simp only [yX]; rotate_left; refine vN ?_; refine wT ?_; intro _ _; refine yB ?_; refine zR ?_; refine xT ?_ ?_ <;> (intro h hp k; (try subst k); (try simp only [q_n] at hp); try first | omega | (cases hp; done));
  (iterate 4 refine yC ?_); refine xF ?_; refine zX (zG rfl (by rfl) ?_); refine zY (zZ ?_); refine zP ?_; refine zX (zV ?_); simp only [yX]; rotate_left
  all_goals ((repeat (rename BV _ _ => k; first | cases k | clear k)); try exact zN)
  all_goals
   refine xX (σ3 := σ) ?_
   exact zJ ⟨rfl, .inr ⟨hbad, rfl⟩⟩
end Go.Proofs.YtkhoengjdfmfaaaGreat
