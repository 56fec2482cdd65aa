/- Parts of the proof that belong together: Re Rf Wf Wg. -/
import Derived.Test.YtkhoengjdfmfaaaGreatGF07
import Derived.Test.YtkhoengjdfmfaaaGreatGF11
set_option maxRecDepth 10000
set_option maxHeartbeats 8000000
set_option linter.unusedSimpArgs false
set_option linter.unusedVariables false
namespace Go.Proofs.YtkhoengjdfmfaaaGreat
theorem site_r (n : Int) (σ : List Ent) : SCall Tryz.prog 131 [.int .i64 n] σ (Is (.bool (decide (0 ≤ n ∧ n < 24))) σ) := by
 refine zL Tryz.func131 rfl (by simp) ?_
 refine zY (zZ ?_); refine zP ?_; refine zX (zY (zZ ?_)); refine zR ?_; refine xY ?_; intro _ _; refine zR ?_; refine xT ?_ ?_ <;> (intro h hp k; (try subst k); (try simp only [q_n] at hp); try first | omega | (cases hp; done));
 refine vN ?_; refine wT ?_; intro _ _; refine xF ?_; refine zP ?_; refine zX (zV ?_); simp only [yX]; rotate_left; (iterate 2 refine yC ?_); refine yB ?_; refine zP ?_; refine zX (zV ?_); simp only [yX]; rotate_left
 all_goals ((repeat (rename BV _ _ => k; first | cases k | clear k)); try exact zN)
 all_goals
  refine xW (tV ?_)
  first | (exact (decide_eq_true (by omega)).symm) | (exact (decide_eq_false (by omega)).symm) | (rw [decide_eq_decide]; omega)
theorem okPB_eq (p : Pk) : okPB p = decide ((0 ≤ p.f ∧ p.f < 24) ∧ (0 ≤ p.t ∧ p.t < 24) ∧ p.f ≠ p.t ∧ p.d.length ≤ 1048576) := by
 rw [Bool.eq_iff_iff, okPB_iff, decide_eq_true_eq]
 constructor
 ·rintro ⟨h1, h2, h3, h4, h5, h6⟩; exact ⟨⟨h1, h4⟩, ⟨h2, h5⟩, h3, h6⟩
 ·rintro ⟨⟨h1, h4⟩, ⟨h2, h5⟩, h3, h6⟩; exact ⟨h1, h2, h3, h4, h5, h6⟩
theorem packet_r (p : Pk) (σ : List Ent) : SCall Tryz.prog 130 [pkV p] σ (Is (.bool (okPB p)) σ) := by
 refine zL Tryz.func130 rfl (by simp) ?_
 rw [okPB_eq]
 have s1 := fun σ => site_r p.f σ
 have s2 := fun σ => site_r p.t σ
 by_cases h1 : 0 ≤ p.f ∧ p.f < 24
 ·rw [decide_eq_true h1] at s1
  by_cases h2 : 0 ≤ p.t ∧ p.t < 24
  ·rw [decide_eq_true h2] at s2
   refine zY (zZ ?_); refine xB ?_; intro _; refine zP ?_; refine zX (zY (zZ ?_)); refine yG ?_; apply yE; rfl; rfl; rfl; (refine yJ ?_; exact s1 _); intro _ _; refine zR ?_; refine xT ?_ ?_ <;> (intro h hp k; (try subst k); (try simp only [q_n] at hp); try first | omega | (cases hp; done));
   refine wL ?_; apply xR; rfl; (rfl); rfl; rfl; (refine yJ ?_; exact s2 _); intro _ _; refine xF ?_; refine zR ?_; refine xT ?_ ?_ <;> (intro h hp k; (try subst k); (try simp only [q_n] at hp); try first | omega | (cases hp; done));
   (iterate 2 refine wL ?_); refine wT ?_; intro _ _; refine xF ?_; refine zR ?_; refine xT ?_ ?_ <;> (intro h hp k; (try subst k); (try simp only [q_n] at hp); try first | omega | (cases hp; done));
   refine wL ?_; apply yZ; rfl; (rfl); rfl; rfl; (apply xH; rfl; rfl; (exact (List.length_map _).symm)); refine wT ?_; intro _ _; refine xF ?_; refine zP ?_; refine zX (zV ?_); simp only [yX]; rotate_left; (iterate 4 refine yC ?_); refine yB ?_; refine zP ?_; refine zX (zV ?_); simp only [yX]; rotate_left
   all_goals ((repeat (rename BV _ _ => k; first | cases k | clear k)); try exact zN)
   all_goals
    refine xW (tV ?_)
    first | (exact (decide_eq_true (by omega)).symm) | (exact (decide_eq_false (by omega)).symm) | (rw [decide_eq_decide]; omega)
  ·rw [decide_eq_false h2] at s2
   refine zY (zZ ?_); refine xB ?_; intro _; refine zP ?_; refine zX (zY (zZ ?_)); refine yG ?_; apply yE; rfl; rfl; rfl; (refine yJ ?_; exact s1 _); intro _ _; refine zR ?_; refine xT ?_ ?_ <;> (intro h hp k; (try subst k); (try simp only [q_n] at hp); try first | omega | (cases hp; done));
   refine wL ?_; apply xR; rfl; (rfl); rfl; rfl; (refine yJ ?_; exact s2 _); intro _ _; refine xF ?_; refine zR ?_; refine xT ?_ ?_ <;> (intro h hp k; (try subst k); (try simp only [q_n] at hp); try first | omega | (cases hp; done));
   (iterate 5 refine yC ?_); refine yB ?_; refine zR ?_; (iterate 4 refine yC ?_); refine yB ?_; refine zP ?_; refine zX (zV ?_); simp only [yX]; rotate_left
   all_goals ((repeat (rename BV _ _ => k; first | cases k | clear k)); try exact zN)
   all_goals
    refine xW (tV ?_)
    exact (decide_eq_false (by omega)).symm
 ·rw [decide_eq_false h1] at s1
  clear s2
  refine zY (zZ ?_); refine xB ?_; intro _; refine zP ?_; refine zX (zY (zZ ?_)); refine yG ?_; apply yE; rfl; rfl; rfl; (refine yJ ?_; exact s1 _); intro _ _; refine zR ?_; refine xT ?_ ?_ <;> (intro h hp k; (try subst k); (try simp only [q_n] at hp); try first | omega | (cases hp; done));
  (iterate 3 refine yC ?_); refine yB ?_; refine zR ?_; (iterate 5 refine yC ?_); refine yB ?_; refine zR ?_; (iterate 4 refine yC ?_); refine yB ?_; refine zP ?_; refine zX (zV ?_); simp only [yX]; rotate_left
  all_goals ((repeat (rename BV _ _ => k; first | cases k | clear k)); try exact zN)
  all_goals
   refine xW (tV ?_)
   exact (decide_eq_false (by omega)).symm
theorem checkn_r (L : List Pk) (A : List Ap) (hLl : L.length ≤ 100000) (hAl : A.length ≤ 100000) (σ : List Ent) : SCall Tryz.prog 88 [netV L A] σ (NetQ L A σ) := by
 refine zL Tryz.func88 rfl (by simp) ?_
 by_cases hlen : 4096 < L.length
 ·have hbad : ¬ NetOk L A := fun h => by have := h.few; omega
  have hgt : decide ((L.length : Int) > 4096) = true := decide_eq_true (by omega)
  refine zY (zZ ?_); refine xB ?_; intro _; refine zP ?_; refine zX (zY (zY (zZ ?_))); refine yG ?_; refine wH ?_; refine zD ?_ ?_ <;> (intro h hp; (try simp only [q_n] at hp); try first | omega | (cases hp; done));
  refine zY (zZ ?_); refine zP ?_; refine zX (zV ?_); simp only [yX]; rotate_left
  all_goals ((repeat (rename BV _ _ => k; first | cases k | clear k)); try exact zN)
  refine xX (σ3 := σ) ?_
  exact zJ ⟨rfl, .inr ⟨hbad, rfl⟩⟩
 refine zY (zZ ?_); refine xB ?_; intro _; refine zP ?_; refine zX (zY (zY (zZ ?_))); refine yG ?_; refine wH ?_; refine zD ?_ ?_ <;> (intro h hp; (try simp only [q_n] at hp); try first | omega | (cases hp; done));
 refine zW (zY (zY (zZ ?_))); refine zP ?_; refine zX (zT ?_); rotate_left
 all_goals ((repeat (rename BV _ _ => k; first | cases k | clear k)); try exact zN)
 rename Nat => b1; revert b1
 intro b1
 refine yD (fun (k : Nat) => (⟨[(1, .ptr b1 0), (3, .int .i64 k)], .cells b1 (netC L A) 39 :: σ, [], Tryz.f88.ntmps⟩ : St)) (fun k => k ≤ L.length ∧ ∀ i p, i < k → L[i]? = some p → OkP p) (fun k => L.length - k) 0 (⟨Nat.zero_le _, fun i p h => absurd h (Nat.not_lt_zero _)⟩) (St.le_of (by repeat (first | exact trivial | refine ⟨rfl, ?_⟩)) (by repeat (first | exact q_r | apply q_q | apply q_k))) ?_
 intro k hI
 obtain ⟨hI1, hI2⟩ := hI
 by_cases hk : k < L.length
 ·obtain ⟨p, hpk⟩ : ∃ p, L[k]? = some p := yW hk
  have hg := pk_get hpk
  have hc := fun σ => packet_r p σ
  cases hb : okPB p with
  | false =>
   have hbad : ¬ NetOk L A := fun h => by
    have := okPB_iff.2 (h.pk p (List.mem_of_getElem? hpk))
    rw [hb] at this; cases this
   rw [hb] at hc
   clear hI2 hpk
   refine zY (zY (zZ ?_)); refine zR ?_; refine yG ?_; refine wH ?_; refine zD ?_ ?_ <;> (intro h hp; (try simp only [q_n] at hp); try first | omega | (cases hp; done));
   refine zW (zY (zT ?_)); refine zY (zZ ?_); refine yG ?_; refine zR ?_; refine vG ?_; refine yA ?_; apply yE; rfl; rfl; rfl; (refine yJ ?_; exact hc _); intro _ _; refine qY ?_; intro _ _; refine zX (yN ?_ ?_) <;> (intro h hp k; (try subst k); (try simp only [q_n] at hp); try first | omega | (cases hp; done));
   refine zY (zZ ?_); refine zP ?_; refine zX (zV ?_); simp only [yX]; rotate_left; refine zW (zZ (zR ?_)); refine vX ?_; refine zP ?_; refine zQ ?_; simp only [zA, zF, zE, zH, yK, ↓reduceIte, Nat.reduceEqDiff]; rotate_left
   all_goals ((repeat (rename BV _ _ => k; first | cases k | clear k)); try exact zN)
   refine xX (σ3 := σ) ?_
   exact zJ ⟨rfl, .inr ⟨hbad, rfl⟩⟩
  | true =>
   have hnext : ∀ i q, i < k + 1 → L[i]? = some q → OkP q := fun i q h1 h2 => by
    by_cases e : i = k
    ·subst e; rw [hpk] at h2; cases h2; exact okPB_iff.1 hb
    ·exact hI2 i q (by omega) h2
   rw [hb] at hc
   clear hI2 hpk
   refine zY (zY (zZ ?_)); refine zR ?_; refine yG ?_; refine wH ?_; refine zD ?_ ?_ <;> (intro h hp; (try simp only [q_n] at hp); try first | omega | (cases hp; done));
   refine zW (zY (zT ?_)); refine zY (zZ ?_); refine yG ?_; refine zR ?_; refine vG ?_; refine yA ?_; apply yE; rfl; rfl; rfl; (refine yJ ?_; exact hc _); intro _ _; refine qY ?_; intro _ _; refine zX (yN ?_ ?_) <;> (intro h hp k; (try subst k); (try simp only [q_n] at hp); try first | omega | (cases hp; done));
   refine zY (zZ ?_); refine zP ?_; refine zX (zV ?_); simp only [yX]; rotate_left; refine zW (zZ (zR ?_)); refine vX ?_; refine zP ?_; refine zQ ?_; simp only [zA, zF, zE, zH, yK, ↓reduceIte, Nat.reduceEqDiff]; rotate_left
   all_goals ((repeat (rename BV _ _ => k; first | cases k | clear k)); try exact zN)
   refine ⟨k + 1, ⟨hk, hnext⟩, by omega, ?_⟩
   exact wW
 ·have hpk : ∀ p ∈ L, OkP p := fun p hp => by
   obtain ⟨i, hi⟩ := List.getElem?_of_mem hp
   exact hI2 i p (by have := wD hi; omega) hi
  clear hI2
  refine zY (zY (zZ ?_)); refine zR ?_; refine yG ?_; refine wH ?_; refine zD ?_ ?_ <;> (intro h hp; (try simp only [q_n] at hp); try first | omega | (cases hp; done));
  refine yQ ?_; refine zY (zY (zZ ?_)); refine zP ?_; refine zX (zT ?_); rotate_left
  all_goals ((repeat (rename BV _ _ => k; first | cases k | clear k)); try exact zN)
  refine yD (fun (j : Nat) => (⟨[(1, .ptr b1 0), (4, .int .i64 j)], .cells b1 (netC L A) 39 :: σ, [], Tryz.f88.ntmps⟩ : St)) (fun j => j ≤ A.length ∧ (∀ i p, i < j → A[i]? = some p → linkB p = true) ∧ ∀ i p q, i + 1 < j → A[i]? = some p → A[i + 1]? = some q → ltA p q = true) (fun j => A.length - j) 0 (⟨Nat.zero_le _, fun i p h => absurd h (Nat.not_lt_zero _), fun i p q h => absurd h (Nat.not_lt_zero _)⟩) (St.le_of (by repeat (first | exact trivial | refine ⟨rfl, ?_⟩)) (by repeat (first | exact q_r | apply q_q | apply q_k))) ?_
  intro j hI
  obtain ⟨hI1, hI2, hI3⟩ := hI
  by_cases hj : j < A.length
  ·obtain ⟨p, hpa⟩ : ∃ p, A[j]? = some p := yW hj
   have hg := ap_get hpa
   have s1 := fun σ => site_r p.1 σ
   have s2 := fun σ => site_r p.2 σ
   have hlk : linkB p = decide (0 ≤ p.1 ∧ p.1 < p.2 ∧ p.2 < 24) := rfl
   cases hb : linkB p with
   | false =>
    have hbad : ¬ NetOk L A := fun h => by
     have := h.ap.link p (List.mem_of_getElem? hpa)
     rw [hb] at this; cases this
    have hno : ¬ (0 ≤ p.1 ∧ p.1 < p.2 ∧ p.2 < 24) := by rw [hlk] at hb; exact of_decide_eq_false hb
    clear hI2 hI3 hpk hpa hlk hb
    by_cases h1 : 0 ≤ p.1 ∧ p.1 < 24
    ·rw [decide_eq_true h1] at s1
     by_cases h2 : 0 ≤ p.2 ∧ p.2 < 24
     ·rw [decide_eq_true h2] at s2
      have hge : decide (p.1 ≥ p.2) = true := decide_eq_true (by omega)
      refine zY (zY (zZ ?_)); refine zR ?_; refine yG ?_; refine wH ?_; refine zD ?_ ?_ <;> (intro h hp; (try simp only [q_n] at hp); try first | omega | (cases hp; done));
      refine zW (zY (zT ?_)); refine zY (zZ ?_); refine yG ?_; refine zR ?_; refine vG ?_; refine yA ?_; refine xK ?_; intro _; refine yR ?_; refine zX (zY (zY (zZ ?_))); apply zU; rfl; rfl; rfl; (apply yT; rfl; rfl; rfl; (exact (rfl : (0:Int) = ((0:Nat):Int))); (exact q_b rfl); rfl); refine xLd ?_; apply yE; rfl; rfl; rfl; (refine yJ ?_; exact s1 _); intro _ _; refine qY ?_; intro _ _; refine zR ?_; refine xT ?_ ?_ <;> (intro h hp k; (try subst k); (try simp only [q_n] at hp); try first | omega | (cases hp; done));
      (iterate 4 refine yC ?_); refine xF ?_; refine zR ?_; (iterate 5 refine yC ?_); refine xF ?_; refine zX (zG rfl (by rfl) ?_); refine zY (zZ ?_); refine zP ?_; refine zX (zV ?_); simp only [yX]; rotate_left; apply yZ; rfl; (rfl); rfl; rfl; (apply yT; rfl; rfl; rfl; (exact (rfl : (1:Int) = ((1:Nat):Int))); (exact q_b rfl); rfl); refine yLd ?_; apply xR; rfl; (rfl); rfl; rfl; (refine yJ ?_; exact s2 _); intro _ _; refine yNo ?_; intro _ _; refine yB ?_; refine zR ?_; refine xT ?_ ?_ <;> (intro h hp k; (try subst k); (try simp only [q_n] at hp); try first | omega | (cases hp; done));
      (iterate 5 refine yC ?_); refine xF ?_; refine zX (zG rfl (by rfl) ?_); refine zY (zZ ?_); refine zP ?_; refine zX (zV ?_); simp only [yX]; rotate_left; apply yZ; rfl; (rfl); rfl; rfl; (apply yT; rfl; rfl; rfl; (exact (rfl : (0:Int) = ((0:Nat):Int))); (exact q_b rfl); rfl); refine yLd ?_; apply yZ; rfl; (rfl); rfl; rfl; (apply yT; rfl; rfl; rfl; (exact (rfl : (1:Int) = ((1:Nat):Int))); (exact q_b rfl); rfl); refine yLd ?_; refine wT ?_; intro _ _; refine yB ?_; refine zX (yN ?_ ?_) <;> (intro h hp k; (try subst k); (try simp only [q_n] at hp); try first | omega | (cases hp; done));
      refine zY (zZ ?_); refine zP ?_; refine zX (zV ?_); simp only [yX]; rotate_left
      all_goals ((repeat (rename BV _ _ => k; first | cases k | clear k)); try exact zN)
      refine xX (σ3 := σ) ?_
      exact zJ ⟨rfl, .inr ⟨hbad, rfl⟩⟩
     ·rw [decide_eq_false h2] at s2
      refine zY (zY (zZ ?_)); refine zR ?_; refine yG ?_; refine wH ?_; refine zD ?_ ?_ <;> (intro h hp; (try simp only [q_n] at hp); try first | omega | (cases hp; done));
      refine zW (zY (zT ?_)); refine zY (zZ ?_); refine yG ?_; refine zR ?_; refine vG ?_; refine yA ?_; refine xK ?_; intro _; refine yR ?_; refine zX (zY (zY (zZ ?_))); apply zU; rfl; rfl; rfl; (apply yT; rfl; rfl; rfl; (exact (rfl : (0:Int) = ((0:Nat):Int))); (exact q_b rfl); rfl); refine xLd ?_; apply yE; rfl; rfl; rfl; (refine yJ ?_; exact s1 _); intro _ _; refine qY ?_; intro _ _; refine zR ?_; refine xT ?_ ?_ <;> (intro h hp k; (try subst k); (try simp only [q_n] at hp); try first | omega | (cases hp; done));
      (iterate 4 refine yC ?_); refine xF ?_; refine zR ?_; (iterate 5 refine yC ?_); refine xF ?_; refine zX (zG rfl (by rfl) ?_); refine zY (zZ ?_); refine zP ?_; refine zX (zV ?_); simp only [yX]; rotate_left; apply yZ; rfl; (rfl); rfl; rfl; (apply yT; rfl; rfl; rfl; (exact (rfl : (1:Int) = ((1:Nat):Int))); (exact q_b rfl); rfl); refine yLd ?_; apply xR; rfl; (rfl); rfl; rfl; (refine yJ ?_; exact s2 _); intro _ _; refine yNo ?_; intro _ _; refine yB ?_; refine zR ?_; refine xT ?_ ?_ <;> (intro h hp k; (try subst k); (try simp only [q_n] at hp); try first | omega | (cases hp; done));
      (iterate 5 refine yC ?_); refine xF ?_; refine zX (zG rfl (by rfl) ?_); refine zY (zZ ?_); refine zP ?_; refine zX (zV ?_); simp only [yX]; rotate_left; apply yZ; rfl; (rfl); rfl; rfl; (apply yT; rfl; rfl; rfl; (exact (rfl : (0:Int) = ((0:Nat):Int))); (exact q_b rfl); rfl); refine yLd ?_; apply yZ; rfl; (rfl); rfl; rfl; (apply yT; rfl; rfl; rfl; (exact (rfl : (1:Int) = ((1:Nat):Int))); (exact q_b rfl); rfl); refine yLd ?_; refine wT ?_; intro _ _; refine yB ?_; refine zX (yN ?_ ?_) <;> (intro h hp k; (try subst k); (try simp only [q_n] at hp); try first | omega | (cases hp; done));
      refine zY (zZ ?_); refine zP ?_; refine zX (zV ?_); simp only [yX]; rotate_left; refine zW (zY (wN rfl rfl (by kernel_rfl) rfl ?_)); refine yU rfl (by kernel_rfl) rfl ?_; refine xU ?_; refine wBi ?_; intro _ _; refine xU ?_; refine uW ?_ ?_ <;> (intro h hp k; (try subst k); (try simp only [q_n] at hp); try first | omega | (cases hp; done));
      apply xS; rfl; (rfl); rfl; rfl; (intro σ' hl; (apply yT; rfl; rfl; rfl; (exact (rfl : (0:Int) = ((0:Nat):Int))); (exact q_b rfl); rfl)); refine uU ?_; refine tX ?_; refine uU ?_; refine uV ?_; refine vSu ?_; simp only [zA, zF, zE, zH, yK, ↓reduceIte, Nat.reduceEqDiff]; rotate_left; (iterate 11 refine vF ?_); (iterate 22 refine wS rfl rfl rfl ?_); refine vF ?_; refine qW ?_; refine zC ?_; show EX _ _ _ _ _; refine yH rfl (by rfl) ?_; refine zW (zZ (zR ?_)); refine vX ?_; refine zP ?_; refine zQ ?_; simp only [zA, zF, zE, zH, yK, ↓reduceIte, Nat.reduceEqDiff]; rotate_left
      all_goals ((repeat (rename BV _ _ => k; first | cases k | clear k)); try exact zN)
      refine xX (σ3 := σ) ?_
      exact zJ ⟨rfl, .inr ⟨hbad, rfl⟩⟩
    ·rw [decide_eq_false h1] at s1
     clear s2
     refine zY (zY (zZ ?_)); refine zR ?_; refine yG ?_; refine wH ?_; refine zD ?_ ?_ <;> (intro h hp; (try simp only [q_n] at hp); try first | omega | (cases hp; done));
     refine zW (zY (zT ?_)); refine zY (zZ ?_); refine yG ?_; refine zR ?_; refine vG ?_; refine yA ?_; refine xK ?_; intro _; refine yR ?_; refine zX (zY (zY (zZ ?_))); apply zU; rfl; rfl; rfl; (apply yT; rfl; rfl; rfl; (exact (rfl : (0:Int) = ((0:Nat):Int))); (exact q_b rfl); rfl); refine xLd ?_; apply yE; rfl; rfl; rfl; (refine yJ ?_; exact s1 _); intro _ _; refine qY ?_; intro _ _; refine zR ?_; refine xT ?_ ?_ <;> (intro h hp k; (try subst k); (try simp only [q_n] at hp); try first | omega | (cases hp; done));
     (iterate 4 refine yC ?_); refine xF ?_; refine zR ?_; (iterate 5 refine yC ?_); refine xF ?_; refine zX (zG rfl (by rfl) ?_); refine zY (zZ ?_); refine zP ?_; refine zX (zV ?_); simp only [yX]; rotate_left; apply yZ; rfl; (rfl); rfl; rfl; (apply yT; rfl; rfl; rfl; (exact (rfl : (1:Int) = ((1:Nat):Int))); (exact q_b rfl); rfl); refine yLd ?_; simp only [zA, zF, zE, zH, yK, ↓reduceIte, Nat.reduceEqDiff]; rotate_left
     all_goals ((repeat (rename BV _ _ => k; first | cases k | clear k)); try exact zN)
     refine xX (σ3 := σ) ?_
     exact zJ ⟨rfl, .inr ⟨hbad, rfl⟩⟩
   | true =>
    have hyes : 0 ≤ p.1 ∧ p.1 < p.2 ∧ p.2 < 24 := by rw [hlk] at hb; exact of_decide_eq_true hb
    have hnext : ∀ i q, i < j + 1 → A[i]? = some q → linkB q = true := fun i q h1 h2 => by
     by_cases e : i = j
     ·subst e; rw [hpa] at h2; cases h2; exact hb
     ·exact hI2 i q (by omega) h2
    rw [decide_eq_true (by omega)] at s1 s2
    have hge : decide (p.1 ≥ p.2) = false := decide_eq_false (by omega)
    clear hlk hb
    cases j with
    | zero =>
     clear hI2 hI3 hpk
     refine zY (zY (zZ ?_)); refine zR ?_; refine yG ?_; refine wH ?_; refine zD ?_ ?_ <;> (intro h hp; (try simp only [q_n] at hp); try first | omega | (cases hp; done));
     refine zW (zY (zT ?_)); refine zY (zZ ?_); refine yG ?_; refine zR ?_; refine vG ?_; refine yA ?_; refine xK ?_; intro _; refine yR ?_; refine zX (zY (zY (zZ ?_))); apply zU; rfl; rfl; rfl; (apply yT; rfl; rfl; rfl; (exact (rfl : (0:Int) = ((0:Nat):Int))); (exact q_b rfl); rfl); refine xLd ?_; apply yE; rfl; rfl; rfl; (refine yJ ?_; exact s1 _); intro _ _; refine qY ?_; intro _ _; refine zR ?_; refine xT ?_ ?_ <;> (intro h hp k; (try subst k); (try simp only [q_n] at hp); try first | omega | (cases hp; done));
     (iterate 4 refine yC ?_); refine xF ?_; refine zR ?_; (iterate 5 refine yC ?_); refine xF ?_; refine zX (zG rfl (by rfl) ?_); refine zY (zZ ?_); refine zP ?_; refine zX (zV ?_); simp only [yX]; rotate_left; apply yZ; rfl; (rfl); rfl; rfl; (apply yT; rfl; rfl; rfl; (exact (rfl : (1:Int) = ((1:Nat):Int))); (exact q_b rfl); rfl); refine yLd ?_; apply xR; rfl; (rfl); rfl; rfl; (refine yJ ?_; exact s2 _); intro _ _; refine yNo ?_; intro _ _; refine yB ?_; refine zR ?_; refine xT ?_ ?_ <;> (intro h hp k; (try subst k); (try simp only [q_n] at hp); try first | omega | (cases hp; done));
     (iterate 5 refine yC ?_); refine xF ?_; refine zX (zG rfl (by rfl) ?_); refine zY (zZ ?_); refine zP ?_; refine zX (zV ?_); simp only [yX]; rotate_left; apply yZ; rfl; (rfl); rfl; rfl; (apply yT; rfl; rfl; rfl; (exact (rfl : (0:Int) = ((0:Nat):Int))); (exact q_b rfl); rfl); refine yLd ?_; apply yZ; rfl; (rfl); rfl; rfl; (apply yT; rfl; rfl; rfl; (exact (rfl : (1:Int) = ((1:Nat):Int))); (exact q_b rfl); rfl); refine yLd ?_; refine wT ?_; intro _ _; refine yB ?_; refine zX (yN ?_ ?_) <;> (intro h hp k; (try subst k); (try simp only [q_n] at hp); try first | omega | (cases hp; done));
     refine zW (zY (wN rfl rfl (by kernel_rfl) rfl ?_)); refine yU rfl (by kernel_rfl) rfl ?_; refine xU ?_; refine wBi ?_; intro _ _; refine xU ?_; refine uW ?_ ?_ <;> (intro h hp k; (try subst k); (try simp only [q_n] at hp); try first | omega | (cases hp; done));
     (iterate 11 refine vF ?_); (iterate 22 refine wS rfl rfl rfl ?_); refine vF ?_; refine qW ?_; refine zC ?_; show EX _ _ _ _ _; refine yH rfl (by rfl) ?_; refine zW (zZ (zR ?_)); refine vX ?_; refine zP ?_; refine zQ ?_; simp only [zA, zF, zE, zH, yK, ↓reduceIte, Nat.reduceEqDiff]; rotate_left
     all_goals ((repeat (rename BV _ _ => k; first | cases k | clear k)); try exact zN)
     refine ⟨1, ⟨hj, hnext, fun i p q h => by omega⟩, by omega, ?_⟩
     exact wW
    | succ j =>
     obtain ⟨p', hpb⟩ : ∃ p', A[j]? = some p' := yW (by omega)
     have hg' := ap_get hpb
     have hkj : (((j + 1 : Nat) : Int) - 1) = ((j : Nat) : Int) := by omega
     have hlt : ltA p' p = decide (p'.1 < p.1 ∨ p'.1 = p.1 ∧ p'.2 < p.2) := rfl
     by_cases hup : p'.1 < p.1 ∨ p'.1 = p.1 ∧ p'.2 < p.2
     ·have hups : ∀ i p q, i + 1 < j + 1 + 1 → A[i]? = some p → A[i + 1]? = some q → ltA p q = true := fun i r q h1 h2 h3 => by
       by_cases e : i = j
       ·subst e; rw [hpb] at h2; rw [hpa] at h3; cases h2; cases h3; rw [hlt]; exact decide_eq_true hup
       ·exact hI3 i r q (by omega) h2 h3
      clear hI2 hI3 hpk hlt hpa hpb
      refine zY (zY (zZ ?_)); refine zR ?_; refine yG ?_; refine wH ?_; refine zD ?_ ?_ <;> (intro h hp; (try simp only [q_n] at hp); try first | omega | (cases hp; done));
      refine zW (zY (zT ?_)); refine zY (zZ ?_); refine yG ?_; refine zR ?_; refine vG ?_; refine yA ?_; refine xK ?_; intro _; refine yR ?_; refine zX (zY (zY (zZ ?_))); apply zU; rfl; rfl; rfl; (apply yT; rfl; rfl; rfl; (exact (rfl : (0:Int) = ((0:Nat):Int))); (exact q_b rfl); rfl); refine xLd ?_; apply yE; rfl; rfl; rfl; (refine yJ ?_; exact s1 _); intro _ _; refine qY ?_; intro _ _; refine zR ?_; refine xT ?_ ?_ <;> (intro h hp k; (try subst k); (try simp only [q_n] at hp); try first | omega | (cases hp; done));
      (iterate 4 refine yC ?_); refine xF ?_; refine zR ?_; (iterate 5 refine yC ?_); refine xF ?_; refine zX (zG rfl (by rfl) ?_); refine zY (zZ ?_); refine zP ?_; refine zX (zV ?_); simp only [yX]; rotate_left; apply yZ; rfl; (rfl); rfl; rfl; (apply yT; rfl; rfl; rfl; (exact (rfl : (1:Int) = ((1:Nat):Int))); (exact q_b rfl); rfl); refine yLd ?_; apply xR; rfl; (rfl); rfl; rfl; (refine yJ ?_; exact s2 _); intro _ _; refine yNo ?_; intro _ _; refine yB ?_; refine zR ?_; refine xT ?_ ?_ <;> (intro h hp k; (try subst k); (try simp only [q_n] at hp); try first | omega | (cases hp; done));
      (iterate 5 refine yC ?_); refine xF ?_; refine zX (zG rfl (by rfl) ?_); refine zY (zZ ?_); refine zP ?_; refine zX (zV ?_); simp only [yX]; rotate_left; apply yZ; rfl; (rfl); rfl; rfl; (apply yT; rfl; rfl; rfl; (exact (rfl : (0:Int) = ((0:Nat):Int))); (exact q_b rfl); rfl); refine yLd ?_; apply yZ; rfl; (rfl); rfl; rfl; (apply yT; rfl; rfl; rfl; (exact (rfl : (1:Int) = ((1:Nat):Int))); (exact q_b rfl); rfl); refine yLd ?_; refine wT ?_; intro _ _; refine yB ?_; refine zX (yN ?_ ?_) <;> (intro h hp k; (try subst k); (try simp only [q_n] at hp); try first | omega | (cases hp; done));
      refine zW (zY (wN rfl rfl (by kernel_rfl) rfl ?_)); refine yU rfl (by kernel_rfl) rfl ?_; refine xU ?_; refine wBi ?_; intro _ _; refine xU ?_; refine uW ?_ ?_ <;> (intro h hp k; (try subst k); (try simp only [q_n] at hp); try first | omega | (cases hp; done));
      apply xS; rfl; (rfl); rfl; rfl; (intro σ' hl; (apply yT; rfl; rfl; rfl; (exact (rfl : (0:Int) = ((0:Nat):Int))); (exact q_b rfl); rfl)); refine uU ?_; refine tX ?_; refine uU ?_; refine uV ?_; refine vSu ?_; refine vIx ?_; apply xS; rfl; (rfl); rfl; rfl; (intro σ' hl; (apply yT; rfl; rfl; rfl; (exact (rfl : (0:Int) = ((0:Nat):Int))); (exact q_b rfl); rfl)); refine uU ?_; refine tE ?_; intro _ _; refine uV ?_; refine uW ?_ ?_ <;> (intro h hp k; (try subst k); (try simp only [q_n] at hp); try first | omega | (cases hp; done));
      apply xS; rfl; (rfl); rfl; rfl; (intro σ' hl; (apply yT; rfl; rfl; rfl; (exact (rfl : (0:Int) = ((0:Nat):Int))); (exact q_b rfl); rfl)); refine uU ?_; refine tX ?_; refine uU ?_; refine uV ?_; refine vSu ?_; refine vIx ?_; apply xS; rfl; (rfl); rfl; rfl; (intro σ' hl; (apply yT; rfl; rfl; rfl; (exact (rfl : (0:Int) = ((0:Nat):Int))); (exact q_b rfl); rfl)); refine uU ?_; refine tE ?_; intro _ _; refine uV ?_; refine uW ?_ ?_ <;> (intro h hp k; (try subst k); (try simp only [q_n] at hp); try first | omega | (cases hp; done));
      apply xS; rfl; (rfl); rfl; rfl; (intro σ' hl; (apply yT; rfl; rfl; rfl; (exact (rfl : (1:Int) = ((1:Nat):Int))); (exact q_b rfl); rfl)); refine uU ?_; refine tX ?_; refine uU ?_; refine uV ?_; refine vSu ?_; refine vIx ?_; apply xS; rfl; (rfl); rfl; rfl; (intro σ' hl; (apply yT; rfl; rfl; rfl; (exact (rfl : (1:Int) = ((1:Nat):Int))); (exact q_b rfl); rfl)); refine uU ?_; refine tE ?_; intro _ _; refine vPt ?_; refine vPf ?_; refine tZ ?_; refine zC ?_; show EX _ _ _ _ _; refine yN ?_ ?_ <;> (intro h hp k; (try subst k); (try simp only [q_n] at hp); try first | omega | (cases hp; done));
      refine zW (zZ (zR ?_)); refine vX ?_; refine zP ?_; refine zQ ?_; simp only [zA, zF, zE, zH, yK, ↓reduceIte, Nat.reduceEqDiff]; rotate_left; (iterate 10 refine vF ?_); (iterate 2 refine vPf ?_); refine tZ ?_; refine zC ?_; show EX _ _ _ _ _; refine yH rfl (by rfl) ?_; refine zW (zZ (zR ?_)); refine vX ?_; refine zP ?_; refine zQ ?_; simp only [zA, zF, zE, zH, yK, ↓reduceIte, Nat.reduceEqDiff]; rotate_left
      all_goals ((repeat (rename BV _ _ => k; first | cases k | clear k)); try exact zN)
      all_goals
       refine ⟨j + 2, ⟨hj, hnext, hups⟩, by omega, ?_⟩
       exact wW
     ·have hbad : ¬ NetOk L A := fun h => by
       have := h.ap.up j p' p hpb hpa
       rw [hlt] at this; exact hup (of_decide_eq_true this)
      clear hI2 hI3 hpk hlt hpa hpb hnext
      refine zY (zY (zZ ?_)); refine zR ?_; refine yG ?_; refine wH ?_; refine zD ?_ ?_ <;> (intro h hp; (try simp only [q_n] at hp); try first | omega | (cases hp; done));
      refine zW (zY (zT ?_)); refine zY (zZ ?_); refine yG ?_; refine zR ?_; refine vG ?_; refine yA ?_; refine xK ?_; intro _; refine yR ?_; refine zX (zY (zY (zZ ?_))); apply zU; rfl; rfl; rfl; (apply yT; rfl; rfl; rfl; (exact (rfl : (0:Int) = ((0:Nat):Int))); (exact q_b rfl); rfl); refine xLd ?_; apply yE; rfl; rfl; rfl; (refine yJ ?_; exact s1 _); intro _ _; refine qY ?_; intro _ _; refine zR ?_; refine xT ?_ ?_ <;> (intro h hp k; (try subst k); (try simp only [q_n] at hp); try first | omega | (cases hp; done));
      (iterate 4 refine yC ?_); refine xF ?_; refine zR ?_; (iterate 5 refine yC ?_); refine xF ?_; refine zX (zG rfl (by rfl) ?_); refine zY (zZ ?_); refine zP ?_; refine zX (zV ?_); simp only [yX]; rotate_left; apply yZ; rfl; (rfl); rfl; rfl; (apply yT; rfl; rfl; rfl; (exact (rfl : (1:Int) = ((1:Nat):Int))); (exact q_b rfl); rfl); refine yLd ?_; apply xR; rfl; (rfl); rfl; rfl; (refine yJ ?_; exact s2 _); intro _ _; refine yNo ?_; intro _ _; refine yB ?_; refine zR ?_; refine xT ?_ ?_ <;> (intro h hp k; (try subst k); (try simp only [q_n] at hp); try first | omega | (cases hp; done));
      (iterate 5 refine yC ?_); refine xF ?_; refine zX (zG rfl (by rfl) ?_); refine zY (zZ ?_); refine zP ?_; refine zX (zV ?_); simp only [yX]; rotate_left; apply yZ; rfl; (rfl); rfl; rfl; (apply yT; rfl; rfl; rfl; (exact (rfl : (0:Int) = ((0:Nat):Int))); (exact q_b rfl); rfl); refine yLd ?_; apply yZ; rfl; (rfl); rfl; rfl; (apply yT; rfl; rfl; rfl; (exact (rfl : (1:Int) = ((1:Nat):Int))); (exact q_b rfl); rfl); refine yLd ?_; refine wT ?_; intro _ _; refine yB ?_; refine zX (yN ?_ ?_) <;> (intro h hp k; (try subst k); (try simp only [q_n] at hp); try first | omega | (cases hp; done));
      refine zW (zY (wN rfl rfl (by kernel_rfl) rfl ?_)); refine yU rfl (by kernel_rfl) rfl ?_; refine xU ?_; refine wBi ?_; intro _ _; refine xU ?_; refine uW ?_ ?_ <;> (intro h hp k; (try subst k); (try simp only [q_n] at hp); try first | omega | (cases hp; done));
      apply xS; rfl; (rfl); rfl; rfl; (intro σ' hl; (apply yT; rfl; rfl; rfl; (exact (rfl : (0:Int) = ((0:Nat):Int))); (exact q_b rfl); rfl)); refine uU ?_; refine tX ?_; refine uU ?_; refine uV ?_; refine vSu ?_; refine vIx ?_; apply xS; rfl; (rfl); rfl; rfl; (intro σ' hl; (apply yT; rfl; rfl; rfl; (exact (rfl : (0:Int) = ((0:Nat):Int))); (exact q_b rfl); rfl)); refine uU ?_; refine tE ?_; intro _ _; refine uV ?_; refine uW ?_ ?_ <;> (intro h hp k; (try subst k); (try simp only [q_n] at hp); try first | omega | (cases hp; done));
      (iterate 11 refine vF ?_); (iterate 10 refine wS rfl rfl rfl ?_); refine vF ?_; refine vPt ?_; refine tZ ?_; refine zC ?_; show EX _ _ _ _ _; refine zG rfl (by rfl) ?_; refine zY (zZ ?_); refine zP ?_; refine zX (zV ?_); simp only [yX]; rotate_left; apply xS; rfl; (rfl); rfl; rfl; (intro σ' hl; (apply yT; rfl; rfl; rfl; (exact (rfl : (0:Int) = ((0:Nat):Int))); (exact q_b rfl); rfl)); refine uU ?_; refine tX ?_; refine uU ?_; refine uV ?_; refine vSu ?_; refine vIx ?_; apply xS; rfl; (rfl); rfl; rfl; (intro σ' hl; (apply yT; rfl; rfl; rfl; (exact (rfl : (0:Int) = ((0:Nat):Int))); (exact q_b rfl); rfl)); refine uU ?_; refine tE ?_; intro _ _; refine uV ?_; refine uW ?_ ?_ <;> (intro h hp k; (try subst k); (try simp only [q_n] at hp); try first | omega | (cases hp; done));
      apply xS; rfl; (rfl); rfl; rfl; (intro σ' hl; (apply yT; rfl; rfl; rfl; (exact (rfl : (1:Int) = ((1:Nat):Int))); (exact q_b rfl); rfl)); refine uU ?_; refine tX ?_; refine uU ?_; refine uV ?_; refine vSu ?_; refine vIx ?_; apply xS; rfl; (rfl); rfl; rfl; (intro σ' hl; (apply yT; rfl; rfl; rfl; (exact (rfl : (1:Int) = ((1:Nat):Int))); (exact q_b rfl); rfl)); refine uU ?_; refine tE ?_; intro _ _; refine vPt ?_; refine vPf ?_; refine tZ ?_; refine zC ?_; show EX _ _ _ _ _; refine yN ?_ ?_ <;> (intro h hp k; (try subst k); (try simp only [q_n] at hp); try first | omega | (cases hp; done));
      refine zY (zZ ?_); refine zP ?_; refine zX (zV ?_); simp only [yX]; rotate_left
      all_goals ((repeat (rename BV _ _ => k; first | cases k | clear k)); try exact zN)
      all_goals
       refine xX (σ3 := σ) ?_
       exact zJ ⟨rfl, .inr ⟨hbad, rfl⟩⟩
  ·have hok : NetOk L A := ⟨by omega, hpk, fun p hp => (by
    obtain ⟨i, hi⟩ := List.getElem?_of_mem hp
    exact hI2 i p (by have := wD hi; omega) hi), fun i p q h1 h2 => hI3 i p q (by have := wD h2; omega) h1 h2⟩
   clear hI2 hI3 hpk
   refine zY (zY (zZ ?_)); refine zR ?_; refine yG ?_; refine wH ?_; refine zD ?_ ?_ <;> (intro h hp; (try simp only [q_n] at hp); try first | omega | (cases hp; done));
   refine yQ ?_; refine zY (zZ ?_); refine zP ?_; refine zX (zV ?_); simp only [yX]; rotate_left
   all_goals ((repeat (rename BV _ _ => k; first | cases k | clear k)); try exact zN)
   refine xX (σ3 := σ) ?_
   exact zJ ⟨rfl, .inl ⟨hok, rfl⟩⟩
theorem checkn_ok {L : List Pk} {A : List Ap} (h : NetOk L A) (hAl : A.length ≤ 100000) (σ : List Ent) : SCall Tryz.prog 88 [netV L A] σ (Is (.int .i64 0) σ) :=
 uY (checkn_r L A (by have := h.few; omega) hAl σ) fun v τ ⟨h1, h2⟩ => by
  rcases h2 with ⟨_, rfl⟩ | ⟨h3, _⟩
  ·subst h1; exact .mk
  ·exact absurd h h3
theorem checkn_bad {L : List Pk} {A : List Ap} (h : ¬ NetOk L A) (hLl : L.length ≤ 100000) (hAl : A.length ≤ 100000) (σ : List Ent) : SCall Tryz.prog 88 [netV L A] σ (Is (.int .i64 60) σ) :=
 uY (checkn_r L A hLl hAl σ) fun v τ ⟨h1, h2⟩ => by
  rcases h2 with ⟨h3, _⟩ | ⟨_, rfl⟩
  ·exact absurd h3 h
  ·subst h1; exact .mk
theorem pks_one (L : List Pk) : ∀ y ∈ L.map pkC, y.all AV.one = true := by
 intro y hy
 obtain ⟨_, _, rfl⟩ := List.mem_map.1 hy
 rfl
theorem send_r (L : List Pk) (A : List Ap) (h : NetOk L A) (hAl : A.length ≤ 100000) (p : Pk) (hp0 : OkP p) (σ : List Ent) :
  SCall Tryz.prog 93 [netV L A, pkV p] σ (Is (sendR L A p) σ) := by
 refine zL Tryz.func93 rfl (by simp) ?_
 have hl := h.few
 have hc := fun σ => checkn_ok h hAl σ
 have hk := fun σ => packet_r p σ
 rw [okPB_iff.2 hp0] at hk
 clear h hp0
 unfold sendR
 by_cases he : L.length = 4096
 ·rw [if_pos he]
  have he1 : (L.length : Int) = 4096 := by omega
  refine zY (zZ ?_); refine xB ?_; intro _; refine xB ?_; intro _; refine xK ?_; intro _; refine zP ?_; refine zX (zY (zY (zZ ?_))); refine yA ?_; apply zU; rfl; rfl; rfl; (refine yJ ?_; exact hc _); refine xY ?_; intro _ _; refine zR ?_; refine xT ?_ ?_ <;> (intro h hp k; (try subst k); (try simp only [q_n] at hp); try first | omega | (cases hp; done));
  refine yLa ?_; apply xR; rfl; (rfl); rfl; rfl; (refine yJ ?_; exact hk _); intro _ _; refine yNo ?_; intro _ _; refine yB ?_; refine zX (yN ?_ ?_) <;> (intro h hp k; (try subst k); (try simp only [q_n] at hp); try first | omega | (cases hp; done));
  refine zY (zZ ?_); refine uA ?_; refine yR ?_; refine zP ?_; refine zX (zV ?_); simp only [yX]; rotate_left; refine zW (zY (zY (zZ ?_))); refine yG ?_; refine wH ?_; refine zD ?_ ?_ <;> (intro h hp; (try simp only [q_n] at hp); try first | omega | (cases hp; done));
  refine zY (zZ ?_); refine uA ?_; refine yR ?_; refine zP ?_; refine zX (zV ?_); simp only [yX]; rotate_left
  all_goals ((repeat (rename BV _ _ => k; first | cases k | clear k)); try exact zN)
  refine xW ?_
  rfl
 ·rw [if_neg he]
  have he1 : ¬ (L.length : Int) = 4096 := by omega
  have hone := pks_one L
  refine zY (zZ ?_); refine xB ?_; intro _; refine xB ?_; intro _; refine xK ?_; intro _; refine zP ?_; refine zX (zY (zY (zZ ?_))); refine yA ?_; apply zU; rfl; rfl; rfl; (refine yJ ?_; exact hc _); refine xY ?_; intro _ _; refine zR ?_; refine xT ?_ ?_ <;> (intro h hp k; (try subst k); (try simp only [q_n] at hp); try first | omega | (cases hp; done));
  refine yLa ?_; apply xR; rfl; (rfl); rfl; rfl; (refine yJ ?_; exact hk _); intro _ _; refine yNo ?_; intro _ _; refine yB ?_; refine zX (yN ?_ ?_) <;> (intro h hp k; (try subst k); (try simp only [q_n] at hp); try first | omega | (cases hp; done));
  refine zY (zZ ?_); refine uA ?_; refine yR ?_; refine zP ?_; refine zX (zV ?_); simp only [yX]; rotate_left; refine zW (zY (zY (zZ ?_))); refine yG ?_; refine wH ?_; refine zD ?_ ?_ <;> (intro h hp; (try simp only [q_n] at hp); try first | omega | (cases hp; done));
  refine zW (zY ?_); rotate_left
  all_goals ((repeat (rename BV _ _ => k; first | cases k | clear k)); try exact zN)
  rename Nat => b4; revert b4; rename Nat => b3; revert b3; rename Nat => b2; revert b2
  intro b2 b3 b4
  refine uS (fun e => e = .cells b2 (netC L A) 39 ∨ e = .cells b3 (pkC p) 93) 7 [1, 2, 4, 5, 0, 3, 6] [4, 5, 6] rfl (by kernel_rfl) rfl (by kernel_rfl) rfl ?_
  simp only [pick, List.filterMap_cons, List.filterMap_nil, List.getElem?_cons_zero, List.getElem?_cons_succ, wU]
  refine vR ?_; refine vW ?_; refine qB ?_; apply yY; rfl; rfl; rfl; (intro σ' hl; (show GOp _ _ { dst := _, op := .buildSlice _ 1 _, type := _, pos := _, after := _, guard := _ } _ _ _; exact xE (yV rfl rfl (by decide) rfl rfl (by (simp only [xC, wU]; rfl))))); refine wl_row rfl rfl rfl (by exact yV rfl rfl (by decide) rfl rfl (by (simp only [xC, wU]; rfl))) ?_; intro _; refine wE rfl rfl rfl (by apply xG; rfl; rfl; rfl; (intro v'; (exact Upd.here)); (exact .d); (intro y hy; simp only [tC] at hy; (focus (obtain ⟨_, _, rfl⟩ := hy; rfl; done))); (refine wP ?_ (by kernel_rfl); (try simp only [List.length_append, List.length_map, List.length_cons, List.length_nil, List.length_take, List.length_drop]); omega)) ?_; rintro _ _ ⟨v'⟩; refine ⟨(by (rintro _ (rfl | rfl) _ <;> exact (by repeat first | exact q_h | apply q_t | assumption))), ?_⟩; refine wE rfl rfl rfl (by apply xG; rfl; rfl; rfl; (intro v'; (exact Upd.here)); (exact .d); (intro y hy; simp only [tC] at hy; (focus (obtain ⟨_, _, rfl⟩ := hy; rfl; done))); (refine wP ?_ (by kernel_rfl); (try simp only [List.length_append, List.length_map, List.length_cons, List.length_nil, List.length_take, List.length_drop]); omega)) ?_; rintro _ _ ⟨v'⟩; refine ⟨(by (rintro _ (rfl | rfl) _ <;> exact (by repeat first | exact q_h | apply q_t | assumption))), ?_⟩; refine zC (uZ ?_); refine yR ?_; refine zX (zY (zZ ?_)); refine yA ?_; refine yR ?_; refine zP ?_; refine zX (zV ?_); simp only [yX]; rotate_left
  all_goals ((repeat (rename BV _ _ => k; first | cases k | clear k)); try exact zN)
  rename Value => v
  refine xX (σ3 := .row v 93 3 (L.map pkC ++ [pkC p]) :: σ) ?_
  rw [show L.map pkC ++ [pkC p] = (L ++ [p]).map pkC by simp]
  exact vV .here (.tup (.agg (.here (.same .nil)) (.same .nil)) .nil) (zJ .mk)
theorem asked_in (L : List Pk) (A : List Ap) (h : NetOk L A) (hAl : A.length ≤ 100000) (k : Nat) (hk : k < L.length) (σ : List Ent) : SCall Tryz.prog 134 [netV L A, .int .i64 k] σ (Is (.int .i64 0) σ) := by
 refine zL Tryz.func134 rfl (by simp) ?_
 have hc := fun σ => checkn_ok h hAl σ
 clear h
 refine zY (zZ ?_); refine xB ?_; intro _; refine zP ?_; refine zX (zY (zY (zZ ?_))); refine yA ?_; apply zU; rfl; rfl; rfl; (refine yJ ?_; exact hc _); refine zD ?_ ?_ <;> (intro h hp; (try simp only [q_n] at hp); try first | omega | (cases hp; done));
 refine zW (zY (zY (zZ ?_))); refine zR ?_; refine xY ?_; intro _ _; refine zR ?_; refine xT ?_ ?_ <;> (intro h hp k; (try subst k); (try simp only [q_n] at hp); try first | omega | (cases hp; done));
 refine vN ?_; refine wL ?_; apply yZ; rfl; (rfl); rfl; rfl; (apply xH; rfl; rfl; (exact (List.length_map _).symm)); refine wT ?_; intro _ _; refine yB ?_; refine zX (yN ?_ ?_) <;> (intro h hp k; (try subst k); (try simp only [q_n] at hp); try first | omega | (cases hp; done));
 refine zW (zY (zZ ?_)); refine zP ?_; refine zX (zV ?_); simp only [yX]; rotate_left
 all_goals ((repeat (rename BV _ _ => k; first | cases k | clear k)); try exact zN)
 all_goals
  refine xW ?_
  rfl
theorem asked_out (L : List Pk) (A : List Ap) (h : NetOk L A) (hAl : A.length ≤ 100000) (i : Int) (hi : i < 0 ∨ (L.length : Int) ≤ i) (σ : List Ent) : SCall Tryz.prog 134 [netV L A, .int .i64 i] σ (Is (.int .i64 1) σ) := by
 refine zL Tryz.func134 rfl (by simp) ?_
 have hc := fun σ => checkn_ok h hAl σ
 clear h
 refine zY (zZ ?_); refine xB ?_; intro _; refine zP ?_; refine zX (zY (zY (zZ ?_))); refine yA ?_; apply zU; rfl; rfl; rfl; (refine yJ ?_; exact hc _); refine zD ?_ ?_ <;> (intro h hp; (try simp only [q_n] at hp); try first | omega | (cases hp; done));
 refine zW (zY (zY (zZ ?_))); refine zR ?_; refine xY ?_; intro _ _; refine zR ?_; refine xT ?_ ?_ <;> (intro h hp k; (try subst k); (try simp only [q_n] at hp); try first | omega | (cases hp; done));
 (iterate 5 refine yC ?_); refine xF ?_; refine zX (zG rfl (by rfl) ?_); refine zY (zZ ?_); refine zP ?_; refine zX (zV ?_); simp only [yX]; rotate_left; refine vN ?_; refine wL ?_; apply yZ; rfl; (rfl); rfl; rfl; (apply xH; rfl; rfl; (exact (List.length_map _).symm)); refine wT ?_; intro _ _; refine yB ?_; refine zX (yN ?_ ?_) <;> (intro h hp k; (try subst k); (try simp only [q_n] at hp); try first | omega | (cases hp; done));
 refine zY (zZ ?_); refine zP ?_; refine zX (zV ?_); simp only [yX]; rotate_left
 all_goals ((repeat (rename BV _ _ => k; first | cases k | clear k)); try exact zN)
 all_goals
  refine xW ?_
  rfl
theorem isCut_r (L : List Pk) (A : List Ap) (hAl : A.length ≤ 100000) (f t : Int) (σ : List Ent) : SCall Tryz.prog 135 [netV L A, .int .i64 f, .int .i64 t] σ (Is (.bool (cutB A f t)) σ) := by
 refine zL Tryz.func135 rfl (by simp) ?_
 unfold cutB
 refine zY (zZ ?_); refine xB ?_; intro _; refine zP ?_; refine zX (zY (zY (zZ ?_))); refine zP ?_; refine zX (zT ?_); rotate_left
 all_goals ((repeat (rename BV _ _ => k; first | cases k | clear k)); try exact zN)
 rename Nat => b3; revert b3
 intro b3
 refine yD (fun (k : Nat) => (⟨[(3, .ptr b3 0), (1, .int .i64 f), (2, .int .i64 t), (7, .int .i64 k)], .cells b3 (netC L A) 39 :: σ, [], Tryz.f135.ntmps⟩ : St)) (fun k => k ≤ A.length ∧ ∀ i q, i < k → A[i]? = some q → q ≠ (min f t, max f t)) (fun k => A.length - k) 0 (⟨Nat.zero_le _, fun i q h => absurd h (Nat.not_lt_zero _)⟩) (St.le_of (by repeat (first | exact trivial | refine ⟨rfl, ?_⟩)) (by repeat (first | exact q_r | apply q_q | apply q_k))) ?_
 intro k hI
 obtain ⟨hI1, hI2⟩ := hI
 by_cases hk : k < A.length
 ·obtain ⟨q, hq⟩ : ∃ q, A[k]? = some q := yW hk
  have hg := ap_get hq
  by_cases he : q = (min f t, max f t)
  ·have hc : A.contains (min f t, max f t) = true := by
    rw [List.contains_eq_any_beq, List.any_eq_true]
    exact ⟨q, List.mem_of_getElem? hq, by rw [he]; exact beq_self_eq_true _⟩
   have e1 : q.1 = min f t := by rw [he]
   have e2 : q.2 = max f t := by rw [he]
   rw [hc]
   clear hI2 hq he
   refine zY (zY (zZ ?_)); refine zR ?_; refine yG ?_; refine wH ?_; refine zD ?_ ?_ <;> (intro h hp; (try simp only [q_n] at hp); try first | omega | (cases hp; done));
   refine zW (zY (zT ?_)); refine zY (zZ ?_); refine yG ?_; refine zR ?_; refine vG ?_; apply zU; rfl; rfl; rfl; (apply yT; rfl; rfl; rfl; (exact (rfl : (0:Int) = ((0:Nat):Int))); (exact q_b rfl); rfl); refine xLd ?_; (iterate 2 refine zR ?_); apply zU; rfl; rfl; rfl; (apply g_min <;> rfl); refine xY ?_; intro _ _; refine zR ?_; refine xT ?_ ?_ <;> (intro h hp k; (try subst k); (try simp only [q_n] at hp); try first | omega | (cases hp; done));
   refine wL ?_; refine vN ?_; refine yIx ?_; apply yZ; rfl; (rfl); rfl; rfl; (apply yT; rfl; rfl; rfl; (exact (rfl : (1:Int) = ((1:Nat):Int))); (exact q_b rfl); rfl); refine yLd ?_; (iterate 2 refine vN ?_); apply yZ; rfl; (rfl); rfl; rfl; (apply g_max <;> rfl); refine wT ?_; intro _ _; refine xF ?_; refine zX (yN ?_ ?_) <;> (intro h hp k; (try subst k); (try simp only [q_n] at hp); try first | omega | (cases hp; done));
   refine zY (zZ ?_); refine zP ?_; refine zX (zV ?_); simp only [yX]; rotate_left
   all_goals ((repeat (rename BV _ _ => k; first | cases k | clear k)); try exact zN)
   refine xW ?_
   rfl
  ·have hnext : ∀ i r, i < k + 1 → A[i]? = some r → r ≠ (min f t, max f t) := fun i r h1 h2 => by
    by_cases e : i = k
    ·subst e; rw [hq] at h2; cases h2; exact he
    ·exact hI2 i r (by omega) h2
   have hne : ¬ (q.1 = min f t ∧ q.2 = max f t) := fun h => he (Prod.ext h.1 h.2)
   clear hI2 hq he
   refine zY (zY (zZ ?_)); refine zR ?_; refine yG ?_; refine wH ?_; refine zD ?_ ?_ <;> (intro h hp; (try simp only [q_n] at hp); try first | omega | (cases hp; done));
   refine zW (zY (zT ?_)); refine zY (zZ ?_); refine yG ?_; refine zR ?_; refine vG ?_; apply zU; rfl; rfl; rfl; (apply yT; rfl; rfl; rfl; (exact (rfl : (0:Int) = ((0:Nat):Int))); (exact q_b rfl); rfl); refine xLd ?_; (iterate 2 refine zR ?_); apply zU; rfl; rfl; rfl; (apply g_min <;> rfl); refine xY ?_; intro _ _; refine zR ?_; refine xT ?_ ?_ <;> (intro h hp k; (try subst k); (try simp only [q_n] at hp); try first | omega | (cases hp; done));
   refine wL ?_; refine vN ?_; refine yIx ?_; apply yZ; rfl; (rfl); rfl; rfl; (apply yT; rfl; rfl; rfl; (exact (rfl : (1:Int) = ((1:Nat):Int))); (exact q_b rfl); rfl); refine yLd ?_; (iterate 2 refine vN ?_); apply yZ; rfl; (rfl); rfl; rfl; (apply g_max <;> rfl); refine wT ?_; intro _ _; refine xF ?_; refine zX (yN ?_ ?_) <;> (intro h hp k; (try subst k); (try simp only [q_n] at hp); try first | omega | (cases hp; done));
   refine zW (zZ (zR ?_)); refine vX ?_; refine zP ?_; refine zQ ?_; simp only [zA, zF, zE, zH, yK, ↓reduceIte, Nat.reduceEqDiff]; rotate_left; (iterate 10 refine yC ?_); refine yB ?_; refine zX (yH rfl (by rfl) ?_); refine zW (zZ (zR ?_)); refine vX ?_; refine zP ?_; refine zQ ?_; simp only [zA, zF, zE, zH, yK, ↓reduceIte, Nat.reduceEqDiff]; rotate_left
   all_goals ((repeat (rename BV _ _ => k; first | cases k | clear k)); try exact zN)
   all_goals (try (exfalso; exact hne ⟨by assumption, by assumption⟩))
   all_goals
    refine ⟨k + 1, ⟨hk, hnext⟩, by omega, ?_⟩
    exact wW
 ·have hno : A.contains (min f t, max f t) = false := by
   rw [List.contains_eq_any_beq, List.any_eq_false]
   intro x hx
   obtain ⟨i, hi⟩ := List.getElem?_of_mem hx
   have := hI2 i x (by have := wD hi; omega) hi
   simpa using fun h => this h.symm
  rw [hno]
  clear hI2
  refine zY (zY (zZ ?_)); refine zR ?_; refine yG ?_; refine wH ?_; refine zD ?_ ?_ <;> (intro h hp; (try simp only [q_n] at hp); try first | omega | (cases hp; done));
  refine yQ ?_; refine zY (zZ ?_); refine zP ?_; refine zX (zV ?_); simp only [yX]; rotate_left
  all_goals ((repeat (rename BV _ _ => k; first | cases k | clear k)); try exact zN)
  refine xW ?_
  rfl
theorem without_r (L : List Pk) (A : List Ap) (hl : L.length ≤ 4096) (k : Nat) (hk : k < L.length) (σ : List Ent) :
  SCall Tryz.prog 136 [netV L A, .int .i64 k] σ (Is (netV (L.eraseIdx k) A) σ) := by
 refine zL Tryz.func136 rfl (by simp) ?_
 have h1 : ((k : Nat) : Int) + 1 = ((k + 1 : Nat) : Int) := by omega
 have hdl : ((L.drop (k + 1)).map pkC).length ≤ 4096 := by rw [List.length_map, List.length_drop]; omega
 have htl : ((L.take k).map pkC).length ≤ 4096 := by rw [List.length_map, List.length_take]; omega
 refine zY (zZ ?_); refine xB ?_; intro _; refine xK ?_; intro _; refine zX (zY ?_); rotate_left
 all_goals ((repeat (rename BV _ _ => k; first | cases k | clear k)); try exact zN)
 rename Nat => b4; revert b4; rename Nat => b2; revert b2
 intro b2 b4
 refine uS (fun e => e = .cells b2 (netC L A) 39) 12 [1, 2, 3, 4, 6, 7, 8, 9, 10, 0, 5, 11] [9, 10, 11] rfl (by kernel_rfl) rfl (by kernel_rfl) rfl ?_
 simp only [pick, List.filterMap_cons, List.filterMap_nil, List.getElem?_cons_zero, List.getElem?_cons_succ, wU]
 refine vR ?_; refine vW ?_; refine xU ?_; apply yY; rfl; rfl; rfl; (intro σ' hl; (apply g_sliceHi; rfl; rfl; rfl; (rfl); omega)); refine vR ?_; refine vW ?_; refine xU ?_; refine wAd ?_; apply yY; rfl; rfl; rfl; (intro σ' hl; (apply vD; rfl; rfl; rfl; (rfl); omega)); refine wl_row rfl rfl rfl (by exact yV rfl rfl (by decide) rfl rfl (by (simp only [xC, wU]; rfl))) ?_; intro _; refine wE rfl rfl rfl (by apply xG; rfl; rfl; rfl; (intro v'; (exact Upd.here)); (exact .d); (intro y hy; simp only [tC] at hy; (focus (obtain ⟨_, _, rfl⟩ := hy; rfl; done))); (refine wP ?_ (by kernel_rfl); (try simp only [List.length_append, List.length_map, List.length_cons, List.length_nil, List.length_take, List.length_drop]); omega)) ?_; rintro _ _ ⟨v'⟩; refine ⟨(by (rintro _ (rfl | rfl) _ <;> exact (by repeat first | exact q_h | apply q_t | assumption))), ?_⟩; refine wE rfl rfl rfl (by apply xG; rfl; rfl; rfl; (intro v'; (exact Upd.here)); (exact .d); (intro y hy; simp only [tC] at hy; (focus (obtain ⟨_, _, rfl⟩ := hy; rfl; done))); (refine wP ?_ (by kernel_rfl); (try simp only [List.length_append, List.length_map, List.length_cons, List.length_nil, List.length_take, List.length_drop]); omega)) ?_; rintro _ _ ⟨v'⟩; refine ⟨(by (rintro _ (rfl | rfl) _ <;> exact (by repeat first | exact q_h | apply q_t | assumption))), ?_⟩; refine zC (uZ ?_); refine yR ?_; refine zX (zY (zZ ?_)); refine yA ?_; refine yR ?_; refine zX (zV ?_); simp only [yX]; rotate_left
 all_goals ((repeat (rename BV _ _ => k; first | cases k | clear k)); try exact zN)
 rename Value => v
 refine xX (σ3 := .row v 93 3 ((L.take k).map pkC ++ (L.drop (k + 1)).map pkC) :: σ) ?_
 rw [show (L.take k).map pkC ++ (L.drop (k + 1)).map pkC = (L.eraseIdx k).map pkC by rw [List.eraseIdx_eq_take_drop_succ, List.map_append]]
 exact vV .here (.agg (.here (.same .nil)) .nil) (zJ .mk)
theorem deliver_ro (L : List Pk) (A : List Ap) (h : NetOk L A) (hAl : A.length ≤ 100000) (i : Int) (hi : i < 0 ∨ (L.length : Int) ≤ i) (σ : List Ent) :
  SCall Tryz.prog 95 [netV L A, .int .i64 i] σ (Is (.tup [.agg pk0, .agg net0, .int .i64 1]) σ) := by
 refine zL Tryz.func95 rfl (by simp) ?_
 have hc := fun σ => asked_out L A h hAl i hi σ
 clear h hi
 refine zY (zZ ?_); refine xB ?_; intro _; refine xK ?_; intro _; refine xK ?_; intro _; refine zP ?_; refine zX (zY (zZ ?_)); refine yA ?_; refine zR ?_; apply zU; rfl; rfl; rfl; (refine yJ ?_; exact hc _); refine zP ?_; refine zX (zY (zY (zZ ?_))); refine zR ?_; refine zD ?_ ?_ <;> (intro h hp; (try simp only [q_n] at hp); try first | omega | (cases hp; done));
 refine zY (zZ ?_); (iterate 2 refine uA ?_); refine zR ?_; (iterate 2 refine yR ?_); refine zP ?_; refine zX (zV ?_); simp only [yX]; rotate_left
 all_goals ((repeat (rename BV _ _ => k; first | cases k | clear k)); try exact zN)
 all_goals
  refine xW ?_
  rfl
theorem deliver_ri (L : List Pk) (A : List Ap) (h : NetOk L A) (hAl : A.length ≤ 100000) (k : Nat) (p : Pk) (hk : L[k]? = some p) (σ : List Ent) :
  SCall Tryz.prog 95 [netV L A, .int .i64 k] σ (Is (.tup [if cutB A p.f p.t then .agg pk0 else pkV p, netV (L.eraseIdx k) A, .int .i64 0]) σ) := by
 refine zL Tryz.func95 rfl (by simp) ?_
 have hlt := wD hk
 have hg := pk_get hk
 have hc := fun σ => asked_in L A h hAl k hlt σ
 have hw := fun σ => without_r L A h.few k hlt σ
 have hcu := fun σ => isCut_r L A hAl p.f p.t σ
 clear h hk
 generalize cutB A p.f p.t = q at hcu ⊢
 cases q
 ·refine zY (zZ ?_); refine xB ?_; intro _; refine xK ?_; intro _; refine xK ?_; intro _; refine zP ?_; refine zX (zY (zZ ?_)); refine yA ?_; refine zR ?_; apply zU; rfl; rfl; rfl; (refine yJ ?_; exact hc _); refine zP ?_; refine zX (zY (zY (zZ ?_))); refine zR ?_; refine zD ?_ ?_ <;> (intro h hp; (try simp only [q_n] at hp); try first | omega | (cases hp; done));
  refine zW (zY (zZ ?_)); refine yG ?_; refine zR ?_; refine vG ?_; refine yA ?_; refine xK ?_; intro _; refine yR ?_; refine zX (zY (zY (zZ ?_))); refine yA ?_; (iterate 2 refine yG ?_); apply yE; rfl; rfl; rfl; (refine yJ ?_; exact hcu _); intro _ _; refine zX (yN ?_ ?_) <;> (intro h hp k; (try subst k); (try simp only [q_n] at hp); try first | omega | (cases hp; done));
  refine zW (zY ?_); rotate_left
  all_goals ((repeat (rename BV _ _ => k; first | cases k | clear k)); try exact zN)
  refine xN anyK 4 [3] rfl (by kernel_rfl) rfl ?_
  simp only [wU]
  (iterate 2 refine qB ?_); refine xU ?_; refine wE rfl rfl rfl (xJ rfl rfl (zB (by kernel_rfl)) (hw _)) ?_; rintro _ _ ⟨⟩; refine ⟨fun _ _ h => h, ?_⟩; refine zC (yR ?_); refine yR ?_; refine zP ?_; refine zX (zV ?_); simp only [yX]; rotate_left
  all_goals ((repeat (rename BV _ _ => k; first | cases k | clear k)); try exact zN)
  all_goals
   refine xW ?_
   rfl
 ·refine zY (zZ ?_); refine xB ?_; intro _; refine xK ?_; intro _; refine xK ?_; intro _; refine zP ?_; refine zX (zY (zZ ?_)); refine yA ?_; refine zR ?_; apply zU; rfl; rfl; rfl; (refine yJ ?_; exact hc _); refine zP ?_; refine zX (zY (zY (zZ ?_))); refine zR ?_; refine zD ?_ ?_ <;> (intro h hp; (try simp only [q_n] at hp); try first | omega | (cases hp; done));
  refine zW (zY (zZ ?_)); refine yG ?_; refine zR ?_; refine vG ?_; refine yA ?_; refine xK ?_; intro _; refine yR ?_; refine zX (zY (zY (zZ ?_))); refine yA ?_; (iterate 2 refine yG ?_); apply yE; rfl; rfl; rfl; (refine yJ ?_; exact hcu _); intro _ _; refine zX (yN ?_ ?_) <;> (intro h hp k; (try subst k); (try simp only [q_n] at hp); try first | omega | (cases hp; done));
  refine zZ (uA ?_); refine yR ?_; refine zX (zY ?_); simp only [zA, zF, zE, zH, yK, ↓reduceIte, Nat.reduceEqDiff]; rotate_left
  all_goals ((repeat (rename BV _ _ => k; first | cases k | clear k)); try exact zN)
  refine xN anyK 4 [3] rfl (by kernel_rfl) rfl ?_
  simp only [wU]
  (iterate 2 refine qB ?_); refine xU ?_; refine wE rfl rfl rfl (xJ rfl rfl (zB (by kernel_rfl)) (hw _)) ?_; rintro _ _ ⟨⟩; refine ⟨fun _ _ h => h, ?_⟩; refine zC (yR ?_); refine yR ?_; refine zP ?_; refine zX (zV ?_); simp only [yX]; rotate_left
  all_goals ((repeat (rename BV _ _ => k; first | cases k | clear k)); try exact zN)
  all_goals
   refine xW ?_
   rfl
theorem lose_ro (L : List Pk) (A : List Ap) (h : NetOk L A) (hAl : A.length ≤ 100000) (i : Int) (hi : i < 0 ∨ (L.length : Int) ≤ i) (σ : List Ent) :
  SCall Tryz.prog 97 [netV L A, .int .i64 i] σ (Is (.tup [.agg net0, .int .i64 1]) σ) := by
 refine zL Tryz.func97 rfl (by simp) ?_
 have hc := fun σ => asked_out L A h hAl i hi σ
 clear h hi
 refine zY (zZ ?_); refine xB ?_; intro _; refine xK ?_; intro _; refine zP ?_; refine zX (zY (zZ ?_)); refine yA ?_; refine zR ?_; apply zU; rfl; rfl; rfl; (refine yJ ?_; exact hc _); refine zP ?_; refine zX (zY (zY (zZ ?_))); refine zR ?_; refine zD ?_ ?_ <;> (intro h hp; (try simp only [q_n] at hp); try first | omega | (cases hp; done));
 refine zY (zZ ?_); refine uA ?_; refine zR ?_; refine yR ?_; refine zP ?_; refine zX (zV ?_); simp only [yX]; rotate_left
 all_goals ((repeat (rename BV _ _ => k; first | cases k | clear k)); try exact zN)
 all_goals
  refine xW ?_
  rfl
theorem lose_ri (L : List Pk) (A : List Ap) (h : NetOk L A) (hAl : A.length ≤ 100000) (k : Nat) (hlt : k < L.length) (σ : List Ent) :
  SCall Tryz.prog 97 [netV L A, .int .i64 k] σ (Is (.tup [netV (L.eraseIdx k) A, .int .i64 0]) σ) := by
 refine zL Tryz.func97 rfl (by simp) ?_
 have hc := fun σ => asked_in L A h hAl k hlt σ
 have hw := fun σ => without_r L A h.few k hlt σ
 clear h
 refine zY (zZ ?_); refine xB ?_; intro _; refine xK ?_; intro _; refine zP ?_; refine zX (zY (zZ ?_)); refine yA ?_; refine zR ?_; apply zU; rfl; rfl; rfl; (refine yJ ?_; exact hc _); refine zP ?_; refine zX (zY (zY (zZ ?_))); refine zR ?_; refine zD ?_ ?_ <;> (intro h hp; (try simp only [q_n] at hp); try first | omega | (cases hp; done));
 refine zW (zY (zZ ?_)); refine yA ?_; refine zR ?_; apply zU; rfl; rfl; rfl; (refine yJ ?_; exact hw _); refine yR ?_; refine zP ?_; refine zX (zV ?_); simp only [yX]; rotate_left
 all_goals ((repeat (rename BV _ _ => k; first | cases k | clear k)); try exact zN)
 all_goals
  refine xW ?_
  rfl
theorem repeat_ro (L : List Pk) (A : List Ap) (h : NetOk L A) (hAl : A.length ≤ 100000) (i : Int) (hi : i < 0 ∨ (L.length : Int) ≤ i) (σ : List Ent) :
  SCall Tryz.prog 98 [netV L A, .int .i64 i] σ (Is (.tup [.agg net0, .int .i64 1]) σ) := by
 refine zL Tryz.func98 rfl (by simp) ?_
 have hc := fun σ => asked_out L A h hAl i hi σ
 clear h hi
 refine zY (zZ ?_); refine xB ?_; intro _; refine xK ?_; intro _; refine zP ?_; refine zX (zY (zZ ?_)); refine yA ?_; refine zR ?_; apply zU; rfl; rfl; rfl; (refine yJ ?_; exact hc _); refine zP ?_; refine zX (zY (zY (zZ ?_))); refine zR ?_; refine zD ?_ ?_ <;> (intro h hp; (try simp only [q_n] at hp); try first | omega | (cases hp; done));
 refine zY (zZ ?_); refine uA ?_; refine zR ?_; refine yR ?_; refine zP ?_; refine zX (zV ?_); simp only [yX]; rotate_left
 all_goals ((repeat (rename BV _ _ => k; first | cases k | clear k)); try exact zN)
 all_goals
  refine xW ?_
  rfl
theorem repeat_ri (L : List Pk) (A : List Ap) (h : NetOk L A) (hAl : A.length ≤ 100000) (k : Nat) (p : Pk) (hk : L[k]? = some p) (σ : List Ent) :
  SCall Tryz.prog 98 [netV L A, .int .i64 k] σ (Is (sendR L A p) σ) := by
 refine zL Tryz.func98 rfl (by simp) ?_
 have hlt := wD hk
 have hg := pk_get hk
 have hc := fun σ => asked_in L A h hAl k hlt σ
 have hs := fun σ => send_r L A h hAl p (h.pk p (List.mem_of_getElem? hk)) σ
 clear h hk
 unfold sendR at *
 by_cases he : L.length = 4096
 ·rw [if_pos he] at hs ⊢
  refine zY (zZ ?_); refine xB ?_; intro _; refine xK ?_; intro _; refine zP ?_; refine zX (zY (zZ ?_)); refine yA ?_; refine zR ?_; apply zU; rfl; rfl; rfl; (refine yJ ?_; exact hc _); refine zP ?_; refine zX (zY (zY (zZ ?_))); refine zR ?_; refine zD ?_ ?_ <;> (intro h hp; (try simp only [q_n] at hp); try first | omega | (cases hp; done));
  refine zW (zY ?_); rotate_left
  all_goals ((repeat (rename BV _ _ => k; first | cases k | clear k)); try exact zN)
  refine xN anyK 9 [] rfl (by kernel_rfl) rfl ?_
  simp only [wU]
  refine qB ?_; refine vR ?_; refine vW ?_; refine xU ?_; refine wIx ?_; refine qB ?_; apply yY; rfl; rfl; rfl; (intro σ' hl; (refine yJ ?_; exact hs _)); apply yY; rfl; rfl; rfl; (intro σ' hl; (apply uF <;> rfl)); apply yY; rfl; rfl; rfl; (intro σ' hl; (apply uF <;> rfl)); refine zC (yR ?_); refine zP ?_; refine zX (zV ?_); simp only [yX]; rotate_left
  all_goals ((repeat (rename BV _ _ => k; first | cases k | clear k)); try exact zN)
  all_goals
   refine xW ?_
   rfl
 ·rw [if_neg he] at hs ⊢
  refine zY (zZ ?_); refine xB ?_; intro _; refine xK ?_; intro _; refine zP ?_; refine zX (zY (zZ ?_)); refine yA ?_; refine zR ?_; apply zU; rfl; rfl; rfl; (refine yJ ?_; exact hc _); refine zP ?_; refine zX (zY (zY (zZ ?_))); refine zR ?_; refine zD ?_ ?_ <;> (intro h hp; (try simp only [q_n] at hp); try first | omega | (cases hp; done));
  refine zW (zY ?_); rotate_left
  all_goals ((repeat (rename BV _ _ => k; first | cases k | clear k)); try exact zN)
  refine xN anyK 9 [] rfl (by kernel_rfl) rfl ?_
  simp only [wU]
  refine qB ?_; refine vR ?_; refine vW ?_; refine xU ?_; refine wIx ?_; refine qB ?_; apply yY; rfl; rfl; rfl; (intro σ' hl; (refine yJ ?_; exact hs _)); apply yY; rfl; rfl; rfl; (intro σ' hl; (apply uF <;> rfl)); apply yY; rfl; rfl; rfl; (intro σ' hl; (apply uF <;> rfl)); refine zC (yR ?_); refine zP ?_; refine zX (zV ?_); simp only [yX]; rotate_left
  all_goals ((repeat (rename BV _ _ => k; first | cases k | clear k)); try exact zN)
  all_goals
   refine xW ?_
   rfl
theorem samePacket_r (p : Pk) (σ : List Ent) : SCall Tryz.prog 99 [pkV p, pkV p] σ (Is (.bool true) σ) := by
 refine zL Tryz.func99 rfl (by simp) ?_
 have e1 : (p.f == p.f) = true := beq_self_eq_true _
 have e2 : (p.t == p.t) = true := beq_self_eq_true _
 refine zY (zZ ?_); refine xB ?_; intro _; refine xB ?_; intro _; refine zP ?_; refine zX (zY (zZ ?_)); (iterate 2 refine yG ?_); refine xY ?_; intro _ _; refine zR ?_; refine xT ?_ ?_ <;> (intro h hp k; (try subst k); (try simp only [q_n] at hp); try first | omega | (cases hp; done));
 (iterate 2 refine wL ?_); refine wT ?_; intro _ _; refine xF ?_; refine zR ?_; refine xT ?_ ?_ <;> (intro h hp k; (try subst k); (try simp only [q_n] at hp); try first | omega | (cases hp; done));
 refine wL ?_; apply yZ; rfl; (rfl); rfl; rfl; (exact g_bytesStr rfl rfl rfl rfl); refine wL ?_; apply yZ; rfl; (rfl); rfl; rfl; (exact g_bytesStr rfl rfl rfl rfl); apply yZ; rfl; (rfl); rfl; rfl; (exact g_eqlStr (q := true) rfl rfl rfl (beq_self_eq_true _)); refine xF ?_; refine zP ?_; refine zX (zV ?_); simp only [yX]; rotate_left
 all_goals ((repeat (rename BV _ _ => k; first | cases k | clear k)); try exact zN)
 all_goals
  refine xW ?_
  rfl
theorem sameNet_r (L : List Pk) (A : List Ap) (hLl : L.length ≤ 100000) (hAl : A.length ≤ 100000) (σ : List Ent) : SCall Tryz.prog 58 [netV L A, netV L A] σ (Is (.bool true) σ) := by
 refine zL Tryz.func58 rfl (by simp) ?_
 refine zY (zZ ?_); refine xB ?_; intro _; refine xB ?_; intro _; refine zP ?_; refine zX (zY (zY (zZ ?_))); refine yG ?_; refine wH ?_; refine yG ?_; refine wH ?_; refine xY ?_; intro _ _; refine zR ?_; refine xT ?_ ?_ <;> (intro h hp k; (try subst k); (try simp only [q_n] at hp); try first | omega | (cases hp; done));
 refine wL ?_; apply yZ; rfl; (rfl); rfl; rfl; (apply xH; rfl; rfl; (exact (List.length_map _).symm)); refine wL ?_; apply yZ; rfl; (rfl); rfl; rfl; (apply xH; rfl; rfl; (exact (List.length_map _).symm)); refine wT ?_; intro _ _; refine yB ?_; refine zX (yN ?_ ?_) <;> (intro h hp k; (try subst k); (try simp only [q_n] at hp); try first | omega | (cases hp; done));
 refine zW (zY (zY (zZ ?_))); refine zP ?_; refine zX (zT ?_); rotate_left
 all_goals ((repeat (rename BV _ _ => k; first | cases k | clear k)); try exact zN)
 rename Nat => b3; revert b3; rename Nat => b2; revert b2
 intro b2 b3
 refine yD (fun (k : Nat) => (⟨[(2, .ptr b2 0), (3, .ptr b3 0), (5, .int .i64 k)], .cells b3 (netC L A) 39 :: .cells b2 (netC L A) 39 :: σ, [], Tryz.f58.ntmps⟩ : St)) (fun k => k ≤ L.length) (fun k => L.length - k) 0 (Nat.zero_le _) (St.le_of (by repeat (first | exact trivial | refine ⟨rfl, ?_⟩)) (by repeat (first | exact q_r | apply q_q | apply q_k))) ?_
 intro k hI
 by_cases hk : k < L.length
 ·obtain ⟨p, hpk⟩ : ∃ p, L[k]? = some p := yW hk
  have hg := pk_get hpk
  have hs := fun σ => samePacket_r p σ
  refine zY (zY (zZ ?_)); refine zR ?_; refine yG ?_; refine wH ?_; refine zD ?_ ?_ <;> (intro h hp; (try simp only [q_n] at hp); try first | omega | (cases hp; done));
  refine zW (zY (zT ?_)); refine zY ?_; rotate_left
  all_goals ((repeat (rename BV _ _ => k; first | cases k | clear k)); try exact zN)
  refine xN anyK 12 [] rfl (by kernel_rfl) rfl ?_
  simp only [wU]
  refine vR ?_; refine vW ?_; refine xU ?_; refine wIx ?_; refine qB ?_; refine vR ?_; refine vW ?_; refine xU ?_; refine wIx ?_; refine qB ?_; apply vP; rfl; rfl; rfl; (intro σ' hl; (refine yJ ?_; exact hs _)); intro _ _; apply vP; rfl; rfl; rfl; (intro σ' hl; (apply tD <;> rfl)); intro _ _; refine zC (zX (yN ?_ ?_)) <;> (intro h hp k; (try subst k); (try simp only [q_n] at hp); try first | omega | (cases hp; done));
  refine zY (zZ ?_); refine zP ?_; refine zX (zV ?_); simp only [yX]; rotate_left; refine zW (zZ (zR ?_)); refine vX ?_; refine zP ?_; refine zQ ?_; simp only [zA, zF, zE, zH, yK, ↓reduceIte, Nat.reduceEqDiff]; rotate_left
  all_goals ((repeat (rename BV _ _ => k; first | cases k | clear k)); try exact zN)
  refine ⟨k + 1, hk, by omega, ?_⟩
  exact wW
 ·refine zY (zY (zZ ?_)); refine zR ?_; refine yG ?_; refine wH ?_; refine zD ?_ ?_ <;> (intro h hp; (try simp only [q_n] at hp); try first | omega | (cases hp; done));
  refine yQ ?_; refine zY (zY (zZ ?_)); refine zP ?_; refine zX (zT ?_); rotate_left
  all_goals ((repeat (rename BV _ _ => k; first | cases k | clear k)); try exact zN)
  refine yD (fun (j : Nat) => (⟨[(2, .ptr b2 0), (3, .ptr b3 0), (6, .int .i64 j)], .cells b3 (netC L A) 39 :: .cells b2 (netC L A) 39 :: σ, [], Tryz.f58.ntmps⟩ : St)) (fun j => j ≤ A.length) (fun j => A.length - j) 0 (Nat.zero_le _) (St.le_of (by repeat (first | exact trivial | refine ⟨rfl, ?_⟩)) (by repeat (first | exact q_r | apply q_q | apply q_k))) ?_
  intro j hI
  by_cases hj : j < A.length
  ·obtain ⟨p, hpj⟩ : ∃ p, A[j]? = some p := yW hj
   have hg := ap_get hpj
   have e1 : (p.1 == p.1) = true := beq_self_eq_true _
   have e2 : (p.2 == p.2) = true := beq_self_eq_true _
   refine zY (zY (zZ ?_)); refine zR ?_; refine yG ?_; refine wH ?_; refine zD ?_ ?_ <;> (intro h hp; (try simp only [q_n] at hp); try first | omega | (cases hp; done));
   refine zW (zY (zT ?_)); refine zY (wN rfl rfl (by kernel_rfl) rfl ?_); refine yU rfl (by kernel_rfl) rfl ?_; refine vR ?_; refine vW ?_; refine xU ?_; refine wIx ?_; refine qB ?_; refine vR ?_; refine vW ?_; refine xU ?_; refine wIx ?_; refine qB ?_; apply vP; rfl; rfl; rfl; (intro σ' hl; (apply g_neqArr2; rfl; kernel_rfl; rfl; rfl)); intro _ _; refine zC ?_; show EX _ _ _ _ _; refine yN ?_ ?_ <;> (intro h hp k; (try subst k); (try simp only [q_n] at hp); try first | omega | (cases hp; done));
   refine zY (zZ ?_); refine zP ?_; refine zX (zV ?_); simp only [yX]; rotate_left; refine zW (zZ (zR ?_)); refine vX ?_; refine zP ?_; refine zQ ?_; simp only [zA, zF, zE, zH, yK, ↓reduceIte, Nat.reduceEqDiff]; rotate_left
   all_goals ((repeat (rename BV _ _ => k; first | cases k | clear k)); try exact zN)
   ·exfalso
    simp at h
   ·refine ⟨j + 1, hj, by omega, ?_⟩
    exact wW
  ·refine zY (zY (zZ ?_)); refine zR ?_; refine yG ?_; refine wH ?_; refine zD ?_ ?_ <;> (intro h hp; (try simp only [q_n] at hp); try first | omega | (cases hp; done));
   refine yQ ?_; refine zY (zZ ?_); refine zP ?_; refine zX (zV ?_); simp only [yX]; rotate_left
   all_goals ((repeat (rename BV _ _ => k; first | cases k | clear k)); try exact zN)
   refine xW ?_
   rfl
theorem fewNet_r (L : List Pk) (A : List Ap) (σ : List Ent) : SCall Tryz.prog 43 [netV L A] σ (Is (.bool (decide (L.length ≤ 40 ∧ A.length ≤ 40))) σ) := by
 refine zL Tryz.func43 rfl (by simp) ?_
 refine zY (zZ ?_); refine xB ?_; intro _; refine zP ?_; refine zX (zY (zZ ?_)); refine yG ?_; refine wH ?_; refine xY ?_; intro _ _; refine zR ?_; refine xT ?_ ?_ <;> (intro h hp k; (try subst k); (try simp only [q_n] at hp); try first | omega | (cases hp; done));
 refine wL ?_; apply yZ; rfl; (rfl); rfl; rfl; (apply xH; rfl; rfl; (exact (List.length_map _).symm)); refine wT ?_; intro _ _; refine xF ?_; refine zP ?_; refine zX (zV ?_); simp only [yX]; rotate_left; (iterate 4 refine yC ?_); refine yB ?_; refine zP ?_; refine zX (zV ?_); simp only [yX]; rotate_left
 all_goals ((repeat (rename BV _ _ => k; first | cases k | clear k)); try exact zN)
 all_goals
  refine xW (tV ?_)
  first | (exact (decide_eq_true (by omega)).symm) | (exact (decide_eq_false (by omega)).symm) | (rw [decide_eq_decide]; omega)
theorem newNet_r (σ : List Ent) : SCall Tryz.prog 46 [] σ (Is (.agg [.slv nilS, .slv nilS]) σ) := by
 refine zL Tryz.func46 rfl (by simp) ?_
 refine zY (zZ ?_); refine xK ?_; intro _; refine zX (zY (zZ ?_)); refine uA ?_; refine yR ?_; refine zX (zV ?_); simp only [yX]; rotate_left
 all_goals ((repeat (rename BV _ _ => k; first | cases k | clear k)); try exact zN)
 refine xW ?_
 rfl
abbrev psC (r : Ps) : List AV := [.int .i64 r.k, .int .i64 r.a, .int .i64 r.t, .int .i64 r.i] ++ slC r.s
abbrev psV (r : Ps) : AV := .agg (psC r)
theorem pwrite_bad (b : Nat) (B : List (List Sl)) (L : List Pk) (A : List Ap) (r : Ps) (hn : B.length ≤ 8) (hbad : ¬ (0 ≤ r.a ∧ r.a < B.length ∧ r.s.tab = r.a)) (σ : List Ent) :
  SCall Tryz.prog 48 [.ptr b 0, psV r] (stE b B L A :: σ) (Is (.int .i64 1) (stE b B L A :: σ)) := by
 refine zL Tryz.func48 rfl (by simp) ?_
 have hi := fun σ => in_c r.a 0 ((B.length : Int) - 1) σ
 have hq : inB r.a 0 ((B.length : Int) - 1) = decide (0 ≤ r.a ∧ r.a < B.length) := by unfold inB; rw [Bool.eq_iff_iff]; simp; omega
 rw [hq] at hi
 refine zY (zZ ?_); refine xB ?_; intro _; refine zP ?_; refine zX (zY (zY ?_)); rotate_left
 all_goals ((repeat (rename BV _ _ => k; first | cases k | clear k)); try exact zN)
 refine xN anyK 19 [9] rfl (by kernel_rfl) rfl ?_
 simp only [wU]
 refine vR ?_; refine vW ?_; refine xU ?_; apply yY; rfl; rfl; rfl; (intro σ' hl; (apply zK <;> rfl)); (iterate 2 refine vR ?_); refine vW ?_; apply yY; rfl; rfl; rfl; (intro σ' hl; (apply xH; rfl; rfl; (exact (List.length_map _).symm))); refine wSu ?_; refine wE rfl rfl rfl (xJ rfl rfl (zB (by kernel_rfl)) (hi _)) ?_; rintro _ _ ⟨⟩; refine ⟨fun _ _ h => h, ?_⟩; apply vP; rfl; rfl; rfl; (intro σ' hl; (apply tD <;> rfl)); intro _ _; refine xU ?_; refine uW ?_ ?_ <;> (intro h hp k; (try subst k); (try simp only [q_n] at hp); try first | omega | (cases hp; done));
 (iterate 6 refine vF ?_); refine tZ ?_; refine zC (zX (zG rfl (by rfl) ?_)); refine zY (zZ ?_); refine zP ?_; refine zX (zV ?_); simp only [yX]; rotate_left; (iterate 2 refine tX ?_); refine uU ?_; refine tX ?_; refine uU ?_; refine tE ?_; intro _ _; refine qW ?_; refine zC (zX (yN ?_ ?_)) <;> (intro h hp k; (try subst k); (try simp only [q_n] at hp); try first | omega | (cases hp; done));
 refine zY (zZ ?_); refine zP ?_; refine zX (zV ?_); simp only [yX]; rotate_left
 all_goals ((repeat (rename BV _ _ => k; first | cases k | clear k)); try exact zN)
 all_goals
  refine xX (σ3 := stE b B L A :: σ) ?_
  exact zJ .mk
theorem pwrite_ok (b k : Nat) (B : List (List Sl)) (L : List Pk) (A : List Ap) (r : Ps) (hn : B.length ≤ 8) (hk : k < B.length) (ha : r.a = k) (ht : r.s.tab = r.a) (l : List Sl) (hl : B[k]? = some l) (e : Int) (he : (vQ l r.s).2 = e) (σ : List Ent) :
  SCall Tryz.prog 48 [.ptr b 0, psV r] (stE b B L A :: σ) (Is (.int .i64 e) (stE b (if e = 0 then B.set k (vQ l r.s).1 else B) L A :: σ)) := by
 refine zL Tryz.func48 rfl (by simp) ?_
 have hi : ∀ σ, SCall Tryz.prog 44 [.int .i64 r.a, .int .i64 0, .int .i64 ((B.length : Int) - 1)] σ (Is (.bool true) σ) := fun σ => by
  have h0 := in_c r.a 0 ((B.length : Int) - 1) σ
  rwa [show inB r.a 0 ((B.length : Int) - 1) = true by unfold inB; simp; omega] at h0
 have hw := fun σ => write_c l r.s σ
 have hg := bk_get hl
 rw [he] at hw
 obtain ⟨l', hl'⟩ : ∃ l', (vQ l r.s).1 = l' := ⟨_, rfl⟩
 rw [hl'] at hw ⊢
 refine zY (zZ ?_); refine xB ?_; intro _; refine zP ?_; refine zX (zY (zY ?_)); rotate_left
 all_goals ((repeat (rename BV _ _ => k; first | cases k | clear k)); try exact zN)
 refine xN anyK 19 [9] rfl (by kernel_rfl) rfl ?_
 simp only [wU]
 refine vR ?_; refine vW ?_; refine xU ?_; apply yY; rfl; rfl; rfl; (intro σ' hl; (apply zK <;> rfl)); (iterate 2 refine vR ?_); refine vW ?_; apply yY; rfl; rfl; rfl; (intro σ' hl; (apply xH; rfl; rfl; (exact (List.length_map _).symm))); refine wSu ?_; refine wE rfl rfl rfl (xJ rfl rfl (zB (by kernel_rfl)) (hi _)) ?_; rintro _ _ ⟨⟩; refine ⟨fun _ _ h => h, ?_⟩; apply vP; rfl; rfl; rfl; (intro σ' hl; (apply tD <;> rfl)); intro _ _; refine xU ?_; refine uW ?_ ?_ <;> (intro h hp k; (try subst k); (try simp only [q_n] at hp); try first | omega | (cases hp; done));
 (iterate 2 refine tX ?_); refine uU ?_; refine tX ?_; refine uU ?_; refine tE ?_; intro _ _; refine qW ?_; refine zC (zX (yN ?_ ?_)) <;> (intro h hp k; (try subst k); (try simp only [q_n] at hp); try first | omega | (cases hp; done));
 refine zW (zY ?_); rotate_left
 all_goals ((repeat (rename BV _ _ => k; first | cases k | clear k)); try exact zN)
 rename Nat => b3; revert b3
 intro b3
 have hput : ∀ {σ σ' : List Ent}, Upd σ (stE b B L A) (stE b (B.set k l') L A) σ' → SCall Tryz.prog 82 [.ptr b 0, .int .i64 r.a, .agg (bkC l')] σ (Is (.tup []) σ') := fun h => by rw [ha]; exact put_c hk hn h
 by_cases he0 : e = 0
 ·subst he0
  rw [if_pos rfl]
  refine wA (fun x => x = stE b B L A ∨ x = .cells b3 (psC r) 45) [15, 16] 17 rfl (by kernel_rfl) rfl ?_
  refine yL ?_; refine tP ?_; refine yL ?_; apply yS; rfl; rfl; (intro σ' hl; (apply zK <;> rfl)); refine yL ?_; refine tN ?_; refine yL ?_; refine tN ?_; refine yL ?_; refine dLd ?_; refine yL ?_; refine tN ?_; refine yL ?_; refine dLd ?_; refine yL ?_; apply yS; rfl; rfl; (intro σ' hl; (apply uG; rfl; rfl; rfl; (assumption); (assumption))); refine yL ?_; refine dLa ?_; refine yL ?_; refine tN ?_; refine yL ?_; refine dLa ?_; refine yL ?_; apply yS; rfl; rfl; (intro σ' hl; (refine yJ ?_; exact hw _)); refine yL ?_; refine tP ?_; refine yL ?_; refine dEx ?_; refine yL ?_; refine dEx ?_; refine yP rfl rfl ?_; refine vC rfl rfl (vK rfl) ?_; intro _; refine yP rfl rfl ?_; apply wF; rfl; rfl; (apply wV; rfl; rfl; rfl; (exact Upd.here); (simp only [tS, q_z, AV.cells]; rfl); rfl; rfl; rfl; exact q_b rfl); (rintro _ (rfl | rfl | rfl) _ <;> exact (by repeat first | exact q_h | apply q_t | assumption)); refine wQ rfl ?_; refine zP ?_; refine zX (zY (zY (zZ ?_))); refine zR ?_; refine zD ?_ ?_ <;> (intro h hp; (try simp only [q_n] at hp); try first | omega | (cases hp; done));
  refine zZ (zR ?_); refine yG ?_; refine yA ?_; apply zU; rfl; rfl; rfl; (refine yJ ?_; exact hput (by (exact Upd.there (Upd.there (Upd.here))))); refine zX (zY (zZ ?_)); refine zR ?_; refine zP ?_; refine zX (zV ?_); simp only [yX]; rotate_left
  all_goals ((repeat (rename BV _ _ => k; first | cases k | clear k)); try exact zN)
  refine xX (σ3 := stE b (B.set k l') L A :: σ) ?_
  exact zJ .mk
 ·rw [if_neg he0]
  refine wA (fun x => x = stE b B L A ∨ x = .cells b3 (psC r) 45) [15, 16] 17 rfl (by kernel_rfl) rfl ?_
  refine yL ?_; refine tP ?_; refine yL ?_; apply yS; rfl; rfl; (intro σ' hl; (apply zK <;> rfl)); refine yL ?_; refine tN ?_; refine yL ?_; refine tN ?_; refine yL ?_; refine dLd ?_; refine yL ?_; refine tN ?_; refine yL ?_; refine dLd ?_; refine yL ?_; apply yS; rfl; rfl; (intro σ' hl; (apply uG; rfl; rfl; rfl; (assumption); (assumption))); refine yL ?_; refine dLa ?_; refine yL ?_; refine tN ?_; refine yL ?_; refine dLa ?_; refine yL ?_; apply yS; rfl; rfl; (intro σ' hl; (refine yJ ?_; exact hw _)); refine yL ?_; refine tP ?_; refine yL ?_; refine dEx ?_; refine yL ?_; refine dEx ?_; refine yP rfl rfl ?_; refine vC rfl rfl (vK rfl) ?_; intro _; refine yP rfl rfl ?_; apply wF; rfl; rfl; (apply wV; rfl; rfl; rfl; (exact Upd.here); (simp only [tS, q_z, AV.cells]; rfl); rfl; rfl; rfl; exact q_b rfl); (rintro _ (rfl | rfl | rfl) _ <;> exact (by repeat first | exact q_h | apply q_t | assumption)); refine wQ rfl ?_; refine zP ?_; refine zX (zY (zY (zZ ?_))); refine zR ?_; refine zD ?_ ?_ <;> (intro h hp; (try simp only [q_n] at hp); try first | omega | (cases hp; done));
  refine zW (zY (zZ ?_)); refine zR ?_; refine zP ?_; refine zX (zV ?_); simp only [yX]; rotate_left
  all_goals ((repeat (rename BV _ _ => k; first | cases k | clear k)); try exact zN)
  refine xX (σ3 := stE b B L A :: σ) ?_
  exact zJ .mk
abbrev st0 (b : Nat) (B : List (List Sl)) : Ent := .cells b [bks B, .slv nilS, .slv nilS] 102
theorem plose_out (b : Nat) (B : List (List Sl)) (L : List Pk) (A : List Ap) (r : Ps) (h0 : NetOk L A) (ho : r.i < 0 ∨ (L.length : Int) ≤ r.i) (σ : List Ent) :
  SCall Tryz.prog 51 [.ptr b 0, psV r] (stE b B L A :: σ) (Is (.int .i64 1) (st0 b B :: σ)) := by
 refine zL Tryz.func51 rfl (by simp) ?_
 have hc := fun σ => lose_out L A h0 r.i ho σ
 clear h0 ho
 refine zY (zZ ?_); refine xB ?_; intro _; refine zP ?_; refine zX (zY ?_); rotate_left
 all_goals ((repeat (rename BV _ _ => k; first | cases k | clear k)); try exact zN)
 rename Nat => b3; revert b3
 intro b3
 refine wA (fun x => x = .cells b3 (psC r) 45) [5, 15] 16 rfl (by kernel_rfl) rfl ?_
 refine yL ?_; refine tP ?_; refine yL ?_; refine tP ?_; refine yL ?_; apply yS; rfl; rfl; (intro σ' hl; (apply zK <;> rfl)); refine yL ?_; refine tN ?_; refine yL ?_; refine tN ?_; refine yL ?_; refine tN ?_; refine yL ?_; refine dLd ?_; refine yP rfl rfl ?_; apply uL; rfl; rfl; (apply wY; rfl; decide; rfl; (exact .p (by repeat first | exact q_h | apply q_t | assumption) rfl rfl)); refine yL ?_; apply yS; rfl; rfl; (intro σ' hl; (refine yJ ?_; exact hc _)); refine yL ?_; refine tP ?_; refine yL ?_; refine dEx ?_; refine yL ?_; refine dEx ?_; refine yL ?_; apply yS; rfl; rfl; (intro σ' hl; (apply zK <;> rfl)); refine yL ?_; refine tN ?_; refine yL ?_; refine tN ?_; refine yP rfl rfl ?_; apply wF; rfl; rfl; (apply wV; rfl; rfl; rfl; (exact Upd.there (Upd.here)); (simp only [tS, q_z, AV.cells]; rfl); rfl; rfl; rfl; exact q_b rfl); (rintro _ (rfl | rfl | rfl) _ <;> exact (by repeat first | exact q_h | apply q_t | assumption)); refine wQ rfl ?_; refine zP ?_; refine zX (zY (zZ ?_)); refine zR ?_; refine zP ?_; refine zX (zV ?_); simp only [yX]; rotate_left
 all_goals ((repeat (rename BV _ _ => k; first | cases k | clear k)); try exact zN)
 all_goals
  refine xX (σ3 := st0 b B :: σ) ?_
  exact zJ .mk
theorem plose_in (b : Nat) (B : List (List Sl)) (L : List Pk) (A : List Ap) (r : Ps) (h0 : NetOk L A) (k : Nat) (p : Pk) (hk : L[k]? = some p) (hi : r.i = k) (σ : List Ent) :
  SCall Tryz.prog 51 [.ptr b 0, psV r] (stE b B L A :: σ) (Is (.int .i64 0) (stE b B (L.eraseIdx k) A :: σ)) := by
 refine zL Tryz.func51 rfl (by simp) ?_
 have hc := fun σ => lose_in L A h0 k p hk σ
 rw [← hi] at hc
 clear h0 hk
 refine zY (zZ ?_); refine xB ?_; intro _; refine zP ?_; refine zX (zY ?_); rotate_left
 all_goals ((repeat (rename BV _ _ => k; first | cases k | clear k)); try exact zN)
 rename Nat => b3; revert b3
 intro b3
 refine wA (fun x => x = .cells b3 (psC r) 45) [5, 15] 16 rfl (by kernel_rfl) rfl ?_
 refine yL ?_; refine tP ?_; refine yL ?_; refine tP ?_; refine yL ?_; apply yS; rfl; rfl; (intro σ' hl; (apply zK <;> rfl)); refine yL ?_; refine tN ?_; refine yL ?_; refine tN ?_; refine yL ?_; refine tN ?_; refine yL ?_; refine dLd ?_; refine yP rfl rfl ?_; apply uL; rfl; rfl; (apply wY; rfl; decide; rfl; (exact .p (by repeat first | exact q_h | apply q_t | assumption) rfl rfl)); refine yL ?_; apply yS; rfl; rfl; (intro σ' hl; (refine yJ ?_; exact hc _)); refine yL ?_; refine tP ?_; refine yL ?_; refine dEx ?_; refine yL ?_; refine dEx ?_; refine yL ?_; apply yS; rfl; rfl; (intro σ' hl; (apply zK <;> rfl)); refine yL ?_; refine tN ?_; refine yL ?_; refine tN ?_; refine yP rfl rfl ?_; apply wF; rfl; rfl; (apply wV; rfl; rfl; rfl; (exact Upd.there (Upd.here)); (simp only [tS, q_z, AV.cells]; rfl); rfl; rfl; rfl; exact q_b rfl); (rintro _ (rfl | rfl | rfl) _ <;> exact (by repeat first | exact q_h | apply q_t | assumption)); refine wQ rfl ?_; refine zP ?_; refine zX (zY (zZ ?_)); refine zR ?_; refine zP ?_; refine zX (zV ?_); simp only [yX]; rotate_left
 all_goals ((repeat (rename BV _ _ => k; first | cases k | clear k)); try exact zN)
 all_goals
  refine xX (σ3 := stE b B (L.eraseIdx k) A :: σ) ?_
  exact zJ .mk
theorem prepeat_out (b : Nat) (B : List (List Sl)) (L : List Pk) (A : List Ap) (r : Ps) (h0 : NetOk L A) (ho : r.i < 0 ∨ (L.length : Int) ≤ r.i) (σ : List Ent) :
  SCall Tryz.prog 52 [.ptr b 0, psV r] (stE b B L A :: σ) (Is (.int .i64 1) (st0 b B :: σ)) := by
 refine zL Tryz.func52 rfl (by simp) ?_
 have hc := fun σ => repeat_out L A h0 r.i ho σ
 clear h0 ho
 refine zY (zZ ?_); refine xB ?_; intro _; refine zP ?_; refine zX (zY ?_); rotate_left
 all_goals ((repeat (rename BV _ _ => k; first | cases k | clear k)); try exact zN)
 rename Nat => b3; revert b3
 intro b3
 refine wA (fun x => x = .cells b3 (psC r) 45) [5, 15] 16 rfl (by kernel_rfl) rfl ?_
 refine yL ?_; refine tP ?_; refine yL ?_; refine tP ?_; refine yL ?_; apply yS; rfl; rfl; (intro σ' hl; (apply zK <;> rfl)); refine yL ?_; refine tN ?_; refine yL ?_; refine tN ?_; refine yL ?_; refine tN ?_; refine yL ?_; refine dLd ?_; refine yP rfl rfl ?_; apply uL; rfl; rfl; (apply wY; rfl; decide; rfl; (exact .p (by repeat first | exact q_h | apply q_t | assumption) rfl rfl)); refine yL ?_; apply yS; rfl; rfl; (intro σ' hl; (refine yJ ?_; exact hc _)); refine yL ?_; refine tP ?_; refine yL ?_; refine dEx ?_; refine yL ?_; refine dEx ?_; refine yL ?_; apply yS; rfl; rfl; (intro σ' hl; (apply zK <;> rfl)); refine yL ?_; refine tN ?_; refine yL ?_; refine tN ?_; refine yP rfl rfl ?_; apply wF; rfl; rfl; (apply wV; rfl; rfl; rfl; (exact Upd.there (Upd.here)); (simp only [tS, q_z, AV.cells]; rfl); rfl; rfl; rfl; exact q_b rfl); (rintro _ (rfl | rfl | rfl) _ <;> exact (by repeat first | exact q_h | apply q_t | assumption)); refine wQ rfl ?_; refine zP ?_; refine zX (zY (zZ ?_)); refine zR ?_; refine zP ?_; refine zX (zV ?_); simp only [yX]; rotate_left
 all_goals ((repeat (rename BV _ _ => k; first | cases k | clear k)); try exact zN)
 all_goals
  refine xX (σ3 := st0 b B :: σ) ?_
  exact zJ .mk
theorem prepeat_full (b : Nat) (B : List (List Sl)) (L : List Pk) (A : List Ap) (r : Ps) (h0 : NetOk L A) (k : Nat) (p : Pk) (hk : L[k]? = some p) (hi : r.i = k) (he : L.length = 4096) (σ : List Ent) :
  SCall Tryz.prog 52 [.ptr b 0, psV r] (stE b B L A :: σ) (Is (.int .i64 2) (st0 b B :: σ)) := by
 refine zL Tryz.func52 rfl (by simp) ?_
 have hc := fun σ => repeat_in L A h0 k p hk σ
 unfold sendR at hc
 rw [← hi, if_pos he] at hc
 clear h0 hk
 refine zY (zZ ?_); refine xB ?_; intro _; refine zP ?_; refine zX (zY ?_); rotate_left
 all_goals ((repeat (rename BV _ _ => k; first | cases k | clear k)); try exact zN)
 rename Nat => b3; revert b3
 intro b3
 refine wA (fun x => x = .cells b3 (psC r) 45) [5, 15] 16 rfl (by kernel_rfl) rfl ?_
 refine yL ?_; refine tP ?_; refine yL ?_; refine tP ?_; refine yL ?_; apply yS; rfl; rfl; (intro σ' hl; (apply zK <;> rfl)); refine yL ?_; refine tN ?_; refine yL ?_; refine tN ?_; refine yL ?_; refine tN ?_; refine yL ?_; refine dLd ?_; refine yP rfl rfl ?_; apply uL; rfl; rfl; (apply wY; rfl; decide; rfl; (exact .p (by repeat first | exact q_h | apply q_t | assumption) rfl rfl)); refine yL ?_; apply yS; rfl; rfl; (intro σ' hl; (refine yJ ?_; exact hc _)); refine yL ?_; refine tP ?_; refine yL ?_; refine dEx ?_; refine yL ?_; refine dEx ?_; refine yL ?_; apply yS; rfl; rfl; (intro σ' hl; (apply zK <;> rfl)); refine yL ?_; refine tN ?_; refine yL ?_; refine tN ?_; refine yP rfl rfl ?_; apply wF; rfl; rfl; (apply wV; rfl; rfl; rfl; (exact Upd.there (Upd.here)); (simp only [tS, q_z, AV.cells]; rfl); rfl; rfl; rfl; exact q_b rfl); (rintro _ (rfl | rfl | rfl) _ <;> exact (by repeat first | exact q_h | apply q_t | assumption)); refine wQ rfl ?_; refine zP ?_; refine zX (zY (zZ ?_)); refine zR ?_; refine zP ?_; refine zX (zV ?_); simp only [yX]; rotate_left
 all_goals ((repeat (rename BV _ _ => k; first | cases k | clear k)); try exact zN)
 all_goals
  refine xX (σ3 := st0 b B :: σ) ?_
  exact zJ .mk
theorem prepeat_in (b : Nat) (B : List (List Sl)) (L : List Pk) (A : List Ap) (r : Ps) (h0 : NetOk L A) (k : Nat) (p : Pk) (hk : L[k]? = some p) (hi : r.i = k) (he : ¬ L.length = 4096) (σ : List Ent) :
  SCall Tryz.prog 52 [.ptr b 0, psV r] (stE b B L A :: σ) (Is (.int .i64 0) (stE b B (L ++ [p]) A :: σ)) := by
 refine zL Tryz.func52 rfl (by simp) ?_
 have hc := fun σ => repeat_in L A h0 k p hk σ
 unfold sendR at hc
 rw [← hi, if_neg he] at hc
 clear h0 hk
 refine zY (zZ ?_); refine xB ?_; intro _; refine zP ?_; refine zX (zY ?_); rotate_left
 all_goals ((repeat (rename BV _ _ => k; first | cases k | clear k)); try exact zN)
 rename Nat => b3; revert b3
 intro b3
 refine wA (fun x => x = .cells b3 (psC r) 45) [5, 15] 16 rfl (by kernel_rfl) rfl ?_
 refine yL ?_; refine tP ?_; refine yL ?_; refine tP ?_; refine yL ?_; apply yS; rfl; rfl; (intro σ' hl; (apply zK <;> rfl)); refine yL ?_; refine tN ?_; refine yL ?_; refine tN ?_; refine yL ?_; refine tN ?_; refine yL ?_; refine dLd ?_; refine yP rfl rfl ?_; apply uL; rfl; rfl; (apply wY; rfl; decide; rfl; (exact .p (by repeat first | exact q_h | apply q_t | assumption) rfl rfl)); refine yL ?_; apply yS; rfl; rfl; (intro σ' hl; (refine yJ ?_; exact hc _)); refine yL ?_; refine tP ?_; refine yL ?_; refine dEx ?_; refine yL ?_; refine dEx ?_; refine yL ?_; apply yS; rfl; rfl; (intro σ' hl; (apply zK <;> rfl)); refine yL ?_; refine tN ?_; refine yL ?_; refine tN ?_; refine yP rfl rfl ?_; apply wF; rfl; rfl; (apply wV; rfl; rfl; rfl; (exact Upd.there (Upd.here)); (simp only [tS, q_z, AV.cells]; rfl); rfl; rfl; rfl; exact q_b rfl); (rintro _ (rfl | rfl | rfl) _ <;> exact (by repeat first | exact q_h | apply q_t | assumption)); refine wQ rfl ?_; refine zP ?_; refine zX (zY (zZ ?_)); refine zR ?_; refine zP ?_; refine zX (zV ?_); simp only [yX]; rotate_left
 all_goals ((repeat (rename BV _ _ => k; first | cases k | clear k)); try exact zN)
 all_goals
  refine xX (σ3 := stE b B (L ++ [p]) A :: σ) ?_
  exact zJ .mk
end Go.Proofs.YtkhoengjdfmfaaaGreat
