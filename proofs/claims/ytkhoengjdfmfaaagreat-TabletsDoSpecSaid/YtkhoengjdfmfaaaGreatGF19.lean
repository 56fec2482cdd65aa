/- Parts of the proof that belong together: Ro Rp Ws. -/
import Derived.Test.YtkhoengjdfmfaaaGreatGF04
import Derived.Test.YtkhoengjdfmfaaaGreatGF12
import Derived.Test.YtkhoengjdfmfaaaGreatGF16
import Derived.Test.YtkhoengjdfmfaaaGreatGF18
set_option maxRecDepth 10000
set_option maxHeartbeats 8000000
set_option linter.unusedSimpArgs false
set_option linter.unusedVariables false
namespace Go.Proofs.YtkhoengjdfmfaaaGreat
theorem rnew_bad (n : Int) (h : n < 1 ∨ 8 < n) (σ : List Ent) : SCall Tryz.prog 19 [.int .i64 n] σ (Is (.tup [rnd0, .int .i64 1]) σ) := by
 refine zL Tryz.func19 rfl (by simp) ?_
 refine zY (zZ ?_); refine xK ?_; intro _; refine zP ?_; refine zX (zY (zY (zZ ?_))); refine zR ?_; refine xY ?_; intro _ _; refine zR ?_; refine xT ?_ ?_ <;> (intro h hp k; (try subst k); (try simp only [q_n] at hp); try first | omega | (cases hp; done));
 (iterate 2 refine yC ?_); refine xF ?_; refine zX (zG rfl (by rfl) ?_); refine zY (zZ ?_); refine uA ?_; refine yR ?_; refine zP ?_; refine zX (zV ?_); simp only [yX]; rotate_left; refine vN ?_; refine wT ?_; intro _ _; refine yB ?_; refine zX (yN ?_ ?_) <;> (intro h hp k; (try subst k); (try simp only [q_n] at hp); try first | omega | (cases hp; done));
 refine zY (zZ ?_); refine uA ?_; refine yR ?_; refine zP ?_; refine zX (zV ?_); simp only [yX]; rotate_left
 all_goals ((repeat (rename BV _ _ => k; first | cases k | clear k)); try exact zN)
 all_goals
  refine xW ?_
  rfl
theorem rnew_ok (n : Nat) (h : 1 ≤ n ∧ n ≤ 8) (σ : List Ent) : SCall Tryz.prog 19 [.int .i64 n] σ (Is (.tup [.agg (stC (List.replicate n []) [] []), .int .i64 0]) σ) := by
 refine zL Tryz.func19 rfl (by simp) ?_
 refine zY (zZ ?_); refine xK ?_; intro _; refine zP ?_; refine zX (zY (zY (zZ ?_))); refine zR ?_; refine xY ?_; intro _ _; refine zR ?_; refine xT ?_ ?_ <;> (intro h hp k; (try subst k); (try simp only [q_n] at hp); try first | omega | (cases hp; done));
 refine vN ?_; refine wT ?_; intro _ _; refine yB ?_; refine zX (yN ?_ ?_) <;> (intro h hp k; (try subst k); (try simp only [q_n] at hp); try first | omega | (cases hp; done));
 refine zW (zY ?_); rotate_left
 all_goals ((repeat (rename BV _ _ => k; first | cases k | clear k)); try exact zN)
 have hni : ((n : Nat) : Int) = ((n : Nat) : Int) := rfl
 refine uS anyK 4 [0, 2, 1, 3] [2] rfl (by kernel_rfl) rfl (by kernel_rfl) rfl ?_
 simp only [pick, List.filterMap_cons, List.filterMap_nil, List.getElem?_cons_zero, List.getElem?_cons_succ, wU]
 refine xU ?_; apply yY; rfl; rfl; rfl; (intro σ' hl; (refine yJ ?_; exact newNet_r _)); refine wl_row rfl rfl rfl (by apply g_makeSlice; rfl; rfl; rfl; rfl; (rfl); (rfl); (refine wP ?_ (by kernel_rfl); (omega))) ?_; intro _; apply yY; rfl; rfl; rfl; (intro σ' hl; (apply tK <;> rfl)); refine zC (yR ?_); refine zP ?_; refine zX (zV ?_); simp only [yX]; rotate_left
 all_goals ((repeat (rename BV _ _ => k; first | cases k | clear k)); try exact zN)
 rename Value => v
 refine xX (σ3 := .row v 24 1 (List.replicate n [.slv nilS]) :: σ) ?_
 refine vV .here (.tup (.agg (.here (.same (.same .nil))) (.same .nil)) .nil) ?_
 refine fin_view (fun M u hv => view3 hv) ?_
 refine wJ (sz := 3) (.tup (.agg (.same (.here (.same .nil))) (.same .nil)) .nil) ?_
 refine wJ (sz := 2) (.tup (.agg (.same (.same (.here .nil))) (.same .nil)) .nil) ?_
 rw [show stC (List.replicate n []) [] [] = [.dl 1 (List.replicate n [.dl 8 []]), .dl 3 [], .dl 2 []] by show [AV.dl 1 ((List.replicate n ([] : List Sl)).map bkC), _, _] = _; rw [List.map_replicate]; rfl]
 exact zJ .mk
theorem sameRound_c (B : List (List Sl)) (L : List Pk) (A : List Ap) (hBl : B.length ≤ 100000) (hLl : L.length ≤ 100000) (hAl : A.length ≤ 100000) (σ : List Ent) : SCall Tryz.prog 22 [.agg (stC B L A), .agg (stC B L A)] σ (Is (.bool true) σ) := by
 refine zL Tryz.func22 rfl (by simp) ?_
 have hnet := fun σ => sameNet_r L A hLl hAl σ
 refine zY (zZ ?_); refine xB ?_; intro _; refine xB ?_; intro _; refine zP ?_; refine zX (zY (zY (zZ ?_))); refine uZ ?_; refine yA ?_; refine uZ ?_; refine yA ?_; apply yE; rfl; rfl; rfl; (refine yJ ?_; exact hnet _); intro _ _; refine qY ?_; intro _ _; refine zR ?_; refine xT ?_ ?_ <;> (intro h hp k; (try subst k); (try simp only [q_n] at hp); try first | omega | (cases hp; done));
 (iterate 7 refine yC ?_); refine xF ?_; refine zX (zG rfl (by rfl) ?_); refine zY (zZ ?_); refine zP ?_; refine zX (zV ?_); simp only [yX]; rotate_left; refine wL ?_; apply yZ; rfl; (rfl); rfl; rfl; (apply xH; rfl; rfl; (exact (List.length_map _).symm)); refine wL ?_; apply yZ; rfl; (rfl); rfl; rfl; (apply xH; rfl; rfl; (exact (List.length_map _).symm)); refine wT ?_; intro _ _; refine yB ?_; refine zX (yN ?_ ?_) <;> (intro h hp k; (try subst k); (try simp only [q_n] at hp); try first | omega | (cases hp; done));
 refine zW (zY (zY (zZ ?_))); refine zP ?_; refine zX (zT ?_); rotate_left
 all_goals ((repeat (rename BV _ _ => k; first | cases k | clear k)); try exact zN)
 rename Nat => b3; revert b3; rename Nat => b2; revert b2
 intro b2 b3
 clear hnet
 refine yD (fun (k : Nat) => (⟨[(2, .ptr b2 0), (3, .ptr b3 0), (5, .int .i64 k)], .cells b3 (stC B L A) 41 :: .cells b2 (stC B L A) 41 :: σ, [], Tryz.f22.ntmps⟩ : St)) (fun k => k ≤ B.length) (fun k => B.length - k) 0 (Nat.zero_le _) (St.le_of (by repeat (first | exact trivial | refine ⟨rfl, ?_⟩)) (by repeat (first | exact q_r | apply q_q | apply q_k))) ?_
 intro k hI
 by_cases hk : k < B.length
 ·obtain ⟨l, hl⟩ : ∃ l, B[k]? = some l := yW hk
  have hg := bk_get hl
  have hsm := fun σ => same_c l σ
  refine zY (zY (zZ ?_)); refine zR ?_; refine yG ?_; refine wH ?_; refine zD ?_ ?_ <;> (intro h hp; (try simp only [q_n] at hp); try first | omega | (cases hp; done));
  refine zW (zY (zT ?_)); refine zY ?_; rotate_left
  all_goals ((repeat (rename BV _ _ => k; first | cases k | clear k)); try exact zN)
  refine xN anyK 12 [] rfl (by kernel_rfl) rfl ?_
  simp only [wU]
  refine vR ?_; refine vW ?_; refine xU ?_; refine wIx ?_; refine qB ?_; refine vR ?_; refine vW ?_; refine xU ?_; refine wIx ?_; refine qB ?_; apply vP; rfl; rfl; rfl; (intro σ' hl; (refine yJ ?_; exact hsm _)); intro _ _; apply vP; rfl; rfl; rfl; (intro σ' hl; (apply tD <;> rfl)); intro _ _; refine zC (zX (yN ?_ ?_)) <;> (intro h hp k; (try subst k); (try simp only [q_n] at hp); try first | omega | (cases hp; done));
  refine zY (zZ ?_); refine zP ?_; refine zX (zV ?_); simp only [yX]; rotate_left; refine zW (zZ (zR ?_)); refine vX ?_; refine zP ?_; refine zQ ?_; simp only [zA, zF, zE, zH, yK, ↓reduceIte, Nat.reduceEqDiff]; rotate_left
  all_goals ((repeat (rename BV _ _ => k; first | cases k | clear k)); try exact zN)
  refine ⟨k + 1, hk, by omega, ?_⟩
  exact wW
 ·refine zY (zY (zZ ?_)); refine zR ?_; refine yG ?_; refine wH ?_; refine zD ?_ ?_ <;> (intro h hp; (try simp only [q_n] at hp); try first | omega | (cases hp; done));
  refine yQ ?_; refine zY (zZ ?_); refine zP ?_; refine zX (zV ?_); simp only [yX]; rotate_left
  all_goals ((repeat (rename BV _ _ => k; first | cases k | clear k)); try exact zN)
  refine xW ?_
  rfl
structure FewR (B : List (List Sl)) (L : List Pk) (A : List Ap) : Prop where
 q : L.length ≤ 40
 a : A.length ≤ 40
 b : B.length ≤ 20
 l : ∀ l ∈ B, l.length ≤ 60
 d : ∀ p ∈ L, p.d.length ≤ 200
theorem fewRound_c (B : List (List Sl)) (L : List Pk) (A : List Ap) (σ : List Ent) : SCall Tryz.prog 17 [.agg (stC B L A)] σ (fun r τ => τ = σ ∧ ((FewR B L A ∧ r = .bool true) ∨ (¬ FewR B L A ∧ r = .bool false))) := by
 refine zL Tryz.func17 rfl (by simp) ?_
 have hnet := fun σ => fewNet_r L A σ
 by_cases hn : L.length ≤ 40 ∧ A.length ≤ 40
 ·rw [decide_eq_true hn] at hnet
  by_cases hb : B.length ≤ 20
  ·refine zY (zZ ?_); refine xB ?_; intro _; refine zP ?_; refine zX (zY (zZ ?_)); refine uZ ?_; refine yA ?_; apply yE; rfl; rfl; rfl; (refine yJ ?_; exact hnet _); intro _ _; refine zP ?_; refine zX (zY (zY (zZ ?_))); refine zR ?_; refine qY ?_; intro _ _; refine zR ?_; refine xT ?_ ?_ <;> (intro h hp k; (try subst k); (try simp only [q_n] at hp); try first | omega | (cases hp; done));
   (iterate 4 refine yC ?_); refine xF ?_; refine zX (zG rfl (by rfl) ?_); refine zY (zZ ?_); refine zP ?_; refine zX (zV ?_); simp only [yX]; rotate_left; refine wL ?_; apply yZ; rfl; (rfl); rfl; rfl; (apply xH; rfl; rfl; (exact (List.length_map _).symm)); refine wT ?_; intro _ _; refine yB ?_; refine zX (yN ?_ ?_) <;> (intro h hp k; (try subst k); (try simp only [q_n] at hp); try first | omega | (cases hp; done));
   refine zW (zY (zY (zZ ?_))); refine zP ?_; refine zX (zT ?_); rotate_left
   all_goals ((repeat (rename BV _ _ => k; first | cases k | clear k)); try exact zN)
   rename Nat => b1; revert b1
   intro b1
   clear hnet
   refine yD (fun (k : Nat) => (⟨[(1, .ptr b1 0), (4, .int .i64 k)], .cells b1 (stC B L A) 41 :: σ, [], Tryz.f17.ntmps⟩ : St)) (fun k => k ≤ B.length ∧ ∀ i l, i < k → B[i]? = some l → l.length ≤ 60) (fun k => B.length - k) 0 (⟨Nat.zero_le _, fun i l h => absurd h (Nat.not_lt_zero _)⟩) (St.le_of (by repeat (first | exact trivial | refine ⟨rfl, ?_⟩)) (by repeat (first | exact q_r | apply q_q | apply q_k))) ?_
   intro k hI
   obtain ⟨hI1, hI2⟩ := hI
   by_cases hk : k < B.length
   ·obtain ⟨l, hl⟩ : ∃ l, B[k]? = some l := yW hk
    have hg := bk_get hl
    by_cases h6 : l.length ≤ 60
    ·have hnext : ∀ i m, i < k + 1 → B[i]? = some m → m.length ≤ 60 := fun i m h1 h2 => by
      by_cases e : i = k
      ·subst e; rw [hl] at h2; cases h2; exact h6
      ·exact hI2 i m (by omega) h2
     clear hI2 hl
     refine zY (zY (zZ ?_)); refine zR ?_; refine yG ?_; refine wH ?_; refine zD ?_ ?_ <;> (intro h hp; (try simp only [q_n] at hp); try first | omega | (cases hp; done));
     refine zW (zY (zT ?_)); refine zY (zZ ?_); refine yG ?_; refine zR ?_; refine vG ?_; refine yG ?_; refine wH ?_; refine zD ?_ ?_ <;> (intro h hp; (try simp only [q_n] at hp); try first | omega | (cases hp; done));
     refine zW (zZ (zR ?_)); refine vX ?_; refine zP ?_; refine zQ ?_; simp only [zA, zF, zE, zH, yK, ↓reduceIte, Nat.reduceEqDiff]; rotate_left
     all_goals ((repeat (rename BV _ _ => k; first | cases k | clear k)); try exact zN)
     refine ⟨k + 1, ⟨hk, hnext⟩, by omega, ?_⟩
     exact wW
    ·have hno : ¬ FewR B L A := fun hx => h6 (hx.l l (List.mem_of_getElem? hl))
     clear hI2 hl
     refine zY (zY (zZ ?_)); refine zR ?_; refine yG ?_; refine wH ?_; refine zD ?_ ?_ <;> (intro h hp; (try simp only [q_n] at hp); try first | omega | (cases hp; done));
     refine zW (zY (zT ?_)); refine zY (zZ ?_); refine yG ?_; refine zR ?_; refine vG ?_; refine yG ?_; refine wH ?_; refine zD ?_ ?_ <;> (intro h hp; (try simp only [q_n] at hp); try first | omega | (cases hp; done));
     refine zY (zZ ?_); refine zP ?_; refine zX (zV ?_); simp only [yX]; rotate_left
     all_goals ((repeat (rename BV _ _ => k; first | cases k | clear k)); try exact zN)
     refine xX (σ3 := σ) ?_
     exact zJ ⟨rfl, .inr ⟨hno, rfl⟩⟩
   ·have hall : ∀ l ∈ B, l.length ≤ 60 := fun l hl => by
     obtain ⟨i, hi⟩ := List.getElem?_of_mem hl
     exact hI2 i l (by have := wD hi; omega) hi
    clear hI2
    refine zY (zY (zZ ?_)); refine zR ?_; refine yG ?_; refine wH ?_; refine zD ?_ ?_ <;> (intro h hp; (try simp only [q_n] at hp); try first | omega | (cases hp; done));
    refine yQ ?_; refine zY (zY (zZ ?_)); refine zP ?_; refine zX (zT ?_); rotate_left
    all_goals ((repeat (rename BV _ _ => k; first | cases k | clear k)); try exact zN)
    refine yD (fun (j : Nat) => (⟨[(1, .ptr b1 0), (5, .int .i64 j)], .cells b1 (stC B L A) 41 :: σ, [], Tryz.f17.ntmps⟩ : St)) (fun j => j ≤ L.length ∧ ∀ i p, i < j → L[i]? = some p → p.d.length ≤ 200) (fun j => L.length - j) 0 (⟨Nat.zero_le _, fun i p h => absurd h (Nat.not_lt_zero _)⟩) (St.le_of (by repeat (first | exact trivial | refine ⟨rfl, ?_⟩)) (by repeat (first | exact q_r | apply q_q | apply q_k))) ?_
    intro j hI
    obtain ⟨hI1, hI2⟩ := hI
    by_cases hj : j < L.length
    ·obtain ⟨p, hpj⟩ : ∃ p, L[j]? = some p := yW hj
     have hg := pk_get hpj
     by_cases h2 : p.d.length ≤ 200
     ·have hnext : ∀ i q, i < j + 1 → L[i]? = some q → q.d.length ≤ 200 := fun i q h1 h3 => by
       by_cases e : i = j
       ·subst e; rw [hpj] at h3; cases h3; exact h2
       ·exact hI2 i q (by omega) h3
      clear hI2 hall hpj
      refine zY (zY (zZ ?_)); refine zR ?_; refine uZ ?_; refine yG ?_; refine wH ?_; refine zD ?_ ?_ <;> (intro h hp; (try simp only [q_n] at hp); try first | omega | (cases hp; done));
      refine zW (zY (zT ?_)); refine zY (zZ ?_); refine uZ ?_; refine yG ?_; refine zR ?_; refine vG ?_; refine yG ?_; refine wH ?_; refine zD ?_ ?_ <;> (intro h hp; (try simp only [q_n] at hp); try first | omega | (cases hp; done));
      refine zW (zZ (zR ?_)); refine vX ?_; refine zP ?_; refine zQ ?_; simp only [zA, zF, zE, zH, yK, ↓reduceIte, Nat.reduceEqDiff]; rotate_left
      all_goals ((repeat (rename BV _ _ => k; first | cases k | clear k)); try exact zN)
      refine ⟨j + 1, ⟨hj, hnext⟩, by omega, ?_⟩
      exact wW
     ·have hno : ¬ FewR B L A := fun hx => h2 (hx.d p (List.mem_of_getElem? hpj))
      clear hI2 hall hpj
      refine zY (zY (zZ ?_)); refine zR ?_; refine uZ ?_; refine yG ?_; refine wH ?_; refine zD ?_ ?_ <;> (intro h hp; (try simp only [q_n] at hp); try first | omega | (cases hp; done));
      refine zW (zY (zT ?_)); refine zY (zZ ?_); refine uZ ?_; refine yG ?_; refine zR ?_; refine vG ?_; refine yG ?_; refine wH ?_; refine zD ?_ ?_ <;> (intro h hp; (try simp only [q_n] at hp); try first | omega | (cases hp; done));
      refine zY (zZ ?_); refine zP ?_; refine zX (zV ?_); simp only [yX]; rotate_left
      all_goals ((repeat (rename BV _ _ => k; first | cases k | clear k)); try exact zN)
      refine xX (σ3 := σ) ?_
      exact zJ ⟨rfl, .inr ⟨hno, rfl⟩⟩
    ·have hfew : FewR B L A := ⟨hn.1, hn.2, hb, hall, fun p hq => (by
      obtain ⟨i, hi⟩ := List.getElem?_of_mem hq
      exact hI2 i p (by have := wD hi; omega) hi)⟩
     clear hI2 hall
     refine zY (zY (zZ ?_)); refine zR ?_; refine uZ ?_; refine yG ?_; refine wH ?_; refine zD ?_ ?_ <;> (intro h hp; (try simp only [q_n] at hp); try first | omega | (cases hp; done));
     refine yQ ?_; refine zY (zZ ?_); refine zP ?_; refine zX (zV ?_); simp only [yX]; rotate_left
     all_goals ((repeat (rename BV _ _ => k; first | cases k | clear k)); try exact zN)
     refine xX (σ3 := σ) ?_
     exact zJ ⟨rfl, .inl ⟨hfew, rfl⟩⟩
  ·have hno : ¬ FewR B L A := fun hx => hb hx.b
   refine zY (zZ ?_); refine xB ?_; intro _; refine zP ?_; refine zX (zY (zZ ?_)); refine uZ ?_; refine yA ?_; apply yE; rfl; rfl; rfl; (refine yJ ?_; exact hnet _); intro _ _; refine zP ?_; refine zX (zY (zY (zZ ?_))); refine zR ?_; refine qY ?_; intro _ _; refine zR ?_; refine xT ?_ ?_ <;> (intro h hp k; (try subst k); (try simp only [q_n] at hp); try first | omega | (cases hp; done));
   (iterate 4 refine yC ?_); refine xF ?_; refine zX (zG rfl (by rfl) ?_); refine zY (zZ ?_); refine zP ?_; refine zX (zV ?_); simp only [yX]; rotate_left; refine wL ?_; apply yZ; rfl; (rfl); rfl; rfl; (apply xH; rfl; rfl; (exact (List.length_map _).symm)); refine wT ?_; intro _ _; refine yB ?_; refine zX (yN ?_ ?_) <;> (intro h hp k; (try subst k); (try simp only [q_n] at hp); try first | omega | (cases hp; done));
   refine zY (zZ ?_); refine zP ?_; refine zX (zV ?_); simp only [yX]; rotate_left
   all_goals ((repeat (rename BV _ _ => k; first | cases k | clear k)); try exact zN)
   refine xX (σ3 := σ) ?_
   exact zJ ⟨rfl, .inr ⟨hno, rfl⟩⟩
 ·have hno : ¬ FewR B L A := fun hx => hn ⟨hx.q, hx.a⟩
  rw [decide_eq_false hn] at hnet
  refine zY (zZ ?_); refine xB ?_; intro _; refine zP ?_; refine zX (zY (zZ ?_)); refine uZ ?_; refine yA ?_; apply yE; rfl; rfl; rfl; (refine yJ ?_; exact hnet _); intro _ _; refine zP ?_; refine zX (zY (zY (zZ ?_))); refine zR ?_; refine qY ?_; intro _ _; refine zR ?_; refine xT ?_ ?_ <;> (intro h hp k; (try subst k); (try simp only [q_n] at hp); try first | omega | (cases hp; done));
  (iterate 4 refine yC ?_); refine xF ?_; refine zX (zG rfl (by rfl) ?_); refine zY (zZ ?_); refine zP ?_; refine zX (zV ?_); simp only [yX]; rotate_left; refine wL ?_; apply yZ; rfl; (rfl); rfl; rfl; (apply xH; rfl; rfl; (exact (List.length_map _).symm)); refine wT ?_; intro _ _; refine yB ?_; refine zX (yN ?_ ?_) <;> (intro h hp k; (try subst k); (try simp only [q_n] at hp); try first | omega | (cases hp; done));
  refine zY (zZ ?_); refine zP ?_; refine zX (zV ?_); simp only [yX]; rotate_left; refine zW (zY (zY (zZ ?_))); refine zP ?_; refine zX (zT ?_); rotate_left
  all_goals ((repeat (rename BV _ _ => k; first | cases k | clear k)); try exact zN)
  refine xX (σ3 := σ) ?_
  exact zJ ⟨rfl, .inr ⟨hno, rfl⟩⟩
theorem few_ok {B : List (List Sl)} {L : List Pk} {A : List Ap} (h : FewR B L A) (σ : List Ent) : SCall Tryz.prog 17 [.agg (stC B L A)] σ (Is (.bool true) σ) :=
 uY (fewRound_c B L A σ) fun v τ ⟨h1, h2⟩ => by
  subst h1
  rcases h2 with ⟨_, rfl⟩ | ⟨h3, _⟩
  ·exact .mk
  ·exact absurd h h3
theorem few_no {B : List (List Sl)} {L : List Pk} {A : List Ap} (h : ¬ FewR B L A) (σ : List Ent) : SCall Tryz.prog 17 [.agg (stC B L A)] σ (Is (.bool false) σ) :=
 uY (fewRound_c B L A σ) fun v τ ⟨h1, h2⟩ => by
  subst h1
  rcases h2 with ⟨h3, _⟩ | ⟨_, rfl⟩
  ·exact absurd h3 h
  ·exact .mk
theorem nil3_view {M : Mem} {v : Value} (h : VRel M rnd0 v) : VRel M (.agg (stC [] [] [])) v := by
 simp only [rnd0, VRel, VRels] at h
 obtain ⟨vs, rfl, _, _, e, ⟨rfl, _⟩, _, _, rfl, ⟨rfl, _⟩, _, _, rfl, ⟨rfl, _⟩, rfl⟩ := h
 have e1 := nil_rel M 1
 have e2 := nil_rel M 3
 have e3 := nil_rel M 2
 show VRel M (.agg [.dl 1 [], .dl 3 [], .dl 2 []]) _
 rw [VRel]
 refine ⟨_, rfl, ?_⟩
 rw [e]
 simp only [VRels]
 exact ⟨_, _, rfl, e1, _, _, rfl, e2, _, _, rfl, e3, rfl⟩
/-- A wrong answer's round, as one without books. -/
theorem scall_rnd0 {f : FuncId} {args : List AV} {e : Int} (h : ∀ σ, SCall Tryz.prog f args σ (Is (.tup [rnd0, .int .i64 e]) σ)) (σ : List Ent) : SCall Tryz.prog f args σ (Is (.tup [.agg (stC [] [] []), .int .i64 e]) σ) :=
 ⟨fun X M w vs hg ha => ((h σ).run X M w vs hg ha).mono fun _ _ ⟨M', τ, r, v, h1, h2, h3, h4, h5⟩ => by
  obtain ⟨⟩ := h5
  refine ⟨M', _, _, v, h1, h2, ?_, h4, .mk⟩
  rw [VRel] at h3 ⊢
  obtain ⟨us, rfl, h6⟩ := h3
  refine ⟨us, rfl, ?_⟩
  rw [VRels] at h6 ⊢
  obtain ⟨u, q, e1, h7, h8⟩ := h6
  exact ⟨u, q, e1, nil3_view h7, h8⟩⟩
structure Both (f g : FuncId) (args : List AV) : Prop where
 both : ∃ (B : List (List Sl)) (L : List Pk) (A : List Ap) (e : Int), (∀ σ, SCall Tryz.prog f args σ (Is (.tup [.agg (stC B L A), .int .i64 e]) σ)) ∧ (∀ σ, SCall Tryz.prog g args σ (Is (.tup [.agg (stC B L A), .int .i64 e]) σ)) ∧
  (∀ σ, SCall Tryz.prog 22 [.agg (stC B L A), .agg (stC B L A)] σ (Is (.bool true) σ))
theorem sameRound_0 (σ : List Ent) : SCall Tryz.prog 22 [.agg (stC [] [] []), .agg (stC [] [] [])] σ (Is (.bool true) σ) := sameRound_c [] [] [] (Nat.zero_le _) (Nat.zero_le _) (Nat.zero_le _) σ
theorem both_new (n : Int) : Both 18 19 [.int .i64 n] := by
 by_cases hn : n < 1 ∨ 8 < n
 ·exact ⟨[], [], [], 1, scall_rnd0 (new_bad n hn), scall_rnd0 (rnew_bad n hn), sameRound_0⟩
 ·obtain ⟨k, rfl⟩ : ∃ k : Nat, n = k := ⟨n.toNat, by omega⟩
  have hk : 1 ≤ k ∧ k ≤ 8 := by omega
  exact ⟨_, _, _, 0, new_ok k hk, rnew_ok k hk, sameRound_c _ _ _ (by rw [List.length_replicate]; omega) (Nat.zero_le _) (Nat.zero_le _)⟩
theorem slips_of {n : Nat} : ∀ {L : List Pk}, (∀ p ∈ L, RtP n p) → ∃ Q : List Qk, L = qPs Q ∧ ∀ q ∈ Q, 0 ≤ q.f ∧ 0 ≤ q.t ∧ q.f ≠ q.t ∧ q.f < n ∧ q.t < n ∧ Sendable q.s ∧ q.s.tab < n
 | [], _ => ⟨[], rfl, fun q hq => by cases hq⟩
 | p :: L, h => by
  obtain ⟨Q, rfl, hQ⟩ := slips_of (L := L) (fun x hx => h x (List.mem_cons_of_mem _ hx))
  have hr := h p (List.mem_cons_self ..)
  obtain ⟨s, h1, h2, h3⟩ := hr.msg
  refine ⟨⟨p.f, p.t, s⟩ :: Q, ?_, fun q hq => ?_⟩
  ·show p :: qPs Q = (⟨p.f, p.t, msgS s⟩ : Pk) :: qPs Q
   rw [← h1]
  ·rcases List.mem_cons.1 hq with rfl | hq
   ·exact ⟨hr.f0, hr.t0, hr.ne, hr.fn, hr.tn, h2, h3⟩
   ·exact hQ q hq
theorem Rt.slips {B : List (List Sl)} {L : List Pk} {A : List Ap} (h : Rt B L A) : ∃ Q, L = qPs Q ∧ RtQ B Q := by
 obtain ⟨Q, rfl, hQ⟩ := slips_of h.net
 exact ⟨Q, rfl, h.n1, h.n8, h.ck, h.tab, hQ, by have := h.few; rwa [List.length_map] at this⟩
theorem doSA_len {A : List Ap} {B : List (List Sl)} {Q : List Qk} {r : Ps} {x : List (List Sl) × List Qk} (hQ : Q.length ≤ 4096) (h : doSA A B Q r = .ok x) : x.1.length = B.length ∧ x.2.length ≤ 8192 := by
 have hd : ∀ {x : List (List Sl) × List Qk}, doS B Q r = .ok x → x.1.length = B.length ∧ x.2.length ≤ 8192 := fun {x} hx => by
  unfold doS at hx
  have he : (Q.eraseIdx r.i.toNat).length ≤ Q.length := List.length_eraseIdx_le ..
  split at hx
  ·split at hx
   ·split at hx
    ·cases hx; exact ⟨by simp, by dsimp only; omega⟩
    ·cases hx
   ·cases hx
  split at hx
  ·split at hx
   ·split at hx
    ·cases hx; exact ⟨rfl, by simp only [List.length_append, List.length_map]; omega⟩
    ·cases hx
   ·cases hx
  split at hx
  ·split at hx
   ·cases hx
   ·split at hx
    ·cases hx
    ·split at hx
     ·cases hx; exact ⟨by simp, by dsimp only; omega⟩
     split at hx
     ·cases hx; exact ⟨rfl, by dsimp only; omega⟩
     split at hx
     ·cases hx
     ·cases hx; exact ⟨rfl, by simp only [List.length_append, List.length_cons, List.length_nil]; omega⟩
  ·cases hx
 unfold doSA at h
 split at h
 ·exact hd h
 ·split at h
  ·cases h
   exact ⟨rfl, by have : (Q.eraseIdx r.i.toNat).length ≤ Q.length := List.length_eraseIdx_le ..; dsimp only; omega⟩
  ·exact hd h
theorem both_do {B : List (List Sl)} {L : List Pk} {A : List Ap} (r : Ps) (hf : FewR B L A) (hb : ∀ p ∈ L, ∀ x ∈ p.d, x < 256) : Both 20 21 [.agg (stC B L A), psV r] := by
 have hs : Small L := fun p hp => ⟨hb p hp, by have := hf.d p hp; omega⟩
 have hq := hf.q
 have ha := hf.a
 have hB := hf.b
 by_cases hr : RightA B L A
 ·have hrt := hr.rt hs
  obtain ⟨Q, rfl, hQ⟩ := hrt.slips
  have hA := hrt.ap
  have c1 := do_c B Q A hA r hQ
  have c2 := rdo_c B Q A hA (by omega) r hQ
  cases hx : doSA A B Q r with
  | error e =>
   rw [hx] at c1 c2
   exact ⟨[], [], [], e, scall_rnd0 c1, scall_rnd0 c2, sameRound_0⟩
  | ok x =>
   rw [hx] at c1 c2
   have hl := doSA_len hQ.few hx
   exact ⟨_, _, _, 0, c1, c2, sameRound_c x.1 (qPs x.2) A (by omega) (by rw [List.length_map]; omega) (by omega)⟩
 ·exact ⟨[], [], [], 540, scall_rnd0 (do_bad B L A r hs hr), scall_rnd0 (rdo_bad B L A r hs (by omega) (fun l hl => by have := hf.l l hl; omega) (by omega) (by omega) hr), sameRound_0⟩
theorem doSpec_c (B : List (List Sl)) (L : List Pk) (A : List Ap) (r : Ps) (n : Int) (hb : ∀ p ∈ L, ∀ x ∈ p.d, x < 256) :
  SCall Tryz.prog 4 [.agg (stC B L A), psV r, .int .i64 n] [] (Is (.bool true) []) := by
 refine zL Tryz.func4 rfl (by simp) ?_
 by_cases hf : FewR B L A
 ·have fa := fun σ => few_ok hf σ
  obtain ⟨B1, L1, A1, e, n1, n2, s1⟩ := (both_new n).both
  obtain ⟨B2, L2, A2, g, d1, d2, s2⟩ := (both_do r hf hb).both
  clear hf hb
  refine zY (zZ ?_); refine xB ?_; intro _; refine xB ?_; intro _; refine zP ?_; refine zX (zY (zY (zZ ?_))); apply yE; rfl; rfl; rfl; (refine yJ ?_; exact sane_c _); intro _ _; refine qY ?_; intro _ _; refine zX (yN ?_ ?_) <;> (intro h hp k; (try subst k); (try simp only [q_n] at hp); try first | omega | (cases hp; done));
  refine zY (zZ ?_); refine zP ?_; refine zX (zV ?_); simp only [yX]; rotate_left; refine zW (zY (zY (zZ ?_))); refine yA ?_; apply yE; rfl; rfl; rfl; (refine yJ ?_; exact fa _); intro _ _; refine qY ?_; intro _ _; refine zX (yN ?_ ?_) <;> (intro h hp k; (try subst k); (try simp only [q_n] at hp); try first | omega | (cases hp; done));
  refine zY (zZ ?_); refine zP ?_; refine zX (zV ?_); simp only [yX]; rotate_left; refine zW (zY (zZ ?_)); refine zR ?_; apply zU; rfl; rfl; rfl; (refine yJ ?_; exact n1 _); refine zR ?_; (iterate 2 refine tG ?_); refine xK ?_; intro _; refine yR ?_; refine zP ?_; refine zX (zY (zZ ?_)); refine zR ?_; apply zU; rfl; rfl; rfl; (refine yJ ?_; exact n2 _); refine zR ?_; (iterate 2 refine tG ?_); refine xK ?_; intro _; refine yR ?_; refine zP ?_; refine zX (zY (zZ ?_)); (iterate 2 refine yA ?_); apply zU; rfl; rfl; rfl; (refine yJ ?_; exact d1 _); refine zR ?_; (iterate 2 refine tG ?_); refine xK ?_; intro _; refine yR ?_; refine zP ?_; refine zX (zY (zZ ?_)); (iterate 2 refine yA ?_); apply zU; rfl; rfl; rfl; (refine yJ ?_; exact d2 _); refine zR ?_; (iterate 2 refine tG ?_); refine xK ?_; intro _; refine yR ?_; refine zP ?_; refine zX (zY (zZ ?_)); (iterate 2 refine yA ?_); apply yE; rfl; rfl; rfl; (refine yJ ?_; exact s1 _); intro _ _; refine zR ?_; refine xT ?_ ?_ <;> (intro h hp k; (try subst k); (try simp only [q_n] at hp); try first | omega | (cases hp; done));
  (iterate 2 refine vN ?_); refine wT ?_; intro _ _; refine xF ?_; refine zR ?_; refine xT ?_ ?_ <;> (intro h hp k; (try subst k); (try simp only [q_n] at hp); try first | omega | (cases hp; done));
  (iterate 2 refine yLa ?_); apply xR; rfl; (rfl); rfl; rfl; (refine yJ ?_; exact s2 _); intro _ _; refine xF ?_; refine zR ?_; refine xT ?_ ?_ <;> (intro h hp k; (try subst k); (try simp only [q_n] at hp); try first | omega | (cases hp; done));
  (iterate 2 refine vN ?_); refine wT ?_; intro _ _; refine xF ?_; refine zP ?_; refine zX (zV ?_); simp only [yX]; rotate_left
  all_goals ((repeat (rename BV _ _ => k; first | cases k | clear k)); try exact zN)
  refine xW (tV ?_)
  simp
 ·have fa := fun σ => few_no hf σ
  clear hf hb
  refine zY (zZ ?_); refine xB ?_; intro _; refine xB ?_; intro _; refine zP ?_; refine zX (zY (zY (zZ ?_))); apply yE; rfl; rfl; rfl; (refine yJ ?_; exact sane_c _); intro _ _; refine qY ?_; intro _ _; refine zX (yN ?_ ?_) <;> (intro h hp k; (try subst k); (try simp only [q_n] at hp); try first | omega | (cases hp; done));
  refine zY (zZ ?_); refine zP ?_; refine zX (zV ?_); simp only [yX]; rotate_left; refine zW (zY (zY (zZ ?_))); refine yA ?_; apply yE; rfl; rfl; rfl; (refine yJ ?_; exact fa _); intro _ _; refine qY ?_; intro _ _; refine zX (yN ?_ ?_) <;> (intro h hp k; (try subst k); (try simp only [q_n] at hp); try first | omega | (cases hp; done));
  refine zY (zZ ?_); refine zP ?_; refine zX (zV ?_); simp only [yX]; rotate_left; refine zW (zY (zZ ?_)); refine zR ?_; rotate_left
  all_goals ((repeat (rename BV _ _ => k; first | cases k | clear k)); try exact zN)
  refine xW ?_
  rfl
def slS : Sh := .agg [.int .i64, .int .i64, .int .i64, .int .i64, .int .i64, .int .i64, .int .i64, .int .i64]
def bkS : Sh := .agg [.slice slS]
def psS : Sh := .agg [.int .i64, .int .i64, .int .i64, .int .i64, slS]
theorem fits_sl {l : List AV} (h : Fits slS l) : ∃ s : Sl, l = slC s := by
 simp only [slS, Fits, Fitss] at h
 obtain ⟨_, _, rfl, ⟨a, rfl, _⟩, _, _, rfl, ⟨b, rfl, _⟩, _, _, rfl, ⟨c, rfl, _⟩, _, _, rfl, ⟨d, rfl, _⟩, _, _, rfl, ⟨e, rfl, _⟩, _, _, rfl, ⟨f, rfl, _⟩, _, _, rfl, ⟨g, rfl, _⟩, _, _, rfl, ⟨i, rfl, _⟩, rfl⟩ := h
 exact ⟨⟨a, b, c, d, e, f, g, i⟩, rfl⟩
theorem fits_bk {l : List AV} (h : Fits bkS l) : ∃ xs : List Sl, l = [sls xs] := by
 unfold bkS at h
 rw [Fits] at h
 simp only [Fitss] at h
 obtain ⟨_, _, rfl, h1, rfl⟩ := h
 obtain ⟨xs, rfl, _⟩ := fits_slice (f := slC) (p := fun _ => True) (fun x hx => by obtain ⟨n, rfl⟩ := fits_sl hx; exact ⟨n, rfl, trivial⟩) h1
 exact ⟨xs, rfl⟩
theorem fits_ps {l : List AV} (h : Fits psS l) : ∃ r : Ps, l = psC r := by
 unfold psS at h
 rw [Fits] at h
 simp only [Fitss] at h
 obtain ⟨_, _, rfl, h1, _, _, rfl, h2, _, _, rfl, h3, _, _, rfl, h4, _, _, rfl, h5, rfl⟩ := h
 obtain ⟨a, rfl, _⟩ := pT h1
 obtain ⟨b, rfl, _⟩ := pT h2
 obtain ⟨c, rfl, _⟩ := pT h3
 obtain ⟨d, rfl, _⟩ := pT h4
 obtain ⟨s, rfl⟩ := fits_sl h5
 exact ⟨⟨a, b, c, d, s⟩, by simp⟩
end Go.Proofs.YtkhoengjdfmfaaaGreat
