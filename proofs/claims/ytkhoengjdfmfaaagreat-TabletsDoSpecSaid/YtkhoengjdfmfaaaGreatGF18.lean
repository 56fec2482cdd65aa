/- Parts of the proof that belong together: Rk Rl Rm Rn. -/
import Derived.Test.YtkhoengjdfmfaaaGreatGF17
set_option maxRecDepth 10000
set_option maxHeartbeats 16000000
set_option linter.unusedSimpArgs false
set_option linter.unusedVariables false
namespace Go.Proofs.YtkhoengjdfmfaaaGreat
theorem many_r (l : List Sl) (t : Int) (hl : l.length ≤ 100000) (σ : List Ent) : SCall Tryz.prog 96 [sls l, .int .i64 t] σ (Is (.int .i64 (uJ l t : Nat)) σ) := by
 refine zL Tryz.func96 rfl (by simp) ?_
 refine zY (zZ ?_); refine zP ?_; refine zX (zY (zZ ?_)); refine zP ?_; refine zX (zY (zY (zZ ?_))); refine zP ?_; refine zX (zT ?_); rotate_left
 all_goals ((repeat (rename BV _ _ => k; first | cases k | clear k)); try exact zN)
 refine yD (fun (k : Nat) => (⟨[(0, sls l), (1, .int .i64 t), (5, .int .i64 (uJ (l.take k) t : Nat)), (6, .int .i64 k)], σ, [], Tryz.f96.ntmps⟩ : St)) (fun k => k ≤ l.length) (fun k => l.length - k) 0 (Nat.zero_le _) (St.le_of (by repeat (first | exact trivial | refine ⟨rfl, ?_⟩)) (by repeat (first | exact q_r | apply q_q | apply q_k))) ?_
 intro k hI
 by_cases hk : k < l.length
 ·obtain ⟨x, hx⟩ : ∃ x, l[k]? = some x := yW hk
  have hg := uH hx
  have hml : uJ (l.take k) t ≤ l.length := Nat.le_trans List.countP_le_length (by rw [List.length_take]; omega)
  have hnx : uJ (l.take (k + 1)) t = uJ (l.take k) t + (if x.tab = t then 1 else 0) := by
   unfold uJ
   rw [List.take_add_one, hx, List.countP_append]
   congr 1
   show List.countP _ [x] = _
   rw [List.countP_singleton]
   simp
  by_cases hq : x.tab = t
  ·rw [if_pos hq] at hnx
   refine zY (zY (zZ ?_)); (iterate 2 refine zR ?_); refine wH ?_; refine zD ?_ ?_ <;> (intro h hp; (try simp only [q_n] at hp); try first | omega | (cases hp; done));
   refine zW (zY (zT ?_)); refine zY (zZ ?_); (iterate 2 refine zR ?_); refine vG ?_; refine yG ?_; refine zR ?_; refine zD ?_ ?_ <;> (intro h hp; (try simp only [q_n] at hp); try first | omega | (cases hp; done));
   refine zZ (zR ?_); refine vX ?_; refine zP ?_; refine zQ (zZ (zR ?_)); refine vX ?_; refine zP ?_; refine zQ ?_; simp only [zA, zF, zE, zH, yK, ↓reduceIte, Nat.reduceEqDiff]; rotate_left
   all_goals ((repeat (rename BV _ _ => k; first | cases k | clear k)); try exact zN)
   refine ⟨k + 1, hk, by omega, ?_⟩
   rw [hnx]
   exact wW
  ·rw [if_neg hq, Nat.add_zero] at hnx
   refine zY (zY (zZ ?_)); (iterate 2 refine zR ?_); refine wH ?_; refine zD ?_ ?_ <;> (intro h hp; (try simp only [q_n] at hp); try first | omega | (cases hp; done));
   refine zW (zY (zT ?_)); refine zY (zZ ?_); (iterate 2 refine zR ?_); refine vG ?_; refine yG ?_; refine zR ?_; refine zD ?_ ?_ <;> (intro h hp; (try simp only [q_n] at hp); try first | omega | (cases hp; done));
   refine zW (zZ (zR ?_)); refine vX ?_; refine zP ?_; refine zQ ?_; simp only [zA, zF, zE, zH, yK, ↓reduceIte, Nat.reduceEqDiff]; rotate_left
   all_goals ((repeat (rename BV _ _ => k; first | cases k | clear k)); try exact zN)
   refine ⟨k + 1, hk, by omega, ?_⟩
   rw [hnx]
   exact wW
 ·have e : k = l.length := by omega
  subst e
  rw [List.take_length]
  refine zY (zY (zZ ?_)); (iterate 2 refine zR ?_); refine wH ?_; refine zD ?_ ?_ <;> (intro h hp; (try simp only [q_n] at hp); try first | omega | (cases hp; done));
  refine yQ ?_; refine zY (zZ ?_); refine zR ?_; refine zP ?_; refine zX (zV ?_); simp only [yX]; rotate_left
  all_goals ((repeat (rename BV _ _ => k; first | cases k | clear k)); try exact zN)
  refine xW ?_
  rfl
theorem rwrite_c (l : List Sl) (s : Sl) (σ : List Ent) : SCall Tryz.prog 91 [.agg [sls l], slV s] σ (Is (.tup [.agg [sls (vQ l s).1], .int .i64 (vQ l s).2]) σ) := by
 refine zL Tryz.func91 rfl (by simp) ?_
 have c1 := fun σ => rcheck_c l σ
 unfold vQ
 by_cases h0 : xQ l = 0
 ·rw [if_neg (by rw [h0]; simp)]
  have hlen := (check_zero.1 h0).1
  have hup := (uC h0).up
  rw [h0] at c1
  by_cases h5 : l.length = 512
  ·rw [if_pos h5]
   have h5i : ((l.length : Nat) : Int) = 512 := by omega
   clear hup
   refine zY (zZ ?_); refine xB ?_; intro _; refine xB ?_; intro _; refine xK ?_; intro _; refine zP ?_; refine zX (zY (zZ ?_)); refine yA ?_; apply zU; rfl; rfl; rfl; (refine yJ ?_; exact c1 _); refine zP ?_; refine zX (zY (zY (zZ ?_))); refine zR ?_; refine zD ?_ ?_ <;> (intro h hp; (try simp only [q_n] at hp); try first | omega | (cases hp; done));
   refine zW (zY (zY (zZ ?_))); refine yG ?_; refine wH ?_; refine zD ?_ ?_ <;> (intro h hp; (try simp only [q_n] at hp); try first | omega | (cases hp; done));
   refine zY (zZ ?_); refine uA ?_; refine yR ?_; refine zP ?_; refine zX (zV ?_); simp only [yX]; rotate_left
   all_goals ((repeat (rename BV _ _ => k; first | cases k | clear k)); try exact zN)
   refine xX (σ3 := σ) ?_
   refine wJ (sz := 8) (.tup (.agg (.here .nil) (.same .nil)) .nil) ?_
   exact zJ .mk
  ·rw [if_neg h5]
   have h5i : ¬ ((l.length : Nat) : Int) = 512 := by omega
   have hm := fun σ => many_r l s.tab (by omega) σ
   have hput := fun σ => rput_c l { s with seq := (uJ l s.tab : Nat) } hup (by omega) σ
   have hv := fun σ => rvalid_c (uT l { s with seq := (uJ l s.tab : Nat) }) σ
   have hsv : slC { s with seq := (uJ l s.tab : Nat) } = [.int .i64 s.tab, .int .i64 (uJ l s.tab : Nat), .int .i64 s.kind, .int .i64 s.turn, .int .i64 s.farm, .int .i64 s.hour, .int .i64 s.lit, .int .i64 s.off] := rfl
   generalize uT l { s with seq := (uJ l s.tab : Nat) } = P at hput hv ⊢
   rw [show slV { s with seq := (uJ l s.tab : Nat) } = .agg [.int .i64 s.tab, .int .i64 (uJ l s.tab : Nat), .int .i64 s.kind, .int .i64 s.turn, .int .i64 s.farm, .int .i64 s.hour, .int .i64 s.lit, .int .i64 s.off] from rfl] at hput
   clear hup hsv
   cases hb : qN P with
   | true =>
    rw [hb] at hv
    rw [if_pos rfl]
    refine zY (zZ ?_); refine xB ?_; intro _; refine xB ?_; intro _; refine xK ?_; intro _; refine zP ?_; refine zX (zY (zZ ?_)); refine yA ?_; apply zU; rfl; rfl; rfl; (refine yJ ?_; exact c1 _); refine zP ?_; refine zX (zY (zY (zZ ?_))); refine zR ?_; refine zD ?_ ?_ <;> (intro h hp; (try simp only [q_n] at hp); try first | omega | (cases hp; done));
    refine zW (zY (zY (zZ ?_))); refine yG ?_; refine wH ?_; refine zD ?_ ?_ <;> (intro h hp; (try simp only [q_n] at hp); try first | omega | (cases hp; done));
    refine zW (zY (zZ ?_)); (iterate 2 refine yG ?_); apply zU; rfl; rfl; rfl; (refine yJ ?_; exact hm _); refine uZ ?_; refine yR ?_; refine zX (zY (zZ ?_)); refine yG ?_; refine yA ?_; apply zU; rfl; rfl; rfl; (refine yJ ?_; exact hput _); refine zP ?_; refine zX (zY (zY (zZ ?_))); refine zR ?_; apply yE; rfl; rfl; rfl; (refine yJ ?_; exact hv _); intro _ _; refine qY ?_; intro _ _; refine zX (yN ?_ ?_) <;> (intro h hp k; (try subst k); (try simp only [q_n] at hp); try first | omega | (cases hp; done));
    refine zY (zZ ?_); refine uA ?_; refine yR ?_; refine zP ?_; refine zX (zV ?_); simp only [yX]; rotate_left; refine zW (zY (zZ ?_)); refine zR ?_; refine uA ?_; refine yR ?_; refine zP ?_; refine zX (zV ?_); simp only [yX]; rotate_left
    all_goals ((repeat (rename BV _ _ => k; first | cases k | clear k)); try exact zN)
    refine xW ?_
    rfl
   | false =>
    rw [hb] at hv
    rw [if_neg (by decide)]
    refine zY (zZ ?_); refine xB ?_; intro _; refine xB ?_; intro _; refine xK ?_; intro _; refine zP ?_; refine zX (zY (zZ ?_)); refine yA ?_; apply zU; rfl; rfl; rfl; (refine yJ ?_; exact c1 _); refine zP ?_; refine zX (zY (zY (zZ ?_))); refine zR ?_; refine zD ?_ ?_ <;> (intro h hp; (try simp only [q_n] at hp); try first | omega | (cases hp; done));
    refine zW (zY (zY (zZ ?_))); refine yG ?_; refine wH ?_; refine zD ?_ ?_ <;> (intro h hp; (try simp only [q_n] at hp); try first | omega | (cases hp; done));
    refine zW (zY (zZ ?_)); (iterate 2 refine yG ?_); apply zU; rfl; rfl; rfl; (refine yJ ?_; exact hm _); refine uZ ?_; refine yR ?_; refine zX (zY (zZ ?_)); refine yG ?_; refine yA ?_; apply zU; rfl; rfl; rfl; (refine yJ ?_; exact hput _); refine zP ?_; refine zX (zY (zY (zZ ?_))); refine zR ?_; apply yE; rfl; rfl; rfl; (refine yJ ?_; exact hv _); intro _ _; refine qY ?_; intro _ _; refine zX (yN ?_ ?_) <;> (intro h hp k; (try subst k); (try simp only [q_n] at hp); try first | omega | (cases hp; done));
    refine zY (zZ ?_); refine uA ?_; refine yR ?_; refine zP ?_; refine zX (zV ?_); simp only [yX]; rotate_left; refine zW (zY (zZ ?_)); refine zR ?_; refine uA ?_; refine yR ?_; refine zP ?_; refine zX (zV ?_); simp only [yX]; rotate_left
    all_goals ((repeat (rename BV _ _ => k; first | cases k | clear k)); try exact zN)
    refine xX (σ3 := σ) ?_
    refine wJ (sz := 8) (.tup (.agg (.here .nil) (.same .nil)) .nil) ?_
    exact zJ .mk
 ·rw [if_pos h0]
  generalize xQ l = e at c1 h0 ⊢
  refine zY (zZ ?_); refine xB ?_; intro _; refine xB ?_; intro _; refine xK ?_; intro _; refine zP ?_; refine zX (zY (zZ ?_)); refine yA ?_; apply zU; rfl; rfl; rfl; (refine yJ ?_; exact c1 _); refine zP ?_; refine zX (zY (zY (zZ ?_))); refine zR ?_; refine zD ?_ ?_ <;> (intro h hp; (try simp only [q_n] at hp); try first | omega | (cases hp; done));
  refine zY (zZ ?_); refine uA ?_; refine zR ?_; refine yR ?_; refine zP ?_; refine zX (zV ?_); simp only [yX]; rotate_left
  all_goals ((repeat (rename BV _ _ => k; first | cases k | clear k)); try exact zN)
  refine xX (σ3 := σ) ?_
  refine wJ (sz := 8) (.tup (.agg (.here .nil) (.same .nil)) .nil) ?_
  exact zJ .mk
theorem with_c (B : List (List Sl)) (L : List Pk) (A : List Ap) (k : Nat) (l : List Sl) (hk : k < B.length) (hB : B.length ≤ 1000) (σ : List Ent) :
  SCall Tryz.prog 92 [.agg (stC B L A), .int .i64 k, .agg (bkC l)] σ (Is (.agg (stC (B.set k l) L A)) σ) := by
 refine zL Tryz.func92 rfl (by simp) ?_
 have hone := bk_one B
 have hkm : k < (B.map bkC).length := by rw [List.length_map]; exact hk
 have hst : (B.set k l).map bkC = (B.map bkC).set k (bkC l) := List.map_set ..
 refine zY (zZ ?_); refine xB ?_; intro _; refine xB ?_; intro _; refine xK ?_; intro _; refine zX (zY (zZ ?_)); refine qS rfl rfl rfl (by exact yV rfl rfl (by decide) rfl rfl (by (simp only [xC, wU]; rfl))) ?_; intro _; refine yG ?_; apply tQ; rfl; rfl; rfl; (apply xG; rfl; rfl; rfl; (intro v'; (exact Upd.here)); (exact .d); (intro y hy; simp only [tC] at hy; (focus (obtain ⟨_, _, rfl⟩ := hy; rfl; done))); (refine wP ?_ (by kernel_rfl); (try simp only [List.length_append, List.length_map, List.length_cons, List.length_nil, List.length_take, List.length_drop]); omega)); intro _; refine uZ ?_; refine yR ?_; refine zX (zY (zZ ?_)); refine yG ?_; refine zR ?_; refine yA ?_; apply zU; rfl; rfl; rfl; (apply yF; rfl; rfl; exact (by repeat first | exact q_h | apply q_t | assumption); rfl; (rfl); (assumption)); apply vT; rfl; rfl; (apply vY; rfl; rfl; rfl; rfl; rfl; rfl; (assumption); (exact Upd.here)); refine zX (zY (zZ ?_)); refine yA ?_; refine yR ?_; refine zX (zV ?_); simp only [yX]; rotate_left
 all_goals ((repeat (rename BV _ _ => k; first | cases k | clear k)); try exact zN)
 rename Value => v
 refine xX (σ3 := .row v 24 1 ((B.map bkC).set k (bkC l)) :: σ) ?_
 rw [← hst]
 exact vV .here (.agg (.here (.same (.same .nil))) .nil) (zJ .mk)
abbrev rbad (e : Int) : AV := .tup [rnd0, .int .i64 e]
theorem rpwrite_c (B : List (List Sl)) (L : List Pk) (A : List Ap) (r : Ps) (hn : B.length ≤ 8) (σ : List Ent) :
  SCall Tryz.prog 54 [.agg (stC B L A), psV r] σ (Is (if 0 ≤ r.a ∧ r.a < B.length ∧ r.s.tab = r.a then (if (vQ (B.getD r.a.toNat []) r.s).2 = 0 then .tup [.agg (stC (B.set r.a.toNat (vQ (B.getD r.a.toNat []) r.s).1) L A), .int .i64 0] else rbad (vQ (B.getD r.a.toNat []) r.s).2) else rbad 1) σ) := by
 refine zL Tryz.func54 rfl (by simp) ?_
 by_cases hc : 0 ≤ r.a ∧ r.a < B.length ∧ r.s.tab = r.a
 ·rw [if_pos hc]
  obtain ⟨k, hkk⟩ : ∃ k : Nat, r.a = k := ⟨r.a.toNat, by omega⟩
  have hkB : k < B.length := by omega
  obtain ⟨l, hl⟩ : ∃ l, B[k]? = some l := yW hkB
  have hgd : B.getD r.a.toNat [] = l := by rw [show r.a.toNat = k by omega, List.getD_eq_getElem?_getD, hl]; rfl
  rw [hgd, show r.a.toNat = k by omega]
  have hg := bk_get hl
  have hw := fun σ => rwrite_c l r.s σ
  have hwi := fun l' σ => with_c B L A k l' hkB (by omega) σ
  rw [← hkk] at hwi
  generalize hW : vQ l r.s = W at hw
  obtain ⟨l', e⟩ := W
  dsimp only at hw ⊢
  by_cases he : e = 0
  ·subst he
   rw [if_pos rfl]
   refine zY (zZ ?_); refine xB ?_; intro _; refine xB ?_; intro _; refine xK ?_; intro _; refine zP ?_; refine zX (zY (zY (zZ ?_))); refine yG ?_; refine xY ?_; intro _ _; refine zR ?_; refine xT ?_ ?_ <;> (intro h hp k; (try subst k); (try simp only [q_n] at hp); try first | omega | (cases hp; done));
   (iterate 2 refine wL ?_); apply yZ; rfl; (rfl); rfl; rfl; (apply xH; rfl; rfl; (exact (List.length_map _).symm)); refine wT ?_; intro _ _; refine yB ?_; refine zR ?_; refine xT ?_ ?_ <;> (intro h hp k; (try subst k); (try simp only [q_n] at hp); try first | omega | (cases hp; done));
   refine yFa ?_; (iterate 2 refine wL ?_); refine wT ?_; intro _ _; refine yB ?_; refine zX (yN ?_ ?_) <;> (intro h hp k; (try subst k); (try simp only [q_n] at hp); try first | omega | (cases hp; done));
   refine zW (zY ?_); rotate_left
   all_goals ((repeat (rename BV _ _ => k; first | cases k | clear k)); try exact zN)
   rename Nat => b4; revert b4; rename Nat => b3; revert b3; rename Nat => b2; revert b2
   intro b2 b3 b4
   refine wA (fun x => x = .cells b2 (stC B L A) 41 ∨ x = .cells b3 (psC r) 45) [12, 13] 14 rfl (by kernel_rfl) rfl ?_
   refine yL ?_; refine tN ?_; refine yL ?_; refine dLd ?_; refine yL ?_; refine tN ?_; refine yL ?_; refine dLd ?_; refine yL ?_; apply yS; rfl; rfl; (intro σ' hl; (apply uG; rfl; rfl; rfl; (assumption); (assumption))); refine yL ?_; refine dLa ?_; refine yL ?_; refine tN ?_; refine yL ?_; refine dLa ?_; refine yL ?_; apply yS; rfl; rfl; (intro σ' hl; (refine yJ ?_; exact hw _)); refine yL ?_; refine tP ?_; refine yL ?_; refine dEx ?_; refine yL ?_; refine dEx ?_; refine yP rfl rfl ?_; refine vC rfl rfl (vK rfl) ?_; intro _; refine yP rfl rfl ?_; apply wF; rfl; rfl; (apply wV; rfl; rfl; rfl; (exact Upd.here); (simp only [tS, q_z, AV.cells]; rfl); rfl; rfl; rfl; exact q_b rfl); (rintro _ (rfl | rfl | rfl) _ <;> exact (by repeat first | exact q_h | apply q_t | assumption)); refine wQ rfl ?_; refine zP ?_; refine zX (zY (zY (zZ ?_))); refine zR ?_; refine zD ?_ ?_ <;> (intro h hp; (try simp only [q_n] at hp); try first | omega | (cases hp; done));
   refine zW (zY (zZ ?_)); refine yA ?_; refine yG ?_; refine yA ?_; apply zU; rfl; rfl; rfl; (refine yJ ?_; exact hwi _ _); refine yR ?_; refine zP ?_; refine zX (zV ?_); simp only [yX]; rotate_left
   all_goals ((repeat (rename BV _ _ => k; first | cases k | clear k)); try exact zN)
   all_goals
    refine xW ?_
    rfl
  ·rw [if_neg he]
   refine zY (zZ ?_); refine xB ?_; intro _; refine xB ?_; intro _; refine xK ?_; intro _; refine zP ?_; refine zX (zY (zY (zZ ?_))); refine yG ?_; refine xY ?_; intro _ _; refine zR ?_; refine xT ?_ ?_ <;> (intro h hp k; (try subst k); (try simp only [q_n] at hp); try first | omega | (cases hp; done));
   (iterate 2 refine wL ?_); apply yZ; rfl; (rfl); rfl; rfl; (apply xH; rfl; rfl; (exact (List.length_map _).symm)); refine wT ?_; intro _ _; refine yB ?_; refine zR ?_; refine xT ?_ ?_ <;> (intro h hp k; (try subst k); (try simp only [q_n] at hp); try first | omega | (cases hp; done));
   refine yFa ?_; (iterate 2 refine wL ?_); refine wT ?_; intro _ _; refine yB ?_; refine zX (yN ?_ ?_) <;> (intro h hp k; (try subst k); (try simp only [q_n] at hp); try first | omega | (cases hp; done));
   refine zW (zY ?_); rotate_left
   all_goals ((repeat (rename BV _ _ => k; first | cases k | clear k)); try exact zN)
   rename Nat => b4; revert b4; rename Nat => b3; revert b3; rename Nat => b2; revert b2
   intro b2 b3 b4
   refine wA (fun x => x = .cells b2 (stC B L A) 41 ∨ x = .cells b3 (psC r) 45) [12, 13] 14 rfl (by kernel_rfl) rfl ?_
   refine yL ?_; refine tN ?_; refine yL ?_; refine dLd ?_; refine yL ?_; refine tN ?_; refine yL ?_; refine dLd ?_; refine yL ?_; apply yS; rfl; rfl; (intro σ' hl; (apply uG; rfl; rfl; rfl; (assumption); (assumption))); refine yL ?_; refine dLa ?_; refine yL ?_; refine tN ?_; refine yL ?_; refine dLa ?_; refine yL ?_; apply yS; rfl; rfl; (intro σ' hl; (refine yJ ?_; exact hw _)); refine yL ?_; refine tP ?_; refine yL ?_; refine dEx ?_; refine yL ?_; refine dEx ?_; refine yP rfl rfl ?_; refine vC rfl rfl (vK rfl) ?_; intro _; refine yP rfl rfl ?_; apply wF; rfl; rfl; (apply wV; rfl; rfl; rfl; (exact Upd.here); (simp only [tS, q_z, AV.cells]; rfl); rfl; rfl; rfl; exact q_b rfl); (rintro _ (rfl | rfl | rfl) _ <;> exact (by repeat first | exact q_h | apply q_t | assumption)); refine wQ rfl ?_; refine zP ?_; refine zX (zY (zY (zZ ?_))); refine zR ?_; refine zD ?_ ?_ <;> (intro h hp; (try simp only [q_n] at hp); try first | omega | (cases hp; done));
   refine zY (zZ ?_); refine uA ?_; refine zR ?_; refine yR ?_; refine zP ?_; refine zX (zV ?_); simp only [yX]; rotate_left
   all_goals ((repeat (rename BV _ _ => k; first | cases k | clear k)); try exact zN)
   all_goals
    refine xW ?_
    rfl
 ·rw [if_neg hc]
  refine zY (zZ ?_); refine xB ?_; intro _; refine xB ?_; intro _; refine xK ?_; intro _; refine zP ?_; refine zX (zY (zY (zZ ?_))); refine yG ?_; refine xY ?_; intro _ _; refine zR ?_; refine xT ?_ ?_ <;> (intro h hp k; (try subst k); (try simp only [q_n] at hp); try first | omega | (cases hp; done));
  (iterate 6 refine yC ?_); refine xF ?_; refine zR ?_; (iterate 6 refine yC ?_); refine xF ?_; refine zX (zG rfl (by rfl) ?_); refine zY (zZ ?_); refine uA ?_; refine yR ?_; refine zP ?_; refine zX (zV ?_); simp only [yX]; rotate_left; (iterate 2 refine wL ?_); apply yZ; rfl; (rfl); rfl; rfl; (apply xH; rfl; rfl; (exact (List.length_map _).symm)); refine wT ?_; intro _ _; refine yB ?_; refine zR ?_; refine xT ?_ ?_ <;> (intro h hp k; (try subst k); (try simp only [q_n] at hp); try first | omega | (cases hp; done));
  (iterate 6 refine yC ?_); refine xF ?_; refine zX (zG rfl (by rfl) ?_); refine zY (zZ ?_); refine uA ?_; refine yR ?_; refine zP ?_; refine zX (zV ?_); simp only [yX]; rotate_left; refine yFa ?_; (iterate 2 refine wL ?_); refine wT ?_; intro _ _; refine yB ?_; refine zX (yN ?_ ?_) <;> (intro h hp k; (try subst k); (try simp only [q_n] at hp); try first | omega | (cases hp; done));
  refine zY (zZ ?_); refine uA ?_; refine yR ?_; refine zP ?_; refine zX (zV ?_); simp only [yX]; rotate_left
  all_goals ((repeat (rename BV _ _ => k; first | cases k | clear k)); try exact zN)
  all_goals (try (exfalso; exact hc ⟨by omega, by omega, by omega⟩))
  all_goals
   refine xW ?_
   rfl
theorem rtell_bad (B : List (List Sl)) (L : List Pk) (A : List Ap) (r : Ps) (hn : B.length ≤ 8) (hc : ¬ (0 ≤ r.a ∧ r.a < B.length ∧ 0 ≤ r.t ∧ r.t < B.length ∧ r.a ≠ r.t)) (σ : List Ent) :
  SCall Tryz.prog 55 [.agg (stC B L A), psV r] σ (Is (rbad 1) σ) := by
 refine zL Tryz.func55 rfl (by simp) ?_
 refine zY (zZ ?_); refine xB ?_; intro _; refine xB ?_; intro _; refine xK ?_; intro _; refine zP ?_; refine zX (zY (zZ ?_)); refine yG ?_; refine wH ?_; refine zP ?_; refine zX (zY (zY (zZ ?_))); refine yG ?_; refine xY ?_; intro _ _; refine zR ?_; refine xT ?_ ?_ <;> (intro h hp k; (try subst k); (try simp only [q_n] at hp); try first | omega | (cases hp; done));
 (iterate 4 refine yC ?_); refine xF ?_; refine zR ?_; (iterate 3 refine yC ?_); refine xF ?_; refine zR ?_; (iterate 4 refine yC ?_); refine xF ?_; refine zR ?_; (iterate 5 refine yC ?_); refine xF ?_; refine zX (zG rfl (by rfl) ?_); refine zY (zZ ?_); refine uA ?_; refine yR ?_; refine zP ?_; refine zX (zV ?_); simp only [yX]; rotate_left; refine wL ?_; refine vN ?_; refine wT ?_; intro _ _; refine yB ?_; refine zR ?_; refine xT ?_ ?_ <;> (intro h hp k; (try subst k); (try simp only [q_n] at hp); try first | omega | (cases hp; done));
 (iterate 3 refine yC ?_); refine xF ?_; refine zR ?_; (iterate 4 refine yC ?_); refine xF ?_; refine zR ?_; (iterate 5 refine yC ?_); refine xF ?_; refine zX (zG rfl (by rfl) ?_); refine zY (zZ ?_); refine uA ?_; refine yR ?_; refine zP ?_; refine zX (zV ?_); simp only [yX]; rotate_left; refine wL ?_; refine wT ?_; intro _ _; refine yB ?_; refine zR ?_; refine xT ?_ ?_ <;> (intro h hp k; (try subst k); (try simp only [q_n] at hp); try first | omega | (cases hp; done));
 (iterate 4 refine yC ?_); refine xF ?_; refine zR ?_; (iterate 5 refine yC ?_); refine xF ?_; refine zX (zG rfl (by rfl) ?_); refine zY (zZ ?_); refine uA ?_; refine yR ?_; refine zP ?_; refine zX (zV ?_); simp only [yX]; rotate_left; refine wL ?_; refine vN ?_; refine wT ?_; intro _ _; refine yB ?_; refine zR ?_; refine xT ?_ ?_ <;> (intro h hp k; (try subst k); (try simp only [q_n] at hp); try first | omega | (cases hp; done));
 (iterate 5 refine yC ?_); refine xF ?_; refine zX (zG rfl (by rfl) ?_); refine zY (zZ ?_); refine uA ?_; refine yR ?_; refine zP ?_; refine zX (zV ?_); simp only [yX]; rotate_left; (iterate 2 refine wL ?_); refine wT ?_; intro _ _; refine yB ?_; refine zX (yN ?_ ?_) <;> (intro h hp k; (try subst k); (try simp only [q_n] at hp); try first | omega | (cases hp; done));
 refine zY (zZ ?_); refine uA ?_; refine yR ?_; refine zP ?_; refine zX (zV ?_); simp only [yX]; rotate_left
 all_goals ((repeat (rename BV _ _ => k; first | cases k | clear k)); try exact zN)
 all_goals (try (exfalso; exact hc ⟨by omega, by omega, by omega, by omega, by omega⟩))
 all_goals
  refine xW ?_
  rfl
theorem rtell_ok (B : List (List Sl)) (L : List Pk) (A : List Ap) (r : Ps) (h0 : NetOk L A) (hAl : A.length ≤ 100000) (hn : B.length ≤ 8) (hok : 0 ≤ r.a ∧ r.a < B.length ∧ 0 ≤ r.t ∧ r.t < B.length ∧ r.a ≠ r.t) (k : Nat) (hk : r.a = k) (l : List Sl) (hB : B[k]? = some l) (hs : ∀ s ∈ l, Sendable s) (hlen : l.length ≤ 512) (σ : List Ent) :
  SCall Tryz.prog 55 [.agg (stC B L A), psV r] σ (Is (if L.length + l.length ≤ 4096 then .tup [.agg (stC B (L ++ l.map (sentP r)) A), .int .i64 0] else rbad 2) σ) := by
 refine zL Tryz.func55 rfl (by simp) ?_
 have hg := bk_get hB
 have hkB := wD hB
 have hokP : ∀ s ∈ l, OkP (sentP r s) := fun s hsl => by
  have h5 := msg_len (hs s hsl)
  exact ⟨hok.1, hok.2.2.1, hok.2.2.2.2, by show r.a < 24; omega, by show r.t < 24; omega, by show (msgS s).length ≤ 1048576; omega⟩
 have hL0 := h0.few
 refine zY (zZ ?_); refine xB ?_; intro _; refine xB ?_; intro _; refine xK ?_; intro _; refine zP ?_; refine zX (zY (zZ ?_)); refine yG ?_; refine wH ?_; refine zP ?_; refine zX (zY (zY (zZ ?_))); refine yG ?_; refine xY ?_; intro _ _; refine zR ?_; refine xT ?_ ?_ <;> (intro h hp k; (try subst k); (try simp only [q_n] at hp); try first | omega | (cases hp; done));
 refine wL ?_; refine vN ?_; refine wT ?_; intro _ _; refine yB ?_; refine zR ?_; refine xT ?_ ?_ <;> (intro h hp k; (try subst k); (try simp only [q_n] at hp); try first | omega | (cases hp; done));
 refine wL ?_; refine wT ?_; intro _ _; refine yB ?_; refine zR ?_; refine xT ?_ ?_ <;> (intro h hp k; (try subst k); (try simp only [q_n] at hp); try first | omega | (cases hp; done));
 refine wL ?_; refine vN ?_; refine wT ?_; intro _ _; refine yB ?_; refine zR ?_; refine xT ?_ ?_ <;> (intro h hp k; (try subst k); (try simp only [q_n] at hp); try first | omega | (cases hp; done));
 (iterate 2 refine wL ?_); refine wT ?_; intro _ _; refine yB ?_; refine zX (yN ?_ ?_) <;> (intro h hp k; (try subst k); (try simp only [q_n] at hp); try first | omega | (cases hp; done));
 refine zW (zY (zZ ?_)); (iterate 2 refine yG ?_); refine vG ?_; refine yG ?_; refine zP ?_; refine zX (zY (zY (zZ ?_))); refine zP ?_; refine zX (zT ?_); rotate_left
 all_goals ((repeat (rename BV _ _ => k; first | cases k | clear k)); try exact zN)
 rename Nat => b4; revert b4; rename Nat => b3; revert b3; rename Nat => b2; revert b2
 intro b2 b3 b4
 clear hg hkB hk hB hn
 refine yD (fun (z : Nat × List Pk) => (⟨[(2, .ptr b2 0), (3, .ptr b3 0), (4, .ptr b4 0), (7, sls l), (8, .int .i64 z.1)], .cells b4 [.slv nilS, .slv nilS, .slv nilS] 41 :: .cells b3 (psC r) 45 :: .cells b2 (stC B z.2 A) 41 :: σ, [], Tryz.f55.ntmps⟩ : St)) (fun z => (z.1 ≤ l.length ∧ L.length + z.1 ≤ 4096) ∧ z.2 = L ++ (l.take z.1).map (sentP r)) (fun z => l.length - z.1) (0, L) (⟨⟨Nat.zero_le _, h0.few⟩, (List.append_nil L).symm⟩) (St.le_of (by repeat (first | exact trivial | refine ⟨rfl, ?_⟩)) (by repeat (first | exact q_r | apply q_q | apply q_k))) ?_
 intro z hI
 obtain ⟨k, T0⟩ := z
 obtain ⟨⟨hI1, hI2⟩, hI3⟩ := hI
 dsimp only at hI1 hI2 hI3 ⊢
 subst hI3
 by_cases hkl : k < l.length
 ·obtain ⟨s, hsk⟩ : ∃ s, l[k]? = some s := yW hkl
  have hmem := List.mem_of_getElem? hsk
  have hmg := fun σ => rmessage_c s (hs s hmem) σ
  have hnext : L ++ (l.take (k + 1)).map (sentP r) = (L ++ (l.take k).map (sentP r)) ++ [sentP r s] := by rw [List.take_add_one, hsk, List.map_append, List.append_assoc]; rfl
  have hTl : (L ++ (l.take k).map (sentP r)).length = L.length + k := by rw [List.length_append, List.length_map, List.length_take]; omega
  have hTok : NetOk (L ++ (l.take k).map (sentP r)) A := ⟨by omega, fun p hp => (by
   rcases List.mem_append.1 hp with hp | hp
   ·exact h0.pk p hp
   ·obtain ⟨x, hx, rfl⟩ := List.mem_map.1 hp
    exact hokP x (List.mem_of_mem_take hx)), h0.ap⟩
  have hsd := fun σ => send_r _ A hTok hAl (sentP r s) (hokP s hmem) σ
  have hgs := uH hsk
  unfold sendR at hsd
  rw [hTl] at hsd
  clear h0 hs hokP hTok hTl hmem hsk hok
  generalize L ++ (l.take k).map (sentP r) = T at hsd hnext ⊢
  by_cases he : L.length + k = 4096
  ·rw [if_pos he] at hsd
   rw [if_neg (by omega)]
   refine zY (zY (zZ ?_)); (iterate 2 refine zR ?_); refine wH ?_; refine zD ?_ ?_ <;> (intro h hp; (try simp only [q_n] at hp); try first | omega | (cases hp; done));
   refine zW (zY (zT ?_)); refine zY ?_; rotate_left
   all_goals ((repeat (rename BV _ _ => k; first | cases k | clear k)); try exact zN)
   refine wA (fun x => x = .cells b3 (psC r) 45 ∨ x = .cells b2 (stC B T A) 41) [16, 17] 18 rfl (by kernel_rfl) rfl ?_
   refine yL ?_; refine tN ?_; refine yL ?_; refine dLa ?_; refine yL ?_; refine tN ?_; refine yL ?_; refine dLd ?_; refine yL ?_; refine tN ?_; refine yL ?_; refine dLd ?_; refine yL ?_; refine tP ?_; refine yL ?_; refine tP ?_; refine yL ?_; apply yS; rfl; rfl; (intro σ' hl; (apply uG; rfl; rfl; rfl; (rfl); (assumption))); refine yL ?_; refine dLa ?_; refine yL ?_; apply yS; rfl; rfl; (intro σ' hl; (refine yJ ?_; exact hmg _)); refine yL ?_; apply yS; rfl; rfl; (intro σ' hl; (apply tK <;> rfl)); refine yL ?_; apply yS; rfl; rfl; (intro σ' hl; (refine yJ ?_; exact hsd _)); refine yL ?_; refine tP ?_; refine yL ?_; refine dEx ?_; refine yL ?_; refine dEx ?_; refine yP rfl rfl ?_; refine vC rfl rfl (vK rfl) ?_; intro _; refine yP rfl rfl ?_; apply wF; rfl; rfl; (apply wV; rfl; rfl; rfl; (exact Upd.here); (simp only [tS, q_z, AV.cells]; rfl); rfl; rfl; rfl; exact q_b rfl); (rintro _ (rfl | rfl | rfl) _ <;> exact (by repeat first | exact q_h | apply q_t | assumption)); refine wQ rfl ?_; refine zP ?_; refine zX (zY (zY (zZ ?_))); refine zR ?_; refine zD ?_ ?_ <;> (intro h hp; (try simp only [q_n] at hp); try first | omega | (cases hp; done));
   refine zY (zZ ?_); refine uA ?_; refine zR ?_; refine yR ?_; refine zP ?_; refine zX (zV ?_); simp only [yX]; rotate_left
   all_goals ((repeat (rename BV _ _ => k; first | cases k | clear k)); try exact zN)
   all_goals
    refine xW ?_
    rfl
  ·rw [if_neg he] at hsd
   refine zY (zY (zZ ?_)); (iterate 2 refine zR ?_); refine wH ?_; refine zD ?_ ?_ <;> (intro h hp; (try simp only [q_n] at hp); try first | omega | (cases hp; done));
   refine zW (zY (zT ?_)); refine zY ?_; rotate_left
   all_goals ((repeat (rename BV _ _ => k; first | cases k | clear k)); try exact zN)
   refine wA (fun x => x = .cells b3 (psC r) 45 ∨ x = .cells b2 (stC B T A) 41) [16, 17] 18 rfl (by kernel_rfl) rfl ?_
   refine yL ?_; refine tN ?_; refine yL ?_; refine dLa ?_; refine yL ?_; refine tN ?_; refine yL ?_; refine dLd ?_; refine yL ?_; refine tN ?_; refine yL ?_; refine dLd ?_; refine yL ?_; refine tP ?_; refine yL ?_; refine tP ?_; refine yL ?_; apply yS; rfl; rfl; (intro σ' hl; (apply uG; rfl; rfl; rfl; (rfl); (assumption))); refine yL ?_; refine dLa ?_; refine yL ?_; apply yS; rfl; rfl; (intro σ' hl; (refine yJ ?_; exact hmg _)); refine yL ?_; apply yS; rfl; rfl; (intro σ' hl; (apply tK <;> rfl)); refine yL ?_; apply yS; rfl; rfl; (intro σ' hl; (refine yJ ?_; exact hsd _)); refine yL ?_; refine tP ?_; refine yL ?_; refine dEx ?_; refine yL ?_; refine dEx ?_; refine yP rfl rfl ?_; refine vC rfl rfl (vK rfl) ?_; intro _; refine yP rfl rfl ?_; apply wF; rfl; rfl; (apply wV; rfl; rfl; rfl; (exact Upd.here); (simp only [tS, q_z, AV.cells]; rfl); rfl; rfl; rfl; exact q_b rfl); (rintro _ (rfl | rfl | rfl) _ <;> exact (by repeat first | exact q_h | apply q_t | assumption)); refine wQ rfl ?_; refine zP ?_; refine zX (zY (zY (zZ ?_))); refine zR ?_; refine zD ?_ ?_ <;> (intro h hp; (try simp only [q_n] at hp); try first | omega | (cases hp; done));
   refine zW (zZ (yA ?_)); refine uZ ?_; refine yR ?_; refine zQ (zZ (zR ?_)); refine vX ?_; refine zP ?_; refine zQ ?_; simp only [zA, zF, zE, zH, yK, ↓reduceIte, Nat.reduceEqDiff]; rotate_left
   all_goals ((repeat (rename BV _ _ => k; first | cases k | clear k)); try exact zN)
   all_goals
    refine ⟨(k + 1, T ++ [sentP r s]), ⟨⟨hkl, by dsimp only; omega⟩, hnext.symm⟩, by dsimp only; omega, ?_⟩
    exact wW
 ·have e : k = l.length := by omega
  subst e
  rw [List.take_length, if_pos hI2]
  refine zY (zY (zZ ?_)); (iterate 2 refine zR ?_); refine wH ?_; refine zD ?_ ?_ <;> (intro h hp; (try simp only [q_n] at hp); try first | omega | (cases hp; done));
  refine yQ ?_; refine zY (zZ ?_); refine yA ?_; refine yR ?_; refine zP ?_; refine zX (zV ?_); simp only [yX]; rotate_left
  all_goals ((repeat (rename BV _ _ => k; first | cases k | clear k)); try exact zN)
  refine xW ?_
  rfl
theorem rlinks_out (B : List (List Sl)) (L : List Pk) (A : List Ap) (r : Ps) (h0 : NetOk L A) (hAl : A.length ≤ 100000) (ho : r.i < 0 ∨ (L.length : Int) ≤ r.i) (hk : r.k = 4 ∨ r.k = 5) (σ : List Ent) :
  SCall Tryz.prog 57 [.agg (stC B L A), psV r] σ (Is (rbad 1) σ) := by
 refine zL Tryz.func57 rfl (by simp) ?_
 have h1 := fun σ => lose_ro L A h0 hAl r.i ho σ
 have h2 := fun σ => repeat_ro L A h0 hAl r.i ho σ
 clear h0 ho
 refine zY (zZ ?_); refine xB ?_; intro _; refine xB ?_; intro _; refine xK ?_; intro _; refine zP ?_; refine zX (zY (zZ ?_)); refine uA ?_; refine xK ?_; intro _; refine yR ?_; refine zX (zY (zZ ?_)); refine zP ?_; refine zX (zY (zY (zZ ?_))); refine yG ?_; refine zD ?_ ?_ <;> (intro h hp; (try simp only [q_n] at hp); try first | omega | (cases hp; done));
 refine zZ (uZ ?_); refine yA ?_; refine yG ?_; apply zU; rfl; rfl; rfl; (refine yJ ?_; exact h1 _); refine zR ?_; (iterate 2 refine tG ?_); refine yR ?_; refine zP ?_; refine zX (zY (zY (zZ ?_))); refine zR ?_; refine zD ?_ ?_ <;> (intro h hp; (try simp only [q_n] at hp); try first | omega | (cases hp; done));
 refine zY (zZ ?_); refine uA ?_; refine zR ?_; refine yR ?_; refine zP ?_; refine zX (zV ?_); simp only [yX]; rotate_left; refine zZ (uZ ?_); refine yA ?_; refine yG ?_; apply zU; rfl; rfl; rfl; (refine yJ ?_; exact h2 _); refine zR ?_; (iterate 2 refine tG ?_); refine yR ?_; refine zP ?_; refine zX (zY (zY (zZ ?_))); refine zR ?_; refine zD ?_ ?_ <;> (intro h hp; (try simp only [q_n] at hp); try first | omega | (cases hp; done));
 refine zY (zZ ?_); refine uA ?_; refine zR ?_; refine yR ?_; refine zP ?_; refine zX (zV ?_); simp only [yX]; rotate_left
 all_goals ((repeat (rename BV _ _ => k; first | cases k | clear k)); try exact zN)
 all_goals
  refine xW ?_
  rfl
theorem rlinks_lose (B : List (List Sl)) (L : List Pk) (A : List Ap) (r : Ps) (h0 : NetOk L A) (hAl : A.length ≤ 100000) (k : Nat) (hlt : k < L.length) (hi : r.i = k) (hk : r.k = 4) (σ : List Ent) :
  SCall Tryz.prog 57 [.agg (stC B L A), psV r] σ (Is (.tup [.agg (stC B (L.eraseIdx k) A), .int .i64 0]) σ) := by
 refine zL Tryz.func57 rfl (by simp) ?_
 have h1 := fun σ => lose_ri L A h0 hAl k hlt σ
 rw [← hi] at h1
 clear h0 hlt
 refine zY (zZ ?_); refine xB ?_; intro _; refine xB ?_; intro _; refine xK ?_; intro _; refine zP ?_; refine zX (zY (zZ ?_)); refine uA ?_; refine xK ?_; intro _; refine yR ?_; refine zX (zY (zZ ?_)); refine zP ?_; refine zX (zY (zY (zZ ?_))); refine yG ?_; refine zD ?_ ?_ <;> (intro h hp; (try simp only [q_n] at hp); try first | omega | (cases hp; done));
 refine zZ (uZ ?_); refine yA ?_; refine yG ?_; apply zU; rfl; rfl; rfl; (refine yJ ?_; exact h1 _); refine zR ?_; (iterate 2 refine tG ?_); refine yR ?_; refine zP ?_; refine zX (zY (zY (zZ ?_))); refine zR ?_; refine zD ?_ ?_ <;> (intro h hp; (try simp only [q_n] at hp); try first | omega | (cases hp; done));
 refine zW (zY (zZ ?_)); refine yA ?_; refine uZ ?_; refine yR ?_; refine zX (zY (zZ ?_)); refine yA ?_; refine yR ?_; refine zP ?_; refine zX (zV ?_); simp only [yX]; rotate_left
 all_goals ((repeat (rename BV _ _ => k; first | cases k | clear k)); try exact zN)
 refine xW ?_
 rfl
theorem rlinks_repeat (B : List (List Sl)) (L : List Pk) (A : List Ap) (r : Ps) (h0 : NetOk L A) (hAl : A.length ≤ 100000) (k : Nat) (p : Pk) (hpk : L[k]? = some p) (hi : r.i = k) (hk : r.k = 5) (σ : List Ent) :
  SCall Tryz.prog 57 [.agg (stC B L A), psV r] σ (Is (if L.length = 4096 then rbad 2 else .tup [.agg (stC B (L ++ [p]) A), .int .i64 0]) σ) := by
 refine zL Tryz.func57 rfl (by simp) ?_
 have h1 := fun σ => repeat_ri L A h0 hAl k p hpk σ
 rw [← hi] at h1
 unfold sendR at h1
 clear h0 hpk
 by_cases he : L.length = 4096
 ·rw [if_pos he] at h1 ⊢
  refine zY (zZ ?_); refine xB ?_; intro _; refine xB ?_; intro _; refine xK ?_; intro _; refine zP ?_; refine zX (zY (zZ ?_)); refine uA ?_; refine xK ?_; intro _; refine yR ?_; refine zX (zY (zZ ?_)); refine zP ?_; refine zX (zY (zY (zZ ?_))); refine yG ?_; refine zD ?_ ?_ <;> (intro h hp; (try simp only [q_n] at hp); try first | omega | (cases hp; done));
  refine zZ (uZ ?_); refine yA ?_; refine yG ?_; apply zU; rfl; rfl; rfl; (refine yJ ?_; exact h1 _); refine zR ?_; (iterate 2 refine tG ?_); refine yR ?_; refine zP ?_; refine zX (zY (zY (zZ ?_))); refine zR ?_; refine zD ?_ ?_ <;> (intro h hp; (try simp only [q_n] at hp); try first | omega | (cases hp; done));
  refine zY (zZ ?_); refine uA ?_; refine zR ?_; refine yR ?_; refine zP ?_; refine zX (zV ?_); simp only [yX]; rotate_left
  all_goals ((repeat (rename BV _ _ => k; first | cases k | clear k)); try exact zN)
  refine xW ?_
  rfl
 ·rw [if_neg he] at h1 ⊢
  refine zY (zZ ?_); refine xB ?_; intro _; refine xB ?_; intro _; refine xK ?_; intro _; refine zP ?_; refine zX (zY (zZ ?_)); refine uA ?_; refine xK ?_; intro _; refine yR ?_; refine zX (zY (zZ ?_)); refine zP ?_; refine zX (zY (zY (zZ ?_))); refine yG ?_; refine zD ?_ ?_ <;> (intro h hp; (try simp only [q_n] at hp); try first | omega | (cases hp; done));
  refine zZ (uZ ?_); refine yA ?_; refine yG ?_; apply zU; rfl; rfl; rfl; (refine yJ ?_; exact h1 _); refine zR ?_; (iterate 2 refine tG ?_); refine yR ?_; refine zP ?_; refine zX (zY (zY (zZ ?_))); refine zR ?_; refine zD ?_ ?_ <;> (intro h hp; (try simp only [q_n] at hp); try first | omega | (cases hp; done));
  refine zW (zY (zZ ?_)); refine yA ?_; refine uZ ?_; refine yR ?_; refine zX (zY (zZ ?_)); refine yA ?_; refine yR ?_; refine zP ?_; refine zX (zV ?_); simp only [yX]; rotate_left
  all_goals ((repeat (rename BV _ _ => k; first | cases k | clear k)); try exact zN)
  refine xW ?_
  rfl
theorem rdeliver_out (B : List (List Sl)) (L : List Pk) (A : List Ap) (r : Ps) (h0 : NetOk L A) (hAl : A.length ≤ 100000) (ho : r.i < 0 ∨ (L.length : Int) ≤ r.i) (σ : List Ent) :
  SCall Tryz.prog 56 [.agg (stC B L A), psV r] σ (Is (rbad 1) σ) := by
 refine zL Tryz.func56 rfl (by simp) ?_
 have h1 := fun σ => deliver_ro L A h0 hAl r.i ho σ
 clear h0 ho
 refine zY (zZ ?_); refine xB ?_; intro _; refine xB ?_; intro _; refine xK ?_; intro _; refine zP ?_; refine zX (zY (zZ ?_)); refine uZ ?_; refine yA ?_; refine yG ?_; apply zU; rfl; rfl; rfl; (refine yJ ?_; exact h1 _); refine zR ?_; (iterate 3 refine tG ?_); refine xK ?_; intro _; refine xK ?_; intro _; (iterate 2 refine yR ?_); refine zP ?_; refine zX (zY (zY (zZ ?_))); refine zR ?_; refine zD ?_ ?_ <;> (intro h hp; (try simp only [q_n] at hp); try first | omega | (cases hp; done));
 refine zY (zZ ?_); refine uA ?_; refine zR ?_; refine yR ?_; refine zP ?_; refine zX (zV ?_); simp only [yX]; rotate_left
 all_goals ((repeat (rename BV _ _ => k; first | cases k | clear k)); try exact zN)
 all_goals
  refine xW ?_
  rfl
theorem rdeliver_cut (B : List (List Sl)) (L : List Pk) (A : List Ap) (r : Ps) (h0 : NetOk L A) (hAl : A.length ≤ 100000) (k : Nat) (p : Pk) (hk : L[k]? = some p) (hi : r.i = k) (hcut : cutB A p.f p.t = true) (σ : List Ent) :
  SCall Tryz.prog 56 [.agg (stC B L A), psV r] σ (Is (.tup [.agg (stC B (L.eraseIdx k) A), .int .i64 0]) σ) := by
 refine zL Tryz.func56 rfl (by simp) ?_
 have h1 := fun σ => deliver_ri L A h0 hAl k p hk σ
 rw [hcut, if_pos rfl, ← hi] at h1
 clear h0 hk
 refine zY (zZ ?_); refine xB ?_; intro _; refine xB ?_; intro _; refine xK ?_; intro _; refine zP ?_; refine zX (zY (zZ ?_)); refine uZ ?_; refine yA ?_; refine yG ?_; apply zU; rfl; rfl; rfl; (refine yJ ?_; exact h1 _); refine zR ?_; (iterate 3 refine tG ?_); refine xK ?_; intro _; refine xK ?_; intro _; (iterate 2 refine yR ?_); refine zP ?_; refine zX (zY (zY (zZ ?_))); refine zR ?_; refine zD ?_ ?_ <;> (intro h hp; (try simp only [q_n] at hp); try first | omega | (cases hp; done));
 refine zW (zY (zZ ?_)); refine yA ?_; refine uZ ?_; refine yR ?_; refine zX (zY (zY (zZ ?_))); (iterate 2 refine yG ?_); refine zD ?_ ?_ <;> (intro h hp; (try simp only [q_n] at hp); try first | omega | (cases hp; done));
 refine zY (zZ ?_); refine yA ?_; refine yR ?_; refine zP ?_; refine zX (zV ?_); simp only [yX]; rotate_left
 all_goals ((repeat (rename BV _ _ => k; first | cases k | clear k)); try exact zN)
 refine xW ?_
 rfl
theorem rdeliver_in (B : List (List Sl)) (L : List Pk) (A : List Ap) (r : Ps) (h0 : NetOk L A) (hAl : A.length ≤ 100000) (hn : B.length ≤ 8) (k t : Nat) (p : Pk) (hk : L[k]? = some p) (hi : r.i = k) (hcut : cutB A p.f p.t = false) (s : Sl) (hs : Sendable s) (hd : p.d = msgS s) (ht : p.t = (t : Int)) (l : List Sl) (hB : B[t]? = some l) (hck : xQ l = 0) (σ : List Ent) :
  SCall Tryz.prog 56 [.agg (stC B L A), psV r] σ (Is (.tup [.agg (stC (B.set t (heardS l s)) (L.eraseIdx k) A), .int .i64 0]) σ) := by
 refine zL Tryz.func56 rfl (by simp) ?_
 have h1 := fun σ => deliver_ri L A h0 hAl k p hk σ
 rw [hcut, if_neg (by decide), ← hi] at h1
 have hne := (h0.pk p (List.mem_of_getElem? hk)).ne
 have hrd : ∀ σ, SCall Tryz.prog 89 [bys p.d] σ (Is (.tup [slV s, .bool true]) σ) := fun σ => by
  have := rread_c p.d (by rw [hd]; exact msg_bytes) (by rw [hd]; have := msg_len hs; omega) σ
  unfold rdR at this
  rwa [hd, slipD_msg hs, ← hd] at this
 have hlen := (check_zero.1 hck).1
 have hup := (uC hck).up
 have hm := fun σ => many_r l s.tab (by omega) σ
 have hput := fun σ => rput_c l s hup (by omega) σ
 have hv := fun σ => rvalid_c (uT l s) σ
 have htB := wD hB
 have hg := bk_get hB
 have hw := fun l' σ => with_c B (L.eraseIdx k) A t l' htB (by omega) σ
 rw [← ht] at hw
 have hz : xQ (uT l s) = 0 ↔ (uT l s).length ≤ 512 ∧ qN (uT l s) = true := check_zero
 have hkeep : B.set t l = B := by
  refine List.ext_getElem? fun j => ?_
  rw [List.getElem?_set]
  split
  ·rename_i e; subst e; rw [hB]
  ·rfl
 clear h0 hk hs hd hup hB
 by_cases hq : s.seq = (uJ l s.tab : Nat)
 ·by_cases hc : xQ (uT l s) = 0
  ·rw [show heardS l s = uT l s from if_pos ⟨hq, hc⟩]
   obtain ⟨z1, z2⟩ := hz.1 hc
   rw [z2] at hv
   clear hkeep hz hc
   generalize uT l s = P at hput hv z1 z2 ⊢
   have z3 : decide (((P.length : Nat) : Int) > 512) = false := decide_eq_false (by omega)
   refine zY (zZ ?_); refine xB ?_; intro _; refine xB ?_; intro _; refine xK ?_; intro _; refine zP ?_; refine zX (zY (zZ ?_)); refine uZ ?_; refine yA ?_; refine yG ?_; apply zU; rfl; rfl; rfl; (refine yJ ?_; exact h1 _); refine zR ?_; (iterate 3 refine tG ?_); refine xK ?_; intro _; refine xK ?_; intro _; (iterate 2 refine yR ?_); refine zP ?_; refine zX (zY (zY (zZ ?_))); refine zR ?_; refine zD ?_ ?_ <;> (intro h hp; (try simp only [q_n] at hp); try first | omega | (cases hp; done));
   refine zW (zY (zZ ?_)); refine yA ?_; refine uZ ?_; refine yR ?_; refine zX (zY (zY (zZ ?_))); (iterate 2 refine yG ?_); refine zD ?_ ?_ <;> (intro h hp; (try simp only [q_n] at hp); try first | omega | (cases hp; done));
   refine zW (zY (zZ ?_)); refine yG ?_; apply zU; rfl; rfl; rfl; (refine yJ ?_; exact hrd _); refine zR ?_; (iterate 2 refine tG ?_); refine xK ?_; intro _; refine yR ?_; refine zP ?_; refine zX (zY (zZ ?_)); (iterate 2 refine yG ?_); refine vG ?_; refine yA ?_; refine xK ?_; intro _; refine yR ?_; refine zX (zY (zY ?_)); rotate_left
   all_goals ((repeat (rename BV _ _ => k; first | cases k | clear k)); try exact zN)
   refine xN anyK 8 [] rfl (by kernel_rfl) rfl ?_
   simp only [wU]
   refine vR ?_; refine vW ?_; refine vR ?_; refine vW ?_; refine vR ?_; refine vW ?_; apply yY; rfl; rfl; rfl; (intro σ' hl; (refine yJ ?_; exact hm _)); refine wBi ?_; intro _ _; refine zC (zX (yN ?_ ?_)) <;> (intro h hp k; (try subst k); (try simp only [q_n] at hp); try first | omega | (cases hp; done));
   refine zW (zY (zZ ?_)); refine yG ?_; refine yA ?_; apply zU; rfl; rfl; rfl; (refine yJ ?_; exact hput _); refine zP ?_; refine zX (zY (zY (zZ ?_))); refine zR ?_; refine wH ?_; refine xY ?_; intro _ _; refine zR ?_; refine xT ?_ ?_ <;> (intro h hp k; (try subst k); (try simp only [q_n] at hp); try first | omega | (cases hp; done));
   refine vN ?_; apply xR; rfl; (rfl); rfl; rfl; (refine yJ ?_; exact hv _); intro _ _; refine yNo ?_; intro _ _; refine yB ?_; refine zX (yN ?_ ?_) <;> (intro h hp k; (try subst k); (try simp only [q_n] at hp); try first | omega | (cases hp; done));
   refine zY (zZ ?_); refine yA ?_; refine yR ?_; refine zP ?_; refine zX (zV ?_); simp only [yX]; rotate_left; refine zW (zY (zZ ?_)); refine yA ?_; refine yG ?_; refine zR ?_; refine uA ?_; apply zU; rfl; rfl; rfl; (refine yJ ?_; exact hw _ _); refine yR ?_; refine zP ?_; refine zX (zV ?_); simp only [yX]; rotate_left
   all_goals ((repeat (rename BV _ _ => k; first | cases k | clear k)); try exact zN)
   refine xW ?_
   rfl
  ·rw [show heardS l s = l from if_neg (fun h => hc h.2), hkeep]
   have hno : ¬ ((uT l s).length ≤ 512 ∧ qN (uT l s) = true) := fun h => hc (hz.2 h)
   clear hkeep hz hc hw
   generalize uT l s = P at hput hv hno
   generalize qN P = q at hv hno
   refine zY (zZ ?_); refine xB ?_; intro _; refine xB ?_; intro _; refine xK ?_; intro _; refine zP ?_; refine zX (zY (zZ ?_)); refine uZ ?_; refine yA ?_; refine yG ?_; apply zU; rfl; rfl; rfl; (refine yJ ?_; exact h1 _); refine zR ?_; (iterate 3 refine tG ?_); refine xK ?_; intro _; refine xK ?_; intro _; (iterate 2 refine yR ?_); refine zP ?_; refine zX (zY (zY (zZ ?_))); refine zR ?_; refine zD ?_ ?_ <;> (intro h hp; (try simp only [q_n] at hp); try first | omega | (cases hp; done));
   refine zW (zY (zZ ?_)); refine yA ?_; refine uZ ?_; refine yR ?_; refine zX (zY (zY (zZ ?_))); (iterate 2 refine yG ?_); refine zD ?_ ?_ <;> (intro h hp; (try simp only [q_n] at hp); try first | omega | (cases hp; done));
   refine zW (zY (zZ ?_)); refine yG ?_; apply zU; rfl; rfl; rfl; (refine yJ ?_; exact hrd _); refine zR ?_; (iterate 2 refine tG ?_); refine xK ?_; intro _; refine yR ?_; refine zP ?_; refine zX (zY (zZ ?_)); (iterate 2 refine yG ?_); refine vG ?_; refine yA ?_; refine xK ?_; intro _; refine yR ?_; refine zX (zY (zY ?_)); rotate_left
   all_goals ((repeat (rename BV _ _ => k; first | cases k | clear k)); try exact zN)
   refine xN anyK 8 [] rfl (by kernel_rfl) rfl ?_
   simp only [wU]
   refine vR ?_; refine vW ?_; refine vR ?_; refine vW ?_; refine vR ?_; refine vW ?_; apply yY; rfl; rfl; rfl; (intro σ' hl; (refine yJ ?_; exact hm _)); refine wBi ?_; intro _ _; refine zC (zX (yN ?_ ?_)) <;> (intro h hp k; (try subst k); (try simp only [q_n] at hp); try first | omega | (cases hp; done));
   refine zW (zY (zZ ?_)); refine yG ?_; refine yA ?_; apply zU; rfl; rfl; rfl; (refine yJ ?_; exact hput _); refine zP ?_; refine zX (zY (zY (zZ ?_))); refine zR ?_; refine wH ?_; refine xY ?_; intro _ _; refine zR ?_; refine xT ?_ ?_ <;> (intro h hp k; (try subst k); (try simp only [q_n] at hp); try first | omega | (cases hp; done));
   (iterate 3 refine yC ?_); refine xF ?_; refine zX (zG rfl (by rfl) ?_); refine zY (zZ ?_); refine yA ?_; refine yR ?_; refine zP ?_; refine zX (zV ?_); simp only [yX]; rotate_left; refine vN ?_; apply xR; rfl; (rfl); rfl; rfl; (refine yJ ?_; exact hv _); intro _ _; refine yNo ?_; intro _ _; refine yB ?_; refine zX (yN ?_ ?_) <;> (intro h hp k; (try subst k); (try simp only [q_n] at hp); try first | omega | (cases hp; done));
   refine zY (zZ ?_); refine yA ?_; refine yR ?_; refine zP ?_; refine zX (zV ?_); simp only [yX]; rotate_left; refine zW (zY (zZ ?_)); refine yA ?_; refine yG ?_; refine zR ?_; refine uA ?_; simp only [zA, zF, zE, zH, yK, ↓reduceIte, Nat.reduceEqDiff]; rotate_left
   all_goals ((repeat (rename BV _ _ => k; first | cases k | clear k)); try exact zN)
   all_goals (try (exfalso; exact hno ⟨by omega, by assumption⟩))
   all_goals
    refine xW ?_
    rfl
 ·rw [show heardS l s = l from if_neg (fun h => hq h.1), hkeep]
  clear hkeep hz hw hput hv
  refine zY (zZ ?_); refine xB ?_; intro _; refine xB ?_; intro _; refine xK ?_; intro _; refine zP ?_; refine zX (zY (zZ ?_)); refine uZ ?_; refine yA ?_; refine yG ?_; apply zU; rfl; rfl; rfl; (refine yJ ?_; exact h1 _); refine zR ?_; (iterate 3 refine tG ?_); refine xK ?_; intro _; refine xK ?_; intro _; (iterate 2 refine yR ?_); refine zP ?_; refine zX (zY (zY (zZ ?_))); refine zR ?_; refine zD ?_ ?_ <;> (intro h hp; (try simp only [q_n] at hp); try first | omega | (cases hp; done));
  refine zW (zY (zZ ?_)); refine yA ?_; refine uZ ?_; refine yR ?_; refine zX (zY (zY (zZ ?_))); (iterate 2 refine yG ?_); refine zD ?_ ?_ <;> (intro h hp; (try simp only [q_n] at hp); try first | omega | (cases hp; done));
  refine zW (zY (zZ ?_)); refine yG ?_; apply zU; rfl; rfl; rfl; (refine yJ ?_; exact hrd _); refine zR ?_; (iterate 2 refine tG ?_); refine xK ?_; intro _; refine yR ?_; refine zP ?_; refine zX (zY (zZ ?_)); (iterate 2 refine yG ?_); refine vG ?_; refine yA ?_; refine xK ?_; intro _; refine yR ?_; refine zX (zY (zY ?_)); rotate_left
  all_goals ((repeat (rename BV _ _ => k; first | cases k | clear k)); try exact zN)
  refine xN anyK 8 [] rfl (by kernel_rfl) rfl ?_
  simp only [wU]
  refine vR ?_; refine vW ?_; refine vR ?_; refine vW ?_; refine vR ?_; refine vW ?_; apply yY; rfl; rfl; rfl; (intro σ' hl; (refine yJ ?_; exact hm _)); refine wBi ?_; intro _ _; refine zC (zX (yN ?_ ?_)) <;> (intro h hp k; (try subst k); (try simp only [q_n] at hp); try first | omega | (cases hp; done));
  refine zY (zZ ?_); refine yA ?_; refine yR ?_; refine zP ?_; refine zX (zV ?_); simp only [yX]; rotate_left
  all_goals ((repeat (rename BV _ _ => k; first | cases k | clear k)); try exact zN)
  all_goals
   refine xW ?_
   rfl
theorem rround_ok {B : List (List Sl)} {L : List Pk} {A : List Ap} (h : Rt B L A) (hbl : ∀ l ∈ B, l.length ≤ 1000) (hAl : A.length ≤ 100000) (σ : List Ent) : SCall Tryz.prog 53 [.agg (stC B L A)] σ (Is (.bool true) σ) :=
 uY (rround_c B L A h.right.2 (by have := h.n8; omega) hbl (by have := h.few; omega) hAl σ) fun v τ ⟨h1, h2⟩ => by
  rcases h2 with ⟨_, rfl⟩ | ⟨h3, _⟩
  ·subst h1; exact .mk
  ·exact absurd h.right.1 h3
theorem rdo_bad (B : List (List Sl)) (L : List Pk) (A : List Ap) (r : Ps) (hs : Small L) (hBl : B.length ≤ 1000) (hbl : ∀ l ∈ B, l.length ≤ 1000) (hLl : L.length ≤ 100000) (hAl : A.length ≤ 100000) (h : ¬ RightA B L A) (σ : List Ent) :
  SCall Tryz.prog 21 [.agg (stC B L A), psV r] σ (Is (rbad 540) σ) := by
 refine zL Tryz.func21 rfl (by simp) ?_
 have hr : ∀ σ, SCall Tryz.prog 53 [.agg (stC B L A)] σ (Is (.bool false) σ) := fun σ =>
  uY (rround_c B L A hs hBl hbl hLl hAl σ) fun v τ ⟨h1, h2⟩ => by
   rcases h2 with ⟨h3, _⟩ | ⟨_, rfl⟩
   ·exact absurd h3 h
   ·subst h1; exact .mk
 clear hs h hbl
 refine zY (zZ ?_); refine xB ?_; intro _; refine xB ?_; intro _; refine xK ?_; intro _; refine zP ?_; refine zX (zY (zY (zZ ?_))); refine yA ?_; apply yE; rfl; rfl; rfl; (refine yJ ?_; exact hr _); intro _ _; refine qY ?_; intro _ _; refine zX (yN ?_ ?_) <;> (intro h hp k; (try subst k); (try simp only [q_n] at hp); try first | omega | (cases hp; done));
 refine zY (zZ ?_); refine uA ?_; refine yR ?_; refine zP ?_; refine zX (zV ?_); simp only [yX]; rotate_left; refine zW (zY (zY (zZ ?_))); refine yG ?_; refine zX (zT ?_); refine zY (zZ ?_); refine xY ?_; intro _ _; refine zP ?_; refine zX (yN ?_ ?_) <;> (intro h hp k; (try subst k); (try simp only [q_n] at hp); try first | omega | (cases hp; done));
 refine zY (zZ ?_); (iterate 2 refine yA ?_); rotate_left; refine zY (zZ ?_); refine xY ?_; intro _ _; refine zP ?_; refine zX (yN ?_ ?_) <;> (intro h hp k; (try subst k); (try simp only [q_n] at hp); try first | omega | (cases hp; done));
 refine zY (zZ ?_); (iterate 2 refine yA ?_); rotate_left; refine zY (zZ ?_); refine xY ?_; intro _ _; refine zP ?_; refine zX (yN ?_ ?_) <;> (intro h hp k; (try subst k); (try simp only [q_n] at hp); try first | omega | (cases hp; done));
 refine zY (zZ ?_); (iterate 2 refine yA ?_); rotate_left; refine zY (zY (zZ ?_)); refine xY ?_; intro _ _; refine zP ?_; refine zX (yN ?_ ?_) <;> (intro h hp k; (try subst k); (try simp only [q_n] at hp); try first | omega | (cases hp; done));
 refine zW (zG rfl (by rfl) ?_); refine zY (zZ ?_); (iterate 2 refine yA ?_); rotate_left; refine zZ (xY ?_); intro _ _; refine zP ?_; refine zX (yN ?_ ?_) <;> (intro h hp k; (try subst k); (try simp only [q_n] at hp); try first | omega | (cases hp; done));
 refine zY (zZ ?_); (iterate 2 refine yA ?_); rotate_left; refine zW (zY (zZ ?_)); refine uA ?_; refine yR ?_; refine zP ?_; refine zX (zV ?_); simp only [yX]; rotate_left
 all_goals ((repeat (rename BV _ _ => k; first | cases k | clear k)); try exact zN)
 refine xW ?_
 rfl
/-- Do comes to one of its parts. -/
theorem rdo_ok (B : List (List Sl)) (L : List Pk) (A : List Ap) (r : Ps) (h : Rt B L A) (hbl : ∀ l ∈ B, l.length ≤ 1000) (hAl : A.length ≤ 100000) (B1 : List (List Sl)) (L1 : List Pk)
  (h1 : r.k = 1 → ∀ σ, SCall Tryz.prog 54 [.agg (stC B L A), psV r] σ (Is (.tup [.agg (stC B1 L1 A), .int .i64 0]) σ))
  (h2 : r.k = 2 → ∀ σ, SCall Tryz.prog 55 [.agg (stC B L A), psV r] σ (Is (.tup [.agg (stC B1 L1 A), .int .i64 0]) σ))
  (h3 : r.k = 3 → ∀ σ, SCall Tryz.prog 56 [.agg (stC B L A), psV r] σ (Is (.tup [.agg (stC B1 L1 A), .int .i64 0]) σ))
  (h4 : r.k = 4 ∨ r.k = 5 → ∀ σ, SCall Tryz.prog 57 [.agg (stC B L A), psV r] σ (Is (.tup [.agg (stC B1 L1 A), .int .i64 0]) σ))
  (hk : 1 ≤ r.k ∧ r.k ≤ 5) (σ : List Ent) : SCall Tryz.prog 21 [.agg (stC B L A), psV r] σ (Is (.tup [.agg (stC B1 L1 A), .int .i64 0]) σ) := by
 refine zL Tryz.func21 rfl (by simp) ?_
 have hr := fun σ => rround_ok h hbl hAl σ
 clear h hbl
 by_cases k1 : r.k = 1
 ·have c := h1 k1
  clear h1 h2 h3 h4
  refine zY (zZ ?_); refine xB ?_; intro _; refine xB ?_; intro _; refine xK ?_; intro _; refine zP ?_; refine zX (zY (zY (zZ ?_))); refine yA ?_; apply yE; rfl; rfl; rfl; (refine yJ ?_; exact hr _); intro _ _; refine qY ?_; intro _ _; refine zX (yN ?_ ?_) <;> (intro h hp k; (try subst k); (try simp only [q_n] at hp); try first | omega | (cases hp; done));
  refine zY (zZ ?_); refine uA ?_; refine yR ?_; refine zP ?_; refine zX (zV ?_); simp only [yX]; rotate_left; refine zW (zY (zY (zZ ?_))); refine yG ?_; refine zX (zT ?_); refine zY (zZ ?_); refine xY ?_; intro _ _; refine zP ?_; refine zX (yN ?_ ?_) <;> (intro h hp k; (try subst k); (try simp only [q_n] at hp); try first | omega | (cases hp; done));
  refine zY (zZ ?_); (iterate 2 refine yA ?_); apply zU; rfl; rfl; rfl; (refine yJ ?_; exact c _); (iterate 2 refine tG ?_); refine yR ?_; refine zP ?_; refine zX (zV ?_); simp only [yX]; rotate_left
  all_goals ((repeat (rename BV _ _ => k; first | cases k | clear k)); try exact zN)
  refine xW ?_
  rfl
 by_cases k2 : r.k = 2
 ·have c := h2 k2
  clear h1 h2 h3 h4
  refine zY (zZ ?_); refine xB ?_; intro _; refine xB ?_; intro _; refine xK ?_; intro _; refine zP ?_; refine zX (zY (zY (zZ ?_))); refine yA ?_; apply yE; rfl; rfl; rfl; (refine yJ ?_; exact hr _); intro _ _; refine qY ?_; intro _ _; refine zX (yN ?_ ?_) <;> (intro h hp k; (try subst k); (try simp only [q_n] at hp); try first | omega | (cases hp; done));
  refine zY (zZ ?_); refine uA ?_; refine yR ?_; refine zP ?_; refine zX (zV ?_); simp only [yX]; rotate_left; refine zW (zY (zY (zZ ?_))); refine yG ?_; refine zX (zT ?_); refine zY (zZ ?_); refine xY ?_; intro _ _; refine zP ?_; refine zX (yN ?_ ?_) <;> (intro h hp k; (try subst k); (try simp only [q_n] at hp); try first | omega | (cases hp; done));
  refine zY (zZ ?_); refine xY ?_; intro _ _; refine zP ?_; refine zX (yN ?_ ?_) <;> (intro h hp k; (try subst k); (try simp only [q_n] at hp); try first | omega | (cases hp; done));
  refine zY (zZ ?_); (iterate 2 refine yA ?_); apply zU; rfl; rfl; rfl; (refine yJ ?_; exact c _); (iterate 2 refine tG ?_); refine yR ?_; refine zP ?_; refine zX (zV ?_); simp only [yX]; rotate_left
  all_goals ((repeat (rename BV _ _ => k; first | cases k | clear k)); try exact zN)
  refine xW ?_
  rfl
 by_cases k3 : r.k = 3
 ·have c := h3 k3
  clear h1 h2 h3 h4
  refine zY (zZ ?_); refine xB ?_; intro _; refine xB ?_; intro _; refine xK ?_; intro _; refine zP ?_; refine zX (zY (zY (zZ ?_))); refine yA ?_; apply yE; rfl; rfl; rfl; (refine yJ ?_; exact hr _); intro _ _; refine qY ?_; intro _ _; refine zX (yN ?_ ?_) <;> (intro h hp k; (try subst k); (try simp only [q_n] at hp); try first | omega | (cases hp; done));
  refine zY (zZ ?_); refine uA ?_; refine yR ?_; refine zP ?_; refine zX (zV ?_); simp only [yX]; rotate_left; refine zW (zY (zY (zZ ?_))); refine yG ?_; refine zX (zT ?_); refine zY (zZ ?_); refine xY ?_; intro _ _; refine zP ?_; refine zX (yN ?_ ?_) <;> (intro h hp k; (try subst k); (try simp only [q_n] at hp); try first | omega | (cases hp; done));
  refine zY (zZ ?_); refine xY ?_; intro _ _; refine zP ?_; refine zX (yN ?_ ?_) <;> (intro h hp k; (try subst k); (try simp only [q_n] at hp); try first | omega | (cases hp; done));
  refine zY (zZ ?_); refine xY ?_; intro _ _; refine zP ?_; refine zX (yN ?_ ?_) <;> (intro h hp k; (try subst k); (try simp only [q_n] at hp); try first | omega | (cases hp; done));
  refine zY (zZ ?_); (iterate 2 refine yA ?_); apply zU; rfl; rfl; rfl; (refine yJ ?_; exact c _); (iterate 2 refine tG ?_); refine yR ?_; refine zP ?_; refine zX (zV ?_); simp only [yX]; rotate_left
  all_goals ((repeat (rename BV _ _ => k; first | cases k | clear k)); try exact zN)
  refine xW ?_
  rfl
 have c := h4 (by omega)
 clear h1 h2 h3 h4
 refine zY (zZ ?_); refine xB ?_; intro _; refine xB ?_; intro _; refine xK ?_; intro _; refine zP ?_; refine zX (zY (zY (zZ ?_))); refine yA ?_; apply yE; rfl; rfl; rfl; (refine yJ ?_; exact hr _); intro _ _; refine qY ?_; intro _ _; refine zX (yN ?_ ?_) <;> (intro h hp k; (try subst k); (try simp only [q_n] at hp); try first | omega | (cases hp; done));
 refine zY (zZ ?_); refine uA ?_; refine yR ?_; refine zP ?_; refine zX (zV ?_); simp only [yX]; rotate_left; refine zW (zY (zY (zZ ?_))); refine yG ?_; refine zX (zT ?_); refine zY (zZ ?_); refine xY ?_; intro _ _; refine zP ?_; refine zX (yN ?_ ?_) <;> (intro h hp k; (try subst k); (try simp only [q_n] at hp); try first | omega | (cases hp; done));
 refine zY (zZ ?_); refine xY ?_; intro _ _; refine zP ?_; refine zX (yN ?_ ?_) <;> (intro h hp k; (try subst k); (try simp only [q_n] at hp); try first | omega | (cases hp; done));
 refine zY (zZ ?_); refine xY ?_; intro _ _; refine zP ?_; refine zX (yN ?_ ?_) <;> (intro h hp k; (try subst k); (try simp only [q_n] at hp); try first | omega | (cases hp; done));
 refine zY (zY (zZ ?_)); refine xY ?_; intro _ _; refine zP ?_; refine zX (yN ?_ ?_) <;> (intro h hp k; (try subst k); (try simp only [q_n] at hp); try first | omega | (cases hp; done));
 refine zW (zG rfl (by rfl) ?_); refine zY (zZ ?_); (iterate 2 refine yA ?_); apply zU; rfl; rfl; rfl; (refine yJ ?_; exact c _); (iterate 2 refine tG ?_); refine yR ?_; refine zP ?_; refine zX (zV ?_); simp only [yX]; rotate_left; refine zZ (xY ?_); intro _ _; refine zP ?_; refine zX (yN ?_ ?_) <;> (intro h hp k; (try subst k); (try simp only [q_n] at hp); try first | omega | (cases hp; done));
 refine zY (zZ ?_); (iterate 2 refine yA ?_); apply zU; rfl; rfl; rfl; (refine yJ ?_; exact c _); (iterate 2 refine tG ?_); refine yR ?_; refine zP ?_; refine zX (zV ?_); simp only [yX]; rotate_left
 all_goals ((repeat (rename BV _ _ => k; first | cases k | clear k)); try exact zN)
 all_goals
  refine xW ?_
  rfl
theorem rdo_er (B : List (List Sl)) (L : List Pk) (A : List Ap) (r : Ps) (h : Rt B L A) (hbl : ∀ l ∈ B, l.length ≤ 1000) (hAl : A.length ≤ 100000) (e : Int)
  (h1 : r.k = 1 → ∀ σ, SCall Tryz.prog 54 [.agg (stC B L A), psV r] σ (Is (.tup [rnd0, .int .i64 e]) σ))
  (h2 : r.k = 2 → ∀ σ, SCall Tryz.prog 55 [.agg (stC B L A), psV r] σ (Is (.tup [rnd0, .int .i64 e]) σ))
  (h3 : r.k = 3 → ∀ σ, SCall Tryz.prog 56 [.agg (stC B L A), psV r] σ (Is (.tup [rnd0, .int .i64 e]) σ))
  (h4 : r.k = 4 ∨ r.k = 5 → ∀ σ, SCall Tryz.prog 57 [.agg (stC B L A), psV r] σ (Is (.tup [rnd0, .int .i64 e]) σ))
  (hk : 1 ≤ r.k ∧ r.k ≤ 5) (σ : List Ent) : SCall Tryz.prog 21 [.agg (stC B L A), psV r] σ (Is (.tup [rnd0, .int .i64 e]) σ) := by
 refine zL Tryz.func21 rfl (by simp) ?_
 have hr := fun σ => rround_ok h hbl hAl σ
 clear h hbl
 by_cases k1 : r.k = 1
 ·have c := h1 k1
  clear h1 h2 h3 h4
  refine zY (zZ ?_); refine xB ?_; intro _; refine xB ?_; intro _; refine xK ?_; intro _; refine zP ?_; refine zX (zY (zY (zZ ?_))); refine yA ?_; apply yE; rfl; rfl; rfl; (refine yJ ?_; exact hr _); intro _ _; refine qY ?_; intro _ _; refine zX (yN ?_ ?_) <;> (intro h hp k; (try subst k); (try simp only [q_n] at hp); try first | omega | (cases hp; done));
  refine zY (zZ ?_); refine uA ?_; refine yR ?_; refine zP ?_; refine zX (zV ?_); simp only [yX]; rotate_left; refine zW (zY (zY (zZ ?_))); refine yG ?_; refine zX (zT ?_); refine zY (zZ ?_); refine xY ?_; intro _ _; refine zP ?_; refine zX (yN ?_ ?_) <;> (intro h hp k; (try subst k); (try simp only [q_n] at hp); try first | omega | (cases hp; done));
  refine zY (zZ ?_); (iterate 2 refine yA ?_); apply zU; rfl; rfl; rfl; (refine yJ ?_; exact c _); (iterate 2 refine tG ?_); refine yR ?_; refine zP ?_; refine zX (zV ?_); simp only [yX]; rotate_left
  all_goals ((repeat (rename BV _ _ => k; first | cases k | clear k)); try exact zN)
  refine xW ?_
  rfl
 by_cases k2 : r.k = 2
 ·have c := h2 k2
  clear h1 h2 h3 h4
  refine zY (zZ ?_); refine xB ?_; intro _; refine xB ?_; intro _; refine xK ?_; intro _; refine zP ?_; refine zX (zY (zY (zZ ?_))); refine yA ?_; apply yE; rfl; rfl; rfl; (refine yJ ?_; exact hr _); intro _ _; refine qY ?_; intro _ _; refine zX (yN ?_ ?_) <;> (intro h hp k; (try subst k); (try simp only [q_n] at hp); try first | omega | (cases hp; done));
  refine zY (zZ ?_); refine uA ?_; refine yR ?_; refine zP ?_; refine zX (zV ?_); simp only [yX]; rotate_left; refine zW (zY (zY (zZ ?_))); refine yG ?_; refine zX (zT ?_); refine zY (zZ ?_); refine xY ?_; intro _ _; refine zP ?_; refine zX (yN ?_ ?_) <;> (intro h hp k; (try subst k); (try simp only [q_n] at hp); try first | omega | (cases hp; done));
  refine zY (zZ ?_); refine xY ?_; intro _ _; refine zP ?_; refine zX (yN ?_ ?_) <;> (intro h hp k; (try subst k); (try simp only [q_n] at hp); try first | omega | (cases hp; done));
  refine zY (zZ ?_); (iterate 2 refine yA ?_); apply zU; rfl; rfl; rfl; (refine yJ ?_; exact c _); (iterate 2 refine tG ?_); refine yR ?_; refine zP ?_; refine zX (zV ?_); simp only [yX]; rotate_left
  all_goals ((repeat (rename BV _ _ => k; first | cases k | clear k)); try exact zN)
  refine xW ?_
  rfl
 by_cases k3 : r.k = 3
 ·have c := h3 k3
  clear h1 h2 h3 h4
  refine zY (zZ ?_); refine xB ?_; intro _; refine xB ?_; intro _; refine xK ?_; intro _; refine zP ?_; refine zX (zY (zY (zZ ?_))); refine yA ?_; apply yE; rfl; rfl; rfl; (refine yJ ?_; exact hr _); intro _ _; refine qY ?_; intro _ _; refine zX (yN ?_ ?_) <;> (intro h hp k; (try subst k); (try simp only [q_n] at hp); try first | omega | (cases hp; done));
  refine zY (zZ ?_); refine uA ?_; refine yR ?_; refine zP ?_; refine zX (zV ?_); simp only [yX]; rotate_left; refine zW (zY (zY (zZ ?_))); refine yG ?_; refine zX (zT ?_); refine zY (zZ ?_); refine xY ?_; intro _ _; refine zP ?_; refine zX (yN ?_ ?_) <;> (intro h hp k; (try subst k); (try simp only [q_n] at hp); try first | omega | (cases hp; done));
  refine zY (zZ ?_); refine xY ?_; intro _ _; refine zP ?_; refine zX (yN ?_ ?_) <;> (intro h hp k; (try subst k); (try simp only [q_n] at hp); try first | omega | (cases hp; done));
  refine zY (zZ ?_); refine xY ?_; intro _ _; refine zP ?_; refine zX (yN ?_ ?_) <;> (intro h hp k; (try subst k); (try simp only [q_n] at hp); try first | omega | (cases hp; done));
  refine zY (zZ ?_); (iterate 2 refine yA ?_); apply zU; rfl; rfl; rfl; (refine yJ ?_; exact c _); (iterate 2 refine tG ?_); refine yR ?_; refine zP ?_; refine zX (zV ?_); simp only [yX]; rotate_left
  all_goals ((repeat (rename BV _ _ => k; first | cases k | clear k)); try exact zN)
  refine xW ?_
  rfl
 have c := h4 (by omega)
 clear h1 h2 h3 h4
 refine zY (zZ ?_); refine xB ?_; intro _; refine xB ?_; intro _; refine xK ?_; intro _; refine zP ?_; refine zX (zY (zY (zZ ?_))); refine yA ?_; apply yE; rfl; rfl; rfl; (refine yJ ?_; exact hr _); intro _ _; refine qY ?_; intro _ _; refine zX (yN ?_ ?_) <;> (intro h hp k; (try subst k); (try simp only [q_n] at hp); try first | omega | (cases hp; done));
 refine zY (zZ ?_); refine uA ?_; refine yR ?_; refine zP ?_; refine zX (zV ?_); simp only [yX]; rotate_left; refine zW (zY (zY (zZ ?_))); refine yG ?_; refine zX (zT ?_); refine zY (zZ ?_); refine xY ?_; intro _ _; refine zP ?_; refine zX (yN ?_ ?_) <;> (intro h hp k; (try subst k); (try simp only [q_n] at hp); try first | omega | (cases hp; done));
 refine zY (zZ ?_); refine xY ?_; intro _ _; refine zP ?_; refine zX (yN ?_ ?_) <;> (intro h hp k; (try subst k); (try simp only [q_n] at hp); try first | omega | (cases hp; done));
 refine zY (zZ ?_); refine xY ?_; intro _ _; refine zP ?_; refine zX (yN ?_ ?_) <;> (intro h hp k; (try subst k); (try simp only [q_n] at hp); try first | omega | (cases hp; done));
 refine zY (zY (zZ ?_)); refine xY ?_; intro _ _; refine zP ?_; refine zX (yN ?_ ?_) <;> (intro h hp k; (try subst k); (try simp only [q_n] at hp); try first | omega | (cases hp; done));
 refine zW (zG rfl (by rfl) ?_); refine zY (zZ ?_); (iterate 2 refine yA ?_); apply zU; rfl; rfl; rfl; (refine yJ ?_; exact c _); (iterate 2 refine tG ?_); refine yR ?_; refine zP ?_; refine zX (zV ?_); simp only [yX]; rotate_left; refine zZ (xY ?_); intro _ _; refine zP ?_; refine zX (yN ?_ ?_) <;> (intro h hp k; (try subst k); (try simp only [q_n] at hp); try first | omega | (cases hp; done));
 refine zY (zZ ?_); (iterate 2 refine yA ?_); apply zU; rfl; rfl; rfl; (refine yJ ?_; exact c _); (iterate 2 refine tG ?_); refine yR ?_; refine zP ?_; refine zX (zV ?_); simp only [yX]; rotate_left
 all_goals ((repeat (rename BV _ _ => k; first | cases k | clear k)); try exact zN)
 all_goals
  refine xW ?_
  rfl
theorem rdo_none (B : List (List Sl)) (L : List Pk) (A : List Ap) (r : Ps) (h : Rt B L A) (hbl : ∀ l ∈ B, l.length ≤ 1000) (hAl : A.length ≤ 100000) (hk : r.k < 1 ∨ 5 < r.k) (σ : List Ent) : SCall Tryz.prog 21 [.agg (stC B L A), psV r] σ (Is (rbad 1) σ) := by
 refine zL Tryz.func21 rfl (by simp) ?_
 have hr := fun σ => rround_ok h hbl hAl σ
 clear h hbl
 refine zY (zZ ?_); refine xB ?_; intro _; refine xB ?_; intro _; refine xK ?_; intro _; refine zP ?_; refine zX (zY (zY (zZ ?_))); refine yA ?_; apply yE; rfl; rfl; rfl; (refine yJ ?_; exact hr _); intro _ _; refine qY ?_; intro _ _; refine zX (yN ?_ ?_) <;> (intro h hp k; (try subst k); (try simp only [q_n] at hp); try first | omega | (cases hp; done));
 refine zY (zZ ?_); refine uA ?_; refine yR ?_; refine zP ?_; refine zX (zV ?_); simp only [yX]; rotate_left; refine zW (zY (zY (zZ ?_))); refine yG ?_; refine zX (zT ?_); refine zY (zZ ?_); refine xY ?_; intro _ _; refine zP ?_; refine zX (yN ?_ ?_) <;> (intro h hp k; (try subst k); (try simp only [q_n] at hp); try first | omega | (cases hp; done));
 refine zY (zZ ?_); refine xY ?_; intro _ _; refine zP ?_; refine zX (yN ?_ ?_) <;> (intro h hp k; (try subst k); (try simp only [q_n] at hp); try first | omega | (cases hp; done));
 refine zY (zZ ?_); refine xY ?_; intro _ _; refine zP ?_; refine zX (yN ?_ ?_) <;> (intro h hp k; (try subst k); (try simp only [q_n] at hp); try first | omega | (cases hp; done));
 refine zY (zY (zZ ?_)); refine xY ?_; intro _ _; refine zP ?_; refine zX (yN ?_ ?_) <;> (intro h hp k; (try subst k); (try simp only [q_n] at hp); try first | omega | (cases hp; done));
 refine zZ (xY ?_); intro _ _; refine zP ?_; refine zX (yN ?_ ?_) <;> (intro h hp k; (try subst k); (try simp only [q_n] at hp); try first | omega | (cases hp; done));
 refine zW (zY (zZ ?_)); refine uA ?_; refine yR ?_; refine zP ?_; refine zX (zV ?_); simp only [yX]; rotate_left
 all_goals ((repeat (rename BV _ _ => k; first | cases k | clear k)); try exact zN)
 refine xW ?_
 rfl
theorem rdo_c (B : List (List Sl)) (Q : List Qk) (A : List Ap) (hA : OkA A) (hAl : A.length ≤ 100000) (r : Ps) (hR : RtQ B Q) (σ : List Ent) :
  SCall Tryz.prog 21 [.agg (stC B (qPs Q) A), psV r] σ (Is (doV A (doSA A B Q r)) σ) := by
 have hrt := hR.rt (A := A) hA
 have hno := hrt.netOk
 have hbl : ∀ l ∈ B, l.length ≤ 1000 := fun l hl => by have := (check_zero.1 (hR.ck l hl)).1; omega
 have hfew := hrt.few
 have hQl : (qPs Q).length = Q.length := List.length_map ..
 by_cases hk : r.k < 1 ∨ 5 < r.k
 ·rw [doSA_not (by omega)]
  unfold doS
  rw [if_neg (by omega), if_neg (by omega), if_neg (by omega)]
  exact rdo_none B _ A r hrt hbl hAl hk σ
 have hk5 : 1 ≤ r.k ∧ r.k ≤ 5 := by omega
 have part : ∀ (x : Except Int (List (List Sl) × List Qk)), doSA A B Q r = x →
   (r.k = 1 → ∀ σ, SCall Tryz.prog 54 [.agg (stC B (qPs Q) A), psV r] σ (Is (doV A x) σ)) →
   (r.k = 2 → ∀ σ, SCall Tryz.prog 55 [.agg (stC B (qPs Q) A), psV r] σ (Is (doV A x) σ)) →
   (r.k = 3 → ∀ σ, SCall Tryz.prog 56 [.agg (stC B (qPs Q) A), psV r] σ (Is (doV A x) σ)) →
   (r.k = 4 ∨ r.k = 5 → ∀ σ, SCall Tryz.prog 57 [.agg (stC B (qPs Q) A), psV r] σ (Is (doV A x) σ)) →
   SCall Tryz.prog 21 [.agg (stC B (qPs Q) A), psV r] σ (Is (doV A (doSA A B Q r)) σ) := fun x he h1 h2 h3 h4 => by
  rw [he]
  cases x with
  | error e => exact rdo_er B _ A r hrt hbl hAl e h1 h2 h3 h4 hk5 σ
  | ok y => exact rdo_ok B _ A r hrt hbl hAl y.1 (qPs y.2) h1 h2 h3 h4 hk5 σ
 by_cases k1 : r.k = 1
 ·have hd : doSA A B Q r = doS B Q r := doSA_not (by omega)
  rw [hd] at part ⊢
  unfold doS at part ⊢
  rw [if_pos k1] at part ⊢
  by_cases hc : 0 ≤ r.a ∧ r.a < B.length ∧ r.s.tab = r.a
  ·rw [if_pos hc] at part ⊢
   by_cases he : (vQ (B.getD r.a.toNat []) r.s).2 = 0
   ·rw [if_pos he] at part ⊢
    refine part _ rfl (fun _ σ => ?_) (fun h => by omega) (fun h => by omega) (fun h => by omega)
    have := rpwrite_c B (qPs Q) A r hR.n8 σ
    rwa [if_pos hc, if_pos he] at this
   ·rw [if_neg he] at part ⊢
    refine part _ rfl (fun _ σ => ?_) (fun h => by omega) (fun h => by omega) (fun h => by omega)
    have := rpwrite_c B (qPs Q) A r hR.n8 σ
    rwa [if_pos hc, if_neg he] at this
  ·rw [if_neg hc] at part ⊢
   refine part _ rfl (fun _ σ => ?_) (fun h => by omega) (fun h => by omega) (fun h => by omega)
   have := rpwrite_c B (qPs Q) A r hR.n8 σ
   rwa [if_neg hc] at this
 by_cases k2 : r.k = 2
 ·have hd : doSA A B Q r = doS B Q r := doSA_not (by omega)
  rw [hd] at part ⊢
  unfold doS at part ⊢
  rw [if_neg k1, if_pos k2] at part ⊢
  by_cases hc : 0 ≤ r.a ∧ r.a < B.length ∧ 0 ≤ r.t ∧ r.t < B.length ∧ r.a ≠ r.t
  ·rw [if_pos hc] at part ⊢
   obtain ⟨k, hkk⟩ : ∃ k : Nat, r.a = k := ⟨r.a.toNat, by omega⟩
   obtain ⟨l, hl⟩ : ∃ l, B[k]? = some l := yW (by omega)
   have hgd : B.getD r.a.toNat [] = l := by rw [show r.a.toNat = k by omega, List.getD_eq_getElem?_getD, hl]; rfl
   have hck := hR.ck l (List.mem_of_getElem? hl)
   have ht := fun σ => rtell_ok B (qPs Q) A r hno hAl hR.n8 hc k hkk l hl (fun s hs => sendable_book hck hs) (check_zero.1 hck).1 σ
   rw [hgd] at part ⊢
   rw [hQl] at ht
   by_cases he : Q.length + l.length ≤ 4096
   ·have hmp : qPs (Q ++ l.map fun s => ⟨r.a, r.t, s⟩) = qPs Q ++ l.map (sentP r) := by
     show (Q ++ l.map fun s => (⟨r.a, r.t, s⟩ : Qk)).map qP = Q.map qP ++ l.map (sentP r)
     rw [List.map_append, List.map_map]; rfl
    rw [if_pos he] at part ht ⊢
    refine part _ rfl (fun h => by omega) (fun _ σ => ?_) (fun h => by omega) (fun h => by omega)
    simp only [doV]
    rw [hmp]
    exact ht σ
   ·rw [if_neg he] at part ht ⊢
    exact part _ rfl (fun h => by omega) (fun _ σ => ht σ) (fun h => by omega) (fun h => by omega)
  ·rw [if_neg hc] at part ⊢
   exact part _ rfl (fun h => by omega) (fun _ σ => rtell_bad B _ A r hR.n8 hc σ) (fun h => by omega) (fun h => by omega)
 by_cases hi : r.i < 0 ∨ (Q.length : Int) ≤ r.i
 ·have hd : doSA A B Q r = .error 1 := by
   have h9 : doS B Q r = .error 1 := by unfold doS; rw [if_neg k1, if_neg k2, if_pos (by omega), if_pos hi]
   unfold doSA
   cases hq : Q[r.i.toNat]? with
   | none => exact h9
   | some q =>
    have := wD hq
    exact (if_neg fun h => by omega).trans h9
  rw [hd] at part ⊢
  have hi' : r.i < 0 ∨ ((qPs Q).length : Int) ≤ r.i := by omega
  exact part _ rfl (fun h => by omega) (fun h => by omega) (fun _ σ => rdeliver_out B _ A r hno hAl hi' σ) (fun h σ => rlinks_out B _ A r hno hAl hi' h σ)
 obtain ⟨k, hkk⟩ : ∃ k : Nat, r.i = k := ⟨r.i.toNat, by omega⟩
 have hkt : r.i.toNat = k := by omega
 obtain ⟨q, hq⟩ : ∃ q, Q[k]? = some q := yW (by omega)
 have hqP : (qPs Q)[k]? = some (qP q) := by rw [List.getElem?_map, hq]; rfl
 obtain ⟨h1, h2, h3, h4, h5, h6, h7⟩ := hR.net q (List.mem_of_getElem? hq)
 by_cases k3 : r.k = 3
 ·cases hcut : cutB A q.f q.t with
  | true =>
   have hd : doSA A B Q r = .ok (B, Q.eraseIdx k) := by unfold doSA; rw [hkt, hq]; exact if_pos ⟨k3, by omega, hcut⟩
   rw [hd] at part ⊢
   refine part _ rfl (fun h => by omega) (fun h => by omega) (fun _ σ => ?_) (fun h => by omega)
   simp only [doV]
   rw [← qPs_erase]
   exact rdeliver_cut B _ A r hno hAl k _ hqP hkk hcut σ
  | false =>
   obtain ⟨t, htt⟩ : ∃ t : Nat, q.t = t := ⟨q.t.toNat, by omega⟩
   obtain ⟨l, hl⟩ : ∃ l, B[t]? = some l := yW (by omega)
   have hgd : B.getD q.t.toNat [] = l := by rw [show q.t.toNat = t by omega, List.getD_eq_getElem?_getD, hl]; rfl
   have hd : doSA A B Q r = .ok (B.set t (heardS l q.s), Q.eraseIdx k) := by
    unfold doSA
    rw [hkt, hq]
    dsimp only
    rw [if_neg (fun h => by rw [hcut] at h; exact absurd h.2.2 (by decide))]
    unfold doS
    rw [if_neg k1, if_neg k2, if_pos (by omega), if_neg hi, hkt, hq]
    dsimp only
    rw [if_pos k3, hgd, show q.t.toNat = t by omega]
   rw [hd] at part ⊢
   refine part _ rfl (fun h => by omega) (fun h => by omega) (fun _ σ => ?_) (fun h => by omega)
   simp only [doV]
   rw [← qPs_erase]
   exact rdeliver_in B _ A r hno hAl hR.n8 k t _ hqP hkk hcut q.s h6 rfl htt l hl (hR.ck l (List.mem_of_getElem? hl)) σ
 have hd : doSA A B Q r = doS B Q r := doSA_not k3
 rw [hd] at part ⊢
 unfold doS at part ⊢
 rw [if_neg k1, if_neg k2, if_pos (by omega), if_neg hi, hkt, hq] at part ⊢
 dsimp only at part ⊢
 rw [if_neg k3] at part ⊢
 by_cases k4 : r.k = 4
 ·rw [if_pos k4] at part ⊢
  refine part _ rfl (fun h => by omega) (fun h => by omega) (fun h => by omega) (fun _ σ => ?_)
  simp only [doV]
  rw [← qPs_erase]
  exact rlinks_lose B _ A r hno hAl k (wD hqP) hkk k4 σ
 ·rw [if_neg k4] at part ⊢
  have hl := fun σ => rlinks_repeat B _ A r hno hAl k _ hqP hkk (by omega) σ
  rw [hQl] at hl
  by_cases he : Q.length = 4096
  ·rw [if_pos he] at part hl ⊢
   exact part _ rfl (fun h => by omega) (fun h => by omega) (fun h => by omega) (fun _ σ => hl σ)
  ·rw [if_neg he] at part hl ⊢
   refine part _ rfl (fun h => by omega) (fun h => by omega) (fun h => by omega) (fun _ σ => ?_)
   simp only [doV]
   rw [show qPs (Q ++ [q]) = qPs Q ++ [qP q] from List.map_append ..]
   exact hl σ
end Go.Proofs.YtkhoengjdfmfaaaGreat
