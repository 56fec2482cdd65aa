/- Parts of the proof that belong together: Wh Wi Sin Wj Wk Tl Sbu Ue. -/
import Derived.Test.YtkhoengjdfmfaaaGreatGF03
import Derived.Test.YtkhoengjdfmfaaaGreatGF04
import Derived.Test.YtkhoengjdfmfaaaGreatGF05
import Derived.Test.YtkhoengjdfmfaaaGreatGF06
import Derived.Test.YtkhoengjdfmfaaaGreatGF12
set_option maxRecDepth 10000
set_option maxHeartbeats 16000000
set_option linter.unusedSimpArgs false
set_option linter.unusedVariables false
namespace Go.Proofs.YtkhoengjdfmfaaaGreat
theorem pdeliver_out (b : Nat) (B : List (List Sl)) (L : List Pk) (A : List Ap) (r : Ps) (h0 : NetOk L A) (ho : r.i < 0 ∨ (L.length : Int) ≤ r.i) (σ : List Ent) :
  SCall Tryz.prog 50 [.ptr b 0, psV r] (stE b B L A :: σ) (Is (.int .i64 1) (stE b B L A :: σ)) := by
 refine zL Tryz.func50 rfl (by simp) ?_
 have hc := fun σ => deliver_out L A h0 r.i ho σ
 clear h0 ho
 refine zY (zZ ?_); refine xB ?_; intro _; refine zP ?_; refine zX (zY ?_); rotate_left
 all_goals ((repeat (rename BV _ _ => k; first | cases k | clear k)); try exact zN)
 rename Nat => b3; revert b3
 intro b3
 refine ex_joinT (fun (z : Nat × Nat) => (⟨[(0, .ptr b 0), (3, .ptr b3 0), (4, .int .i64 1)], stE b B L A :: σ, [], Tryz.f50.ntmps⟩ : St)) ?_ ?_
 ·refine wA (fun x => x = stE b B L A ∨ x = .cells b3 (psC r) 45) [12, 13, 14, 15] 16 rfl (by kernel_rfl) rfl ?_
  refine yL ?_; refine tP ?_; refine yL ?_; apply yS; rfl; rfl; (intro σ' hl; (apply zK <;> rfl)); refine yL ?_; refine tN ?_; refine yL ?_; refine tN ?_; refine yL ?_; refine dLa ?_; refine yL ?_; refine tN ?_; refine yL ?_; refine dLd ?_; refine yL ?_; apply yS; rfl; rfl; (intro σ' hl; (refine yJ ?_; exact hc _)); refine yL ?_; refine tP ?_; refine yL ?_; refine dEx ?_; refine yL ?_; refine dEx ?_; refine yL ?_; refine dEx ?_; refine drf_two rfl rfl rfl ?_ ?_; refine vC rfl rfl (vK rfl) ?_; intro _; refine yP rfl rfl ?_; refine vC rfl rfl (vK rfl) ?_; intro _; refine yP rfl rfl ?_; apply wF; rfl; rfl; (apply wV; rfl; rfl; rfl; (exact Upd.there (Upd.here)); (simp only [tS, q_z, AV.cells]; rfl); rfl; rfl; rfl; exact q_b rfl); (rintro _ (rfl | rfl | rfl) _ <;> exact (by repeat first | exact q_h | apply q_t | assumption)); refine yP rfl rfl ?_; apply wF; rfl; rfl; (apply wV; rfl; rfl; rfl; (exact Upd.here); (simp only [tS, q_z, AV.cells]; rfl); rfl; rfl; rfl; exact q_b rfl); (rintro _ (rfl | rfl | rfl) _ <;> exact (by repeat first | exact q_h | apply q_t | assumption)); refine wQ rfl ?_; refine zP ?_; refine zQ ?_; simp only [zA, zF, zE, zH, yK, ↓reduceIte, Nat.reduceEqDiff]; rotate_left; refine vC rfl rfl (vK rfl) ?_; intro _; refine yP rfl rfl ?_; refine vC rfl rfl (vK rfl) ?_; intro _; refine yP rfl rfl ?_; apply wF; rfl; rfl; (apply wV; rfl; rfl; rfl; (exact Upd.here); (simp only [tS, q_z, AV.cells]; rfl); rfl; rfl; rfl; exact q_b rfl); (rintro _ (rfl | rfl | rfl) _ <;> exact (by repeat first | exact q_h | apply q_t | assumption)); refine yP rfl rfl ?_; apply wF; rfl; rfl; (apply wV; rfl; rfl; rfl; (exact Upd.there (Upd.here)); (simp only [tS, q_z, AV.cells]; rfl); rfl; rfl; rfl; exact q_b rfl); (rintro _ (rfl | rfl | rfl) _ <;> exact (by repeat first | exact q_h | apply q_t | assumption)); refine wQ rfl ?_; refine zP ?_; refine zQ ?_; simp only [zA, zF, zE, zH, yK, ↓reduceIte, Nat.reduceEqDiff]; rotate_left
  all_goals ((repeat (rename BV _ _ => k; first | cases k | clear k)); try exact zN)
  all_goals exact ⟨(0, 0), _, List.Perm.refl _, (St.le_of (by repeat (first | exact trivial | refine ⟨rfl, ?_⟩)) (by repeat (first | exact q_r | apply q_q | apply q_k | exact q_a)))⟩
 ·rintro ⟨_, _⟩
  refine zY (zY (zZ ?_)); refine zR ?_; refine zD ?_ ?_ <;> (intro h hp; (try simp only [q_n] at hp); try first | omega | (cases hp; done));
  refine zY (zZ ?_); refine zR ?_; refine zP ?_; refine zX (zV ?_); simp only [yX]; rotate_left
  all_goals ((repeat (rename BV _ _ => k; first | cases k | clear k)); try exact zN)
  refine xX (σ3 := stE b B L A :: σ) ?_
  exact zJ .mk
theorem pdeliver_in (b : Nat) (B : List (List Sl)) (L : List Pk) (A : List Ap) (r : Ps) (h0 : NetOk L A) (hn : B.length ≤ 8) (k t : Nat) (p : Pk) (hk : L[k]? = some p) (hi : r.i = k) (hcut : cutB A p.f p.t = false) (s : Sl) (hs : Sendable s) (hd : p.d = msgS s) (ht : p.t = (t : Int)) (l : List Sl) (hB : B[t]? = some l) (hlen : l.length ≤ 512) (σ : List Ent) :
  SCall Tryz.prog 50 [.ptr b 0, psV r] (stE b B L A :: σ) (Is (.int .i64 0) (stE b (B.set t (heardS l s)) (L.eraseIdx k) A :: σ)) := by
 refine zL Tryz.func50 rfl (by simp) ?_
 have hc := fun σ => deliver_in L A h0 k p hk hcut σ
 rw [← hi] at hc
 have hrd : ∀ σ, SCall Tryz.prog 81 [bys p.d] σ (Is (.tup [slV s, .bool true]) σ) := fun σ => by rw [hd]; exact read_c s hs σ
 have hen := fun σ => end_c l s.tab σ
 have had := fun σ => added_c l s (by omega) σ
 have hck := fun σ => check_c (uT l s) σ
 have htB : t < B.length := (List.getElem?_eq_some_iff.1 hB).1
 have hg := bk_get hB
 have hput : ∀ {σ σ' : List Ent}, Upd σ (stE b B (L.eraseIdx k) A) (stE b (B.set t (uT l s)) (L.eraseIdx k) A) σ' → SCall Tryz.prog 82 [.ptr b 0, .int .i64 p.t, .agg (bkC (uT l s))] σ (Is (.tup []) σ') := fun h => by rw [ht]; exact put_c htB hn h
 have hkeep : B.set t l = B := by
  refine List.ext_getElem? fun j => ?_
  rw [List.getElem?_set]
  split
  ·rename_i e; subst e; rw [hB]
  ·rfl
 clear h0 hk hs
 refine zY (zZ ?_); refine xB ?_; intro _; refine zP ?_; refine zX (zY ?_); rotate_left
 all_goals ((repeat (rename BV _ _ => k; first | cases k | clear k)); try exact zN)
 rename Nat => b3; revert b3
 intro b3
 refine ex_joinT (fun (z : Nat × Nat) => (⟨[(0, .ptr b 0), (3, .ptr b3 0), (4, .int .i64 0), (5, .ptr z.1 0), (6, .ptr z.2 0)], .cells z.2 (netC (L.eraseIdx k) A) 39 :: .cells z.1 (pkC p) 93 :: .cells b3 (psC r) 45 :: stE b B L A :: σ, [], Tryz.f50.ntmps⟩ : St)) ?_ ?_
 ·refine wA (fun x => x = stE b B L A ∨ x = .cells b3 (psC r) 45) [12, 13, 14, 15] 16 rfl (by kernel_rfl) rfl ?_
  refine yL ?_; refine tP ?_; refine yL ?_; apply yS; rfl; rfl; (intro σ' hl; (apply zK <;> rfl)); refine yL ?_; refine tN ?_; refine yL ?_; refine tN ?_; refine yL ?_; refine dLa ?_; refine yL ?_; refine tN ?_; refine yL ?_; refine dLd ?_; refine yL ?_; apply yS; rfl; rfl; (intro σ' hl; (refine yJ ?_; exact hc _)); refine yL ?_; refine tP ?_; refine yL ?_; refine dEx ?_; refine yL ?_; refine dEx ?_; refine yL ?_; refine dEx ?_; refine drf_two rfl rfl rfl ?_ ?_; refine vC rfl rfl (vK rfl) ?_; intro _; refine yP rfl rfl ?_; refine vC rfl rfl (vK rfl) ?_; intro _; refine yP rfl rfl ?_; apply wF; rfl; rfl; (apply wV; rfl; rfl; rfl; (exact Upd.there (Upd.here)); (simp only [tS, q_z, AV.cells]; rfl); rfl; rfl; rfl; exact q_b rfl); (rintro _ (rfl | rfl | rfl) _ <;> exact (by repeat first | exact q_h | apply q_t | assumption)); refine yP rfl rfl ?_; apply wF; rfl; rfl; (apply wV; rfl; rfl; rfl; (exact Upd.here); (simp only [tS, q_z, AV.cells]; rfl); rfl; rfl; rfl; exact q_b rfl); (rintro _ (rfl | rfl | rfl) _ <;> exact (by repeat first | exact q_h | apply q_t | assumption)); refine wQ rfl ?_; refine zP ?_; refine zQ ?_; simp only [zA, zF, zE, zH, yK, ↓reduceIte, Nat.reduceEqDiff]; rotate_left; refine vC rfl rfl (vK rfl) ?_; intro _; refine yP rfl rfl ?_; refine vC rfl rfl (vK rfl) ?_; intro _; refine yP rfl rfl ?_; apply wF; rfl; rfl; (apply wV; rfl; rfl; rfl; (exact Upd.here); (simp only [tS, q_z, AV.cells]; rfl); rfl; rfl; rfl; exact q_b rfl); (rintro _ (rfl | rfl | rfl) _ <;> exact (by repeat first | exact q_h | apply q_t | assumption)); refine yP rfl rfl ?_; apply wF; rfl; rfl; (apply wV; rfl; rfl; rfl; (exact Upd.there (Upd.here)); (simp only [tS, q_z, AV.cells]; rfl); rfl; rfl; rfl; exact q_b rfl); (rintro _ (rfl | rfl | rfl) _ <;> exact (by repeat first | exact q_h | apply q_t | assumption)); refine wQ rfl ?_; refine zP ?_; refine zQ ?_; simp only [zA, zF, zE, zH, yK, ↓reduceIte, Nat.reduceEqDiff]; rotate_left
  all_goals ((repeat (rename BV _ _ => k; first | cases k | clear k)); try exact zN)
  ·exact ⟨(_, _), _, List.Perm.refl _, (St.le_of (by repeat (first | exact trivial | refine ⟨rfl, ?_⟩)) (by repeat (first | exact q_r | apply q_q | apply q_k | exact q_a)))⟩
  ·exact ⟨(_, _), _, .swap _ _ _, (St.le_of (by repeat (first | exact trivial | refine ⟨rfl, ?_⟩)) (by repeat (first | exact q_r | apply q_q | apply q_k | exact q_a)))⟩
 ·rintro ⟨b5, b6⟩
  dsimp only
  clear hc
  refine zY (zY (zZ ?_)); refine zR ?_; refine zD ?_ ?_ <;> (intro h hp; (try simp only [q_n] at hp); try first | omega | (cases hp; done));
  refine zW (zY (zZ ?_)); refine zR ?_; refine yA ?_; apply zU; rfl; rfl; rfl; (apply zK <;> rfl); (iterate 2 refine uZ ?_); refine yR ?_; refine zX (zY (zZ ?_)); refine yG ?_; apply zU; rfl; rfl; rfl; (refine yJ ?_; exact hrd _); refine zR ?_; (iterate 2 refine tG ?_); refine xK ?_; intro _; refine yR ?_; refine zP ?_; refine zX (zY (zY (zZ ?_))); refine zR ?_; refine qY ?_; intro _ _; refine zX (yN ?_ ?_) <;> (intro h hp k; (try subst k); (try simp only [q_n] at hp); try first | omega | (cases hp; done));
  refine zW (zY (zY ?_)); rotate_left
  all_goals ((repeat (rename BV _ _ => k; first | cases k | clear k)); try exact zN)
  rename Nat => b7; revert b7
  intro b7
  refine qD (s' := ⟨[(0, .ptr b 0), (3, .ptr b3 0), (4, .int .i64 0), (5, .ptr b5 0), (7, .ptr b7 0)], .cells b7 (slC s) 43 :: .cells b5 (pkC p) 93 :: stE b B (L.eraseIdx k) A :: σ, [], Tryz.f50.ntmps⟩) (St.le_of (by repeat (first | exact trivial | refine ⟨rfl, ?_⟩)) (by repeat (first | exact q_r | apply q_q | apply q_k))) ?_
  clear hrd
  by_cases hq : s.seq = (uJ l s.tab : Nat)
  ·by_cases hz : xQ (uT l s) = 0
   ·rw [show heardS l s = uT l s from if_pos ⟨hq, hz⟩]
    rw [hz] at hck
    clear hkeep
    generalize uT l s = l' at had hck hput
    refine xN anyK 17 [] rfl (by kernel_rfl) rfl ?_
    simp only [wU]
    refine xU ?_; apply yY; rfl; rfl; rfl; (intro σ' hl; (apply zK <;> rfl)); (iterate 2 refine vR ?_); refine vW ?_; refine vR ?_; refine vW ?_; refine wIx ?_; refine qB ?_; refine vR ?_; refine vW ?_; apply yY; rfl; rfl; rfl; (intro σ' hl; (refine yJ ?_; exact hen _)); refine xU ?_; apply yY; rfl; rfl; rfl; (intro σ' hl; (apply uF <;> rfl)); apply yY; rfl; rfl; rfl; (intro σ' hl; (apply uF <;> rfl)); (iterate 2 refine wAs ?_); refine zC (zX (zY (zZ ?_))); refine yG ?_; refine zR ?_; refine zD ?_ ?_ <;> (intro h hp; (try simp only [q_n] at hp); try first | omega | (cases hp; done));
    refine zY ?_; rotate_left
    all_goals ((repeat (rename BV _ _ => k; first | cases k | clear k)); try exact zN)
    refine wA (fun x => x = stE b B (L.eraseIdx k) A ∨ x = .cells b5 (pkC p) 93 ∨ x = .cells b7 (slC s) 43) [11, 12] 13 rfl (by kernel_rfl) rfl ?_
    refine yL ?_; refine tP ?_; refine yL ?_; apply yS; rfl; rfl; (intro σ' hl; (apply zK <;> rfl)); refine yL ?_; refine tN ?_; refine yL ?_; refine tN ?_; refine yL ?_; refine dLd ?_; refine yL ?_; refine tN ?_; refine yL ?_; refine dLd ?_; refine yL ?_; apply yS; rfl; rfl; (intro σ' hl; (apply uG; rfl; rfl; rfl; (assumption); (assumption))); refine yL ?_; refine dLa ?_; refine yL ?_; refine dLa ?_; refine yL ?_; apply yS; rfl; rfl; (intro σ' hl; (refine yJ ?_; exact had _)); refine yP rfl rfl ?_; refine vC rfl rfl (vK rfl) ?_; intro _; refine yP rfl rfl ?_; apply wF; rfl; rfl; (apply wV; rfl; rfl; rfl; (exact Upd.here); (simp only [tS, q_z, AV.cells]; rfl); rfl; rfl; rfl; exact q_b rfl); (rintro _ (rfl | rfl | rfl) _ <;> exact (by repeat first | exact q_h | apply q_t | assumption)); refine wQ rfl ?_; refine zX (zY (zZ ?_)); refine yA ?_; apply zU; rfl; rfl; rfl; (refine yJ ?_; exact hck _); refine zD ?_ ?_ <;> (intro h hp; (try simp only [q_n] at hp); try first | omega | (cases hp; done));
    refine zZ (zR ?_); refine yG ?_; refine yA ?_; apply zU; rfl; rfl; rfl; (refine yJ ?_; exact hput (by (exact Upd.there (Upd.there (Upd.there (Upd.here)))))); refine zX (zY (zZ ?_)); refine zP ?_; refine zX (zV ?_); simp only [yX]; rotate_left
    all_goals ((repeat (rename BV _ _ => k; first | cases k | clear k)); try exact zN)
    refine xX (σ3 := stE b (B.set t l') (L.eraseIdx k) A :: σ) ?_
    exact zJ .mk
   ·rw [show heardS l s = l from if_neg (fun h => hz h.2), hkeep]
    clear hkeep hput
    generalize uT l s = l' at had hck hz
    generalize xQ l' = e at hck hz
    refine xN anyK 17 [] rfl (by kernel_rfl) rfl ?_
    simp only [wU]
    refine xU ?_; apply yY; rfl; rfl; rfl; (intro σ' hl; (apply zK <;> rfl)); (iterate 2 refine vR ?_); refine vW ?_; refine vR ?_; refine vW ?_; refine wIx ?_; refine qB ?_; refine vR ?_; refine vW ?_; apply yY; rfl; rfl; rfl; (intro σ' hl; (refine yJ ?_; exact hen _)); refine xU ?_; apply yY; rfl; rfl; rfl; (intro σ' hl; (apply uF <;> rfl)); apply yY; rfl; rfl; rfl; (intro σ' hl; (apply uF <;> rfl)); (iterate 2 refine wAs ?_); refine zC (zX (zY (zZ ?_))); refine yG ?_; refine zR ?_; refine zD ?_ ?_ <;> (intro h hp; (try simp only [q_n] at hp); try first | omega | (cases hp; done));
    refine zY ?_; rotate_left
    all_goals ((repeat (rename BV _ _ => k; first | cases k | clear k)); try exact zN)
    refine wA (fun x => x = stE b B (L.eraseIdx k) A ∨ x = .cells b5 (pkC p) 93 ∨ x = .cells b7 (slC s) 43) [11, 12] 13 rfl (by kernel_rfl) rfl ?_
    refine yL ?_; refine tP ?_; refine yL ?_; apply yS; rfl; rfl; (intro σ' hl; (apply zK <;> rfl)); refine yL ?_; refine tN ?_; refine yL ?_; refine tN ?_; refine yL ?_; refine dLd ?_; refine yL ?_; refine tN ?_; refine yL ?_; refine dLd ?_; refine yL ?_; apply yS; rfl; rfl; (intro σ' hl; (apply uG; rfl; rfl; rfl; (assumption); (assumption))); refine yL ?_; refine dLa ?_; refine yL ?_; refine dLa ?_; refine yL ?_; apply yS; rfl; rfl; (intro σ' hl; (refine yJ ?_; exact had _)); refine yP rfl rfl ?_; refine vC rfl rfl (vK rfl) ?_; intro _; refine yP rfl rfl ?_; apply wF; rfl; rfl; (apply wV; rfl; rfl; rfl; (exact Upd.here); (simp only [tS, q_z, AV.cells]; rfl); rfl; rfl; rfl; exact q_b rfl); (rintro _ (rfl | rfl | rfl) _ <;> exact (by repeat first | exact q_h | apply q_t | assumption)); refine wQ rfl ?_; refine zX (zY (zZ ?_)); refine yA ?_; apply zU; rfl; rfl; rfl; (refine yJ ?_; exact hck _); refine zD ?_ ?_ <;> (intro h hp; (try simp only [q_n] at hp); try first | omega | (cases hp; done));
    refine zW (zY (zZ ?_)); refine zP ?_; refine zX (zV ?_); simp only [yX]; rotate_left
    all_goals ((repeat (rename BV _ _ => k; first | cases k | clear k)); try exact zN)
    refine xX (σ3 := stE b B (L.eraseIdx k) A :: σ) ?_
    exact zJ .mk
  ·rw [show heardS l s = l from if_neg (fun h => hq h.1), hkeep]
   clear hkeep hput had hck
   refine xN anyK 17 [] rfl (by kernel_rfl) rfl ?_
   simp only [wU]
   refine xU ?_; apply yY; rfl; rfl; rfl; (intro σ' hl; (apply zK <;> rfl)); (iterate 2 refine vR ?_); refine vW ?_; refine vR ?_; refine vW ?_; refine wIx ?_; refine qB ?_; refine vR ?_; refine vW ?_; apply yY; rfl; rfl; rfl; (intro σ' hl; (refine yJ ?_; exact hen _)); refine xU ?_; apply yY; rfl; rfl; rfl; (intro σ' hl; (apply uF <;> rfl)); apply yY; rfl; rfl; rfl; (intro σ' hl; (apply uF <;> rfl)); (iterate 2 refine wAs ?_); refine zC (zX (zY (zZ ?_))); refine yG ?_; refine zR ?_; refine zD ?_ ?_ <;> (intro h hp; (try simp only [q_n] at hp); try first | omega | (cases hp; done));
   refine zW (zY (zZ ?_)); refine zP ?_; refine zX (zV ?_); simp only [yX]; rotate_left
   all_goals ((repeat (rename BV _ _ => k; first | cases k | clear k)); try exact zN)
   refine xX (σ3 := stE b B (L.eraseIdx k) A :: σ) ?_
   exact zJ .mk
theorem read_nil (σ : List Ent) : SCall Tryz.prog 81 [.slv nilS] σ (fun r τ => ∃ s, r = .tup [slV s, .bool false] ∧ τ = σ) :=
 scall_nil 1 (.here .nil) (read_no (D := []) rfl (fun x h => (by cases h)) (by simp) σ)
theorem pdeliver_cut (b : Nat) (B : List (List Sl)) (L : List Pk) (A : List Ap) (r : Ps) (h0 : NetOk L A) (k : Nat) (p : Pk) (hk : L[k]? = some p) (hi : r.i = k) (hcut : cutB A p.f p.t = true) (σ : List Ent) :
  SCall Tryz.prog 50 [.ptr b 0, psV r] (stE b B L A :: σ) (Is (.int .i64 0) (stE b B (L.eraseIdx k) A :: σ)) := by
 refine zL Tryz.func50 rfl (by simp) ?_
 have hc := fun σ => deliver_cut L A h0 k p hk hcut σ
 rw [← hi] at hc
 clear h0 hk
 refine zY (zZ ?_); refine xB ?_; intro _; refine zP ?_; refine zX (zY ?_); rotate_left
 all_goals ((repeat (rename BV _ _ => k; first | cases k | clear k)); try exact zN)
 rename Nat => b3; revert b3
 intro b3
 refine ex_joinT (fun (z : Nat × Nat) => (⟨[(0, .ptr b 0), (3, .ptr b3 0), (4, .int .i64 0), (5, .ptr z.1 0), (6, .ptr z.2 0)], .cells z.2 (netC (L.eraseIdx k) A) 39 :: .cells z.1 pk0 93 :: .cells b3 (psC r) 45 :: stE b B L A :: σ, [], Tryz.f50.ntmps⟩ : St)) ?_ ?_
 ·refine wA (fun x => x = stE b B L A ∨ x = .cells b3 (psC r) 45) [12, 13, 14, 15] 16 rfl (by kernel_rfl) rfl ?_
  refine yL ?_; refine tP ?_; refine yL ?_; apply yS; rfl; rfl; (intro σ' hl; (apply zK <;> rfl)); refine yL ?_; refine tN ?_; refine yL ?_; refine tN ?_; refine yL ?_; refine dLa ?_; refine yL ?_; refine tN ?_; refine yL ?_; refine dLd ?_; refine yL ?_; apply yS; rfl; rfl; (intro σ' hl; (refine yJ ?_; exact hc _)); refine yL ?_; refine tP ?_; refine yL ?_; refine dEx ?_; refine yL ?_; refine dEx ?_; refine yL ?_; refine dEx ?_; refine drf_two rfl rfl rfl ?_ ?_; refine vC rfl rfl (vK rfl) ?_; intro _; refine yP rfl rfl ?_; refine vC rfl rfl (vK rfl) ?_; intro _; refine yP rfl rfl ?_; apply wF; rfl; rfl; (apply wV; rfl; rfl; rfl; (exact Upd.there (Upd.here)); (simp only [tS, q_z, AV.cells]; rfl); rfl; rfl; rfl; exact q_b rfl); (rintro _ (rfl | rfl | rfl) _ <;> exact (by repeat first | exact q_h | apply q_t | assumption)); refine yP rfl rfl ?_; apply wF; rfl; rfl; (apply wV; rfl; rfl; rfl; (exact Upd.here); (simp only [tS, q_z, AV.cells]; rfl); rfl; rfl; rfl; exact q_b rfl); (rintro _ (rfl | rfl | rfl) _ <;> exact (by repeat first | exact q_h | apply q_t | assumption)); refine wQ rfl ?_; refine zP ?_; refine zQ ?_; simp only [zA, zF, zE, zH, yK, ↓reduceIte, Nat.reduceEqDiff]; rotate_left; refine vC rfl rfl (vK rfl) ?_; intro _; refine yP rfl rfl ?_; refine vC rfl rfl (vK rfl) ?_; intro _; refine yP rfl rfl ?_; apply wF; rfl; rfl; (apply wV; rfl; rfl; rfl; (exact Upd.here); (simp only [tS, q_z, AV.cells]; rfl); rfl; rfl; rfl; exact q_b rfl); (rintro _ (rfl | rfl | rfl) _ <;> exact (by repeat first | exact q_h | apply q_t | assumption)); refine yP rfl rfl ?_; apply wF; rfl; rfl; (apply wV; rfl; rfl; rfl; (exact Upd.there (Upd.here)); (simp only [tS, q_z, AV.cells]; rfl); rfl; rfl; rfl; exact q_b rfl); (rintro _ (rfl | rfl | rfl) _ <;> exact (by repeat first | exact q_h | apply q_t | assumption)); refine wQ rfl ?_; refine zP ?_; refine zQ ?_; simp only [zA, zF, zE, zH, yK, ↓reduceIte, Nat.reduceEqDiff]; rotate_left
  all_goals ((repeat (rename BV _ _ => k; first | cases k | clear k)); try exact zN)
  ·exact ⟨(_, _), _, List.Perm.refl _, (St.le_of (by repeat (first | exact trivial | refine ⟨rfl, ?_⟩)) (by repeat (first | exact q_r | apply q_q | apply q_k | exact q_a)))⟩
  ·exact ⟨(_, _), _, .swap _ _ _, (St.le_of (by repeat (first | exact trivial | refine ⟨rfl, ?_⟩)) (by repeat (first | exact q_r | apply q_q | apply q_k | exact q_a)))⟩
 ·rintro ⟨b5, b6⟩
  dsimp only
  clear hc
  refine zY (zY (zZ ?_)); refine zR ?_; refine zD ?_ ?_ <;> (intro h hp; (try simp only [q_n] at hp); try first | omega | (cases hp; done));
  refine zW (zY (zZ ?_)); refine zR ?_; refine yA ?_; apply zU; rfl; rfl; rfl; (apply zK <;> rfl); (iterate 2 refine uZ ?_); refine yR ?_; refine zX (zY (zZ ?_)); refine yG ?_; refine xL rfl rfl rfl (xJ rfl rfl (zB (by kernel_rfl)) (read_nil _)) ?_; rintro _ _ ⟨s, rfl, rfl⟩; refine zR ?_; (iterate 2 refine tG ?_); refine xK ?_; intro _; refine yR ?_; refine zP ?_; refine zX (zY (zY (zZ ?_))); refine zR ?_; refine qY ?_; intro _ _; refine zX (yN ?_ ?_) <;> (intro h hp k; (try subst k); (try simp only [q_n] at hp); try first | omega | (cases hp; done));
  refine zY (zZ ?_); refine zP ?_; refine zX (zV ?_); simp only [yX]; rotate_left
  all_goals ((repeat (rename BV _ _ => k; first | cases k | clear k)); try exact zN)
  refine xX (σ3 := stE b B (L.eraseIdx k) A :: σ) ?_
  exact zJ .mk
theorem ptell_bad (b : Nat) (B : List (List Sl)) (L : List Pk) (A : List Ap) (r : Ps) (hn : B.length ≤ 8) (hbad : ¬ (0 ≤ r.a ∧ r.a < B.length ∧ 0 ≤ r.t ∧ r.t < B.length ∧ r.a ≠ r.t)) (σ : List Ent) :
  SCall Tryz.prog 49 [.ptr b 0, psV r] (stE b B L A :: σ) (Is (.int .i64 1) (stE b B L A :: σ)) := by
 refine zL Tryz.func49 rfl (by simp) ?_
 have hin : ∀ (x : Int) (σ : List Ent), SCall Tryz.prog 44 [.int .i64 x, .int .i64 0, .int .i64 ((B.length : Int) - 1)] σ (Is (.bool (decide (0 ≤ x ∧ x < B.length))) σ) := fun x σ => by
  have h0 := in_c x 0 ((B.length : Int) - 1) σ
  rwa [show inB x 0 ((B.length : Int) - 1) = decide (0 ≤ x ∧ x < B.length) by unfold inB; rw [Bool.eq_iff_iff]; simp; omega] at h0
 by_cases h1 : 0 ≤ r.a ∧ r.a < B.length
 ·have hi1 := hin r.a
  rw [decide_eq_true h1] at hi1
  by_cases h2 : 0 ≤ r.t ∧ r.t < B.length
  ·have hi2 := hin r.t
   rw [decide_eq_true h2] at hi2
   have heq : r.a = r.t := by omega
   clear hin hbad
   refine zY (zZ ?_); refine xB ?_; intro _; refine zP ?_; refine zX (zY (zZ ?_)); refine zR ?_; apply zU; rfl; rfl; rfl; (apply zK <;> rfl); refine uZ ?_; refine yG ?_; refine wH ?_; refine xSu ?_; refine zP ?_; refine zX (zY (zY (zZ ?_))); refine yG ?_; refine zR ?_; apply yE; rfl; rfl; rfl; (refine yJ ?_; exact hi1 _); intro _ _; refine qY ?_; intro _ _; refine zR ?_; refine xT ?_ ?_ <;> (intro h hp k; (try subst k); (try simp only [q_n] at hp); try first | omega | (cases hp; done));
   (iterate 5 refine yC ?_); refine xF ?_; refine zR ?_; (iterate 5 refine yC ?_); refine xF ?_; refine zX (zG rfl (by rfl) ?_); refine zY (zZ ?_); refine zP ?_; refine zX (zV ?_); simp only [yX]; rotate_left; refine wL ?_; refine vN ?_; apply xR; rfl; (rfl); rfl; rfl; (refine yJ ?_; exact hi2 _); intro _ _; refine yNo ?_; intro _ _; refine yB ?_; refine zR ?_; refine xT ?_ ?_ <;> (intro h hp k; (try subst k); (try simp only [q_n] at hp); try first | omega | (cases hp; done));
   (iterate 5 refine yC ?_); refine xF ?_; refine zX (zG rfl (by rfl) ?_); refine zY (zZ ?_); refine zP ?_; refine zX (zV ?_); simp only [yX]; rotate_left; (iterate 2 refine wL ?_); refine wT ?_; intro _ _; refine yB ?_; refine zX (yN ?_ ?_) <;> (intro h hp k; (try subst k); (try simp only [q_n] at hp); try first | omega | (cases hp; done));
   refine zY (zZ ?_); refine zP ?_; refine zX (zV ?_); simp only [yX]; rotate_left
   all_goals ((repeat (rename BV _ _ => k; first | cases k | clear k)); try exact zN)
   all_goals
    refine xX (σ3 := stE b B L A :: σ) ?_
    exact zJ .mk
  ·have hi2 := hin r.t
   rw [decide_eq_false h2] at hi2
   clear hin hbad
   refine zY (zZ ?_); refine xB ?_; intro _; refine zP ?_; refine zX (zY (zZ ?_)); refine zR ?_; apply zU; rfl; rfl; rfl; (apply zK <;> rfl); refine uZ ?_; refine yG ?_; refine wH ?_; refine xSu ?_; refine zP ?_; refine zX (zY (zY (zZ ?_))); refine yG ?_; refine zR ?_; apply yE; rfl; rfl; rfl; (refine yJ ?_; exact hi1 _); intro _ _; refine qY ?_; intro _ _; refine zR ?_; refine xT ?_ ?_ <;> (intro h hp k; (try subst k); (try simp only [q_n] at hp); try first | omega | (cases hp; done));
   (iterate 5 refine yC ?_); refine xF ?_; refine zR ?_; (iterate 5 refine yC ?_); refine xF ?_; refine zX (zG rfl (by rfl) ?_); refine zY (zZ ?_); refine zP ?_; refine zX (zV ?_); simp only [yX]; rotate_left; refine wL ?_; refine vN ?_; apply xR; rfl; (rfl); rfl; rfl; (refine yJ ?_; exact hi2 _); intro _ _; refine yNo ?_; intro _ _; refine yB ?_; refine zR ?_; refine xT ?_ ?_ <;> (intro h hp k; (try subst k); (try simp only [q_n] at hp); try first | omega | (cases hp; done));
   (iterate 5 refine yC ?_); refine xF ?_; refine zX (zG rfl (by rfl) ?_); refine zY (zZ ?_); refine zP ?_; refine zX (zV ?_); simp only [yX]; rotate_left; (iterate 2 refine wL ?_); refine wT ?_; intro _ _; refine yB ?_; refine zX (yN ?_ ?_) <;> (intro h hp k; (try subst k); (try simp only [q_n] at hp); try first | omega | (cases hp; done));
   refine zW (zY ?_); refine zY (wN rfl rfl (by kernel_rfl) rfl ?_); refine yU rfl (by kernel_rfl) rfl ?_; refine xU ?_; apply yY; rfl; rfl; rfl; (intro σ' hl; (apply zK <;> rfl)); (iterate 2 refine vR ?_); refine vW ?_; refine vR ?_; refine vW ?_; simp only [zA, zF, zE, zH, yK, ↓reduceIte, Nat.reduceEqDiff]; rotate_left
   all_goals ((repeat (rename BV _ _ => k; first | cases k | clear k)); try exact zN)
   all_goals
    refine xX (σ3 := stE b B L A :: σ) ?_
    exact zJ .mk
 ·have hi1 := hin r.a
  rw [decide_eq_false h1] at hi1
  clear hin hbad
  refine zY (zZ ?_); refine xB ?_; intro _; refine zP ?_; refine zX (zY (zZ ?_)); refine zR ?_; apply zU; rfl; rfl; rfl; (apply zK <;> rfl); refine uZ ?_; refine yG ?_; refine wH ?_; refine xSu ?_; refine zP ?_; refine zX (zY (zY (zZ ?_))); refine yG ?_; refine zR ?_; apply yE; rfl; rfl; rfl; (refine yJ ?_; exact hi1 _); intro _ _; refine qY ?_; intro _ _; refine zR ?_; refine xT ?_ ?_ <;> (intro h hp k; (try subst k); (try simp only [q_n] at hp); try first | omega | (cases hp; done));
  (iterate 5 refine yC ?_); refine xF ?_; refine zR ?_; (iterate 5 refine yC ?_); refine xF ?_; refine zX (zG rfl (by rfl) ?_); refine zY (zZ ?_); refine zP ?_; refine zX (zV ?_); simp only [yX]; rotate_left; refine wL ?_; refine vN ?_; rotate_left
  all_goals ((repeat (rename BV _ _ => k; first | cases k | clear k)); try exact zN)
  all_goals
   refine xX (σ3 := stE b B L A :: σ) ?_
   exact zJ .mk
abbrev sentP (r : Ps) (s : Sl) : Pk := ⟨r.a, r.t, msgS s⟩
theorem ptell_ok (b k : Nat) (B : List (List Sl)) (L : List Pk) (A : List Ap) (r : Ps) (h0 : NetOk L A) (hn : B.length ≤ 8) (hok : 0 ≤ r.a ∧ r.a < B.length ∧ 0 ≤ r.t ∧ r.t < B.length ∧ r.a ≠ r.t) (hk : r.a = k) (l : List Sl) (hB : B[k]? = some l) (hs : ∀ s ∈ l, Sendable s) (hlen : l.length ≤ 512) (σ : List Ent) :
  SCall Tryz.prog 49 [.ptr b 0, psV r] (stE b B L A :: σ) (fun v τ => (L.length + l.length ≤ 4096 ∧ v = .int .i64 0 ∧ τ = stE b B (L ++ l.map (sentP r)) A :: σ) ∨ (4096 < L.length + l.length ∧ v = .int .i64 2 ∧ τ = st0 b B :: σ)) := by
 refine zL Tryz.func49 rfl (by simp) ?_
 have hin : ∀ (x : Int) (σ : List Ent), 0 ≤ x ∧ x < B.length → SCall Tryz.prog 44 [.int .i64 x, .int .i64 0, .int .i64 ((B.length : Int) - 1)] σ (Is (.bool true) σ) := fun x σ hx => by
  have h0 := in_c x 0 ((B.length : Int) - 1) σ
  rwa [show inB x 0 ((B.length : Int) - 1) = true by unfold inB; simp; omega] at h0
 have hi1 := fun σ => hin r.a σ ⟨hok.1, hok.2.1⟩
 have hi2 := fun σ => hin r.t σ ⟨hok.2.2.1, hok.2.2.2.1⟩
 have hg := bk_get hB
 have hkB : k < B.length := (List.getElem?_eq_some_iff.1 hB).1
 have hokP : ∀ s ∈ l, OkP (sentP r s) := fun s hsl => by
  have h5 := msg_len (hs s hsl)
  exact ⟨hok.1, hok.2.2.1, hok.2.2.2.2, by show r.a < 24; omega, by show r.t < 24; omega, by show (msgS s).length ≤ 1048576; omega⟩
 clear hin
 refine zY (zZ ?_); refine xB ?_; intro _; refine zP ?_; refine zX (zY (zZ ?_)); refine zR ?_; apply zU; rfl; rfl; rfl; (apply zK <;> rfl); refine uZ ?_; refine yG ?_; refine wH ?_; refine xSu ?_; refine zP ?_; refine zX (zY (zY (zZ ?_))); refine yG ?_; refine zR ?_; apply yE; rfl; rfl; rfl; (refine yJ ?_; exact hi1 _); intro _ _; refine qY ?_; intro _ _; refine zR ?_; refine xT ?_ ?_ <;> (intro h hp k; (try subst k); (try simp only [q_n] at hp); try first | omega | (cases hp; done));
 (iterate 5 refine yC ?_); refine xF ?_; refine zR ?_; (iterate 5 refine yC ?_); refine xF ?_; refine zX (zG rfl (by rfl) ?_); refine zY (zZ ?_); refine zP ?_; refine zX (zV ?_); simp only [yX]; rotate_left; refine wL ?_; refine vN ?_; apply xR; rfl; (rfl); rfl; rfl; (refine yJ ?_; exact hi2 _); intro _ _; refine yNo ?_; intro _ _; refine yB ?_; refine zR ?_; refine xT ?_ ?_ <;> (intro h hp k; (try subst k); (try simp only [q_n] at hp); try first | omega | (cases hp; done));
 (iterate 5 refine yC ?_); refine xF ?_; refine zX (zG rfl (by rfl) ?_); refine zY (zZ ?_); refine zP ?_; refine zX (zV ?_); simp only [yX]; rotate_left; (iterate 2 refine wL ?_); refine wT ?_; intro _ _; refine yB ?_; refine zX (yN ?_ ?_) <;> (intro h hp k; (try subst k); (try simp only [q_n] at hp); try first | omega | (cases hp; done));
 refine zW (zY ?_); refine zY (wN rfl rfl (by kernel_rfl) rfl ?_); refine yU rfl (by kernel_rfl) rfl ?_; refine xU ?_; apply yY; rfl; rfl; rfl; (intro σ' hl; (apply zK <;> rfl)); (iterate 2 refine vR ?_); refine vW ?_; refine vR ?_; refine vW ?_; refine wIx ?_; refine vR ?_; refine vW ?_; apply yY; rfl; rfl; rfl; (intro σ' hl; (apply xH; rfl; rfl; (exact (List.length_map _).symm))); refine xU ?_; refine zC ?_; show EX _ _ _ _ _; refine zT ?_; rotate_left
 all_goals ((repeat (rename BV _ _ => k; first | cases k | clear k)); try exact zN)
 rename Nat => b3; revert b3
 intro b3
 clear hi1 hi2 hg hkB hk hB
 refine yD (fun (z : Nat × List Pk) => (⟨[(0, .ptr b 0), (3, .ptr b3 0), (43, sls l), (44, .int .i64 l.length), (45, .int .i64 z.1)], .cells b3 (psC r) 45 :: stE b B z.2 A :: σ, [], Tryz.f49.ntmps⟩ : St)) (fun z => (z.1 ≤ l.length ∧ L.length + z.1 ≤ 4096) ∧ z.2 = L ++ (l.take z.1).map (sentP r)) (fun z => l.length - z.1) (0, L) (⟨⟨Nat.zero_le _, h0.few⟩, (List.append_nil L).symm⟩) (St.le_of (by repeat (first | exact trivial | refine ⟨rfl, ?_⟩)) (by repeat (first | exact q_r | apply q_q | apply q_k))) ?_
 intro z hI
 obtain ⟨k, T0⟩ := z
 obtain ⟨⟨hI1, hI2⟩, hI3⟩ := hI
 dsimp only at hI1 hI2 hI3 ⊢
 subst hI3
 by_cases hkl : k < l.length
 ·obtain ⟨s, hsk⟩ : ∃ s, l[k]? = some s := yW hkl
  have hmem := List.mem_of_getElem? hsk
  have hmg := fun σ => message_c s (hs s hmem) σ
  have hnext : L ++ (l.take (k + 1)).map (sentP r) = (L ++ (l.take k).map (sentP r)) ++ [sentP r s] := by rw [List.take_add_one, hsk, List.map_append, List.append_assoc]; rfl
  have hTl : (L ++ (l.take k).map (sentP r)).length = L.length + k := by rw [List.length_append, List.length_map, List.length_take]; omega
  have hTok : NetOk (L ++ (l.take k).map (sentP r)) A := ⟨by omega, fun p hp => (by
   rcases List.mem_append.1 hp with hp | hp
   ·exact h0.pk p hp
   ·obtain ⟨x, hx, rfl⟩ := List.mem_map.1 hp
    exact hokP x (List.mem_of_mem_take hx)), h0.ap⟩
  have hsd := fun σ => send_c _ A hTok (sentP r s) (hokP s hmem) σ
  have hgs := uH hsk
  rw [hTl] at hsd
  clear h0 hs hokP hTok hTl hmem hsk
  generalize L ++ (l.take k).map (sentP r) = T at hsd hnext ⊢
  by_cases he : L.length + k = 4096
  ·rw [if_pos he] at hsd
   refine zY (zZ ?_); refine xY ?_; intro _ _; refine zX (zY (yN ?_ ?_)) <;> (intro h hp k; (try subst k); (try simp only [q_n] at hp); try first | omega | (cases hp; done));
   refine zW (zY (zT ?_)); refine zY (zZ ?_); refine vG ?_; refine yA ?_; refine xK ?_; intro _; refine yR ?_; refine zX (zY ?_); rotate_left
   all_goals ((repeat (rename BV _ _ => k; first | cases k | clear k)); try exact zN)
   rename Nat => b7; revert b7
   intro b7
   refine wA (fun x => x = .cells b3 (psC r) 45 ∨ x = .cells b7 (slC s) 43) [5, 20] 21 rfl (by kernel_rfl) rfl ?_
   refine yL ?_; refine tP ?_; refine yL ?_; refine tP ?_; refine yL ?_; apply yS; rfl; rfl; (intro σ' hl; (apply zK <;> rfl)); refine yL ?_; refine tN ?_; refine yL ?_; refine tN ?_; refine yL ?_; refine tN ?_; refine yL ?_; refine dLd ?_; refine yL ?_; refine tN ?_; refine yL ?_; refine dLd ?_; refine yL ?_; refine dLa ?_; refine yL ?_; apply yS; rfl; rfl; (intro σ' hl; (refine yJ ?_; exact hmg _)); refine yL ?_; apply yS; rfl; rfl; (intro σ' hl; (apply tK <;> rfl)); refine yP rfl rfl ?_; apply uL; rfl; rfl; (apply wY; rfl; decide; rfl; (exact .p (by repeat first | exact q_h | apply q_t | assumption) rfl rfl)); refine yL ?_; apply yS; rfl; rfl; (intro σ' hl; (refine yJ ?_; exact hsd _)); refine yL ?_; refine tP ?_; refine yL ?_; refine dEx ?_; refine yL ?_; refine dEx ?_; refine yL ?_; apply yS; rfl; rfl; (intro σ' hl; (apply zK <;> rfl)); refine yL ?_; refine tN ?_; refine yL ?_; refine tN ?_; refine yP rfl rfl ?_; apply wF; rfl; rfl; (apply wV; rfl; rfl; rfl; (exact Upd.there (Upd.there (Upd.here))); (simp only [tS, q_z, AV.cells]; rfl); rfl; rfl; rfl; exact q_b rfl); (rintro _ (rfl | rfl | rfl) _ <;> exact (by repeat first | exact q_h | apply q_t | assumption)); refine wQ rfl ?_; refine zP ?_; refine zX (zY (zZ ?_)); refine zR ?_; refine zD ?_ ?_ <;> (intro h hp; (try simp only [q_n] at hp); try first | omega | (cases hp; done));
   refine zY (zZ ?_); refine zR ?_; refine zP ?_; refine zX (zV ?_); simp only [yX]; rotate_left
   all_goals ((repeat (rename BV _ _ => k; first | cases k | clear k)); try exact zN)
   refine xX (σ3 := st0 b B :: σ) ?_
   exact zJ (.inr ⟨by omega, rfl, rfl⟩)
  ·rw [if_neg he] at hsd
   refine zY (zZ ?_); refine xY ?_; intro _ _; refine zX (zY (yN ?_ ?_)) <;> (intro h hp k; (try subst k); (try simp only [q_n] at hp); try first | omega | (cases hp; done));
   refine zW (zY (zT ?_)); refine zY (zZ ?_); refine vG ?_; refine yA ?_; refine xK ?_; intro _; refine yR ?_; refine zX (zY ?_); rotate_left
   all_goals ((repeat (rename BV _ _ => k; first | cases k | clear k)); try exact zN)
   rename Nat => b7; revert b7
   intro b7
   refine wA (fun x => x = .cells b3 (psC r) 45 ∨ x = .cells b7 (slC s) 43) [5, 20] 21 rfl (by kernel_rfl) rfl ?_
   refine yL ?_; refine tP ?_; refine yL ?_; refine tP ?_; refine yL ?_; apply yS; rfl; rfl; (intro σ' hl; (apply zK <;> rfl)); refine yL ?_; refine tN ?_; refine yL ?_; refine tN ?_; refine yL ?_; refine tN ?_; refine yL ?_; refine dLd ?_; refine yL ?_; refine tN ?_; refine yL ?_; refine dLd ?_; refine yL ?_; refine dLa ?_; refine yL ?_; apply yS; rfl; rfl; (intro σ' hl; (refine yJ ?_; exact hmg _)); refine yL ?_; apply yS; rfl; rfl; (intro σ' hl; (apply tK <;> rfl)); refine yP rfl rfl ?_; apply uL; rfl; rfl; (apply wY; rfl; decide; rfl; (exact .p (by repeat first | exact q_h | apply q_t | assumption) rfl rfl)); refine yL ?_; apply yS; rfl; rfl; (intro σ' hl; (refine yJ ?_; exact hsd _)); refine yL ?_; refine tP ?_; refine yL ?_; refine dEx ?_; refine yL ?_; refine dEx ?_; refine yL ?_; apply yS; rfl; rfl; (intro σ' hl; (apply zK <;> rfl)); refine yL ?_; refine tN ?_; refine yL ?_; refine tN ?_; refine yP rfl rfl ?_; apply wF; rfl; rfl; (apply wV; rfl; rfl; rfl; (exact Upd.there (Upd.there (Upd.here))); (simp only [tS, q_z, AV.cells]; rfl); rfl; rfl; rfl; exact q_b rfl); (rintro _ (rfl | rfl | rfl) _ <;> exact (by repeat first | exact q_h | apply q_t | assumption)); refine wQ rfl ?_; refine zP ?_; refine zX (zY (zZ ?_)); refine zR ?_; refine zD ?_ ?_ <;> (intro h hp; (try simp only [q_n] at hp); try first | omega | (cases hp; done));
   refine zW (zZ (vX ?_)); refine zR ?_; refine zQ ?_; simp only [zA, zF, zE, zH, yK, ↓reduceIte, Nat.reduceEqDiff]; rotate_left
   all_goals ((repeat (rename BV _ _ => k; first | cases k | clear k)); try exact zN)
   refine ⟨(k + 1, T ++ [sentP r s]), ⟨⟨hkl, by dsimp only; omega⟩, hnext.symm⟩, by dsimp only; omega, ?_⟩
   exact wW
 ·have e : k = l.length := by omega
  subst e
  rw [List.take_length]
  refine zY (zZ ?_); refine xY ?_; intro _ _; refine zX (zY (yN ?_ ?_)) <;> (intro h hp k; (try subst k); (try simp only [q_n] at hp); try first | omega | (cases hp; done));
  refine yQ ?_; refine zY (zZ ?_); refine zP ?_; refine zX (zV ?_); simp only [yX]; rotate_left
  all_goals ((repeat (rename BV _ _ => k; first | cases k | clear k)); try exact zN)
  refine xX (σ3 := stE b B (L ++ l.map (sentP r)) A :: σ) ?_
  exact zJ (.inl ⟨hI2, rfl, rfl⟩)
section
variable {P : Program} {ro : Option Nat} {env : Env} {σ σ' : List Ent} {dst : Option Tmp} {ty : TypeId} {pos : String} {after : Array Edge} {guard : Option (Nat × Bool)}
theorem uQ {t et : TypeId} {x ix y : Operand} {b n : Nat} {f f' : Int → Option AV} {k : Int} {v : AV} (ht : mapOf P t = some et) (hx : xP env x = some (.mp b)) (hi : xP env ix = some (.int .i64 k)) (hy : xP env y = some v) (hu : Upd σ (.imap b f n) (.imap b f' (if (f k).isSome then n else n + 1)) σ') (hf : updA f k v = f') :
  GOp P ro ⟨dst, .insert t x ix y, ty, pos, after, guard⟩ env σ (Is (.raw undef) σ') :=
 tW (by intro c h; cases h) fun X M a w hg ho => by
  have h1 := ho x (by simp [Op.operands]) _ hx
  have h2 := ho ix (by simp [Op.operands]) _ hi
  have h3 := ho y (by simp [Op.operands]) _ hy
  simp only [VRel] at h1 h2
  obtain ⟨kt, e1, e2⟩ := mapOf_spec ht
  obtain ⟨g, hg1, hg2⟩ := hg.ent _ hu.mem
  obtain ⟨w', hr, hm', hgr, hsz, _⟩ := hg1.update (P := P) e1 e2 k (a.eval y)
  refine ⟨M, undef, w', .raw undef, σ', Mem.le_refl M, ?_, by simp [VRel], .mk, .inr ⟨?_, rfl⟩⟩
  ·refine hg.upd hu hgr.os hgr.tape hgr.output (fun q hq hne => hgr.block q hq (fun e => hne e.symm)) ⟨upd g k (a.eval y), ?_, fun q => ?_⟩ (.inl rfl)
   ·have hk := hg2 k
    have e : (g k).isSome = (f k).isSome := by cases hf : f k <;> cases hgk : g k <;> simp only [hf, hgk] at hk <;> rfl
    rw [e] at hm'
    exact hm'
   ·rw [← hf]
    unfold updA upd
    by_cases hq : q = k
    ·simp only [if_pos hq]; exact h3
    ·simp only [if_neg hq]; exact hg2 q
  ·simp [execOp, h1, h2, Sem.run_bind, hr]
end
abbrev rnd0 : AV := .agg [.slv nilS, .slv nilS, .slv nilS]
theorem do_none (B : List (List Sl)) (L : List Pk) (A : List Ap) (r : Ps) (hR : Rt B L A) (hk : r.k < 1 ∨ 5 < r.k) (σ : List Ent) :
  SCall Tryz.prog 20 [.agg (stC B L A), psV r] σ (Is (.tup [rnd0, .int .i64 1]) σ) := by
 refine zL Tryz.func20 rfl (by simp) ?_
 have hr := fun σ => right_c B L A hR σ
 clear hR
 have hz : ∀ v1 v2 v3 v4 v5 : AV, updA (updA (updA (updA (updA (fun _ => none) 1 v1) 2 v2) 3 v3) 4 v4) 5 v5 r.k = none := fun v1 v2 v3 v4 v5 => by
  simp only [updA]
  rw [if_neg (by omega), if_neg (by omega), if_neg (by omega), if_neg (by omega), if_neg (by omega)]
 refine zY (zZ ?_); refine xB ?_; intro _; refine xB ?_; intro _; refine xK ?_; intro _; refine zP ?_; refine zX (zY (zY (zZ ?_))); refine yA ?_; apply yE; rfl; rfl; rfl; (refine yJ ?_; exact hr _); intro _ _; refine qY ?_; intro _ _; refine zX (yN ?_ ?_) <;> (intro h hp k; (try subst k); (try simp only [q_n] at hp); try first | omega | (cases hp; done));
 refine zY (zZ ?_); refine yA ?_; refine yR ?_; refine zP ?_; refine zX (zV ?_); simp only [yX]; rotate_left; refine zW (zY (zZ ?_)); refine exl_map rfl rfl rfl (by exact g_makeMap) ?_; intro _; refine vT rfl rfl (uQ rfl rfl rfl rfl (by (exact Upd.here)) rfl) ?_; refine vT rfl rfl (uQ rfl rfl rfl rfl (by (exact Upd.here)) rfl) ?_; refine vT rfl rfl (uQ rfl rfl rfl rfl (by (exact Upd.here)) rfl) ?_; refine vT rfl rfl (uQ rfl rfl rfl rfl (by (exact Upd.here)) rfl) ?_; refine vT rfl rfl (uQ rfl rfl rfl rfl (by (exact Upd.here)) rfl) ?_; refine zR ?_; refine yG ?_; show EXL _ _ _ ({ dst := _, op := .lookup _ _ _ true, type := _, pos := _, after := _, guard := _ } :: _) _ _; refine zU rfl rfl rfl (g_lookupOk (v := .raw .nilFunc) (ok := false) rfl rfl (by repeat first | exact q_h | apply q_t | assumption) rfl rfl (by rw [hz]; rfl) (by rw [hz]; rfl)) ?_; refine zR ?_; (iterate 2 refine tG ?_); (iterate 2 refine zP ?_); refine zX (zY (zY (zZ ?_))); refine zR ?_; refine qY ?_; intro _ _; refine zX (yN ?_ ?_) <;> (intro h hp k; (try subst k); (try simp only [q_n] at hp); try first | omega | (cases hp; done));
 refine zY (zZ ?_); refine yA ?_; refine yR ?_; refine zP ?_; refine zX (zV ?_); simp only [yX]; rotate_left
 all_goals ((repeat (rename BV _ _ => k; first | cases k | clear k)); try exact zN)
 all_goals
  refine xX (σ3 := σ) ?_
  exact zJ .mk
def passM : Int → Option AV := updA (updA (updA (updA (updA (fun _ => none) 1 (.fn (.func 48) [] [])) 2 (.fn (.func 49) [] [])) 3 (.fn (.func 50) [] [])) 4 (.fn (.func 51) [] [])) 5 (.fn (.func 52) [] [])
theorem do_ok (B : List (List Sl)) (L : List Pk) (A : List Ap) (r : Ps) (hR : Rt B L A) (g : Nat) (hen : Enters Tryz.prog g) (hz : passM r.k = some (.fn (.func g) [] [])) (B1 : List (List Sl)) (L1 : List Pk)
  (hm : ∀ b σ, SCall Tryz.prog g [.ptr b 0, psV r] (stE b B L A :: σ) (Is (.int .i64 0) (.cells b (stC B1 L1 A) 102 :: σ))) (σ : List Ent) :
  SCall Tryz.prog 20 [.agg (stC B L A), psV r] σ (Is (.tup [.agg (stC B1 L1 A), .int .i64 0]) σ) := by
 refine zL Tryz.func20 rfl (by simp) ?_
 have hr := fun σ => right_c B L A hR σ
 clear hR
 unfold passM at hz
 refine zY (zZ ?_); refine xB ?_; intro _; refine xB ?_; intro _; refine xK ?_; intro _; refine zP ?_; refine zX (zY (zY (zZ ?_))); refine yA ?_; apply yE; rfl; rfl; rfl; (refine yJ ?_; exact hr _); intro _ _; refine qY ?_; intro _ _; refine zX (yN ?_ ?_) <;> (intro h hp k; (try subst k); (try simp only [q_n] at hp); try first | omega | (cases hp; done));
 refine zY (zZ ?_); refine yA ?_; refine yR ?_; refine zP ?_; refine zX (zV ?_); simp only [yX]; rotate_left; refine zW (zY (zZ ?_)); refine exl_map rfl rfl rfl (by exact g_makeMap) ?_; intro _; refine vT rfl rfl (uQ rfl rfl rfl rfl (by (exact Upd.here)) rfl) ?_; refine vT rfl rfl (uQ rfl rfl rfl rfl (by (exact Upd.here)) rfl) ?_; refine vT rfl rfl (uQ rfl rfl rfl rfl (by (exact Upd.here)) rfl) ?_; refine vT rfl rfl (uQ rfl rfl rfl rfl (by (exact Upd.here)) rfl) ?_; refine vT rfl rfl (uQ rfl rfl rfl rfl (by (exact Upd.here)) rfl) ?_; refine zR ?_; refine yG ?_; show EXL _ _ _ ({ dst := _, op := .lookup _ _ _ true, type := _, pos := _, after := _, guard := _ } :: _) _ _; refine zU rfl rfl rfl (g_lookupOk (v := .fn (.func g) [] []) (ok := true) rfl rfl (by repeat first | exact q_h | apply q_t | assumption) rfl rfl (by rw [hz]; rfl) (by rw [hz]; rfl)) ?_; refine zR ?_; (iterate 2 refine tG ?_); (iterate 2 refine zP ?_); refine zX (zY (zY (zZ ?_))); refine zR ?_; refine qY ?_; intro _ _; refine zX (yN ?_ ?_) <;> (intro h hp k; (try subst k); (try simp only [q_n] at hp); try first | omega | (cases hp; done));
 refine zW (zY (zZ ?_)); refine yA ?_; refine uA ?_; refine xK ?_; intro _; refine yR ?_; refine zX (zY (zY (zZ ?_))); refine zR ?_; refine yA ?_; refine zU rfl rfl rfl (xJ rfl rfl hen (hm _ _)) ?_; refine zP ?_; refine zX (zY (zZ ?_)); refine zR ?_; refine zD ?_ ?_ <;> (intro h hp; (try simp only [q_n] at hp); try first | omega | (cases hp; done));
 refine zW (zY (zZ ?_)); refine uZ ?_; refine yA ?_; refine yR ?_; refine zP ?_; refine zX (zV ?_); simp only [yX]; rotate_left
 all_goals ((repeat (rename BV _ _ => k; first | cases k | clear k)); try exact zN)
 all_goals
  refine xX (σ3 := σ) ?_
  exact zJ .mk
theorem do_err (B : List (List Sl)) (L : List Pk) (A : List Ap) (r : Ps) (hR : Rt B L A) (g : Nat) (hen : Enters Tryz.prog g) (hz : passM r.k = some (.fn (.func g) [] [])) (x1 x2 x3 : AV) (e : Int) (he : e ≠ 0)
  (hm : ∀ b σ, SCall Tryz.prog g [.ptr b 0, psV r] (stE b B L A :: σ) (Is (.int .i64 e) (.cells b [x1, x2, x3] 102 :: σ))) (σ : List Ent) :
  SCall Tryz.prog 20 [.agg (stC B L A), psV r] σ (Is (.tup [rnd0, .int .i64 e]) σ) := by
 refine zL Tryz.func20 rfl (by simp) ?_
 have hr := fun σ => right_c B L A hR σ
 clear hR
 unfold passM at hz
 refine zY (zZ ?_); refine xB ?_; intro _; refine xB ?_; intro _; refine xK ?_; intro _; refine zP ?_; refine zX (zY (zY (zZ ?_))); refine yA ?_; apply yE; rfl; rfl; rfl; (refine yJ ?_; exact hr _); intro _ _; refine qY ?_; intro _ _; refine zX (yN ?_ ?_) <;> (intro h hp k; (try subst k); (try simp only [q_n] at hp); try first | omega | (cases hp; done));
 refine zY (zZ ?_); refine yA ?_; refine yR ?_; refine zP ?_; refine zX (zV ?_); simp only [yX]; rotate_left; refine zW (zY (zZ ?_)); refine exl_map rfl rfl rfl (by exact g_makeMap) ?_; intro _; refine vT rfl rfl (uQ rfl rfl rfl rfl (by (exact Upd.here)) rfl) ?_; refine vT rfl rfl (uQ rfl rfl rfl rfl (by (exact Upd.here)) rfl) ?_; refine vT rfl rfl (uQ rfl rfl rfl rfl (by (exact Upd.here)) rfl) ?_; refine vT rfl rfl (uQ rfl rfl rfl rfl (by (exact Upd.here)) rfl) ?_; refine vT rfl rfl (uQ rfl rfl rfl rfl (by (exact Upd.here)) rfl) ?_; refine zR ?_; refine yG ?_; show EXL _ _ _ ({ dst := _, op := .lookup _ _ _ true, type := _, pos := _, after := _, guard := _ } :: _) _ _; refine zU rfl rfl rfl (g_lookupOk (v := .fn (.func g) [] []) (ok := true) rfl rfl (by repeat first | exact q_h | apply q_t | assumption) rfl rfl (by rw [hz]; rfl) (by rw [hz]; rfl)) ?_; refine zR ?_; (iterate 2 refine tG ?_); (iterate 2 refine zP ?_); refine zX (zY (zY (zZ ?_))); refine zR ?_; refine qY ?_; intro _ _; refine zX (yN ?_ ?_) <;> (intro h hp k; (try subst k); (try simp only [q_n] at hp); try first | omega | (cases hp; done));
 refine zW (zY (zZ ?_)); refine yA ?_; refine uA ?_; refine xK ?_; intro _; refine yR ?_; refine zX (zY (zY (zZ ?_))); refine zR ?_; refine yA ?_; refine zU rfl rfl rfl (xJ rfl rfl hen (hm _ _)) ?_; refine zP ?_; refine zX (zY (zZ ?_)); refine zR ?_; refine zD ?_ ?_ <;> (intro h hp; (try simp only [q_n] at hp); try first | omega | (cases hp; done));
 refine zY (zZ ?_); refine yA ?_; refine zR ?_; refine yR ?_; refine zP ?_; refine zX (zV ?_); simp only [yX]; rotate_left
 all_goals ((repeat (rename BV _ _ => k; first | cases k | clear k)); try exact zN)
 all_goals
  refine xX (σ3 := σ) ?_
  exact zJ .mk
theorem new_bad (n : Int) (h : n < 1 ∨ 8 < n) (σ : List Ent) : SCall Tryz.prog 18 [.int .i64 n] σ (Is (.tup [rnd0, .int .i64 1]) σ) := by
 refine zL Tryz.func18 rfl (by simp) ?_
 have hi : ∀ σ, SCall Tryz.prog 44 [.int .i64 n, .int .i64 1, .int .i64 8] σ (Is (.bool false) σ) := fun σ => by
  have h0 := in_c n 1 8 σ
  rwa [show inB n 1 8 = false by unfold inB; simp; omega] at h0
 clear h
 refine zY (zZ ?_); refine xK ?_; intro _; refine zP ?_; refine zX (zY (zY (zZ ?_))); refine zR ?_; apply yE; rfl; rfl; rfl; (refine yJ ?_; exact hi _); intro _ _; refine qY ?_; intro _ _; refine zX (yN ?_ ?_) <;> (intro h hp k; (try subst k); (try simp only [q_n] at hp); try first | omega | (cases hp; done));
 refine zY (zZ ?_); refine yA ?_; refine yR ?_; refine zP ?_; refine zX (zV ?_); simp only [yX]; rotate_left; refine zW (zY ?_); rotate_left
 all_goals ((repeat (rename BV _ _ => k; first | cases k | clear k)); try exact zN)
 refine xX (σ3 := σ) ?_
 exact zJ .mk
theorem view3 {M : Mem} {n : Nat} {x y z : AV} {u : Value} (h : VRel M (.tup [.agg [.dl 1 (List.replicate n [.slv nilS]), x, y], z]) u) : VRel M (.tup [.agg [.dl 1 (List.replicate n [.dl 8 []]), x, y], z]) u := by
 simp only [VRel, VRels] at h ⊢
 obtain ⟨vs, rfl, v, r, h1, ⟨ws, rfl, w, r2, h2, h3, h4⟩, h5⟩ := h
 exact ⟨vs, rfl, _, r, h1, ⟨ws, rfl, w, r2, h2, by have := nils_view (sz := 8) (by simpa only [VRel] using h3); simpa only [VRel] using this, h4⟩, h5⟩
theorem new_ok (n : Nat) (h : 1 ≤ n ∧ n ≤ 8) (σ : List Ent) : SCall Tryz.prog 18 [.int .i64 n] σ (Is (.tup [.agg (stC (List.replicate n []) [] []), .int .i64 0]) σ) := by
 refine zL Tryz.func18 rfl (by simp) ?_
 have hi : ∀ σ, SCall Tryz.prog 44 [.int .i64 n, .int .i64 1, .int .i64 8] σ (Is (.bool true) σ) := fun σ => by
  have h0 := in_c n 1 8 σ
  rwa [show inB n 1 8 = true by unfold inB; simp; omega] at h0
 refine zY (zZ ?_); refine xK ?_; intro _; refine zP ?_; refine zX (zY (zY (zZ ?_))); refine zR ?_; apply yE; rfl; rfl; rfl; (refine yJ ?_; exact hi _); intro _ _; refine qY ?_; intro _ _; refine zX (yN ?_ ?_) <;> (intro h hp k; (try subst k); (try simp only [q_n] at hp); try first | omega | (cases hp; done));
 refine zY (zZ ?_); refine yA ?_; refine yR ?_; refine zP ?_; refine zX (zV ?_); simp only [yX]; rotate_left; refine zW (zY ?_); rotate_left
 all_goals ((repeat (rename BV _ _ => k; first | cases k | clear k)); try exact zN)
 have hni : ((n : Nat) : Int) = ((n : Nat) : Int) := rfl
 refine uS anyK 4 [0, 2, 1, 3] [2] rfl (by kernel_rfl) rfl (by kernel_rfl) rfl ?_
 simp only [pick, List.filterMap_cons, List.filterMap_nil, List.getElem?_cons_zero, List.getElem?_cons_succ, wU]
 refine xU ?_; apply yY; rfl; rfl; rfl; (intro σ' hl; (refine yJ ?_; exact netnew_c _)); refine wl_row rfl rfl rfl (by apply g_makeSlice; rfl; rfl; rfl; rfl; (rfl); (rfl); (refine wP ?_ (by kernel_rfl); (omega))) ?_; intro _; apply yY; rfl; rfl; rfl; (intro σ' hl; (apply tK <;> rfl)); refine zC (yR ?_); refine zP ?_; refine zX (zV ?_); simp only [yX]; rotate_left
 all_goals ((repeat (rename BV _ _ => k; first | cases k | clear k)); try exact zN)
 rename Value => v
 refine xX (σ3 := .row v 24 1 (List.replicate n [.slv nilS]) :: σ) ?_
 refine vV .here (.tup (.agg (.here (.same (.same .nil))) (.same .nil)) .nil) ?_
 refine fin_view (fun M u hv => view3 hv) ?_
 refine wJ (sz := 3) (.tup (.agg (.same (.here (.same .nil))) (.same .nil)) .nil) ?_
 refine wJ (sz := 2) (.tup (.agg (.same (.same (.here .nil))) (.same .nil)) .nil) ?_
 rw [show stC (List.replicate n []) [] [] = [.dl 1 (List.replicate n [.dl 8 []]), .dl 3 [], .dl 2 []] by show [AV.dl 1 ((List.replicate n ([] : List Sl)).map bkC), _, _] = _; rw [List.map_replicate]; rfl]
 exact zJ .mk
section
variable {α : Type}
def swp2 (L : List α) (i j : Nat) : List α := match L[i]?, L[j]? with
 | some x, some y => (L.set i y).set j x
 | _, _ => L
theorem set_app {A B : List α} {x y : α} : (A ++ x :: B).set A.length y = A ++ y :: B := by simp
theorem swp2_app {A B C : List α} {x y : α} : swp2 (A ++ x :: B ++ y :: C) A.length (A.length + 1 + B.length) = A ++ y :: B ++ x :: C := by
 have h1 : (A ++ x :: B ++ y :: C)[A.length]? = some x := by simp
 have h2 : (A ++ x :: B ++ y :: C)[A.length + 1 + B.length]? = some y := by
  rw [show A ++ x :: B ++ y :: C = (A ++ x :: B) ++ y :: C by simp, List.getElem?_append_right (by simp; omega)]
  simp [show A.length + 1 + B.length - (A.length + (B.length + 1)) = 0 by omega]
 unfold swp2
 rw [h1, h2]
 dsimp only
 rw [show A ++ x :: B ++ y :: C = A ++ x :: (B ++ y :: C) by simp, set_app]
 have e : A ++ y :: (B ++ y :: C) = (A ++ y :: B) ++ y :: C := by simp
 rw [e, show A.length + 1 + B.length = (A ++ y :: B).length by simp; omega, set_app]
theorem swp2_up {A C : List α} {x y : α} : swp2 (A ++ x :: y :: C) A.length (A.length + 1) = A ++ y :: x :: C := by
 have := swp2_app (A := A) (B := []) (C := C) (x := x) (y := y)
 simpa using this
theorem swp2_down {A C : List α} {x y : α} : swp2 (A ++ x :: y :: C) (A.length + 1) A.length = A ++ y :: x :: C := by
 have h1 : (A ++ x :: y :: C)[A.length]? = some x := by simp
 have h2 : (A ++ x :: y :: C)[A.length + 1]? = some y := by
  rw [List.getElem?_append_right (by omega)]; simp
 have h3 := swp2_up (A := A) (C := C) (x := x) (y := y)
 unfold swp2 at h3 ⊢
 rw [h1, h2] at h3 ⊢
 dsimp only at h3 ⊢
 rw [List.set_comm _ _ (by omega)]; exact h3
theorem swap_range {A X B Y C : List α} (h : X.length = Y.length) {k : Nat} (hk : k < X.length) :
  swp2 (A ++ (Y.take k ++ X.drop k) ++ B ++ (X.take k ++ Y.drop k) ++ C) (A.length + k) (A.length + X.length + B.length + k) = A ++ (Y.take (k + 1) ++ X.drop (k + 1)) ++ B ++ (X.take (k + 1) ++ Y.drop (k + 1)) ++ C := by
 obtain ⟨x, hx⟩ : ∃ x, X[k]? = some x := yW hk
 obtain ⟨y, hy⟩ : ∃ y, Y[k]? = some y := yW (by omega)
 have dx : X.drop k = x :: X.drop (k + 1) := by
  obtain ⟨h1, h2⟩ := List.getElem?_eq_some_iff.1 hx
  rw [List.drop_eq_getElem_cons h1, h2]
 have dy : Y.drop k = y :: Y.drop (k + 1) := by
  obtain ⟨h1, h2⟩ := List.getElem?_eq_some_iff.1 hy
  rw [List.drop_eq_getElem_cons h1, h2]
 have tx : X.take (k + 1) = X.take k ++ [x] := by rw [List.take_add_one, hx]; rfl
 have ty : Y.take (k + 1) = Y.take k ++ [y] := by rw [List.take_add_one, hy]; rfl
 rw [dx, dy, tx, ty]
 have l1 : (A ++ Y.take k).length = A.length + k := by simp; omega
 have l2 : (A ++ Y.take k).length + 1 + (X.drop (k + 1) ++ B ++ X.take k).length = A.length + X.length + B.length + k := by simp; omega
 have := swp2_app (A := A ++ Y.take k) (B := X.drop (k + 1) ++ B ++ X.take k) (C := Y.drop (k + 1) ++ C) (x := x) (y := y)
 rw [l2, l1] at this
 have e1 : A ++ (Y.take k ++ x :: X.drop (k + 1)) ++ B ++ (X.take k ++ y :: Y.drop (k + 1)) ++ C = A ++ Y.take k ++ x :: (X.drop (k + 1) ++ B ++ X.take k) ++ y :: (Y.drop (k + 1) ++ C) := by simp
 have e2 : A ++ (Y.take k ++ [y] ++ X.drop (k + 1)) ++ B ++ (X.take k ++ [x] ++ Y.drop (k + 1)) ++ C = A ++ Y.take k ++ y :: (X.drop (k + 1) ++ B ++ X.take k) ++ x :: (Y.drop (k + 1) ++ C) := by simp
 rw [e1, e2]; exact this
end
def Left (X Y : List Ey) : Prop := ∀ x ∈ X, ∀ y ∈ Y, x.2.hour = y.2.hour → x.1 < y.1
theorem left_lt {X Y : List Ey} (h : Left X Y) {x y : Ey} (hx : x ∈ X) (hy : y ∈ Y) : (y.2.hour < x.2.hour ↔ qL y x) ∧ (¬ y.2.hour < x.2.hour ↔ qL x y) := by
 have := h x hx y hy
 unfold qL
 constructor <;> constructor <;> intro h <;> omega
structure MergedE (X Y S : List Ey) : Prop where
 perm : S.Perm (X ++ Y)
 up : S.Pairwise qL
theorem merged_two {A B C D S T : List Ey} (h1 : MergedE A C S) (h2 : MergedE B D T) (hx : ∀ x ∈ A ++ C, ∀ y ∈ B ++ D, qL x y) : MergedE (A ++ B) (C ++ D) (S ++ T) := by
 refine ⟨?_, List.pairwise_append.2 ⟨h1.up, h2.up, fun x hx' y hy => hx x (h1.perm.mem_iff.1 hx') y (h2.perm.mem_iff.1 hy)⟩⟩
 have := h1.perm.append h2.perm
 refine this.trans ?_
 rw [show A ++ C ++ (B ++ D) = A ++ (C ++ B) ++ D by simp, show A ++ B ++ (C ++ D) = A ++ (B ++ C) ++ D by simp]
 exact ((List.perm_append_comm (l₁ := C) (l₂ := B)).append_left A).append_right D
theorem left_sub {X Y X' Y' : List Ey} (h : Left X Y) (hx : ∀ x ∈ X', x ∈ X) (hy : ∀ y ∈ Y', y ∈ Y) : Left X' Y' := fun x h1 y h2 => h x (hx x h1) y (hy y h2)
theorem merged_one_left {x : Ey} {Y1 Y2 : List Ey} (h : (Y1 ++ Y2).Pairwise qL) (h1 : ∀ y ∈ Y1, qL y x) (h2 : ∀ y ∈ Y2, qL x y) : MergedE [x] (Y1 ++ Y2) (Y1 ++ x :: Y2) := by
 refine ⟨?_, ?_⟩
 ·exact List.perm_middle
 ·rw [List.pairwise_append] at h ⊢
  refine ⟨h.1, List.pairwise_cons.2 ⟨h2, h.2.1⟩, fun y hy z hz => ?_⟩
  rcases List.mem_cons.1 hz with rfl | hz
  ·exact h1 y hy
  ·exact h.2.2 y hy z hz
theorem merged_one_right {x : Ey} {Y1 Y2 : List Ey} (h : (Y1 ++ Y2).Pairwise qL) (h1 : ∀ y ∈ Y1, qL y x) (h2 : ∀ y ∈ Y2, qL x y) : MergedE (Y1 ++ Y2) [x] (Y1 ++ x :: Y2) := by
 have := merged_one_left h h1 h2
 exact ⟨this.perm.trans List.perm_append_comm, this.up⟩
theorem cross {A B C D : List Ey} (hX : (A ++ B).Pairwise qL) (hY : (C ++ D).Pairwise qL) (h1 : ∀ x ∈ A, ∀ y ∈ D, qL x y) (h2 : ∀ x ∈ C, ∀ y ∈ B, qL x y) : ∀ x ∈ A ++ C, ∀ y ∈ B ++ D, qL x y := by
 rw [List.pairwise_append] at hX hY
 intro x hx y hy
 rcases List.mem_append.1 hx with hx | hx
 ·rcases List.mem_append.1 hy with hy | hy
  ·exact hX.2.2 x hx y hy
  ·exact h1 x hx y hy
 ·rcases List.mem_append.1 hy with hy | hy
  ·exact h2 x hx y hy
  ·exact hY.2.2 x hx y hy
theorem left_one {X Y : List Ey} {x y : Ey} (h : Left X Y) (hx : x ∈ X) (hy : y ∈ Y) : (¬ y.2.hour < x.2.hour → qL x y) ∧ (y.2.hour < x.2.hour → qL y x) := ⟨(left_lt h hx hy).2.1, (left_lt h hx hy).1.1⟩
theorem drop_get {α : Type} {l : List α} {k : Nat} {c : α} (h : l[k]? = some c) : l.drop k = c :: l.drop (k + 1) := by
 obtain ⟨h1, h2⟩ := List.getElem?_eq_some_iff.1 h
 rw [List.drop_eq_getElem_cons h1, h2]
theorem take_get {α : Type} {l : List α} {k : Nat} {c : α} (h : l[k]? = some c) : l.take (k + 1) = l.take k ++ [c] := by rw [List.take_add_one, h]; rfl
theorem take_lt {X : List Ey} (hX : X.Pairwise qL) {k : Nat} {c z : Ey} (hc : X[k]? = some c) (h : qL c z) : ∀ x ∈ X.take (k + 1), qL x z := by
 rw [take_get hc]
 have hp := hX.take (i := k + 1)
 rw [take_get hc, List.pairwise_append] at hp
 intro x hx
 rcases List.mem_append.1 hx with hx | hx
 ·exact ltE_trans (hp.2.2 x hx c (by simp)) h
 ·rw [List.mem_singleton] at hx; subst hx; exact h
theorem drop_lt {X : List Ey} (hX : X.Pairwise qL) {k : Nat} {c z : Ey} (hc : X[k]? = some c) (h : qL z c) : ∀ x ∈ X.drop k, qL z x := by
 have hp := hX.drop (i := k)
 rw [drop_get hc] at hp ⊢
 rw [List.pairwise_cons] at hp
 intro x hx
 rcases List.mem_cons.1 hx with rfl | hx
 ·exact h
 ·exact ltE_trans h (hp.1 x hx)
theorem merged_left_at {x : Ey} {Y : List Ey} (hY : Y.Pairwise qL) (hL : Left [x] Y) {k : Nat} (hk : k ≤ Y.length) (h1 : ∀ y, 0 < k → Y[k - 1]? = some y → y.2.hour < x.2.hour) (h2 : ∀ y, Y[k]? = some y → ¬ y.2.hour < x.2.hour) : MergedE [x] Y (Y.take k ++ x :: Y.drop k) := by
 have := merged_one_left (x := x) (Y1 := Y.take k) (Y2 := Y.drop k) (by rw [List.take_append_drop]; exact hY) ?_ ?_
 ·rwa [List.take_append_drop] at this
 ·cases k with
  | zero => simp
  | succ k =>
   obtain ⟨c, hc⟩ : ∃ c, Y[k]? = some c := yW (by omega)
   have := (left_one hL (by simp : x ∈ [x]) (List.mem_of_getElem? hc)).2 (h1 c (by omega) hc)
   exact take_lt hY hc this
 ·by_cases hkl : k < Y.length
  ·obtain ⟨c, hc⟩ : ∃ c, Y[k]? = some c := yW hkl
   have := (left_one hL (by simp : x ∈ [x]) (List.mem_of_getElem? hc)).1 (h2 c hc)
   exact drop_lt hY hc this
  ·rw [List.drop_of_length_le (by omega)]; simp
theorem merged_right_at {y : Ey} {X : List Ey} (hX : X.Pairwise qL) (hL : Left X [y]) {k : Nat} (hk : k ≤ X.length) (h1 : ∀ x, 0 < k → X[k - 1]? = some x → ¬ y.2.hour < x.2.hour) (h2 : ∀ x, X[k]? = some x → y.2.hour < x.2.hour) : MergedE X [y] (X.take k ++ y :: X.drop k) := by
 have := merged_one_right (x := y) (Y1 := X.take k) (Y2 := X.drop k) (by rw [List.take_append_drop]; exact hX) ?_ ?_
 ·rwa [List.take_append_drop] at this
 ·cases k with
  | zero => simp
  | succ k =>
   obtain ⟨c, hc⟩ : ∃ c, X[k]? = some c := yW (by omega)
   have := (left_one hL (List.mem_of_getElem? hc) (by simp : y ∈ [y])).1 (h1 c (by omega) hc)
   exact take_lt hX hc this
 ·by_cases hkl : k < X.length
  ·obtain ⟨c, hc⟩ : ∃ c, X[k]? = some c := yW hkl
   have := (left_one hL (List.mem_of_getElem? hc) (by simp : y ∈ [y])).2 (h2 c hc)
   exact drop_lt hX hc this
  ·rw [List.drop_of_length_le (by omega)]; simp
theorem sym_parts {X Y : List Ey} (hX : X.Pairwise qL) (hY : Y.Pairwise qL) (hL : Left X Y) {s e : Nat} (hs : s ≤ X.length) (he : e ≤ Y.length)
  (h1 : ∀ x y, 0 < s → X[s - 1]? = some x → Y[e]? = some y → ¬ y.2.hour < x.2.hour) (h2 : ∀ x y, 0 < e → X[s]? = some x → Y[e - 1]? = some y → y.2.hour < x.2.hour) :
  ∀ x ∈ X.take s ++ Y.take e, ∀ y ∈ X.drop s ++ Y.drop e, qL x y := by
 refine cross (by rw [List.take_append_drop]; exact hX) (by rw [List.take_append_drop]; exact hY) ?_ ?_
 ·intro x hx y hy
  cases s with
  | zero => simp at hx
  | succ s =>
   by_cases hel : e < Y.length
   ·obtain ⟨c, hc⟩ : ∃ c, X[s]? = some c := yW (by omega)
    obtain ⟨d, hd⟩ : ∃ d, Y[e]? = some d := yW hel
    have hlt := (left_one hL (List.mem_of_getElem? hc) (List.mem_of_getElem? hd)).1 (h1 c d (by omega) hc hd)
    have h3 := take_lt hX hc hlt x hx
    exact drop_lt hY hd h3 y hy
   ·rw [List.drop_of_length_le (by omega)] at hy; simp at hy
 ·intro x hx y hy
  cases e with
  | zero => simp at hx
  | succ e =>
   by_cases hsl : s < X.length
   ·obtain ⟨c, hc⟩ : ∃ c, X[s]? = some c := yW hsl
    obtain ⟨d, hd⟩ : ∃ d, Y[e]? = some d := yW (by omega)
    have hlt := (left_one hL (List.mem_of_getElem? hc) (List.mem_of_getElem? hd)).2 (h2 c d (by omega) hc hd)
    have h3 := take_lt hY hd hlt x hx
    exact drop_lt hX hc h3 y hy
   ·rw [List.drop_of_length_le (by omega)] at hy; simp at hy
theorem ins_up {S1 S2 : List Ey} {x : Ey} (h : (S1 ++ S2).Pairwise qL) (h1 : ∀ y ∈ S1, qL y x) (h2 : ∀ y ∈ S2, qL x y) : (S1 ++ x :: S2).Pairwise qL := (merged_one_left h h1 h2).up
theorem wrapU {n : Int} (h : 0 ≤ n ∧ n ≤ 9223372036854775807) : IntKind.u64.wrap n = n := by
 simp only [IntKind.wrap, IntKind.bits, IntKind.signed]
 simp
 omega
theorem g_convU {P : Program} {ro : Option Nat} {env : Env} {σ : List Ent} {dst : Option Tmp} {ty : TypeId} {pos : String} {after : Array Edge} {guard : Option (Nat × Bool)} {s t : TypeId} {x : Operand} {k' ks : IntKind} {n : Int} (hs : P.underlying s = some (.int ks)) (ht : P.underlying t = some (.int .u64)) (hx : xP env x = some (.int k' n)) (hn : 0 ≤ n ∧ n ≤ 9223372036854775807) :
  GOp P ro ⟨dst, .convert s t x, ty, pos, after, guard⟩ env σ (Is (.int .u64 n) σ) :=
 xZ _ (by intro c h; cases h) fun X M e w hg ho => by
  have h1 := ho x (by simp [Op.operands]) _ hx
  simp only [VRel] at h1
  refine ⟨.int .u64 n, by simp [VRel], ?_⟩
  have hw : IntKind.u64.wrap n = n := wrapU hn
  simp [execOp, h1, convert, Sem.run_bind, run_underlying hs, run_underlying ht, Conv.intToInt, hw]
theorem g_halfU {P : Program} {ro : Option Nat} {env : Env} {σ : List Ent} {dst : Option Tmp} {ty : TypeId} {pos : String} {after : Array Edge} {guard : Option (Nat × Bool)} {x y : Operand} {t yt : TypeId} {k' : IntKind} {a b : Int} {m : Nat} (hx : xP env x = some (.int .u64 a)) (hy : xP env y = some (.int k' b)) (hb : b = 1) (ha : a = (m : Int)) :
  GOp P ro ⟨dst, .binOp .shr t x y yt, ty, pos, after, guard⟩ env σ (Is (.int .u64 ((m / 2 : Nat) : Int)) σ) := by
 subst ha hb
 refine g_bits (c := ((m : Int)).fdiv (2 ^ min 1 64)) hx hy (.inr (.inr rfl)) ?_ ?_
 ·show (if (1 : Int) < 0 then none else some (((m : Int)).fdiv (2 ^ min (1 : Int).toNat 64))) = _
  rw [if_neg (by omega)]; rfl
 ·rw [Int.fdiv_eq_ediv_of_nonneg _ (by decide)]
  show (m : Int) / 2 = _
  omega
abbrev entC (e : Ey) : List AV := [.int .i64 e.1, .int .i64 e.2.tab, .int .i64 e.2.seq, .int .i64 e.2.kind, .int .i64 e.2.turn, .int .i64 e.2.farm, .int .i64 e.2.hour, .int .i64 e.2.lit, .int .i64 e.2.off]
abbrev entF' : AV := .fn (.func 35) [] []
theorem tH {l : List Ey} {k : Nat} {x : Ey} (h : l[k]? = some x) : (l.map entC)[k]? = some (entC x) := by rw [List.getElem?_map, h]; rfl
theorem swp2_map {L : List Ey} {p q : Nat} {x y : Ey} (h1 : L[p]? = some x) (h2 : L[q]? = some y) : ((L.map entC).set p (entC y)).set q (entC x) = (swp2 L p q).map entC := by
 unfold swp2; rw [h1, h2]; simp [List.map_set]
theorem less_c (x y : Ey) (σ : List Ent) : SCall Tryz.prog 35 [.agg (entC x), .agg (entC y)] σ (Is (.int .i64 (qJ x.2.hour y.2.hour)) σ) := by
 refine zL Tryz.func35 rfl (by simp) ?_
 refine zY (zZ ?_); refine xB ?_; intro _; refine xB ?_; intro _; refine zP ?_; refine zX (zY (zZ ?_)); refine uZ ?_; refine yG ?_; refine uZ ?_; refine yG ?_; apply zU; rfl; rfl; rfl; (refine yJ ?_; exact cmpI_c _ _ _); refine zP ?_; refine zX (zV ?_); simp only [yX]; rotate_left
 all_goals ((repeat (rename BV _ _ => k; first | cases k | clear k)); try exact zN)
 refine xW ?_
 rfl
theorem swapRange_c (A X B Y C : List Ey) (pa pb n : Nat) (hpa : A.length = pa) (hn : X.length = n) (hn2 : Y.length = n) (hpb : pa + n + B.length = pb) (hl : (A ++ X ++ B ++ Y ++ C).length ≤ 100000) (v : Value) (σ : List Ent) :
  SCall Tryz.prog 155 [.slv v, .int .i64 pa, .int .i64 pb, .int .i64 n, entF'] (.row v 80 9 ((A ++ X ++ B ++ Y ++ C).map entC) :: σ) (fun r τ => r = .tup [] ∧ τ = .row v 80 9 ((A ++ Y ++ B ++ X ++ C).map entC) :: σ) := by
 refine zL Tryz.func155 rfl (by simp) ?_
 refine zY (zZ ?_); refine zP ?_; refine zX (zT ?_); rotate_left
 all_goals ((repeat (rename BV _ _ => k; first | cases k | clear k)); try exact zN)
 refine yD (fun (k : Nat) => (⟨[(0, .slv v), (1, .int .i64 pa), (2, .int .i64 pb), (3, .int .i64 n), (10, .int .i64 k)], .row v 80 9 ((A ++ (Y.take k ++ X.drop k) ++ B ++ (X.take k ++ Y.drop k) ++ C).map entC) :: σ, [], Tryz.f155.ntmps⟩ : St)) (fun k => k ≤ n) (fun k => n - k) 0 (Nat.zero_le _) (St.le_of (by repeat (first | exact trivial | refine ⟨rfl, ?_⟩)) (by repeat (first | exact q_r | apply q_q | apply q_k))) ?_
 intro k hI
 by_cases hk : k < n
 ·have hst := swap_range (A := A) (B := B) (C := C) (X := X) (Y := Y) (by omega) (k := k) (by omega)
  rw [hpa, hn, hpb] at hst
  obtain ⟨L, hL⟩ : ∃ L, A ++ (Y.take k ++ X.drop k) ++ B ++ (X.take k ++ Y.drop k) ++ C = L := ⟨_, rfl⟩
  have hLl : L.length = pa + n + B.length + n + C.length := by rw [← hL]; simp; omega
  have hLb : L.length ≤ 100000 := by simp at hl; omega
  rw [hL] at hst ⊢
  obtain ⟨x, hx⟩ : ∃ x, L[pa + k]? = some x := yW (by omega)
  obtain ⟨y, hy⟩ : ∃ y, L[pb + k]? = some y := yW (by omega)
  have hgx := tH hx
  have hgy := tH hy
  have hz1 : (pa : Int) + (k : Int) = ((pa + k : Nat) : Int) := by omega
  have hz2 : (pb : Int) + (k : Int) = ((pb + k : Nat) : Int) := by omega
  have hw := swp2_map hx hy
  rw [hst] at hw
  have hlm : (L.map entC).length = L.length := List.length_map _
  clear hst hL hl
  refine ex_rowV (L := L.map entC) (.head _) (fun e => by rw [List.map_eq_nil_iff] at e; subst e; cases hx) ?_
  rintro g cap rfl
  rw [hlm]
  refine zY (zY (zZ ?_)); (iterate 2 refine zR ?_); refine zD ?_ ?_ <;> (intro h hp; (try simp only [q_n] at hp); try first | omega | (cases hp; done));
  refine zW (zY (zT ?_)); rotate_left
  all_goals ((repeat (rename BV _ _ => k; first | cases k | clear k)); try exact zN)
  refine wA (fun _ => False) [13, 19, 21] 22 rfl (by kernel_rfl) rfl ?_
  simp only [wU]
  refine yL ?_; refine tP ?_; refine yL ?_; refine tP ?_; refine yL ?_; refine tP ?_; refine yL ?_; apply yS; rfl; rfl; (intro σ' hl; (apply g_add; rfl; rfl; rfl; exact ⟨by omega, by omega⟩)); refine yL ?_; refine tP ?_; refine yL ?_; refine tP ?_; refine yL ?_; refine tP ?_; refine yL ?_; apply yS; rfl; rfl; (intro σ' hl; (apply g_add; rfl; rfl; rfl; exact ⟨by omega, by omega⟩)); refine yL ?_; refine tP ?_; refine yL ?_; refine tP ?_; refine yL ?_; refine tP ?_; refine yL ?_; apply yS; rfl; rfl; (intro σ' hl; (apply g_add; rfl; rfl; rfl; exact ⟨by omega, by omega⟩)); refine yL ?_; apply yS; rfl; rfl; (intro σ' hl; (apply wB; rfl; rfl; rfl; (assumption); (omega))); refine yL ?_; refine tP ?_; refine yL ?_; refine tP ?_; refine yL ?_; refine tP ?_; refine yL ?_; apply yS; rfl; rfl; (intro σ' hl; (apply g_add; rfl; rfl; rfl; exact ⟨by omega, by omega⟩)); refine yL ?_; apply yS; rfl; rfl; (intro σ' hl; (apply wB; rfl; rfl; rfl; (assumption); (omega))); refine drf_two rfl rfl rfl ?_ ?_; apply uL; rfl; rfl; (apply wY; rfl; decide; rfl; (exact .k0 (by repeat first | exact q_h | apply q_t | assumption) (by assumption) rfl rfl)); refine yP rfl rfl ?_; apply uL; rfl; rfl; (apply wY; rfl; decide; rfl; (exact .k0 (by repeat first | exact q_h | apply q_t | assumption) (by assumption) rfl rfl)); refine yL ?_; apply yS; rfl; rfl; (intro σ' hl; (apply wB; rfl; rfl; rfl; (assumption); (omega))); refine yP rfl rfl ?_; apply wF; rfl; rfl; (focus (apply vY; rfl; rfl; rfl; rfl; rfl; rfl; rotate_left; (exact Upd.here); (omega))); (rintro _ (rfl | rfl | rfl) _ <;> exact (by repeat first | exact q_h | apply q_t | assumption)); refine wQ rfl ?_; apply zU; rfl; rfl; rfl; (apply yF; rfl; rfl; exact (by repeat first | exact q_h | apply q_t | assumption); rfl; (assumption); (simp only [List.length_map, List.length_set]; omega)); apply vT; rfl; rfl; focus (apply vY; rfl; rfl; rfl; rfl; rfl; rfl; rotate_left; (exact Upd.here); (simp only [List.length_set, List.length_map]; omega));
  refine zQ (zZ (zR ?_)); refine vX ?_; refine zP ?_; refine zQ ?_; simp only [zA, zF, zE, zH, yK, ↓reduceIte, Nat.reduceEqDiff]; rotate_left; apply uL; rfl; rfl; (apply wY; rfl; decide; rfl; (exact .k0 (by repeat first | exact q_h | apply q_t | assumption) (by assumption) rfl rfl)); refine yP rfl rfl ?_; apply uL; rfl; rfl; (apply wY; rfl; decide; rfl; (exact .k0 (by repeat first | exact q_h | apply q_t | assumption) (by assumption) rfl rfl)); refine yL ?_; apply yS; rfl; rfl; (intro σ' hl; (apply wB; rfl; rfl; rfl; (assumption); (omega))); refine yP rfl rfl ?_; apply wF; rfl; rfl; (focus (apply vY; rfl; rfl; rfl; rfl; rfl; rfl; rotate_left; (exact Upd.here); (omega))); (rintro _ (rfl | rfl | rfl) _ <;> exact (by repeat first | exact q_h | apply q_t | assumption)); refine wQ rfl ?_; apply zU; rfl; rfl; rfl; (apply yF; rfl; rfl; exact (by repeat first | exact q_h | apply q_t | assumption); rfl; (assumption); (simp only [List.length_map, List.length_set]; omega)); apply vT; rfl; rfl; focus (apply vY; rfl; rfl; rfl; rfl; rfl; rfl; rotate_left; (exact Upd.here); (simp only [List.length_set, List.length_map]; omega));
  refine zQ (zZ (zR ?_)); refine vX ?_; refine zP ?_; refine zQ ?_; simp only [zA, zF, zE, zH, yK, ↓reduceIte, Nat.reduceEqDiff]; rotate_left
  all_goals ((repeat (rename BV _ _ => k; first | cases k | clear k)); try exact zN)
  all_goals
   refine ⟨k + 1, hk, by omega, ?_⟩
   rw [← hw]
   exact wW
 ·have e : k = n := by omega
  subst e
  rw [List.take_of_length_le (by omega), List.drop_of_length_le (by omega), List.take_of_length_le (by omega), List.drop_of_length_le (by omega), List.append_nil, List.append_nil]
  refine zY (zY (zZ ?_)); (iterate 2 refine zR ?_); refine zD ?_ ?_ <;> (intro h hp; (try simp only [q_n] at hp); try first | omega | (cases hp; done));
  refine yQ ?_; simp only [yX, ↓reduceIte, Nat.reduceEqDiff]; rotate_left
  all_goals ((repeat (rename BV _ _ => k; first | cases k | clear k)); try exact zN)
  refine xX (σ3 := .row v 80 9 ((A ++ Y ++ B ++ X ++ C).map entC) :: σ) ?_
  exact zJ ⟨rfl, rfl⟩
end Go.Proofs.YtkhoengjdfmfaaaGreat
