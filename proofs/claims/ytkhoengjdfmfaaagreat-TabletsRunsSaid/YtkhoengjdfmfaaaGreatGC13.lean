/- Parts of the proof that belong together: Wi Sin Wj Wk Sbu Ue. -/
import Derived.Test.YtkhoengjdfmfaaaGreatGC03
import Derived.Test.YtkhoengjdfmfaaaGreatGC04
import Derived.Test.YtkhoengjdfmfaaaGreatGC08
import Derived.Test.YtkhoengjdfmfaaaGreatGC10
import Derived.Test.YtkhoengjdfmfaaaGreatGC12
set_option maxRecDepth 10000
set_option linter.unusedSimpArgs false
set_option linter.unusedVariables false
namespace Go.Proofs.YtkhoengjdfmfaaaGreat
set_option maxHeartbeats 8000000 in
theorem ptell_bad (b : Nat) (B : List (List Sl)) (L : List Pk) (r : Ps) (hn : B.length ≤ 8) (hbad : ¬ (0 ≤ r.a ∧ r.a < B.length ∧ 0 ≤ r.t ∧ r.t < B.length ∧ r.a ≠ r.t)) (σ : List Ent) :
    SCall Tryz.prog 49 [.ptr b 0, psV r] (stE b B L :: σ) (Is (.int .i64 1) (stE b B L :: σ)) := by
  refine scall_of Tryz.func49 rfl (by simp) ?_
  have hin : ∀ (x : Int) (σ : List Ent), SCall Tryz.prog 44 [.int .i64 x, .int .i64 0, .int .i64 ((B.length : Int) - 1)] σ (Is (.bool (decide (0 ≤ x ∧ x < B.length))) σ) := fun x σ => by
    have h0 := in_c x 0 ((B.length : Int) - 1) σ
    rwa [show inB x 0 ((B.length : Int) - 1) = decide (0 ≤ x ∧ x < B.length) by unfold inB; rw [Bool.eq_iff_iff]; simp; omega] at h0
  by_cases h1 : 0 ≤ r.a ∧ r.a < B.length
  · have hi1 := hin r.a
    rw [decide_eq_true h1] at hi1
    by_cases h2 : 0 ≤ r.t ∧ r.t < B.length
    · have hi2 := hin r.t
      rw [decide_eq_true h2] at hi2
      have heq : r.a = r.t := by omega
      clear hin hbad
      refine zX (zZ ?_); refine zE rfl rfl rfl (g_box rfl rfl) ?_; intro _; refine xAs rfl rfl rfl rfl ?_; refine zY ?_; refine zX (zZ ?_); refine xMv rfl rfl rfl rfl ?_; apply zV; rfl; rfl; rfl; (apply g_nilCheck; rfl; rfl); refine xFa rfl rfl rfl rfl rfl rfl ?_; refine xFa rfl rfl rfl rfl rfl rfl ?_; refine xLd rfl rfl rfl rfl rfl (.p (by (repeat first | exact q_h | apply q_t | assumption); done) rfl) ?_; apply zV; rfl; rfl; rfl; (apply g_len; rfl; rfl; (exact (List.length_map _).symm)); apply zV; rfl; rfl; rfl; (apply g_sub; rfl; rfl; rfl; exact ⟨by omega, by omega⟩); refine xAs rfl rfl rfl rfl ?_; refine zY ?_; refine zX ?_; refine zX (zZ ?_); refine xFa rfl rfl rfl rfl rfl rfl ?_; refine xLd rfl rfl rfl rfl rfl (.p (by (repeat first | exact q_h | apply q_t | assumption); done) rfl) ?_; refine xMv rfl rfl rfl rfl ?_; apply exl_isB; rfl; rfl; rfl; (refine yX rfl rfl (zQ (by kernel_rfl)) ?_; exact hi1 _); intro _ _; apply exl_isB; rfl; rfl; rfl; (apply g_not; rfl); intro _ _; refine xMv rfl rfl rfl rfl ?_; refine zA rfl (fun h => ?_) (fun h => ?_) <;> ((first | (subst h; rename BV _ true => g; have h := g.eq; clear g) | (subst h; rename BV _ false => g; have h := g.eq; clear g) | skip); (have hp := h; try simp only [q_n] at hp); (try (exfalso; first | omega | (cases hp; done))));
      refine zW rfl rfl rfl rfl ?_; refine zW rfl rfl rfl rfl ?_; refine zW rfl rfl rfl rfl ?_; refine zW rfl rfl rfl rfl ?_; refine zW rfl rfl rfl rfl ?_; refine xPt rfl rfl rfl rfl rfl rfl ?_; refine xMv rfl rfl rfl rfl ?_; refine zW rfl rfl rfl rfl ?_; refine zW rfl rfl rfl rfl ?_; refine zW rfl rfl rfl rfl ?_; refine zW rfl rfl rfl rfl ?_; refine zW rfl rfl rfl rfl ?_; refine xPt rfl rfl rfl rfl rfl rfl ?_; refine zY ?_; refine ex_cond_t rfl (by rfl) ?_; refine zX (zZ ?_); refine xAs rfl rfl rfl rfl ?_; refine zY ?_; refine yV ?_; simp only [zD, zK, zJ, zT, retA, ↓reduceIte, Nat.reduceEqDiff]; rotate_left; refine yFa rfl rfl rfl rfl rfl rfl rfl ?_; refine yLd rfl rfl rfl rfl rfl rfl (.p (by (repeat first | exact q_h | apply q_t | assumption); done) rfl) ?_; apply exl_isW; rfl; (rfl); rfl; rfl; (apply zH; rfl); apply exl_isBW; rfl; (rfl); rfl; rfl; (refine yX rfl rfl (zQ (by kernel_rfl)) ?_; exact hi2 _); intro _ _; apply exl_isBW; rfl; (rfl); rfl; rfl; (apply g_not; rfl); intro _ _; refine xPf rfl rfl rfl rfl rfl rfl ?_; refine xMv rfl rfl rfl rfl ?_; refine zA rfl (fun h => ?_) (fun h => ?_) <;> ((first | (subst h; rename BV _ true => g; have h := g.eq; clear g) | (subst h; rename BV _ false => g; have h := g.eq; clear g) | skip); (have hp := h; try simp only [q_n] at hp); (try (exfalso; first | omega | (cases hp; done))));
      refine zW rfl rfl rfl rfl ?_; refine zW rfl rfl rfl rfl ?_; refine zW rfl rfl rfl rfl ?_; refine zW rfl rfl rfl rfl ?_; refine zW rfl rfl rfl rfl ?_; refine xPt rfl rfl rfl rfl rfl rfl ?_; refine zY ?_; refine ex_cond_t rfl (by rfl) ?_; refine zX (zZ ?_); refine xAs rfl rfl rfl rfl ?_; refine zY ?_; refine yV ?_; simp only [zD, zK, zJ, zT, retA, ↓reduceIte, Nat.reduceEqDiff]; rotate_left; refine yFa rfl rfl rfl rfl rfl rfl rfl ?_; refine yLd rfl rfl rfl rfl rfl rfl (.p (by (repeat first | exact q_h | apply q_t | assumption); done) rfl) ?_; refine yFa rfl rfl rfl rfl rfl rfl rfl ?_; refine yLd rfl rfl rfl rfl rfl rfl (.p (by (repeat first | exact q_h | apply q_t | assumption); done) rfl) ?_; refine yBi rfl rfl rfl rfl rfl rfl rfl ?_; intro _ _; refine xPf rfl rfl rfl rfl rfl rfl ?_; refine zY ?_; refine zU rfl (fun h => ?_) (fun h => ?_) <;> ((first | (subst h; rename BV _ true => g; have h := g.eq; clear g) | (subst h; rename BV _ false => g; have h := g.eq; clear g) | skip); (have hp := h; try simp only [q_n] at hp); (try (exfalso; first | omega | (cases hp; done))));
      refine zX (zZ ?_); refine xAs rfl rfl rfl rfl ?_; refine zY ?_; refine yV ?_; simp only [zD, zK, zJ, zT, retA, ↓reduceIte, Nat.reduceEqDiff]; rotate_left
      (all_goals (repeat (rename BV _ _ => hbv; cases hbv)))
      all_goals (try (first | cases ‹true = false› | cases ‹false = true›))
      all_goals
        refine ret_q (σ3 := stE b B L :: σ) .nil (.cons (.ofTmp rfl) .nil) (by repeat (first | exact q_r | apply q_q | apply q_k | exact q_a)) ?_
        exact fin_done .mk
    · have hi2 := hin r.t
      rw [decide_eq_false h2] at hi2
      clear hin hbad
      refine zX (zZ ?_); refine zE rfl rfl rfl (g_box rfl rfl) ?_; intro _; refine xAs rfl rfl rfl rfl ?_; refine zY ?_; refine zX (zZ ?_); refine xMv rfl rfl rfl rfl ?_; apply zV; rfl; rfl; rfl; (apply g_nilCheck; rfl; rfl); refine xFa rfl rfl rfl rfl rfl rfl ?_; refine xFa rfl rfl rfl rfl rfl rfl ?_; refine xLd rfl rfl rfl rfl rfl (.p (by (repeat first | exact q_h | apply q_t | assumption); done) rfl) ?_; apply zV; rfl; rfl; rfl; (apply g_len; rfl; rfl; (exact (List.length_map _).symm)); apply zV; rfl; rfl; rfl; (apply g_sub; rfl; rfl; rfl; exact ⟨by omega, by omega⟩); refine xAs rfl rfl rfl rfl ?_; refine zY ?_; refine zX ?_; refine zX (zZ ?_); refine xFa rfl rfl rfl rfl rfl rfl ?_; refine xLd rfl rfl rfl rfl rfl (.p (by (repeat first | exact q_h | apply q_t | assumption); done) rfl) ?_; refine xMv rfl rfl rfl rfl ?_; apply exl_isB; rfl; rfl; rfl; (refine yX rfl rfl (zQ (by kernel_rfl)) ?_; exact hi1 _); intro _ _; apply exl_isB; rfl; rfl; rfl; (apply g_not; rfl); intro _ _; refine xMv rfl rfl rfl rfl ?_; refine zA rfl (fun h => ?_) (fun h => ?_) <;> ((first | (subst h; rename BV _ true => g; have h := g.eq; clear g) | (subst h; rename BV _ false => g; have h := g.eq; clear g) | skip); (have hp := h; try simp only [q_n] at hp); (try (exfalso; first | omega | (cases hp; done))));
      refine zW rfl rfl rfl rfl ?_; refine zW rfl rfl rfl rfl ?_; refine zW rfl rfl rfl rfl ?_; refine zW rfl rfl rfl rfl ?_; refine zW rfl rfl rfl rfl ?_; refine xPt rfl rfl rfl rfl rfl rfl ?_; refine xMv rfl rfl rfl rfl ?_; refine zW rfl rfl rfl rfl ?_; refine zW rfl rfl rfl rfl ?_; refine zW rfl rfl rfl rfl ?_; refine zW rfl rfl rfl rfl ?_; refine zW rfl rfl rfl rfl ?_; refine xPt rfl rfl rfl rfl rfl rfl ?_; refine zY ?_; refine ex_cond_t rfl (by rfl) ?_; refine zX (zZ ?_); refine xAs rfl rfl rfl rfl ?_; refine zY ?_; refine yV ?_; simp only [zD, zK, zJ, zT, retA, ↓reduceIte, Nat.reduceEqDiff]; rotate_left; refine yFa rfl rfl rfl rfl rfl rfl rfl ?_; refine yLd rfl rfl rfl rfl rfl rfl (.p (by (repeat first | exact q_h | apply q_t | assumption); done) rfl) ?_; apply exl_isW; rfl; (rfl); rfl; rfl; (apply zH; rfl); apply exl_isBW; rfl; (rfl); rfl; rfl; (refine yX rfl rfl (zQ (by kernel_rfl)) ?_; exact hi2 _); intro _ _; apply exl_isBW; rfl; (rfl); rfl; rfl; (apply g_not; rfl); intro _ _; refine xPf rfl rfl rfl rfl rfl rfl ?_; refine xMv rfl rfl rfl rfl ?_; refine zA rfl (fun h => ?_) (fun h => ?_) <;> ((first | (subst h; rename BV _ true => g; have h := g.eq; clear g) | (subst h; rename BV _ false => g; have h := g.eq; clear g) | skip); (have hp := h; try simp only [q_n] at hp); (try (exfalso; first | omega | (cases hp; done))));
      refine zW rfl rfl rfl rfl ?_; refine zW rfl rfl rfl rfl ?_; refine zW rfl rfl rfl rfl ?_; refine zW rfl rfl rfl rfl ?_; refine zW rfl rfl rfl rfl ?_; refine xPt rfl rfl rfl rfl rfl rfl ?_; refine zY ?_; refine ex_cond_t rfl (by rfl) ?_; refine zX (zZ ?_); refine xAs rfl rfl rfl rfl ?_; refine zY ?_; refine yV ?_; simp only [zD, zK, zJ, zT, retA, ↓reduceIte, Nat.reduceEqDiff]; rotate_left; refine yFa rfl rfl rfl rfl rfl rfl rfl ?_; refine yLd rfl rfl rfl rfl rfl rfl (.p (by (repeat first | exact q_h | apply q_t | assumption); done) rfl) ?_; refine yFa rfl rfl rfl rfl rfl rfl rfl ?_; refine yLd rfl rfl rfl rfl rfl rfl (.p (by (repeat first | exact q_h | apply q_t | assumption); done) rfl) ?_; refine yBi rfl rfl rfl rfl rfl rfl rfl ?_; intro _ _; refine xPf rfl rfl rfl rfl rfl rfl ?_; refine zY ?_; refine zU rfl (fun h => ?_) (fun h => ?_) <;> ((first | (subst h; rename BV _ true => g; have h := g.eq; clear g) | (subst h; rename BV _ false => g; have h := g.eq; clear g) | skip); (have hp := h; try simp only [q_n] at hp); (try (exfalso; first | omega | (cases hp; done))));
      refine zG ?_; refine zX ?_; refine zX ?_; refine ex_drawP rfl rfl (by kernel_rfl) rfl ?_; refine ex_drawQ rfl (by kernel_rfl) rfl ?_; apply zR; rfl; rfl; rfl; (intro σ' hl; (apply zH; rfl)); apply zR; rfl; rfl; rfl; (intro σ' hl; (apply g_nilCheck; rfl; rfl)); apply zR; rfl; rfl; rfl; (intro σ' hl; (apply zP; rfl; rfl; rfl)); apply zR; rfl; rfl; rfl; (intro σ' hl; (apply zP; rfl; rfl; rfl)); apply zR; rfl; rfl; rfl; (intro σ' hl; (apply g_load1; rfl; rfl; (exact .p (hl _ (by (exact True.intro)) (by (repeat first | exact q_h | apply q_t | assumption); done)) rfl))); apply zR; rfl; rfl; rfl; (intro σ' hl; (apply zP; rfl; rfl; rfl)); apply zR; rfl; rfl; rfl; (intro σ' hl; (apply g_load1; rfl; rfl; (exact .p (hl _ (by (exact True.intro)) (by (repeat first | exact q_h | apply q_t | assumption); done)) rfl))); simp only [zD, zK, zJ, zT, retA, ↓reduceIte, Nat.reduceEqDiff]; rotate_left
      (all_goals (repeat (rename BV _ _ => hbv; cases hbv)))
      all_goals (try (first | cases ‹true = false› | cases ‹false = true›))
      all_goals
        refine ret_q (σ3 := stE b B L :: σ) .nil (.cons (.ofTmp rfl) .nil) (by repeat (first | exact q_r | apply q_q | apply q_k | exact q_a)) ?_
        exact fin_done .mk
  · have hi1 := hin r.a
    rw [decide_eq_false h1] at hi1
    clear hin hbad
    refine zX (zZ ?_); refine zE rfl rfl rfl (g_box rfl rfl) ?_; intro _; refine xAs rfl rfl rfl rfl ?_; refine zY ?_; refine zX (zZ ?_); refine xMv rfl rfl rfl rfl ?_; apply zV; rfl; rfl; rfl; (apply g_nilCheck; rfl; rfl); refine xFa rfl rfl rfl rfl rfl rfl ?_; refine xFa rfl rfl rfl rfl rfl rfl ?_; refine xLd rfl rfl rfl rfl rfl (.p (by (repeat first | exact q_h | apply q_t | assumption); done) rfl) ?_; apply zV; rfl; rfl; rfl; (apply g_len; rfl; rfl; (exact (List.length_map _).symm)); apply zV; rfl; rfl; rfl; (apply g_sub; rfl; rfl; rfl; exact ⟨by omega, by omega⟩); refine xAs rfl rfl rfl rfl ?_; refine zY ?_; refine zX ?_; refine zX (zZ ?_); refine xFa rfl rfl rfl rfl rfl rfl ?_; refine xLd rfl rfl rfl rfl rfl (.p (by (repeat first | exact q_h | apply q_t | assumption); done) rfl) ?_; refine xMv rfl rfl rfl rfl ?_; apply exl_isB; rfl; rfl; rfl; (refine yX rfl rfl (zQ (by kernel_rfl)) ?_; exact hi1 _); intro _ _; apply exl_isB; rfl; rfl; rfl; (apply g_not; rfl); intro _ _; refine xMv rfl rfl rfl rfl ?_; refine zA rfl (fun h => ?_) (fun h => ?_) <;> ((first | (subst h; rename BV _ true => g; have h := g.eq; clear g) | (subst h; rename BV _ false => g; have h := g.eq; clear g) | skip); (have hp := h; try simp only [q_n] at hp); (try (exfalso; first | omega | (cases hp; done))));
    refine zW rfl rfl rfl rfl ?_; refine zW rfl rfl rfl rfl ?_; refine zW rfl rfl rfl rfl ?_; refine zW rfl rfl rfl rfl ?_; refine zW rfl rfl rfl rfl ?_; refine xPt rfl rfl rfl rfl rfl rfl ?_; refine xMv rfl rfl rfl rfl ?_; refine zW rfl rfl rfl rfl ?_; refine zW rfl rfl rfl rfl ?_; refine zW rfl rfl rfl rfl ?_; refine zW rfl rfl rfl rfl ?_; refine zW rfl rfl rfl rfl ?_; refine xPt rfl rfl rfl rfl rfl rfl ?_; refine zY ?_; refine ex_cond_t rfl (by rfl) ?_; refine zX (zZ ?_); refine xAs rfl rfl rfl rfl ?_; refine zY ?_; refine yV ?_; simp only [zD, zK, zJ, zT, retA, ↓reduceIte, Nat.reduceEqDiff]; rotate_left; refine yFa rfl rfl rfl rfl rfl rfl rfl ?_; refine yLd rfl rfl rfl rfl rfl rfl (.p (by (repeat first | exact q_h | apply q_t | assumption); done) rfl) ?_; apply exl_isW; rfl; (rfl); rfl; rfl; (apply zH; rfl); rotate_left
    (all_goals (repeat (rename BV _ _ => hbv; cases hbv)))
    all_goals (try (first | cases ‹true = false› | cases ‹false = true›))
    all_goals
      refine ret_q (σ3 := stE b B L :: σ) .nil (.cons (.ofTmp rfl) .nil) (by repeat (first | exact q_r | apply q_q | apply q_k | exact q_a)) ?_
      exact fin_done .mk
abbrev sentP (r : Ps) (s : Sl) : Pk := ⟨r.a, r.t, msgS s⟩
set_option maxHeartbeats 16000000 in
theorem ptell_ok (b k : Nat) (B : List (List Sl)) (L : List Pk) (r : Ps) (h0 : ∀ p ∈ L, OkP p) (hl0 : L.length ≤ 4096) (hn : B.length ≤ 8) (hok : 0 ≤ r.a ∧ r.a < B.length ∧ 0 ≤ r.t ∧ r.t < B.length ∧ r.a ≠ r.t) (hk : r.a = k) (l : List Sl) (hB : B[k]? = some l) (hs : ∀ s ∈ l, Sendable s) (hlen : l.length ≤ 512) (σ : List Ent) :
    SCall Tryz.prog 49 [.ptr b 0, psV r] (stE b B L :: σ) (fun v τ => (L.length + l.length ≤ 4096 ∧ v = .int .i64 0 ∧ τ = stE b B (L ++ l.map (sentP r)) :: σ) ∨ (4096 < L.length + l.length ∧ v = .int .i64 2 ∧ τ = st0 b B :: σ)) := by
  refine scall_of Tryz.func49 rfl (by simp) ?_
  have hin : ∀ (x : Int) (σ : List Ent), 0 ≤ x ∧ x < B.length → SCall Tryz.prog 44 [.int .i64 x, .int .i64 0, .int .i64 ((B.length : Int) - 1)] σ (Is (.bool true) σ) := fun x σ hx => by
    have h0 := in_c x 0 ((B.length : Int) - 1) σ
    rwa [show inB x 0 ((B.length : Int) - 1) = true by unfold inB; simp; omega] at h0
  have hi1 := fun σ => hin r.a σ ⟨hok.1, hok.2.1⟩
  have hi2 := fun σ => hin r.t σ ⟨hok.2.2.1, hok.2.2.2.1⟩
  have hg := bk_get hB
  have hkB : k < B.length := (List.getElem?_eq_some_iff.1 hB).1
  have hokP : ∀ s ∈ l, OkP (sentP r s) := fun s hsl => by
    have h5 := msg_len (hs s hsl)
    exact ⟨hok.1, hok.2.2.1, hok.2.2.2.2, by show r.a < 24; omega, by show r.t < 24; omega, by show (msgS s).length ≤ 1048576; omega⟩
  clear hin
  refine zX (zZ ?_); refine zE rfl rfl rfl (g_box rfl rfl) ?_; intro _; refine xAs rfl rfl rfl rfl ?_; refine zY ?_; refine zX (zZ ?_); refine xMv rfl rfl rfl rfl ?_; apply zV; rfl; rfl; rfl; (apply g_nilCheck; rfl; rfl); refine xFa rfl rfl rfl rfl rfl rfl ?_; refine xFa rfl rfl rfl rfl rfl rfl ?_; refine xLd rfl rfl rfl rfl rfl (.p (by (repeat first | exact q_h | apply q_t | assumption); done) rfl) ?_; apply zV; rfl; rfl; rfl; (apply g_len; rfl; rfl; (exact (List.length_map _).symm)); apply zV; rfl; rfl; rfl; (apply g_sub; rfl; rfl; rfl; exact ⟨by omega, by omega⟩); refine xAs rfl rfl rfl rfl ?_; refine zY ?_; refine zX ?_; refine zX (zZ ?_); refine xFa rfl rfl rfl rfl rfl rfl ?_; refine xLd rfl rfl rfl rfl rfl (.p (by (repeat first | exact q_h | apply q_t | assumption); done) rfl) ?_; refine xMv rfl rfl rfl rfl ?_; apply exl_isB; rfl; rfl; rfl; (refine yX rfl rfl (zQ (by kernel_rfl)) ?_; exact hi1 _); intro _ _; apply exl_isB; rfl; rfl; rfl; (apply g_not; rfl); intro _ _; refine xMv rfl rfl rfl rfl ?_; refine zA rfl (fun h => ?_) (fun h => ?_) <;> ((first | (subst h; rename BV _ true => g; have h := g.eq; clear g) | (subst h; rename BV _ false => g; have h := g.eq; clear g) | skip); (have hp := h; try simp only [q_n] at hp); (try (exfalso; first | omega | (cases hp; done))));
  refine zW rfl rfl rfl rfl ?_; refine zW rfl rfl rfl rfl ?_; refine zW rfl rfl rfl rfl ?_; refine zW rfl rfl rfl rfl ?_; refine zW rfl rfl rfl rfl ?_; refine xPt rfl rfl rfl rfl rfl rfl ?_; refine xMv rfl rfl rfl rfl ?_; refine zW rfl rfl rfl rfl ?_; refine zW rfl rfl rfl rfl ?_; refine zW rfl rfl rfl rfl ?_; refine zW rfl rfl rfl rfl ?_; refine zW rfl rfl rfl rfl ?_; refine xPt rfl rfl rfl rfl rfl rfl ?_; refine zY ?_; refine ex_cond_t rfl (by rfl) ?_; refine zX (zZ ?_); refine xAs rfl rfl rfl rfl ?_; refine zY ?_; refine yV ?_; simp only [zD, zK, zJ, zT, retA, ↓reduceIte, Nat.reduceEqDiff]; rotate_left; refine yFa rfl rfl rfl rfl rfl rfl rfl ?_; refine yLd rfl rfl rfl rfl rfl rfl (.p (by (repeat first | exact q_h | apply q_t | assumption); done) rfl) ?_; apply exl_isW; rfl; (rfl); rfl; rfl; (apply zH; rfl); apply exl_isBW; rfl; (rfl); rfl; rfl; (refine yX rfl rfl (zQ (by kernel_rfl)) ?_; exact hi2 _); intro _ _; apply exl_isBW; rfl; (rfl); rfl; rfl; (apply g_not; rfl); intro _ _; refine xPf rfl rfl rfl rfl rfl rfl ?_; refine xMv rfl rfl rfl rfl ?_; refine zA rfl (fun h => ?_) (fun h => ?_) <;> ((first | (subst h; rename BV _ true => g; have h := g.eq; clear g) | (subst h; rename BV _ false => g; have h := g.eq; clear g) | skip); (have hp := h; try simp only [q_n] at hp); (try (exfalso; first | omega | (cases hp; done))));
  refine zW rfl rfl rfl rfl ?_; refine zW rfl rfl rfl rfl ?_; refine zW rfl rfl rfl rfl ?_; refine zW rfl rfl rfl rfl ?_; refine zW rfl rfl rfl rfl ?_; refine xPt rfl rfl rfl rfl rfl rfl ?_; refine zY ?_; refine ex_cond_t rfl (by rfl) ?_; refine zX (zZ ?_); refine xAs rfl rfl rfl rfl ?_; refine zY ?_; refine yV ?_; simp only [zD, zK, zJ, zT, retA, ↓reduceIte, Nat.reduceEqDiff]; rotate_left; refine yFa rfl rfl rfl rfl rfl rfl rfl ?_; refine yLd rfl rfl rfl rfl rfl rfl (.p (by (repeat first | exact q_h | apply q_t | assumption); done) rfl) ?_; refine yFa rfl rfl rfl rfl rfl rfl rfl ?_; refine yLd rfl rfl rfl rfl rfl rfl (.p (by (repeat first | exact q_h | apply q_t | assumption); done) rfl) ?_; refine yBi rfl rfl rfl rfl rfl rfl rfl ?_; intro _ _; refine xPf rfl rfl rfl rfl rfl rfl ?_; refine zY ?_; refine zU rfl (fun h => ?_) (fun h => ?_) <;> ((first | (subst h; rename BV _ true => g; have h := g.eq; clear g) | (subst h; rename BV _ false => g; have h := g.eq; clear g) | skip); (have hp := h; try simp only [q_n] at hp); (try (exfalso; first | omega | (cases hp; done))));
  refine zG ?_; refine zX ?_; refine zX ?_; refine ex_drawP rfl rfl (by kernel_rfl) rfl ?_; refine ex_drawQ rfl (by kernel_rfl) rfl ?_; apply zR; rfl; rfl; rfl; (intro σ' hl; (apply zH; rfl)); apply zR; rfl; rfl; rfl; (intro σ' hl; (apply g_nilCheck; rfl; rfl)); apply zR; rfl; rfl; rfl; (intro σ' hl; (apply zP; rfl; rfl; rfl)); apply zR; rfl; rfl; rfl; (intro σ' hl; (apply zP; rfl; rfl; rfl)); apply zR; rfl; rfl; rfl; (intro σ' hl; (apply g_load1; rfl; rfl; (exact .p (hl _ (by (exact True.intro)) (by (repeat first | exact q_h | apply q_t | assumption); done)) rfl))); apply zR; rfl; rfl; rfl; (intro σ' hl; (apply zP; rfl; rfl; rfl)); apply zR; rfl; rfl; rfl; (intro σ' hl; (apply g_load1; rfl; rfl; (exact .p (hl _ (by (exact True.intro)) (by (repeat first | exact q_h | apply q_t | assumption); done)) rfl))); apply zR; rfl; rfl; rfl; (intro σ' hl; (apply g_indexDl; rfl; rfl; rfl; (assumption); (assumption))); apply zR; rfl; rfl; rfl; (intro σ' hl; (apply zP; rfl; rfl; rfl)); apply zR; rfl; rfl; rfl; (intro σ' hl; (apply g_load1; rfl; rfl; (exact .e rfl))); apply zR; rfl; rfl; rfl; (intro σ' hl; (apply g_len; rfl; rfl; (exact (List.length_map _).symm))); apply zR; rfl; rfl; rfl; (intro σ' hl; (apply zH; rfl)); refine wl_nil ?_; show EX _ _ _ _ _; refine yZ ?_; rotate_left
  (all_goals (repeat (rename BV _ _ => hbv; cases hbv)))
  all_goals (try (first | cases ‹true = false› | cases ‹false = true›))
  rename Nat => b3; revert b3
  intro b3
  clear hi1 hi2 hg hkB hk hB
  refine ex_loop (fun (z : Nat × List Pk) => (⟨[(0, .ptr b 0), (3, .ptr b3 0), (43, sls l), (44, .int .i64 l.length), (45, .int .i64 z.1)], .cells b3 (psC r) 45 :: stE b B z.2 :: σ, [], Tryz.f49.ntmps⟩ : St)) (fun z => (z.1 ≤ l.length ∧ L.length + z.1 ≤ 4096) ∧ z.2 = L ++ (l.take z.1).map (sentP r)) (fun z => l.length - z.1) (0, L) (⟨⟨Nat.zero_le _, hl0⟩, (List.append_nil L).symm⟩) (St.le_of (by repeat (first | exact trivial | refine ⟨rfl, ?_⟩)) (by repeat (first | exact q_r | apply q_q | apply q_k))) ?_
  intro z hI
  obtain ⟨k, T0⟩ := z
  obtain ⟨⟨hI1, hI2⟩, hI3⟩ := hI
  dsimp only at hI1 hI2 hI3 ⊢
  subst hI3
  by_cases hkl : k < l.length
  · obtain ⟨s, hsk⟩ : ∃ s, l[k]? = some s := get_some hkl
    have hmem := List.mem_of_getElem? hsk
    have hmg := fun σ => message_c s (hs s hmem) σ
    have hnext : L ++ (l.take (k + 1)).map (sentP r) = (L ++ (l.take k).map (sentP r)) ++ [sentP r s] := by rw [List.take_add_one, hsk, List.map_append, List.append_assoc]; rfl
    have hTl : (L ++ (l.take k).map (sentP r)).length = L.length + k := by rw [List.length_append, List.length_map, List.length_take]; omega
    have hTok : ∀ p ∈ L ++ (l.take k).map (sentP r), OkP p := fun p hp => by
      rcases List.mem_append.1 hp with hp | hp
      · exact h0 p hp
      · obtain ⟨x, hx, rfl⟩ := List.mem_map.1 hp
        exact hokP x (List.mem_of_mem_take hx)
    have hsd := fun σ => send_c _ hTok (by omega) (sentP r s) (hokP s hmem) σ
    have hgs := sl_get hsk
    rw [hTl] at hsd
    clear h0 hs hokP hTok hTl hmem hsk
    generalize L ++ (l.take k).map (sentP r) = T at hsd hnext ⊢
    by_cases he : L.length + k = 4096
    · rw [if_pos he] at hsd
      refine zX (zZ ?_); refine xBi rfl rfl rfl rfl rfl rfl ?_; intro _ _; refine zY ?_; refine zX ?_; refine zU rfl (fun h => ?_) (fun h => ?_) <;> ((first | (subst h; rename BV _ true => g; have h := g.eq; clear g) | (subst h; rename BV _ false => g; have h := g.eq; clear g) | skip); (have hp := h; try simp only [q_n] at hp); (try (exfalso; first | omega | (cases hp; done))));
      refine zG ?_; refine zX ?_; refine yZ ?_; refine zX (zZ ?_); apply zV; rfl; rfl; rfl; (apply g_indexDl; rfl; rfl; rfl; (rfl); (assumption)); apply zV; rfl; rfl; rfl; (apply zB; rfl; decide; rfl; (exact .e rfl rfl)); refine zE rfl rfl rfl (g_alloc rfl) ?_; intro _; apply yY; rfl; rfl; (apply zL; rfl; rfl; rfl; (exact Upd.here); (simp only [setL, q_z, AV.cells]; rfl); rfl; rfl; rfl; exact q_b rfl); refine zY ?_; refine zX ?_; rotate_left
      (all_goals (repeat (rename BV _ _ => hbv; cases hbv)))
      all_goals (try (first | cases ‹true = false› | cases ‹false = true›))
      rename Nat => b7; revert b7
      intro b7
      refine ex_drfT (fun x => x = .cells b3 (psC r) 45 ∨ x = .cells b7 (slC s) 43) [5, 20] 21 rfl (by kernel_rfl) rfl ?_
      refine zN rfl rfl (by kernel_rfl) ?_; apply zF; rfl; rfl; (intro σ' hl; (apply zH; rfl)); refine zN rfl rfl (by kernel_rfl) ?_; apply zF; rfl; rfl; (intro σ' hl; (apply zH; rfl)); refine zN rfl rfl (by kernel_rfl) ?_; apply zF; rfl; rfl; (intro σ' hl; (apply g_nilCheck; rfl; rfl)); refine zN rfl rfl (by kernel_rfl) ?_; apply zF; rfl; rfl; (intro σ' hl; (apply zP; rfl; rfl; rfl)); refine zN rfl rfl (by kernel_rfl) ?_; apply zF; rfl; rfl; (intro σ' hl; (apply zP; rfl; rfl; rfl)); refine zN rfl rfl (by kernel_rfl) ?_; apply zF; rfl; rfl; (intro σ' hl; (apply zP; rfl; rfl; rfl)); refine zN rfl rfl (by kernel_rfl) ?_; apply zF; rfl; rfl; (intro σ' hl; (apply g_load1; rfl; rfl; (exact .p (hl _ (by (exact .inl rfl)) (by (repeat first | exact q_h | apply q_t | assumption); done)) rfl))); refine zN rfl rfl (by kernel_rfl) ?_; apply zF; rfl; rfl; (intro σ' hl; (apply zP; rfl; rfl; rfl)); refine zN rfl rfl (by kernel_rfl) ?_; apply zF; rfl; rfl; (intro σ' hl; (apply g_load1; rfl; rfl; (exact .p (hl _ (by (exact .inl rfl)) (by (repeat first | exact q_h | apply q_t | assumption); done)) rfl))); refine zN rfl rfl (by kernel_rfl) ?_; apply zF; rfl; rfl; (intro σ' hl; (apply zB; rfl; decide; rfl; (exact .p (hl _ (by (exact .inr rfl)) (by (repeat first | exact q_h | apply q_t | assumption); done)) rfl rfl))); refine zN rfl rfl (by kernel_rfl) ?_; apply zF; rfl; rfl; (intro σ' hl; (refine yX rfl rfl (zQ (by kernel_rfl)) ?_; exact hmg _)); refine zN rfl rfl (by kernel_rfl) ?_; apply zF; rfl; rfl; (intro σ' hl; (apply g_build; rfl; rfl; rfl; rfl)); refine drf_one rfl rfl ?_; apply drs_is; rfl; rfl; (apply zB; rfl; decide; rfl; (exact .p (by (repeat first | exact q_h | apply q_t | assumption); done) rfl rfl)); refine zN rfl rfl (by kernel_rfl) ?_; apply zF; rfl; rfl; (intro σ' hl; (refine yX rfl rfl (zQ (by kernel_rfl)) ?_; exact hsd _)); refine zN rfl rfl (by kernel_rfl) ?_; apply zF; rfl; rfl; (intro σ' hl; (apply zH; rfl)); refine zN rfl rfl (by kernel_rfl) ?_; apply zF; rfl; rfl; (intro σ' hl; (apply yW; rfl; rfl)); refine zN rfl rfl (by kernel_rfl) ?_; apply zF; rfl; rfl; (intro σ' hl; (apply yW; rfl; rfl)); refine zN rfl rfl (by kernel_rfl) ?_; apply zF; rfl; rfl; (intro σ' hl; (apply g_nilCheck; rfl; rfl)); refine zN rfl rfl (by kernel_rfl) ?_; apply zF; rfl; rfl; (intro σ' hl; (apply zP; rfl; rfl; rfl)); refine zN rfl rfl (by kernel_rfl) ?_; apply zF; rfl; rfl; (intro σ' hl; (apply zP; rfl; rfl; rfl)); refine drf_one rfl rfl ?_; apply drs_do; rfl; rfl; (apply zL; rfl; rfl; rfl; (exact Upd.there (Upd.there (Upd.here))); (simp only [setL, q_z, AV.cells]; rfl); rfl; rfl; rfl; exact q_b rfl); (rintro _ (rfl | rfl | rfl) _ <;> exact (by (repeat first | exact q_h | apply q_t | assumption); done)); refine drf_nil rfl ?_; refine xAs rfl rfl rfl rfl ?_; refine zY ?_; refine zX (zZ ?_); refine xMv rfl rfl rfl rfl ?_; refine xBi rfl rfl rfl rfl rfl rfl ?_; intro _ _; refine zY ?_; refine zU rfl (fun h => ?_) (fun h => ?_) <;> ((first | (subst h; rename BV _ true => g; have h := g.eq; clear g) | (subst h; rename BV _ false => g; have h := g.eq; clear g) | skip); (have hp := h; try simp only [q_n] at hp); (try (exfalso; first | omega | (cases hp; done))));
      refine zX (zZ ?_); refine xMv rfl rfl rfl rfl ?_; refine xAs rfl rfl rfl rfl ?_; refine zY ?_; refine yV ?_; simp only [zD, zK, zJ, zT, retA, ↓reduceIte, Nat.reduceEqDiff]; rotate_left
      (all_goals (repeat (rename BV _ _ => hbv; cases hbv)))
      all_goals (try (first | cases ‹true = false› | cases ‹false = true›))
      refine ret_q (σ3 := st0 b B :: σ) .nil (.cons (.ofTmp rfl) .nil) (by repeat (first | exact q_r | apply q_q | apply q_k | exact q_a)) ?_
      exact fin_done (.inr ⟨by omega, rfl, rfl⟩)
    · rw [if_neg he] at hsd
      refine zX (zZ ?_); refine xBi rfl rfl rfl rfl rfl rfl ?_; intro _ _; refine zY ?_; refine zX ?_; refine zU rfl (fun h => ?_) (fun h => ?_) <;> ((first | (subst h; rename BV _ true => g; have h := g.eq; clear g) | (subst h; rename BV _ false => g; have h := g.eq; clear g) | skip); (have hp := h; try simp only [q_n] at hp); (try (exfalso; first | omega | (cases hp; done))));
      refine zG ?_; refine zX ?_; refine yZ ?_; refine zX (zZ ?_); apply zV; rfl; rfl; rfl; (apply g_indexDl; rfl; rfl; rfl; (rfl); (assumption)); apply zV; rfl; rfl; rfl; (apply zB; rfl; decide; rfl; (exact .e rfl rfl)); refine zE rfl rfl rfl (g_alloc rfl) ?_; intro _; apply yY; rfl; rfl; (apply zL; rfl; rfl; rfl; (exact Upd.here); (simp only [setL, q_z, AV.cells]; rfl); rfl; rfl; rfl; exact q_b rfl); refine zY ?_; refine zX ?_; rotate_left
      (all_goals (repeat (rename BV _ _ => hbv; cases hbv)))
      all_goals (try (first | cases ‹true = false› | cases ‹false = true›))
      rename Nat => b7; revert b7
      intro b7
      refine ex_drfT (fun x => x = .cells b3 (psC r) 45 ∨ x = .cells b7 (slC s) 43) [5, 20] 21 rfl (by kernel_rfl) rfl ?_
      refine zN rfl rfl (by kernel_rfl) ?_; apply zF; rfl; rfl; (intro σ' hl; (apply zH; rfl)); refine zN rfl rfl (by kernel_rfl) ?_; apply zF; rfl; rfl; (intro σ' hl; (apply zH; rfl)); refine zN rfl rfl (by kernel_rfl) ?_; apply zF; rfl; rfl; (intro σ' hl; (apply g_nilCheck; rfl; rfl)); refine zN rfl rfl (by kernel_rfl) ?_; apply zF; rfl; rfl; (intro σ' hl; (apply zP; rfl; rfl; rfl)); refine zN rfl rfl (by kernel_rfl) ?_; apply zF; rfl; rfl; (intro σ' hl; (apply zP; rfl; rfl; rfl)); refine zN rfl rfl (by kernel_rfl) ?_; apply zF; rfl; rfl; (intro σ' hl; (apply zP; rfl; rfl; rfl)); refine zN rfl rfl (by kernel_rfl) ?_; apply zF; rfl; rfl; (intro σ' hl; (apply g_load1; rfl; rfl; (exact .p (hl _ (by (exact .inl rfl)) (by (repeat first | exact q_h | apply q_t | assumption); done)) rfl))); refine zN rfl rfl (by kernel_rfl) ?_; apply zF; rfl; rfl; (intro σ' hl; (apply zP; rfl; rfl; rfl)); refine zN rfl rfl (by kernel_rfl) ?_; apply zF; rfl; rfl; (intro σ' hl; (apply g_load1; rfl; rfl; (exact .p (hl _ (by (exact .inl rfl)) (by (repeat first | exact q_h | apply q_t | assumption); done)) rfl))); refine zN rfl rfl (by kernel_rfl) ?_; apply zF; rfl; rfl; (intro σ' hl; (apply zB; rfl; decide; rfl; (exact .p (hl _ (by (exact .inr rfl)) (by (repeat first | exact q_h | apply q_t | assumption); done)) rfl rfl))); refine zN rfl rfl (by kernel_rfl) ?_; apply zF; rfl; rfl; (intro σ' hl; (refine yX rfl rfl (zQ (by kernel_rfl)) ?_; exact hmg _)); refine zN rfl rfl (by kernel_rfl) ?_; apply zF; rfl; rfl; (intro σ' hl; (apply g_build; rfl; rfl; rfl; rfl)); refine drf_one rfl rfl ?_; apply drs_is; rfl; rfl; (apply zB; rfl; decide; rfl; (exact .p (by (repeat first | exact q_h | apply q_t | assumption); done) rfl rfl)); refine zN rfl rfl (by kernel_rfl) ?_; apply zF; rfl; rfl; (intro σ' hl; (refine yX rfl rfl (zQ (by kernel_rfl)) ?_; exact hsd _)); refine zN rfl rfl (by kernel_rfl) ?_; apply zF; rfl; rfl; (intro σ' hl; (apply zH; rfl)); refine zN rfl rfl (by kernel_rfl) ?_; apply zF; rfl; rfl; (intro σ' hl; (apply yW; rfl; rfl)); refine zN rfl rfl (by kernel_rfl) ?_; apply zF; rfl; rfl; (intro σ' hl; (apply yW; rfl; rfl)); refine zN rfl rfl (by kernel_rfl) ?_; apply zF; rfl; rfl; (intro σ' hl; (apply g_nilCheck; rfl; rfl)); refine zN rfl rfl (by kernel_rfl) ?_; apply zF; rfl; rfl; (intro σ' hl; (apply zP; rfl; rfl; rfl)); refine zN rfl rfl (by kernel_rfl) ?_; apply zF; rfl; rfl; (intro σ' hl; (apply zP; rfl; rfl; rfl)); refine drf_one rfl rfl ?_; apply drs_do; rfl; rfl; (apply zL; rfl; rfl; rfl; (exact Upd.there (Upd.there (Upd.here))); (simp only [setL, q_z, AV.cells]; rfl); rfl; rfl; rfl; exact q_b rfl); (rintro _ (rfl | rfl | rfl) _ <;> exact (by (repeat first | exact q_h | apply q_t | assumption); done)); refine drf_nil rfl ?_; refine xAs rfl rfl rfl rfl ?_; refine zY ?_; refine zX (zZ ?_); refine xMv rfl rfl rfl rfl ?_; refine xBi rfl rfl rfl rfl rfl rfl ?_; intro _ _; refine zY ?_; refine zU rfl (fun h => ?_) (fun h => ?_) <;> ((first | (subst h; rename BV _ true => g; have h := g.eq; clear g) | (subst h; rename BV _ false => g; have h := g.eq; clear g) | skip); (have hp := h; try simp only [q_n] at hp); (try (exfalso; first | omega | (cases hp; done))));
      refine zG ?_; refine zZ ?_; apply zV; rfl; rfl; rfl; (apply g_add; rfl; rfl; rfl; exact ⟨by omega, by omega⟩); refine xMv rfl rfl rfl rfl ?_; refine zC ?_; simp only [zD, zK, zJ, zT, retA, ↓reduceIte, Nat.reduceEqDiff]; rotate_left
      (all_goals (repeat (rename BV _ _ => hbv; cases hbv)))
      all_goals (try (first | cases ‹true = false› | cases ‹false = true›))
      refine ⟨(k + 1, T ++ [sentP r s]), ⟨⟨hkl, by dsimp only; omega⟩, hnext.symm⟩, by dsimp only; omega, ?_⟩
      exact (St.le_of (by repeat (first | exact trivial | refine ⟨rfl, ?_⟩)) (by repeat (first | exact q_r | apply q_q | apply q_k | exact q_a)))
  · have e : k = l.length := by omega
    subst e
    rw [List.take_length]
    refine zX (zZ ?_); refine xBi rfl rfl rfl rfl rfl rfl ?_; intro _ _; refine zY ?_; refine zX ?_; refine zU rfl (fun h => ?_) (fun h => ?_) <;> ((first | (subst h; rename BV _ true => g; have h := g.eq; clear g) | (subst h; rename BV _ false => g; have h := g.eq; clear g) | skip); (have hp := h; try simp only [q_n] at hp); (try (exfalso; first | omega | (cases hp; done))));
    refine ex_exit ?_; refine zX (zZ ?_); refine xAs rfl rfl rfl rfl ?_; refine zY ?_; refine yV ?_; simp only [zD, zK, zJ, zT, retA, ↓reduceIte, Nat.reduceEqDiff]; rotate_left
    (all_goals (repeat (rename BV _ _ => hbv; cases hbv)))
    all_goals (try (first | cases ‹true = false› | cases ‹false = true›))
    refine ret_q (σ3 := stE b B (L ++ l.map (sentP r)) :: σ) .nil (.cons (.ofTmp rfl) .nil) (by repeat (first | exact q_r | apply q_q | apply q_k | exact q_a)) ?_
    exact fin_done (.inl ⟨hI2, rfl, rfl⟩)
end Go.Proofs.YtkhoengjdfmfaaaGreat
namespace Go.Proofs.YtkhoengjdfmfaaaGreat
section
variable {P : Program} {ro : Option Nat} {env : Env} {σ σ' : List Ent} {dst : Option Tmp} {ty : TypeId} {pos : String} {after : Array Edge} {guard : Option (Nat × Bool)}
theorem g_insert {t et : TypeId} {x ix y : Operand} {b n : Nat} {f f' : Int → Option AV} {k : Int} {v : AV} (ht : mapOf P t = some et) (hx : evA env x = some (.mp b)) (hi : evA env ix = some (.int .i64 k)) (hy : evA env y = some v) (hu : Upd σ (.imap b f n) (.imap b f' (if (f k).isSome then n else n + 1)) σ') (hf : updA f k v = f') :
    GOp P ro ⟨dst, .insert t x ix y, ty, pos, after, guard⟩ env σ (Is (.raw undef) σ') :=
  gop_run (by intro c h; cases h) fun X M a w hg ho => by
    have h1 := ho x (by simp [Op.operands]) _ hx
    have h2 := ho ix (by simp [Op.operands]) _ hi
    have h3 := ho y (by simp [Op.operands]) _ hy
    simp only [VRel] at h1 h2
    obtain ⟨kt, e1, e2⟩ := mapOf_spec ht
    obtain ⟨g, hg1, hg2⟩ := hg.ent _ hu.mem
    obtain ⟨w', hr, hm', hgr, hsz, _⟩ := hg1.update (P := P) e1 e2 k (a.eval y)
    refine ⟨M, undef, w', .raw undef, σ', Mem.le_refl M, ?_, by simp [VRel], .mk, .inr ⟨?_, rfl⟩⟩
    · refine hg.upd hu hgr.os hgr.tape hgr.output (fun q hq hne => hgr.block q hq (fun e => hne e.symm)) ⟨upd g k (a.eval y), ?_, fun q => ?_⟩ (.inl rfl)
      · have hk := hg2 k
        have e : (g k).isSome = (f k).isSome := by cases hf : f k <;> cases hgk : g k <;> simp only [hf, hgk] at hk <;> rfl
        rw [e] at hm'
        exact hm'
      · rw [← hf]
        unfold updA upd
        by_cases hq : q = k
        · simp only [if_pos hq]; exact h3
        · simp only [if_neg hq]; exact hg2 q
    · simp [execOp, h1, h2, Sem.run_bind, hr]
end
end Go.Proofs.YtkhoengjdfmfaaaGreat
namespace Go.Proofs.YtkhoengjdfmfaaaGreat
abbrev rnd0 : AV := .agg [.slv nilS, .slv nilS, .slv nilS]
set_option maxHeartbeats 16000000 in
theorem do_none (B : List (List Sl)) (L : List Pk) (r : Ps) (hR : Rt B L) (hk : r.k < 1 ∨ 5 < r.k) (σ : List Ent) :
    SCall Tryz.prog 20 [.agg (stC B L), psV r] σ (Is (.tup [rnd0, .int .i64 1]) σ) := by
  refine scall_of Tryz.func20 rfl (by simp) ?_
  have hr := fun σ => right_c B L hR σ
  clear hR
  have hz : ∀ v1 v2 v3 v4 v5 : AV, updA (updA (updA (updA (updA (fun _ => none) 1 v1) 2 v2) 3 v3) 4 v4) 5 v5 r.k = none := fun v1 v2 v3 v4 v5 => by
    simp only [updA]
    rw [if_neg (by omega), if_neg (by omega), if_neg (by omega), if_neg (by omega), if_neg (by omega)]
  refine zX (zZ ?_); refine zE rfl rfl rfl (g_box rfl rfl) ?_; intro _; refine zE rfl rfl rfl (g_box rfl rfl) ?_; intro _; refine zE rfl rfl rfl (g_alloc rfl) ?_; intro _; refine xAs rfl rfl rfl rfl ?_; refine zY ?_; refine zX ?_; refine zX (zZ ?_); refine xLa rfl rfl rfl rfl (by decide) rfl (.p (by (repeat first | exact q_h | apply q_t | assumption); done) rfl rfl) ?_; apply exl_isB; rfl; rfl; rfl; (refine yX rfl rfl (zQ (by kernel_rfl)) ?_; exact hr _); intro _ _; apply exl_isB; rfl; rfl; rfl; (apply g_not; rfl); intro _ _; refine zY ?_; refine zU rfl (fun h => ?_) (fun h => ?_) <;> ((first | (subst h; rename BV _ true => g; have h := g.eq; clear g) | (subst h; rename BV _ false => g; have h := g.eq; clear g) | skip); (have hp := h; try simp only [q_n] at hp); (try (exfalso; first | omega | (cases hp; done))));
  refine zX (zZ ?_); refine xLa rfl rfl rfl rfl (by decide) rfl (.p (by (repeat first | exact q_h | apply q_t | assumption); done) rfl rfl) ?_; apply yY; rfl; rfl; (apply zL; rfl; rfl; rfl; (exact Upd.here); (simp only [setL, q_z, AV.cells]; rfl); rfl; rfl; rfl; exact q_b rfl); refine xAs rfl rfl rfl rfl ?_; refine zY ?_; refine yV ?_; simp only [zD, zK, zJ, zT, retA, ↓reduceIte, Nat.reduceEqDiff]; rotate_left; refine zG ?_; refine zX (zZ ?_); refine exl_map rfl rfl rfl (by exact g_makeMap) ?_; intro _; refine yY rfl rfl (g_insert rfl rfl rfl rfl (by (exact Upd.here)) rfl) ?_; refine yY rfl rfl (g_insert rfl rfl rfl rfl (by (exact Upd.here)) rfl) ?_; refine yY rfl rfl (g_insert rfl rfl rfl rfl (by (exact Upd.here)) rfl) ?_; refine yY rfl rfl (g_insert rfl rfl rfl rfl (by (exact Upd.here)) rfl) ?_; refine yY rfl rfl (g_insert rfl rfl rfl rfl (by (exact Upd.here)) rfl) ?_; refine xMv rfl rfl rfl rfl ?_; refine xFa rfl rfl rfl rfl rfl rfl ?_; refine xLd rfl rfl rfl rfl rfl (.p (by (repeat first | exact q_h | apply q_t | assumption); done) rfl) ?_; show EXL _ _ _ ({ dst := _, op := .lookup _ _ _ true, type := _, pos := _, after := _, guard := _ } :: _) _ _; refine zV rfl rfl rfl (g_lookupOk (v := .raw .nilFunc) (ok := false) rfl rfl (by (repeat first | exact q_h | apply q_t | assumption); done) rfl rfl (by rw [hz]; rfl) (by rw [hz]; rfl)) ?_; refine xMv rfl rfl rfl rfl ?_; apply zV; rfl; rfl; rfl; (apply yW; rfl; rfl); apply zV; rfl; rfl; rfl; (apply yW; rfl; rfl); refine xAs rfl rfl rfl rfl ?_; refine xAs rfl rfl rfl rfl ?_; refine zY ?_; refine zX ?_; refine zX (zZ ?_); refine xMv rfl rfl rfl rfl ?_; apply exl_isB; rfl; rfl; rfl; (apply g_not; rfl); intro _ _; refine zY ?_; refine zU rfl (fun h => ?_) (fun h => ?_) <;> ((first | (subst h; rename BV _ true => g; have h := g.eq; clear g) | (subst h; rename BV _ false => g; have h := g.eq; clear g) | skip); (have hp := h; try simp only [q_n] at hp); (try (exfalso; first | omega | (cases hp; done))));
  refine zX (zZ ?_); refine xLa rfl rfl rfl rfl (by decide) rfl (.p (by (repeat first | exact q_h | apply q_t | assumption); done) rfl rfl) ?_; apply yY; rfl; rfl; (apply zL; rfl; rfl; rfl; (exact Upd.there (Upd.here)); (simp only [setL, q_z, AV.cells]; rfl); rfl; rfl; rfl; exact q_b rfl); refine xAs rfl rfl rfl rfl ?_; refine zY ?_; refine yV ?_; simp only [zD, zK, zJ, zT, retA, ↓reduceIte, Nat.reduceEqDiff]; rotate_left
  (all_goals (repeat (rename BV _ _ => hbv; cases hbv)))
  all_goals (try (first | cases ‹true = false› | cases ‹false = true›))
  all_goals
    refine ret_q (σ3 := σ) .nil ((by repeat (first | exact Res.nil | (apply Res.cons; (first | (apply Res1.ofTmp; rfl) | (apply Res1.ofCell; rfl; rfl; (first | exact .e rfl | exact .p (by (repeat first | exact q_h | apply q_t | assumption); done) rfl | exact .r (by (repeat first | exact q_h | apply q_t | assumption); done) rfl)) | (apply Res1.ofAgg; rfl; rfl; decide; (first | exact .e rfl rfl | exact .p (by (repeat first | exact q_h | apply q_t | assumption); done) rfl rfl | exact .r (by (repeat first | exact q_h | apply q_t | assumption); done) rfl rfl))))))) (by repeat (first | exact q_r | apply q_q | apply q_k | exact q_a)) ?_
    exact fin_done .mk
def passM : Int → Option AV := updA (updA (updA (updA (updA (fun _ => none) 1 (.fn (.func 48) [] [])) 2 (.fn (.func 49) [] [])) 3 (.fn (.func 50) [] [])) 4 (.fn (.func 51) [] [])) 5 (.fn (.func 52) [] [])
set_option maxHeartbeats 16000000 in
theorem do_ok (B : List (List Sl)) (L : List Pk) (r : Ps) (hR : Rt B L) (g : Nat) (hen : Enters Tryz.prog g) (hz : passM r.k = some (.fn (.func g) [] [])) (B1 : List (List Sl)) (L1 : List Pk)
    (hm : ∀ b σ, SCall Tryz.prog g [.ptr b 0, psV r] (stE b B L :: σ) (Is (.int .i64 0) (.cells b (stC B1 L1) 102 :: σ))) (σ : List Ent) :
    SCall Tryz.prog 20 [.agg (stC B L), psV r] σ (Is (.tup [.agg (stC B1 L1), .int .i64 0]) σ) := by
  refine scall_of Tryz.func20 rfl (by simp) ?_
  have hr := fun σ => right_c B L hR σ
  clear hR
  unfold passM at hz
  refine zX (zZ ?_); refine zE rfl rfl rfl (g_box rfl rfl) ?_; intro _; refine zE rfl rfl rfl (g_box rfl rfl) ?_; intro _; refine zE rfl rfl rfl (g_alloc rfl) ?_; intro _; refine xAs rfl rfl rfl rfl ?_; refine zY ?_; refine zX ?_; refine zX (zZ ?_); refine xLa rfl rfl rfl rfl (by decide) rfl (.p (by (repeat first | exact q_h | apply q_t | assumption); done) rfl rfl) ?_; apply exl_isB; rfl; rfl; rfl; (refine yX rfl rfl (zQ (by kernel_rfl)) ?_; exact hr _); intro _ _; apply exl_isB; rfl; rfl; rfl; (apply g_not; rfl); intro _ _; refine zY ?_; refine zU rfl (fun h => ?_) (fun h => ?_) <;> ((first | (subst h; rename BV _ true => g; have h := g.eq; clear g) | (subst h; rename BV _ false => g; have h := g.eq; clear g) | skip); (have hp := h; try simp only [q_n] at hp); (try (exfalso; first | omega | (cases hp; done))));
  refine zX (zZ ?_); refine xLa rfl rfl rfl rfl (by decide) rfl (.p (by (repeat first | exact q_h | apply q_t | assumption); done) rfl rfl) ?_; apply yY; rfl; rfl; (apply zL; rfl; rfl; rfl; (exact Upd.here); (simp only [setL, q_z, AV.cells]; rfl); rfl; rfl; rfl; exact q_b rfl); refine xAs rfl rfl rfl rfl ?_; refine zY ?_; refine yV ?_; simp only [zD, zK, zJ, zT, retA, ↓reduceIte, Nat.reduceEqDiff]; rotate_left; refine zG ?_; refine zX (zZ ?_); refine exl_map rfl rfl rfl (by exact g_makeMap) ?_; intro _; refine yY rfl rfl (g_insert rfl rfl rfl rfl (by (exact Upd.here)) rfl) ?_; refine yY rfl rfl (g_insert rfl rfl rfl rfl (by (exact Upd.here)) rfl) ?_; refine yY rfl rfl (g_insert rfl rfl rfl rfl (by (exact Upd.here)) rfl) ?_; refine yY rfl rfl (g_insert rfl rfl rfl rfl (by (exact Upd.here)) rfl) ?_; refine yY rfl rfl (g_insert rfl rfl rfl rfl (by (exact Upd.here)) rfl) ?_; refine xMv rfl rfl rfl rfl ?_; refine xFa rfl rfl rfl rfl rfl rfl ?_; refine xLd rfl rfl rfl rfl rfl (.p (by (repeat first | exact q_h | apply q_t | assumption); done) rfl) ?_; show EXL _ _ _ ({ dst := _, op := .lookup _ _ _ true, type := _, pos := _, after := _, guard := _ } :: _) _ _; refine zV rfl rfl rfl (g_lookupOk (v := .fn (.func g) [] []) (ok := true) rfl rfl (by (repeat first | exact q_h | apply q_t | assumption); done) rfl rfl (by rw [hz]; rfl) (by rw [hz]; rfl)) ?_; refine xMv rfl rfl rfl rfl ?_; apply zV; rfl; rfl; rfl; (apply yW; rfl; rfl); apply zV; rfl; rfl; rfl; (apply yW; rfl; rfl); refine xAs rfl rfl rfl rfl ?_; refine xAs rfl rfl rfl rfl ?_; refine zY ?_; refine zX ?_; refine zX (zZ ?_); refine xMv rfl rfl rfl rfl ?_; apply exl_isB; rfl; rfl; rfl; (apply g_not; rfl); intro _ _; refine zY ?_; refine zU rfl (fun h => ?_) (fun h => ?_) <;> ((first | (subst h; rename BV _ true => g; have h := g.eq; clear g) | (subst h; rename BV _ false => g; have h := g.eq; clear g) | skip); (have hp := h; try simp only [q_n] at hp); (try (exfalso; first | omega | (cases hp; done))));
  refine zG ?_; refine zX (zZ ?_); refine xLa rfl rfl rfl rfl (by decide) rfl (.p (by (repeat first | exact q_h | apply q_t | assumption); done) rfl rfl) ?_; apply zV; rfl; rfl; rfl; (apply g_build; rfl; rfl; rfl; rfl); refine zE rfl rfl rfl (g_alloc rfl) ?_; intro _; apply yY; rfl; rfl; (apply zL; rfl; rfl; rfl; (exact Upd.here); (simp only [setL, q_z, AV.cells]; rfl); rfl; rfl; rfl; exact q_b rfl); refine zY ?_; refine zX ?_; refine zX (zZ ?_); refine xMv rfl rfl rfl rfl ?_; refine xLa rfl rfl rfl rfl (by decide) rfl (.p (by (repeat first | exact q_h | apply q_t | assumption); done) rfl rfl) ?_; refine zV rfl rfl rfl (yX rfl rfl hen (hm _ _)) ?_; refine xAs rfl rfl rfl rfl ?_; refine zY ?_; refine zX (zZ ?_); refine xMv rfl rfl rfl rfl ?_; refine xBi rfl rfl rfl rfl rfl rfl ?_; intro _ _; refine zY ?_; refine zU rfl (fun h => ?_) (fun h => ?_) <;> ((first | (subst h; rename BV _ true => g; have h := g.eq; clear g) | (subst h; rename BV _ false => g; have h := g.eq; clear g) | skip); (have hp := h; try simp only [q_n] at hp); (try (exfalso; first | omega | (cases hp; done))));
  refine zG ?_; refine zX (zZ ?_); refine xFa rfl rfl rfl rfl rfl rfl ?_; refine xLa rfl rfl rfl rfl (by decide) rfl (.p (by (repeat first | exact q_h | apply q_t | assumption); done) rfl rfl) ?_; apply yY; rfl; rfl; (apply zL; rfl; rfl; rfl; (exact Upd.there (Upd.there (Upd.here))); (simp only [setL, q_z, AV.cells]; rfl); rfl; rfl; rfl; exact q_b rfl); refine xAs rfl rfl rfl rfl ?_; refine zY ?_; refine yV ?_; simp only [zD, zK, zJ, zT, retA, ↓reduceIte, Nat.reduceEqDiff]; rotate_left
  (all_goals (repeat (rename BV _ _ => hbv; cases hbv)))
  all_goals (try (first | cases ‹true = false› | cases ‹false = true›))
  all_goals
    refine ret_q (σ3 := σ) .nil ((by repeat (first | exact Res.nil | (apply Res.cons; (first | (apply Res1.ofTmp; rfl) | (apply Res1.ofCell; rfl; rfl; (first | exact .e rfl | exact .p (by (repeat first | exact q_h | apply q_t | assumption); done) rfl | exact .r (by (repeat first | exact q_h | apply q_t | assumption); done) rfl)) | (apply Res1.ofAgg; rfl; rfl; decide; (first | exact .e rfl rfl | exact .p (by (repeat first | exact q_h | apply q_t | assumption); done) rfl rfl | exact .r (by (repeat first | exact q_h | apply q_t | assumption); done) rfl rfl))))))) (by repeat (first | exact q_r | apply q_q | apply q_k | exact q_a)) ?_
    exact fin_done .mk
set_option maxHeartbeats 16000000 in
theorem do_err (B : List (List Sl)) (L : List Pk) (r : Ps) (hR : Rt B L) (g : Nat) (hen : Enters Tryz.prog g) (hz : passM r.k = some (.fn (.func g) [] [])) (x1 x2 x3 : AV) (e : Int) (he : e ≠ 0)
    (hm : ∀ b σ, SCall Tryz.prog g [.ptr b 0, psV r] (stE b B L :: σ) (Is (.int .i64 e) (.cells b [x1, x2, x3] 102 :: σ))) (σ : List Ent) :
    SCall Tryz.prog 20 [.agg (stC B L), psV r] σ (Is (.tup [rnd0, .int .i64 e]) σ) := by
  refine scall_of Tryz.func20 rfl (by simp) ?_
  have hr := fun σ => right_c B L hR σ
  clear hR
  unfold passM at hz
  refine zX (zZ ?_); refine zE rfl rfl rfl (g_box rfl rfl) ?_; intro _; refine zE rfl rfl rfl (g_box rfl rfl) ?_; intro _; refine zE rfl rfl rfl (g_alloc rfl) ?_; intro _; refine xAs rfl rfl rfl rfl ?_; refine zY ?_; refine zX ?_; refine zX (zZ ?_); refine xLa rfl rfl rfl rfl (by decide) rfl (.p (by (repeat first | exact q_h | apply q_t | assumption); done) rfl rfl) ?_; apply exl_isB; rfl; rfl; rfl; (refine yX rfl rfl (zQ (by kernel_rfl)) ?_; exact hr _); intro _ _; apply exl_isB; rfl; rfl; rfl; (apply g_not; rfl); intro _ _; refine zY ?_; refine zU rfl (fun h => ?_) (fun h => ?_) <;> ((first | (subst h; rename BV _ true => g; have h := g.eq; clear g) | (subst h; rename BV _ false => g; have h := g.eq; clear g) | skip); (have hp := h; try simp only [q_n] at hp); (try (exfalso; first | omega | (cases hp; done))));
  refine zX (zZ ?_); refine xLa rfl rfl rfl rfl (by decide) rfl (.p (by (repeat first | exact q_h | apply q_t | assumption); done) rfl rfl) ?_; apply yY; rfl; rfl; (apply zL; rfl; rfl; rfl; (exact Upd.here); (simp only [setL, q_z, AV.cells]; rfl); rfl; rfl; rfl; exact q_b rfl); refine xAs rfl rfl rfl rfl ?_; refine zY ?_; refine yV ?_; simp only [zD, zK, zJ, zT, retA, ↓reduceIte, Nat.reduceEqDiff]; rotate_left; refine zG ?_; refine zX (zZ ?_); refine exl_map rfl rfl rfl (by exact g_makeMap) ?_; intro _; refine yY rfl rfl (g_insert rfl rfl rfl rfl (by (exact Upd.here)) rfl) ?_; refine yY rfl rfl (g_insert rfl rfl rfl rfl (by (exact Upd.here)) rfl) ?_; refine yY rfl rfl (g_insert rfl rfl rfl rfl (by (exact Upd.here)) rfl) ?_; refine yY rfl rfl (g_insert rfl rfl rfl rfl (by (exact Upd.here)) rfl) ?_; refine yY rfl rfl (g_insert rfl rfl rfl rfl (by (exact Upd.here)) rfl) ?_; refine xMv rfl rfl rfl rfl ?_; refine xFa rfl rfl rfl rfl rfl rfl ?_; refine xLd rfl rfl rfl rfl rfl (.p (by (repeat first | exact q_h | apply q_t | assumption); done) rfl) ?_; show EXL _ _ _ ({ dst := _, op := .lookup _ _ _ true, type := _, pos := _, after := _, guard := _ } :: _) _ _; refine zV rfl rfl rfl (g_lookupOk (v := .fn (.func g) [] []) (ok := true) rfl rfl (by (repeat first | exact q_h | apply q_t | assumption); done) rfl rfl (by rw [hz]; rfl) (by rw [hz]; rfl)) ?_; refine xMv rfl rfl rfl rfl ?_; apply zV; rfl; rfl; rfl; (apply yW; rfl; rfl); apply zV; rfl; rfl; rfl; (apply yW; rfl; rfl); refine xAs rfl rfl rfl rfl ?_; refine xAs rfl rfl rfl rfl ?_; refine zY ?_; refine zX ?_; refine zX (zZ ?_); refine xMv rfl rfl rfl rfl ?_; apply exl_isB; rfl; rfl; rfl; (apply g_not; rfl); intro _ _; refine zY ?_; refine zU rfl (fun h => ?_) (fun h => ?_) <;> ((first | (subst h; rename BV _ true => g; have h := g.eq; clear g) | (subst h; rename BV _ false => g; have h := g.eq; clear g) | skip); (have hp := h; try simp only [q_n] at hp); (try (exfalso; first | omega | (cases hp; done))));
  refine zG ?_; refine zX (zZ ?_); refine xLa rfl rfl rfl rfl (by decide) rfl (.p (by (repeat first | exact q_h | apply q_t | assumption); done) rfl rfl) ?_; apply zV; rfl; rfl; rfl; (apply g_build; rfl; rfl; rfl; rfl); refine zE rfl rfl rfl (g_alloc rfl) ?_; intro _; apply yY; rfl; rfl; (apply zL; rfl; rfl; rfl; (exact Upd.here); (simp only [setL, q_z, AV.cells]; rfl); rfl; rfl; rfl; exact q_b rfl); refine zY ?_; refine zX ?_; refine zX (zZ ?_); refine xMv rfl rfl rfl rfl ?_; refine xLa rfl rfl rfl rfl (by decide) rfl (.p (by (repeat first | exact q_h | apply q_t | assumption); done) rfl rfl) ?_; refine zV rfl rfl rfl (yX rfl rfl hen (hm _ _)) ?_; refine xAs rfl rfl rfl rfl ?_; refine zY ?_; refine zX (zZ ?_); refine xMv rfl rfl rfl rfl ?_; refine xBi rfl rfl rfl rfl rfl rfl ?_; intro _ _; refine zY ?_; refine zU rfl (fun h => ?_) (fun h => ?_) <;> ((first | (subst h; rename BV _ true => g; have h := g.eq; clear g) | (subst h; rename BV _ false => g; have h := g.eq; clear g) | skip); (have hp := h; try simp only [q_n] at hp); (try (exfalso; first | omega | (cases hp; done))));
  refine zX (zZ ?_); refine xLa rfl rfl rfl rfl (by decide) rfl (.p (by (repeat first | exact q_h | apply q_t | assumption); done) rfl rfl) ?_; refine xMv rfl rfl rfl rfl ?_; apply yY; rfl; rfl; (apply zL; rfl; rfl; rfl; (exact Upd.there (Upd.there (Upd.here))); (simp only [setL, q_z, AV.cells]; rfl); rfl; rfl; rfl; exact q_b rfl); refine xAs rfl rfl rfl rfl ?_; refine zY ?_; refine yV ?_; simp only [zD, zK, zJ, zT, retA, ↓reduceIte, Nat.reduceEqDiff]; rotate_left
  (all_goals (repeat (rename BV _ _ => hbv; cases hbv)))
  all_goals (try (first | cases ‹true = false› | cases ‹false = true›))
  all_goals
    refine ret_q (σ3 := σ) .nil ((by repeat (first | exact Res.nil | (apply Res.cons; (first | (apply Res1.ofTmp; rfl) | (apply Res1.ofCell; rfl; rfl; (first | exact .e rfl | exact .p (by (repeat first | exact q_h | apply q_t | assumption); done) rfl | exact .r (by (repeat first | exact q_h | apply q_t | assumption); done) rfl)) | (apply Res1.ofAgg; rfl; rfl; decide; (first | exact .e rfl rfl | exact .p (by (repeat first | exact q_h | apply q_t | assumption); done) rfl rfl | exact .r (by (repeat first | exact q_h | apply q_t | assumption); done) rfl rfl))))))) (by repeat (first | exact q_r | apply q_q | apply q_k | exact q_a)) ?_
    exact fin_done .mk
end Go.Proofs.YtkhoengjdfmfaaaGreat
namespace Go.Proofs.YtkhoengjdfmfaaaGreat
theorem new_bad (n : Int) (h : n < 1 ∨ 8 < n) (σ : List Ent) : SCall Tryz.prog 18 [.int .i64 n] σ (Is (.tup [rnd0, .int .i64 1]) σ) := by
  refine scall_of Tryz.func18 rfl (by simp) ?_
  have hi : ∀ σ, SCall Tryz.prog 44 [.int .i64 n, .int .i64 1, .int .i64 8] σ (Is (.bool false) σ) := fun σ => by
    have h0 := in_c n 1 8 σ
    rwa [show inB n 1 8 = false by unfold inB; simp; omega] at h0
  clear h
  refine zX (zZ ?_); refine zE rfl rfl rfl (g_alloc rfl) ?_; intro _; refine xAs rfl rfl rfl rfl ?_; refine zY ?_; refine zX ?_; refine zX (zZ ?_); refine xMv rfl rfl rfl rfl ?_; apply exl_isB; rfl; rfl; rfl; (refine yX rfl rfl (zQ (by kernel_rfl)) ?_; exact hi _); intro _ _; apply exl_isB; rfl; rfl; rfl; (apply g_not; rfl); intro _ _; refine zY ?_; refine zU rfl (fun h => ?_) (fun h => ?_) <;> ((first | (subst h; rename BV _ true => g; have h := g.eq; clear g) | (subst h; rename BV _ false => g; have h := g.eq; clear g) | skip); (have hp := h; try simp only [q_n] at hp); (try (exfalso; first | omega | (cases hp; done))));
  refine zX (zZ ?_); refine xLa rfl rfl rfl rfl (by decide) rfl (.p (by (repeat first | exact q_h | apply q_t | assumption); done) rfl rfl) ?_; apply yY; rfl; rfl; (apply zL; rfl; rfl; rfl; (exact Upd.here); (simp only [setL, q_z, AV.cells]; rfl); rfl; rfl; rfl; exact q_b rfl); refine xAs rfl rfl rfl rfl ?_; refine zY ?_; refine yV ?_; simp only [zD, zK, zJ, zT, retA, ↓reduceIte, Nat.reduceEqDiff]; rotate_left; refine zG ?_; refine zX ?_; rotate_left
  (all_goals (repeat (rename BV _ _ => hbv; cases hbv)))
  all_goals (try (first | cases ‹true = false› | cases ‹false = true›))
  refine ret_q (σ3 := σ) .nil ((by repeat (first | exact Res.nil | (apply Res.cons; (first | (apply Res1.ofTmp; rfl) | (apply Res1.ofCell; rfl; rfl; (first | exact .e rfl | exact .p (by (repeat first | exact q_h | apply q_t | assumption); done) rfl | exact .r (by (repeat first | exact q_h | apply q_t | assumption); done) rfl)) | (apply Res1.ofAgg; rfl; rfl; decide; (first | exact .e rfl rfl | exact .p (by (repeat first | exact q_h | apply q_t | assumption); done) rfl rfl | exact .r (by (repeat first | exact q_h | apply q_t | assumption); done) rfl rfl))))))) (by repeat (first | exact q_r | apply q_q | apply q_k | exact q_a)) ?_
  exact fin_done .mk
theorem view3 {M : Mem} {n : Nat} {x y z : AV} {u : Value} (h : VRel M (.tup [.agg [.dl 1 (List.replicate n [.slv nilS]), x, y], z]) u) : VRel M (.tup [.agg [.dl 1 (List.replicate n [.dl 8 []]), x, y], z]) u := by
  simp only [VRel, VRels] at h ⊢
  obtain ⟨vs, rfl, v, r, h1, ⟨ws, rfl, w, r2, h2, h3, h4⟩, h5⟩ := h
  exact ⟨vs, rfl, _, r, h1, ⟨ws, rfl, w, r2, h2, by have := nils_view (sz := 8) (by simpa only [VRel] using h3); simpa only [VRel] using this, h4⟩, h5⟩
set_option maxHeartbeats 4000000 in
theorem new_ok (n : Nat) (h : 1 ≤ n ∧ n ≤ 8) (σ : List Ent) : SCall Tryz.prog 18 [.int .i64 n] σ (Is (.tup [.agg (stC (List.replicate n []) []), .int .i64 0]) σ) := by
  refine scall_of Tryz.func18 rfl (by simp) ?_
  have hi : ∀ σ, SCall Tryz.prog 44 [.int .i64 n, .int .i64 1, .int .i64 8] σ (Is (.bool true) σ) := fun σ => by
    have h0 := in_c n 1 8 σ
    rwa [show inB n 1 8 = true by unfold inB; simp; omega] at h0
  refine zX (zZ ?_); refine zE rfl rfl rfl (g_alloc rfl) ?_; intro _; refine xAs rfl rfl rfl rfl ?_; refine zY ?_; refine zX ?_; refine zX (zZ ?_); refine xMv rfl rfl rfl rfl ?_; apply exl_isB; rfl; rfl; rfl; (refine yX rfl rfl (zQ (by kernel_rfl)) ?_; exact hi _); intro _ _; apply exl_isB; rfl; rfl; rfl; (apply g_not; rfl); intro _ _; refine zY ?_; refine zU rfl (fun h => ?_) (fun h => ?_) <;> ((first | (subst h; rename BV _ true => g; have h := g.eq; clear g) | (subst h; rename BV _ false => g; have h := g.eq; clear g) | skip); (have hp := h; try simp only [q_n] at hp); (try (exfalso; first | omega | (cases hp; done))));
  refine zX (zZ ?_); refine xLa rfl rfl rfl rfl (by decide) rfl (.p (by (repeat first | exact q_h | apply q_t | assumption); done) rfl rfl) ?_; apply yY; rfl; rfl; (apply zL; rfl; rfl; rfl; (exact Upd.here); (simp only [setL, q_z, AV.cells]; rfl); rfl; rfl; rfl; exact q_b rfl); refine xAs rfl rfl rfl rfl ?_; refine zY ?_; refine yV ?_; simp only [zD, zK, zJ, zT, retA, ↓reduceIte, Nat.reduceEqDiff]; rotate_left; refine zG ?_; refine zX ?_; rotate_left
  (all_goals (repeat (rename BV _ _ => hbv; cases hbv)))
  all_goals (try (first | cases ‹true = false› | cases ‹false = true›))
  have hni : ((n : Nat) : Int) = ((n : Nat) : Int) := rfl
  refine ex_drawLO anyK 4 [0, 2, 1, 3] [2] rfl (by kernel_rfl) rfl (by kernel_rfl) rfl ?_
  simp only [pick, List.filterMap_cons, List.filterMap_nil, List.getElem?_cons_zero, List.getElem?_cons_succ, List.take_succ_cons, List.take_zero, List.drop_succ_cons, List.drop_zero]
  apply zR; rfl; rfl; rfl; (intro σ' hl; (apply zH; rfl)); apply zR; rfl; rfl; rfl; (intro σ' hl; (refine yX rfl rfl (zQ (by kernel_rfl)) ?_; exact netnew_c _)); refine wl_row rfl rfl rfl (by apply g_makeSlice; rfl; rfl; rfl; rfl; (rfl); (rfl); (refine app_ok ?_ (by kernel_rfl); (omega))) ?_; intro _; apply zR; rfl; rfl; rfl; (intro σ' hl; (apply g_build; rfl; rfl; rfl; rfl)); refine wl_nil ?_; apply yY; rfl; rfl; (apply zL; rfl; rfl; rfl; (exact Upd.there (Upd.here)); (simp only [setL, q_z, AV.cells]; rfl); rfl; rfl; rfl; exact q_b rfl); refine xAs rfl rfl rfl rfl ?_; refine zY ?_; refine yV ?_; simp only [zD, zK, zJ, zT, retA, ↓reduceIte, Nat.reduceEqDiff]; rotate_left
  (all_goals (repeat (rename BV _ _ => hbv; cases hbv)))
  all_goals (try (first | cases ‹true = false› | cases ‹false = true›))
  rename Value => v
  refine ret_q (σ3 := .row v 24 1 (List.replicate n [.slv nilS]) :: σ) .nil ((by repeat (first | exact Res.nil | (apply Res.cons; (first | (apply Res1.ofTmp; rfl) | (apply Res1.ofCell; rfl; rfl; (first | exact .e rfl | exact .p (by (repeat first | exact q_h | apply q_t | assumption); done) rfl | exact .r (by (repeat first | exact q_h | apply q_t | assumption); done) rfl)) | (apply Res1.ofAgg; rfl; rfl; decide; (first | exact .e rfl rfl | exact .p (by (repeat first | exact q_h | apply q_t | assumption); done) rfl rfl | exact .r (by (repeat first | exact q_h | apply q_t | assumption); done) rfl rfl))))))) (by repeat (first | exact q_r | apply q_q | apply q_k | exact q_a)) ?_
  refine fin_seal .here (.tup (.agg (.here (.same (.same .nil))) (.same .nil)) .nil) ?_
  refine fin_view (fun M u hv => view3 hv) ?_
  refine fin_nil (sz := 3) (.tup (.agg (.same (.here (.same .nil))) (.same .nil)) .nil) ?_
  refine fin_nil (sz := 2) (.tup (.agg (.same (.same (.here .nil))) (.same .nil)) .nil) ?_
  rw [show stC (List.replicate n []) [] = [.dl 1 (List.replicate n [.dl 8 []]), .dl 3 [], .dl 2 []] by show [AV.dl 1 ((List.replicate n ([] : List Sl)).map bkC), _, _] = _; rw [List.map_replicate]; rfl]
  exact fin_done .mk
end Go.Proofs.YtkhoengjdfmfaaaGreat
namespace Go.Proofs.YtkhoengjdfmfaaaGreat
theorem wrapU {n : Int} (h : 0 ≤ n ∧ n ≤ 9223372036854775807) : IntKind.u64.wrap n = n := by
  simp only [IntKind.wrap, IntKind.bits, IntKind.signed]
  simp
  omega
theorem g_convU {P : Program} {ro : Option Nat} {env : Env} {σ : List Ent} {dst : Option Tmp} {ty : TypeId} {pos : String} {after : Array Edge} {guard : Option (Nat × Bool)} {s t : TypeId} {x : Operand} {k' ks : IntKind} {n : Int} (hs : P.underlying s = some (.int ks)) (ht : P.underlying t = some (.int .u64)) (hx : evA env x = some (.int k' n)) (hn : 0 ≤ n ∧ n ≤ 9223372036854775807) :
    GOp P ro ⟨dst, .convert s t x, ty, pos, after, guard⟩ env σ (Is (.int .u64 n) σ) :=
  gop_pure _ (by intro c h; cases h) fun X M e w hg ho => by
    have h1 := ho x (by simp [Op.operands]) _ hx
    simp only [VRel] at h1
    refine ⟨.int .u64 n, by simp [VRel], ?_⟩
    have hw : IntKind.u64.wrap n = n := wrapU hn
    simp [execOp, h1, convert, Sem.run_bind, run_underlying hs, run_underlying ht, Conv.intToInt, hw]
theorem g_halfU {P : Program} {ro : Option Nat} {env : Env} {σ : List Ent} {dst : Option Tmp} {ty : TypeId} {pos : String} {after : Array Edge} {guard : Option (Nat × Bool)} {x y : Operand} {t yt : TypeId} {k' : IntKind} {a b : Int} {m : Nat} (hx : evA env x = some (.int .u64 a)) (hy : evA env y = some (.int k' b)) (hb : b = 1) (ha : a = (m : Int)) :
    GOp P ro ⟨dst, .binOp .shr t x y yt, ty, pos, after, guard⟩ env σ (Is (.int .u64 ((m / 2 : Nat) : Int)) σ) := by
  subst ha hb
  refine g_bits (c := ((m : Int)).fdiv (2 ^ min 1 64)) hx hy (.inr (.inr rfl)) ?_ ?_
  · show (if (1 : Int) < 0 then none else some (((m : Int)).fdiv (2 ^ min (1 : Int).toNat 64))) = _
    rw [if_neg (by omega)]; rfl
  · rw [Int.fdiv_eq_ediv_of_nonneg _ (by decide)]
    show (m : Int) / 2 = _
    omega
end Go.Proofs.YtkhoengjdfmfaaaGreat
namespace Go.Proofs.YtkhoengjdfmfaaaGreat
abbrev entC (e : Ey) : List AV := [.int .i64 e.1, .int .i64 e.2.tab, .int .i64 e.2.seq, .int .i64 e.2.kind, .int .i64 e.2.turn, .int .i64 e.2.farm, .int .i64 e.2.hour, .int .i64 e.2.lit, .int .i64 e.2.off]
abbrev entF' : AV := .fn (.func 35) [] []
theorem ent_get {l : List Ey} {k : Nat} {x : Ey} (h : l[k]? = some x) : (l.map entC)[k]? = some (entC x) := by rw [List.getElem?_map, h]; rfl
theorem swp2_map {L : List Ey} {p q : Nat} {x y : Ey} (h1 : L[p]? = some x) (h2 : L[q]? = some y) : ((L.map entC).set p (entC y)).set q (entC x) = (swp2 L p q).map entC := by
  unfold swp2; rw [h1, h2]; simp [List.map_set]
theorem less_c (x y : Ey) (σ : List Ent) : SCall Tryz.prog 35 [.agg (entC x), .agg (entC y)] σ (Is (.int .i64 (cmpI x.2.hour y.2.hour)) σ) := by
  refine scall_of Tryz.func35 rfl (by simp) ?_
  refine zX (zZ ?_); refine zE rfl rfl rfl (g_box rfl rfl) ?_; intro _; refine zE rfl rfl rfl (g_box rfl rfl) ?_; intro _; refine xAs rfl rfl rfl rfl ?_; refine zY ?_; refine zX (zZ ?_); refine xFa rfl rfl rfl rfl rfl rfl ?_; refine xFa rfl rfl rfl rfl rfl rfl ?_; refine xLd rfl rfl rfl rfl rfl (.p (by (repeat first | exact q_h | apply q_t | assumption); done) rfl) ?_; refine xFa rfl rfl rfl rfl rfl rfl ?_; refine xFa rfl rfl rfl rfl rfl rfl ?_; refine xLd rfl rfl rfl rfl rfl (.p (by (repeat first | exact q_h | apply q_t | assumption); done) rfl) ?_; apply zV; rfl; rfl; rfl; (refine yX rfl rfl (zQ (by kernel_rfl)) ?_; exact cmpI_c _ _ _); refine xAs rfl rfl rfl rfl ?_; refine zY ?_; refine yV ?_; simp only [zD, zK, zJ, zT, retA, ↓reduceIte, Nat.reduceEqDiff]; rotate_left
  (all_goals (repeat (rename BV _ _ => hbv; cases hbv)))
  all_goals (try (first | cases ‹true = false› | cases ‹false = true›))
  refine ret_is .nil (.cons (.ofTmp rfl) .nil) (by repeat (first | exact q_r | apply q_q | apply q_k | exact q_a)) ?_
  rfl
set_option maxHeartbeats 4000000 in
theorem swapRange_c (A X B Y C : List Ey) (pa pb n : Nat) (hpa : A.length = pa) (hn : X.length = n) (hn2 : Y.length = n) (hpb : pa + n + B.length = pb) (hl : (A ++ X ++ B ++ Y ++ C).length ≤ 100000) (v : Value) (σ : List Ent) :
    SCall Tryz.prog 155 [.slv v, .int .i64 pa, .int .i64 pb, .int .i64 n, entF'] (.row v 80 9 ((A ++ X ++ B ++ Y ++ C).map entC) :: σ) (fun r τ => r = .tup [] ∧ τ = .row v 80 9 ((A ++ Y ++ B ++ X ++ C).map entC) :: σ) := by
  refine scall_of Tryz.func155 rfl (by simp) ?_
  refine zX (zZ ?_); refine xAs rfl rfl rfl rfl ?_; refine zY ?_; refine yZ ?_; rotate_left
  (all_goals (repeat (rename BV _ _ => hbv; cases hbv)))
  all_goals (try (first | cases ‹true = false› | cases ‹false = true›))
  refine ex_loop (fun (k : Nat) => (⟨[(0, .slv v), (1, .int .i64 pa), (2, .int .i64 pb), (3, .int .i64 n), (10, .int .i64 k)], .row v 80 9 ((A ++ (Y.take k ++ X.drop k) ++ B ++ (X.take k ++ Y.drop k) ++ C).map entC) :: σ, [], Tryz.f155.ntmps⟩ : St)) (fun k => k ≤ n) (fun k => n - k) 0 (Nat.zero_le _) (St.le_of (by repeat (first | exact trivial | refine ⟨rfl, ?_⟩)) (by repeat (first | exact q_r | apply q_q | apply q_k))) ?_
  intro k hI
  by_cases hk : k < n
  · have hst := swap_range (A := A) (B := B) (C := C) (X := X) (Y := Y) (by omega) (k := k) (by omega)
    rw [hpa, hn, hpb] at hst
    obtain ⟨L, hL⟩ : ∃ L, A ++ (Y.take k ++ X.drop k) ++ B ++ (X.take k ++ Y.drop k) ++ C = L := ⟨_, rfl⟩
    have hLl : L.length = pa + n + B.length + n + C.length := by rw [← hL]; simp; omega
    have hLb : L.length ≤ 100000 := by simp at hl; omega
    rw [hL] at hst ⊢
    obtain ⟨x, hx⟩ : ∃ x, L[pa + k]? = some x := get_some (by omega)
    obtain ⟨y, hy⟩ : ∃ y, L[pb + k]? = some y := get_some (by omega)
    have hgx := ent_get hx
    have hgy := ent_get hy
    have hz1 : (pa : Int) + (k : Int) = ((pa + k : Nat) : Int) := by omega
    have hz2 : (pb : Int) + (k : Int) = ((pb + k : Nat) : Int) := by omega
    have hw := swp2_map hx hy
    rw [hst] at hw
    have hlm : (L.map entC).length = L.length := List.length_map _
    clear hst hL hl
    refine ex_rowV (L := L.map entC) (.head _) (fun e => by rw [List.map_eq_nil_iff] at e; subst e; cases hx) ?_
    rintro g cap rfl
    rw [hlm]
    refine zX ?_; refine zX (zZ ?_); refine xMv rfl rfl rfl rfl ?_; refine xMv rfl rfl rfl rfl ?_; refine xBi rfl rfl rfl rfl rfl rfl ?_; intro _ _; refine zY ?_; refine zU rfl (fun h => ?_) (fun h => ?_) <;> ((first | (subst h; rename BV _ true => g; have h := g.eq; clear g) | (subst h; rename BV _ false => g; have h := g.eq; clear g) | skip); (have hp := h; try simp only [q_n] at hp); (try (exfalso; first | omega | (cases hp; done))));
    refine zG ?_; refine zX ?_; refine yZ ?_; rotate_left
    (all_goals (repeat (rename BV _ _ => hbv; cases hbv)))
    all_goals (try (first | cases ‹true = false› | cases ‹false = true›))
    refine ex_drfT (fun _ => False) [13, 19, 21] 22 rfl (by kernel_rfl) rfl ?_
    simp only [List.take_succ_cons, List.take_zero, List.drop_succ_cons, List.drop_zero]
    refine zN rfl rfl (by kernel_rfl) ?_; apply zF; rfl; rfl; (intro σ' hl; (apply zH; rfl)); refine zN rfl rfl (by kernel_rfl) ?_; apply zF; rfl; rfl; (intro σ' hl; (apply zH; rfl)); refine zN rfl rfl (by kernel_rfl) ?_; apply zF; rfl; rfl; (intro σ' hl; (apply zH; rfl)); refine zN rfl rfl (by kernel_rfl) ?_; apply zF; rfl; rfl; (intro σ' hl; (apply g_add; rfl; rfl; rfl; exact ⟨by omega, by omega⟩)); refine zN rfl rfl (by kernel_rfl) ?_; apply zF; rfl; rfl; (intro σ' hl; (apply zH; rfl)); refine zN rfl rfl (by kernel_rfl) ?_; apply zF; rfl; rfl; (intro σ' hl; (apply zH; rfl)); refine zN rfl rfl (by kernel_rfl) ?_; apply zF; rfl; rfl; (intro σ' hl; (apply zH; rfl)); refine zN rfl rfl (by kernel_rfl) ?_; apply zF; rfl; rfl; (intro σ' hl; (apply g_add; rfl; rfl; rfl; exact ⟨by omega, by omega⟩)); refine zN rfl rfl (by kernel_rfl) ?_; apply zF; rfl; rfl; (intro σ' hl; (apply zH; rfl)); refine zN rfl rfl (by kernel_rfl) ?_; apply zF; rfl; rfl; (intro σ' hl; (apply zH; rfl)); refine zN rfl rfl (by kernel_rfl) ?_; apply zF; rfl; rfl; (intro σ' hl; (apply zH; rfl)); refine zN rfl rfl (by kernel_rfl) ?_; apply zF; rfl; rfl; (intro σ' hl; (apply g_add; rfl; rfl; rfl; exact ⟨by omega, by omega⟩)); refine zN rfl rfl (by kernel_rfl) ?_; apply zF; rfl; rfl; (intro σ' hl; (apply g_indexRaw; rfl; rfl; rfl; (assumption); (omega))); refine zN rfl rfl (by kernel_rfl) ?_; apply zF; rfl; rfl; (intro σ' hl; (apply zH; rfl)); refine zN rfl rfl (by kernel_rfl) ?_; apply zF; rfl; rfl; (intro σ' hl; (apply zH; rfl)); refine zN rfl rfl (by kernel_rfl) ?_; apply zF; rfl; rfl; (intro σ' hl; (apply zH; rfl)); refine zN rfl rfl (by kernel_rfl) ?_; apply zF; rfl; rfl; (intro σ' hl; (apply g_add; rfl; rfl; rfl; exact ⟨by omega, by omega⟩)); refine zN rfl rfl (by kernel_rfl) ?_; apply zF; rfl; rfl; (intro σ' hl; (apply g_indexRaw; rfl; rfl; rfl; (assumption); (omega))); refine drf_two rfl rfl rfl ?_ ?_; apply drs_is; rfl; rfl; (apply zB; rfl; decide; rfl; (exact .k0 (by (repeat first | exact q_h | apply q_t | assumption); done) (by assumption) rfl rfl)); refine drf_one rfl rfl ?_; apply drs_is; rfl; rfl; (apply zB; rfl; decide; rfl; (exact .k0 (by (repeat first | exact q_h | apply q_t | assumption); done) (by assumption) rfl rfl)); refine zN rfl rfl (by kernel_rfl) ?_; apply zF; rfl; rfl; (intro σ' hl; (apply g_indexRaw; rfl; rfl; rfl; (assumption); (omega))); refine drf_one rfl rfl ?_; apply drs_do; rfl; rfl; (focus (apply g_setElem; rfl; rfl; rfl; rfl; rfl; rfl; rotate_left; (exact Upd.here); (omega))); (rintro _ (rfl | rfl | rfl) _ <;> exact (by (repeat first | exact q_h | apply q_t | assumption); done)); refine drf_nil rfl ?_; apply zV; rfl; rfl; rfl; (apply g_indexRow; rfl; rfl; exact (by (repeat first | exact q_h | apply q_t | assumption); done); rfl; (assumption); (simp only [List.length_map, List.length_set]; omega)); apply yY; rfl; rfl; focus (apply g_setElem; rfl; rfl; rfl; rfl; rfl; rfl; rotate_left; (exact Upd.here); (simp only [List.length_set, List.length_map]; omega));
    refine zC ?_; refine zZ ?_; refine xMv rfl rfl rfl rfl ?_; apply zV; rfl; rfl; rfl; (apply g_add; rfl; rfl; rfl; exact ⟨by omega, by omega⟩); refine xAs rfl rfl rfl rfl ?_; refine zC ?_; simp only [zD, zK, zJ, zT, retA, ↓reduceIte, Nat.reduceEqDiff]; rotate_left; apply drs_is; rfl; rfl; (apply zB; rfl; decide; rfl; (exact .k0 (by (repeat first | exact q_h | apply q_t | assumption); done) (by assumption) rfl rfl)); refine drf_one rfl rfl ?_; apply drs_is; rfl; rfl; (apply zB; rfl; decide; rfl; (exact .k0 (by (repeat first | exact q_h | apply q_t | assumption); done) (by assumption) rfl rfl)); refine zN rfl rfl (by kernel_rfl) ?_; apply zF; rfl; rfl; (intro σ' hl; (apply g_indexRaw; rfl; rfl; rfl; (assumption); (omega))); refine drf_one rfl rfl ?_; apply drs_do; rfl; rfl; (focus (apply g_setElem; rfl; rfl; rfl; rfl; rfl; rfl; rotate_left; (exact Upd.here); (omega))); (rintro _ (rfl | rfl | rfl) _ <;> exact (by (repeat first | exact q_h | apply q_t | assumption); done)); refine drf_nil rfl ?_; apply zV; rfl; rfl; rfl; (apply g_indexRow; rfl; rfl; exact (by (repeat first | exact q_h | apply q_t | assumption); done); rfl; (assumption); (simp only [List.length_map, List.length_set]; omega)); apply yY; rfl; rfl; focus (apply g_setElem; rfl; rfl; rfl; rfl; rfl; rfl; rotate_left; (exact Upd.here); (simp only [List.length_set, List.length_map]; omega));
    refine zC ?_; refine zZ ?_; refine xMv rfl rfl rfl rfl ?_; apply zV; rfl; rfl; rfl; (apply g_add; rfl; rfl; rfl; exact ⟨by omega, by omega⟩); refine xAs rfl rfl rfl rfl ?_; refine zC ?_; simp only [zD, zK, zJ, zT, retA, ↓reduceIte, Nat.reduceEqDiff]; rotate_left
    (all_goals (repeat (rename BV _ _ => hbv; cases hbv)))
    all_goals (try (first | cases ‹true = false› | cases ‹false = true›))
    all_goals
      refine ⟨k + 1, hk, by omega, ?_⟩
      rw [← hw]
      exact (St.le_of (by repeat (first | exact trivial | refine ⟨rfl, ?_⟩)) (by repeat (first | exact q_r | apply q_q | apply q_k | exact q_a)))
  · have e : k = n := by omega
    subst e
    rw [List.take_of_length_le (by omega), List.drop_of_length_le (by omega), List.take_of_length_le (by omega), List.drop_of_length_le (by omega), List.append_nil, List.append_nil]
    refine zX ?_; refine zX (zZ ?_); refine xMv rfl rfl rfl rfl ?_; refine xMv rfl rfl rfl rfl ?_; refine xBi rfl rfl rfl rfl rfl rfl ?_; intro _ _; refine zY ?_; refine zU rfl (fun h => ?_) (fun h => ?_) <;> ((first | (subst h; rename BV _ true => g; have h := g.eq; clear g) | (subst h; rename BV _ false => g; have h := g.eq; clear g) | skip); (have hp := h; try simp only [q_n] at hp); (try (exfalso; first | omega | (cases hp; done))));
    refine ex_exit ?_; simp only [zD, zK, zJ, zT, retA, ↓reduceIte, Nat.reduceEqDiff]; rotate_left
    (all_goals (repeat (rename BV _ _ => hbv; cases hbv)))
    all_goals (try (first | cases ‹true = false› | cases ‹false = true›))
    refine ret_q (σ3 := .row v 80 9 ((A ++ Y ++ B ++ X ++ C).map entC) :: σ) .nil ((by repeat (first | exact Res.nil | (apply Res.cons; (first | (apply Res1.ofTmp; rfl) | (apply Res1.ofCell; rfl; rfl; (first | exact .e rfl | exact .p (by (repeat first | exact q_h | apply q_t | assumption); done) rfl | exact .r (by (repeat first | exact q_h | apply q_t | assumption); done) rfl)) | (apply Res1.ofAgg; rfl; rfl; decide; (first | exact .e rfl rfl | exact .p (by (repeat first | exact q_h | apply q_t | assumption); done) rfl rfl | exact .r (by (repeat first | exact q_h | apply q_t | assumption); done) rfl rfl))))))) (by repeat (first | exact q_r | apply q_q | apply q_k | exact q_a)) ?_
    exact fin_done ⟨rfl, rfl⟩
end Go.Proofs.YtkhoengjdfmfaaaGreat
