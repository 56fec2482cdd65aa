/- Parts of the proof that belong together: Wl Wm To Sne Wn Smk Wo Wp Wr Tp Wt Wq. -/
import Derived.Test.YtkhoengjdfmfaaaGreatGC03
import Derived.Test.YtkhoengjdfmfaaaGreatGC12
import Derived.Test.YtkhoengjdfmfaaaGreatGC13
import Derived.Test.YtkhoengjdfmfaaaGreatGC17
import Derived.WideKeyMaps
import Derived.DeepKeys4
import Derived.WalkArith
set_option maxRecDepth 10000
set_option linter.unusedSimpArgs false
set_option linter.unusedVariables false
namespace Go.Proofs.YtkhoengjdfmfaaaGreat
set_option maxHeartbeats 4000000 in
theorem same_c (l : List Sl) (σ : List Ent) : SCall Tryz.prog 15 [.agg [sls l], .agg [sls l]] σ (Is (.bool true) σ) := by
  refine scall_of Tryz.func15 rfl (by simp) ?_
  refine zX (zZ ?_); refine zE rfl rfl rfl (g_box rfl rfl) ?_; intro _; refine zE rfl rfl rfl (g_box rfl rfl) ?_; intro _; refine xAs rfl rfl rfl rfl ?_; refine zY ?_; refine zX ?_; refine zX (zZ ?_); refine xFa rfl rfl rfl rfl rfl rfl ?_; refine xLd rfl rfl rfl rfl rfl (.p (by (repeat first | exact q_h | apply q_t | assumption); done) rfl) ?_; apply zV; rfl; rfl; rfl; (apply g_len; rfl; rfl; (exact (List.length_map _).symm)); refine xFa rfl rfl rfl rfl rfl rfl ?_; refine xLd rfl rfl rfl rfl rfl (.p (by (repeat first | exact q_h | apply q_t | assumption); done) rfl) ?_; apply zV; rfl; rfl; rfl; (apply g_len; rfl; rfl; (exact (List.length_map _).symm)); refine xBi rfl rfl rfl rfl rfl rfl ?_; intro _ _; refine zY ?_; refine zU rfl (fun h => ?_) (fun h => ?_) <;> ((first | (subst h; rename BV _ true => g; have h := g.eq; clear g) | (subst h; rename BV _ false => g; have h := g.eq; clear g) | skip); (have hp := h; try simp only [q_n] at hp); (try (exfalso; first | omega | (cases hp; done))));
  refine zG ?_; refine zX ?_; refine zX (zZ ?_); refine xAs rfl rfl rfl rfl ?_; refine zY ?_; refine yZ ?_; rotate_left
  (all_goals (repeat (rename BV _ _ => hbv; cases hbv)))
  all_goals (try (first | cases ‹true = false› | cases ‹false = true›))
  refine ex_len (t := 7) rfl ((List.length_map _).symm) (fun hlen => ?_)
  rename Nat => b3; revert b3; rename Nat => b2; revert b2
  intro b2 b3
  refine ex_loop (fun (k : Nat) => (⟨[(2, .ptr b2 0), (3, .ptr b3 0), (5, .int .i64 k)], .cells b3 [sls l] 24 :: .cells b2 [sls l] 24 :: σ, [], Tryz.f15.ntmps⟩ : St)) (fun k => k ≤ l.length) (fun k => l.length - k) 0 (Nat.zero_le _) (St.le_of (by repeat (first | exact trivial | refine ⟨rfl, ?_⟩)) (by repeat (first | exact q_r | apply q_q | apply q_k))) ?_
  intro k hI
  by_cases hk : k < l.length
  · obtain ⟨s, hs⟩ : ∃ s, l[k]? = some s := get_some hk
    have hg := sl_get hs
    refine zX ?_; refine zX (zZ ?_); refine xMv rfl rfl rfl rfl ?_; refine xFa rfl rfl rfl rfl rfl rfl ?_; refine xLd rfl rfl rfl rfl rfl (.p (by (repeat first | exact q_h | apply q_t | assumption); done) rfl) ?_; apply zV; rfl; rfl; rfl; (apply g_len; rfl; rfl; (exact (List.length_map _).symm)); refine xBi rfl rfl rfl rfl rfl rfl ?_; intro _ _; refine zY ?_; refine zU rfl (fun h => ?_) (fun h => ?_) <;> ((first | (subst h; rename BV _ true => g; have h := g.eq; clear g) | (subst h; rename BV _ false => g; have h := g.eq; clear g) | skip); (have hp := h; try simp only [q_n] at hp); (try (exfalso; first | omega | (cases hp; done))));
    refine zG ?_; refine zX ?_; refine yZ ?_; refine zX ?_; refine ex_drawP rfl rfl (by kernel_rfl) rfl ?_; refine ex_drawQ rfl (by kernel_rfl) rfl ?_; apply zR; rfl; rfl; rfl; (intro σ' hl; (apply zP; rfl; rfl; rfl)); apply zR; rfl; rfl; rfl; (intro σ' hl; (apply g_load1; rfl; rfl; (exact .p (hl _ (by (exact True.intro)) (by (repeat first | exact q_h | apply q_t | assumption); done)) rfl))); apply zR; rfl; rfl; rfl; (intro σ' hl; (apply zH; rfl)); apply zR; rfl; rfl; rfl; (intro σ' hl; (apply g_indexDl; rfl; rfl; rfl; (rfl); (assumption))); apply zR; rfl; rfl; rfl; (intro σ' hl; (apply zB; rfl; decide; rfl; (exact .e rfl rfl))); apply zR; rfl; rfl; rfl; (intro σ' hl; (apply zP; rfl; rfl; rfl)); apply zR; rfl; rfl; rfl; (intro σ' hl; (apply g_load1; rfl; rfl; (exact .p (hl _ (by (exact True.intro)) (by (repeat first | exact q_h | apply q_t | assumption); done)) rfl))); apply zR; rfl; rfl; rfl; (intro σ' hl; (apply zH; rfl)); apply zR; rfl; rfl; rfl; (intro σ' hl; (apply g_indexDl; rfl; rfl; rfl; (rfl); (assumption))); apply zR; rfl; rfl; rfl; (intro σ' hl; (apply zB; rfl; decide; rfl; (exact .e rfl rfl))); refine zR (v := .bool false) rfl rfl rfl (fun σ' hl => g_neqSl (a := s) (b := s) (q := true) rfl rfl rfl (by simp)) ?_; refine wl_nil ?_; show EX _ _ _ _ _; refine ex_cond_f rfl (by rfl) ?_; refine zG ?_; refine zZ ?_; refine xMv rfl rfl rfl rfl ?_; apply zV; rfl; rfl; rfl; (apply g_add; rfl; rfl; rfl; exact ⟨by omega, by omega⟩); refine xAs rfl rfl rfl rfl ?_; refine zC ?_; simp only [zD, zK, zJ, zT, retA, ↓reduceIte, Nat.reduceEqDiff]; rotate_left
    (all_goals (repeat (rename BV _ _ => hbv; cases hbv)))
    all_goals (try (first | cases ‹true = false› | cases ‹false = true›))
    refine ⟨k + 1, hk, by omega, ?_⟩
    exact (St.le_of (by repeat (first | exact trivial | refine ⟨rfl, ?_⟩)) (by repeat (first | exact q_r | apply q_q | apply q_k | exact q_a)))
  · refine zX ?_; refine zX (zZ ?_); refine xMv rfl rfl rfl rfl ?_; refine xFa rfl rfl rfl rfl rfl rfl ?_; refine xLd rfl rfl rfl rfl rfl (.p (by (repeat first | exact q_h | apply q_t | assumption); done) rfl) ?_; apply zV; rfl; rfl; rfl; (apply g_len; rfl; rfl; (exact (List.length_map _).symm)); refine xBi rfl rfl rfl rfl rfl rfl ?_; intro _ _; refine zY ?_; refine zU rfl (fun h => ?_) (fun h => ?_) <;> ((first | (subst h; rename BV _ true => g; have h := g.eq; clear g) | (subst h; rename BV _ false => g; have h := g.eq; clear g) | skip); (have hp := h; try simp only [q_n] at hp); (try (exfalso; first | omega | (cases hp; done))));
    refine ex_exit ?_; refine zX (zZ ?_); refine xAs rfl rfl rfl rfl ?_; refine zY ?_; refine yV ?_; simp only [zD, zK, zJ, zT, retA, ↓reduceIte, Nat.reduceEqDiff]; rotate_left
    (all_goals (repeat (rename BV _ _ => hbv; cases hbv)))
    all_goals (try (first | cases ‹true = false› | cases ‹false = true›))
    refine ret_is .nil (.cons (.ofTmp rfl) .nil) (by repeat (first | exact q_r | apply q_q | apply q_k | exact q_a)) ?_
    rfl
theorem tnC_get {L : List Tn} {k : Nat} {t : Tn} (h : L[k]? = some t) : (L.map tnC)[k]? = some (tnC t) := by rw [List.getElem?_map, h]; rfl
theorem intC_get {L : List Int} {k : Nat} {x : Int} (h : L[k]? = some x) : (L.map intC)[k]? = some (intC x) := by rw [List.getElem?_map, h]; rfl
set_option maxHeartbeats 4000000 in
theorem sameTurn_c (t : Tn) (σ : List Ent) : SCall Tryz.prog 42 [.agg (tnC t), .agg (tnC t)] σ (Is (.bool true) σ) := by
  refine scall_of Tryz.func42 rfl (by simp) ?_
  refine zX (zZ ?_); refine zE rfl rfl rfl (g_box rfl rfl) ?_; intro _; refine zE rfl rfl rfl (g_box rfl rfl) ?_; intro _; refine xAs rfl rfl rfl rfl ?_; refine zY ?_; refine zX ?_; refine zX (zZ ?_); refine xFa rfl rfl rfl rfl rfl rfl ?_; refine xLd rfl rfl rfl rfl rfl (.p (by (repeat first | exact q_h | apply q_t | assumption); done) rfl) ?_; refine xFa rfl rfl rfl rfl rfl rfl ?_; refine xLd rfl rfl rfl rfl rfl (.p (by (repeat first | exact q_h | apply q_t | assumption); done) rfl) ?_; refine xBi rfl rfl rfl rfl rfl rfl ?_; intro _ _; refine xMv rfl rfl rfl rfl ?_; refine zA rfl (fun h => ?_) (fun h => ?_) <;> ((first | (subst h; rename BV _ true => g; have h := g.eq; clear g) | (subst h; rename BV _ false => g; have h := g.eq; clear g) | skip); (have hp := h; try simp only [q_n] at hp); (try (exfalso; first | omega | (cases hp; done))));
  refine yFa rfl rfl rfl rfl rfl rfl rfl ?_; refine yLd rfl rfl rfl rfl rfl rfl (.p (by (repeat first | exact q_h | apply q_t | assumption); done) rfl) ?_; refine yFa rfl rfl rfl rfl rfl rfl rfl ?_; refine yLd rfl rfl rfl rfl rfl rfl (.p (by (repeat first | exact q_h | apply q_t | assumption); done) rfl) ?_; refine yBi rfl rfl rfl rfl rfl rfl rfl ?_; intro _ _; refine xPf rfl rfl rfl rfl rfl rfl ?_; refine xMv rfl rfl rfl rfl ?_; refine zA rfl (fun h => ?_) (fun h => ?_) <;> ((first | (subst h; rename BV _ true => g; have h := g.eq; clear g) | (subst h; rename BV _ false => g; have h := g.eq; clear g) | skip); (have hp := h; try simp only [q_n] at hp); (try (exfalso; first | omega | (cases hp; done))));
  refine yFa rfl rfl rfl rfl rfl rfl rfl ?_; refine yLd rfl rfl rfl rfl rfl rfl (.p (by (repeat first | exact q_h | apply q_t | assumption); done) rfl) ?_; refine yFa rfl rfl rfl rfl rfl rfl rfl ?_; refine yLd rfl rfl rfl rfl rfl rfl (.p (by (repeat first | exact q_h | apply q_t | assumption); done) rfl) ?_; refine yBi rfl rfl rfl rfl rfl rfl rfl ?_; intro _ _; refine xPf rfl rfl rfl rfl rfl rfl ?_; refine xMv rfl rfl rfl rfl ?_; refine zA rfl (fun h => ?_) (fun h => ?_) <;> ((first | (subst h; rename BV _ true => g; have h := g.eq; clear g) | (subst h; rename BV _ false => g; have h := g.eq; clear g) | skip); (have hp := h; try simp only [q_n] at hp); (try (exfalso; first | omega | (cases hp; done))));
  refine yFa rfl rfl rfl rfl rfl rfl rfl ?_; refine yLd rfl rfl rfl rfl rfl rfl (.p (by (repeat first | exact q_h | apply q_t | assumption); done) rfl) ?_; apply exl_isW; rfl; (rfl); rfl; rfl; (apply g_len; rfl; rfl; (exact (List.length_map _).symm)); refine yFa rfl rfl rfl rfl rfl rfl rfl ?_; refine yLd rfl rfl rfl rfl rfl rfl (.p (by (repeat first | exact q_h | apply q_t | assumption); done) rfl) ?_; apply exl_isW; rfl; (rfl); rfl; rfl; (apply g_len; rfl; rfl; (exact (List.length_map _).symm)); refine yBi rfl rfl rfl rfl rfl rfl rfl ?_; intro _ _; refine xPf rfl rfl rfl rfl rfl rfl ?_; refine zY ?_; refine zU rfl (fun h => ?_) (fun h => ?_) <;> ((first | (subst h; rename BV _ true => g; have h := g.eq; clear g) | (subst h; rename BV _ false => g; have h := g.eq; clear g) | skip); (have hp := h; try simp only [q_n] at hp); (try (exfalso; first | omega | (cases hp; done))));
  refine zG ?_; refine zX ?_; refine zX (zZ ?_); refine xAs rfl rfl rfl rfl ?_; refine zY ?_; refine yZ ?_; rotate_left
  (all_goals (repeat (rename BV _ _ => hbv; cases hbv)))
  all_goals (try (first | cases ‹true = false› | cases ‹false = true›))
  refine ex_len (t := 27) rfl ((List.length_map _).symm) (fun hlen => ?_)
  rename Nat => b3; revert b3; rename Nat => b2; revert b2
  intro b2 b3
  refine ex_loop (fun (k : Nat) => (⟨[(2, .ptr b2 0), (3, .ptr b3 0), (5, .int .i64 k)], .cells b3 (tnC t) 64 :: .cells b2 (tnC t) 64 :: σ, [], Tryz.f42.ntmps⟩ : St)) (fun k => k ≤ t.twice.length) (fun k => t.twice.length - k) 0 (Nat.zero_le _) (St.le_of (by repeat (first | exact trivial | refine ⟨rfl, ?_⟩)) (by repeat (first | exact q_r | apply q_q | apply q_k))) ?_
  intro k hI
  by_cases hk : k < t.twice.length
  · obtain ⟨x, hx⟩ : ∃ x, t.twice[k]? = some x := get_some hk
    have hg := intC_get hx
    refine zX ?_; refine zX (zZ ?_); refine xMv rfl rfl rfl rfl ?_; refine xFa rfl rfl rfl rfl rfl rfl ?_; refine xLd rfl rfl rfl rfl rfl (.p (by (repeat first | exact q_h | apply q_t | assumption); done) rfl) ?_; apply zV; rfl; rfl; rfl; (apply g_len; rfl; rfl; (exact (List.length_map _).symm)); refine xBi rfl rfl rfl rfl rfl rfl ?_; intro _ _; refine zY ?_; refine zU rfl (fun h => ?_) (fun h => ?_) <;> ((first | (subst h; rename BV _ true => g; have h := g.eq; clear g) | (subst h; rename BV _ false => g; have h := g.eq; clear g) | skip); (have hp := h; try simp only [q_n] at hp); (try (exfalso; first | omega | (cases hp; done))));
    refine zG ?_; refine zX ?_; refine yZ ?_; refine zX ?_; refine ex_drawP rfl rfl (by kernel_rfl) rfl ?_; refine ex_drawQ rfl (by kernel_rfl) rfl ?_; apply zR; rfl; rfl; rfl; (intro σ' hl; (apply zP; rfl; rfl; rfl)); apply zR; rfl; rfl; rfl; (intro σ' hl; (apply g_load1; rfl; rfl; (exact .p (hl _ (by (exact True.intro)) (by (repeat first | exact q_h | apply q_t | assumption); done)) rfl))); apply zR; rfl; rfl; rfl; (intro σ' hl; (apply zH; rfl)); apply zR; rfl; rfl; rfl; (intro σ' hl; (apply g_indexDl; rfl; rfl; rfl; (rfl); (assumption))); apply zR; rfl; rfl; rfl; (intro σ' hl; (apply g_load1; rfl; rfl; (exact .e rfl))); apply zR; rfl; rfl; rfl; (intro σ' hl; (apply zP; rfl; rfl; rfl)); apply zR; rfl; rfl; rfl; (intro σ' hl; (apply g_load1; rfl; rfl; (exact .p (hl _ (by (exact True.intro)) (by (repeat first | exact q_h | apply q_t | assumption); done)) rfl))); apply zR; rfl; rfl; rfl; (intro σ' hl; (apply zH; rfl)); apply zR; rfl; rfl; rfl; (intro σ' hl; (apply g_indexDl; rfl; rfl; rfl; (rfl); (assumption))); apply zR; rfl; rfl; rfl; (intro σ' hl; (apply g_load1; rfl; rfl; (exact .e rfl))); apply wl_isB; rfl; rfl; rfl; (intro σ' hl; (apply g_binInt; rfl; rfl; rfl)); intro _ _; refine wl_nil ?_; show EX _ _ _ _ _; refine zU rfl (fun h => ?_) (fun h => ?_) <;> ((first | (subst h; rename BV _ true => g; have h := g.eq; clear g) | (subst h; rename BV _ false => g; have h := g.eq; clear g) | skip); (have hp := h; try simp only [q_n] at hp); (try (exfalso; first | omega | (cases hp; done))));
    refine zG ?_; refine zZ ?_; refine xMv rfl rfl rfl rfl ?_; apply zV; rfl; rfl; rfl; (apply g_add; rfl; rfl; rfl; exact ⟨by omega, by omega⟩); refine xAs rfl rfl rfl rfl ?_; refine zC ?_; simp only [zD, zK, zJ, zT, retA, ↓reduceIte, Nat.reduceEqDiff]; rotate_left
    (all_goals (repeat (rename BV _ _ => hbv; cases hbv)))
    all_goals (try (first | cases ‹true = false› | cases ‹false = true›))
    refine ⟨k + 1, hk, by omega, ?_⟩
    exact (St.le_of (by repeat (first | exact trivial | refine ⟨rfl, ?_⟩)) (by repeat (first | exact q_r | apply q_q | apply q_k | exact q_a)))
  · refine zX ?_; refine zX (zZ ?_); refine xMv rfl rfl rfl rfl ?_; refine xFa rfl rfl rfl rfl rfl rfl ?_; refine xLd rfl rfl rfl rfl rfl (.p (by (repeat first | exact q_h | apply q_t | assumption); done) rfl) ?_; apply zV; rfl; rfl; rfl; (apply g_len; rfl; rfl; (exact (List.length_map _).symm)); refine xBi rfl rfl rfl rfl rfl rfl ?_; intro _ _; refine zY ?_; refine zU rfl (fun h => ?_) (fun h => ?_) <;> ((first | (subst h; rename BV _ true => g; have h := g.eq; clear g) | (subst h; rename BV _ false => g; have h := g.eq; clear g) | skip); (have hp := h; try simp only [q_n] at hp); (try (exfalso; first | omega | (cases hp; done))));
    refine ex_exit ?_; refine zX (zZ ?_); refine xAs rfl rfl rfl rfl ?_; refine zY ?_; refine yV ?_; simp only [zD, zK, zJ, zT, retA, ↓reduceIte, Nat.reduceEqDiff]; rotate_left
    (all_goals (repeat (rename BV _ _ => hbv; cases hbv)))
    all_goals (try (first | cases ‹true = false› | cases ‹false = true›))
    refine ret_is .nil (.cons (.ofTmp rfl) .nil) (by repeat (first | exact q_r | apply q_q | apply q_k | exact q_a)) ?_
    rfl
set_option maxHeartbeats 4000000 in
theorem sameTurns_c (L : List Tn) (σ : List Ent) : SCall Tryz.prog 16 [.dl 4 (L.map tnC), .dl 4 (L.map tnC)] σ (Is (.bool true) σ) := by
  refine scall_of Tryz.func16 rfl (by simp) ?_
  refine zX (zZ ?_); refine xAs rfl rfl rfl rfl ?_; refine zY ?_; refine zX ?_; refine zX (zZ ?_); refine xMv rfl rfl rfl rfl ?_; apply zV; rfl; rfl; rfl; (apply g_len; rfl; rfl; (exact (List.length_map _).symm)); refine xMv rfl rfl rfl rfl ?_; apply zV; rfl; rfl; rfl; (apply g_len; rfl; rfl; (exact (List.length_map _).symm)); refine xBi rfl rfl rfl rfl rfl rfl ?_; intro _ _; refine zY ?_; refine zU rfl (fun h => ?_) (fun h => ?_) <;> ((first | (subst h; rename BV _ true => g; have h := g.eq; clear g) | (subst h; rename BV _ false => g; have h := g.eq; clear g) | skip); (have hp := h; try simp only [q_n] at hp); (try (exfalso; first | omega | (cases hp; done))));
  refine zG ?_; refine zX ?_; refine zX (zZ ?_); refine xAs rfl rfl rfl rfl ?_; refine zY ?_; refine yZ ?_; rotate_left
  (all_goals (repeat (rename BV _ _ => hbv; cases hbv)))
  all_goals (try (first | cases ‹true = false› | cases ‹false = true›))
  refine ex_len (t := 6) rfl ((List.length_map _).symm) (fun hlen => ?_)
  refine ex_loop (fun (k : Nat) => (⟨[(0, .dl 4 (L.map tnC)), (1, .dl 4 (L.map tnC)), (5, .int .i64 k)], σ, [], Tryz.f16.ntmps⟩ : St)) (fun k => k ≤ L.length) (fun k => L.length - k) 0 (Nat.zero_le _) (St.le_of (by repeat (first | exact trivial | refine ⟨rfl, ?_⟩)) (by repeat (first | exact q_r | apply q_q | apply q_k))) ?_
  intro k hI
  by_cases hk : k < L.length
  · obtain ⟨x, hx⟩ : ∃ x, L[k]? = some x := get_some hk
    have hg := tnC_get hx
    refine zX ?_; refine zX (zZ ?_); refine xMv rfl rfl rfl rfl ?_; refine xMv rfl rfl rfl rfl ?_; apply zV; rfl; rfl; rfl; (apply g_len; rfl; rfl; (exact (List.length_map _).symm)); refine xBi rfl rfl rfl rfl rfl rfl ?_; intro _ _; refine zY ?_; refine zU rfl (fun h => ?_) (fun h => ?_) <;> ((first | (subst h; rename BV _ true => g; have h := g.eq; clear g) | (subst h; rename BV _ false => g; have h := g.eq; clear g) | skip); (have hp := h; try simp only [q_n] at hp); (try (exfalso; first | omega | (cases hp; done))));
    refine zG ?_; refine zX ?_; refine yZ ?_; refine zX ?_; rotate_left
    (all_goals (repeat (rename BV _ _ => hbv; cases hbv)))
    all_goals (try (first | cases ‹true = false› | cases ‹false = true›))
    refine ex_drawLK anyK 10 [] rfl (by kernel_rfl) rfl ?_
    simp only [List.take_succ_cons, List.take_zero, List.drop_succ_cons, List.drop_zero]
    apply zR; rfl; rfl; rfl; (intro σ' hl; (apply zH; rfl)); apply zR; rfl; rfl; rfl; (intro σ' hl; (apply zH; rfl)); apply zR; rfl; rfl; rfl; (intro σ' hl; (apply g_indexDl; rfl; rfl; rfl; (rfl); (assumption))); apply zR; rfl; rfl; rfl; (intro σ' hl; (apply zB; rfl; decide; rfl; (exact .e rfl rfl))); apply zR; rfl; rfl; rfl; (intro σ' hl; (apply zH; rfl)); apply zR; rfl; rfl; rfl; (intro σ' hl; (apply zH; rfl)); apply zR; rfl; rfl; rfl; (intro σ' hl; (apply g_indexDl; rfl; rfl; rfl; (rfl); (assumption))); apply zR; rfl; rfl; rfl; (intro σ' hl; (apply zB; rfl; decide; rfl; (exact .e rfl rfl))); apply wl_isB; rfl; rfl; rfl; (intro σ' hl; (refine yX rfl rfl (zQ (by kernel_rfl)) ?_; exact sameTurn_c _ _)); intro _ _; apply wl_isB; rfl; rfl; rfl; (intro σ' hl; (apply g_not; rfl)); intro _ _; refine wl_nil ?_; refine zY ?_; refine zU rfl (fun h => ?_) (fun h => ?_) <;> ((first | (subst h; rename BV _ true => g; have h := g.eq; clear g) | (subst h; rename BV _ false => g; have h := g.eq; clear g) | skip); (have hp := h; try simp only [q_n] at hp); (try (exfalso; first | omega | (cases hp; done))));
    refine zX (zZ ?_); refine xAs rfl rfl rfl rfl ?_; refine zY ?_; refine yV ?_; simp only [zD, zK, zJ, zT, retA, ↓reduceIte, Nat.reduceEqDiff]; rotate_left; refine zG ?_; refine zZ ?_; refine xMv rfl rfl rfl rfl ?_; apply zV; rfl; rfl; rfl; (apply g_add; rfl; rfl; rfl; exact ⟨by omega, by omega⟩); refine xAs rfl rfl rfl rfl ?_; refine zC ?_; simp only [zD, zK, zJ, zT, retA, ↓reduceIte, Nat.reduceEqDiff]; rotate_left
    (all_goals (repeat (rename BV _ _ => hbv; cases hbv)))
    all_goals (try (first | cases ‹true = false› | cases ‹false = true›))
    refine ⟨k + 1, hk, by omega, ?_⟩
    exact (St.le_of (by repeat (first | exact trivial | refine ⟨rfl, ?_⟩)) (by repeat (first | exact q_r | apply q_q | apply q_k | exact q_a)))
  · refine zX ?_; refine zX (zZ ?_); refine xMv rfl rfl rfl rfl ?_; refine xMv rfl rfl rfl rfl ?_; apply zV; rfl; rfl; rfl; (apply g_len; rfl; rfl; (exact (List.length_map _).symm)); refine xBi rfl rfl rfl rfl rfl rfl ?_; intro _ _; refine zY ?_; refine zU rfl (fun h => ?_) (fun h => ?_) <;> ((first | (subst h; rename BV _ true => g; have h := g.eq; clear g) | (subst h; rename BV _ false => g; have h := g.eq; clear g) | skip); (have hp := h; try simp only [q_n] at hp); (try (exfalso; first | omega | (cases hp; done))));
    refine ex_exit ?_; refine zX (zZ ?_); refine xAs rfl rfl rfl rfl ?_; refine zY ?_; refine yV ?_; simp only [zD, zK, zJ, zT, retA, ↓reduceIte, Nat.reduceEqDiff]; rotate_left
    (all_goals (repeat (rename BV _ _ => hbv; cases hbv)))
    all_goals (try (first | cases ‹true = false› | cases ‹false = true›))
    refine ret_is .nil (.cons (.ofTmp rfl) .nil) (by repeat (first | exact q_r | apply q_q | apply q_k | exact q_a)) ?_
    rfl
theorem given_c (tab turn farm hour : Int) (σ : List Ent) : SCall Tryz.prog 28 [.int .i64 tab, .int .i64 turn, .int .i64 farm, .int .i64 hour] σ (Is (slV ⟨tab, 0, 1, turn, farm, hour, 5, 0⟩) σ) := by
  refine scall_of Tryz.func28 rfl (by simp) ?_
  refine zX (zZ ?_); refine zE rfl rfl rfl (g_alloc rfl) ?_; intro _; refine zY ?_; refine zX (zZ ?_); refine xMv rfl rfl rfl rfl ?_; refine xMv rfl rfl rfl rfl ?_; refine xMv rfl rfl rfl rfl ?_; refine xMv rfl rfl rfl rfl ?_; apply zV; rfl; rfl; rfl; (apply g_build; rfl; rfl; rfl; rfl); apply yY; rfl; rfl; (apply zL; rfl; rfl; rfl; (exact Upd.here); (simp only [setL, q_z, AV.cells]; rfl); rfl; rfl; rfl; exact q_b rfl); refine zY ?_; refine yV ?_; simp only [zD, zK, zJ, zT, retA, ↓reduceIte, Nat.reduceEqDiff]; rotate_left
  (all_goals (repeat (rename BV _ _ => hbv; cases hbv)))
  all_goals (try (first | cases ‹true = false› | cases ‹false = true›))
  refine ret_is .nil ((by repeat (first | exact Res.nil | (apply Res.cons; (first | (apply Res1.ofTmp; rfl) | (apply Res1.ofCell; rfl; rfl; (first | exact .e rfl | exact .p (by (repeat first | exact q_h | apply q_t | assumption); done) rfl | exact .r (by (repeat first | exact q_h | apply q_t | assumption); done) rfl)) | (apply Res1.ofAgg; rfl; rfl; decide; (first | exact .e rfl rfl | exact .p (by (repeat first | exact q_h | apply q_t | assumption); done) rfl rfl | exact .r (by (repeat first | exact q_h | apply q_t | assumption); done) rfl rfl))))))) (by repeat (first | exact q_r | apply q_q | apply q_k | exact q_a)) ?_
  rfl
end Go.Proofs.YtkhoengjdfmfaaaGreat
namespace Go.Proofs.YtkhoengjdfmfaaaGreat
abbrev qP (q : Qk) : Pk := ⟨q.f, q.t, msgS q.s⟩
abbrev qPs (Q : List Qk) : List Pk := Q.map qP
theorem RtQ.rt {B : List (List Sl)} {Q : List Qk} (h : RtQ B Q) : Rt B (qPs Q) :=
  ⟨h.n1, h.n8, h.ck, h.tab, fun p hp => by
    obtain ⟨q, hq, rfl⟩ := List.mem_map.1 hp
    obtain ⟨h1, h2, h3, h4, h5, h6, h7⟩ := h.net q hq
    exact ⟨h1, h2, h3, h4, h5, q.s, rfl, h6, h7⟩, by rw [List.length_map]; exact h.few⟩
def doV : Except Int (List (List Sl) × List Qk) → AV
  | .error e => .tup [rnd0, .int .i64 e]
  | .ok x => .tup [.agg (stC x.1 (qPs x.2)), .int .i64 0]
theorem qPs_erase (Q : List Qk) (k : Nat) : (qPs Q).eraseIdx k = qPs (Q.eraseIdx k) := by
  show (Q.map qP).eraseIdx k = (Q.eraseIdx k).map qP
  rw [List.eraseIdx_eq_take_drop_succ, List.eraseIdx_eq_take_drop_succ, List.map_append, List.map_take, List.map_drop]
theorem scall_or {P : Program} {f : FuncId} {args : List AV} {σ : List Ent} {R R' : AV → List Ent → Prop} (h : SCall P f args σ R) (hr : ∀ v τ, R v τ → R' v τ) : SCall P f args σ R' :=
  ⟨fun X M w vs hg ha => (h.run X M w vs hg ha).mono fun e w' ⟨M', σ', r, v, h1, h2, h3, h4, h5⟩ => ⟨M', σ', r, v, h1, h2, h3, h4, hr _ _ h5⟩⟩
theorem do_write (B : List (List Sl)) (Q : List Qk) (r : Ps) (hR : RtQ B Q) (hk : r.k = 1) (σ : List Ent) :
    SCall Tryz.prog 20 [.agg (stC B (qPs Q)), psV r] σ (Is (doV (doS B Q r)) σ) := by
  have hz : passM r.k = some (.fn (.func 48) [] []) := by rw [hk]; rfl
  unfold doS
  rw [if_pos hk]
  by_cases hc : 0 ≤ r.a ∧ r.a < B.length ∧ r.s.tab = r.a
  · rw [if_pos hc]
    obtain ⟨k, hkk⟩ : ∃ k : Nat, r.a = k := ⟨r.a.toNat, by omega⟩
    have hkB : k < B.length := by omega
    obtain ⟨l, hl⟩ : ∃ l, B[k]? = some l := get_some hkB
    have hgd : B.getD r.a.toNat [] = l := by rw [show r.a.toNat = k by omega, List.getD_eq_getElem?_getD, hl]; rfl
    rw [hgd, show r.a.toNat = k by omega]
    by_cases he : (writeS l r.s).2 = 0
    · rw [if_pos he]
      refine do_ok B _ r hR.rt _ (zQ (by kernel_rfl)) hz _ _ (fun b σ => ?_) σ
      have h0 := pwrite_ok b k B (qPs Q) r hR.n8 hkB hkk hc.2.2 l hl 0 he σ
      rwa [if_pos rfl] at h0
    · rw [if_neg he]
      refine do_err B _ r hR.rt _ (zQ (by kernel_rfl)) hz (bks B) (pks (qPs Q)) (.dl 2 []) _ he (fun b σ => ?_) σ
      have h0 := pwrite_ok b k B (qPs Q) r hR.n8 hkB hkk hc.2.2 l hl _ rfl σ
      rw [if_neg he] at h0
      exact h0
  · rw [if_neg hc]
    exact do_err B _ r hR.rt _ (zQ (by kernel_rfl)) hz _ _ _ _ (by omega) (fun b σ => pwrite_bad b B _ r hR.n8 hc σ) σ
theorem do_tell (B : List (List Sl)) (Q : List Qk) (r : Ps) (hR : RtQ B Q) (hk : r.k = 2) (σ : List Ent) :
    SCall Tryz.prog 20 [.agg (stC B (qPs Q)), psV r] σ (Is (doV (doS B Q r)) σ) := by
  have hz : passM r.k = some (.fn (.func 49) [] []) := by rw [hk]; rfl
  unfold doS
  rw [if_neg (by omega), if_pos hk]
  have hfew : (qPs Q).length ≤ 4096 := hR.rt.few
  have hQl : (qPs Q).length = Q.length := List.length_map ..
  by_cases hc : 0 ≤ r.a ∧ r.a < B.length ∧ 0 ≤ r.t ∧ r.t < B.length ∧ r.a ≠ r.t
  · rw [if_pos hc]
    obtain ⟨k, hkk⟩ : ∃ k : Nat, r.a = k := ⟨r.a.toNat, by omega⟩
    have hkB : k < B.length := by omega
    obtain ⟨l, hl⟩ : ∃ l, B[k]? = some l := get_some hkB
    have hlm := List.mem_of_getElem? hl
    have hck := hR.ck l hlm
    have hgd : B.getD r.a.toNat [] = l := by rw [show r.a.toNat = k by omega, List.getD_eq_getElem?_getD, hl]; rfl
    rw [hgd]
    have hln : l.length ≤ 512 := by have := (check_zero.1 hck).1; omega
    have hsd : ∀ s ∈ l, Sendable s := fun s hs => sendable_book hck hs
    by_cases he : Q.length + l.length ≤ 4096
    · rw [if_pos he]
      have hmp : qPs (Q ++ l.map fun s => ⟨r.a, r.t, s⟩) = qPs Q ++ l.map (sentP r) := by
        show (Q ++ l.map fun s => (⟨r.a, r.t, s⟩ : Qk)).map qP = Q.map qP ++ l.map (sentP r)
        rw [List.map_append, List.map_map]; rfl
      show SCall _ _ _ _ (Is (.tup [.agg (stC B (qPs (Q ++ l.map fun s => ⟨r.a, r.t, s⟩))), .int .i64 0]) σ)
      rw [hmp]
      refine do_ok B _ r hR.rt _ (zQ (by kernel_rfl)) hz _ _ (fun b σ => ?_) σ
      refine scall_or (ptell_ok b k B (qPs Q) r hR.rt.okP hfew hR.n8 hc hkk l hl hsd hln σ) ?_
      rintro v τ (⟨_, rfl, rfl⟩ | ⟨h, _⟩)
      · exact .mk
      · omega
    · rw [if_neg he]
      refine do_err B _ r hR.rt _ (zQ (by kernel_rfl)) hz (bks B) (.slv nilS) (.slv nilS) 2 (by omega) (fun b σ => ?_) σ
      refine scall_or (ptell_ok b k B (qPs Q) r hR.rt.okP hfew hR.n8 hc hkk l hl hsd hln σ) ?_
      rintro v τ (⟨h, _⟩ | ⟨_, rfl, rfl⟩)
      · omega
      · exact .mk
  · rw [if_neg hc]
    exact do_err B _ r hR.rt _ (zQ (by kernel_rfl)) hz _ _ _ _ (by omega) (fun b σ => ptell_bad b B _ r hR.n8 hc σ) σ
theorem do_net (B : List (List Sl)) (Q : List Qk) (r : Ps) (hR : RtQ B Q) (hk : r.k = 3 ∨ r.k = 4 ∨ r.k = 5) (σ : List Ent) :
    SCall Tryz.prog 20 [.agg (stC B (qPs Q)), psV r] σ (Is (doV (doS B Q r)) σ) := by
  unfold doS
  rw [if_neg (by omega), if_neg (by omega), if_pos hk]
  have hfew : (qPs Q).length ≤ 4096 := hR.rt.few
  have hQl : (qPs Q).length = Q.length := List.length_map ..
  have hok := hR.rt.okP
  by_cases hi : r.i < 0 ∨ (Q.length : Int) ≤ r.i
  · rw [if_pos hi]
    have hi' : r.i < 0 ∨ ((qPs Q).length : Int) ≤ r.i := by omega
    rcases hk with hk | hk | hk
    · exact do_err B _ r hR.rt _ (zQ (by kernel_rfl)) (by rw [hk]; rfl) _ _ _ _ (by omega) (fun b σ => pdeliver_out b B _ r hok hfew hi' σ) σ
    · exact do_err B _ r hR.rt _ (zQ (by kernel_rfl)) (by rw [hk]; rfl) _ _ _ _ (by omega) (fun b σ => plose_out b B _ r hok hfew hi' σ) σ
    · exact do_err B _ r hR.rt _ (zQ (by kernel_rfl)) (by rw [hk]; rfl) _ _ _ _ (by omega) (fun b σ => prepeat_out b B _ r hok hfew hi' σ) σ
  · rw [if_neg hi]
    obtain ⟨k, hkk⟩ : ∃ k : Nat, r.i = k := ⟨r.i.toNat, by omega⟩
    have hkt : r.i.toNat = k := by omega
    obtain ⟨q, hq⟩ : ∃ q, Q[k]? = some q := get_some (by omega)
    rw [hkt, hq]
    have hqP : (qPs Q)[k]? = some (qP q) := by rw [List.getElem?_map, hq]; rfl
    obtain ⟨h1, h2, h3, h4, h5, h6, h7⟩ := hR.net q (List.mem_of_getElem? hq)
    dsimp only
    rcases hk with hk | hk | hk
    · rw [if_pos hk]
      obtain ⟨t, htt⟩ : ∃ t : Nat, q.t = t := ⟨q.t.toNat, by omega⟩
      have htB : t < B.length := by omega
      obtain ⟨l, hl⟩ : ∃ l, B[t]? = some l := get_some htB
      have hgd : B.getD q.t.toNat [] = l := by rw [show q.t.toNat = t by omega, List.getD_eq_getElem?_getD, hl]; rfl
      rw [hgd, show q.t.toNat = t by omega]
      have hck := hR.ck l (List.mem_of_getElem? hl)
      have hln : l.length ≤ 512 := by have := (check_zero.1 hck).1; omega
      show SCall _ _ _ _ (Is (.tup [.agg (stC (B.set t (heardS l q.s)) (qPs (Q.eraseIdx k))), .int .i64 0]) σ)
      rw [← qPs_erase]
      exact do_ok B _ r hR.rt _ (zQ (by kernel_rfl)) (by rw [hk]; rfl) _ _ (fun b σ => pdeliver_in b B _ r hok hfew hR.n8 k t _ hqP hkk q.s h6 rfl htt l hl hln σ) σ
    · rw [if_neg (by omega), if_pos hk]
      show SCall _ _ _ _ (Is (.tup [.agg (stC B (qPs (Q.eraseIdx k))), .int .i64 0]) σ)
      rw [← qPs_erase]
      exact do_ok B _ r hR.rt _ (zQ (by kernel_rfl)) (by rw [hk]; rfl) _ _ (fun b σ => plose_in b B _ r hok hfew k _ hqP hkk σ) σ
    · rw [if_neg (by omega), if_neg (by omega)]
      by_cases he : Q.length = 4096
      · rw [if_pos he]
        exact do_err B _ r hR.rt _ (zQ (by kernel_rfl)) (by rw [hk]; rfl) _ _ _ _ (by omega) (fun b σ => prepeat_full b B _ r hok hfew k _ hqP hkk (by omega) σ) σ
      · rw [if_neg he]
        show SCall _ _ _ _ (Is (.tup [.agg (stC B (qPs (Q ++ [q]))), .int .i64 0]) σ)
        rw [show qPs (Q ++ [q]) = qPs Q ++ [qP q] from List.map_append ..]
        exact do_ok B _ r hR.rt _ (zQ (by kernel_rfl)) (by rw [hk]; rfl) _ _ (fun b σ => prepeat_in b B _ r hok hfew k _ hqP hkk (by omega) σ) σ
theorem do_c (B : List (List Sl)) (Q : List Qk) (r : Ps) (hR : RtQ B Q) (σ : List Ent) :
    SCall Tryz.prog 20 [.agg (stC B (qPs Q)), psV r] σ (Is (doV (doS B Q r)) σ) := by
  by_cases h1 : r.k = 1
  · exact do_write B Q r hR h1 σ
  by_cases h2 : r.k = 2
  · exact do_tell B Q r hR h2 σ
  by_cases h3 : r.k = 3 ∨ r.k = 4 ∨ r.k = 5
  · exact do_net B Q r hR h3 σ
  unfold doS
  rw [if_neg h1, if_neg h2, if_neg h3]
  exact do_none B _ r hR.rt (by omega) σ
end Go.Proofs.YtkhoengjdfmfaaaGreat
namespace Go.Proofs.YtkhoengjdfmfaaaGreat
def bkA : List Sl := [⟨0, 0, 1, 7, 1, 4, 5, 0⟩]
def bkB : List Sl := [⟨1, 0, 1, 7, 2, 3, 5, 0⟩]
def bkL : List Sl := [⟨0, 0, 1, 7, 1, 4, 5, 0⟩, ⟨1, 0, 1, 7, 2, 3, 5, 0⟩]
def bkV : List Sl := [⟨0, 0, 1, 7, 1, 4, 5, 0⟩, ⟨1, 0, 1, 7, 2, 3, 5, 0⟩, ⟨1, 1, 3, 0, 0, 0, 0, 1⟩]
theorem ex1 : writeS [] ⟨0, 0, 1, 7, 1, 4, 5, 0⟩ = (bkA, 0) ∧ writeS [] ⟨1, 0, 1, 7, 2, 3, 5, 0⟩ = (bkB, 0) ∧ writeS [] ⟨0, 0, 3, 0, 0, 0, 0, 0⟩ = ([], 540) := by decide +kernel
theorem ex2 : mergeR bkA bkB = some bkL := by
  unfold bkA bkB bkL
  rw [mergeR, if_pos (by decide), mergeR]; rfl
theorem ex3 : checkS bkA = 0 ∧ checkS bkB = 0 ∧ checkS bkL = 0 := by decide +kernel
theorem ex4 : mergeS bkA bkB = (bkL, 0) := by
  unfold mergeS
  rw [ex2, if_neg (by rw [ex3.1]; simp), if_neg (by rw [ex3.2.1]; simp)]; rfl
theorem ex5 : mergeS bkL bkL = (bkL, 0) := mergeS_self ex3.2.2
theorem ex6 : turnsS bkL = ([⟨7, 2, 2, [0]⟩], 0) := by decide +kernel
theorem ex7 : writeS bkL ⟨1, 0, 3, 0, 0, 0, 0, 1⟩ = (bkV, 0) := by decide +kernel
theorem ex8 : turnsS bkV = ([⟨7, 1, 1, []⟩], 0) := by decide +kernel
def rdS : List Ps := [⟨1, 0, 0, 0, ⟨0, 0, 1, 7, 1, 4, 5, 0⟩⟩, ⟨1, 0, 0, 0, ⟨0, 0, 1, 8, 1, 4, 5, 0⟩⟩, ⟨2, 0, 1, 0, ⟨0, 0, 0, 0, 0, 0, 0, 0⟩⟩, ⟨3, 0, 0, 1, ⟨0, 0, 0, 0, 0, 0, 0, 0⟩⟩, ⟨3, 0, 0, 0, ⟨0, 0, 0, 0, 0, 0, 0, 0⟩⟩]
abbrev sA : Sl := ⟨0, 0, 1, 7, 1, 4, 5, 0⟩
abbrev sB : Sl := ⟨0, 1, 1, 8, 1, 4, 5, 0⟩
def rdB : List (List (List Sl)) := [[[], []], [[sA], []], [[sA, sB], []], [[sA, sB], []], [[sA, sB], []], [[sA, sB], [sA]]]
def rdQ : List (List Qk) := [[], [], [], [⟨0, 1, sA⟩, ⟨0, 1, sB⟩], [⟨0, 1, sA⟩], []]
def isOk (r : Except Int (List (List Sl) × List Qk)) (B : List (List Sl)) (Q : List Qk) : Bool := match r with
  | .ok (B', Q') => decide (B' = B) && decide (Q' = Q)
  | .error _ => false
theorem ok_is {r : Except Int (List (List Sl) × List Qk)} {B : List (List Sl)} {Q : List Qk} (h : isOk r B Q = true) : r = .ok (B, Q) := by
  unfold isOk at h
  split at h
  · rw [Bool.and_eq_true, decide_eq_true_eq, decide_eq_true_eq] at h; rw [h.1, h.2]
  · cases h
theorem ex9a : ∀ k < 5, isOk (doS (rdB.getD k []) (rdQ.getD k []) (rdS.getD k ⟨0, 0, 0, 0, sA⟩)) (rdB.getD (k + 1) []) (rdQ.getD (k + 1) []) = true := by decide +kernel
theorem ex9 (k : Nat) (hk : k < 5) : doS (rdB.getD k []) (rdQ.getD k []) (rdS.getD k ⟨0, 0, 0, 0, sA⟩) = .ok (rdB.getD (k + 1) [], rdQ.getD (k + 1) []) := ok_is (ex9a k hk)
theorem ex10 : ∀ k, k ≤ 5 → RtQ (rdB.getD k []) (rdQ.getD k []) := by
  have key : ∀ k, k ≤ 5 → ∃ W, Hist (rdB.getD k []) (rdQ.getD k []) W := by
    intro k
    induction k with
    | zero => intro _; exact ⟨_, hist_new (n := 2) (by decide) (by decide)⟩
    | succ k ih =>
      intro hk
      obtain ⟨W, hW⟩ := ih (by omega)
      exact ⟨_, (hist_do hW (ex9 k (by omega))).1⟩
  intro k hk
  obtain ⟨W, hW⟩ := key k hk
  exact hW.rt
theorem ex11 : doS (rdB.getD 0 []) (rdQ.getD 0 []) ⟨0, 0, 0, 0, ⟨0, 0, 0, 0, 0, 0, 0, 0⟩⟩ = .error 1 := rfl
end Go.Proofs.YtkhoengjdfmfaaaGreat
namespace Go.Proofs.YtkhoengjdfmfaaaGreat
section
variable {P : Program} {ro : Option Nat} {env : Env} {σ : List Ent} {dst : Option Tmp} {ty : TypeId} {pos : String} {after : Array Edge} {guard : Option (Nat × Bool)}
end
end Go.Proofs.YtkhoengjdfmfaaaGreat
namespace Go.Proofs.YtkhoengjdfmfaaaGreat
set_option maxHeartbeats 2000000 in
theorem right_none (σ : List Ent) : SCall Tryz.prog 47 [rnd0] σ (Is (.bool false) σ) := by
  refine scall_of Tryz.func47 rfl (by simp) ?_
  have hi := fun σ => in_c 0 1 8 σ
  rw [show inB 0 1 8 = false by rfl] at hi
  refine zX (zZ ?_); refine zE rfl rfl rfl (g_box rfl rfl) ?_; intro _; refine xAs rfl rfl rfl rfl ?_; refine zY ?_; refine zX (zZ ?_); refine xFa rfl rfl rfl rfl rfl rfl ?_; refine xLd rfl rfl rfl rfl rfl (.p (by (repeat first | exact q_h | apply q_t | assumption); done) rfl) ?_; apply zV; rfl; rfl; rfl; (apply g_len; rfl; rfl; (exact .inr ⟨rfl, rfl⟩)); refine zE rfl rfl rfl (g_alloc rfl) ?_; intro _; apply yY; rfl; rfl; (apply zL; rfl; rfl; rfl; (exact Upd.here); (simp only [setL, q_z, AV.cells]; rfl); rfl; rfl; rfl; exact q_b rfl); refine zY ?_; refine zX ?_; refine zX (zZ ?_); refine xLd rfl rfl rfl rfl rfl (.p (by (repeat first | exact q_h | apply q_t | assumption); done) rfl) ?_; apply exl_isB; rfl; rfl; rfl; (refine yX rfl rfl (zQ (by kernel_rfl)) ?_; exact hi _); intro _ _; apply exl_isB; rfl; rfl; rfl; (apply g_not; rfl); intro _ _; refine xMv rfl rfl rfl rfl ?_; refine zA rfl (fun h => ?_) (fun h => ?_) <;> ((first | (subst h; rename BV _ true => g; have h := g.eq; clear g) | (subst h; rename BV _ false => g; have h := g.eq; clear g) | skip); (have hp := h; try simp only [q_n] at hp); (try (exfalso; first | omega | (cases hp; done))));
  refine zW rfl rfl rfl rfl ?_; refine zW rfl rfl rfl rfl ?_; refine zW rfl rfl rfl rfl ?_; refine zW rfl rfl rfl rfl ?_; refine xPt rfl rfl rfl rfl rfl rfl ?_; refine zY ?_; refine ex_cond_t rfl (by rfl) ?_; refine zX (zZ ?_); refine xAs rfl rfl rfl rfl ?_; refine zY ?_; refine yV ?_; simp only [zD, zK, zJ, zT, retA, ↓reduceIte, Nat.reduceEqDiff]; rotate_left; refine yFa rfl rfl rfl rfl rfl rfl rfl ?_; refine yLa rfl rfl rfl rfl rfl (by decide) rfl (.p (by (repeat first | exact q_h | apply q_t | assumption); done) rfl rfl) ?_; rotate_left
  (all_goals (repeat (rename BV _ _ => hbv; cases hbv)))
  all_goals (try (first | cases ‹true = false› | cases ‹false = true›))
  refine ret_is .nil (.cons (.ofTmp rfl) .nil) (by repeat (first | exact q_r | apply q_q | apply q_k | exact q_a)) ?_
  rfl
set_option maxHeartbeats 4000000 in
theorem do_empty (r : Ps) (σ : List Ent) : SCall Tryz.prog 20 [rnd0, psV r] σ (Is (.tup [rnd0, .int .i64 540]) σ) := by
  refine scall_of Tryz.func20 rfl (by simp) ?_
  refine zX (zZ ?_); refine zE rfl rfl rfl (g_box rfl rfl) ?_; intro _; refine zE rfl rfl rfl (g_box rfl rfl) ?_; intro _; refine zE rfl rfl rfl (g_alloc rfl) ?_; intro _; refine xAs rfl rfl rfl rfl ?_; refine zY ?_; refine zX ?_; refine zX (zZ ?_); refine xLa rfl rfl rfl rfl (by decide) rfl (.p (by (repeat first | exact q_h | apply q_t | assumption); done) rfl rfl) ?_; apply exl_isB; rfl; rfl; rfl; (refine yX rfl rfl (zQ (by kernel_rfl)) ?_; exact right_none _); intro _ _; apply exl_isB; rfl; rfl; rfl; (apply g_not; rfl); intro _ _; refine zY ?_; refine zU rfl (fun h => ?_) (fun h => ?_) <;> ((first | (subst h; rename BV _ true => g; have h := g.eq; clear g) | (subst h; rename BV _ false => g; have h := g.eq; clear g) | skip); (have hp := h; try simp only [q_n] at hp); (try (exfalso; first | omega | (cases hp; done))));
  refine zX (zZ ?_); refine xLa rfl rfl rfl rfl (by decide) rfl (.p (by (repeat first | exact q_h | apply q_t | assumption); done) rfl rfl) ?_; apply yY; rfl; rfl; (apply zL; rfl; rfl; rfl; (exact Upd.here); (simp only [setL, q_z, AV.cells]; rfl); rfl; rfl; rfl; exact q_b rfl); refine xAs rfl rfl rfl rfl ?_; refine zY ?_; refine yV ?_; simp only [zD, zK, zJ, zT, retA, ↓reduceIte, Nat.reduceEqDiff]; rotate_left; refine zG ?_; refine zX (zZ ?_); refine exl_map rfl rfl rfl (by exact g_makeMap) ?_; intro _; rotate_left
  (all_goals (repeat (rename BV _ _ => hbv; cases hbv)))
  all_goals (try (first | cases ‹true = false› | cases ‹false = true›))
  refine ret_q (σ3 := σ) .nil ((by repeat (first | exact Res.nil | (apply Res.cons; (first | (apply Res1.ofTmp; rfl) | (apply Res1.ofCell; rfl; rfl; (first | exact .e rfl | exact .p (by (repeat first | exact q_h | apply q_t | assumption); done) rfl | exact .r (by (repeat first | exact q_h | apply q_t | assumption); done) rfl)) | (apply Res1.ofAgg; rfl; rfl; decide; (first | exact .e rfl rfl | exact .p (by (repeat first | exact q_h | apply q_t | assumption); done) rfl rfl | exact .r (by (repeat first | exact q_h | apply q_t | assumption); done) rfl rfl))))))) (by repeat (first | exact q_r | apply q_q | apply q_k | exact q_a)) ?_
  exact fin_done .mk
theorem bk_view {M : Mem} {vs : List Value} : VRels M [.agg [.slv nilS]] vs → VRels M [.agg [sls []]] vs := fun h => by
  simp only [VRels, VRel, List.map_nil] at h ⊢
  obtain ⟨v, r, rfl, ⟨ws, rfl, w, q, h2, ⟨rfl, h3⟩, h4⟩, h5⟩ := h
  exact ⟨_, _, rfl, ⟨_, rfl, _, _, h2, ⟨none, 0, rfl, by simp, by omega, by simp, by simp⟩, h4⟩, h5⟩
theorem write_e (s : Sl) (σ : List Ent) : SCall Tryz.prog 26 [.agg [.slv nilS], slV s] σ (Is (.tup [.agg [sls (writeS [] s).1], .int .i64 (writeS [] s).2]) σ) :=
  scall_view (fun M vs h => by
    simp only [VRels] at h ⊢
    obtain ⟨v, r, rfl, h1, h2⟩ := h
    have := bk_view (M := M) (vs := [v]) (by simp only [VRels]; exact ⟨v, [], rfl, h1, rfl⟩)
    simp only [VRels, List.cons.injEq] at this
    obtain ⟨_, _, ⟨rfl, _⟩, h3, _⟩ := this
    exact ⟨_, _, rfl, h3, h2⟩) (write_c [] s σ)
theorem scall_or' {P : Program} {f : FuncId} {args : List AV} {σ : List Ent} {v : AV} (h : SCall P f args σ (fun r τ => r = v ∧ τ = σ)) : SCall P f args σ (Is v σ) :=
  scall_or h fun _ _ ⟨h1, h2⟩ => by subst h1 h2; exact .mk
theorem same_v (σ : List Ent) : SCall Tryz.prog 16 [.dl 4 ([(⟨7, 1, 1, []⟩ : Tn)].map tnC), .dl 4 [[.int .i64 7, .int .i64 1, .int .i64 1, .slv nilS]]] σ (Is (.bool true) σ) :=
  scall_view (fun M vs h => by
    simp only [VRels] at h ⊢
    obtain ⟨v, r, rfl, h1, u, q, rfl, h2, h3⟩ := h
    refine ⟨_, _, rfl, h1, _, _, rfl, ?_, h3⟩
    refine VRel.dl_view (l := [[.int .i64 7, .int .i64 1, .int .i64 1, .slv nilS]]) (l' := [(⟨7, 1, 1, []⟩ : Tn)].map tnC) rfl (fun x hx => by simp at hx; subst hx; rfl) (fun k x x' b i hx hx' hc => ?_) h2
    cases k with
    | zero =>
      simp at hx hx'; subst hx hx'
      exact hc.view fun vs hvs => (Cv.same (.same (.same (.here .nil))) : Cv nilS (.dl 1 []) [.int .i64 7, .int .i64 1, .int .i64 1, .slv nilS] [.int .i64 7, .int .i64 1, .int .i64 1, .dl 1 []]).rel (nil_rel M 1) hvs
    | succ k => simp at hx) (sameTurns_c [⟨7, 1, 1, []⟩] σ)
abbrev zS : Sl := ⟨0, 0, 0, 0, 0, 0, 0, 0⟩
theorem st_rd (k : Nat) (hk : k < 5) (σ : List Ent) : SCall Tryz.prog 20 [.agg (stC (rdB.getD k []) (qPs (rdQ.getD k []))), psV (rdS.getD k ⟨0, 0, 0, 0, sA⟩)] σ (Is (.tup [.agg (stC (rdB.getD (k + 1) []) (qPs (rdQ.getD (k + 1) []))), .int .i64 0]) σ) := by
  have := do_c _ _ (rdS.getD k ⟨0, 0, 0, 0, sA⟩) (ex10 k (by omega)) σ
  rwa [ex9 k hk] at this
set_option maxHeartbeats 8000000 in
theorem sane_c (σ : List Ent) : SCall Tryz.prog 9 [] σ (Is (.bool true) σ) := by
  refine scall_of Tryz.func9 rfl (by simp) ?_
  have g1 := given_c 0 7 1 4
  have g2 := given_c 1 7 2 3
  have w1 := write_e ⟨0, 0, 1, 7, 1, 4, 5, 0⟩
  have w2 := write_e ⟨1, 0, 1, 7, 2, 3, 5, 0⟩
  have w3 := write_e ⟨0, 0, 3, 0, 0, 0, 0, 0⟩
  have m1 := merge_c bkA bkB
  have m2 := merge_c bkL bkL
  have t1 := fun σ => scall_or' (turns_c bkL σ)
  have w4 := write_c bkL ⟨1, 0, 3, 0, 0, 0, 0, 1⟩
  have t2 := fun σ => scall_or' (turns_c bkV σ)
  have k1 := check_c bkL
  have s1 := same_c bkL
  rw [ex1.1] at w1
  rw [ex1.2.1] at w2
  rw [ex1.2.2] at w3
  rw [ex4] at m1
  rw [ex5] at m2
  rw [ex6] at t1
  rw [ex7] at w4
  rw [ex8] at t2
  rw [ex3.2.2] at k1
  dsimp only at w1 w2 w3 w4 m1 m2 t1 t2
  obtain ⟨A, hA⟩ : ∃ A, sls bkA = .dl 8 A := ⟨_, rfl⟩
  obtain ⟨B, hB⟩ : ∃ B, sls bkB = .dl 8 B := ⟨_, rfl⟩
  obtain ⟨L, hL, hLl⟩ : ∃ L, sls bkL = .dl 8 L ∧ L.length = 2 := ⟨_, rfl, rfl⟩
  obtain ⟨V, hV⟩ : ∃ V, sls bkV = .dl 8 V := ⟨_, rfl⟩
  rw [hA] at w1 m1
  rw [hB] at w2 m1
  rw [hL] at m1 m2 t1 w4 k1 s1
  rw [hV] at w4 t2
  clear hA hB hL hV
  refine zX (zZ ?_); refine xAs rfl rfl rfl rfl ?_; refine zY ?_; refine zX (zZ ?_); apply zV; rfl; rfl; rfl; (apply g_build; rfl; rfl; rfl; rfl); apply zV; rfl; rfl; rfl; (refine yX rfl rfl (zQ (by kernel_rfl)) ?_; exact g1 _); apply zV; rfl; rfl; rfl; (refine yX rfl rfl (zQ (by kernel_rfl)) ?_; exact w1 _); refine xMv rfl rfl rfl rfl ?_; apply zV; rfl; rfl; rfl; (apply yW; rfl; rfl); apply zV; rfl; rfl; rfl; (apply yW; rfl; rfl); refine zE rfl rfl rfl (g_alloc rfl) ?_; intro _; apply yY; rfl; rfl; (apply zL; rfl; rfl; rfl; (exact Upd.here); (simp only [setL, q_z, AV.cells]; rfl); rfl; rfl; rfl; exact q_b rfl); refine xAs rfl rfl rfl rfl ?_; refine zY ?_; refine zX (zZ ?_); apply zV; rfl; rfl; rfl; (apply g_build; rfl; rfl; rfl; rfl); apply zV; rfl; rfl; rfl; (refine yX rfl rfl (zQ (by kernel_rfl)) ?_; exact g2 _); apply zV; rfl; rfl; rfl; (refine yX rfl rfl (zQ (by kernel_rfl)) ?_; exact w2 _); refine xMv rfl rfl rfl rfl ?_; apply zV; rfl; rfl; rfl; (apply yW; rfl; rfl); apply zV; rfl; rfl; rfl; (apply yW; rfl; rfl); refine zE rfl rfl rfl (g_alloc rfl) ?_; intro _; apply yY; rfl; rfl; (apply zL; rfl; rfl; rfl; (exact Upd.here); (simp only [setL, q_z, AV.cells]; rfl); rfl; rfl; rfl; exact q_b rfl); refine xAs rfl rfl rfl rfl ?_; refine zY ?_; refine zX (zZ ?_); apply zV; rfl; rfl; rfl; (apply g_build; rfl; rfl; rfl; rfl); apply zV; rfl; rfl; rfl; (apply g_build; rfl; rfl; rfl; rfl); apply zV; rfl; rfl; rfl; (refine yX rfl rfl (zQ (by kernel_rfl)) ?_; exact w3 _); refine xMv rfl rfl rfl rfl ?_; apply zV; rfl; rfl; rfl; (apply yW; rfl; rfl); apply zV; rfl; rfl; rfl; (apply yW; rfl; rfl); refine zE rfl rfl rfl (g_alloc rfl) ?_; intro _; apply yY; rfl; rfl; (apply zL; rfl; rfl; rfl; (exact Upd.here); (simp only [setL, q_z, AV.cells]; rfl); rfl; rfl; rfl; exact q_b rfl); refine xAs rfl rfl rfl rfl ?_; refine zY ?_; refine zX (zZ ?_); refine xLa rfl rfl rfl rfl (by decide) rfl (.p (by (repeat first | exact q_h | apply q_t | assumption); done) rfl rfl) ?_; refine xLa rfl rfl rfl rfl (by decide) rfl (.p (by (repeat first | exact q_h | apply q_t | assumption); done) rfl rfl) ?_; simp only [zD, zK, zJ, zT, retA, ↓reduceIte, Nat.reduceEqDiff]; rotate_left
  (all_goals (repeat (rename BV _ _ => hbv; cases hbv)))
  all_goals (try (first | cases ‹true = false› | cases ‹false = true›))
  clear g1 g2 w1 w2 w3
  refine exl_weaken (s' := ⟨[(39, .agg [.dl 8 A]), (40, .agg [.dl 8 B]), (2, .int .i64 0), (4, .int .i64 0), (6, .int .i64 540)], σ, [], Tryz.f9.ntmps⟩) (St.le_of (by repeat (first | exact trivial | refine ⟨rfl, ?_⟩)) (by repeat (first | exact q_r | apply q_q | apply q_k | exact q_a))) ?_
  have v1 := sameTurns_c [⟨7, 2, 2, [0]⟩]
  have v2 := same_v
  apply zV; rfl; rfl; rfl; (refine yX rfl rfl (zQ (by kernel_rfl)) ?_; exact m1 _); refine xMv rfl rfl rfl rfl ?_; apply zV; rfl; rfl; rfl; (apply yW; rfl; rfl); apply zV; rfl; rfl; rfl; (apply yW; rfl; rfl); refine zE rfl rfl rfl (g_alloc rfl) ?_; intro _; apply yY; rfl; rfl; (apply zL; rfl; rfl; rfl; (exact Upd.here); (simp only [setL, q_z, AV.cells]; rfl); rfl; rfl; rfl; exact q_b rfl); refine xAs rfl rfl rfl rfl ?_; refine zY ?_; refine zX (zZ ?_); refine xLa rfl rfl rfl rfl (by decide) rfl (.p (by (repeat first | exact q_h | apply q_t | assumption); done) rfl rfl) ?_; refine xLa rfl rfl rfl rfl (by decide) rfl (.p (by (repeat first | exact q_h | apply q_t | assumption); done) rfl rfl) ?_; apply zV; rfl; rfl; rfl; (refine yX rfl rfl (zQ (by kernel_rfl)) ?_; exact m2 _); refine xMv rfl rfl rfl rfl ?_; apply zV; rfl; rfl; rfl; (apply yW; rfl; rfl); apply zV; rfl; rfl; rfl; (apply yW; rfl; rfl); refine zE rfl rfl rfl (g_alloc rfl) ?_; intro _; apply yY; rfl; rfl; (apply zL; rfl; rfl; rfl; (exact Upd.here); (simp only [setL, q_z, AV.cells]; rfl); rfl; rfl; rfl; exact q_b rfl); refine xAs rfl rfl rfl rfl ?_; refine zY ?_; refine zX (zZ ?_); refine xLa rfl rfl rfl rfl (by decide) rfl (.p (by (repeat first | exact q_h | apply q_t | assumption); done) rfl rfl) ?_; apply zV; rfl; rfl; rfl; (refine yX rfl rfl (zQ (by kernel_rfl)) ?_; exact t1 _); refine xMv rfl rfl rfl rfl ?_; apply zV; rfl; rfl; rfl; (apply yW; rfl; rfl); apply zV; rfl; rfl; rfl; (apply yW; rfl; rfl); refine xAs rfl rfl rfl rfl ?_; refine xAs rfl rfl rfl rfl ?_; refine zY ?_; refine zX (zZ ?_); refine xLa rfl rfl rfl rfl (by decide) rfl (.p (by (repeat first | exact q_h | apply q_t | assumption); done) rfl rfl) ?_; apply zV; rfl; rfl; rfl; (apply g_build; rfl; rfl; rfl; rfl); apply zV; rfl; rfl; rfl; (refine yX rfl rfl (zQ (by kernel_rfl)) ?_; exact w4 _); refine xMv rfl rfl rfl rfl ?_; apply zV; rfl; rfl; rfl; (apply yW; rfl; rfl); apply zV; rfl; rfl; rfl; (apply yW; rfl; rfl); refine zE rfl rfl rfl (g_alloc rfl) ?_; intro _; apply yY; rfl; rfl; (apply zL; rfl; rfl; rfl; (exact Upd.here); (simp only [setL, q_z, AV.cells]; rfl); rfl; rfl; rfl; exact q_b rfl); refine xAs rfl rfl rfl rfl ?_; refine zY ?_; refine zX (zZ ?_); refine xLa rfl rfl rfl rfl (by decide) rfl (.p (by (repeat first | exact q_h | apply q_t | assumption); done) rfl rfl) ?_; apply zV; rfl; rfl; rfl; (refine yX rfl rfl (zQ (by kernel_rfl)) ?_; exact t2 _); refine xMv rfl rfl rfl rfl ?_; apply zV; rfl; rfl; rfl; (apply yW; rfl; rfl); apply zV; rfl; rfl; rfl; (apply yW; rfl; rfl); refine xAs rfl rfl rfl rfl ?_; refine xAs rfl rfl rfl rfl ?_; refine zY ?_; refine zX ?_; refine zX (zZ ?_); refine xMv rfl rfl rfl rfl ?_; refine xBi rfl rfl rfl rfl rfl rfl ?_; intro _ _; refine xMv rfl rfl rfl rfl ?_; refine zA rfl (fun h => ?_) (fun h => ?_) <;> ((first | (subst h; rename BV _ true => g; have h := g.eq; clear g) | (subst h; rename BV _ false => g; have h := g.eq; clear g) | skip); (have hp := h; try simp only [q_n] at hp); (try (exfalso; first | omega | (cases hp; done))));
  apply exl_isW; rfl; (rfl); rfl; rfl; (apply zH; rfl); refine yBi rfl rfl rfl rfl rfl rfl rfl ?_; intro _ _; refine xPf rfl rfl rfl rfl rfl rfl ?_; refine xMv rfl rfl rfl rfl ?_; refine zA rfl (fun h => ?_) (fun h => ?_) <;> ((first | (subst h; rename BV _ true => g; have h := g.eq; clear g) | (subst h; rename BV _ false => g; have h := g.eq; clear g) | skip); (have hp := h; try simp only [q_n] at hp); (try (exfalso; first | omega | (cases hp; done))));
  apply exl_isW; rfl; (rfl); rfl; rfl; (apply zH; rfl); refine yBi rfl rfl rfl rfl rfl rfl rfl ?_; intro _ _; refine xPf rfl rfl rfl rfl rfl rfl ?_; refine xMv rfl rfl rfl rfl ?_; refine zA rfl (fun h => ?_) (fun h => ?_) <;> ((first | (subst h; rename BV _ true => g; have h := g.eq; clear g) | (subst h; rename BV _ false => g; have h := g.eq; clear g) | skip); (have hp := h; try simp only [q_n] at hp); (try (exfalso; first | omega | (cases hp; done))));
  apply exl_isW; rfl; (rfl); rfl; rfl; (apply zH; rfl); refine yBi rfl rfl rfl rfl rfl rfl rfl ?_; intro _ _; refine xPf rfl rfl rfl rfl rfl rfl ?_; refine xMv rfl rfl rfl rfl ?_; refine zA rfl (fun h => ?_) (fun h => ?_) <;> ((first | (subst h; rename BV _ true => g; have h := g.eq; clear g) | (subst h; rename BV _ false => g; have h := g.eq; clear g) | skip); (have hp := h; try simp only [q_n] at hp); (try (exfalso; first | omega | (cases hp; done))));
  apply exl_isW; rfl; (rfl); rfl; rfl; (apply zH; rfl); refine yBi rfl rfl rfl rfl rfl rfl rfl ?_; intro _ _; refine xPf rfl rfl rfl rfl rfl rfl ?_; refine xMv rfl rfl rfl rfl ?_; refine zA rfl (fun h => ?_) (fun h => ?_) <;> ((first | (subst h; rename BV _ true => g; have h := g.eq; clear g) | (subst h; rename BV _ false => g; have h := g.eq; clear g) | skip); (have hp := h; try simp only [q_n] at hp); (try (exfalso; first | omega | (cases hp; done))));
  apply exl_isW; rfl; (rfl); rfl; rfl; (apply zH; rfl); refine yBi rfl rfl rfl rfl rfl rfl rfl ?_; intro _ _; refine xPf rfl rfl rfl rfl rfl rfl ?_; refine xMv rfl rfl rfl rfl ?_; refine zA rfl (fun h => ?_) (fun h => ?_) <;> ((first | (subst h; rename BV _ true => g; have h := g.eq; clear g) | (subst h; rename BV _ false => g; have h := g.eq; clear g) | skip); (have hp := h; try simp only [q_n] at hp); (try (exfalso; first | omega | (cases hp; done))));
  apply exl_isW; rfl; (rfl); rfl; rfl; (apply zH; rfl); refine yBi rfl rfl rfl rfl rfl rfl rfl ?_; intro _ _; refine xPf rfl rfl rfl rfl rfl rfl ?_; refine xMv rfl rfl rfl rfl ?_; refine zA rfl (fun h => ?_) (fun h => ?_) <;> ((first | (subst h; rename BV _ true => g; have h := g.eq; clear g) | (subst h; rename BV _ false => g; have h := g.eq; clear g) | skip); (have hp := h; try simp only [q_n] at hp); (try (exfalso; first | omega | (cases hp; done))));
  apply exl_isW; rfl; (rfl); rfl; rfl; (apply zH; rfl); refine yBi rfl rfl rfl rfl rfl rfl rfl ?_; intro _ _; refine xPf rfl rfl rfl rfl rfl rfl ?_; refine xMv rfl rfl rfl rfl ?_; refine zA rfl (fun h => ?_) (fun h => ?_) <;> ((first | (subst h; rename BV _ true => g; have h := g.eq; clear g) | (subst h; rename BV _ false => g; have h := g.eq; clear g) | skip); (have hp := h; try simp only [q_n] at hp); (try (exfalso; first | omega | (cases hp; done))));
  refine yLa rfl rfl rfl rfl rfl (by decide) rfl (.p (by (repeat first | exact q_h | apply q_t | assumption); done) rfl rfl) ?_; apply exl_isW; rfl; (rfl); rfl; rfl; (refine yX rfl rfl (zQ (by kernel_rfl)) ?_; exact k1 _); refine yBi rfl rfl rfl rfl rfl rfl rfl ?_; intro _ _; refine xPf rfl rfl rfl rfl rfl rfl ?_; refine xMv rfl rfl rfl rfl ?_; refine zA rfl (fun h => ?_) (fun h => ?_) <;> ((first | (subst h; rename BV _ true => g; have h := g.eq; clear g) | (subst h; rename BV _ false => g; have h := g.eq; clear g) | skip); (have hp := h; try simp only [q_n] at hp); (try (exfalso; first | omega | (cases hp; done))));
  refine yLa rfl rfl rfl rfl rfl (by decide) rfl (.p (by (repeat first | exact q_h | apply q_t | assumption); done) rfl rfl) ?_; refine yLa rfl rfl rfl rfl rfl (by decide) rfl (.p (by (repeat first | exact q_h | apply q_t | assumption); done) rfl rfl) ?_; apply exl_isBW; rfl; (rfl); rfl; rfl; (refine yX rfl rfl (zQ (by kernel_rfl)) ?_; exact s1 _); intro _ _; apply exl_isBW; rfl; (rfl); rfl; rfl; (apply g_not; rfl); intro _ _; refine xPf rfl rfl rfl rfl rfl rfl ?_; refine xMv rfl rfl rfl rfl ?_; refine zA rfl (fun h => ?_) (fun h => ?_) <;> ((first | (subst h; rename BV _ true => g; have h := g.eq; clear g) | (subst h; rename BV _ false => g; have h := g.eq; clear g) | skip); (have hp := h; try simp only [q_n] at hp); (try (exfalso; first | omega | (cases hp; done))));
  refine zW rfl rfl rfl rfl ?_; refine zW rfl rfl rfl rfl ?_; refine zW rfl rfl rfl rfl ?_; refine zW rfl rfl rfl rfl ?_; refine xPt rfl rfl rfl rfl rfl rfl ?_; refine zY ?_; refine ex_cond_t rfl (by rfl) ?_; refine zX (zZ ?_); refine xAs rfl rfl rfl rfl ?_; refine zY ?_; refine yV ?_; simp only [zD, zK, zJ, zT, retA, ↓reduceIte, Nat.reduceEqDiff]; rotate_left; refine yFa rfl rfl rfl rfl rfl rfl rfl ?_; refine yLd rfl rfl rfl rfl rfl rfl (.p (by (repeat first | exact q_h | apply q_t | assumption); done) rfl) ?_; apply exl_isW; rfl; (rfl); rfl; rfl; (apply g_len; rfl; rfl; (rfl)); refine yBi rfl rfl rfl rfl rfl rfl rfl ?_; intro _ _; refine xPf rfl rfl rfl rfl rfl rfl ?_; refine zY ?_; refine zU rfl (fun h => ?_) (fun h => ?_) <;> ((first | (subst h; rename BV _ true => g; have h := g.eq; clear g) | (subst h; rename BV _ false => g; have h := g.eq; clear g) | skip); (have hp := h; try simp only [q_n] at hp); (try (exfalso; first | omega | (cases hp; done))));
  refine zG ?_; refine zX ?_; refine zX (zZ ?_); refine xMv rfl rfl rfl rfl ?_; apply zV; rfl; rfl; rfl; (exact gop_sealed (g_buildSlice rfl rfl (by decide) rfl rfl (by (simp only [chunkN, List.take_succ_cons, List.take_zero, List.drop_succ_cons, List.drop_zero]; rfl)))); apply zV; rfl; rfl; rfl; (apply g_build; rfl; rfl; rfl; rfl); apply zV; rfl; rfl; rfl; (exact gop_sealed (g_buildSlice rfl rfl (by decide) rfl rfl (by (simp only [chunkN, List.take_succ_cons, List.take_zero, List.drop_succ_cons, List.drop_zero]; rfl)))); apply exl_isB; rfl; rfl; rfl; (refine yX rfl rfl (zQ (by kernel_rfl)) ?_; exact v1 _); intro _ _; apply exl_isB; rfl; rfl; rfl; (apply g_not; rfl); intro _ _; refine xMv rfl rfl rfl rfl ?_; refine zA rfl (fun h => ?_) (fun h => ?_) <;> ((first | (subst h; rename BV _ true => g; have h := g.eq; clear g) | (subst h; rename BV _ false => g; have h := g.eq; clear g) | skip); (have hp := h; try simp only [q_n] at hp); (try (exfalso; first | omega | (cases hp; done))));
  refine zW rfl rfl rfl rfl ?_; refine zW rfl rfl rfl rfl ?_; refine zW rfl rfl rfl rfl ?_; refine zW rfl rfl rfl rfl ?_; refine zW rfl rfl rfl rfl ?_; refine xPt rfl rfl rfl rfl rfl rfl ?_; refine zY ?_; refine ex_cond_t rfl (by rfl) ?_; refine zX (zZ ?_); refine xAs rfl rfl rfl rfl ?_; refine zY ?_; refine yV ?_; simp only [zD, zK, zJ, zT, retA, ↓reduceIte, Nat.reduceEqDiff]; rotate_left; apply exl_isW; rfl; (rfl); rfl; rfl; (apply zH; rfl); apply exl_isW; rfl; (rfl); rfl; rfl; (apply g_build; rfl; rfl; rfl; rfl); apply exl_isW; rfl; (rfl); rfl; rfl; (exact gop_sealed (g_buildSlice rfl rfl (by decide) rfl rfl (by (simp only [chunkN, List.take_succ_cons, List.take_zero, List.drop_succ_cons, List.drop_zero]; rfl)))); apply exl_isBW; rfl; (rfl); rfl; rfl; (refine yX rfl rfl (zQ (by kernel_rfl)) ?_; exact v2 _); intro _ _; apply exl_isBW; rfl; (rfl); rfl; rfl; (apply g_not; rfl); intro _ _; refine xPf rfl rfl rfl rfl rfl rfl ?_; refine zY ?_; refine zU rfl (fun h => ?_) (fun h => ?_) <;> ((first | (subst h; rename BV _ true => g; have h := g.eq; clear g) | (subst h; rename BV _ false => g; have h := g.eq; clear g) | skip); (have hp := h; try simp only [q_n] at hp); (try (exfalso; first | omega | (cases hp; done))));
  refine zX (zZ ?_); refine xAs rfl rfl rfl rfl ?_; refine zY ?_; refine yV ?_; simp only [zD, zK, zJ, zT, retA, ↓reduceIte, Nat.reduceEqDiff]; rotate_left; refine zG ?_; refine zX (zZ ?_); simp only [zD, zK, zJ, zT, retA, ↓reduceIte, Nat.reduceEqDiff]; rotate_left
  (all_goals (repeat (rename BV _ _ => hbv; cases hbv)))
  all_goals (try (first | cases ‹true = false› | cases ‹false = true›))
  clear m1 m2 t1 w4 t2 k1 s1 v1 v2
  refine exl_weaken (s' := ⟨[], σ, [], Tryz.f9.ntmps⟩) (St.le_of (by repeat (first | exact trivial | refine ⟨rfl, ?_⟩)) (by repeat (first | exact q_r | apply q_q | apply q_k | exact q_a))) ?_
  have n1 := new_ok 2 (by decide)
  have n2 := new_bad 9 (by decide)
  have d1 := do_empty ⟨0, 0, 0, 0, zS⟩
  have d2 := do_c _ _ ⟨0, 0, 0, 0, zS⟩ (ex10 0 (by decide))
  rw [ex11] at d2
  apply zV; rfl; rfl; rfl; (refine yX rfl rfl (zQ (by kernel_rfl)) ?_; exact n1 _); refine xMv rfl rfl rfl rfl ?_; apply zV; rfl; rfl; rfl; (apply yW; rfl; rfl); apply zV; rfl; rfl; rfl; (apply yW; rfl; rfl); refine zE rfl rfl rfl (g_alloc rfl) ?_; intro _; apply yY; rfl; rfl; (apply zL; rfl; rfl; rfl; (exact Upd.here); (simp only [setL, q_z, AV.cells]; rfl); rfl; rfl; rfl; exact q_b rfl); refine xAs rfl rfl rfl rfl ?_; refine zY ?_; refine zX (zZ ?_); apply zV; rfl; rfl; rfl; (refine yX rfl rfl (zQ (by kernel_rfl)) ?_; exact n2 _); refine xMv rfl rfl rfl rfl ?_; apply zV; rfl; rfl; rfl; (apply yW; rfl; rfl); apply zV; rfl; rfl; rfl; (apply yW; rfl; rfl); refine xAs rfl rfl rfl rfl ?_; refine zY ?_; refine zX (zZ ?_); apply zV; rfl; rfl; rfl; (apply g_build; rfl; rfl; rfl; rfl); apply zV; rfl; rfl; rfl; (apply g_build; rfl; rfl; rfl; rfl); apply zV; rfl; rfl; rfl; (refine yX rfl rfl (zQ (by kernel_rfl)) ?_; exact d1 _); refine xMv rfl rfl rfl rfl ?_; apply zV; rfl; rfl; rfl; (apply yW; rfl; rfl); apply zV; rfl; rfl; rfl; (apply yW; rfl; rfl); refine xAs rfl rfl rfl rfl ?_; refine zY ?_; refine zX (zZ ?_); refine xLa rfl rfl rfl rfl (by decide) rfl (.p (by (repeat first | exact q_h | apply q_t | assumption); done) rfl rfl) ?_; apply zV; rfl; rfl; rfl; (apply g_build; rfl; rfl; rfl; rfl); apply zV; rfl; rfl; rfl; (refine yX rfl rfl (zQ (by kernel_rfl)) ?_; exact d2 _); refine xMv rfl rfl rfl rfl ?_; apply zV; rfl; rfl; rfl; (apply yW; rfl; rfl); apply zV; rfl; rfl; rfl; (apply yW; rfl; rfl); refine xAs rfl rfl rfl rfl ?_; refine zY ?_; refine zX ?_; refine zX (zZ ?_); refine xMv rfl rfl rfl rfl ?_; refine xBi rfl rfl rfl rfl rfl rfl ?_; intro _ _; refine xMv rfl rfl rfl rfl ?_; refine zA rfl (fun h => ?_) (fun h => ?_) <;> ((first | (subst h; rename BV _ true => g; have h := g.eq; clear g) | (subst h; rename BV _ false => g; have h := g.eq; clear g) | skip); (have hp := h; try simp only [q_n] at hp); (try (exfalso; first | omega | (cases hp; done))));
  apply exl_isW; rfl; (rfl); rfl; rfl; (apply zH; rfl); refine yBi rfl rfl rfl rfl rfl rfl rfl ?_; intro _ _; refine xPf rfl rfl rfl rfl rfl rfl ?_; refine xMv rfl rfl rfl rfl ?_; refine zA rfl (fun h => ?_) (fun h => ?_) <;> ((first | (subst h; rename BV _ true => g; have h := g.eq; clear g) | (subst h; rename BV _ false => g; have h := g.eq; clear g) | skip); (have hp := h; try simp only [q_n] at hp); (try (exfalso; first | omega | (cases hp; done))));
  apply exl_isW; rfl; (rfl); rfl; rfl; (apply zH; rfl); refine yBi rfl rfl rfl rfl rfl rfl rfl ?_; intro _ _; refine xPf rfl rfl rfl rfl rfl rfl ?_; refine xMv rfl rfl rfl rfl ?_; refine zA rfl (fun h => ?_) (fun h => ?_) <;> ((first | (subst h; rename BV _ true => g; have h := g.eq; clear g) | (subst h; rename BV _ false => g; have h := g.eq; clear g) | skip); (have hp := h; try simp only [q_n] at hp); (try (exfalso; first | omega | (cases hp; done))));
  apply exl_isW; rfl; (rfl); rfl; rfl; (apply zH; rfl); refine yBi rfl rfl rfl rfl rfl rfl rfl ?_; intro _ _; refine xPf rfl rfl rfl rfl rfl rfl ?_; refine zY ?_; refine zU rfl (fun h => ?_) (fun h => ?_) <;> ((first | (subst h; rename BV _ true => g; have h := g.eq; clear g) | (subst h; rename BV _ false => g; have h := g.eq; clear g) | skip); (have hp := h; try simp only [q_n] at hp); (try (exfalso; first | omega | (cases hp; done))));
  refine zG ?_; refine zX ?_; refine zX (zZ ?_); apply zV; rfl; rfl; rfl; (refine yX rfl rfl (zQ (by kernel_rfl)) ?_; exact given_c _ _ _ _ _); apply zV; rfl; rfl; rfl; (apply g_build; rfl; rfl; rfl; rfl); apply zV; rfl; rfl; rfl; (refine yX rfl rfl (zQ (by kernel_rfl)) ?_; exact given_c _ _ _ _ _); apply zV; rfl; rfl; rfl; (apply g_build; rfl; rfl; rfl; rfl); apply zV; rfl; rfl; rfl; (apply g_build; rfl; rfl; rfl; rfl); apply zV; rfl; rfl; rfl; (apply g_build; rfl; rfl; rfl; rfl); apply zV; rfl; rfl; rfl; (apply g_build; rfl; rfl; rfl; rfl); apply zV; rfl; rfl; rfl; (exact gop_sealed (g_buildSlice rfl rfl (by decide) rfl rfl (by (simp only [chunkN, List.take_succ_cons, List.take_zero, List.drop_succ_cons, List.drop_zero]; rfl)))); apply zV; rfl; rfl; rfl; (apply g_len; rfl; rfl; (rfl)); refine xMv rfl rfl rfl rfl ?_; refine zY ?_; refine yZ ?_; simp only [zD, zK, zJ, zT, retA, ↓reduceIte, Nat.reduceEqDiff]; rotate_left
  (all_goals (repeat (rename BV _ _ => hbv; cases hbv)))
  all_goals (try (first | cases ‹true = false› | cases ‹false = true›))
  clear n1 n2 d1 d2
  rename Nat => b; revert b
  intro b
  refine ex_loop (fun (k : Nat) => (⟨[(167, .dl 12 (rdS.map psC)), (168, .int .i64 5), (169, .int .i64 k), (17, .ptr b 0)], .cells b (stC (rdB.getD k []) (qPs (rdQ.getD k []))) 41 :: σ, [], Tryz.f9.ntmps⟩ : St)) (fun k => k ≤ 5) (fun k => 5 - k) 0 (by decide) (St.le_of (by repeat (first | exact trivial | refine ⟨rfl, ?_⟩)) (by repeat (first | exact q_r | apply q_q | apply q_k))) ?_
  intro k hI
  by_cases hk : k < 5
  · have hd := st_rd k hk
    have hg : (rdS.map psC)[k]? = some (psC (rdS.getD k ⟨0, 0, 0, 0, sA⟩)) := by
      obtain ⟨r, hr⟩ : ∃ r, rdS[k]? = some r := get_some hk
      rw [List.getElem?_map, List.getD_eq_getElem?_getD, hr]; rfl
    have hl5 : 5 = (rdS.map psC).length := rfl
    generalize rdS.map psC = R at hg hl5 ⊢
    generalize rdS.getD k ⟨0, 0, 0, 0, sA⟩ = r at hd hg
    generalize rdB.getD k [] = B1 at hd ⊢
    generalize rdQ.getD k [] = Q1 at hd ⊢
    generalize hB2 : rdB.getD (k + 1) [] = B2 at hd
    generalize hQ2 : rdQ.getD (k + 1) [] = Q2 at hd
    refine zX (zZ ?_); refine xBi rfl rfl rfl rfl rfl rfl ?_; intro _ _; refine zY ?_; refine zX ?_; refine zU rfl (fun h => ?_) (fun h => ?_) <;> ((first | (subst h; rename BV _ true => g; have h := g.eq; clear g) | (subst h; rename BV _ false => g; have h := g.eq; clear g) | skip); (have hp := h; try simp only [q_n] at hp); (try (exfalso; first | omega | (cases hp; done))));
    refine zG ?_; refine zX ?_; refine yZ ?_; refine zX (zZ ?_); apply zV; rfl; rfl; rfl; (apply g_indexDl; rfl; rfl; rfl; (rfl); (assumption)); apply zV; rfl; rfl; rfl; (apply zB; rfl; decide; rfl; (exact .e rfl rfl)); refine zE rfl rfl rfl (g_alloc rfl) ?_; intro _; apply yY; rfl; rfl; (apply zL; rfl; rfl; rfl; (exact Upd.here); (simp only [setL, q_z, AV.cells]; rfl); rfl; rfl; rfl; exact q_b rfl); refine zY ?_; refine zX (zZ ?_); refine xLa rfl rfl rfl rfl (by decide) rfl (.p (by (repeat first | exact q_h | apply q_t | assumption); done) rfl rfl) ?_; refine xLa rfl rfl rfl rfl (by decide) rfl (.p (by (repeat first | exact q_h | apply q_t | assumption); done) rfl rfl) ?_; apply zV; rfl; rfl; rfl; (refine yX rfl rfl (zQ (by kernel_rfl)) ?_; exact hd _); refine xMv rfl rfl rfl rfl ?_; apply zV; rfl; rfl; rfl; (apply yW; rfl; rfl); apply zV; rfl; rfl; rfl; (apply yW; rfl; rfl); apply yY; rfl; rfl; (apply zL; rfl; rfl; rfl; (exact Upd.there (Upd.here)); (simp only [setL, q_z, AV.cells]; rfl); rfl; rfl; rfl; exact q_b rfl); refine xAs rfl rfl rfl rfl ?_; refine zY ?_; refine zX (zZ ?_); refine xMv rfl rfl rfl rfl ?_; refine xBi rfl rfl rfl rfl rfl rfl ?_; intro _ _; refine zY ?_; refine zU rfl (fun h => ?_) (fun h => ?_) <;> ((first | (subst h; rename BV _ true => g; have h := g.eq; clear g) | (subst h; rename BV _ false => g; have h := g.eq; clear g) | skip); (have hp := h; try simp only [q_n] at hp); (try (exfalso; first | omega | (cases hp; done))));
    refine zG ?_; refine zZ ?_; apply zV; rfl; rfl; rfl; (apply g_add; rfl; rfl; rfl; exact ⟨by omega, by omega⟩); refine xMv rfl rfl rfl rfl ?_; refine zC ?_; simp only [zD, zK, zJ, zT, retA, ↓reduceIte, Nat.reduceEqDiff]; rotate_left
    (all_goals (repeat (rename BV _ _ => hbv; cases hbv)))
    all_goals (try (first | cases ‹true = false› | cases ‹false = true›))
    refine ⟨k + 1, hk, by omega, ?_⟩
    rw [hB2, hQ2]
    exact (St.le_of (by repeat (first | exact trivial | refine ⟨rfl, ?_⟩)) (by repeat (first | exact q_r | apply q_q | apply q_k | exact q_a)))
  · obtain rfl : k = 5 := by omega
    rw [show rdB.getD 5 [] = [[sA, sB], [sA]] from rfl, show rdQ.getD 5 [] = [] from rfl]
    clear hI hk
    have h0 : (([[sA, sB], [sA]] : List (List Sl)).map bkC)[0]? = some (bkC [sA, sB]) := rfl
    have h1 : (([[sA, sB], [sA]] : List (List Sl)).map bkC)[1]? = some (bkC [sA]) := rfl
    refine zX (zZ ?_); refine xBi rfl rfl rfl rfl rfl rfl ?_; intro _ _; refine zY ?_; refine zX ?_; refine zU rfl (fun h => ?_) (fun h => ?_) <;> ((first | (subst h; rename BV _ true => g; have h := g.eq; clear g) | (subst h; rename BV _ false => g; have h := g.eq; clear g) | skip); (have hp := h; try simp only [q_n] at hp); (try (exfalso; first | omega | (cases hp; done))));
    refine ex_exit ?_; refine zX (zZ ?_); refine xFa rfl rfl rfl rfl rfl rfl ?_; refine xLd rfl rfl rfl rfl rfl (.p (by (repeat first | exact q_h | apply q_t | assumption); done) rfl) ?_; apply zV; rfl; rfl; rfl; (apply g_len; rfl; rfl; (exact (List.length_map _).symm)); refine xBi rfl rfl rfl rfl rfl rfl ?_; intro _ _; refine xMv rfl rfl rfl rfl ?_; refine zA rfl (fun h => ?_) (fun h => ?_) <;> ((first | (subst h; rename BV _ true => g; have h := g.eq; clear g) | (subst h; rename BV _ false => g; have h := g.eq; clear g) | skip); (have hp := h; try simp only [q_n] at hp); (try (exfalso; first | omega | (cases hp; done))));
    refine yFa rfl rfl rfl rfl rfl rfl rfl ?_; refine yLd rfl rfl rfl rfl rfl rfl (.p (by (repeat first | exact q_h | apply q_t | assumption); done) rfl) ?_; apply exl_isW; rfl; (rfl); rfl; rfl; (apply g_indexDl; rfl; rfl; rfl; (rfl); (assumption)); refine yFa rfl rfl rfl rfl rfl rfl rfl ?_; apply exl_isW; rfl; (rfl); rfl; rfl; (apply g_load1; rfl; rfl; (exact .e rfl)); apply exl_isW; rfl; (rfl); rfl; rfl; (apply g_len; rfl; rfl; (exact (List.length_map _).symm)); refine yBi rfl rfl rfl rfl rfl rfl rfl ?_; intro _ _; refine xPt rfl rfl rfl rfl rfl rfl ?_; refine xMv rfl rfl rfl rfl ?_; refine zA rfl (fun h => ?_) (fun h => ?_) <;> ((first | (subst h; rename BV _ true => g; have h := g.eq; clear g) | (subst h; rename BV _ false => g; have h := g.eq; clear g) | skip); (have hp := h; try simp only [q_n] at hp); (try (exfalso; first | omega | (cases hp; done))));
    refine yFa rfl rfl rfl rfl rfl rfl rfl ?_; refine yLd rfl rfl rfl rfl rfl rfl (.p (by (repeat first | exact q_h | apply q_t | assumption); done) rfl) ?_; apply exl_isW; rfl; (rfl); rfl; rfl; (apply g_indexDl; rfl; rfl; rfl; (rfl); (assumption)); refine yFa rfl rfl rfl rfl rfl rfl rfl ?_; apply exl_isW; rfl; (rfl); rfl; rfl; (apply g_load1; rfl; rfl; (exact .e rfl)); apply exl_isW; rfl; (rfl); rfl; rfl; (apply g_len; rfl; rfl; (exact (List.length_map _).symm)); refine yBi rfl rfl rfl rfl rfl rfl rfl ?_; intro _ _; refine xPt rfl rfl rfl rfl rfl rfl ?_; refine xMv rfl rfl rfl rfl ?_; refine zA rfl (fun h => ?_) (fun h => ?_) <;> ((first | (subst h; rename BV _ true => g; have h := g.eq; clear g) | (subst h; rename BV _ false => g; have h := g.eq; clear g) | skip); (have hp := h; try simp only [q_n] at hp); (try (exfalso; first | omega | (cases hp; done))));
    refine yFa rfl rfl rfl rfl rfl rfl rfl ?_; refine yFa rfl rfl rfl rfl rfl rfl rfl ?_; refine yLd rfl rfl rfl rfl rfl rfl (.p (by (repeat first | exact q_h | apply q_t | assumption); done) rfl) ?_; apply exl_isW; rfl; (rfl); rfl; rfl; (apply g_len; rfl; rfl; (exact (List.length_map _).symm)); refine yBi rfl rfl rfl rfl rfl rfl rfl ?_; intro _ _; refine xPt rfl rfl rfl rfl rfl rfl ?_; refine xAs rfl rfl rfl rfl ?_; refine zY ?_; refine yV ?_; simp only [zD, zK, zJ, zT, retA, ↓reduceIte, Nat.reduceEqDiff]; rotate_left; refine zW rfl rfl rfl rfl ?_; refine zW rfl rfl rfl rfl ?_; refine zW rfl rfl rfl rfl ?_; refine zW rfl rfl rfl rfl ?_; refine zW rfl rfl rfl rfl ?_; refine xPf rfl rfl rfl rfl rfl rfl ?_; refine xAs rfl rfl rfl rfl ?_; refine zY ?_; refine yV ?_; simp only [zD, zK, zJ, zT, retA, ↓reduceIte, Nat.reduceEqDiff]; rotate_left; refine zW rfl rfl rfl rfl ?_; refine zW rfl rfl rfl rfl ?_; refine zW rfl rfl rfl rfl ?_; refine zW rfl rfl rfl rfl ?_; refine zW rfl rfl rfl rfl ?_; refine zW rfl rfl rfl rfl ?_; refine zW rfl rfl rfl rfl ?_; refine xPf rfl rfl rfl rfl rfl rfl ?_; refine xMv rfl rfl rfl rfl ?_; refine zW rfl rfl rfl rfl ?_; refine zW rfl rfl rfl rfl ?_; refine zW rfl rfl rfl rfl ?_; refine zW rfl rfl rfl rfl ?_; refine zW rfl rfl rfl rfl ?_; refine xPf rfl rfl rfl rfl rfl rfl ?_; refine xAs rfl rfl rfl rfl ?_; refine zY ?_; refine yV ?_; simp only [zD, zK, zJ, zT, retA, ↓reduceIte, Nat.reduceEqDiff]; rotate_left; refine zW rfl rfl rfl rfl ?_; refine zW rfl rfl rfl rfl ?_; refine zW rfl rfl rfl rfl ?_; refine zW rfl rfl rfl rfl ?_; refine zW rfl rfl rfl rfl ?_; refine zW rfl rfl rfl rfl ?_; refine zW rfl rfl rfl rfl ?_; refine xPf rfl rfl rfl rfl rfl rfl ?_; refine xMv rfl rfl rfl rfl ?_; refine zW rfl rfl rfl rfl ?_; refine zW rfl rfl rfl rfl ?_; refine zW rfl rfl rfl rfl ?_; refine zW rfl rfl rfl rfl ?_; refine zW rfl rfl rfl rfl ?_; refine zW rfl rfl rfl rfl ?_; refine zW rfl rfl rfl rfl ?_; refine xPf rfl rfl rfl rfl rfl rfl ?_; refine xMv rfl rfl rfl rfl ?_; refine zW rfl rfl rfl rfl ?_; refine zW rfl rfl rfl rfl ?_; refine zW rfl rfl rfl rfl ?_; refine zW rfl rfl rfl rfl ?_; refine zW rfl rfl rfl rfl ?_; refine xPf rfl rfl rfl rfl rfl rfl ?_; refine xAs rfl rfl rfl rfl ?_; refine zY ?_; refine yV ?_; simp only [zD, zK, zJ, zT, retA, ↓reduceIte, Nat.reduceEqDiff]; rotate_left
    (all_goals (repeat (rename BV _ _ => hbv; cases hbv)))
    all_goals (try (first | cases ‹true = false› | cases ‹false = true›))
    refine ret_is .nil (.cons (.ofTmp rfl) .nil) (by repeat (first | exact q_r | apply q_q | apply q_k)) (bool_eq ?_)
    rfl
end Go.Proofs.YtkhoengjdfmfaaaGreat
namespace Go.Proofs.YtkhoengjdfmfaaaGreat
open Go.WideMaps Go.MapKept Go.RowKit
section
variable {P : Program} {ro : Option Nat} {env : Env} {σ : List Ent} {o : Oper} {dst : Option Tmp} {ty : TypeId} {pos : String} {after : Array Edge} {guard : Option (Nat × Bool)}
end
section
variable {P : Program} {ro : Option Nat} {Q : Exit → St → Prop} {ops : Array Oper} {rest : List Oper} {o : Oper} {env : Env} {σ : List Ent} {mk : List Nat} {n : Nat}
end
end Go.Proofs.YtkhoengjdfmfaaaGreat
namespace Go.Proofs.YtkhoengjdfmfaaaGreat
end Go.Proofs.YtkhoengjdfmfaaaGreat
namespace Go.Proofs.YtkhoengjdfmfaaaGreat
abbrev bkE (b : Nat) (l : List Sl) : Ent := .cells b [sls l] 24
end Go.Proofs.YtkhoengjdfmfaaaGreat
namespace Go.Proofs.YtkhoengjdfmfaaaGreat
def cntW (n : Nat) (l : List Sl) : List Int := (List.range n).map fun t : Nat => ((manyS l t : Nat) : Int)
theorem cntW_nil (n : Nat) : (cntW n []).map intC = List.replicate n (intC 0) := by
  unfold cntW
  rw [List.map_map]
  refine List.ext_getElem? fun j => ?_
  rw [List.getElem?_map, List.getElem?_replicate]
  by_cases h : j < n
  · rw [if_pos h, List.getElem?_eq_getElem (by simpa using h)]; simp [manyS]
  · rw [if_neg h, List.getElem?_eq_none (by simpa using h)]; rfl
theorem cntW_get {n t : Nat} (l : List Sl) (h : t < n) : (cntW n l)[t]? = some ((manyS l t : Nat) : Int) := by
  unfold cntW
  rw [List.getElem?_map, List.getElem?_range h]; rfl
theorem cntW_set {n t : Nat} {l l' : List Sl} (h : t < n) (h1 : manyS l' t = manyS l t + 1) (h2 : ∀ u : Int, u ≠ t → manyS l' u = manyS l u) : ((cntW n l).map intC).set t (intC (((manyS l t : Nat) : Int) + 1)) = (cntW n l').map intC := by
  refine List.ext_getElem? fun j => ?_
  rw [List.getElem?_set, List.getElem?_map, List.getElem?_map]
  by_cases hj : j < n
  · rw [cntW_get l hj, cntW_get l' hj]
    by_cases e : t = j
    · subst e
      rw [if_pos rfl, if_pos (by rw [List.length_map]; unfold cntW; simpa using h), h1]; simp
    · rw [if_neg e, h2 j (by omega)]
  · have e1 : (cntW n l)[j]? = none := by unfold cntW; simp; omega
    have e2 : (cntW n l')[j]? = none := by unfold cntW; simp; omega
    rw [if_neg (by omega), e1, e2]
abbrev wsA (W : List (List Sl)) : AV := .dl 1 (W.map bkC)
set_option maxHeartbeats 8000000 in
theorem begins_c (n : Nat) (b : List Sl) (W : List (List Sl)) (hn : n ≤ 8) (hb : Begins n b W) (σ : List Ent) : SCall Tryz.prog 24 [.agg [sls b], wsA W] σ (Is (.bool true) σ) := by
  refine scall_of Tryz.func24 rfl (by simp) ?_
  have hWl := hb.1
  have hWm : (W.map bkC).length = n := by rw [List.length_map]; exact hWl
  refine zX (zZ ?_); refine zE rfl rfl rfl (g_box rfl rfl) ?_; intro _; refine xAs rfl rfl rfl rfl ?_; refine zY ?_; refine zX (zZ ?_); refine xMv rfl rfl rfl rfl ?_; apply zV; rfl; rfl; rfl; (apply g_len; rfl; rfl; (exact (List.length_map _).symm)); refine exl_row rfl rfl rfl (by apply g_makeSlice; rfl; rfl; rfl; rfl; (rfl); (rfl); (refine app_ok ?_ (by kernel_rfl); (omega))) ?_; intro _; refine xAs rfl rfl rfl rfl ?_; refine zY ?_; refine zX ?_; refine zX (zZ ?_); refine xFa rfl rfl rfl rfl rfl rfl ?_; refine xLd rfl rfl rfl rfl rfl (.p (by (repeat first | exact q_h | apply q_t | assumption); done) rfl) ?_; apply zV; rfl; rfl; rfl; (apply g_len; rfl; rfl; (exact (List.length_map _).symm)); refine xMv rfl rfl rfl rfl ?_; refine zY ?_; refine yZ ?_; rotate_left
  (all_goals (repeat (rename BV _ _ => hbv; cases hbv)))
  all_goals (try (first | cases ‹true = false› | cases ‹false = true›))
  rename Nat => b2; revert b2
  intro b2
  rename Value => v
  refine ex_len (t := 12) rfl ((List.length_map _).symm) (fun hlen => ?_)
  show EX _ _ _ _ ⟨_, .row v 3 1 (List.replicate W.length (intC 0)) :: _, _, _⟩
  rw [hWl, ← cntW_nil]
  refine ex_loop (fun (k : Nat) => (⟨[(1, wsA W), (2, .ptr b2 0), (5, .slv v), (12, sls b), (13, .int .i64 b.length), (14, .int .i64 k)], .row v 3 1 ((cntW n (b.take k)).map intC) :: .cells b2 [sls b] 24 :: σ, [], Tryz.f24.ntmps⟩ : St)) (fun k => k ≤ b.length) (fun k => b.length - k) 0 (Nat.zero_le _) (St.le_of (by repeat (first | exact trivial | refine ⟨rfl, ?_⟩)) (by repeat (first | exact q_r | apply q_q | apply q_k))) ?_
  intro k hI
  by_cases hk : k < b.length
  · obtain ⟨s, hs⟩ : ∃ s, b[k]? = some s := get_some hk
    have hg := sl_get hs
    obtain ⟨t, htn, hst, hlt, hget, hnx, hoth⟩ := begins_next hb hs
    obtain ⟨w, hw⟩ : ∃ w, W[t]? = some w := get_some (by omega)
    rw [show W.getD t [] = w by rw [List.getD_eq_getElem?_getD, hw]; rfl] at hlt hget
    have hgw := bk_get hw
    have hgs := sl_get hget
    have hcw := cntW_get (b.take k) htn
    have hset := cntW_set htn hnx hoth
    have hcl : ((cntW n (b.take k)).map intC).length = n := by rw [List.length_map]; unfold cntW; simp
    have hms : manyS (b.take k) t ≤ k := Nat.le_trans (List.countP_le_length) (by rw [List.length_take]; omega)
    clear hnx hoth hb hget hw hs
    generalize manyS (b.take k) t = m at hcw hset hgs hlt hms
    generalize cntW n (b.take k) = C at hcw hset hcl ⊢
    have hcl2 : C.length = n := by simpa using hcl
    refine zX (zZ ?_); refine xBi rfl rfl rfl rfl rfl rfl ?_; intro _ _; refine zY ?_; refine zX ?_; refine zU rfl (fun h => ?_) (fun h => ?_) <;> ((first | (subst h; rename BV _ true => g; have h := g.eq; clear g) | (subst h; rename BV _ false => g; have h := g.eq; clear g) | skip); (have hp := h; try simp only [q_n] at hp); (try (exfalso; first | omega | (cases hp; done))));
    refine zG ?_; refine zX ?_; refine yZ ?_; refine zX (zZ ?_); apply zV; rfl; rfl; rfl; (apply g_indexDl; rfl; rfl; rfl; (rfl); (assumption)); apply zV; rfl; rfl; rfl; (apply zB; rfl; decide; rfl; (exact .e rfl rfl)); refine zE rfl rfl rfl (g_alloc rfl) ?_; intro _; apply yY; rfl; rfl; (apply zL; rfl; rfl; rfl; (exact Upd.here); (simp only [setL, q_z, AV.cells]; rfl); rfl; rfl; rfl; exact q_b rfl); refine zY ?_; refine zX ?_; refine zX ?_; refine ex_drawP rfl rfl (by kernel_rfl) rfl ?_; refine ex_drawQ rfl (by kernel_rfl) rfl ?_; apply zR; rfl; rfl; rfl; (intro σ' hl; (apply zP; rfl; rfl; rfl)); apply zR; rfl; rfl; rfl; (intro σ' hl; (apply g_load1; rfl; rfl; (exact .p (hl _ (by (exact True.intro)) (by (repeat first | exact q_h | apply q_t | assumption); done)) rfl))); apply wl_isB; rfl; rfl; rfl; (intro σ' hl; (apply g_binInt; rfl; rfl; rfl)); intro _ _; apply zR; rfl; rfl; rfl; (intro σ' hl; (apply zH; rfl)); refine wl_case rfl (fun h => ?_) (fun h => ?_) <;> ((first | (subst h; rename BV _ true => g; have h := g.eq; clear g) | (subst h; rename BV _ false => g; have h := g.eq; clear g) | skip); (have hp := h; try simp only [q_n] at hp); (try (exfalso; first | omega | (cases hp; done))));
    apply wl_isW; rfl; (rfl); rfl; rfl; (intro σ' hl; (apply zP; rfl; rfl; rfl)); apply wl_isW; rfl; (rfl); rfl; rfl; (intro σ' hl; (apply g_load1; rfl; rfl; (exact .p (hl _ (by (exact True.intro)) (by (repeat first | exact q_h | apply q_t | assumption); done)) rfl))); apply wl_isW; rfl; (rfl); rfl; rfl; (intro σ' hl; (apply zH; rfl)); apply wl_isW; rfl; (rfl); rfl; rfl; (intro σ' hl; (apply g_len; rfl; rfl; (exact (List.length_map _).symm))); apply wl_isBW; rfl; (rfl); rfl; rfl; (intro σ' hl; (apply g_binInt; rfl; rfl; rfl)); intro _ _; apply zR; rfl; rfl; rfl; (intro σ' hl; (apply g_pick_f; rfl; (rfl); rfl)); apply zR; rfl; rfl; rfl; (intro σ' hl; (apply zH; rfl)); refine wl_case rfl (fun h => ?_) (fun h => ?_) <;> ((first | (subst h; rename BV _ true => g; have h := g.eq; clear g) | (subst h; rename BV _ false => g; have h := g.eq; clear g) | skip); (have hp := h; try simp only [q_n] at hp); (try (exfalso; first | omega | (cases hp; done))));
    apply wl_isW; rfl; (rfl); rfl; rfl; (intro σ' hl; (apply zH; rfl)); apply wl_isW; rfl; (rfl); rfl; rfl; (intro σ' hl; (apply zP; rfl; rfl; rfl)); apply wl_isW; rfl; (rfl); rfl; rfl; (intro σ' hl; (apply g_load1; rfl; rfl; (exact .p (hl _ (by (exact True.intro)) (by (repeat first | exact q_h | apply q_t | assumption); done)) rfl))); apply wl_isW; rfl; (rfl); rfl; rfl; (intro σ' hl; (apply g_indexRow; rfl; rfl; exact hl _ (by (exact True.intro)) (by (repeat first | exact q_h | apply q_t | assumption); done); rfl; (assumption); (omega))); apply wl_isW; rfl; (rfl); rfl; rfl; (intro σ' hl; (apply g_load1; rfl; rfl; (exact .k0 (hl _ (by (exact True.intro)) (by (repeat first | exact q_h | apply q_t | assumption); done)) (get_map (by assumption)) rfl))); apply wl_isW; rfl; (rfl); rfl; rfl; (intro σ' hl; (apply zH; rfl)); apply wl_isW; rfl; (rfl); rfl; rfl; (intro σ' hl; (apply zP; rfl; rfl; rfl)); apply wl_isW; rfl; (rfl); rfl; rfl; (intro σ' hl; (apply g_load1; rfl; rfl; (exact .p (hl _ (by (exact True.intro)) (by (repeat first | exact q_h | apply q_t | assumption); done)) rfl))); apply wl_isW; rfl; (rfl); rfl; rfl; (intro σ' hl; (apply g_indexDl; rfl; rfl; rfl; (assumption); (assumption))); apply wl_isW; rfl; (rfl); rfl; rfl; (intro σ' hl; (apply g_load1; rfl; rfl; (exact .e rfl))); apply wl_isW; rfl; (rfl); rfl; rfl; (intro σ' hl; (apply g_len; rfl; rfl; (exact (List.length_map _).symm))); apply wl_isBW; rfl; (rfl); rfl; rfl; (intro σ' hl; (apply g_binInt; rfl; rfl; rfl)); intro _ _; apply zR; rfl; rfl; rfl; (intro σ' hl; (apply g_pick_f; rfl; (rfl); rfl)); apply zR; rfl; rfl; rfl; (intro σ' hl; (apply zH; rfl)); refine wl_case rfl (fun h => ?_) (fun h => ?_) <;> ((first | (subst h; rename BV _ true => g; have h := g.eq; clear g) | (subst h; rename BV _ false => g; have h := g.eq; clear g) | skip); (have hp := h; try simp only [q_n] at hp); (try (exfalso; first | omega | (cases hp; done))));
    apply wl_isW; rfl; (rfl); rfl; rfl; (intro σ' hl; (apply zH; rfl)); apply wl_isW; rfl; (rfl); rfl; rfl; (intro σ' hl; (apply zP; rfl; rfl; rfl)); apply wl_isW; rfl; (rfl); rfl; rfl; (intro σ' hl; (apply g_load1; rfl; rfl; (exact .p (hl _ (by (exact True.intro)) (by (repeat first | exact q_h | apply q_t | assumption); done)) rfl))); apply wl_isW; rfl; (rfl); rfl; rfl; (intro σ' hl; (apply g_indexDl; rfl; rfl; rfl; (assumption); (assumption))); apply wl_isW; rfl; (rfl); rfl; rfl; (intro σ' hl; (apply g_load1; rfl; rfl; (exact .e rfl))); apply wl_isW; rfl; (rfl); rfl; rfl; (intro σ' hl; (apply zH; rfl)); apply wl_isW; rfl; (rfl); rfl; rfl; (intro σ' hl; (apply zP; rfl; rfl; rfl)); apply wl_isW; rfl; (rfl); rfl; rfl; (intro σ' hl; (apply g_load1; rfl; rfl; (exact .p (hl _ (by (exact True.intro)) (by (repeat first | exact q_h | apply q_t | assumption); done)) rfl))); apply wl_isW; rfl; (rfl); rfl; rfl; (intro σ' hl; (apply g_indexRow; rfl; rfl; exact hl _ (by (exact True.intro)) (by (repeat first | exact q_h | apply q_t | assumption); done); rfl; (assumption); (omega))); apply wl_isW; rfl; (rfl); rfl; rfl; (intro σ' hl; (apply g_load1; rfl; rfl; (exact .k0 (hl _ (by (exact True.intro)) (by (repeat first | exact q_h | apply q_t | assumption); done)) (get_map (by assumption)) rfl))); apply wl_isW; rfl; (rfl); rfl; rfl; (intro σ' hl; (apply g_indexDl; rfl; rfl; rfl; (rfl); (assumption))); apply wl_isW; rfl; (rfl); rfl; rfl; (intro σ' hl; (apply zB; rfl; decide; rfl; (exact .e rfl rfl))); apply wl_isW; rfl; (rfl); rfl; rfl; (intro σ' hl; (apply zB; rfl; decide; rfl; (exact .p (hl _ (by (exact True.intro)) (by (repeat first | exact q_h | apply q_t | assumption); done)) rfl rfl))); refine wl_isBW rfl rfl rfl rfl (fun σ' hl => g_neqSl (a := s) (b := s) (q := true) rfl rfl rfl (by simp)) ?_; intro _ _; apply zR; rfl; rfl; rfl; (intro σ' hl; (apply g_pick_f; rfl; (rfl); rfl)); refine wl_nil ?_; show EX _ _ _ _ _; refine zU rfl (fun h => ?_) (fun h => ?_) <;> ((first | (subst h; rename BV _ true => g; have h := g.eq; clear g) | (subst h; rename BV _ false => g; have h := g.eq; clear g) | skip); (have hp := h; try simp only [q_n] at hp); (try (exfalso; first | omega | (cases hp; done))));
    refine zG ?_; refine zZ ?_; refine xMv rfl rfl rfl rfl ?_; refine xFa rfl rfl rfl rfl rfl rfl ?_; refine xLd rfl rfl rfl rfl rfl (.p (by (repeat first | exact q_h | apply q_t | assumption); done) rfl) ?_; apply zV; rfl; rfl; rfl; (apply g_indexRow; rfl; rfl; exact (by (repeat first | exact q_h | apply q_t | assumption); done); rfl; (assumption); (omega)); apply zV; rfl; rfl; rfl; (apply g_load1; rfl; rfl; (exact .k0 (by (repeat first | exact q_h | apply q_t | assumption); done) (get_map (by assumption)) rfl)); apply zV; rfl; rfl; rfl; (apply g_add; rfl; rfl; rfl; exact ⟨by omega, by omega⟩); apply zV; rfl; rfl; rfl; (apply g_indexRow; rfl; rfl; exact (by (repeat first | exact q_h | apply q_t | assumption); done); rfl; (assumption); (omega)); apply yY; rfl; rfl; focus (apply g_setElem; rfl; rfl; rfl; rfl; rfl; rfl; rotate_left; (exact Upd.there (Upd.here)); (omega));
    refine zC ?_; refine zZ ?_; apply zV; rfl; rfl; rfl; (apply g_add; rfl; rfl; rfl; exact ⟨by omega, by omega⟩); refine xMv rfl rfl rfl rfl ?_; refine zC ?_; simp only [zD, zK, zJ, zT, retA, ↓reduceIte, Nat.reduceEqDiff]; rotate_left
    (all_goals (repeat (rename BV _ _ => hbv; cases hbv)))
    all_goals (try (first | cases ‹true = false› | cases ‹false = true›))
    refine ⟨k + 1, hk, by omega, ?_⟩
    rw [← hset]
    exact (St.le_of (by repeat (first | exact trivial | refine ⟨rfl, ?_⟩)) (by repeat (first | exact q_r | apply q_q | apply q_k | exact q_a)))
  · refine zX (zZ ?_); refine xBi rfl rfl rfl rfl rfl rfl ?_; intro _ _; refine zY ?_; refine zX ?_; refine zU rfl (fun h => ?_) (fun h => ?_) <;> ((first | (subst h; rename BV _ true => g; have h := g.eq; clear g) | (subst h; rename BV _ false => g; have h := g.eq; clear g) | skip); (have hp := h; try simp only [q_n] at hp); (try (exfalso; first | omega | (cases hp; done))));
    refine ex_exit ?_; refine zX (zZ ?_); refine xAs rfl rfl rfl rfl ?_; refine zY ?_; refine yV ?_; simp only [zD, zK, zJ, zT, retA, ↓reduceIte, Nat.reduceEqDiff]; rotate_left
    (all_goals (repeat (rename BV _ _ => hbv; cases hbv)))
    all_goals (try (first | cases ‹true = false› | cases ‹false = true›))
    refine ret_is .nil (.cons (.ofTmp rfl) .nil) (by repeat (first | exact q_r | apply q_q | apply q_k | exact q_a)) ?_
    rfl
end Go.Proofs.YtkhoengjdfmfaaaGreat
namespace Go.Proofs.YtkhoengjdfmfaaaGreat
theorem merge_code {B : List (List Sl)} {Q : List Qk} {W : List (List Sl)} (h : Hist B Q W) {a b : List Sl} (ha : a ∈ B) (hb : b ∈ B) : ∃ o, mergeR a b = some o ∧ BookC o ∧ Begins B.length o W ∧ mergeS a b = if (512 : Int) < o.length then ([], 2) else (o, 0) :=
  begins_merge (h.rt.ck _ ha) (h.rt.ck _ hb) (hist_begins h ha) (hist_begins h hb)
theorem do_code {B : List (List Sl)} {Q : List Qk} {r : Ps} {e : Int} (h : doS B Q r = .error e) : e ≠ 0 := by
  unfold doS at h
  split at h
  · split at h
    · split at h
      · cases h
      · rename_i hw; injection h with h; omega
    · injection h with h; omega
  · split at h
    · split at h
      · split at h
        · cases h
        · injection h with h; omega
      · injection h with h; omega
    · split at h
      · split at h
        · injection h with h; omega
        · split at h
          · injection h with h; omega
          · split at h
            · cases h
            · split at h
              · cases h
              · split at h
                · injection h with h; omega
                · cases h
      · injection h with h; omega
end Go.Proofs.YtkhoengjdfmfaaaGreat
namespace Go.Proofs.YtkhoengjdfmfaaaGreat
/-- Values lent to a function that only reads them. -/
theorem scall_lendS {P : Program} {f : FuncId} {args args' : List AV} {σ : List Ent} {r : AV} (hL : ∀ (X : Fx) (M : Mem) (w : World) (vs : List Value), Good X M σ w → VRels (heapM w) args vs → VRels (heapM w) args' vs) (hr : r.pure = true) (h : SCall P f args' [] (Is r [])) : SCall P f args σ (Is r σ) := by
  refine ⟨fun X M w vs hg ha => ?_⟩
  have h0 : Good { w0 := X.w0, fr := fun _ => none } (heapM w) [] w :=
    ⟨hg.os, hg.tape, hg.output, fun _ _ h => h, fun _ _ h => (by cases h), fun _ _ _ => rfl, fun _ h => (by cases h), fun _ h => (by cases h), List.nodup_nil⟩
  refine (h.run _ _ w vs h0 (hL X M w _ hg (ha.mono hg.le_heap _ _))).mono ?_
  rintro e w' ⟨M', σ', r', v, hm, hg', hv, he, hR⟩
  cases hR
  have kept : ∀ b, b < w.heap.size → w'.heap[b]? = w.heap[b]? := fun b hb => by
    have ho : w.heap[b]? = some w.heap[b] := Array.getElem?_eq_getElem hb
    rw [ho]
    exact hg'.mem b _ (hm b _ ho)
  have lt : ∀ b (o' : Obj), w.heap[b]? = some o' → b < w.heap.size := fun b o' ho => (Array.getElem?_eq_some_iff.1 ho).1
  refine ⟨M, σ, r, v, Mem.le_refl M, ⟨hg'.os, hg'.tape, hg'.output, fun b o ho => ?_, fun b o ho => ?_, hg.dis, fun e he => ?_, hg.own, hg.nod⟩, hv.pure hr, he, .mk⟩
  · have := hg.mem b o ho
    rw [kept b (lt b o this)]; exact this
  · have := hg.frm b o ho
    rw [kept b (lt b o this)]; exact this
  · exact (hg.ent e he).same (fun b hb => kept b (Ent.block_lt (hg.ent e he) hb))
abbrev rowW (v : Value) (w : List Sl) : Ent := .row v 43 8 (w.map slC)
def rowsW (W : List (List Sl × Value)) : List Ent := W.map fun x => rowW x.2 x.1
abbrev vsC (W : List (List Sl × Value)) : List (List AV) := W.map fun x => [.slv x.2]
abbrev rowV (v : Value) (W : List (List Sl × Value)) : Ent := .row v 22 1 (vsC W)
abbrev wOf (W : List (List Sl × Value)) : List (List Sl) := W.map (·.1)
theorem lent_rows {X : Fx} {M : Mem} {σ : List Ent} {w : World} {vW : Value} {W : List (List Sl × Value)} (hg : Good X M σ w) (h1 : rowV vW W ∈ σ) (h2 : ∀ e ∈ rowsW W, e ∈ σ) : VRel (heapM w) (wsA (wOf W)) vW := by
  have h0 := hg.lent h1
  refine VRel.dl_view (by simp [wOf]) (fun x hx => by obtain ⟨y, _, rfl⟩ := List.mem_map.1 hx; rfl) (fun k x x' b i hx hx' hc => ?_) h0
  rw [List.getElem?_map] at hx
  obtain ⟨y, hy, rfl⟩ := Option.map_eq_some_iff.1 hx
  rw [List.getElem?_map, List.getElem?_map, hy] at hx'
  cases hx'
  have hr := hg.lent (h2 _ (List.mem_map.2 ⟨y, List.mem_of_getElem? hy, rfl⟩))
  exact hc.view fun vs hvs => by
    simp only [VRels, VRel] at hvs
    obtain ⟨u, q, rfl, ⟨rfl, _⟩, rfl⟩ := hvs
    show VRels (heapM w) [sls y.1] [y.2]
    simp only [VRels]
    exact ⟨_, _, rfl, hr, rfl⟩
/-- begins, asked of a book and of what is being written. -/
theorem begins_l (n : Nat) (b : List Sl) (W : List (List Sl × Value)) (vW : Value) (hn : n ≤ 8) (hb : Begins n b (wOf W)) (σ : List Ent) (hm : ∀ e ∈ rowV vW W :: rowsW W, e ∈ σ) : SCall Tryz.prog 24 [.agg [sls b], .slv vW] σ (Is (.bool true) σ) := by
  refine scall_lendS (args' := [.agg [sls b], wsA (wOf W)]) (fun X M w vs hg hv => ?_) rfl (begins_c n b _ hn hb [])
  simp only [VRels] at hv ⊢
  obtain ⟨v, r, rfl, h1, u, q, rfl, h2, h3⟩ := hv
  refine ⟨_, _, rfl, h1, _, _, rfl, ?_, h3⟩
  simp only [VRel] at h2
  rw [h2.1]
  exact lent_rows hg (hm _ (List.mem_cons_self ..)) fun e he => hm e (List.mem_cons_of_mem _ he)
theorem ex_nilRows {P : Program} {ro : Option Nat} {c : Code} {Q : Exit → St → Prop} {env : Env} {σ : List Ent} {mk : List Nat} {n : Nat} (e : TypeId) (sz : Nat) : ∀ (k : Nat), EX P ro c Q ⟨env, List.replicate k (.row nilS e sz []) ++ σ, mk, n⟩ → EX P ro c Q ⟨env, σ, mk, n⟩
  | 0, h => h
  | k + 1, h => ex_nilRows e sz k (ex_nilRow e sz (by rwa [List.replicate_succ] at h))
theorem rowsW_split {W : List (List Sl × Value)} {a : Nat} {w : List Sl} {v : Value} (h : W[a]? = some (w, v)) : ∃ R, (rowsW W).Perm (rowW v w :: R) ∧ ∀ w' v', (rowW v' w' :: R).Perm (rowsW (W.set a (w', v'))) := by
  obtain ⟨hl, he⟩ := List.getElem?_eq_some_iff.1 h
  refine ⟨rowsW (W.take a) ++ rowsW (W.drop (a + 1)), ?_, fun w' v' => ?_⟩
  · have : W = W.take a ++ (w, v) :: W.drop (a + 1) := by rw [← he, ← List.drop_eq_getElem_cons hl, List.take_append_drop]
    conv => lhs; rw [this]
    unfold rowsW
    rw [List.map_append, List.map_cons]
    exact List.perm_middle
  · rw [List.set_eq_take_append_cons_drop, if_pos hl]
    unfold rowsW
    rw [List.map_append, List.map_cons]
    exact List.perm_middle.symm
end Go.Proofs.YtkhoengjdfmfaaaGreat
namespace Go.Proofs.YtkhoengjdfmfaaaGreat
abbrev rndE (b : Nat) (B : List (List Sl)) (Q : List Qk) : Ent := .cells b (stC B (qPs Q)) 41
end Go.Proofs.YtkhoengjdfmfaaaGreat
