/- Parts of the proof that belong together: Va Vb Sdf. -/
import Derived.Test.YtkhoengjdfmfaaaGreatGC03
import Derived.Test.YtkhoengjdfmfaaaGreatGC08
import Derived.RecoverIn
set_option maxRecDepth 10000
set_option linter.unusedSimpArgs false
set_option linter.unusedVariables false
namespace Go.Proofs.YtkhoengjdfmfaaaGreat
abbrev b8C (n : Nat) : List AV := [.int .u8 (n : Int)]
abbrev bys (l : List Nat) : AV := .dl 1 (l.map b8C)
abbrev rowB (v : Value) (l : List Nat) : Ent := .row v 5 1 (l.map b8C)
abbrev noStr : AV := .str ⟨#[]⟩
abbrev itC (n : Int) : List AV := [.int .i64 1, .int .i64 n, noStr, .slv nilS]
abbrev lvC (ns : List Int) : List AV := [.int .i64 3, .int .i64 0, noStr, .dl 4 (ns.map itC)]
theorem it_get {l : List Int} {k : Nat} {x : Int} (h : l[k]? = some x) : (l.map itC)[k]? = some (itC x) := by rw [List.getElem?_map, h]; rfl
/-- What is said of a row's change, wherever it stands. -/
theorem scall_upd {P : Program} {f : FuncId} {args : List AV} {σ : List Ent} {e : Ent} {F : Value → List Ent} {E : Value → Ent} (h : ∀ σ0, SCall P f args (e :: σ0) (fun r τ => ∃ v', r = .slv v' ∧ τ = E v' :: σ0)) (hu : ∀ v', Upd σ e (E v') (F v')) : SCall P f args σ (fun r τ => ∃ v', r = .slv v' ∧ τ = F v') := by
  obtain ⟨a, c, h1, h2⟩ := (hu nilS).split
  have hp : σ.Perm (e :: (a ++ c)) := by rw [h1]; exact List.perm_middle
  refine ⟨fun X M w vs hg ha => ?_⟩
  refine Calls.mono ((h (a ++ c)).run X M w vs (hg.perm hp) ha) ?_
  rintro e' w' ⟨M', σ', r, v, hm, hg', hr, he, v', h3, h4⟩
  refine ⟨M', F v', r, v, hm, hg'.perm ?_, hr, he, v', h3, rfl⟩
  obtain ⟨a', c', k1, k2⟩ := (hu v').split
  rw [h4, k2]
  have h5 : (e :: (a ++ c)).Perm (e :: (a' ++ c')) := by
    have : (a ++ e :: c).Perm (a' ++ e :: c') := by rw [← h1, ← k1]
    exact List.perm_middle.symm.trans (this.trans List.perm_middle)
  exact ((h5.cons_inv).cons (E v')).trans List.perm_middle.symm
set_option maxHeartbeats 4000000 in
theorem formedI_c (n : Int) (σ : List Ent) : SCall Tryz.prog 162 [.agg (itC n)] σ (Is (.tup [.int .i64 0, .bool true]) σ) := by
  refine scall_of Tryz.func162 rfl (by simp) ?_
  refine zX (zZ ?_); refine zE rfl rfl rfl (g_box rfl rfl) ?_; intro _; refine xAs rfl rfl rfl rfl ?_; refine xAs rfl rfl rfl rfl ?_; refine zY ?_; refine zX (zZ ?_); refine xFa rfl rfl rfl rfl rfl rfl ?_; refine xLd rfl rfl rfl rfl rfl (.p (by (repeat first | exact q_h | apply q_t | assumption); done) rfl) ?_; apply zV; rfl; rfl; rfl; (exact g_eqlStr (q := true) rfl rfl rfl (beq_self_eq_true _)); refine xMv rfl rfl rfl rfl ?_; refine yFa rfl rfl rfl rfl rfl rfl rfl ?_; refine yLd rfl rfl rfl rfl rfl rfl (.p (by (repeat first | exact q_h | apply q_t | assumption); done) rfl) ?_; apply exl_isW; rfl; (rfl); rfl; rfl; (apply g_len; rfl; rfl; (exact .inr ⟨rfl, rfl⟩)); refine yBi rfl rfl rfl rfl rfl rfl rfl ?_; intro _ _; refine xPt rfl rfl rfl rfl rfl rfl ?_; refine xFa rfl rfl rfl rfl rfl rfl ?_; refine xLd rfl rfl rfl rfl rfl (.p (by (repeat first | exact q_h | apply q_t | assumption); done) rfl) ?_; refine xBi rfl rfl rfl rfl rfl rfl ?_; intro _ _; refine xMv rfl rfl rfl rfl ?_; refine zA rfl (fun h => ?_) (fun h => ?_) <;> ((first | (subst h; rename BV _ true => g; have h := g.eq; clear g) | (subst h; rename BV _ false => g; have h := g.eq; clear g) | skip); (have hp := h; try simp only [q_n] at hp); (try (exfalso; first | omega | (cases hp; done))));
  refine yFa rfl rfl rfl rfl rfl rfl rfl ?_; refine yLd rfl rfl rfl rfl rfl rfl (.p (by (repeat first | exact q_h | apply q_t | assumption); done) rfl) ?_; apply exl_isW; rfl; (rfl); rfl; rfl; (apply g_len; rfl; rfl; (exact .inr ⟨rfl, rfl⟩)); refine yBi rfl rfl rfl rfl rfl rfl rfl ?_; intro _ _; refine xPt rfl rfl rfl rfl rfl rfl ?_; refine xFa rfl rfl rfl rfl rfl rfl ?_; refine xLd rfl rfl rfl rfl rfl (.p (by (repeat first | exact q_h | apply q_t | assumption); done) rfl) ?_; refine xBi rfl rfl rfl rfl rfl rfl ?_; intro _ _; refine xMv rfl rfl rfl rfl ?_; refine zA rfl (fun h => ?_) (fun h => ?_) <;> ((first | (subst h; rename BV _ true => g; have h := g.eq; clear g) | (subst h; rename BV _ false => g; have h := g.eq; clear g) | skip); (have hp := h; try simp only [q_n] at hp); (try (exfalso; first | omega | (cases hp; done))));
  refine yFa rfl rfl rfl rfl rfl rfl rfl ?_; refine yLd rfl rfl rfl rfl rfl rfl (.p (by (repeat first | exact q_h | apply q_t | assumption); done) rfl) ?_; apply exl_isW; rfl; (rfl); rfl; rfl; (exact g_eqlStr (q := true) rfl rfl rfl (beq_self_eq_true _)); refine xPt rfl rfl rfl rfl rfl rfl ?_; apply zV; rfl; rfl; rfl; (apply g_buildArr; rfl; rfl; rfl; rfl); refine zE rfl rfl rfl (g_alloc rfl) ?_; intro _; apply yY; rfl; rfl; (apply zL; rfl; rfl; rfl; (exact Upd.here); (simp only [setL, q_z, AV.cells]; rfl); rfl; rfl; rfl; exact q_b rfl); refine zY ?_; refine zX ?_; refine zX (zZ ?_); refine xFa rfl rfl rfl rfl rfl rfl ?_; refine xLd rfl rfl rfl rfl rfl (.p (by (repeat first | exact q_h | apply q_t | assumption); done) rfl) ?_; refine xBi rfl rfl rfl rfl rfl rfl ?_; intro _ _; refine xMv rfl rfl rfl rfl ?_; refine zA rfl (fun h => ?_) (fun h => ?_) <;> ((first | (subst h; rename BV _ true => g; have h := g.eq; clear g) | (subst h; rename BV _ false => g; have h := g.eq; clear g) | skip); (have hp := h; try simp only [q_n] at hp); (try (exfalso; first | omega | (cases hp; done))));
  refine yFa rfl rfl rfl rfl rfl rfl rfl ?_; refine yLd rfl rfl rfl rfl rfl rfl (.p (by (repeat first | exact q_h | apply q_t | assumption); done) rfl) ?_; refine yBi rfl rfl rfl rfl rfl rfl rfl ?_; intro _ _; refine xPf rfl rfl rfl rfl rfl rfl ?_; refine xMv rfl rfl rfl rfl ?_; refine zA rfl (fun h => ?_) (fun h => ?_) <;> ((first | (subst h; rename BV _ true => g; have h := g.eq; clear g) | (subst h; rename BV _ false => g; have h := g.eq; clear g) | skip); (have hp := h; try simp only [q_n] at hp); (try (exfalso; first | omega | (cases hp; done))));
  refine yFa rfl rfl rfl rfl rfl rfl rfl ?_; refine yLd rfl rfl rfl rfl rfl rfl (.p (by (repeat first | exact q_h | apply q_t | assumption); done) rfl) ?_; apply exl_isW; rfl; (rfl); rfl; rfl; (apply g_indexArr; rfl; rfl; rfl; (exact (rfl : (1:Int) = ((1:Nat):Int))); (exact q_b rfl); rfl); refine yLd rfl rfl rfl rfl rfl rfl (.p (by (repeat first | exact q_h | apply q_t | assumption); done) rfl) ?_; apply exl_isBW; rfl; (rfl); rfl; rfl; (apply g_not; rfl); intro _ _; refine xPf rfl rfl rfl rfl rfl rfl ?_; refine zY ?_; refine zU rfl (fun h => ?_) (fun h => ?_) <;> ((first | (subst h; rename BV _ true => g; have h := g.eq; clear g) | (subst h; rename BV _ false => g; have h := g.eq; clear g) | skip); (have hp := h; try simp only [q_n] at hp); (try (exfalso; first | omega | (cases hp; done))));
  refine zX (zZ ?_); refine xAs rfl rfl rfl rfl ?_; refine xAs rfl rfl rfl rfl ?_; refine zY ?_; refine yV ?_; simp only [zD, zK, zJ, zT, retA, ↓reduceIte, Nat.reduceEqDiff]; rotate_left; refine zG ?_; refine zX ?_; refine zX (zZ ?_); refine xFa rfl rfl rfl rfl rfl rfl ?_; refine xLd rfl rfl rfl rfl rfl (.p (by (repeat first | exact q_h | apply q_t | assumption); done) rfl) ?_; refine xBi rfl rfl rfl rfl rfl rfl ?_; intro _ _; refine zY ?_; refine zU rfl (fun h => ?_) (fun h => ?_) <;> ((first | (subst h; rename BV _ true => g; have h := g.eq; clear g) | (subst h; rename BV _ false => g; have h := g.eq; clear g) | skip); (have hp := h; try simp only [q_n] at hp); (try (exfalso; first | omega | (cases hp; done))));
  refine zX (zZ ?_); refine xAs rfl rfl rfl rfl ?_; refine xAs rfl rfl rfl rfl ?_; refine zY ?_; refine yV ?_; simp only [zD, zK, zJ, zT, retA, ↓reduceIte, Nat.reduceEqDiff]; rotate_left; refine zW rfl rfl rfl rfl ?_; refine zW rfl rfl rfl rfl ?_; refine zW rfl rfl rfl rfl ?_; refine zW rfl rfl rfl rfl ?_; refine xPf rfl rfl rfl rfl rfl rfl ?_; refine xFa rfl rfl rfl rfl rfl rfl ?_; refine xLd rfl rfl rfl rfl rfl (.p (by (repeat first | exact q_h | apply q_t | assumption); done) rfl) ?_; refine xBi rfl rfl rfl rfl rfl rfl ?_; intro _ _; refine xMv rfl rfl rfl rfl ?_; refine zA rfl (fun h => ?_) (fun h => ?_) <;> ((first | (subst h; rename BV _ true => g; have h := g.eq; clear g) | (subst h; rename BV _ false => g; have h := g.eq; clear g) | skip); (have hp := h; try simp only [q_n] at hp); (try (exfalso; first | omega | (cases hp; done))));
  refine zW rfl rfl rfl rfl ?_; refine zW rfl rfl rfl rfl ?_; refine zW rfl rfl rfl rfl ?_; refine xPf rfl rfl rfl rfl rfl rfl ?_; apply zV; rfl; rfl; rfl; (apply g_buildArr; rfl; rfl; rfl; rfl); refine zE rfl rfl rfl (g_alloc rfl) ?_; intro _; apply yY; rfl; rfl; (apply zL; rfl; rfl; rfl; (exact Upd.here); (simp only [setL, q_z, AV.cells]; rfl); rfl; rfl; rfl; exact q_b rfl); refine zY ?_; refine zX ?_; refine zX (zZ ?_); refine xFa rfl rfl rfl rfl rfl rfl ?_; refine xLd rfl rfl rfl rfl rfl (.p (by (repeat first | exact q_h | apply q_t | assumption); done) rfl) ?_; refine xBi rfl rfl rfl rfl rfl rfl ?_; intro _ _; refine xMv rfl rfl rfl rfl ?_; refine zA rfl (fun h => ?_) (fun h => ?_) <;> ((first | (subst h; rename BV _ true => g; have h := g.eq; clear g) | (subst h; rename BV _ false => g; have h := g.eq; clear g) | skip); (have hp := h; try simp only [q_n] at hp); (try (exfalso; first | omega | (cases hp; done))));
  refine yFa rfl rfl rfl rfl rfl rfl rfl ?_; refine yLd rfl rfl rfl rfl rfl rfl (.p (by (repeat first | exact q_h | apply q_t | assumption); done) rfl) ?_; refine yBi rfl rfl rfl rfl rfl rfl rfl ?_; intro _ _; refine xPf rfl rfl rfl rfl rfl rfl ?_; refine xMv rfl rfl rfl rfl ?_; refine zA rfl (fun h => ?_) (fun h => ?_) <;> ((first | (subst h; rename BV _ true => g; have h := g.eq; clear g) | (subst h; rename BV _ false => g; have h := g.eq; clear g) | skip); (have hp := h; try simp only [q_n] at hp); (try (exfalso; first | omega | (cases hp; done))));
  refine yFa rfl rfl rfl rfl rfl rfl rfl ?_; refine yLd rfl rfl rfl rfl rfl rfl (.p (by (repeat first | exact q_h | apply q_t | assumption); done) rfl) ?_; apply exl_isW; rfl; (rfl); rfl; rfl; (apply g_indexArr; rfl; rfl; rfl; (exact (rfl : (1:Int) = ((1:Nat):Int))); (exact q_b rfl); rfl); refine yLd rfl rfl rfl rfl rfl rfl (.p (by (repeat first | exact q_h | apply q_t | assumption); done) rfl) ?_; apply exl_isBW; rfl; (rfl); rfl; rfl; (apply g_not; rfl); intro _ _; refine xPf rfl rfl rfl rfl rfl rfl ?_; refine zY ?_; refine zU rfl (fun h => ?_) (fun h => ?_) <;> ((first | (subst h; rename BV _ true => g; have h := g.eq; clear g) | (subst h; rename BV _ false => g; have h := g.eq; clear g) | skip); (have hp := h; try simp only [q_n] at hp); (try (exfalso; first | omega | (cases hp; done))));
  refine zX (zZ ?_); refine xAs rfl rfl rfl rfl ?_; refine xAs rfl rfl rfl rfl ?_; refine zY ?_; refine yV ?_; simp only [zD, zK, zJ, zT, retA, ↓reduceIte, Nat.reduceEqDiff]; rotate_left; refine zG ?_; refine zX ?_; refine zX (zZ ?_); refine xFa rfl rfl rfl rfl rfl rfl ?_; refine xLd rfl rfl rfl rfl rfl (.p (by (repeat first | exact q_h | apply q_t | assumption); done) rfl) ?_; refine xBi rfl rfl rfl rfl rfl rfl ?_; intro _ _; refine zY ?_; refine zU rfl (fun h => ?_) (fun h => ?_) <;> ((first | (subst h; rename BV _ true => g; have h := g.eq; clear g) | (subst h; rename BV _ false => g; have h := g.eq; clear g) | skip); (have hp := h; try simp only [q_n] at hp); (try (exfalso; first | omega | (cases hp; done))));
  refine zX (zZ ?_); refine xAs rfl rfl rfl rfl ?_; refine xAs rfl rfl rfl rfl ?_; refine zY ?_; refine yV ?_; simp only [zD, zK, zJ, zT, retA, ↓reduceIte, Nat.reduceEqDiff]; rotate_left
  (all_goals (repeat (rename BV _ _ => hbv; cases hbv)))
  all_goals (try (first | cases ‹true = false› | cases ‹false = true›))
  all_goals
    refine ret_is .nil (.cons (.ofTmp rfl) (.cons (.ofTmp rfl) .nil)) (by repeat (first | exact q_r | apply q_q | apply q_k | exact q_a)) ?_
    rfl
set_option maxHeartbeats 4000000 in
theorem formedL_c (ns : List Int) (σ : List Ent) : SCall Tryz.prog 162 [.agg (lvC ns)] σ (Is (.tup [.int .i64 1, .bool true]) σ) := by
  refine scall_of Tryz.func162 rfl (by simp) ?_
  have h3 : (3 : Int) = ((3 : Nat) : Int) := rfl
  refine zX (zZ ?_); refine zE rfl rfl rfl (g_box rfl rfl) ?_; intro _; refine xAs rfl rfl rfl rfl ?_; refine xAs rfl rfl rfl rfl ?_; refine zY ?_; refine zX (zZ ?_); refine xFa rfl rfl rfl rfl rfl rfl ?_; refine xLd rfl rfl rfl rfl rfl (.p (by (repeat first | exact q_h | apply q_t | assumption); done) rfl) ?_; apply zV; rfl; rfl; rfl; (exact g_eqlStr (q := true) rfl rfl rfl (beq_self_eq_true _)); refine xMv rfl rfl rfl rfl ?_; refine yFa rfl rfl rfl rfl rfl rfl rfl ?_; refine yLd rfl rfl rfl rfl rfl rfl (.p (by (repeat first | exact q_h | apply q_t | assumption); done) rfl) ?_; apply exl_isW; rfl; (rfl); rfl; rfl; (apply g_len; rfl; rfl; (exact (List.length_map _).symm)); refine yBi rfl rfl rfl rfl rfl rfl rfl ?_; intro _ _; refine xPt rfl rfl rfl rfl rfl rfl ?_; refine xFa rfl rfl rfl rfl rfl rfl ?_; refine xLd rfl rfl rfl rfl rfl (.p (by (repeat first | exact q_h | apply q_t | assumption); done) rfl) ?_; refine xBi rfl rfl rfl rfl rfl rfl ?_; intro _ _; refine xMv rfl rfl rfl rfl ?_; refine zA rfl (fun h => ?_) (fun h => ?_) <;> ((first | (subst h; rename BV _ true => g; have h := g.eq; clear g) | (subst h; rename BV _ false => g; have h := g.eq; clear g) | skip); (have hp := h; try simp only [q_n] at hp); (try (exfalso; first | omega | (cases hp; done))));
  refine yFa rfl rfl rfl rfl rfl rfl rfl ?_; refine yLd rfl rfl rfl rfl rfl rfl (.p (by (repeat first | exact q_h | apply q_t | assumption); done) rfl) ?_; apply exl_isW; rfl; (rfl); rfl; rfl; (apply g_len; rfl; rfl; (exact (List.length_map _).symm)); refine yBi rfl rfl rfl rfl rfl rfl rfl ?_; intro _ _; refine xPt rfl rfl rfl rfl rfl rfl ?_; refine xFa rfl rfl rfl rfl rfl rfl ?_; refine xLd rfl rfl rfl rfl rfl (.p (by (repeat first | exact q_h | apply q_t | assumption); done) rfl) ?_; refine xBi rfl rfl rfl rfl rfl rfl ?_; intro _ _; refine xMv rfl rfl rfl rfl ?_; refine zA rfl (fun h => ?_) (fun h => ?_) <;> ((first | (subst h; rename BV _ true => g; have h := g.eq; clear g) | (subst h; rename BV _ false => g; have h := g.eq; clear g) | skip); (have hp := h; try simp only [q_n] at hp); (try (exfalso; first | omega | (cases hp; done))));
  refine yFa rfl rfl rfl rfl rfl rfl rfl ?_; refine yLd rfl rfl rfl rfl rfl rfl (.p (by (repeat first | exact q_h | apply q_t | assumption); done) rfl) ?_; apply exl_isW; rfl; (rfl); rfl; rfl; (exact g_eqlStr (q := true) rfl rfl rfl (beq_self_eq_true _)); refine xPt rfl rfl rfl rfl rfl rfl ?_; apply zV; rfl; rfl; rfl; (apply g_buildArr; rfl; rfl; rfl; rfl); refine zE rfl rfl rfl (g_alloc rfl) ?_; intro _; apply yY; rfl; rfl; (apply zL; rfl; rfl; rfl; (exact Upd.here); (simp only [setL, q_z, AV.cells]; rfl); rfl; rfl; rfl; exact q_b rfl); refine zY ?_; refine zX ?_; refine zX (zZ ?_); refine xFa rfl rfl rfl rfl rfl rfl ?_; refine xLd rfl rfl rfl rfl rfl (.p (by (repeat first | exact q_h | apply q_t | assumption); done) rfl) ?_; refine xBi rfl rfl rfl rfl rfl rfl ?_; intro _ _; refine xMv rfl rfl rfl rfl ?_; refine zA rfl (fun h => ?_) (fun h => ?_) <;> ((first | (subst h; rename BV _ true => g; have h := g.eq; clear g) | (subst h; rename BV _ false => g; have h := g.eq; clear g) | skip); (have hp := h; try simp only [q_n] at hp); (try (exfalso; first | omega | (cases hp; done))));
  refine yFa rfl rfl rfl rfl rfl rfl rfl ?_; refine yLd rfl rfl rfl rfl rfl rfl (.p (by (repeat first | exact q_h | apply q_t | assumption); done) rfl) ?_; refine yBi rfl rfl rfl rfl rfl rfl rfl ?_; intro _ _; refine xPf rfl rfl rfl rfl rfl rfl ?_; refine xMv rfl rfl rfl rfl ?_; refine zA rfl (fun h => ?_) (fun h => ?_) <;> ((first | (subst h; rename BV _ true => g; have h := g.eq; clear g) | (subst h; rename BV _ false => g; have h := g.eq; clear g) | skip); (have hp := h; try simp only [q_n] at hp); (try (exfalso; first | omega | (cases hp; done))));
  refine yFa rfl rfl rfl rfl rfl rfl rfl ?_; refine yLd rfl rfl rfl rfl rfl rfl (.p (by (repeat first | exact q_h | apply q_t | assumption); done) rfl) ?_; apply exl_isW; rfl; (rfl); rfl; rfl; (apply g_indexArr; rfl; rfl; rfl; (rfl); (exact q_b rfl); rfl); refine yLd rfl rfl rfl rfl rfl rfl (.p (by (repeat first | exact q_h | apply q_t | assumption); done) rfl) ?_; apply exl_isBW; rfl; (rfl); rfl; rfl; (apply g_not; rfl); intro _ _; refine xPf rfl rfl rfl rfl rfl rfl ?_; refine zY ?_; refine zU rfl (fun h => ?_) (fun h => ?_) <;> ((first | (subst h; rename BV _ true => g; have h := g.eq; clear g) | (subst h; rename BV _ false => g; have h := g.eq; clear g) | skip); (have hp := h; try simp only [q_n] at hp); (try (exfalso; first | omega | (cases hp; done))));
  refine zG ?_; refine zX ?_; refine zX (zZ ?_); refine xFa rfl rfl rfl rfl rfl rfl ?_; refine xLd rfl rfl rfl rfl rfl (.p (by (repeat first | exact q_h | apply q_t | assumption); done) rfl) ?_; refine xBi rfl rfl rfl rfl rfl rfl ?_; intro _ _; refine zY ?_; refine zU rfl (fun h => ?_) (fun h => ?_) <;> ((first | (subst h; rename BV _ true => g; have h := g.eq; clear g) | (subst h; rename BV _ false => g; have h := g.eq; clear g) | skip); (have hp := h; try simp only [q_n] at hp); (try (exfalso; first | omega | (cases hp; done))));
  refine zG ?_; refine zX ?_; refine zX (zZ ?_); refine xFa rfl rfl rfl rfl rfl rfl ?_; refine xLd rfl rfl rfl rfl rfl (.p (by (repeat first | exact q_h | apply q_t | assumption); done) rfl) ?_; apply zV; rfl; rfl; rfl; (apply g_len; rfl; rfl; (exact (List.length_map _).symm)); refine xMv rfl rfl rfl rfl ?_; refine zY ?_; refine yZ ?_; simp only [zD, zK, zJ, zT, retA, ↓reduceIte, Nat.reduceEqDiff]; rotate_left
  (all_goals (repeat (rename BV _ _ => hbv; cases hbv)))
  all_goals (try (first | cases ‹true = false› | cases ‹false = true›))
  all_goals
    refine ex_len (t := 55) rfl ((List.length_map _).symm) (fun hlen => ?_)
    refine ex_loop (fun (k : Nat) => (⟨[(2, .int .i64 0), (55, .dl 4 (ns.map itC)), (56, .int .i64 ns.length), (57, .int .i64 k)], σ, [], Tryz.f162.ntmps⟩ : St)) (fun k => k ≤ ns.length) (fun k => ns.length - k) 0 (Nat.zero_le _) (St.le_of (by repeat (first | exact trivial | refine ⟨rfl, ?_⟩)) (by repeat (first | exact q_r | apply q_q | apply q_k))) ?_
    intro k hI
    by_cases hk : k < ns.length
    · obtain ⟨c, hc⟩ : ∃ c, ns[k]? = some c := get_some hk
      have hgc := it_get hc
      refine zX (zZ ?_); refine xBi rfl rfl rfl rfl rfl rfl ?_; intro _ _; refine zY ?_; refine zX ?_; refine zU rfl (fun h => ?_) (fun h => ?_) <;> ((first | (subst h; rename BV _ true => g; have h := g.eq; clear g) | (subst h; rename BV _ false => g; have h := g.eq; clear g) | skip); (have hp := h; try simp only [q_n] at hp); (try (exfalso; first | omega | (cases hp; done))));
      refine zG ?_; refine zX ?_; refine yZ ?_; refine zX (zZ ?_); apply zV; rfl; rfl; rfl; (apply g_indexDl; rfl; rfl; rfl; (rfl); (assumption)); apply zV; rfl; rfl; rfl; (apply zB; rfl; decide; rfl; (exact .e rfl rfl)); refine zE rfl rfl rfl (g_alloc rfl) ?_; intro _; apply yY; rfl; rfl; (apply zL; rfl; rfl; rfl; (exact Upd.here); (simp only [setL, q_z, AV.cells]; rfl); rfl; rfl; rfl; exact q_b rfl); refine zY ?_; refine zX (zZ ?_); refine xLa rfl rfl rfl rfl (by decide) rfl (.p (by (repeat first | exact q_h | apply q_t | assumption); done) rfl rfl) ?_; apply zV; rfl; rfl; rfl; (refine yX rfl rfl (zQ (by kernel_rfl)) ?_; exact formedI_c _ _); refine xMv rfl rfl rfl rfl ?_; apply zV; rfl; rfl; rfl; (apply yW; rfl; rfl); apply zV; rfl; rfl; rfl; (apply yW; rfl; rfl); refine xAs rfl rfl rfl rfl ?_; refine xAs rfl rfl rfl rfl ?_; refine zY ?_; refine zX ?_; refine zX (zZ ?_); refine xMv rfl rfl rfl rfl ?_; apply exl_isB; rfl; rfl; rfl; (apply g_not; rfl); intro _ _; refine zY ?_; refine zU rfl (fun h => ?_) (fun h => ?_) <;> ((first | (subst h; rename BV _ true => g; have h := g.eq; clear g) | (subst h; rename BV _ false => g; have h := g.eq; clear g) | skip); (have hp := h; try simp only [q_n] at hp); (try (exfalso; first | omega | (cases hp; done))));
      refine zG ?_; refine zZ ?_; refine xMv rfl rfl rfl rfl ?_; refine xMv rfl rfl rfl rfl ?_; apply zV; rfl; rfl; rfl; (apply g_max; rfl; rfl); refine xAs rfl rfl rfl rfl ?_; refine zC ?_; refine zZ ?_; apply zV; rfl; rfl; rfl; (apply g_add; rfl; rfl; rfl; exact ⟨by omega, by omega⟩); refine xMv rfl rfl rfl rfl ?_; refine zC ?_; simp only [zD, zK, zJ, zT, retA, ↓reduceIte, Nat.reduceEqDiff]; rotate_left
      (all_goals (repeat (rename BV _ _ => hbv; cases hbv)))
      all_goals (try (first | cases ‹true = false› | cases ‹false = true›))
      refine ⟨k + 1, hk, by omega, ?_⟩
      exact (St.le_of (by repeat (first | exact trivial | refine ⟨rfl, ?_⟩)) (by repeat (first | exact q_r | apply q_q | apply q_k | exact q_a)))
    · refine zX (zZ ?_); refine xBi rfl rfl rfl rfl rfl rfl ?_; intro _ _; refine zY ?_; refine zX ?_; refine zU rfl (fun h => ?_) (fun h => ?_) <;> ((first | (subst h; rename BV _ true => g; have h := g.eq; clear g) | (subst h; rename BV _ false => g; have h := g.eq; clear g) | skip); (have hp := h; try simp only [q_n] at hp); (try (exfalso; first | omega | (cases hp; done))));
      refine ex_exit ?_; refine zX (zZ ?_); refine xMv rfl rfl rfl rfl ?_; apply zV; rfl; rfl; rfl; (apply g_add; rfl; rfl; rfl; exact ⟨by omega, by omega⟩); refine xAs rfl rfl rfl rfl ?_; refine xAs rfl rfl rfl rfl ?_; refine zY ?_; refine yV ?_; simp only [zD, zK, zJ, zT, retA, ↓reduceIte, Nat.reduceEqDiff]; rotate_left
      (all_goals (repeat (rename BV _ _ => hbv; cases hbv)))
      all_goals (try (first | cases ‹true = false› | cases ‹false = true›))
      refine ret_is .nil (.cons (.ofTmp rfl) (.cons (.ofTmp rfl) .nil)) (by repeat (first | exact q_r | apply q_q | apply q_k | exact q_a)) ?_
      rfl
theorem checkV_c (ns : List Int) (σ : List Ent) : SCall Tryz.prog 149 [.agg (lvC ns)] σ (Is (.int .i64 0) σ) := by
  refine scall_of Tryz.func149 rfl (by simp) ?_
  refine zX (zZ ?_); refine zE rfl rfl rfl (g_box rfl rfl) ?_; intro _; refine xAs rfl rfl rfl rfl ?_; refine zY ?_; refine zX (zZ ?_); refine xLa rfl rfl rfl rfl (by decide) rfl (.p (by (repeat first | exact q_h | apply q_t | assumption); done) rfl rfl) ?_; apply zV; rfl; rfl; rfl; (refine yX rfl rfl (zQ (by kernel_rfl)) ?_; exact formedL_c _ _); refine xMv rfl rfl rfl rfl ?_; apply zV; rfl; rfl; rfl; (apply yW; rfl; rfl); apply zV; rfl; rfl; rfl; (apply yW; rfl; rfl); refine xAs rfl rfl rfl rfl ?_; refine xAs rfl rfl rfl rfl ?_; refine zY ?_; refine zX ?_; refine yZ ?_; refine zX (zZ ?_); refine xMv rfl rfl rfl rfl ?_; apply exl_isB; rfl; rfl; rfl; (apply g_not; rfl); intro _ _; refine xAs rfl rfl rfl rfl ?_; refine zY ?_; refine zU rfl (fun h => ?_) (fun h => ?_) <;> ((first | (subst h; rename BV _ true => g; have h := g.eq; clear g) | (subst h; rename BV _ false => g; have h := g.eq; clear g) | skip); (have hp := h; try simp only [q_n] at hp); (try (exfalso; first | omega | (cases hp; done))));
  refine zX (zZ ?_); refine xMv rfl rfl rfl rfl ?_; refine xBi rfl rfl rfl rfl rfl rfl ?_; intro _ _; refine xAs rfl rfl rfl rfl ?_; refine zY ?_; refine zU rfl (fun h => ?_) (fun h => ?_) <;> ((first | (subst h; rename BV _ true => g; have h := g.eq; clear g) | (subst h; rename BV _ false => g; have h := g.eq; clear g) | skip); (have hp := h; try simp only [q_n] at hp); (try (exfalso; first | omega | (cases hp; done))));
  refine zG ?_; refine zX (zZ ?_); refine xAs rfl rfl rfl rfl ?_; refine zY ?_; refine yV ?_; simp only [zD, zK, zJ, zT, retA, ↓reduceIte, Nat.reduceEqDiff]; rotate_left
  (all_goals (repeat (rename BV _ _ => hbv; cases hbv)))
  all_goals (try (first | cases ‹true = false› | cases ‹false = true›))
  refine ret_is .nil (.cons (.ofTmp rfl) .nil) (by repeat (first | exact q_r | apply q_q | apply q_k | exact q_a)) ?_
  rfl
theorem rowB_snoc (v : Value) (C : List Nat) (w : Nat) : rowB v (C ++ [w]) = .row v 5 1 (C.map b8C ++ [b8C w]) := by simp [rowB]
theorem or128 (u : Nat) : (u % 256) ||| 128 = u % 128 + 128 := by
  have h : ∀ x, x < 256 → x ||| 128 = x % 128 + 128 := by decide
  rw [h _ (Nat.mod_lt _ (by omega))]; omega
set_option maxHeartbeats 4000000 in
theorem numeral0_c (B : List Nat) (u : Nat) (hu : u < 9223372036854775808) (hB : B.length ≤ 100000) (v : Value) (σ : List Ent) :
    SCall Tryz.prog 164 [.slv v, .int .u64 u] (rowB v B :: σ) (fun r τ => ∃ v', r = .slv v' ∧ τ = rowB v' (B ++ numL u) :: σ) := by
  refine scall_of Tryz.func164 rfl (by simp) ?_
  refine zX (zZ ?_); refine xAs rfl rfl rfl rfl ?_; refine zY ?_; refine zX ?_; refine yZ ?_; rotate_left
  (all_goals (repeat (rename BV _ _ => hbv; cases hbv)))
  all_goals (try (first | cases ‹true = false› | cases ‹false = true›))
  refine ex_loop (fun (z : List Nat × Nat × Value) => (⟨[(0, .slv z.2.2), (1, .int .u64 z.2.1)], rowB z.2.2 z.1 :: σ, [], Tryz.f164.ntmps⟩ : St)) (fun z => z.1 ++ numL z.2.1 = B ++ numL u ∧ z.2.1 < 9223372036854775808 ∧ z.1.length + (numL z.2.1).length ≤ 100010) (fun z => z.2.1) (B, u, v) (⟨rfl, hu, by have := numL_len (k := 8) (u := u) (by omega); dsimp only; omega⟩) (St.le_of (by repeat (first | exact trivial | refine ⟨rfl, ?_⟩)) (by repeat (first | exact q_r | apply q_q | apply q_k))) ?_
  intro z hI
  obtain ⟨C, w, x⟩ := z
  obtain ⟨hI1, hI2, hI3⟩ := hI
  dsimp only at hI1 hI2 hI3 ⊢
  clear hu hB
  by_cases hw : w < 128
  · rw [numL_lo hw] at hI1 hI3
    rw [← hI1]
    have h8 : IntKind.u8.wrap (w : Int) = (w : Int) := wrapU8 (by omega)
    simp only [List.length_singleton] at hI3
    refine zX ?_; refine zX (zZ ?_); refine xMv rfl rfl rfl rfl ?_; refine xBi rfl rfl rfl rfl rfl rfl ?_; intro _ _; refine zY ?_; refine zU rfl (fun h => ?_) (fun h => ?_) <;> ((first | (subst h; rename BV _ true => g; have h := g.eq; clear g) | (subst h; rename BV _ false => g; have h := g.eq; clear g) | skip); (have hp := h; try simp only [q_n] at hp); (try (exfalso; first | omega | (cases hp; done))));
    refine ex_exit ?_; refine zX (zZ ?_); refine xMv rfl rfl rfl rfl ?_; refine xMv rfl rfl rfl rfl ?_; apply zV; rfl; rfl; rfl; (exact g_conv rfl rfl rfl h8); refine exl_row rfl rfl rfl (by exact g_buildSlice rfl rfl (by decide) rfl rfl (by (simp only [chunkN, List.take_succ_cons, List.take_zero, List.drop_succ_cons, List.drop_zero]; rfl))) ?_; intro _; apply exl_grew; rfl; rfl; rfl; (apply g_append; rfl; rfl; rfl; (intro v'; (exact Upd.there (Upd.here))); (exact .r (by (repeat first | exact q_h | apply q_t | assumption); done)); (intro y hy; simp only [List.mem_map, List.mem_cons, List.not_mem_nil, or_false, List.mem_append] at hy; (focus (obtain ⟨_, _, rfl⟩ := hy; rfl; done))); (refine app_ok ?_ (by kernel_rfl); (try simp only [List.length_append, List.length_map, List.length_cons, List.length_nil, List.length_take, List.length_drop]); omega)); intro _; refine xAs rfl rfl rfl rfl ?_; refine zY ?_; refine yV ?_; simp only [zD, zK, zJ, zT, retA, ↓reduceIte, Nat.reduceEqDiff]; rotate_left
    (all_goals (repeat (rename BV _ _ => hbv; cases hbv)))
    all_goals (try (first | cases ‹true = false› | cases ‹false = true›))
    rename Value => v2
    refine ret_q (σ3 := .row v2 5 1 (C.map b8C ++ [b8C w]) :: σ) .nil (.cons (.ofTmp rfl) .nil) (by repeat (first | exact q_r | apply q_q | apply q_k | exact q_a)) ?_
    exact fin_done ⟨v2, rfl, by rw [rowB_snoc]⟩
  · rw [numL_hi hw] at hI1 hI3
    have h8 : IntKind.u8.wrap (w : Int) = ((w % 256 : Nat) : Int) := by rw [IntKind.wrap_u8]; omega
    have h128 : (128 : Int) = ((128 : Nat) : Int) := rfl
    have h7 : (7 : Int) = ((7 : Nat) : Int) := rfl
    rw [List.length_cons] at hI3
    have hnx : (C ++ [w % 128 + 128]) ++ numL (w / 128) = B ++ numL u := by rw [← hI1]; simp
    clear hI1
    refine zX ?_; refine zX (zZ ?_); refine xMv rfl rfl rfl rfl ?_; refine xBi rfl rfl rfl rfl rfl rfl ?_; intro _ _; refine zY ?_; refine zU rfl (fun h => ?_) (fun h => ?_) <;> ((first | (subst h; rename BV _ true => g; have h := g.eq; clear g) | (subst h; rename BV _ false => g; have h := g.eq; clear g) | skip); (have hp := h; try simp only [q_n] at hp); (try (exfalso; first | omega | (cases hp; done))));
    refine zG ?_; refine zX ?_; refine yZ ?_; refine zZ ?_; refine xMv rfl rfl rfl rfl ?_; refine xMv rfl rfl rfl rfl ?_; apply zV; rfl; rfl; rfl; (exact g_conv rfl rfl rfl h8); apply zV; rfl; rfl; rfl; (exact g_or8 rfl rfl rfl h128 (Nat.mod_lt _ (by omega)) (by omega) (or128 w)); refine exl_row rfl rfl rfl (by exact g_buildSlice rfl rfl (by decide) rfl rfl (by (simp only [chunkN, List.take_succ_cons, List.take_zero, List.drop_succ_cons, List.drop_zero]; rfl))) ?_; intro _; apply exl_grew; rfl; rfl; rfl; (apply g_append; rfl; rfl; rfl; (intro v'; (exact Upd.there (Upd.here))); (exact .r (by (repeat first | exact q_h | apply q_t | assumption); done)); (intro y hy; simp only [List.mem_map, List.mem_cons, List.not_mem_nil, or_false, List.mem_append] at hy; (focus (obtain ⟨_, _, rfl⟩ := hy; rfl; done))); (refine app_ok ?_ (by kernel_rfl); (try simp only [List.length_append, List.length_map, List.length_cons, List.length_nil, List.length_take, List.length_drop]); omega)); intro _; refine xAs rfl rfl rfl rfl ?_; refine zC ?_; refine zZ ?_; refine xMv rfl rfl rfl rfl ?_; apply zV; rfl; rfl; rfl; (exact g_shrU rfl rfl rfl h7 (by omega) (show w / 2 ^ 7 = w / 128 from rfl)); refine xAs rfl rfl rfl rfl ?_; refine zC ?_; simp only [zD, zK, zJ, zT, retA, ↓reduceIte, Nat.reduceEqDiff]; rotate_left
    (all_goals (repeat (rename BV _ _ => hbv; cases hbv)))
    all_goals (try (first | cases ‹true = false› | cases ‹false = true›))
    rename Value => v2
    refine ⟨(C ++ [w % 128 + 128], w / 128, v2), ⟨hnx, by dsimp only; omega, by simp; omega⟩, by dsimp only; omega, ?_⟩
    dsimp only
    rw [rowB_snoc]
    exact (St.le_of (by repeat (first | exact trivial | refine ⟨rfl, ?_⟩)) (by repeat (first | exact q_r | apply q_q | apply q_k | exact q_a)))
theorem unsigned_c (n : Nat) (hn : n ≤ 1073741824) (σ : List Ent) : SCall Tryz.prog 165 [.int .i64 n] σ (Is (.int .u64 ((2 * n : Nat) : Int)) σ) := by
  refine scall_of Tryz.func165 rfl (by simp) ?_
  have h1 : IntKind.u64.wrap (n : Int) = ((n : Nat) : Int) := wrapU64 (by omega)
  have h0 : IntKind.u64.wrap ((0 : Nat) : Int) = ((0 : Nat) : Int) := wrapU64 (by omega)
  have hone : (1 : Int) = ((1 : Nat) : Int) := rfl
  have h63 : (63 : Int) = ((63 : Nat) : Int) := rfl
  have hz : n / 2 ^ 63 = 0 := Nat.div_eq_of_lt (by omega)
  refine zX (zZ ?_); refine xAs rfl rfl rfl rfl ?_; refine zY ?_; refine zX (zZ ?_); refine xMv rfl rfl rfl rfl ?_; apply zV; rfl; rfl; rfl; (exact g_conv rfl rfl rfl h1); apply zV; rfl; rfl; rfl; (exact g_shlU rfl rfl rfl hone (by omega) (show n * 2 ^ 1 = 2 * n by omega) (by omega)); refine xMv rfl rfl rfl rfl ?_; apply zV; rfl; rfl; rfl; (exact g_shrI rfl rfl rfl h63 (by omega) hz); apply zV; rfl; rfl; rfl; (exact g_conv rfl rfl rfl h0); apply zV; rfl; rfl; rfl; (exact g_xorU rfl rfl rfl rfl (by omega) (by omega) (Nat.xor_zero _)); refine xAs rfl rfl rfl rfl ?_; refine zY ?_; refine yV ?_; simp only [zD, zK, zJ, zT, retA, ↓reduceIte, Nat.reduceEqDiff]; rotate_left
  (all_goals (repeat (rename BV _ _ => hbv; cases hbv)))
  all_goals (try (first | cases ‹true = false› | cases ‹false = true›))
  refine ret_is .nil (.cons (.ofTmp rfl) .nil) (by repeat (first | exact q_r | apply q_q | apply q_k | exact q_a)) ?_
  rfl
theorem numeral_c {B : List Nat} {u : Nat} {v : Value} {σ : List Ent} {F : Value → List Ent} (hu : u < 9223372036854775808) (hB : B.length ≤ 100000) (hF : ∀ v', Upd σ (rowB v B) (rowB v' (B ++ numL u)) (F v')) :
    SCall Tryz.prog 164 [.slv v, .int .u64 u] σ (fun r τ => ∃ v', r = .slv v' ∧ τ = F v') := scall_upd (fun σ0 => numeral0_c B u hu hB v σ0) hF
set_option maxHeartbeats 4000000 in
/-- A number is written. -/
theorem write1_c (B : List Nat) (n : Nat) (hn : n ≤ 1073741824) (hB : B.length ≤ 90000) (v : Value) (σ : List Ent) :
    SCall Tryz.prog 163 [.slv v, .agg (itC n)] (rowB v B :: σ) (fun r τ => ∃ v', r = .slv v' ∧ τ = rowB v' (B ++ itemL n) :: σ) := by
  refine scall_of Tryz.func163 rfl (by simp) ?_
  have hit : B ++ itemL n = (B ++ [1]) ++ numL (2 * n) := by unfold itemL; simp
  rw [hit]
  have h1 := rowB_snoc
  refine zX (zZ ?_); refine zE rfl rfl rfl (g_box rfl rfl) ?_; intro _; refine xAs rfl rfl rfl rfl ?_; refine zY ?_; refine zX ?_; rotate_left
  (all_goals (repeat (rename BV _ _ => hbv; cases hbv)))
  all_goals (try (first | cases ‹true = false› | cases ‹false = true›))
  rename Nat => b3
  refine ex_drawLO (fun e => e = .cells b3 (itC n) 160) 7 [0, 1, 3, 4, 2, 5, 6] [4, 6] rfl (by kernel_rfl) rfl (by kernel_rfl) rfl ?_
  simp only [pick, List.filterMap_cons, List.filterMap_nil, List.getElem?_cons_zero, List.getElem?_cons_succ, List.take_succ_cons, List.take_zero, List.drop_succ_cons, List.drop_zero]
  apply zR; rfl; rfl; rfl; (intro σ' hl; (apply zH; rfl)); apply zR; rfl; rfl; rfl; (intro σ' hl; (exact gop_sealed (g_buildSlice rfl rfl (by decide) rfl rfl (by (simp only [chunkN, List.take_succ_cons, List.take_zero, List.drop_succ_cons, List.drop_zero]; rfl))))); apply zR; rfl; rfl; rfl; (intro σ' hl; (apply zP; rfl; rfl; rfl)); apply zR; rfl; rfl; rfl; (intro σ' hl; (apply g_load1; rfl; rfl; (exact .p (hl _ (by (rfl)) (by (repeat first | exact q_h | apply q_t | assumption); done)) rfl))); refine wl_eff rfl rfl rfl (by apply g_append; rfl; rfl; rfl; (intro v'; (exact Upd.there (Upd.here))); (exact .d); (intro y hy; simp only [List.mem_map, List.mem_cons, List.not_mem_nil, or_false, List.mem_append] at hy; (focus (obtain ⟨_, _, rfl⟩ := hy; rfl; done))); (refine app_ok ?_ (by kernel_rfl); (try simp only [List.length_append, List.length_map, List.length_cons, List.length_nil, List.length_take, List.length_drop]); omega)) ?_; rintro _ _ ⟨v'⟩; refine ⟨(by (rintro _ (rfl | rfl) _ <;> exact (by (repeat first | exact q_h | apply q_t | assumption); done))), ?_⟩; apply zR; rfl; rfl; rfl; (intro σ' hl; (refine yX rfl rfl (zQ (by kernel_rfl)) ?_; exact unsigned_c n hn _)); refine wl_eff rfl rfl rfl (yX rfl rfl (zQ (by kernel_rfl)) (numeral_c (B := B ++ [1]) (u := 2 * n) (by omega) (by simp; omega) (fun v' => by rw [h1]; exact (by (exact Upd.there (Upd.here)))))) ?_; rintro _ _ ⟨v', rfl, rfl⟩; refine ⟨(by (rintro _ (rfl | rfl | rfl) _ <;> exact (by (repeat first | exact q_h | apply q_t | assumption); done))), ?_⟩; refine wl_nil ?_; refine xAs rfl rfl rfl rfl ?_; refine zY ?_; refine yV ?_; simp only [zD, zK, zJ, zT, retA, ↓reduceIte, Nat.reduceEqDiff]; rotate_left
  (all_goals (repeat (rename BV _ _ => hbv; cases hbv)))
  all_goals (try (first | cases ‹true = false› | cases ‹false = true›))
  refine ret_q (σ3 := rowB v' (B ++ [1] ++ numL (2 * n)) :: σ) .nil (.cons (.ofTmp rfl) .nil) (by repeat (first | exact q_r | apply q_q | apply q_k | exact q_a)) ?_
  exact fin_done ⟨v', rfl, rfl⟩
abbrev wrC (bx : Nat) : List AV := [.raw .nilFunc, .fn (.func 163) [] [], .fn (.func 166) [] [], .fn (.func 167) [] [.ptr bx 0]]
set_option maxHeartbeats 4000000 in
theorem newWriter_c (σ : List Ent) : SCall Tryz.prog 150 [] σ (fun r τ => ∃ bw bx, r = .ptr bw 0 ∧ τ = .cells bx [.ptr bw 0] 192 :: .cells bw (wrC bx) 206 :: σ) := by
  refine scall_of Tryz.func150 rfl (by simp) ?_
  have h3 : (3 : Int) = ((3 : Nat) : Int) := rfl
  refine zX (zZ ?_); refine xAs rfl rfl rfl rfl ?_; refine zY ?_; refine zX (zZ ?_); apply zV; rfl; rfl; rfl; (apply g_buildArr; rfl; rfl; rfl; rfl); refine zE rfl rfl rfl (g_box rfl rfl) ?_; intro _; refine zE rfl rfl rfl (g_alloc rfl) ?_; intro _; apply yY; rfl; rfl; (apply zL; rfl; rfl; rfl; (exact Upd.here); (simp only [setL, q_z, AV.cells]; rfl); rfl; rfl; rfl; exact q_b rfl); refine zY ?_; refine zX (zZ ?_); refine xLd rfl rfl rfl rfl rfl (.p (by (repeat first | exact q_h | apply q_t | assumption); done) rfl) ?_; apply zV; rfl; rfl; rfl; (apply g_nilCheck; rfl; rfl); apply zV; rfl; rfl; rfl; (apply g_indexArr; rfl; rfl; rfl; (exact (rfl : (1:Int) = ((1:Nat):Int))); (exact q_b rfl); rfl); refine xFa rfl rfl rfl rfl rfl rfl ?_; apply yY; rfl; rfl; (apply zL; rfl; rfl; rfl; (exact Upd.there (Upd.here)); (simp only [setL, q_z, AV.cells]; rfl); rfl; rfl; rfl; exact q_b rfl); refine zY ?_; refine zX (zZ ?_); refine xLd rfl rfl rfl rfl rfl (.p (by (repeat first | exact q_h | apply q_t | assumption); done) rfl) ?_; apply zV; rfl; rfl; rfl; (apply g_nilCheck; rfl; rfl); apply zV; rfl; rfl; rfl; (apply g_indexArr; rfl; rfl; rfl; (exact (rfl : (2:Int) = ((2:Nat):Int))); (exact q_b rfl); rfl); refine xFa rfl rfl rfl rfl rfl rfl ?_; apply yY; rfl; rfl; (apply zL; rfl; rfl; rfl; (exact Upd.there (Upd.here)); (simp only [setL, q_z, AV.cells]; rfl); rfl; rfl; rfl; exact q_b rfl); refine zY ?_; refine zX (zZ ?_); refine xLd rfl rfl rfl rfl rfl (.p (by (repeat first | exact q_h | apply q_t | assumption); done) rfl) ?_; apply zV; rfl; rfl; rfl; (apply g_makeFunc; rfl; rfl); apply zV; rfl; rfl; rfl; (apply g_nilCheck; rfl; rfl); apply zV; rfl; rfl; rfl; (apply g_indexArr; rfl; rfl; rfl; (rfl); (exact q_b rfl); rfl); refine xFa rfl rfl rfl rfl rfl rfl ?_; apply yY; rfl; rfl; (apply zL; rfl; rfl; rfl; (exact Upd.there (Upd.here)); (simp only [setL, q_z, AV.cells]; rfl); rfl; rfl; rfl; exact q_b rfl); refine zY ?_; refine zX (zZ ?_); refine xLd rfl rfl rfl rfl rfl (.p (by (repeat first | exact q_h | apply q_t | assumption); done) rfl) ?_; refine xAs rfl rfl rfl rfl ?_; refine zY ?_; refine yV ?_; simp only [zD, zK, zJ, zT, retA, ↓reduceIte, Nat.reduceEqDiff]; rotate_left
  (all_goals (repeat (rename BV _ _ => hbv; cases hbv)))
  all_goals (try (first | cases ‹true = false› | cases ‹false = true›))
  rename Nat => bx; revert bx; rename Nat => bw; revert bw
  intro bw bx
  refine ret_q (σ3 := .cells bx [.ptr bw 0] 192 :: .cells bw (wrC bx) 206 :: σ) .nil (.cons (.ofTmp rfl) .nil) (by repeat (first | exact q_r | apply q_q | apply q_k | exact q_a)) ?_
  exact fin_done ⟨bw, bx, rfl, rfl⟩
theorem upd_keepsK {kp : Ent → Prop} {σ σ' : List Ent} {e e' : Ent} (hk : ¬ kp e) (h : Upd σ e e' σ') : AddsK kp σ σ' := by
  obtain ⟨a, c, rfl, rfl⟩ := h.split
  intro x hx hm
  rcases List.mem_append.1 hm with hm | hm
  · simp [hm]
  · rcases List.mem_cons.1 hm with rfl | hm
    · exact absurd hx hk
    · simp [hm]
theorem items_len : ∀ {ns : List Int}, (∀ n ∈ ns, 0 ≤ n ∧ n ≤ 1073741824) → (ns.flatMap itemL).length ≤ 6 * ns.length
  | [], _ => Nat.zero_le _
  | n :: ns, h => by
    have h1 := item_len (h n (by simp))
    have h2 := items_len (ns := ns) fun m hm => h m (by simp [hm])
    rw [List.flatMap_cons, List.length_append, List.length_cons]; omega
set_option maxHeartbeats 8000000 in
theorem write3_c (ns : List Int) (hns : ∀ n ∈ ns, 0 ≤ n ∧ n ≤ 1073741824) (hl : ns.length ≤ 100) (B : List Nat) (hB : B.length ≤ 1000) (bw bx : Nat) (v : Value) (σ : List Ent) :
    SCall Tryz.prog 167 [.slv v, .agg (lvC ns), .ptr bx 0] (rowB v B :: .cells bx [.ptr bw 0] 192 :: .cells bw (wrC bx) 206 :: σ) (fun r τ => ∃ v', r = .slv v' ∧ τ = rowB v' (B ++ [3] ++ numL ns.length ++ ns.flatMap itemL) :: .cells bx [.ptr bw 0] 192 :: .cells bw (wrC bx) 206 :: σ) := by
  refine scall_of Tryz.func167 rfl (by simp) ?_
  have h1 := rowB_snoc
  have hw : IntKind.u64.wrap ((ns.length : Nat) : Int) = ((ns.length : Nat) : Int) := wrapU64 (by omega)
  have hnl := numL_len (k := 1) (u := ns.length) (by omega)
  refine zX (zZ ?_); refine zE rfl rfl rfl (g_box rfl rfl) ?_; intro _; refine xAs rfl rfl rfl rfl ?_; refine zY ?_; refine zX ?_; rotate_left
  (all_goals (repeat (rename BV _ _ => hbv; cases hbv)))
  all_goals (try (first | cases ‹true = false› | cases ‹false = true›))
  rename Nat => b4
  refine ex_drawLO (fun e => e = .cells b4 (lvC ns) 160) 8 [0, 1, 3, 4, 5, 6, 2, 7] [6, 7] rfl (by kernel_rfl) rfl (by kernel_rfl) rfl ?_
  simp only [pick, List.filterMap_cons, List.filterMap_nil, List.getElem?_cons_zero, List.getElem?_cons_succ, List.take_succ_cons, List.take_zero, List.drop_succ_cons, List.drop_zero]
  apply zR; rfl; rfl; rfl; (intro σ' hl; (apply zH; rfl)); apply zR; rfl; rfl; rfl; (intro σ' hl; (exact gop_sealed (g_buildSlice rfl rfl (by decide) rfl rfl (by (simp only [chunkN, List.take_succ_cons, List.take_zero, List.drop_succ_cons, List.drop_zero]; rfl))))); apply zR; rfl; rfl; rfl; (intro σ' hl; (apply zP; rfl; rfl; rfl)); apply zR; rfl; rfl; rfl; (intro σ' hl; (apply g_load1; rfl; rfl; (exact .p (hl _ (by (rfl)) (by (repeat first | exact q_h | apply q_t | assumption); done)) rfl))); apply zR; rfl; rfl; rfl; (intro σ' hl; (apply g_len; rfl; rfl; (exact (List.length_map _).symm))); apply zR; rfl; rfl; rfl; (intro σ' hl; (exact g_conv rfl rfl rfl hw)); refine wl_eff rfl rfl rfl (by apply g_append; rfl; rfl; rfl; (intro v'; (exact Upd.there (Upd.here))); (exact .d); (intro y hy; simp only [List.mem_map, List.mem_cons, List.not_mem_nil, or_false, List.mem_append] at hy; (focus (obtain ⟨_, _, rfl⟩ := hy; rfl; done))); (refine app_ok ?_ (by kernel_rfl); (try simp only [List.length_append, List.length_map, List.length_cons, List.length_nil, List.length_take, List.length_drop]); omega)) ?_; rintro _ _ ⟨v'⟩; refine ⟨(by (rintro _ (rfl | rfl) _ <;> exact (by (repeat first | exact q_h | apply q_t | assumption); done))), ?_⟩; refine wl_eff rfl rfl rfl (yX rfl rfl (zQ (by kernel_rfl)) (numeral_c (B := B ++ [3]) (u := ns.length) (by omega) (by simp; omega) (fun v' => by rw [h1]; exact (by (exact Upd.there (Upd.here)))))) ?_; rintro _ _ ⟨v', rfl, rfl⟩; refine ⟨(by (rintro _ (rfl | rfl | rfl) _ <;> exact (by (repeat first | exact q_h | apply q_t | assumption); done))), ?_⟩; refine wl_nil ?_; refine xAs rfl rfl rfl rfl ?_; refine zY ?_; refine zX ?_; refine zX (zZ ?_); refine xFa rfl rfl rfl rfl rfl rfl ?_; refine xLd rfl rfl rfl rfl rfl (.p (by (repeat first | exact q_h | apply q_t | assumption); done) rfl) ?_; apply zV; rfl; rfl; rfl; (apply g_len; rfl; rfl; (exact (List.length_map _).symm)); refine xMv rfl rfl rfl rfl ?_; refine zY ?_; refine yZ ?_; rotate_left
  (all_goals (repeat (rename BV _ _ => hbv; cases hbv)))
  all_goals (try (first | cases ‹true = false› | cases ‹false = true›))
  have hC : (B ++ [3] ++ numL ns.length).length ≤ 1010 := by simp; omega
  have h00 : B ++ [3] ++ numL ns.length = B ++ [3] ++ numL ns.length ++ (ns.take 0).flatMap itemL := by simp
  rw [h00]
  generalize B ++ [3] ++ numL ns.length = C at hC ⊢
  refine ex_loop (fun (z : Nat × Value) => (⟨[(0, .slv z.2), (2, .ptr bx 0), (17, .dl 4 (ns.map itC)), (18, .int .i64 ns.length), (19, .int .i64 z.1)], rowB z.2 (C ++ (ns.take z.1).flatMap itemL) :: .cells bx [.ptr bw 0] 192 :: .cells bw (wrC bx) 206 :: σ, [], Tryz.f167.ntmps⟩ : St)) (fun z => z.1 ≤ ns.length) (fun z => ns.length - z.1) (0, v') (Nat.zero_le _) (St.le_of (by repeat (first | exact trivial | refine ⟨rfl, ?_⟩)) (by repeat (first | exact q_r | apply q_q | apply q_k))) ?_
  intro z hI
  obtain ⟨k, w⟩ := z
  dsimp only at hI ⊢
  by_cases hk : k < ns.length
  · obtain ⟨c, hc⟩ : ∃ c, ns[k]? = some c := get_some hk
    have hgc := it_get hc
    have hcb := hns c (List.mem_of_getElem? hc)
    obtain ⟨m, rfl⟩ : ∃ m : Nat, c = m := ⟨c.toNat, by omega⟩
    have hst : C ++ (ns.take (k + 1)).flatMap itemL = C ++ (ns.take k).flatMap itemL ++ itemL m := by rw [List.take_add_one, hc, List.flatMap_append]; simp
    have hil := items_len (ns := ns.take k) fun n hn => hns n (List.mem_of_mem_take hn)
    rw [List.length_take] at hil
    have hDl : (C ++ (ns.take k).flatMap itemL).length ≤ 90000 := by rw [List.length_append]; omega
    generalize C ++ (ns.take k).flatMap itemL = D at hst hDl ⊢
    clear hns hnl hB hC hil
    refine zX (zZ ?_); refine xBi rfl rfl rfl rfl rfl rfl ?_; intro _ _; refine zY ?_; refine zX ?_; refine zU rfl (fun h => ?_) (fun h => ?_) <;> ((first | (subst h; rename BV _ true => g; have h := g.eq; clear g) | (subst h; rename BV _ false => g; have h := g.eq; clear g) | skip); (have hp := h; try simp only [q_n] at hp); (try (exfalso; first | omega | (cases hp; done))));
    refine zG ?_; refine zX ?_; refine yZ ?_; refine zX (zZ ?_); apply zV; rfl; rfl; rfl; (apply g_indexDl; rfl; rfl; rfl; (rfl); (assumption)); apply zV; rfl; rfl; rfl; (apply zB; rfl; decide; rfl; (exact .e rfl rfl)); refine zE rfl rfl rfl (g_alloc rfl) ?_; intro _; apply yY; rfl; rfl; (apply zL; rfl; rfl; rfl; (exact Upd.here); (simp only [setL, q_z, AV.cells]; rfl); rfl; rfl; rfl; exact q_b rfl); refine zY ?_; rotate_left
    (all_goals (repeat (rename BV _ _ => hbv; cases hbv)))
    all_goals (try (first | cases ‹true = false› | cases ‹false = true›))
    refine ex_drawLK cellsK 10 [9] rfl (by kernel_rfl) rfl ?_
    simp only [List.take_succ_cons, List.take_zero, List.drop_succ_cons, List.drop_zero]
    apply zR; rfl; rfl; rfl; (intro σ' hl; (apply g_load1; rfl; rfl; (exact .p (hl _ (by (exact True.intro)) (by (repeat first | exact q_h | apply q_t | assumption); done)) rfl))); apply zR; rfl; rfl; rfl; (intro σ' hl; (apply zP; rfl; rfl; rfl)); apply zR; rfl; rfl; rfl; (intro σ' hl; (apply g_load1; rfl; rfl; (exact .p (hl _ (by (exact True.intro)) (by (repeat first | exact q_h | apply q_t | assumption); done)) rfl))); apply zR; rfl; rfl; rfl; (intro σ' hl; (apply g_nilCheck; rfl; rfl)); apply zR; rfl; rfl; rfl; (intro σ' hl; (apply g_indexArr; rfl; rfl; rfl; (exact (rfl : (1:Int) = ((1:Nat):Int))); (exact q_b rfl); rfl)); apply zR; rfl; rfl; rfl; (intro σ' hl; (apply zP; rfl; rfl; rfl)); apply zR; rfl; rfl; rfl; (intro σ' hl; (apply g_load1; rfl; rfl; (exact .p (hl _ (by (exact True.intro)) (by (repeat first | exact q_h | apply q_t | assumption); done)) rfl))); apply zR; rfl; rfl; rfl; (intro σ' hl; (apply zH; rfl)); apply zR; rfl; rfl; rfl; (intro σ' hl; (apply zB; rfl; decide; rfl; (exact .p (hl _ (by (exact True.intro)) (by (repeat first | exact q_h | apply q_t | assumption); done)) rfl rfl))); refine wl_eff rfl rfl rfl (yX rfl rfl (zQ (by kernel_rfl)) (scall_upd (fun σ0 => write1_c D m (by omega) hDl w σ0) (fun v' => by exact (by (exact Upd.there (Upd.here)))))) ?_; rintro _ _ ⟨v2, rfl, rfl⟩; refine ⟨upd_keepsK (fun h => h) (by (exact Upd.there (Upd.here))), ?_⟩; refine wl_nil ?_; refine xAs rfl rfl rfl rfl ?_; refine zC ?_; refine zZ ?_; apply zV; rfl; rfl; rfl; (apply g_add; rfl; rfl; rfl; exact ⟨by omega, by omega⟩); refine xMv rfl rfl rfl rfl ?_; refine zC ?_; simp only [zD, zK, zJ, zT, retA, ↓reduceIte, Nat.reduceEqDiff]; rotate_left
    (all_goals (repeat (rename BV _ _ => hbv; cases hbv)))
    all_goals (try (first | cases ‹true = false› | cases ‹false = true›))
    refine ⟨(k + 1, v2), hk, by dsimp only; omega, ?_⟩
    dsimp only
    rw [hst]
    exact (St.le_of (by repeat (first | exact trivial | refine ⟨rfl, ?_⟩)) (by repeat (first | exact q_r | apply q_q | apply q_k | exact q_a)))
  · have e : k = ns.length := by omega
    subst e
    rw [List.take_length]
    refine zX (zZ ?_); refine xBi rfl rfl rfl rfl rfl rfl ?_; intro _ _; refine zY ?_; refine zX ?_; refine zU rfl (fun h => ?_) (fun h => ?_) <;> ((first | (subst h; rename BV _ true => g; have h := g.eq; clear g) | (subst h; rename BV _ false => g; have h := g.eq; clear g) | skip); (have hp := h; try simp only [q_n] at hp); (try (exfalso; first | omega | (cases hp; done))));
    refine ex_exit ?_; refine zX (zZ ?_); refine xMv rfl rfl rfl rfl ?_; refine xAs rfl rfl rfl rfl ?_; refine zY ?_; refine yV ?_; simp only [zD, zK, zJ, zT, retA, ↓reduceIte, Nat.reduceEqDiff]; rotate_left
    (all_goals (repeat (rename BV _ _ => hbv; cases hbv)))
    all_goals (try (first | cases ‹true = false› | cases ‹false = true›))
    refine ret_q (σ3 := rowB w (C ++ ns.flatMap itemL) :: .cells bx [.ptr bw 0] 192 :: .cells bw (wrC bx) 206 :: σ) .nil (.cons (.ofTmp rfl) .nil) (by repeat (first | exact q_r | apply q_q | apply q_k | exact q_a)) ?_
    exact fin_done ⟨w, rfl, by simp⟩
end Go.Proofs.YtkhoengjdfmfaaaGreat
namespace Go.Proofs.YtkhoengjdfmfaaaGreat
def encL (ns : List Int) : List Nat := [3] ++ numL ns.length ++ ns.flatMap itemL
theorem enc_msg (s : Sl) : encL (fieldsL s) = msgS s := by
  unfold encL msgS
  rw [show (fieldsL s).length = 8 from rfl, numL_lo (by omega)]; rfl
set_option maxHeartbeats 8000000 in
theorem encode_c (ns : List Int) (hns : ∀ n ∈ ns, 0 ≤ n ∧ n ≤ 1073741824) (hl : ns.length ≤ 100) (σ : List Ent) :
    SCall Tryz.prog 126 [.agg (lvC ns)] σ (Is (.tup [bys (encL ns), .int .i64 0]) σ) := by
  refine scall_of Tryz.func126 rfl (by simp) ?_
  have hw := write3_c ns hns hl [] (by simp)
  have he : ([] : List Nat) ++ [3] ++ numL ns.length ++ ns.flatMap itemL = encL ns := rfl
  rw [he] at hw
  have h3 : (3 : Int) = ((3 : Nat) : Int) := rfl
  generalize encL ns = C at hw ⊢
  refine ex_nilRow 5 1 ?_
  refine zX (zZ ?_); refine zE rfl rfl rfl (g_box rfl rfl) ?_; intro _; refine xAs rfl rfl rfl rfl ?_; refine xAs rfl rfl rfl rfl ?_; refine zY ?_; refine zX ?_; refine zX (zZ ?_); refine xLa rfl rfl rfl rfl (by decide) rfl (.p (by (repeat first | exact q_h | apply q_t | assumption); done) rfl rfl) ?_; apply zV; rfl; rfl; rfl; (refine yX rfl rfl (zQ (by kernel_rfl)) ?_; exact checkV_c _ _); refine xAs rfl rfl rfl rfl ?_; refine zY ?_; refine zX (zZ ?_); refine xMv rfl rfl rfl rfl ?_; refine xBi rfl rfl rfl rfl rfl rfl ?_; intro _ _; refine zY ?_; refine zU rfl (fun h => ?_) (fun h => ?_) <;> ((first | (subst h; rename BV _ true => g; have h := g.eq; clear g) | (subst h; rename BV _ false => g; have h := g.eq; clear g) | skip); (have hp := h; try simp only [q_n] at hp); (try (exfalso; first | omega | (cases hp; done))));
  refine zG ?_; refine zX ?_; rotate_left
  (all_goals (repeat (rename BV _ _ => hbv; cases hbv)))
  all_goals (try (first | cases ‹true = false› | cases ‹false = true›))
  rename Nat => b1
  refine ex_drawLO cellsK 9 [1, 2, 7, 0, 3, 4, 5, 6, 8] [3, 8] rfl (by kernel_rfl) rfl (by kernel_rfl) rfl ?_
  simp only [pick, List.filterMap_cons, List.filterMap_nil, List.getElem?_cons_zero, List.getElem?_cons_succ, List.take_succ_cons, List.take_zero, List.drop_succ_cons, List.drop_zero]
  apply zR; rfl; rfl; rfl; (intro σ' hl; (apply zP; rfl; rfl; rfl)); apply zR; rfl; rfl; rfl; (intro σ' hl; (apply g_load1; rfl; rfl; (exact .p (hl _ (by (exact True.intro)) (by (repeat first | exact q_h | apply q_t | assumption); done)) rfl))); apply zR; rfl; rfl; rfl; (intro σ' hl; (apply zB; rfl; decide; rfl; (exact .p (hl _ (by (exact True.intro)) (by (repeat first | exact q_h | apply q_t | assumption); done)) rfl rfl))); refine wl_eff rfl rfl rfl (yX rfl rfl (zQ (by kernel_rfl)) (newWriter_c _)) ?_; rintro _ _ ⟨bw, bx, rfl, rfl⟩; refine ⟨fun e _ h => List.mem_cons_of_mem _ (List.mem_cons_of_mem _ h), ?_⟩; apply zR; rfl; rfl; rfl; (intro σ' hl; (apply g_nilCheck; rfl; rfl)); apply zR; rfl; rfl; rfl; (intro σ' hl; (apply g_indexArr; rfl; rfl; rfl; (rfl); (exact q_b rfl); rfl)); apply zR; rfl; rfl; rfl; (intro σ' hl; (apply zP; rfl; rfl; rfl)); apply zR; rfl; rfl; rfl; (intro σ' hl; (apply g_load1; rfl; rfl; (exact .p (hl _ (by (exact True.intro)) (by (repeat first | exact q_h | apply q_t | assumption); done)) rfl))); refine wl_eff rfl rfl rfl (yX rfl rfl (zQ (by kernel_rfl)) (scall_permu (List.perm_middle (l₁ := [_, _, _])) (hw bw bx nilS _))) ?_; rintro _ _ ⟨v', rfl, rfl⟩; refine ⟨(by intro e hk hm; simp only [List.mem_cons, List.cons_append, List.nil_append] at hm ⊢; rcases hm with h | h | h | rfl | h <;> first | exact hk.elim | simp [h]), ?_⟩; simp only [List.cons_append, List.nil_append]; refine wl_nil ?_; refine xAs rfl rfl rfl rfl ?_; refine xAs rfl rfl rfl rfl ?_; refine zY ?_; refine yV ?_; simp only [zD, zK, zJ, zT, retA, ↓reduceIte, Nat.reduceEqDiff]; rotate_left
  (all_goals (repeat (rename BV _ _ => hbv; cases hbv)))
  all_goals (try (first | cases ‹true = false› | cases ‹false = true›))
  refine ret_q (σ3 := rowB v' C :: σ) .nil (.cons (.ofTmp rfl) (.cons (.ofTmp rfl) .nil)) (by repeat (first | exact q_r | apply q_q | apply q_k | exact q_a)) ?_
  exact fin_seal .here (.tup (.here (.same .nil)) .nil) (fin_done .mk)
theorem fields_c (b : Nat) (σ : List Ent) : SCall Tryz.prog 124 [.ptr b 0] σ (Is (.agg [.ptr b 0, .ptr b 1, .ptr b 2, .ptr b 3, .ptr b 4, .ptr b 5, .ptr b 6, .ptr b 7]) σ) := by
  refine scall_of Tryz.func124 rfl (by simp) ?_
  refine zX (zZ ?_); refine zE rfl rfl rfl (g_alloc rfl) ?_; intro _; refine zY ?_; refine zX ?_; refine ex_drawT rfl rfl (by kernel_rfl) rfl ?_; simp only [List.length_cons, List.length_nil, Nat.reduceAdd, Nat.reduceSub, List.take_succ_cons, List.take_zero, List.drop_succ_cons, List.drop_zero]; apply zR; rfl; rfl; rfl; (intro σ' hl; (apply zH; rfl)); apply zR; rfl; rfl; rfl; (intro σ' hl; (apply g_nilCheck; rfl; rfl)); apply zR; rfl; rfl; rfl; (intro σ' hl; (apply zP; rfl; rfl; rfl)); apply zR; rfl; rfl; rfl; (intro σ' hl; (apply zH; rfl)); apply zR; rfl; rfl; rfl; (intro σ' hl; (apply g_nilCheck; rfl; rfl)); apply zR; rfl; rfl; rfl; (intro σ' hl; (apply zP; rfl; rfl; rfl)); apply zR; rfl; rfl; rfl; (intro σ' hl; (apply zH; rfl)); apply zR; rfl; rfl; rfl; (intro σ' hl; (apply g_nilCheck; rfl; rfl)); apply zR; rfl; rfl; rfl; (intro σ' hl; (apply zP; rfl; rfl; rfl)); apply zR; rfl; rfl; rfl; (intro σ' hl; (apply zH; rfl)); apply zR; rfl; rfl; rfl; (intro σ' hl; (apply g_nilCheck; rfl; rfl)); apply zR; rfl; rfl; rfl; (intro σ' hl; (apply zP; rfl; rfl; rfl)); apply zR; rfl; rfl; rfl; (intro σ' hl; (apply zH; rfl)); apply zR; rfl; rfl; rfl; (intro σ' hl; (apply g_nilCheck; rfl; rfl)); apply zR; rfl; rfl; rfl; (intro σ' hl; (apply zP; rfl; rfl; rfl)); apply zR; rfl; rfl; rfl; (intro σ' hl; (apply zH; rfl)); apply zR; rfl; rfl; rfl; (intro σ' hl; (apply g_nilCheck; rfl; rfl)); apply zR; rfl; rfl; rfl; (intro σ' hl; (apply zP; rfl; rfl; rfl)); apply zR; rfl; rfl; rfl; (intro σ' hl; (apply zH; rfl)); apply zR; rfl; rfl; rfl; (intro σ' hl; (apply g_nilCheck; rfl; rfl)); apply zR; rfl; rfl; rfl; (intro σ' hl; (apply zP; rfl; rfl; rfl)); apply zR; rfl; rfl; rfl; (intro σ' hl; (apply zH; rfl)); apply zR; rfl; rfl; rfl; (intro σ' hl; (apply g_nilCheck; rfl; rfl)); apply zR; rfl; rfl; rfl; (intro σ' hl; (apply zP; rfl; rfl; rfl)); apply zR; rfl; rfl; rfl; (intro σ' hl; (apply g_buildArr; rfl; rfl; rfl; rfl)); refine wl_nil ?_; apply yY; rfl; rfl; (apply zL; rfl; rfl; rfl; (exact Upd.here); (simp only [setL, q_z, AV.cells]; rfl); rfl; rfl; rfl; exact q_b rfl); refine zY ?_; refine yV ?_; simp only [zD, zK, zJ, zT, retA, ↓reduceIte, Nat.reduceEqDiff]; rotate_left
  (all_goals (repeat (rename BV _ _ => hbv; cases hbv)))
  all_goals (try (first | cases ‹true = false› | cases ‹false = true›))
  refine ret_is .nil ((by repeat (first | exact Res.nil | (apply Res.cons; (first | (apply Res1.ofTmp; rfl) | (apply Res1.ofCell; rfl; rfl; (first | exact .e rfl | exact .p (by (repeat first | exact q_h | apply q_t | assumption); done) rfl | exact .r (by (repeat first | exact q_h | apply q_t | assumption); done) rfl)) | (apply Res1.ofAgg; rfl; rfl; decide; (first | exact .e rfl rfl | exact .p (by (repeat first | exact q_h | apply q_t | assumption); done) rfl rfl | exact .r (by (repeat first | exact q_h | apply q_t | assumption); done) rfl rfl))))))) (by repeat (first | exact q_r | apply q_q | apply q_k | exact q_a)) ?_
  rfl
theorem slC_get {s : Sl} {k : Nat} {n : Int} (h : (fieldsL s)[k]? = some n) : (slC s)[k + 0]? = some (.int .i64 n) := by
  rw [Nat.add_zero]
  have : slC s = (fieldsL s).map (AV.int .i64) := rfl
  rw [this, List.getElem?_map, h]; rfl
theorem ptrs_get {b k : Nat} (h : k < 8) : ([.ptr b 0, .ptr b 1, .ptr b 2, .ptr b 3, .ptr b 4, .ptr b 5, .ptr b 6, .ptr b 7] : List AV)[k]? = some (.ptr b k) := by
  rcases (by omega : k = 0 ∨ k = 1 ∨ k = 2 ∨ k = 3 ∨ k = 4 ∨ k = 5 ∨ k = 6 ∨ k = 7) with rfl | rfl | rfl | rfl | rfl | rfl | rfl | rfl <;> rfl
set_option maxHeartbeats 8000000 in
theorem message_c (s : Sl) (hs : Sendable s) (σ : List Ent) : SCall Tryz.prog 84 [slV s] σ (Is (bys (msgS s)) σ) := by
  refine scall_of Tryz.func84 rfl (by simp) ?_
  have hen := encode_c (fieldsL s) hs.nats (show (8 : Nat) ≤ 100 by omega)
  rw [enc_msg] at hen
  refine zX (zZ ?_); refine zE rfl rfl rfl (g_box rfl rfl) ?_; intro _; refine xAs rfl rfl rfl rfl ?_; refine zY ?_; refine zX (zZ ?_); apply zV; rfl; rfl; rfl; (apply g_build; rfl; rfl; rfl; rfl); refine zE rfl rfl rfl (g_alloc rfl) ?_; intro _; apply yY; rfl; rfl; (apply zL; rfl; rfl; rfl; (exact Upd.here); (simp only [setL, q_z, AV.cells]; rfl); rfl; rfl; rfl; exact q_b rfl); refine zY ?_; refine zX ?_; refine zX (zZ ?_); apply zV; rfl; rfl; rfl; (refine yX rfl rfl (zQ (by kernel_rfl)) ?_; exact fields_c _ _); refine xMv rfl rfl rfl rfl ?_; refine zY ?_; refine yZ ?_; simp only [zD, zK, zJ, zT, retA, ↓reduceIte, Nat.reduceEqDiff]; rotate_left
  (all_goals (repeat (rename BV _ _ => hbv; cases hbv)))
  all_goals (try (first | cases ‹true = false› | cases ‹false = true›))
  rename Nat => b3; revert b3; rename Nat => b1; revert b1
  intro b1 b3
  refine ex_nilRow 160 4 ?_
  refine ex_loop (fun (z : Nat × Value) => (⟨[(1, .ptr b1 0), (3, .ptr b3 0), (9, .agg [.ptr b1 0, .ptr b1 1, .ptr b1 2, .ptr b1 3, .ptr b1 4, .ptr b1 5, .ptr b1 6, .ptr b1 7]), (10, .int .i64 z.1)], .row z.2 160 4 (((fieldsL s).take z.1).map itC) :: .cells b3 [.int .i64 3, .int .i64 0, noStr, .slv z.2] 160 :: .cells b1 (slC s) 43 :: σ, [], Tryz.f84.ntmps⟩ : St)) (fun z => z.1 ≤ 8) (fun z => 8 - z.1) (0, nilS) (Nat.zero_le _) (St.le_of (by repeat (first | exact trivial | refine ⟨rfl, ?_⟩)) (by repeat (first | exact q_r | apply q_q | apply q_k))) ?_
  intro z hI
  obtain ⟨k, w⟩ := z
  dsimp only at hI ⊢
  have hfl : (fieldsL s).length = 8 := rfl
  by_cases hk : k < 8
  · obtain ⟨n, hn⟩ : ∃ n, (fieldsL s)[k]? = some n := get_some (by omega)
    have hg1 := slC_get hn
    have hg2 := ptrs_get (b := b1) hk
    have hst : ((fieldsL s).take (k + 1)).map itC = ((fieldsL s).take k).map itC ++ [itC n] := by rw [List.take_add_one, hn, List.map_append]; rfl
    have htl : (((fieldsL s).take k).map itC).length ≤ 8 := by rw [List.length_map, List.length_take]; omega
    clear hen hs hn
    generalize ((fieldsL s).take k).map itC = T at hst htl ⊢
    refine zX (zZ ?_); refine xBi rfl rfl rfl rfl rfl rfl ?_; intro _ _; refine zY ?_; refine zX ?_; refine zU rfl (fun h => ?_) (fun h => ?_) <;> ((first | (subst h; rename BV _ true => g; have h := g.eq; clear g) | (subst h; rename BV _ false => g; have h := g.eq; clear g) | skip); (have hp := h; try simp only [q_n] at hp); (try (exfalso; first | omega | (cases hp; done))));
    refine zG ?_; refine zX ?_; refine yZ ?_; refine zX (zZ ?_); apply zV; rfl; rfl; rfl; (apply g_index1; rfl; rfl; rfl; (rfl); (omega); (assumption)); refine xAs rfl rfl rfl rfl ?_; refine zY ?_; rotate_left
    (all_goals (repeat (rename BV _ _ => hbv; cases hbv)))
    all_goals (try (first | cases ‹true = false› | cases ‹false = true›))
    refine ex_drawLK cellsK 8 [7] rfl (by kernel_rfl) rfl ?_
    simp only [List.take_succ_cons, List.take_zero, List.drop_succ_cons, List.drop_zero]
    apply zR; rfl; rfl; rfl; (intro σ' hl; (apply zP; rfl; rfl; rfl)); apply zR; rfl; rfl; rfl; (intro σ' hl; (apply g_load1; rfl; rfl; (exact .p (hl _ (by (exact True.intro)) (by (repeat first | exact q_h | apply q_t | assumption); done)) rfl))); apply zR; rfl; rfl; rfl; (intro σ' hl; (apply zH; rfl)); apply zR; rfl; rfl; rfl; (intro σ' hl; (apply g_nilCheck; rfl; rfl)); apply zR; rfl; rfl; rfl; (intro σ' hl; exact g_load1 rfl rfl (.p (hl _ True.intro (by (repeat first | exact q_h | apply q_t | assumption); done)) hg1)); apply zR; rfl; rfl; rfl; (intro σ' hl; (apply g_build; rfl; rfl; rfl; rfl)); apply zR; rfl; rfl; rfl; (intro σ' hl; (exact gop_sealed (g_buildSlice rfl rfl (by decide) rfl rfl (by (simp only [chunkN, List.take_succ_cons, List.take_zero, List.drop_succ_cons, List.drop_zero]; rfl))))); refine wl_eff rfl rfl rfl (by apply g_append; rfl; rfl; rfl; (intro v'; exact (by (exact Upd.here))); (exact .d); (intro y hy; simp only [List.mem_map, List.mem_cons, List.not_mem_nil, or_false, List.mem_append] at hy; (focus (obtain ⟨_, _, rfl⟩ := hy; rfl; done))); (refine app_ok ?_ (by kernel_rfl); (try simp only [List.length_append, List.length_map, List.length_cons, List.length_nil, List.length_take, List.length_drop]); omega)) ?_; rintro _ _ ⟨v2⟩; refine ⟨upd_keepsK (fun h => h) (by (exact Upd.here)), ?_⟩; refine wl_nil ?_; refine xFa rfl rfl rfl rfl rfl rfl ?_; apply yY; rfl; rfl; (apply zL; rfl; rfl; rfl; (exact Upd.there (Upd.here)); (simp only [setL, q_z, AV.cells]; rfl); rfl; rfl; rfl; exact q_b rfl); refine zC ?_; refine zZ ?_; apply zV; rfl; rfl; rfl; (apply g_add; rfl; rfl; rfl; exact ⟨by omega, by omega⟩); refine xMv rfl rfl rfl rfl ?_; refine zC ?_; simp only [zD, zK, zJ, zT, retA, ↓reduceIte, Nat.reduceEqDiff]; rotate_left
    (all_goals (repeat (rename BV _ _ => hbv; cases hbv)))
    all_goals (try (first | cases ‹true = false› | cases ‹false = true›))
    refine ⟨(k + 1, v2), hk, by dsimp only; omega, ?_⟩
    dsimp only
    rw [hst]
    exact (St.le_of (by repeat (first | exact trivial | refine ⟨rfl, ?_⟩)) (by repeat (first | exact q_r | apply q_q | apply q_k | exact q_a)))
  · have e : k = 8 := by omega
    subst e
    have hall : (fieldsL s).take 8 = fieldsL s := List.take_of_length_le (by omega)
    rw [hall]
    refine ex_shut (v := w) (env' := [(3, .ptr b3 0), (10, .int .i64 ((8 : Nat) : Int))]) .here (.cells (.same (.same (.same (.here .nil)))) (ShutEnts.refl _)) (by repeat (first | exact .nil | refine .same rfl ?_)) ?_
    generalize msgS s = C at hen ⊢
    refine zX (zZ ?_); refine xBi rfl rfl rfl rfl rfl rfl ?_; intro _ _; refine zY ?_; refine zX ?_; refine zU rfl (fun h => ?_) (fun h => ?_) <;> ((first | (subst h; rename BV _ true => g; have h := g.eq; clear g) | (subst h; rename BV _ false => g; have h := g.eq; clear g) | skip); (have hp := h; try simp only [q_n] at hp); (try (exfalso; first | omega | (cases hp; done))));
    refine ex_exit ?_; refine zX (zZ ?_); refine xLa rfl rfl rfl rfl (by decide) rfl (.p (by (repeat first | exact q_h | apply q_t | assumption); done) rfl rfl) ?_; apply zV; rfl; rfl; rfl; (refine yX rfl rfl (zQ (by kernel_rfl)) ?_; exact hen _); refine xMv rfl rfl rfl rfl ?_; apply zV; rfl; rfl; rfl; (apply yW; rfl; rfl); apply zV; rfl; rfl; rfl; (apply yW; rfl; rfl); refine xAs rfl rfl rfl rfl ?_; refine xAs rfl rfl rfl rfl ?_; refine zY ?_; refine zX (zZ ?_); refine xMv rfl rfl rfl rfl ?_; refine xAs rfl rfl rfl rfl ?_; refine zY ?_; refine yV ?_; simp only [zD, zK, zJ, zT, retA, ↓reduceIte, Nat.reduceEqDiff]; rotate_left
    (all_goals (repeat (rename BV _ _ => hbv; cases hbv)))
    all_goals (try (first | cases ‹true = false› | cases ‹false = true›))
    refine ret_is .nil (.cons (.ofTmp rfl) .nil) (by repeat (first | exact q_r | apply q_q | apply q_k | exact q_a)) ?_
    rfl
end Go.Proofs.YtkhoengjdfmfaaaGreat
namespace Go.Proofs.YtkhoengjdfmfaaaGreat
section
variable {P : Program}
def endsA (P : Program) (fn : Func) (X : Fx) (M : Mem) (Q : AV → List Ent → Prop) : Exit → Act → World → Prop :=
  bodyPostM (fence none) 0 P fn (fun e w' => ∃ M' σ' r v, M.le M' ∧ Good X M' σ' w' ∧ VRel M' r v ∧ e = .returned v ∧ Q r σ')
structure EXD (P : Program) (fn : Func) (c : Code) (Q : AV → List Ent → Prop) (s : St) : Prop where
  run : ∀ X M0 M a w, X.dt = [] → M0.le M → Sim X M s a w → c.wpIn (fence none) 0 P (endsA P fn X M0 Q) a w
structure EXDL (P : Program) (fn : Func) (ops : Array Oper) (l : List Oper) (y : Code) (Q : AV → List Ent → Prop) (s : St) : Prop where
  run : ∀ X M0 M a w, X.dt = [] → M0.le M → Sim X M s a w → wpListIn (fence none) 0 P ops (Exit.then (fun a w => y.wpIn (fence none) 0 P (endsA P fn X M0 Q) a w) (endsA P fn X M0 Q)) l a w
def onlyA (p : St → Prop) : Exit → St → Prop
  | .normal, s => p s
  | _, _ => False
theorem exd_seq {fn : Func} {x y : Code} {Q : AV → List Ent → Prop} {s : St} (h : EX P none x (onlyA (EXD P fn y Q)) s) : EXD P fn (.seq x y) Q s := by
  refine ⟨fun X M0 M a w hX hm0 hs => wpIn_seq (Go.wpIn_mono (h.run X M a w hs) ?_)⟩
  rintro e a' w' ⟨M', s', hm, hs', hq⟩
  cases e with
  | normal => exact hq.run X M0 M' a' w' hX (Mem.le_trans hm0 hm) hs'
  | exit id => exact hq.elim
  | goto l => exact hq.elim
  | ret => exact hq.elim
  | panic ch => exact hq.elim
  | outgrown => exact hq.elim
theorem exd_region {fn : Func} {id : Nat} {l : List Oper} {y : Code} {Q : AV → List Ent → Prop} {s : St} (h : EXDL P fn l.toArray l y Q s) : EXD P fn (.seq (.region id l.toArray false) y) Q s :=
  ⟨fun X M0 M a w hX hm0 hs => wpIn_seq (wpIn_region_lit (h.run X M0 M a w hX hm0 hs))⟩
theorem exdl_op {fn : Func} {ops : Array Oper} {o : Oper} {rest : List Oper} {y : Code} {Q : AV → List Ent → Prop} {R : AV → List Ent → Prop} {s : St} (hgd : o.guard = none) (hd : dstOk o.dst s.n = true) (hg : GOp P none o s.env s.σ R)
    (h : ∀ v σ', R v σ' → EXDL P fn ops rest y Q { s with env := put o.dst v s.env, σ := σ' }) : EXDL P fn ops (o :: rest) y Q s := by
  refine ⟨fun X M0 M a w hX hm0 hs => ?_⟩
  unfold wpListIn
  rw [if_pos (by simp [Region.wanted, hgd])]
  refine hg.run X M a w hs.good (hs.env.op o) _ _ ?_
  intro M' u w' v σ' hm hgd hv hR
  exact (h v σ' hR).run X M0 M' _ w' hX (Mem.le_trans hm0 hm) (hs.put hm hgd hd hv)
theorem leaves_marks_tl {X : Fx} {M : Mem} {fn : Func} {tmps : Array Value} {R : Ending → World → Prop} {tl : List Deferred} {ds : List Nat} {σ σ1 : List Ent} (h : Marks ds σ σ1) : ∀ {w : World}, Good X M σ w → (∀ w', Good X M σ1 w' → LeavesInM (fence none) 0 P fn tmps R tl .returning w') →
    LeavesInM (fence none) 0 P fn tmps R (marksD ds ++ tl) .returning w := by
  induction h with
  | nil => intro w hg hr; exact hr w hg
  | @cons D ds σ σ1 σ2 hrem _ ih =>
    intro w hg hr
    obtain ⟨a, c, rfl, rfl⟩ := hrem.split
    have hD : w.heap[D]? = some (.deferred (some [])) := hg.ent (.obj D (.deferred (some []))) (by simp)
    refine ⟨by simp, .inl ⟨D, w.putObj D (.deferred none), rfl, run_takeDeferred hD, ih ?_ hr⟩⟩
    exact hg.rem hrem rfl rfl rfl (fun k hk => World.putObj_heap_other (fun e => hk (by simp [Ent.block, e])))
def Idle (P : Program) (f : FuncId) (k : Nat) : Prop := ∀ (ws : Array Value) (w : World), ws.size = k → CallsDIn (fence none) 0 P f ws .returning w fun e u' w' => (∃ v, e = .returned v) ∧ u' = .returning ∧ w' = w
theorem exdl_defer {fn : Func} {ops : Array Oper} {ty : TypeId} {pos : String} {after : Array Edge} {t : Tmp} {y : Code} {Q : AV → List Ent → Prop} {env : Env} {σ : List Ent} {n : Nat} {f : FuncId} {cap : List AV}
    (ht : lk env t = some (.fn (.func f) [] cap)) (he : Enters P f) (hi : Idle P f cap.length)
    (h : EX P none y (retA P fn Q) ⟨env, σ, [], n⟩) : EXDL P fn ops [⟨none, .defer { callee := .value (.tmp t), args := #[], argTypes := #[] }, ty, pos, after, none⟩] y Q ⟨env, σ, [], n⟩ := by
  refine ⟨fun X M0 M a w hX hm0 hs => ?_⟩
  unfold wpListIn
  rw [if_pos (by simp [Region.wanted])]
  obtain ⟨u, hu1, hu2⟩ := hs.env t _ ht
  simp only [VRel] at hu2
  obtain ⟨vs, ws, rfl, k1, k2⟩ := hu2
  have hvs : vs = #[] := by
    have hk := k1.length
    exact Array.eq_empty_of_size_eq_zero (by simpa using hk)
  subst hvs
  have hws : ws.size = cap.length := by have hk := k2.length; simpa using hk
  have hrun : (execOp a.eval (⟨none, .defer { callee := .value (.tmp t), args := #[], argTypes := #[] }, ty, pos, after, none⟩ : Oper)).run P w = .ok (.defer { target := .fn (.func f) ws, args := #[] }) w := by
    simp [execOp, resolve, Act.eval, Array.getD_eq_getD_getElem?, hu1, go_sem]
  refine ⟨fun f _ => about_wide f none, ?_⟩
  rw [show Oper.semAt (fence none).round a.eval (⟨none, .defer { callee := .value (.tmp t), args := #[], argTypes := #[] }, ty, pos, after, none⟩ : Oper) = execOp a.eval (⟨none, .defer { callee := .value (.tmp t), args := #[], argTypes := #[] }, ty, pos, after, none⟩ : Oper) from rfl, hrun]
  obtain ⟨X1, hX1⟩ : ∃ X1 : Fx, X1 = { X with dt := [{ target := .fn (.func f) ws, args := #[] }] } := ⟨_, rfl⟩
  have hg1 : ∀ {M σ w}, Good X M σ w → Good X1 M σ w := fun h => hX1 ▸ h.dt _
  have back : ∀ {M σ w}, Good X1 M σ w → Good X M σ w := fun h => (hX1 ▸ h : Good { X with dt := [{ target := .fn (.func f) ws, args := #[] }] } _ _ _).undt
  have hdt : X1.dt = [{ target := .fn (.func f) ws, args := #[] }] := by rw [hX1]
  have hs1 : Sim X1 M ⟨env, σ, [], n⟩ { a with defers := { target := .fn (.func f) ws, args := #[] } :: a.defers } w := ⟨hg1 hs.good, hs.size, by rw [hdt]; show _ :: a.defers = _; rw [hs.defs, hX]; rfl, hs.env⟩
  show y.wpIn (fence none) 0 P (endsA P fn X M0 Q) { a with defers := { target := .fn (.func f) ws, args := #[] } :: a.defers } w
  refine Go.wpIn_mono (h.run X1 M _ w hs1) ?_
  rintro e a' w' ⟨M', s', hm, hs', hq⟩
  have fin : RetOK P fn Q s' → LeavesInM (fence none) 0 P fn a'.tmps (fun e w' => ∃ M' σ' r v, M0.le M' ∧ Good X M' σ' w' ∧ VRel M' r v ∧ e = .returned v ∧ Q r σ') a'.defers .returning w' := by
    rintro ⟨rs, σ1, h1, h2, h3⟩
    rw [hs'.defs, hdt]
    refine leaves_marks_tl h1 hs'.good (fun w2 hg2 => ?_)
    refine ⟨by simp, .inr ⟨(fun h => by cases h), .func f, ws, f, #[] ++ ws, rfl, he _ _, fun _ _ => trivial, (hi _ _ (by simpa using hws)).mono ?_⟩⟩
    rintro e u' w3 ⟨⟨v, rfl⟩, rfl, rfl⟩
    obtain ⟨u, hu, hv⟩ := results_run h2 hg2 hs'.env
    obtain ⟨M2, σ2, r2, k1, k2, k3, k4⟩ := h3 X1 M' w3 u hg2 hv
    exact ⟨u, hu, M2, σ2, r2, u, Mem.le_trans hm0 (Mem.le_trans hm k1), back k2, k3, rfl, k4⟩
  cases e with
  | ret => exact fin hq
  | normal => exact fin hq
  | exit id => exact hq.elim
  | goto l => exact hq.elim
  | panic ch => exact hq.elim
  | outgrown => exact hq.elim
theorem scall_ofD {f : FuncId} {fn : Func} {c : Code} {args : List AV} {σ : List Ent} {Q : AV → List Ent → Prop} (hf : P.funcs[f]? = some fn) (hb : fn.body = some c) (hn : args.length ≤ fn.ntmps)
    (h : EXD P fn c Q ⟨argsEnv 0 args, σ, [], fn.ntmps⟩) : SCall P f args σ Q := by
  refine ⟨fun X0 M w vs hg0 ha => ?_⟩
  obtain ⟨X, hX⟩ : ∃ X : Fx, X = { X0 with dt := [] } := ⟨_, rfl⟩
  have hg : Good X M σ w := hX ▸ hg0.dt []
  have back : ∀ {M σ w}, Good X M σ w → Good X0 M σ w := fun h => (hX ▸ h : Good { X0 with dt := [] } _ _ _).undt
  have hl := ha.length
  simp only [Array.length_toList] at hl
  refine callsIn_wide (n := 0).1 ((callsIn_of_wp_marks (R := fun e w' => ∃ M' σ' r v, M.le M' ∧ Good X M' σ' w' ∧ VRel M' r v ∧ e = .returned v ∧ Q r σ') hf hb trivial ?_).mono ?_)
  · have hs : Sim X M ⟨argsEnv 0 args, σ, [], fn.ntmps⟩ { tmps := vs ++ Array.replicate (fn.ntmps - vs.size) undef, defers := [] } w := by
      refine ⟨hg, by simp; omega, by rw [hX]; rfl, fun t v hv => ?_⟩
      obtain ⟨_, h2⟩ := argsEnv_get _ _ _ _ hv
      obtain ⟨u, h3, h4⟩ := ha.get h2
      refine ⟨u, ?_, h4⟩
      simp only [Nat.sub_zero, Array.getElem?_toList] at h3
      have hlt : t < vs.size := by rcases Nat.lt_or_ge t vs.size with h | h; exact h; rw [Array.getElem?_eq_none h] at h3; cases h3
      rw [Array.getElem?_append_left hlt]; exact h3
    exact h.run X M M _ w (by rw [hX]) (Mem.le_refl M) hs
  · rintro e w' ⟨M', σ', r, v, h1, h2, h3⟩
    exact ⟨M', σ', r, v, h1, back h2, h3⟩
end
end Go.Proofs.YtkhoengjdfmfaaaGreat
