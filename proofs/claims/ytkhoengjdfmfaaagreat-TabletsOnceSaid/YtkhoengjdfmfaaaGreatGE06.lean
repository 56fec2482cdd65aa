/- Parts of the proof that belong together: Ua Ub Uc. -/
import Derived.Test.YtkhoengjdfmfaaaGreatGE04
import Derived.Test.YtkhoengjdfmfaaaGreatGE05
set_option maxRecDepth 10000
set_option linter.unusedSimpArgs false
set_option linter.unusedVariables false
namespace Go.Proofs.YtkhoengjdfmfaaaGreat
theorem scall_permu {P : Program} {f : FuncId} {args : List AV} {σ σ' : List Ent} {Q : AV → List Ent → Prop} (hp : σ.Perm σ') (h : SCall P f args σ' Q) : SCall P f args σ Q :=
  ⟨fun X M w vs hg ha => h.run X M w vs (hg.perm hp) ha⟩
abbrev slC (s : Sl) : List AV := [.int .i64 s.tab, .int .i64 s.seq, .int .i64 s.kind, .int .i64 s.turn, .int .i64 s.farm, .int .i64 s.hour, .int .i64 s.lit, .int .i64 s.off]
abbrev slV (s : Sl) : AV := .agg (slC s)
abbrev sls (l : List Sl) : AV := .dl 8 (l.map slC)
theorem sl_get {l : List Sl} {k : Nat} {x : Sl} (h : l[k]? = some x) : (l.map slC)[k]? = some (slC x) := by rw [List.getElem?_map, h]; rfl
theorem sl_drop {α : Type} {l : List α} {k : Nat} {c : α} (h : l[k]? = some c) : l.drop k = c :: l.drop (k + 1) := by
  obtain ⟨h1, h2⟩ := List.getElem?_eq_some_iff.1 h
  rw [List.drop_eq_getElem_cons h1, h2]
theorem in_c (n lo hi : Int) (σ : List Ent) : SCall Tryz.prog 44 [.int .i64 n, .int .i64 lo, .int .i64 hi] σ (Is (.bool (inB n lo hi)) σ) := by
  refine scall_of Tryz.func44 rfl (by simp) ?_
  refine zX (zZ ?_); refine xAs ?_; refine zY ?_; refine zX (zZ ?_); refine xMv ?_; refine xMv ?_; refine xBi ?_; intro _ _; refine xMv ?_; refine q_d (fun h h_k => ?_) (fun h h_k => ?_) <;> ((try subst h_k); (have hp := h; try simp only [q_n] at hp); (try (exfalso; first | omega | (cases hp; done))));
  refine yMv ?_; refine yMv ?_; refine yBi ?_; intro _ _; refine xPt ?_; refine xAs ?_; refine zY ?_; refine zJ ?_; simp only [zP, zU, zT, zW, retA, ↓reduceIte, Nat.reduceEqDiff]; rotate_left; refine xSk ?_; refine xSk ?_; refine xSk ?_; refine xPf ?_; refine xAs ?_; refine zY ?_; refine zJ ?_; simp only [zP, zU, zT, zW, retA, ↓reduceIte, Nat.reduceEqDiff]; rotate_left
  (all_goals (repeat (rename BV _ _ => hbv; first | cases hbv | clear hbv)))
  all_goals (try (first | cases ‹true = false› | cases ‹false = true›))
  all_goals
    refine q_ri (bool_eq ?_)
    unfold inB
    simp [*]
set_option maxHeartbeats 4000000 in
theorem valid_c (x : Sl) (σ : List Ent) : SCall Tryz.prog 59 [slV x] σ (Is (.bool (slipB x)) σ) := by
  refine scall_of Tryz.func59 rfl (by simp) ?_
  unfold slipB
  refine zX (zZ ?_); refine xBb ?_; intro _; refine xAs ?_; refine zY ?_; refine zX ?_; refine zX (zZ ?_); refine xFa ?_; refine xLd ?_; refine zY ?_; refine zL ?_; refine zX ?_; refine zX (zZ ?_); refine xBi ?_; intro _ _; refine xAs ?_; refine zY ?_; refine q_c (fun h h_k => ?_) (fun h h_k => ?_) <;> ((try subst h_k); (have hp := h; try simp only [q_n] at hp); (try (exfalso; first | omega | (cases hp; done))));
  refine zR ?_; refine ex_cond_t rfl (by rfl) ?_; refine zX (zZ ?_); refine xFa ?_; refine xLd ?_; apply exl_isB; rfl; rfl; rfl; (refine zK rfl rfl (zV (by kernel_rfl)) ?_; exact in_c _ _ _ _); intro _ _; refine xMv ?_; refine q_d (fun h h_k => ?_) (fun h h_k => ?_) <;> ((try subst h_k); (have hp := h; try simp only [q_n] at hp); (try (exfalso; first | omega | (cases hp; done))));
  refine yFa ?_; refine yLd ?_; apply exl_isBW; rfl; (rfl); rfl; rfl; (refine zK rfl rfl (zV (by kernel_rfl)) ?_; exact in_c _ _ _ _); intro _ _; refine xPt ?_; refine xMv ?_; refine q_d (fun h h_k => ?_) (fun h h_k => ?_) <;> ((try subst h_k); (have hp := h; try simp only [q_n] at hp); (try (exfalso; first | omega | (cases hp; done))));
  refine yFa ?_; refine yLd ?_; apply exl_isBW; rfl; (rfl); rfl; rfl; (refine zK rfl rfl (zV (by kernel_rfl)) ?_; exact in_c _ _ _ _); intro _ _; refine xPt ?_; refine xMv ?_; refine q_d (fun h h_k => ?_) (fun h h_k => ?_) <;> ((try subst h_k); (have hp := h; try simp only [q_n] at hp); (try (exfalso; first | omega | (cases hp; done))));
  refine yFa ?_; refine yLd ?_; apply exl_isBW; rfl; (rfl); rfl; rfl; (refine zK rfl rfl (zV (by kernel_rfl)) ?_; exact in_c _ _ _ _); intro _ _; refine xPt ?_; refine xMv ?_; refine q_d (fun h h_k => ?_) (fun h h_k => ?_) <;> ((try subst h_k); (have hp := h; try simp only [q_n] at hp); (try (exfalso; first | omega | (cases hp; done))));
  refine yFa ?_; refine yLd ?_; refine yBi ?_; intro _ _; refine xPt ?_; refine xMv ?_; refine q_d (fun h h_k => ?_) (fun h h_k => ?_) <;> ((try subst h_k); (have hp := h; try simp only [q_n] at hp); (try (exfalso; first | omega | (cases hp; done))));
  refine yFa ?_; refine yLd ?_; refine yBi ?_; intro _ _; refine yMv ?_; refine q_d (fun h h_k => ?_) (fun h h_k => ?_) <;> ((try subst h_k); (have hp := h; try simp only [q_n] at hp); (try (exfalso; first | omega | (cases hp; done))));
  refine xSk ?_; refine xSk ?_; refine xSk ?_; apply exl_isW; rfl; (rfl); rfl; rfl; (apply g_pick_t; rfl; (rfl); rfl); refine xPt ?_; refine xAs ?_; refine zY ?_; refine zJ ?_; simp only [zP, zU, zT, zW, retA, ↓reduceIte, Nat.reduceEqDiff]; rotate_left; refine xSk ?_; refine xSk ?_; refine xSk ?_; refine xSk ?_; refine xSr ?_; refine xSr ?_; refine xSr ?_; refine xSk ?_; refine xPf ?_; refine xAs ?_; refine zY ?_; refine zJ ?_; simp only [zP, zU, zT, zW, retA, ↓reduceIte, Nat.reduceEqDiff]; rotate_left; refine xSk ?_; refine xSk ?_; refine xSk ?_; refine xPf ?_; refine xMv ?_; refine xSk ?_; refine xSk ?_; refine xSk ?_; refine xSk ?_; refine xSr ?_; refine xSr ?_; refine xSr ?_; refine xSk ?_; refine xPf ?_; refine xAs ?_; refine zY ?_; refine zJ ?_; simp only [zP, zU, zT, zW, retA, ↓reduceIte, Nat.reduceEqDiff]; rotate_left; refine xSk ?_; refine xSk ?_; refine xSk ?_; refine xPf ?_; refine xMv ?_; refine xSk ?_; refine xSk ?_; refine xSk ?_; refine xPf ?_; refine xMv ?_; refine xSk ?_; refine xSk ?_; refine xSk ?_; refine xSk ?_; refine xSr ?_; refine xSr ?_; refine xSr ?_; refine xSk ?_; refine xPf ?_; refine xAs ?_; refine zY ?_; refine zJ ?_; simp only [zP, zU, zT, zW, retA, ↓reduceIte, Nat.reduceEqDiff]; rotate_left; refine xSk ?_; refine xSk ?_; refine xSk ?_; refine xPf ?_; refine xMv ?_; refine xSk ?_; refine xSk ?_; refine xSk ?_; refine xPf ?_; refine xMv ?_; refine xSk ?_; refine xSk ?_; refine xSk ?_; refine xPf ?_; refine xMv ?_; refine xSk ?_; refine xSk ?_; refine xSk ?_; refine xSk ?_; refine xSr ?_; refine xSr ?_; refine xSr ?_; refine xSk ?_; refine xPf ?_; refine xAs ?_; refine zY ?_; refine zJ ?_; simp only [zP, zU, zT, zW, retA, ↓reduceIte, Nat.reduceEqDiff]; rotate_left; refine xSk ?_; refine xSk ?_; refine xSk ?_; refine xPf ?_; refine xMv ?_; refine xSk ?_; refine xSk ?_; refine xSk ?_; refine xPf ?_; refine xMv ?_; refine xSk ?_; refine xSk ?_; refine xSk ?_; refine xPf ?_; refine xMv ?_; refine xSk ?_; refine xSk ?_; refine xSk ?_; refine xPf ?_; refine xMv ?_; refine xSk ?_; refine xSk ?_; refine xSk ?_; refine xSk ?_; refine xSr ?_; refine xSr ?_; refine xSr ?_; refine xSk ?_; refine xPf ?_; refine xAs ?_; refine zY ?_; refine zJ ?_; simp only [zP, zU, zT, zW, retA, ↓reduceIte, Nat.reduceEqDiff]; rotate_left; refine zZ ?_; refine xBi ?_; intro _ _; refine xAs ?_; refine zY ?_; refine q_c (fun h h_k => ?_) (fun h h_k => ?_) <;> ((try subst h_k); (have hp := h; try simp only [q_n] at hp); (try (exfalso; first | omega | (cases hp; done))));
  refine zX (zZ ?_); refine xFa ?_; refine xLd ?_; apply exl_isB; rfl; rfl; rfl; (refine zK rfl rfl (zV (by kernel_rfl)) ?_; exact in_c _ _ _ _); intro _ _; refine xMv ?_; refine q_d (fun h h_k => ?_) (fun h h_k => ?_) <;> ((try subst h_k); (have hp := h; try simp only [q_n] at hp); (try (exfalso; first | omega | (cases hp; done))));
  refine yFa ?_; refine yLd ?_; apply exl_isBW; rfl; (rfl); rfl; rfl; (refine zK rfl rfl (zV (by kernel_rfl)) ?_; exact in_c _ _ _ _); intro _ _; refine xPt ?_; refine xMv ?_; refine q_d (fun h h_k => ?_) (fun h h_k => ?_) <;> ((try subst h_k); (have hp := h; try simp only [q_n] at hp); (try (exfalso; first | omega | (cases hp; done))));
  refine yFa ?_; refine yLd ?_; apply exl_isBW; rfl; (rfl); rfl; rfl; (refine zK rfl rfl (zV (by kernel_rfl)) ?_; exact in_c _ _ _ _); intro _ _; refine xPt ?_; refine xMv ?_; refine q_d (fun h h_k => ?_) (fun h h_k => ?_) <;> ((try subst h_k); (have hp := h; try simp only [q_n] at hp); (try (exfalso; first | omega | (cases hp; done))));
  refine yFa ?_; refine yLd ?_; apply exl_isBW; rfl; (rfl); rfl; rfl; (refine zK rfl rfl (zV (by kernel_rfl)) ?_; exact in_c _ _ _ _); intro _ _; refine xPt ?_; refine xMv ?_; refine q_d (fun h h_k => ?_) (fun h h_k => ?_) <;> ((try subst h_k); (have hp := h; try simp only [q_n] at hp); (try (exfalso; first | omega | (cases hp; done))));
  refine yFa ?_; refine yLd ?_; refine yBi ?_; intro _ _; refine xPt ?_; refine xMv ?_; refine q_d (fun h h_k => ?_) (fun h h_k => ?_) <;> ((try subst h_k); (have hp := h; try simp only [q_n] at hp); (try (exfalso; first | omega | (cases hp; done))));
  refine yFa ?_; refine yLd ?_; refine yBi ?_; intro _ _; refine yMv ?_; refine q_d (fun h h_k => ?_) (fun h h_k => ?_) <;> ((try subst h_k); (have hp := h; try simp only [q_n] at hp); (try (exfalso; first | omega | (cases hp; done))));
  refine yFa ?_; refine yLd ?_; refine yBi ?_; intro _ _; apply exl_isW; rfl; (rfl); rfl; rfl; (apply g_pick_f; rfl; (rfl); rfl); refine xPt ?_; refine xAs ?_; refine zY ?_; refine zJ ?_; simp only [zP, zU, zT, zW, retA, ↓reduceIte, Nat.reduceEqDiff]; rotate_left; refine xSk ?_; refine xSk ?_; refine xSk ?_; refine xSk ?_; refine xSr ?_; refine xSr ?_; refine xSr ?_; refine xSk ?_; refine xPf ?_; refine xAs ?_; refine zY ?_; refine zJ ?_; simp only [zP, zU, zT, zW, retA, ↓reduceIte, Nat.reduceEqDiff]; rotate_left; refine xSk ?_; refine xSk ?_; refine xSk ?_; refine xPf ?_; refine xMv ?_; refine xSk ?_; refine xSk ?_; refine xSk ?_; refine xSk ?_; refine xSr ?_; refine xSr ?_; refine xSr ?_; refine xSk ?_; refine xPf ?_; refine xAs ?_; refine zY ?_; refine zJ ?_; simp only [zP, zU, zT, zW, retA, ↓reduceIte, Nat.reduceEqDiff]; rotate_left; refine xSk ?_; refine xSk ?_; refine xSk ?_; refine xPf ?_; refine xMv ?_; refine xSk ?_; refine xSk ?_; refine xSk ?_; refine xPf ?_; refine xMv ?_; refine xSk ?_; refine xSk ?_; refine xSk ?_; refine xSk ?_; refine xSr ?_; refine xSr ?_; refine xSr ?_; refine xSk ?_; refine xPf ?_; refine xAs ?_; refine zY ?_; refine zJ ?_; simp only [zP, zU, zT, zW, retA, ↓reduceIte, Nat.reduceEqDiff]; rotate_left; refine xSk ?_; refine xSk ?_; refine xSk ?_; refine xPf ?_; refine xMv ?_; refine xSk ?_; refine xSk ?_; refine xSk ?_; refine xPf ?_; refine xMv ?_; refine xSk ?_; refine xSk ?_; refine xSk ?_; refine xPf ?_; refine xMv ?_; refine xSk ?_; refine xSk ?_; refine xSk ?_; refine xSk ?_; refine xSr ?_; refine xSr ?_; refine xSr ?_; refine xSk ?_; refine xPf ?_; refine xAs ?_; refine zY ?_; refine zJ ?_; simp only [zP, zU, zT, zW, retA, ↓reduceIte, Nat.reduceEqDiff]; rotate_left; refine xSk ?_; refine xSk ?_; refine xSk ?_; refine xPf ?_; refine xMv ?_; refine xSk ?_; refine xSk ?_; refine xSk ?_; refine xPf ?_; refine xMv ?_; refine xSk ?_; refine xSk ?_; refine xSk ?_; refine xPf ?_; refine xMv ?_; refine xSk ?_; refine xSk ?_; refine xSk ?_; refine xPf ?_; refine xMv ?_; refine xSk ?_; refine xSk ?_; refine xSk ?_; refine xSk ?_; refine xSr ?_; refine xSr ?_; refine xSr ?_; refine xSk ?_; refine xPf ?_; refine xAs ?_; refine zY ?_; refine zJ ?_; simp only [zP, zU, zT, zW, retA, ↓reduceIte, Nat.reduceEqDiff]; rotate_left; refine zX (zZ ?_); refine xBi ?_; intro _ _; refine xAs ?_; refine zY ?_; refine q_c (fun h h_k => ?_) (fun h h_k => ?_) <;> ((try subst h_k); (have hp := h; try simp only [q_n] at hp); (try (exfalso; first | omega | (cases hp; done))));
  refine zX (zZ ?_); refine xFa ?_; refine xLd ?_; refine xBi ?_; intro _ _; refine xMv ?_; refine q_d (fun h h_k => ?_) (fun h h_k => ?_) <;> ((try subst h_k); (have hp := h; try simp only [q_n] at hp); (try (exfalso; first | omega | (cases hp; done))));
  refine yFa ?_; refine yLd ?_; refine yBi ?_; intro _ _; refine xPt ?_; refine xMv ?_; refine q_d (fun h h_k => ?_) (fun h h_k => ?_) <;> ((try subst h_k); (have hp := h; try simp only [q_n] at hp); (try (exfalso; first | omega | (cases hp; done))));
  refine yFa ?_; refine yLd ?_; refine yBi ?_; intro _ _; refine xPt ?_; refine xMv ?_; refine q_d (fun h h_k => ?_) (fun h h_k => ?_) <;> ((try subst h_k); (have hp := h; try simp only [q_n] at hp); (try (exfalso; first | omega | (cases hp; done))));
  refine yFa ?_; refine yLd ?_; refine yBi ?_; intro _ _; refine xPt ?_; refine xMv ?_; refine q_d (fun h h_k => ?_) (fun h h_k => ?_) <;> ((try subst h_k); (have hp := h; try simp only [q_n] at hp); (try (exfalso; first | omega | (cases hp; done))));
  refine yFa ?_; refine yLd ?_; refine yFa ?_; refine yLd ?_; apply exl_isBW; rfl; (rfl); rfl; rfl; (refine zK rfl rfl (zV (by kernel_rfl)) ?_; exact in_c _ _ _ _); intro _ _; refine xPt ?_; refine xAs ?_; refine zY ?_; refine zJ ?_; simp only [zP, zU, zT, zW, retA, ↓reduceIte, Nat.reduceEqDiff]; rotate_left; refine xSk ?_; refine xSk ?_; refine xSk ?_; refine xSk ?_; refine xSk ?_; refine xPf ?_; refine xAs ?_; refine zY ?_; refine zJ ?_; simp only [zP, zU, zT, zW, retA, ↓reduceIte, Nat.reduceEqDiff]; rotate_left; refine xSk ?_; refine xSk ?_; refine xSk ?_; refine xPf ?_; refine xMv ?_; refine xSk ?_; refine xSk ?_; refine xSk ?_; refine xSk ?_; refine xSk ?_; refine xPf ?_; refine xAs ?_; refine zY ?_; refine zJ ?_; simp only [zP, zU, zT, zW, retA, ↓reduceIte, Nat.reduceEqDiff]; rotate_left; refine xSk ?_; refine xSk ?_; refine xSk ?_; refine xPf ?_; refine xMv ?_; refine xSk ?_; refine xSk ?_; refine xSk ?_; refine xPf ?_; refine xMv ?_; refine xSk ?_; refine xSk ?_; refine xSk ?_; refine xSk ?_; refine xSk ?_; refine xPf ?_; refine xAs ?_; refine zY ?_; refine zJ ?_; simp only [zP, zU, zT, zW, retA, ↓reduceIte, Nat.reduceEqDiff]; rotate_left; refine xSk ?_; refine xSk ?_; refine xSk ?_; refine xPf ?_; refine xMv ?_; refine xSk ?_; refine xSk ?_; refine xSk ?_; refine xPf ?_; refine xMv ?_; refine xSk ?_; refine xSk ?_; refine xSk ?_; refine xPf ?_; refine xMv ?_; refine xSk ?_; refine xSk ?_; refine xSk ?_; refine xSk ?_; refine xSk ?_; refine xPf ?_; refine xAs ?_; refine zY ?_; refine zJ ?_; simp only [zP, zU, zT, zW, retA, ↓reduceIte, Nat.reduceEqDiff]; rotate_left; refine zR ?_; refine zX (zZ ?_); refine xAs ?_; refine zY ?_; refine zJ ?_; simp only [zP, zU, zT, zW, retA, ↓reduceIte, Nat.reduceEqDiff]; rotate_left
  (all_goals (repeat (rename BV _ _ => hbv; first | cases hbv | clear hbv)))
  all_goals (try (first | cases ‹true = false› | cases ‹false = true›))
  all_goals
    refine q_ri (bool_eq ?_)
    first
      | (simp [*]; done)
      | (rw [Bool.eq_iff_iff]; simp [*]; done)
      | (rw [Bool.eq_iff_iff]; simp [*]; omega)
      | (rw [Bool.eq_iff_iff]; simp; omega)
def idxFrom {α : Type} (p : α → Bool) : List α → Nat → Int
  | [], _ => -1
  | x :: r, k => if p x then (k : Int) else idxFrom p r (k + 1)
theorem idxFrom_drop {α : Type} (p : α → Bool) {l : List α} {k : Nat} {c : α} (h : l[k]? = some c) : idxFrom p (l.drop k) k = if p c then (k : Int) else idxFrom p (l.drop (k + 1)) (k + 1) := by
  rw [sl_drop h]; rfl
theorem idxFrom_any {α : Type} (p : α → Bool) : ∀ (l : List α) (k : Nat), decide (0 ≤ idxFrom p l k) = l.any p
  | [], k => rfl
  | x :: r, k => by
    by_cases hx : p x = true
    · have h1 : idxFrom p (x :: r) k = (k : Int) := if_pos hx
      rw [h1]; simp [hx]
    · have h1 : idxFrom p (x :: r) k = idxFrom p r (k + 1) := if_neg hx
      rw [h1, idxFrom_any p r (k + 1)]; simp [hx]
theorem idx_run {α : Type} (p : α → Bool) : ∀ (l : List α) (k : Nat), idxFrom p l k = if l.dropWhile (fun x => !p x) = [] then -1 else ((k + (l.takeWhile fun x => !p x).length : Nat) : Int)
  | [], k => rfl
  | x :: r, k => by
    by_cases hx : p x = true
    · have h1 : idxFrom p (x :: r) k = (k : Int) := if_pos hx
      rw [h1, List.dropWhile_cons_of_neg (by simp [hx]), List.takeWhile_cons_of_neg (by simp [hx]), if_neg (by simp)]; rfl
    · have h1 : idxFrom p (x :: r) k = idxFrom p r (k + 1) := if_neg hx
      rw [h1, idx_run p r (k + 1), List.dropWhile_cons_of_pos (by simpa using hx), List.takeWhile_cons_of_pos (by simpa using hx), List.length_cons, show k + 1 + (r.takeWhile fun x => !p x).length = k + ((r.takeWhile fun x => !p x).length + 1) by omega]
theorem fSl_idx (l : List Sl) (g : Nat) (first cap : List AV) (p : Sl → Bool) (σ : List Ent) (he : Enters Tryz.prog g) (hf : ∀ (k : Nat) (c : Sl), l[k]? = some c → SCall Tryz.prog g (first ++ [(slV) c] ++ cap) σ (Is (.bool (p c)) σ)) :
    SCall Tryz.prog 70 [.dl 8 (l.map slC), .fn (.func g) first cap] σ (Is (.int .i64 (idxFrom p l 0)) σ) := by
  refine scall_of Tryz.func70 rfl (by simp) ?_
  refine zX (zZ ?_); refine xAs ?_; refine zY ?_; refine zX ?_; refine zX (zZ ?_); refine xMv ?_; refine xLn ?_; refine xMv ?_; refine zY ?_; refine zL ?_; rotate_left
  (all_goals (repeat (rename BV _ _ => hbv; first | cases hbv | clear hbv)))
  all_goals (try (first | cases ‹true = false› | cases ‹false = true›))
  refine ex_len (t := 0) rfl ((List.length_map _).symm) (fun hlen => ?_)
  refine ex_loop (fun (k : Nat) => (⟨[(0, .dl 8 (l.map slC)), (1, .fn (.func g) first cap), (7, .int .i64 l.length), (8, .int .i64 k)], σ, [], Tryz.f70.ntmps⟩ : St)) (fun k => k ≤ l.length ∧ idxFrom p l 0 = idxFrom p (l.drop k) k) (fun k => l.length - k) 0 (⟨Nat.zero_le _, rfl⟩) (St.le_of (by repeat (first | exact trivial | refine ⟨rfl, ?_⟩)) (by repeat (first | exact q_r | apply q_q | apply q_k))) ?_
  intro k hI
  by_cases hk : k < l.length
  · obtain ⟨c, hc⟩ : ∃ c, l[k]? = some c := ⟨_, List.getElem?_eq_getElem hk⟩
    have hd := idxFrom_drop p hc
    refine zX (zZ ?_); refine xBi ?_; intro _ _; refine zY ?_; refine zX ?_; refine q_c (fun h h_k => ?_) (fun h h_k => ?_) <;> ((try subst h_k); (have hp := h; try simp only [q_n] at hp); (try (exfalso; first | omega | (cases hp; done))));
    refine zR ?_; refine zX ?_; refine zL ?_; refine zX (zZ ?_); refine xMv ?_; refine xAs ?_; refine zY ?_; refine zX (zZ ?_); refine xMv ?_; refine xMv ?_; refine xMv ?_; refine xIx ?_; refine xLa ?_; apply zQ; rfl; rfl; rfl; (exact zK rfl rfl he (hf k c hc)); refine zY ?_; refine q_c (fun h h_k => ?_) (fun h h_k => ?_) <;> ((try subst h_k); (have hp := h; try simp only [q_n] at hp); (try (exfalso; first | omega | (cases hp; done))));
    refine zX (zZ ?_); refine xMv ?_; refine xAs ?_; refine zY ?_; refine zJ ?_; simp only [zP, zU, zT, zW, retA, ↓reduceIte, Nat.reduceEqDiff]; rotate_left; refine zR ?_; refine zZ ?_; refine xAd ?_; refine xMv ?_; refine zN ?_; simp only [zP, zU, zT, zW, retA, ↓reduceIte, Nat.reduceEqDiff]; rotate_left
    (all_goals (repeat (rename BV _ _ => hbv; first | cases hbv | clear hbv)))
    all_goals (try (first | cases ‹true = false› | cases ‹false = true›))
    · refine q_ri (int_eq ?_)
      rw [hI.2, hd, if_pos (by assumption)]
    · refine ⟨k + 1, ⟨hk, by rw [hI.2, hd, if_neg (by simp [*])]⟩, by omega, St.le_of (by repeat (first | exact trivial | refine ⟨rfl, ?_⟩)) (by repeat (first | exact q_r | apply q_q | apply q_k))⟩
  · refine zX (zZ ?_); refine xBi ?_; intro _ _; refine zY ?_; refine zX ?_; refine q_c (fun h h_k => ?_) (fun h h_k => ?_) <;> ((try subst h_k); (have hp := h; try simp only [q_n] at hp); (try (exfalso; first | omega | (cases hp; done))));
    refine ex_exit ?_; refine zX (zZ ?_); refine xAs ?_; refine zY ?_; refine zJ ?_; simp only [zP, zU, zT, zW, retA, ↓reduceIte, Nat.reduceEqDiff]; rotate_left
    (all_goals (repeat (rename BV _ _ => hbv; first | cases hbv | clear hbv)))
    all_goals (try (first | cases ‹true = false› | cases ‹false = true›))
    refine q_ri (int_eq ?_)
    rw [hI.2, List.drop_of_length_le (by omega)]; rfl
theorem fSl_any (l : List Sl) (g : Nat) (first cap : List AV) (p : Sl → Bool) (σ : List Ent) (he : Enters Tryz.prog g) (hf : ∀ (k : Nat) (c : Sl), l[k]? = some c → SCall Tryz.prog g (first ++ [(slV) c] ++ cap) σ (Is (.bool (p c)) σ)) :
    SCall Tryz.prog 79 [.dl 8 (l.map slC), .fn (.func g) first cap] σ (Is (.bool (l.any p)) σ) := by
  refine scall_of Tryz.func79 rfl (by simp) ?_
  refine zX (zZ ?_); refine xAs ?_; refine zY ?_; refine zX (zZ ?_); refine xMv ?_; refine xMv ?_; apply zQ; rfl; rfl; rfl; (refine zK rfl rfl (zV (by kernel_rfl)) ?_; exact fSl_idx l g first cap p σ he hf); refine xBi ?_; intro _ _; refine xAs ?_; refine zY ?_; refine zJ ?_; simp only [zP, zU, zT, zW, retA, ↓reduceIte, Nat.reduceEqDiff]; rotate_left
  (all_goals (repeat (rename BV _ _ => hbv; first | cases hbv | clear hbv)))
  all_goals (try (first | cases ‹true = false› | cases ‹false = true›))
  refine q_ri (bool_eq ?_)
  exact idxFrom_any p l 0
theorem runs11_c (s x : Sl) (l : List Sl) {b : Nat} {σ : List Ent} (h0 : l[0]? = some x) (hm : Ent.cells b [sls l] 22 ∈ σ) : SCall Tryz.prog 71 [slV s, .ptr b 0] σ (Is (.bool (!decide (s.tab = x.tab))) σ) := by
  refine scall_of Tryz.func71 rfl (by simp) ?_
  have hg := sl_get h0
  refine zX (zZ ?_); refine xBb ?_; intro _; refine xAs ?_; refine zY ?_; refine zX ?_; refine ex_drawP rfl rfl (by kernel_rfl) rfl ?_; refine ex_drawQ rfl (by kernel_rfl) rfl ?_; refine wFa ?_; refine wLd ?_; refine wLd ?_; refine wIx ?_; refine wFa ?_; refine wLd ?_; refine wBi ?_; intro _ _; apply wl_is; rfl; rfl; rfl; (intro σ' hl; (apply g_assign; rfl)); refine wl_nil ?_; show EX _ _ _ _ _; refine zJ ?_; simp only [zP, zU, zT, zW, retA, ↓reduceIte, Nat.reduceEqDiff]; rotate_left
  (all_goals (repeat (rename BV _ _ => hbv; first | cases hbv | clear hbv)))
  all_goals (try (first | cases ‹true = false› | cases ‹false = true›))
  all_goals
    refine q_ri (bool_eq ?_)
    first
      | (simp [*]; done)
      | (rw [Bool.eq_iff_iff]; simp [*]; done)
      | (rw [Bool.eq_iff_iff]; simp [*]; omega)
      | (rw [Bool.eq_iff_iff]; simp; omega)
set_option maxHeartbeats 4000000 in
theorem runs1_c (l : List Sl) (b lp : Nat) (σ : List Ent) (I : Nat → List Ent → Prop) (Stop : List Ent → Prop)
    (hy : ∀ k r τ, (runsL l)[k]? = some r → I k τ → SRound Tryz.prog lp [sls r] τ fun r σ' => (r = .bool true ∧ I (k + 1) σ') ∨ (r = .bool false ∧ Stop σ')) (h0 : I 0 σ) :
    SCall Tryz.prog 69 [.fn (.yield lp) [] [], .ptr b 0] (.cells b [sls l] 22 :: σ) (fun _ σ' => I (runsL l).length σ' ∨ Stop σ') := by
  refine scall_of Tryz.func69 rfl (by simp) ?_
  refine zL ?_; rotate_left
  (all_goals (repeat (rename BV _ _ => hbv; first | cases hbv | clear hbv)))
  all_goals (try (first | cases ‹true = false› | cases ‹false = true›))
  refine ex_loop (fun (z : List Sl × Nat × List Ent) => (⟨[(0, .fn (.yield lp) [] []), (1, .ptr b 0)], .cells b [sls z.1] 22 :: z.2.2, [], Tryz.f69.ntmps⟩ : St)) (fun z => runsL z.1 = (runsL l).drop z.2.1 ∧ z.2.1 ≤ (runsL l).length ∧ I z.2.1 z.2.2) (fun z => z.1.length) (l, 0, σ) (⟨rfl, Nat.zero_le _, h0⟩) (St.le_of (by repeat (first | exact trivial | refine ⟨rfl, ?_⟩)) (by repeat (first | exact q_r | apply q_q | apply q_k))) ?_
  intro z hI
  obtain ⟨m, k, τ⟩ := z
  obtain ⟨hI1, hI2, hI3⟩ := hI
  dsimp only at hI1 hI2 hI3 ⊢
  clear h0
  cases m with
  | nil =>
    have hk : k = (runsL l).length := by
      rw [runsL] at hI1
      have := List.drop_eq_nil_iff.1 hI1.symm; omega
    clear hy
    refine zX ?_; refine zX (zZ ?_); refine xLd ?_; refine xLn ?_; refine xBi ?_; intro _ _; refine zY ?_; refine q_c (fun h h_k => ?_) (fun h h_k => ?_) <;> ((try subst h_k); (have hp := h; try simp only [q_n] at hp); (try (exfalso; first | omega | (cases hp; done))));
    refine ex_exit ?_; simp only [zP, zU, zT, zW, retA, ↓reduceIte, Nat.reduceEqDiff]; rotate_left
    (all_goals (repeat (rename BV _ _ => hbv; first | cases hbv | clear hbv)))
    all_goals (try (first | cases ‹true = false› | cases ‹false = true›))
    refine q_rq (σ3 := τ) ?_
    exact fin_done (.inl (by rw [← hk]; exact hI3))
  | cons x r =>
    obtain ⟨n, hn⟩ : ∃ n, (x :: r.takeWhile (sameT x)).length = n := ⟨_, rfl⟩
    have hnl : n ≤ (x :: r).length := by
      have := congrArg List.length (run_split x r)
      rw [List.length_append, hn] at this; omega
    have hn0 : 0 < n := by rw [← hn]; simp
    have htk : (x :: r).take n = x :: r.takeWhile (sameT x) := by
      have h := run_split x r
      rw [h, ← hn, List.take_left']; rfl
    have hdr : (x :: r).drop n = r.dropWhile (sameT x) := by
      have h := run_split x r
      rw [h, ← hn, List.drop_left']; rfl
    rw [runsL_cons, ← htk, ← hdr] at hI1
    have hkr : (runsL l)[k]? = some ((x :: r).take n) := by
      have := congrArg (fun m : List (List Sl) => m[0]?) hI1
      simpa using this.symm
    have hkd : runsL ((x :: r).drop n) = (runsL l).drop (k + 1) := by
      have := congrArg (fun m : List (List Sl) => m.drop 1) hI1
      simpa using this
    have hkl : k < (runsL l).length := (List.getElem?_eq_some_iff.1 hkr).1
    have hidx : idxFrom (fun s => !decide (s.tab = x.tab)) (x :: r) 0 = if r.dropWhile (sameT x) = [] then -1 else (n : Int) := by
      rw [idx_run]
      simp only [Bool.not_not]
      rw [List.dropWhile_cons_of_pos (by simp), List.takeWhile_cons_of_pos (by simp), Nat.zero_add, hn]
    rw [← hdr] at hidx
    have c1 := fSl_idx (x :: r) 71 [] [.ptr b 0] (fun s => !decide (s.tab = x.tab)) (.cells b [sls (x :: r)] 22 :: τ) (zV (by kernel_rfl)) (fun _ s _ => runs11_c s x (x :: r) rfl (by (repeat first | exact q_h | apply q_t | assumption); done))
    rw [hidx] at c1
    have hR := SRound.front [.cells b [sls (x :: r)] 22] (hy k _ τ hkr hI3)
    simp only [List.cons_append, List.nil_append] at hR
    rw [show sls (List.take n (x :: r)) = AV.dl 8 ((List.map slC (x :: r)).take n) from congrArg _ List.map_take] at hR
    have hlm : n ≤ ((x :: r).map slC).length := by rw [List.length_map]; exact hnl
    have hmes : ((x :: r).drop n).length < (x :: r).length := by rw [List.length_drop]; simp only [List.length_cons] at *; omega
    have hlen : 0 < (x :: r).length := by simp
    clear hy hI1 hidx hkr htk hdr hI3
    generalize hM : x :: r = M at *
    clear hM hn
    by_cases hD : M.drop n = []
    · have hMn : M.length = n := by have := List.drop_eq_nil_iff.1 hD; omega
      subst hMn
      rw [if_pos hD] at c1
      refine zX ?_; refine zX (zZ ?_); refine xLd ?_; refine xLn ?_; refine xBi ?_; intro _ _; refine zY ?_; refine q_c (fun h h_k => ?_) (fun h h_k => ?_) <;> ((try subst h_k); (have hp := h; try simp only [q_n] at hp); (try (exfalso; first | omega | (cases hp; done))));
      refine zR ?_; refine zL ?_; refine zX (zZ ?_); refine xLd ?_; apply zQ; rfl; rfl; rfl; (apply g_makeFunc; rfl; rfl); apply zQ; rfl; rfl; rfl; (refine zK rfl rfl (zV (by kernel_rfl)) ?_; exact c1); refine xAs ?_; refine zY ?_; refine zX ?_; refine zX (zZ ?_); refine xMv ?_; refine xBi ?_; intro _ _; refine zY ?_; refine q_c (fun h h_k => ?_) (fun h h_k => ?_) <;> ((try subst h_k); (have hp := h; try simp only [q_n] at hp); (try (exfalso; first | omega | (cases hp; done))));
      refine zZ ?_; refine xLd ?_; refine xLn ?_; refine xAs ?_; refine zY ?_; refine zX ?_; refine zX (zZ ?_); refine xMv ?_; refine xLd ?_; refine xMv ?_; refine xMv ?_; apply zQ; rfl; rfl; rfl; (exact g_slice3D rfl rfl rfl rfl rfl rfl hlm); refine exl_call rfl rfl rfl (g_yield rfl rfl hR) ?_; rintro _ _ ⟨σ2, rfl, ⟨rfl, hs2⟩ | ⟨rfl, hs2⟩⟩; refine xNo ?_; intro _ _; refine zY ?_; refine q_c (fun h h_k => ?_) (fun h h_k => ?_) <;> ((try subst h_k); (have hp := h; try simp only [q_n] at hp); (try (exfalso; first | omega | (cases hp; done))));
      refine zR ?_; refine zZ ?_; refine xLd ?_; refine xMv ?_; apply zQ; rfl; rfl; rfl; (apply g_sliceLo; rfl; rfl; rfl; (rfl); omega); refine xSt ?_; refine zN ?_; simp only [zP, zU, zT, zW, retA, ↓reduceIte, Nat.reduceEqDiff]; rotate_left; refine xNo ?_; intro _ _; refine zY ?_; refine q_c (fun h h_k => ?_) (fun h h_k => ?_) <;> ((try subst h_k); (have hp := h; try simp only [q_n] at hp); (try (exfalso; first | omega | (cases hp; done))));
      refine zJ ?_; simp only [zP, zU, zT, zW, retA, ↓reduceIte, Nat.reduceEqDiff]; rotate_left
      (all_goals (repeat (rename BV _ _ => hbv; first | cases hbv | clear hbv)))
      all_goals (try (first | cases ‹true = false› | cases ‹false = true›))
      · refine ⟨(M.drop M.length, k + 1, σ2), ⟨hkd, hkl, hs2⟩, hmes, ?_⟩
        dsimp only
        exact q_le
      · refine q_rq (σ3 := σ2) ?_
        exact fin_done (.inr hs2)
    · rw [if_neg hD] at c1
      refine zX ?_; refine zX (zZ ?_); refine xLd ?_; refine xLn ?_; refine xBi ?_; intro _ _; refine zY ?_; refine q_c (fun h h_k => ?_) (fun h h_k => ?_) <;> ((try subst h_k); (have hp := h; try simp only [q_n] at hp); (try (exfalso; first | omega | (cases hp; done))));
      refine zR ?_; refine zL ?_; refine zX (zZ ?_); refine xLd ?_; apply zQ; rfl; rfl; rfl; (apply g_makeFunc; rfl; rfl); apply zQ; rfl; rfl; rfl; (refine zK rfl rfl (zV (by kernel_rfl)) ?_; exact c1); refine xAs ?_; refine zY ?_; refine zX ?_; refine zX (zZ ?_); refine xMv ?_; refine xBi ?_; intro _ _; refine zY ?_; refine q_c (fun h h_k => ?_) (fun h h_k => ?_) <;> ((try subst h_k); (have hp := h; try simp only [q_n] at hp); (try (exfalso; first | omega | (cases hp; done))));
      refine zR ?_; refine zX ?_; refine zX (zZ ?_); refine xMv ?_; refine xLd ?_; refine xMv ?_; refine xMv ?_; apply zQ; rfl; rfl; rfl; (exact g_slice3D rfl rfl rfl rfl rfl rfl hlm); refine exl_call rfl rfl rfl (g_yield rfl rfl hR) ?_; rintro _ _ ⟨σ2, rfl, ⟨rfl, hs2⟩ | ⟨rfl, hs2⟩⟩; refine xNo ?_; intro _ _; refine zY ?_; refine q_c (fun h h_k => ?_) (fun h h_k => ?_) <;> ((try subst h_k); (have hp := h; try simp only [q_n] at hp); (try (exfalso; first | omega | (cases hp; done))));
      refine zR ?_; refine zZ ?_; refine xLd ?_; refine xMv ?_; apply zQ; rfl; rfl; rfl; (apply g_sliceLo; rfl; rfl; rfl; (rfl); omega); refine xSt ?_; refine zN ?_; simp only [zP, zU, zT, zW, retA, ↓reduceIte, Nat.reduceEqDiff]; rotate_left; refine xNo ?_; intro _ _; refine zY ?_; refine q_c (fun h h_k => ?_) (fun h h_k => ?_) <;> ((try subst h_k); (have hp := h; try simp only [q_n] at hp); (try (exfalso; first | omega | (cases hp; done))));
      refine zJ ?_; simp only [zP, zU, zT, zW, retA, ↓reduceIte, Nat.reduceEqDiff]; rotate_left
      (all_goals (repeat (rename BV _ _ => hbv; first | cases hbv | clear hbv)))
      all_goals (try (first | cases ‹true = false› | cases ‹false = true›))
      · refine ⟨(M.drop n, k + 1, σ2), ⟨hkd, hkl, hs2⟩, hmes, ?_⟩
        dsimp only
        exact q_le
      · refine q_rq (σ3 := σ2) ?_
        exact fin_done (.inr hs2)
theorem runs_c (l : List Sl) (σ : List Ent) : SCall Tryz.prog 33 [sls l] σ (fun r τ => ∃ b, r = .fn (.func 69) [] [.ptr b 0] ∧ τ = .cells b [sls l] 22 :: σ) := by
  refine scall_of Tryz.func33 rfl (by simp) ?_
  refine zX (zZ ?_); refine xBb ?_; intro _; refine xAs ?_; refine zY ?_; refine zX (zZ ?_); apply zQ; rfl; rfl; rfl; (apply g_makeFunc; rfl; rfl); refine xAs ?_; refine zY ?_; refine zJ ?_; simp only [zP, zU, zT, zW, retA, ↓reduceIte, Nat.reduceEqDiff]; rotate_left
  (all_goals (repeat (rename BV _ _ => hbv; first | cases hbv | clear hbv)))
  all_goals (try (first | cases ‹true = false› | cases ‹false = true›))
  rename Nat => b
  refine q_rq (σ3 := .cells b [sls l] 22 :: σ) ?_
  exact fin_done ⟨b, rfl, rfl⟩
end Go.Proofs.YtkhoengjdfmfaaaGreat
namespace Go.Proofs.YtkhoengjdfmfaaaGreat
theorem range_all (k : Nat) (f : Nat → Bool) : (List.range (k + 1)).all f = ((List.range k).all f && f k) := by
  rw [List.range_succ, List.all_append]; simp
theorem runs_ne : ∀ {n : Nat} {l : List Sl}, l.length ≤ n → ∀ r ∈ runsL l, r ≠ []
  | _, [], _, r, hr => by rw [runsL] at hr; simp at hr
  | 0, x :: l, h, _, _ => by simp at h
  | n + 1, x :: l, h, r, hr => by
    have hlen := dropW_len (sameT x) l
    rw [runsL_cons] at hr
    rcases List.mem_cons.1 hr with rfl | hr
    · simp
    · exact runs_ne (n := n) (by simp only [List.length_cons] at h; omega) r hr
def elAt (r : List Sl) (i : Nat) : Bool := match r[i]? with
  | some x => elB r i x
  | none => true
theorem elAt_some {r : List Sl} {i : Nat} {c : Sl} (h : r[i]? = some c) : elAt r i = elB r i c := by unfold elAt; rw [h]
theorem allE_at (r : List Sl) : allE r = (List.range r.length).all (elAt r) := rfl
theorem all_false {n i : Nat} {f : Nat → Bool} (hi : i < n) (h : f i = false) : (List.range n).all f = false := by
  rw [List.all_eq_false]; exact ⟨i, List.mem_range.2 hi, by rw [h]; simp⟩
set_option maxHeartbeats 8000000 in
theorem check_c (l : List Sl) (σ : List Ent) : SCall Tryz.prog 23 [.agg [sls l]] σ (Is (.int .i64 (checkS l)) σ) := by
  refine scall_of Tryz.func23 rfl (by simp) ?_
  by_cases h512 : (512 : Int) < l.length
  · rw [show checkS l = 2 by unfold checkS; rw [if_pos h512]]
    refine zX (zZ ?_); refine xBb ?_; intro _; refine xBa ?_; intro _; refine zY ?_; refine zX ?_; refine zX (zZ ?_); refine xFa ?_; refine xLd ?_; refine xLn ?_; refine xBi ?_; intro _ _; refine zY ?_; refine q_c (fun h h_k => ?_) (fun h h_k => ?_) <;> ((try subst h_k); (have hp := h; try simp only [q_n] at hp); (try (exfalso; first | omega | (cases hp; done))));
    refine zX (zZ ?_); refine xSt ?_; refine zY ?_; refine zJ ?_; simp only [zP, zU, zT, zW, retA, ↓reduceIte, Nat.reduceEqDiff]; rotate_left
    (all_goals (repeat (rename BV _ _ => hbv; first | cases hbv | clear hbv)))
    all_goals (try (first | cases ‹true = false› | cases ‹false = true›))
    refine q_ri ?_
    rfl
  · rw [show checkS l = if runsB (-1) (runsL l) then 0 else 540 by unfold checkS; rw [if_neg h512, runs_book]]
    obtain ⟨B, hB⟩ : ∃ B, runsB (-1) (runsL l) = B := ⟨_, rfl⟩
    rw [hB]
    refine zX (zZ ?_); refine xBb ?_; intro _; refine xBa ?_; intro _; refine zY ?_; refine zX ?_; refine zX (zZ ?_); refine xFa ?_; refine xLd ?_; refine xLn ?_; refine xBi ?_; intro _ _; refine zY ?_; refine q_c (fun h h_k => ?_) (fun h h_k => ?_) <;> ((try subst h_k); (have hp := h; try simp only [q_n] at hp); (try (exfalso; first | omega | (cases hp; done))));
    refine zR ?_; refine zX (zZ ?_); refine xBa ?_; intro _; refine xSt ?_; refine zY ?_; refine zX ?_; refine zX (zZ ?_); refine xFa ?_; refine xLd ?_; refine exl_call rfl rfl rfl (zK rfl rfl (zV (by kernel_rfl)) (runs_c _ _)) ?_; rintro _ _ ⟨bs, rfl, rfl⟩; refine zY ?_; refine zL ?_; rotate_left
    (all_goals (repeat (rename BV _ _ => hbv; first | cases hbv | clear hbv)))
    all_goals (try (first | cases ‹true = false› | cases ‹false = true›))
    rename Nat => bs; revert bs; rename Nat => b3; revert b3; rename Nat => b2; revert b2; rename Nat => b1; revert b1
    intro b1 b2 b3 bs
    refine ex_weaken (s' := ⟨[(2, .ptr b2 0), (3, .ptr b3 0), (13, .fn (.func 69) [] [.ptr bs 0])], .cells bs [sls l] 22 :: .cells b3 [.int .i64 (-1)] 3 :: .cells b2 [.int .i64 0] 27 :: σ, [], Tryz.f23.ntmps⟩) (St.le_of (by repeat (first | exact trivial | refine ⟨rfl, ?_⟩)) (by repeat (first | exact q_r | apply q_q | apply q_k))) ?_
    refine ex_range rfl (zV (by kernel_rfl)) ?_
    intro D l0 fn
    show SCall _ _ _ (Ent.loop _ _ _ _ ?ee ?nn ?ps ?asg ?body _ :: _) _
    obtain ⟨L, hL⟩ : ∃ L, L = Ent.loop l0 .ready none fn ?ee ?nn ?ps ?asg ?body D := ⟨_, rfl⟩
    obtain ⟨L2, hL2⟩ : ∃ L2, L2 = Ent.loop l0 .done (some .ret) fn ?ee ?nn ?ps ?asg ?body D := ⟨_, rfl⟩
    obtain ⟨L3, hL3⟩ : ∃ L3, L3 = Ent.loop l0 .busy none fn ?ee ?nn ?ps ?asg ?body D := ⟨_, rfl⟩
    rw [← hL]
    refine scall_permu (List.perm_append_comm_assoc [L, .obj D (.deferred (some []))] [.cells bs [sls l] 22] _) ?_
    have hrn := runs_ne (Nat.le_refl l.length)
    refine SCall.mono (runs1_c l bs l0 _
      (fun k τ => ∃ last : Int, τ = L :: .obj D (.deferred (some [])) :: .cells b3 [.int .i64 last] 3 :: .cells b2 [.int .i64 0] 27 :: σ ∧ (-1 ≤ last ∧ last ≤ 7) ∧ runsB last ((runsL l).drop k) = B)
      (fun τ => ∃ last : Int, τ = L2 :: .obj D (.deferred (some [])) :: .cells b3 [.int .i64 last] 3 :: .cells b2 [.int .i64 540] 27 :: σ ∧ B = false) ?_ ⟨-1, rfl, by omega, hB⟩) ?_
    · rintro k r τ hkr ⟨last, rfl, hlast, hI⟩
      rw [sl_drop hkr, runsB] at hI
      have hr0 := hrn r (List.mem_of_getElem? hkr)
      obtain ⟨x, hx⟩ : ∃ x, r[0]? = some x := by
        cases r with
        | nil => exact absurd rfl hr0
        | cons x r => exact ⟨x, rfl⟩
      have hgx := sl_get hx
      have htr : tabR r = x.tab := by
        cases r with
        | nil => exact absurd rfl hr0
        | cons y r => simp at hx; subst hx; rfl
      have hrb : runB last r = (inB x.tab (last + 1) 7 && allE r) := by
        cases r with
        | nil => exact absurd rfl hr0
        | cons y r => simp at hx; subst hx; rfl
      rw [htr, hrb] at hI
      generalize (runsL l).drop (k + 1) = R at hI ⊢
      clear hrn hB hkr hr0 htr hrb h512
      rw [hL]
      refine SRound.sub ?_
      refine sround (by (repeat first | exact q_h | apply q_t | assumption); done) rfl (by decide) ?_
      have c1 := in_c x.tab (last + 1) 7
      cases hin : inB x.tab (last + 1) 7 with
      | false =>
        rw [hin] at c1 hI
        rw [Bool.false_and, Bool.false_and] at hI
        refine zZ ?_; refine xAs ?_; refine zN ?_; simp only [zP]; refine ⟨_, (by (exact Upd.here)), ?_⟩; show EX _ _ _ _ _; refine zL ?_; refine zX ?_; refine zX ?_; refine ex_drawC rfl rfl (by kernel_rfl) rfl ?_; refine ex_drawQ rfl (by kernel_rfl) rfl ?_; refine wMv ?_; refine wIx ?_; refine wFa ?_; refine wLd ?_; refine wLd ?_; apply wl_is; rfl; rfl; rfl; (intro σ' hl; (apply g_add; rfl; rfl; rfl; exact ⟨by omega, by omega⟩)); apply wl_isB; rfl; rfl; rfl; (intro σ' hl; (refine zK rfl rfl (zV (by kernel_rfl)) ?_; exact c1 _)); intro _ _; apply wl_isB; rfl; rfl; rfl; (intro σ' hl; (apply g_not; rfl)); intro _ _; refine wl_nil ?_; show EX _ _ _ _ _; refine q_c (fun h h_k => ?_) (fun h h_k => ?_) <;> ((try subst h_k); (have hp := h; try simp only [q_n] at hp); (try (exfalso; first | omega | (cases hp; done))));
        refine zX (zZ ?_); refine xSt ?_; refine zY ?_; refine zJ ?_; simp only [zP, zU, zT, zW, retA, ↓reduceIte, Nat.reduceEqDiff]; show rndA _ _ _ _ _ _ _ _ _ _ _; refine ⟨_, _, rfl, (by (exact Upd.here)), ?_⟩; simp only [zP, zU, zT, zW, retA, ↓reduceIte, Nat.reduceEqDiff]; rotate_left; refine zR ?_; refine zX (zZ ?_); refine xMv ?_; refine xIx ?_; refine xFa ?_; refine xLd ?_; refine xSt ?_; refine zY ?_; refine zX (zZ ?_); refine xMv ?_; refine xLn ?_; refine xMv ?_; refine zY ?_; refine zL ?_; rotate_left
        (all_goals (repeat (rename BV _ _ => hbv; first | cases hbv | clear hbv)))
        all_goals (try (first | cases ‹true = false› | cases ‹false = true›))
        subst hL hL2
        exact ⟨_, List.Sublist.refl _, .inr ⟨rfl, last, rfl, hI.symm⟩⟩
      | true =>
        rw [hin] at c1 hI
        rw [Bool.true_and] at hI
        have hxt := inB_iff.1 hin
        clear hin
        refine zZ ?_; refine xAs ?_; refine zN ?_; simp only [zP]; refine ⟨_, (by (exact Upd.here)), ?_⟩; show EX _ _ _ _ _; refine zL ?_; refine zX ?_; refine zX ?_; refine ex_drawC rfl rfl (by kernel_rfl) rfl ?_; refine ex_drawQ rfl (by kernel_rfl) rfl ?_; refine wMv ?_; refine wIx ?_; refine wFa ?_; refine wLd ?_; refine wLd ?_; apply wl_is; rfl; rfl; rfl; (intro σ' hl; (apply g_add; rfl; rfl; rfl; exact ⟨by omega, by omega⟩)); apply wl_isB; rfl; rfl; rfl; (intro σ' hl; (refine zK rfl rfl (zV (by kernel_rfl)) ?_; exact c1 _)); intro _ _; apply wl_isB; rfl; rfl; rfl; (intro σ' hl; (apply g_not; rfl)); intro _ _; refine wl_nil ?_; show EX _ _ _ _ _; refine q_c (fun h h_k => ?_) (fun h h_k => ?_) <;> ((try subst h_k); (have hp := h; try simp only [q_n] at hp); (try (exfalso; first | omega | (cases hp; done))));
        refine zX (zZ ?_); refine xSt ?_; refine zY ?_; refine zJ ?_; simp only [zP, zU, zT, zW, retA, ↓reduceIte, Nat.reduceEqDiff]; show rndA _ _ _ _ _ _ _ _ _ _ _; refine ⟨_, _, rfl, (by (exact Upd.here)), ?_⟩; simp only [zP, zU, zT, zW, retA, ↓reduceIte, Nat.reduceEqDiff]; rotate_left; refine zR ?_; refine zX (zZ ?_); refine xMv ?_; refine xIx ?_; refine xFa ?_; refine xLd ?_; refine xSt ?_; refine zY ?_; refine zX (zZ ?_); refine xMv ?_; refine xLn ?_; refine xMv ?_; refine zY ?_; refine zL ?_; rotate_left
        (all_goals (repeat (rename BV _ _ => hbv; first | cases hbv | clear hbv)))
        all_goals (try (first | cases ‹true = false› | cases ‹false = true›))
        clear c1
        rw [allE_at] at hI
        have hJ := hI
        clear hI
        rw [← hL3]
        refine ex_loop (fun (i : Nat) => (⟨[(2, .ptr b2 0), (3, .ptr b3 0), (4, sls r), (27, sls r), (28, .int .i64 r.length), (29, .int .i64 i)], L3 :: .obj D (.deferred (some [])) :: .cells b3 [.int .i64 x.tab] 3 :: .cells b2 [.int .i64 0] 27 :: σ, [], Tryz.f23.ntmps⟩ : St)) (fun i => i ≤ r.length ∧ (List.range i).all (elAt r) = true) (fun i => r.length - i) 0 (⟨Nat.zero_le _, rfl⟩) (St.le_of (by repeat (first | exact trivial | refine ⟨rfl, ?_⟩)) (by repeat (first | exact q_r | apply q_q | apply q_k))) ?_
        intro i hI
        obtain ⟨hI1, hI2⟩ := hI
        rw [hL3]
        refine ex_len (t := 27) rfl ((List.length_map _).symm) (fun hrl => ?_)
        by_cases hi : i < r.length
        · obtain ⟨c, hc⟩ : ∃ c, r[i]? = some c := ⟨_, List.getElem?_eq_getElem hi⟩
          have hgc := sl_get hc
          have hst := range_all i (elAt r)
          rw [hI2, Bool.true_and, elAt_some hc] at hst
          have hbad : elB r i c = false → B = false := fun h => by
            rw [← hJ, all_false hi (by rw [elAt_some hc, h]), Bool.false_and]
          have cv := valid_c c
          clear hJ hI2
          unfold elB at hst hbad
          cases hv : slipB c with
          | false =>
            rw [hv] at cv hst hbad
            rw [Bool.and_false, Bool.false_and] at hbad
            refine zX (zZ ?_); refine xBi ?_; intro _ _; refine zY ?_; refine zX ?_; refine q_c (fun h h_k => ?_) (fun h h_k => ?_) <;> ((try subst h_k); (have hp := h; try simp only [q_n] at hp); (try (exfalso; first | omega | (cases hp; done))));
            refine zR ?_; refine zX ?_; refine zL ?_; refine zX (zZ ?_); refine xMv ?_; refine xIx ?_; refine xLa ?_; refine xBa ?_; intro _; refine xAs ?_; refine xSt ?_; refine zY ?_; refine zX (zZ ?_); refine xFa ?_; refine xLd ?_; refine xMv ?_; refine xBi ?_; intro _ _; refine xMv ?_; refine q_d (fun h h_k => ?_) (fun h h_k => ?_) <;> ((try subst h_k); (have hp := h; try simp only [q_n] at hp); (try (exfalso; first | omega | (cases hp; done))));
            refine xSk ?_; refine xSk ?_; refine xSk ?_; refine xPt ?_; refine xMv ?_; refine xSk ?_; refine xSk ?_; refine xSk ?_; refine xSk ?_; refine xSr ?_; refine xSr ?_; refine xSr ?_; refine xSr ?_; refine xSr ?_; refine xSr ?_; refine xSr ?_; refine xSr ?_; refine xSk ?_; refine xPt ?_; refine zY ?_; refine ex_cond_t rfl (by rfl) ?_; refine zX (zZ ?_); refine xSt ?_; refine zY ?_; refine zJ ?_; simp only [zP, zU, zT, zW, retA, ↓reduceIte, Nat.reduceEqDiff]; show rndA _ _ _ _ _ _ _ _ _ _ _; refine ⟨_, _, rfl, (by (exact Upd.there (Upd.here))), ?_⟩; simp only [zP, zU, zT, zW, retA, ↓reduceIte, Nat.reduceEqDiff]; rotate_left; refine yLa ?_; apply exl_isBW; rfl; (rfl); rfl; rfl; (refine zK rfl rfl (zV (by kernel_rfl)) ?_; exact cv _); intro _ _; refine yNo ?_; intro _ _; refine xPf ?_; refine xMv ?_; refine q_d (fun h h_k => ?_) (fun h h_k => ?_) <;> ((try subst h_k); (have hp := h; try simp only [q_n] at hp); (try (exfalso; first | omega | (cases hp; done))));
            refine xSk ?_; refine xSk ?_; refine xSk ?_; refine xSk ?_; refine xSr ?_; refine xSr ?_; refine xSr ?_; refine xSr ?_; refine xSr ?_; refine xSr ?_; refine xSr ?_; refine xSr ?_; refine xSk ?_; refine xPt ?_; refine zY ?_; refine ex_cond_t rfl (by rfl) ?_; refine zX (zZ ?_); refine xSt ?_; refine zY ?_; refine zJ ?_; simp only [zP, zU, zT, zW, retA, ↓reduceIte, Nat.reduceEqDiff]; show rndA _ _ _ _ _ _ _ _ _ _ _; refine ⟨_, _, rfl, (by (exact Upd.there (Upd.here))), ?_⟩; simp only [zP, zU, zT, zW, retA, ↓reduceIte, Nat.reduceEqDiff]; rotate_left; refine yFa ?_; refine yLd ?_; refine yBi ?_; intro _ _; refine yMv ?_; refine q_d (fun h h_k => ?_) (fun h h_k => ?_) <;> ((try subst h_k); (have hp := h; try simp only [q_n] at hp); (try (exfalso; first | omega | (cases hp; done))));
            refine yMv ?_; refine yFa ?_; refine yLd ?_; apply exl_isW; rfl; (rfl); rfl; rfl; (apply g_binInt; rfl; rfl; rfl); rotate_left; refine xSk ?_; refine xSk ?_; refine xSk ?_; refine xSk ?_; refine xSk ?_; refine xSk ?_; refine xSk ?_; refine xSk ?_; apply exl_isW; rfl; (rfl); rfl; rfl; (apply g_pick_f; rfl; (rfl); rfl); refine xPf ?_; refine zY ?_; refine ex_cond_f rfl (by rfl) ?_; refine zR ?_; refine zZ ?_; refine xAd ?_; refine xMv ?_; refine zN ?_; simp only [zP, zU, zT, zW, retA, ↓reduceIte, Nat.reduceEqDiff]; rotate_left
            (all_goals (repeat (rename BV _ _ => hbv; first | cases hbv | clear hbv)))
            all_goals (try (first | cases ‹true = false› | cases ‹false = true›))
            · rw [hbad rfl]
              subst hL hL2 hL3
              exact ⟨_, (by repeat (first | exact q_r | apply q_q | apply q_k | exact q_a)), .inr ⟨rfl, _, rfl, rfl⟩⟩
            · rw [hbad rfl]
              subst hL hL2 hL3
              exact ⟨_, (by repeat (first | exact q_r | apply q_q | apply q_k | exact q_a)), .inr ⟨rfl, _, rfl, rfl⟩⟩
          | true =>
            rw [hv] at cv hst hbad
            by_cases hk : c.kind = 3
            · have ho := slip_off hv hk
              by_cases hs : c.seq = i
              · obtain ⟨y, hy⟩ : ∃ y, r[(c.off - 1).toNat]? = some y := get_some (by omega)
                rw [hy] at hst hbad
                obtain ⟨j, hj⟩ : ∃ j, (c.off - 1).toNat = j := ⟨_, rfl⟩
                rw [hj] at hy
                have hjz : c.off - 1 = (j : Int) := by omega
                have hgy := sl_get hy
                dsimp only at hst hbad
                refine zX (zZ ?_); refine xBi ?_; intro _ _; refine zY ?_; refine zX ?_; refine q_c (fun h h_k => ?_) (fun h h_k => ?_) <;> ((try subst h_k); (have hp := h; try simp only [q_n] at hp); (try (exfalso; first | omega | (cases hp; done))));
                refine zR ?_; refine zX ?_; refine zL ?_; refine zX (zZ ?_); refine xMv ?_; refine xIx ?_; refine xLa ?_; refine xBa ?_; intro _; refine xAs ?_; refine xSt ?_; refine zY ?_; refine zX (zZ ?_); refine xFa ?_; refine xLd ?_; refine xMv ?_; refine xBi ?_; intro _ _; refine xMv ?_; refine q_d (fun h h_k => ?_) (fun h h_k => ?_) <;> ((try subst h_k); (have hp := h; try simp only [q_n] at hp); (try (exfalso; first | omega | (cases hp; done))));
                refine yLa ?_; apply exl_isBW; rfl; (rfl); rfl; rfl; (refine zK rfl rfl (zV (by kernel_rfl)) ?_; exact cv _); intro _ _; refine yNo ?_; intro _ _; refine xPf ?_; refine xMv ?_; refine q_d (fun h h_k => ?_) (fun h h_k => ?_) <;> ((try subst h_k); (have hp := h; try simp only [q_n] at hp); (try (exfalso; first | omega | (cases hp; done))));
                refine xSk ?_; refine xSk ?_; refine xSk ?_; refine xSk ?_; refine xSr ?_; refine xSr ?_; refine xSr ?_; refine xSr ?_; refine xSr ?_; refine xSr ?_; refine xSr ?_; refine xSr ?_; refine xSk ?_; refine xPt ?_; refine zY ?_; refine ex_cond_t rfl (by rfl) ?_; refine zX (zZ ?_); refine xSt ?_; refine zY ?_; refine zJ ?_; simp only [zP, zU, zT, zW, retA, ↓reduceIte, Nat.reduceEqDiff]; show rndA _ _ _ _ _ _ _ _ _ _ _; refine ⟨_, _, rfl, (by (exact Upd.there (Upd.here))), ?_⟩; simp only [zP, zU, zT, zW, retA, ↓reduceIte, Nat.reduceEqDiff]; rotate_left; refine yFa ?_; refine yLd ?_; refine yBi ?_; intro _ _; refine yMv ?_; refine q_d (fun h h_k => ?_) (fun h h_k => ?_) <;> ((try subst h_k); (have hp := h; try simp only [q_n] at hp); (try (exfalso; first | omega | (cases hp; done))));
                refine yMv ?_; refine yFa ?_; refine yLd ?_; apply exl_isW; rfl; (rfl); rfl; rfl; (apply g_sub; rfl; rfl; rfl; exact ⟨by omega, by omega⟩); refine yIx ?_; refine yFa ?_; refine yLd ?_; refine yBi ?_; intro _ _; apply exl_isW; rfl; (rfl); rfl; rfl; (apply g_pick_t; rfl; (rfl); rfl); refine xPf ?_; refine zY ?_; refine q_c (fun h h_k => ?_) (fun h h_k => ?_) <;> ((try subst h_k); (have hp := h; try simp only [q_n] at hp); (try (exfalso; first | omega | (cases hp; done))));
                refine zX (zZ ?_); refine xSt ?_; refine zY ?_; refine zJ ?_; simp only [zP, zU, zT, zW, retA, ↓reduceIte, Nat.reduceEqDiff]; show rndA _ _ _ _ _ _ _ _ _ _ _; refine ⟨_, _, rfl, (by (exact Upd.there (Upd.here))), ?_⟩; simp only [zP, zU, zT, zW, retA, ↓reduceIte, Nat.reduceEqDiff]; rotate_left; refine zR ?_; refine zZ ?_; refine xAd ?_; refine xMv ?_; refine zN ?_; simp only [zP, zU, zT, zW, retA, ↓reduceIte, Nat.reduceEqDiff]; rotate_left
                (all_goals (repeat (rename BV _ _ => hbv; first | cases hbv | clear hbv)))
                all_goals (try (first | cases ‹true = false› | cases ‹false = true›))
                · rw [hbad (by simp [*])]
                  subst hL hL2 hL3
                  exact ⟨_, (by repeat (first | exact q_r | apply q_q | apply q_k | exact q_a)), .inr ⟨rfl, _, rfl, rfl⟩⟩
                · refine ⟨i + 1, ⟨hi, by rw [hst]; simp [*]⟩, by omega, ?_⟩
                  exact q_le
              · refine zX (zZ ?_); refine xBi ?_; intro _ _; refine zY ?_; refine zX ?_; refine q_c (fun h h_k => ?_) (fun h h_k => ?_) <;> ((try subst h_k); (have hp := h; try simp only [q_n] at hp); (try (exfalso; first | omega | (cases hp; done))));
                refine zR ?_; refine zX ?_; refine zL ?_; refine zX (zZ ?_); refine xMv ?_; refine xIx ?_; refine xLa ?_; refine xBa ?_; intro _; refine xAs ?_; refine xSt ?_; refine zY ?_; refine zX (zZ ?_); refine xFa ?_; refine xLd ?_; refine xMv ?_; refine xBi ?_; intro _ _; refine xMv ?_; refine q_d (fun h h_k => ?_) (fun h h_k => ?_) <;> ((try subst h_k); (have hp := h; try simp only [q_n] at hp); (try (exfalso; first | omega | (cases hp; done))));
                refine xSk ?_; refine xSk ?_; refine xSk ?_; refine xPt ?_; refine xMv ?_; refine xSk ?_; refine xSk ?_; refine xSk ?_; refine xSk ?_; refine xSr ?_; refine xSr ?_; refine xSr ?_; refine xSr ?_; refine xSr ?_; refine xSr ?_; refine xSr ?_; refine xSr ?_; refine xSk ?_; refine xPt ?_; refine zY ?_; refine ex_cond_t rfl (by rfl) ?_; refine zX (zZ ?_); refine xSt ?_; refine zY ?_; refine zJ ?_; simp only [zP, zU, zT, zW, retA, ↓reduceIte, Nat.reduceEqDiff]; show rndA _ _ _ _ _ _ _ _ _ _ _; refine ⟨_, _, rfl, (by (exact Upd.there (Upd.here))), ?_⟩; simp only [zP, zU, zT, zW, retA, ↓reduceIte, Nat.reduceEqDiff]; rotate_left
                (all_goals (repeat (rename BV _ _ => hbv; first | cases hbv | clear hbv)))
                all_goals (try (first | cases ‹true = false› | cases ‹false = true›))
                rw [hbad (by simp [hs])]
                subst hL hL2 hL3
                exact ⟨_, (by repeat (first | exact q_r | apply q_q | apply q_k | exact q_a)), .inr ⟨rfl, _, rfl, rfl⟩⟩
            · refine zX (zZ ?_); refine xBi ?_; intro _ _; refine zY ?_; refine zX ?_; refine q_c (fun h h_k => ?_) (fun h h_k => ?_) <;> ((try subst h_k); (have hp := h; try simp only [q_n] at hp); (try (exfalso; first | omega | (cases hp; done))));
              refine zR ?_; refine zX ?_; refine zL ?_; refine zX (zZ ?_); refine xMv ?_; refine xIx ?_; refine xLa ?_; refine xBa ?_; intro _; refine xAs ?_; refine xSt ?_; refine zY ?_; refine zX (zZ ?_); refine xFa ?_; refine xLd ?_; refine xMv ?_; refine xBi ?_; intro _ _; refine xMv ?_; refine q_d (fun h h_k => ?_) (fun h h_k => ?_) <;> ((try subst h_k); (have hp := h; try simp only [q_n] at hp); (try (exfalso; first | omega | (cases hp; done))));
              refine xSk ?_; refine xSk ?_; refine xSk ?_; refine xPt ?_; refine xMv ?_; refine xSk ?_; refine xSk ?_; refine xSk ?_; refine xSk ?_; refine xSr ?_; refine xSr ?_; refine xSr ?_; refine xSr ?_; refine xSr ?_; refine xSr ?_; refine xSr ?_; refine xSr ?_; refine xSk ?_; refine xPt ?_; refine zY ?_; refine ex_cond_t rfl (by rfl) ?_; refine zX (zZ ?_); refine xSt ?_; refine zY ?_; refine zJ ?_; simp only [zP, zU, zT, zW, retA, ↓reduceIte, Nat.reduceEqDiff]; show rndA _ _ _ _ _ _ _ _ _ _ _; refine ⟨_, _, rfl, (by (exact Upd.there (Upd.here))), ?_⟩; simp only [zP, zU, zT, zW, retA, ↓reduceIte, Nat.reduceEqDiff]; rotate_left; refine yLa ?_; apply exl_isBW; rfl; (rfl); rfl; rfl; (refine zK rfl rfl (zV (by kernel_rfl)) ?_; exact cv _); intro _ _; refine yNo ?_; intro _ _; refine xPf ?_; refine xMv ?_; refine q_d (fun h h_k => ?_) (fun h h_k => ?_) <;> ((try subst h_k); (have hp := h; try simp only [q_n] at hp); (try (exfalso; first | omega | (cases hp; done))));
              refine xSk ?_; refine xSk ?_; refine xSk ?_; refine xSk ?_; refine xSr ?_; refine xSr ?_; refine xSr ?_; refine xSr ?_; refine xSr ?_; refine xSr ?_; refine xSr ?_; refine xSr ?_; refine xSk ?_; refine xPt ?_; refine zY ?_; refine ex_cond_t rfl (by rfl) ?_; refine zX (zZ ?_); refine xSt ?_; refine zY ?_; refine zJ ?_; simp only [zP, zU, zT, zW, retA, ↓reduceIte, Nat.reduceEqDiff]; show rndA _ _ _ _ _ _ _ _ _ _ _; refine ⟨_, _, rfl, (by (exact Upd.there (Upd.here))), ?_⟩; simp only [zP, zU, zT, zW, retA, ↓reduceIte, Nat.reduceEqDiff]; rotate_left; refine yFa ?_; refine yLd ?_; refine yBi ?_; intro _ _; refine yMv ?_; refine q_d (fun h h_k => ?_) (fun h h_k => ?_) <;> ((try subst h_k); (have hp := h; try simp only [q_n] at hp); (try (exfalso; first | omega | (cases hp; done))));
              refine xSk ?_; refine xSk ?_; refine xSk ?_; refine xSk ?_; refine xSk ?_; refine xSk ?_; refine xSk ?_; refine xSk ?_; apply exl_isW; rfl; (rfl); rfl; rfl; (apply g_pick_f; rfl; (rfl); rfl); refine xPf ?_; refine zY ?_; refine ex_cond_f rfl (by rfl) ?_; refine zR ?_; refine zZ ?_; refine xAd ?_; refine xMv ?_; refine zN ?_; simp only [zP, zU, zT, zW, retA, ↓reduceIte, Nat.reduceEqDiff]; rotate_left
              (all_goals (repeat (rename BV _ _ => hbv; first | cases hbv | clear hbv)))
              all_goals (try (first | cases ‹true = false› | cases ‹false = true›))
              · rw [hbad (by simp [*])]
                subst hL hL2 hL3
                exact ⟨_, (by repeat (first | exact q_r | apply q_q | apply q_k | exact q_a)), .inr ⟨rfl, _, rfl, rfl⟩⟩
              · refine ⟨i + 1, ⟨hi, by rw [hst]; simp [*]⟩, by omega, ?_⟩
                exact q_le
        · have e : i = r.length := by omega
          subst e
          rw [hI2, Bool.true_and] at hJ
          refine zX (zZ ?_); refine xBi ?_; intro _ _; refine zY ?_; refine zX ?_; refine q_c (fun h h_k => ?_) (fun h h_k => ?_) <;> ((try subst h_k); (have hp := h; try simp only [q_n] at hp); (try (exfalso; first | omega | (cases hp; done))));
          refine ex_exit ?_; simp only [zP, zU, zT, zW, retA, ↓reduceIte, Nat.reduceEqDiff]; show rndA _ _ _ _ _ _ _ _ _ _ _; refine ⟨_, _, rfl, (by (exact Upd.here)), ?_⟩; simp only [zP, zU, zT, zW, retA, ↓reduceIte, Nat.reduceEqDiff]; rotate_left
          (all_goals (repeat (rename BV _ _ => hbv; first | cases hbv | clear hbv)))
          all_goals (try (first | cases ‹true = false› | cases ‹false = true›))
          subst hL hL2 hL3
          exact ⟨_, List.Sublist.refl _, .inl ⟨rfl, _, rfl, by omega, hJ⟩⟩
    · rintro r τ (⟨last, rfl, hlast, hI⟩ | ⟨last, rfl, hI⟩)
      · rw [hL]
        refine RangeEnd.done .here ?_
        rw [List.drop_length] at hI
        rw [← hI]
        refine zX (zZ ?_); refine xSt ?_; refine zY ?_; refine zJ ?_; simp only [zP, zU, zT, zW, retA, ↓reduceIte, Nat.reduceEqDiff]; rotate_left
        (all_goals (repeat (rename BV _ _ => hbv; first | cases hbv | clear hbv)))
        all_goals (try (first | cases ‹true = false› | cases ‹false = true›))
        refine ret_q (σ3 := σ) (.cons .here .nil) ((by repeat (first | exact Res.nil | (apply Res.cons; (first | (apply Res1.ofTmp; rfl) | (apply Res1.ofCell; rfl; rfl; (first | exact .e rfl | exact .p (by (repeat first | exact q_h | apply q_t | assumption); done) rfl | exact .r (by (repeat first | exact q_h | apply q_t | assumption); done) rfl)) | (apply Res1.ofAgg; rfl; rfl; decide; (first | exact .e rfl rfl | exact .p (by (repeat first | exact q_h | apply q_t | assumption); done) rfl rfl | exact .r (by (repeat first | exact q_h | apply q_t | assumption); done) rfl rfl))))))) (by repeat (first | exact q_r | apply q_q | apply q_k | exact q_a)) ?_
        exact fin_done .mk
      · rw [hL2, hI]
        refine RangeEnd.jump .here ?_
        refine zJ ?_; simp only [zP, zU, zT, zW, retA, ↓reduceIte, Nat.reduceEqDiff]; rotate_left
        (all_goals (repeat (rename BV _ _ => hbv; first | cases hbv | clear hbv)))
        all_goals (try (first | cases ‹true = false› | cases ‹false = true›))
        refine ret_q (σ3 := σ) (.cons .here .nil) ((by repeat (first | exact Res.nil | (apply Res.cons; (first | (apply Res1.ofTmp; rfl) | (apply Res1.ofCell; rfl; rfl; (first | exact .e rfl | exact .p (by (repeat first | exact q_h | apply q_t | assumption); done) rfl | exact .r (by (repeat first | exact q_h | apply q_t | assumption); done) rfl)) | (apply Res1.ofAgg; rfl; rfl; decide; (first | exact .e rfl rfl | exact .p (by (repeat first | exact q_h | apply q_t | assumption); done) rfl rfl | exact .r (by (repeat first | exact q_h | apply q_t | assumption); done) rfl rfl))))))) (by repeat (first | exact q_r | apply q_q | apply q_k | exact q_a)) ?_
        exact fin_done .mk
end Go.Proofs.YtkhoengjdfmfaaaGreat
namespace Go.Proofs.YtkhoengjdfmfaaaGreat
theorem count_take {l : List Sl} {k : Nat} {c : Sl} (h : l[k]? = some c) (p : Sl → Bool) : (l.take (k + 1)).countP p = (l.take k).countP p + if p c then 1 else 0 := by
  rw [List.take_add_one, h, List.countP_append]
  simp [List.countP_cons]
theorem atS_take {l : List Sl} {k : Nat} {c : Sl} (h : l[k]? = some c) (t : Int) : atS (l.take (k + 1)) t = atS (l.take k) t + if c.tab ≤ t then 1 else 0 := by
  unfold atS; rw [count_take h]; simp
theorem manyS_take {l : List Sl} {k : Nat} {c : Sl} (h : l[k]? = some c) (t : Int) : manyS (l.take (k + 1)) t = manyS (l.take k) t + if c.tab = t then 1 else 0 := by
  unfold manyS; rw [count_take h]; simp
theorem at_le (l : List Sl) (t : Int) : atS l t ≤ l.length := List.countP_le_length
theorem many_le (l : List Sl) (t : Int) : manyS l t ≤ l.length := List.countP_le_length
set_option maxHeartbeats 4000000 in
theorem end_c (l : List Sl) (t : Int) (σ : List Ent) : SCall Tryz.prog 60 [.agg [sls l], .int .i64 t] σ (Is (.tup [.int .i64 (atS l t : Nat), .int .i64 (manyS l t : Nat)]) σ) := by
  refine scall_of Tryz.func60 rfl (by simp) ?_
  refine zX (zZ ?_); refine xBb ?_; intro _; refine xAs ?_; refine xAs ?_; refine zY ?_; refine zX ?_; refine zX (zZ ?_); refine xFa ?_; refine xLd ?_; refine xLn ?_; refine xMv ?_; refine zY ?_; refine zL ?_; rotate_left
  (all_goals (repeat (rename BV _ _ => hbv; first | cases hbv | clear hbv)))
  all_goals (try (first | cases ‹true = false› | cases ‹false = true›))
  refine ex_len (t := 9) rfl ((List.length_map _).symm) (fun hlen => ?_)
  refine ex_loop (fun (z : Nat × Nat × Nat) => (⟨[(1, .int .i64 t), (4, .int .i64 (z.2.1 : Int)), (5, .int .i64 (z.2.2 : Int)), (9, sls l), (10, .int .i64 l.length), (11, .int .i64 z.1)], σ, [], Tryz.f60.ntmps⟩ : St)) (fun z => z.1 ≤ l.length ∧ z.2.1 = atS (l.take z.1) t ∧ z.2.2 = manyS (l.take z.1) t) (fun z => l.length - z.1) (0, 0, 0) (⟨Nat.zero_le _, rfl, rfl⟩) (St.le_of (by repeat (first | exact trivial | refine ⟨rfl, ?_⟩)) (by repeat (first | exact q_r | apply q_q | apply q_k))) ?_
  intro z hI
  obtain ⟨k, a, m⟩ := z
  obtain ⟨hI1, hI2, hI3⟩ := hI
  dsimp only at hI1 hI2 hI3 ⊢
  by_cases hk : k < l.length
  · obtain ⟨c, hc⟩ : ∃ c, l[k]? = some c := ⟨_, List.getElem?_eq_getElem hk⟩
    have hgc := sl_get hc
    have h1 := atS_take hc t
    have h2 := manyS_take hc t
    rw [← hI2] at h1
    rw [← hI3] at h2
    have ha : a ≤ k := by rw [hI2]; exact Nat.le_trans (at_le _ _) (by rw [List.length_take]; omega)
    have hm : m ≤ k := by rw [hI3]; exact Nat.le_trans (many_le _ _) (by rw [List.length_take]; omega)
    clear hI2 hI3
    by_cases hle : c.tab ≤ t
    · rw [if_pos hle] at h1
      have hz1 : (a : Int) + 1 = ((a + 1 : Nat) : Int) := by omega
      by_cases heq : c.tab = t
      · rw [if_pos heq] at h2
        have hz2 : (m : Int) + 1 = ((m + 1 : Nat) : Int) := by omega
        refine zX (zZ ?_); refine xBi ?_; intro _ _; refine zY ?_; refine zX ?_; refine q_c (fun h h_k => ?_) (fun h h_k => ?_) <;> ((try subst h_k); (have hp := h; try simp only [q_n] at hp); (try (exfalso; first | omega | (cases hp; done))));
        refine zR ?_; refine zX ?_; refine zL ?_; refine zX (zZ ?_); refine xIx ?_; refine xLa ?_; refine xBa ?_; intro _; refine xSt ?_; refine zY ?_; refine zX ?_; refine zX (zZ ?_); refine xFa ?_; refine xLd ?_; refine xMv ?_; refine xBi ?_; intro _ _; refine zY ?_; refine q_c (fun h h_k => ?_) (fun h h_k => ?_) <;> ((try subst h_k); (have hp := h; try simp only [q_n] at hp); (try (exfalso; first | omega | (cases hp; done))));
        refine zZ ?_; refine xMv ?_; refine xAd ?_; refine xAs ?_; refine zY ?_; refine zX (zZ ?_); refine xFa ?_; refine xLd ?_; refine xMv ?_; refine xBi ?_; intro _ _; refine zY ?_; refine q_c (fun h h_k => ?_) (fun h h_k => ?_) <;> ((try subst h_k); (have hp := h; try simp only [q_n] at hp); (try (exfalso; first | omega | (cases hp; done))));
        refine zZ ?_; refine xMv ?_; refine xAd ?_; refine xAs ?_; refine zN ?_; refine zZ ?_; refine xAd ?_; refine xMv ?_; refine zN ?_; simp only [zP, zU, zT, zW, retA, ↓reduceIte, Nat.reduceEqDiff]; rotate_left
        (all_goals (repeat (rename BV _ _ => hbv; first | cases hbv | clear hbv)))
        all_goals (try (first | cases ‹true = false› | cases ‹false = true›))
        refine ⟨(k + 1, a + 1, m + 1), ⟨hk, h1.symm, h2.symm⟩, by dsimp only; omega, ?_⟩
        dsimp only
        exact q_le
      · rw [if_neg heq] at h2
        refine zX (zZ ?_); refine xBi ?_; intro _ _; refine zY ?_; refine zX ?_; refine q_c (fun h h_k => ?_) (fun h h_k => ?_) <;> ((try subst h_k); (have hp := h; try simp only [q_n] at hp); (try (exfalso; first | omega | (cases hp; done))));
        refine zR ?_; refine zX ?_; refine zL ?_; refine zX (zZ ?_); refine xIx ?_; refine xLa ?_; refine xBa ?_; intro _; refine xSt ?_; refine zY ?_; refine zX ?_; refine zX (zZ ?_); refine xFa ?_; refine xLd ?_; refine xMv ?_; refine xBi ?_; intro _ _; refine zY ?_; refine q_c (fun h h_k => ?_) (fun h h_k => ?_) <;> ((try subst h_k); (have hp := h; try simp only [q_n] at hp); (try (exfalso; first | omega | (cases hp; done))));
        refine zZ ?_; refine xMv ?_; refine xAd ?_; refine xAs ?_; refine zY ?_; refine zX (zZ ?_); refine xFa ?_; refine xLd ?_; refine xMv ?_; refine xBi ?_; intro _ _; refine zY ?_; refine q_c (fun h h_k => ?_) (fun h h_k => ?_) <;> ((try subst h_k); (have hp := h; try simp only [q_n] at hp); (try (exfalso; first | omega | (cases hp; done))));
        refine zR ?_; refine zZ ?_; refine xAd ?_; refine xMv ?_; refine zN ?_; simp only [zP, zU, zT, zW, retA, ↓reduceIte, Nat.reduceEqDiff]; rotate_left
        (all_goals (repeat (rename BV _ _ => hbv; first | cases hbv | clear hbv)))
        all_goals (try (first | cases ‹true = false› | cases ‹false = true›))
        refine ⟨(k + 1, a + 1, m), ⟨hk, h1.symm, h2.symm⟩, by dsimp only; omega, ?_⟩
        dsimp only
        exact q_le
    · rw [if_neg hle] at h1
      rw [if_neg (by omega)] at h2
      refine zX (zZ ?_); refine xBi ?_; intro _ _; refine zY ?_; refine zX ?_; refine q_c (fun h h_k => ?_) (fun h h_k => ?_) <;> ((try subst h_k); (have hp := h; try simp only [q_n] at hp); (try (exfalso; first | omega | (cases hp; done))));
      refine zR ?_; refine zX ?_; refine zL ?_; refine zX (zZ ?_); refine xIx ?_; refine xLa ?_; refine xBa ?_; intro _; refine xSt ?_; refine zY ?_; refine zX ?_; refine zX (zZ ?_); refine xFa ?_; refine xLd ?_; refine xMv ?_; refine xBi ?_; intro _ _; refine zY ?_; refine q_c (fun h h_k => ?_) (fun h h_k => ?_) <;> ((try subst h_k); (have hp := h; try simp only [q_n] at hp); (try (exfalso; first | omega | (cases hp; done))));
      refine zR ?_; refine zX (zZ ?_); refine xFa ?_; refine xLd ?_; refine xMv ?_; refine xBi ?_; intro _ _; refine zY ?_; refine q_c (fun h h_k => ?_) (fun h h_k => ?_) <;> ((try subst h_k); (have hp := h; try simp only [q_n] at hp); (try (exfalso; first | omega | (cases hp; done))));
      refine zR ?_; refine zZ ?_; refine xAd ?_; refine xMv ?_; refine zN ?_; simp only [zP, zU, zT, zW, retA, ↓reduceIte, Nat.reduceEqDiff]; rotate_left
      (all_goals (repeat (rename BV _ _ => hbv; first | cases hbv | clear hbv)))
      all_goals (try (first | cases ‹true = false› | cases ‹false = true›))
      refine ⟨(k + 1, a, m), ⟨hk, h1.symm, h2.symm⟩, by dsimp only; omega, ?_⟩
      dsimp only
      exact q_le
  · have e : k = l.length := by omega
    subst e
    rw [List.take_length] at hI2 hI3
    subst hI2 hI3
    refine zX (zZ ?_); refine xBi ?_; intro _ _; refine zY ?_; refine zX ?_; refine q_c (fun h h_k => ?_) (fun h h_k => ?_) <;> ((try subst h_k); (have hp := h; try simp only [q_n] at hp); (try (exfalso; first | omega | (cases hp; done))));
    refine ex_exit ?_; refine zX (zZ ?_); refine xMv ?_; refine xMv ?_; refine xAs ?_; refine xAs ?_; refine zY ?_; refine zJ ?_; simp only [zP, zU, zT, zW, retA, ↓reduceIte, Nat.reduceEqDiff]; rotate_left
    (all_goals (repeat (rename BV _ _ => hbv; first | cases hbv | clear hbv)))
    all_goals (try (first | cases ‹true = false› | cases ‹false = true›))
    refine q_ri ?_
    rfl
set_option maxHeartbeats 4000000 in
theorem added_c (l : List Sl) (s : Sl) (hl : l.length ≤ 1000) (σ : List Ent) : SCall Tryz.prog 61 [.agg [sls l], slV s] σ (Is (.agg [sls (putS l s)]) σ) := by
  refine scall_of Tryz.func61 rfl (by simp) ?_
  have c1 := end_c l s.tab
  have hat : atS l s.tab ≤ (l.map slC).length := by rw [List.length_map]; exact at_le _ _
  have hput : (l.map slC).take (atS l s.tab) ++ [slC s] ++ (l.drop (atS l s.tab)).map slC = (putS l s).map slC := by
    unfold putS; simp [List.map_take]
  generalize atS l s.tab = k at c1 hat hput
  generalize manyS l s.tab = m at c1
  have htl : ((l.map slC).take k).length = k := by rw [List.length_take]; omega
  have hkl : k ≤ l.length := by simpa using hat
  refine zX (zZ ?_); refine xBb ?_; intro _; refine xBb ?_; intro _; refine xBa ?_; intro _; refine zY ?_; refine zX (zZ ?_); refine xLa ?_; refine xFa ?_; refine xLd ?_; apply zQ; rfl; rfl; rfl; (refine zK rfl rfl (zV (by kernel_rfl)) ?_; exact c1 _); refine xMv ?_; refine xEx ?_; refine xEx ?_; refine xAs ?_; refine xAs ?_; refine zY ?_; refine zX ?_; rotate_left
  (all_goals (repeat (rename BV _ _ => hbv; first | cases hbv | clear hbv)))
  all_goals (try (first | cases ‹true = false› | cases ‹false = true›))
  rename Nat => b4; revert b4; rename Nat => b3; revert b3; rename Nat => b2; revert b2
  intro b2 b3 b4
  clear c1
  refine ex_drawLO (fun e => e = .cells b2 [sls l] 24 ∨ e = .cells b3 (slC s) 43) 13 [0, 1, 2, 3, 4, 5, 6, 8, 9, 10, 11, 7, 12] [11, 12] rfl (by kernel_rfl) rfl (by kernel_rfl) rfl ?_
  simp only [pick, List.filterMap_cons, List.filterMap_nil, List.getElem?_cons_zero, List.getElem?_cons_succ, List.take_succ_cons, List.take_zero, List.drop_succ_cons, List.drop_zero]
  refine wFa ?_; refine wLd ?_; refine wMv ?_; refine wMv ?_; apply wl_is; rfl; rfl; rfl; (intro σ' hl; (exact g_slice3 rfl rfl rfl rfl rfl rfl hat)); refine wLa ?_; apply wl_is; rfl; rfl; rfl; (intro σ' hl; (exact gop_sealed (g_buildSlice rfl rfl (by decide) rfl rfl (by (simp only [chunkN, List.take_succ_cons, List.take_zero, List.drop_succ_cons, List.drop_zero]; rfl))))); refine wFa ?_; refine wLd ?_; refine wMv ?_; apply wl_is; rfl; rfl; rfl; (intro σ' hl; (apply g_sliceLo; rfl; rfl; rfl; (rfl); omega)); refine wl_row rfl rfl rfl (by refine g_appendT rfl rfl rfl (.s .d) (by simp) ?_; refine app_ok ?_ (by kernel_rfl); rw [htl]; simp; omega) ?_; intro _; refine wl_eff rfl rfl rfl (by apply g_append; rfl; rfl; rfl; (intro v'; (exact Upd.here)); (exact .d); (intro y hy; simp only [List.mem_map, List.mem_cons, List.not_mem_nil, or_false, List.mem_append] at hy; (focus (obtain ⟨_, _, rfl⟩ := hy; rfl; done))); (refine app_ok ?_ (by kernel_rfl); (try simp only [List.length_append, List.length_map, List.length_cons, List.length_nil, List.length_take, List.length_drop]); omega)) ?_; rintro _ _ ⟨v'⟩; refine ⟨(by (rintro _ (rfl | rfl) _ <;> exact (by (repeat first | exact q_h | apply q_t | assumption); done))), ?_⟩; refine wl_nil ?_; apply zQ; rfl; rfl; rfl; (apply g_build; rfl; rfl; rfl; rfl); refine xSt ?_; refine zY ?_; refine zJ ?_; simp only [zP, zU, zT, zW, retA, ↓reduceIte, Nat.reduceEqDiff]; rotate_left
  (all_goals (repeat (rename BV _ _ => hbv; first | cases hbv | clear hbv)))
  all_goals (try (first | cases ‹true = false› | cases ‹false = true›))
  rename Value => v
  refine q_rq (σ3 := .row v 43 8 ((l.map slC).take k ++ [slC s] ++ (l.drop k).map slC) :: σ) ?_
  rw [hput]
  exact fin_seal .here (.agg (.here .nil) .nil) (fin_done .mk)
theorem put_512 {l : List Sl} {s : Sl} (h : l.length ≤ 511) : checkS (putS l s) = if bookB (putS l s) then 0 else 540 := by
  unfold checkS; rw [if_neg (by rw [put_len]; omega)]
set_option maxHeartbeats 4000000 in
theorem write_c (l : List Sl) (s : Sl) (σ : List Ent) : SCall Tryz.prog 26 [.agg [sls l], slV s] σ (Is (.tup [.agg [sls (writeS l s).1], .int .i64 (writeS l s).2]) σ) := by
  refine scall_of Tryz.func26 rfl (by simp) ?_
  have c1 := check_c l
  unfold writeS
  by_cases h0 : checkS l = 0
  · rw [if_neg (by rw [h0]; simp)]
    rw [h0] at c1
    have h512 := (check_zero.1 h0).1
    by_cases hl : l.length = 512
    · rw [if_pos hl]
      refine zX (zZ ?_); refine xBb ?_; intro _; refine xBb ?_; intro _; refine xBa ?_; intro _; refine xAs ?_; refine zY ?_; refine zX ?_; refine zX (zZ ?_); refine xLa ?_; apply zQ; rfl; rfl; rfl; (refine zK rfl rfl (zV (by kernel_rfl)) ?_; exact c1 _); refine xAs ?_; refine zY ?_; refine zX (zZ ?_); refine xMv ?_; refine xBi ?_; intro _ _; refine zY ?_; refine q_c (fun h h_k => ?_) (fun h h_k => ?_) <;> ((try subst h_k); (have hp := h; try simp only [q_n] at hp); (try (exfalso; first | omega | (cases hp; done))));
      refine zR ?_; refine zX ?_; refine zX (zZ ?_); refine xFa ?_; refine xLd ?_; refine xLn ?_; refine xBi ?_; intro _ _; refine zY ?_; refine q_c (fun h h_k => ?_) (fun h h_k => ?_) <;> ((try subst h_k); (have hp := h; try simp only [q_n] at hp); (try (exfalso; first | omega | (cases hp; done))));
      refine zX (zZ ?_); refine xLa ?_; refine xSt ?_; refine xAs ?_; refine zY ?_; refine zJ ?_; simp only [zP, zU, zT, zW, retA, ↓reduceIte, Nat.reduceEqDiff]; rotate_left
      (all_goals (repeat (rename BV _ _ => hbv; first | cases hbv | clear hbv)))
      all_goals (try (first | cases ‹true = false› | cases ‹false = true›))
      refine q_rq (σ3 := σ) ?_
      exact fin_nil (sz := 8) (.tup (.agg (.here .nil) (.same .nil)) .nil) (fin_done .mk)
    · rw [if_neg hl]
      have c2 := end_c l s.tab
      generalize manyS l s.tab = m at c2
      obtain ⟨s', hs'⟩ : ∃ s' : Sl, s' = { s with seq := (m : Int) } := ⟨_, rfl⟩
      have c3 := added_c l s' (by omega)
      have c4 := check_c (putS l s')
      rw [put_512 (by omega)] at c4
      rw [← hs']
      rw [show slV s' = .agg [.int .i64 s.tab, .int .i64 (m : Int), .int .i64 s.kind, .int .i64 s.turn, .int .i64 s.farm, .int .i64 s.hour, .int .i64 s.lit, .int .i64 s.off] by rw [hs']] at c3
      clear hs'
      generalize putS l s' = y at c3 c4 ⊢
      cases hy : bookB y with
      | true =>
        rw [hy] at c4
        refine zX (zZ ?_); refine xBb ?_; intro _; refine xBb ?_; intro _; refine xBa ?_; intro _; refine xAs ?_; refine zY ?_; refine zX ?_; refine zX (zZ ?_); refine xLa ?_; apply zQ; rfl; rfl; rfl; (refine zK rfl rfl (zV (by kernel_rfl)) ?_; exact c1 _); refine xAs ?_; refine zY ?_; refine zX (zZ ?_); refine xMv ?_; refine xBi ?_; intro _ _; refine zY ?_; refine q_c (fun h h_k => ?_) (fun h h_k => ?_) <;> ((try subst h_k); (have hp := h; try simp only [q_n] at hp); (try (exfalso; first | omega | (cases hp; done))));
        refine zR ?_; refine zX ?_; refine zX (zZ ?_); refine xFa ?_; refine xLd ?_; refine xLn ?_; refine xBi ?_; intro _ _; refine zY ?_; refine q_c (fun h h_k => ?_) (fun h h_k => ?_) <;> ((try subst h_k); (have hp := h; try simp only [q_n] at hp); (try (exfalso; first | omega | (cases hp; done))));
        refine zR ?_; refine zX (zZ ?_); refine xLa ?_; refine xFa ?_; refine xLd ?_; apply zQ; rfl; rfl; rfl; (refine zK rfl rfl (zV (by kernel_rfl)) ?_; exact c2 _); refine xMv ?_; refine xEx ?_; refine xEx ?_; refine xFa ?_; refine xSt ?_; refine zY ?_; refine zX (zZ ?_); refine xLa ?_; refine xLa ?_; apply zQ; rfl; rfl; rfl; (refine zK rfl rfl (zV (by kernel_rfl)) ?_; exact c3 _); refine xBa ?_; intro _; refine xSt ?_; refine zY ?_; refine zX ?_; refine zX (zZ ?_); refine xLa ?_; apply zQ; rfl; rfl; rfl; (refine zK rfl rfl (zV (by kernel_rfl)) ?_; exact c4 _); refine xAs ?_; refine zY ?_; refine zX (zZ ?_); refine xMv ?_; refine xBi ?_; intro _ _; refine zY ?_; refine q_c (fun h h_k => ?_) (fun h h_k => ?_) <;> ((try subst h_k); (have hp := h; try simp only [q_n] at hp); (try (exfalso; first | omega | (cases hp; done))));
        refine zX (zZ ?_); refine xLa ?_; refine xMv ?_; refine xSt ?_; refine xAs ?_; refine zY ?_; refine zJ ?_; simp only [zP, zU, zT, zW, retA, ↓reduceIte, Nat.reduceEqDiff]; rotate_left; refine zR ?_; refine zX (zZ ?_); refine xLa ?_; refine xSt ?_; refine xAs ?_; refine zY ?_; refine zJ ?_; simp only [zP, zU, zT, zW, retA, ↓reduceIte, Nat.reduceEqDiff]; rotate_left
        (all_goals (repeat (rename BV _ _ => hbv; first | cases hbv | clear hbv)))
        all_goals (try (first | cases ‹true = false› | cases ‹false = true›))
        refine q_ri ?_
        rfl
      | false =>
        rw [hy] at c4
        refine zX (zZ ?_); refine xBb ?_; intro _; refine xBb ?_; intro _; refine xBa ?_; intro _; refine xAs ?_; refine zY ?_; refine zX ?_; refine zX (zZ ?_); refine xLa ?_; apply zQ; rfl; rfl; rfl; (refine zK rfl rfl (zV (by kernel_rfl)) ?_; exact c1 _); refine xAs ?_; refine zY ?_; refine zX (zZ ?_); refine xMv ?_; refine xBi ?_; intro _ _; refine zY ?_; refine q_c (fun h h_k => ?_) (fun h h_k => ?_) <;> ((try subst h_k); (have hp := h; try simp only [q_n] at hp); (try (exfalso; first | omega | (cases hp; done))));
        refine zR ?_; refine zX ?_; refine zX (zZ ?_); refine xFa ?_; refine xLd ?_; refine xLn ?_; refine xBi ?_; intro _ _; refine zY ?_; refine q_c (fun h h_k => ?_) (fun h h_k => ?_) <;> ((try subst h_k); (have hp := h; try simp only [q_n] at hp); (try (exfalso; first | omega | (cases hp; done))));
        refine zR ?_; refine zX (zZ ?_); refine xLa ?_; refine xFa ?_; refine xLd ?_; apply zQ; rfl; rfl; rfl; (refine zK rfl rfl (zV (by kernel_rfl)) ?_; exact c2 _); refine xMv ?_; refine xEx ?_; refine xEx ?_; refine xFa ?_; refine xSt ?_; refine zY ?_; refine zX (zZ ?_); refine xLa ?_; refine xLa ?_; apply zQ; rfl; rfl; rfl; (refine zK rfl rfl (zV (by kernel_rfl)) ?_; exact c3 _); refine xBa ?_; intro _; refine xSt ?_; refine zY ?_; refine zX ?_; refine zX (zZ ?_); refine xLa ?_; apply zQ; rfl; rfl; rfl; (refine zK rfl rfl (zV (by kernel_rfl)) ?_; exact c4 _); refine xAs ?_; refine zY ?_; refine zX (zZ ?_); refine xMv ?_; refine xBi ?_; intro _ _; refine zY ?_; refine q_c (fun h h_k => ?_) (fun h h_k => ?_) <;> ((try subst h_k); (have hp := h; try simp only [q_n] at hp); (try (exfalso; first | omega | (cases hp; done))));
        refine zX (zZ ?_); refine xLa ?_; refine xMv ?_; refine xSt ?_; refine xAs ?_; refine zY ?_; refine zJ ?_; simp only [zP, zU, zT, zW, retA, ↓reduceIte, Nat.reduceEqDiff]; rotate_left
        (all_goals (repeat (rename BV _ _ => hbv; first | cases hbv | clear hbv)))
        all_goals (try (first | cases ‹true = false› | cases ‹false = true›))
        refine q_rq (σ3 := σ) ?_
        exact fin_nil (sz := 8) (.tup (.agg (.here .nil) (.same .nil)) .nil) (fin_done .mk)
  · rw [if_pos h0]
    refine zX (zZ ?_); refine xBb ?_; intro _; refine xBb ?_; intro _; refine xBa ?_; intro _; refine xAs ?_; refine zY ?_; refine zX ?_; refine zX (zZ ?_); refine xLa ?_; apply zQ; rfl; rfl; rfl; (refine zK rfl rfl (zV (by kernel_rfl)) ?_; exact c1 _); refine xAs ?_; refine zY ?_; refine zX (zZ ?_); refine xMv ?_; refine xBi ?_; intro _ _; refine zY ?_; refine q_c (fun h h_k => ?_) (fun h h_k => ?_) <;> ((try subst h_k); (have hp := h; try simp only [q_n] at hp); (try (exfalso; first | omega | (cases hp; done))));
    refine zX (zZ ?_); refine xLa ?_; refine xMv ?_; refine xSt ?_; refine xAs ?_; refine zY ?_; refine zJ ?_; simp only [zP, zU, zT, zW, retA, ↓reduceIte, Nat.reduceEqDiff]; rotate_left
    (all_goals (repeat (rename BV _ _ => hbv; first | cases hbv | clear hbv)))
    all_goals (try (first | cases ‹true = false› | cases ‹false = true›))
    refine q_rq (σ3 := σ) ?_
    exact fin_nil (sz := 8) (.tup (.agg (.here .nil) (.same .nil)) .nil) (fin_done .mk)
end Go.Proofs.YtkhoengjdfmfaaaGreat
