/- Parts of the proof that belong together: Ud Sbt Sco Ssw. -/
import Derived.Test.YtkhoengjdfmfaaaGreatGE04
import Derived.Test.YtkhoengjdfmfaaaGreatGE06
set_option maxRecDepth 10000
set_option linter.unusedSimpArgs false
set_option linter.unusedVariables false
namespace Go.Proofs.YtkhoengjdfmfaaaGreat
theorem sl_eqB (x y : Sl) : ((x.tab == y.tab) && ((x.seq == y.seq) && ((x.kind == y.kind) && ((x.turn == y.turn) && ((x.farm == y.farm) && ((x.hour == y.hour) && ((x.lit == y.lit) && ((x.off == y.off) && true)))))))) = decide (x = y) := by
  rw [Bool.eq_iff_iff]
  simp only [Bool.and_eq_true, beq_iff_eq, decide_eq_true_eq, and_true]
  constructor
  · rintro ⟨h1, h2, h3, h4, h5, h6, h7, h8⟩
    cases x; cases y
    simp only at h1 h2 h3 h4 h5 h6 h7 h8
    subst h1 h2 h3 h4 h5 h6 h7 h8; rfl
  · rintro rfl; simp
theorem g_neqSl {ro : Option Nat} {env : Env} {σ : List Ent} {dst : Option Tmp} {ty : TypeId} {pos : String} {after : Array Edge} {guard : Option (Nat × Bool)} {x y : Operand} {t yt : TypeId} {a b : Sl} {q : Bool} (ht : t = 43) (hx : evA env x = some (slV a)) (hy : evA env y = some (slV b)) (hq : decide (a = b) = q) :
    GOp Tryz.prog ro ⟨dst, .binOp .neq t x y yt, ty, pos, after, guard⟩ env σ (Is (.bool (!q)) σ) := by
  subst ht
  refine g_neqAgg rfl (by kernel_rfl) hx hy ?_
  rw [← hq, ← sl_eqB]
  rfl
theorem isNaN_c (n : Int) (σ : List Ent) : SCall Tryz.prog 73 [.int .i64 n] σ (Is (.bool false) σ) := by
  refine scall_of Tryz.func73 rfl (by simp) ?_
  refine zX (zZ ?_); refine xAs ?_; refine zY ?_; refine zX (zZ ?_); refine xMv ?_; refine xMv ?_; refine xBi ?_; intro _ _; refine xAs ?_; refine zY ?_; refine zJ ?_; simp only [zP, zU, zT, zW, retA, ↓reduceIte, Nat.reduceEqDiff]; rotate_left
  (all_goals (repeat (rename BV _ _ => hbv; first | cases hbv | clear hbv)))
  all_goals (try (first | cases ‹true = false› | cases ‹false = true›))
  all_goals
    refine q_ri (bool_eq ?_)
    simp
def cmpI (a b : Int) : Int := if a < b then -1 else if b < a then 1 else 0
theorem cmpI_c (a b : Int) (σ : List Ent) : SCall Tryz.prog 36 [.int .i64 a, .int .i64 b] σ (Is (.int .i64 (cmpI a b)) σ) := by
  refine scall_of Tryz.func36 rfl (by simp) ?_
  refine zX (zZ ?_); refine xAs ?_; refine zY ?_; refine zX (zZ ?_); refine xMv ?_; apply exl_isB; rfl; rfl; rfl; (refine zK rfl rfl (zV (by kernel_rfl)) ?_; exact isNaN_c _ _); intro _ _; refine xAs ?_; refine zY ?_; refine zX (zZ ?_); refine xMv ?_; apply exl_isB; rfl; rfl; rfl; (refine zK rfl rfl (zV (by kernel_rfl)) ?_; exact isNaN_c _ _); intro _ _; refine xAs ?_; refine zY ?_; refine zX ?_; refine zX (zZ ?_); refine xMv ?_; refine zY ?_; refine q_c (fun h h_k => ?_) (fun h h_k => ?_) <;> ((try subst h_k); (have hp := h; try simp only [q_n] at hp); (try (exfalso; first | omega | (cases hp; done))));
  refine zR ?_; refine zX ?_; refine zX (zZ ?_); refine xMv ?_; refine zY ?_; refine q_c (fun h h_k => ?_) (fun h h_k => ?_) <;> ((try subst h_k); (have hp := h; try simp only [q_n] at hp); (try (exfalso; first | omega | (cases hp; done))));
  refine zR ?_; refine zX ?_; refine zX (zZ ?_); refine xMv ?_; refine xMv ?_; refine xBi ?_; intro _ _; refine zY ?_; refine q_c (fun h h_k => ?_) (fun h h_k => ?_) <;> ((try subst h_k); (have hp := h; try simp only [q_n] at hp); (try (exfalso; first | omega | (cases hp; done))));
  refine zX (zZ ?_); refine xAs ?_; refine zY ?_; refine zJ ?_; simp only [zP, zU, zT, zW, retA, ↓reduceIte, Nat.reduceEqDiff]; rotate_left; refine zR ?_; refine zX ?_; refine zX (zZ ?_); refine xMv ?_; refine xMv ?_; refine xBi ?_; intro _ _; refine zY ?_; refine q_c (fun h h_k => ?_) (fun h h_k => ?_) <;> ((try subst h_k); (have hp := h; try simp only [q_n] at hp); (try (exfalso; first | omega | (cases hp; done))));
  refine zX (zZ ?_); refine xAs ?_; refine zY ?_; refine zJ ?_; simp only [zP, zU, zT, zW, retA, ↓reduceIte, Nat.reduceEqDiff]; rotate_left; refine zR ?_; refine zX (zZ ?_); refine xAs ?_; refine zY ?_; refine zJ ?_; simp only [zP, zU, zT, zW, retA, ↓reduceIte, Nat.reduceEqDiff]; rotate_left
  (all_goals (repeat (rename BV _ _ => hbv; first | cases hbv | clear hbv)))
  all_goals (try (first | cases ‹true = false› | cases ‹false = true›))
  all_goals
    refine q_ri ?_
    refine int_eq ?_
    unfold cmpI
    first
      | (rw [if_pos (by omega)]; done)
      | (rw [if_neg (by omega), if_pos (by omega)]; done)
      | (rw [if_neg (by omega), if_neg (by omega)]; done)
abbrev intC (n : Int) : List AV := [.int .i64 n]
abbrev ints (l : List Int) : AV := .dl 1 (l.map intC)
theorem int_get {l : List Int} {k : Nat} {x : Int} (h : l[k]? = some x) : (l.map intC)[k]? = some (intC x) := by rw [List.getElem?_map, h]; rfl
def orL : List Int → Int
  | [] => 0
  | x :: r => if x = 0 then orL r else x
set_option maxHeartbeats 2000000 in
theorem or_c (l : List Int) (σ : List Ent) : SCall Tryz.prog 67 [ints l] σ (Is (.int .i64 (orL l)) σ) := by
  refine scall_of Tryz.func67 rfl (by simp) ?_
  refine zX (zZ ?_); refine xAs ?_; refine zY ?_; refine zX (zZ ?_); refine xAs ?_; refine zY ?_; refine zX ?_; refine zX (zZ ?_); refine xMv ?_; refine xLn ?_; refine xMv ?_; refine zY ?_; refine zL ?_; rotate_left
  (all_goals (repeat (rename BV _ _ => hbv; first | cases hbv | clear hbv)))
  all_goals (try (first | cases ‹true = false› | cases ‹false = true›))
  refine ex_len (t := 6) rfl ((List.length_map _).symm) (fun hlen => ?_)
  refine ex_loop (fun (k : Nat) => (⟨[(3, .int .i64 0), (6, ints l), (7, .int .i64 l.length), (8, .int .i64 k)], σ, [], Tryz.f67.ntmps⟩ : St)) (fun k => k ≤ l.length ∧ orL l = orL (l.drop k)) (fun k => l.length - k) 0 (⟨Nat.zero_le _, rfl⟩) (St.le_of (by repeat (first | exact trivial | refine ⟨rfl, ?_⟩)) (by repeat (first | exact q_r | apply q_q | apply q_k))) ?_
  intro k hI
  obtain ⟨hI1, hI2⟩ := hI
  by_cases hk : k < l.length
  · obtain ⟨c, hc⟩ : ∃ c, l[k]? = some c := ⟨_, List.getElem?_eq_getElem hk⟩
    have hgc := int_get hc
    rw [sl_drop hc, orL] at hI2
    by_cases h0 : c = 0
    · rw [if_pos h0] at hI2
      refine zX (zZ ?_); refine xBi ?_; intro _ _; refine zY ?_; refine zX ?_; refine q_c (fun h h_k => ?_) (fun h h_k => ?_) <;> ((try subst h_k); (have hp := h; try simp only [q_n] at hp); (try (exfalso; first | omega | (cases hp; done))));
      refine zR ?_; refine zX ?_; refine zL ?_; refine zX (zZ ?_); refine xIx ?_; refine xLd ?_; refine xAs ?_; refine zY ?_; refine zX (zZ ?_); refine xMv ?_; refine xMv ?_; refine xBi ?_; intro _ _; refine zY ?_; refine q_c (fun h h_k => ?_) (fun h h_k => ?_) <;> ((try subst h_k); (have hp := h; try simp only [q_n] at hp); (try (exfalso; first | omega | (cases hp; done))));
      refine zR ?_; refine zZ ?_; refine xAd ?_; refine xMv ?_; refine zN ?_; simp only [zP, zU, zT, zW, retA, ↓reduceIte, Nat.reduceEqDiff]; rotate_left
      (all_goals (repeat (rename BV _ _ => hbv; first | cases hbv | clear hbv)))
      all_goals (try (first | cases ‹true = false› | cases ‹false = true›))
      refine ⟨k + 1, ⟨hk, hI2⟩, by omega, ?_⟩
      exact q_le
    · rw [if_neg h0] at hI2
      rw [hI2]
      clear hI2
      refine zX (zZ ?_); refine xBi ?_; intro _ _; refine zY ?_; refine zX ?_; refine q_c (fun h h_k => ?_) (fun h h_k => ?_) <;> ((try subst h_k); (have hp := h; try simp only [q_n] at hp); (try (exfalso; first | omega | (cases hp; done))));
      refine zR ?_; refine zX ?_; refine zL ?_; refine zX (zZ ?_); refine xIx ?_; refine xLd ?_; refine xAs ?_; refine zY ?_; refine zX (zZ ?_); refine xMv ?_; refine xMv ?_; refine xBi ?_; intro _ _; refine zY ?_; refine q_c (fun h h_k => ?_) (fun h h_k => ?_) <;> ((try subst h_k); (have hp := h; try simp only [q_n] at hp); (try (exfalso; first | omega | (cases hp; done))));
      refine zX (zZ ?_); refine xMv ?_; refine xAs ?_; refine zY ?_; refine zJ ?_; simp only [zP, zU, zT, zW, retA, ↓reduceIte, Nat.reduceEqDiff]; rotate_left
      (all_goals (repeat (rename BV _ _ => hbv; first | cases hbv | clear hbv)))
      all_goals (try (first | cases ‹true = false› | cases ‹false = true›))
      refine q_ri ?_
      rfl
  · rw [List.drop_of_length_le (by omega), orL] at hI2
    rw [hI2]
    clear hI2
    refine zX (zZ ?_); refine xBi ?_; intro _ _; refine zY ?_; refine zX ?_; refine q_c (fun h h_k => ?_) (fun h h_k => ?_) <;> ((try subst h_k); (have hp := h; try simp only [q_n] at hp); (try (exfalso; first | omega | (cases hp; done))));
    refine ex_exit ?_; refine zX (zZ ?_); refine xMv ?_; refine xAs ?_; refine zY ?_; refine zJ ?_; simp only [zP, zU, zT, zW, retA, ↓reduceIte, Nat.reduceEqDiff]; rotate_left
    (all_goals (repeat (rename BV _ _ => hbv; first | cases hbv | clear hbv)))
    all_goals (try (first | cases ‹true = false› | cases ‹false = true›))
    refine q_ri ?_
    rfl
def cmpS (x y : Sl) : Int := if cmpI x.tab y.tab = 0 then cmpI x.seq y.seq else cmpI x.tab y.tab
theorem cmpI_lt {a b : Int} : cmpI a b < 0 ↔ a < b := by
  unfold cmpI
  by_cases h1 : a < b
  · rw [if_pos h1]; omega
  · rw [if_neg h1]; split <;> omega
theorem cmpI_zero {a b : Int} : cmpI a b = 0 ↔ a = b := by
  unfold cmpI
  by_cases h1 : a < b
  · rw [if_pos h1]; omega
  · rw [if_neg h1]; split <;> omega
theorem cmpS_lt {x y : Sl} : cmpS x y < 0 ↔ ltS x y := by
  have h1 := @cmpI_lt x.tab y.tab; have h2 := @cmpI_zero x.tab y.tab
  have h3 := @cmpI_lt x.seq y.seq; have h4 := @cmpI_zero x.seq y.seq
  unfold cmpS ltS; split <;> omega
theorem cmpS_gt {x y : Sl} : 0 < cmpS x y ↔ ltS y x := by
  have h1 := @cmpI_lt x.tab y.tab; have h2 := @cmpI_zero x.tab y.tab
  have h3 := @cmpI_lt x.seq y.seq; have h4 := @cmpI_zero x.seq y.seq
  unfold cmpS ltS; split <;> omega
set_option maxHeartbeats 2000000 in
theorem compare_c (x y : Sl) (σ : List Ent) : SCall Tryz.prog 29 [slV x, slV y] σ (Is (.int .i64 (cmpS x y)) σ) := by
  refine scall_of Tryz.func29 rfl (by simp) ?_
  have e : cmpS x y = orL [cmpI x.tab y.tab, cmpI x.seq y.seq] := by
    unfold cmpS
    by_cases h1 : cmpI x.tab y.tab = 0
    · rw [if_pos h1, orL, if_pos h1, orL, orL]
      by_cases h2 : cmpI x.seq y.seq = 0
      · rw [if_pos h2, h2]
      · rw [if_neg h2]
    · rw [if_neg h1, orL, if_neg h1]
  rw [e]
  have c1 := or_c [cmpI x.tab y.tab, cmpI x.seq y.seq]
  refine zX (zZ ?_); refine xBb ?_; intro _; refine xBb ?_; intro _; refine xAs ?_; refine zY ?_; refine zX ?_; rotate_left
  (all_goals (repeat (rename BV _ _ => hbv; first | cases hbv | clear hbv)))
  all_goals (try (first | cases ‹true = false› | cases ‹false = true›))
  refine ex_drawLK anyK 12 [] rfl (by kernel_rfl) rfl ?_
  simp only [List.take_succ_cons, List.take_zero, List.drop_succ_cons, List.drop_zero]
  refine wFa ?_; refine wLd ?_; refine wFa ?_; refine wLd ?_; apply wl_is; rfl; rfl; rfl; (intro σ' hl; (refine zK rfl rfl (zV (by kernel_rfl)) ?_; exact cmpI_c _ _ _)); refine wFa ?_; refine wLd ?_; refine wFa ?_; refine wLd ?_; apply wl_is; rfl; rfl; rfl; (intro σ' hl; (refine zK rfl rfl (zV (by kernel_rfl)) ?_; exact cmpI_c _ _ _)); apply wl_is; rfl; rfl; rfl; (intro σ' hl; (exact gop_sealed (g_buildSlice rfl rfl (by decide) rfl rfl (by (simp only [chunkN, List.take_succ_cons, List.take_zero, List.drop_succ_cons, List.drop_zero]; rfl))))); apply wl_is; rfl; rfl; rfl; (intro σ' hl; (refine zK rfl rfl (zV (by kernel_rfl)) ?_; exact c1 _)); refine wl_nil ?_; refine xAs ?_; refine zY ?_; refine zJ ?_; simp only [zP, zU, zT, zW, retA, ↓reduceIte, Nat.reduceEqDiff]; rotate_left
  (all_goals (repeat (rename BV _ _ => hbv; first | cases hbv | clear hbv)))
  all_goals (try (first | cases ‹true = false› | cases ‹false = true›))
  refine q_ri ?_
  rfl
theorem merge_step {l m o : List Sl} {x y : Sl} {L M : List Sl} (h : mergeR l m = (mergeR (x :: L) (y :: M)).map (o ++ ·)) :
    (ltS x y → mergeR l m = (mergeR L (y :: M)).map (o ++ [x] ++ ·)) ∧ (ltS y x → mergeR l m = (mergeR (x :: L) M).map (o ++ [y] ++ ·)) ∧ (¬ ltS x y → ¬ ltS y x → x = y → mergeR l m = (mergeR L M).map (o ++ [x] ++ ·)) ∧ (¬ ltS x y → ¬ ltS y x → x ≠ y → mergeR l m = none) := by
  rw [mergeR] at h
  refine ⟨fun h1 => ?_, fun h1 => ?_, fun h1 h2 h3 => ?_, fun h1 h2 h3 => ?_⟩
  · rw [h, if_pos h1]; cases mergeR L (y :: M) <;> simp
  · have h2 : ¬ ltS x y := fun h2 => by unfold ltS at h1 h2; omega
    rw [h, if_neg h2, if_pos h1]; cases mergeR (x :: L) M <;> simp
  · rw [h, if_neg h1, if_neg h2, if_pos h3]; cases mergeR L M <;> simp
  · rw [h, if_neg h1, if_neg h2, if_neg h3]; rfl
theorem sl_snoc (o : List Sl) (x : Sl) : o.map slC ++ [slC x] = (o ++ [x]).map slC := by simp
set_option maxHeartbeats 16000000 in
theorem merge_c (l m : List Sl) (σ : List Ent) : SCall Tryz.prog 11 [.agg [sls l], .agg [sls m]] σ (Is (.tup [.agg [sls (mergeS l m).1], .int .i64 (mergeS l m).2]) σ) := by
  refine scall_of Tryz.func11 rfl (by simp) ?_
  have c1 := check_c l
  have c2 := check_c m
  refine zX (zZ ?_); refine xBb ?_; intro _; refine xBb ?_; intro _; refine xBa ?_; intro _; refine xAs ?_; refine zY ?_; refine zX ?_; refine zX (zZ ?_); refine xLa ?_; refine xLa ?_; apply zQ; rfl; rfl; rfl; (exact gop_sealed (g_buildSlice rfl rfl (by decide) rfl rfl (by (simp only [chunkN, List.take_succ_cons, List.take_zero, List.drop_succ_cons, List.drop_zero]; rfl)))); apply zQ; rfl; rfl; rfl; (apply g_len; rfl; rfl; (rfl)); refine xMv ?_; refine zY ?_; refine zL ?_; rotate_left
  (all_goals (repeat (rename BV _ _ => hbv; first | cases hbv | clear hbv)))
  all_goals (try (first | cases ‹true = false› | cases ‹false = true›))
  rename Nat => b4; revert b4; rename Nat => b3; revert b3; rename Nat => b2; revert b2
  intro b2 b3 b4
  refine ex_loop (fun (i : Nat) => (⟨[(2, .ptr b2 0), (3, .ptr b3 0), (4, .ptr b4 0), (14, .dl 1 [[sls l], [sls m]]), (15, .int .i64 2), (16, .int .i64 i)], .cells b4 [.slv nilS] 24 :: .cells b3 [sls m] 24 :: .cells b2 [sls l] 24 :: σ, [], Tryz.f11.ntmps⟩ : St)) (fun i => i ≤ 2 ∧ (1 ≤ i → checkS l = 0) ∧ (2 ≤ i → checkS m = 0)) (fun i => 2 - i) 0 (⟨by omega, by omega, by omega⟩) (St.le_of (by repeat (first | exact trivial | refine ⟨rfl, ?_⟩)) (by repeat (first | exact q_r | apply q_q | apply q_k))) ?_
  intro i hI
  obtain ⟨hI1, hI2, hI3⟩ := hI
  have hg0 : ([[sls l], [sls m]] : List (List AV))[0]? = some [sls l] := rfl
  have hg1 : ([[sls l], [sls m]] : List (List AV))[1]? = some [sls m] := rfl
  rcases (by omega : i = 0 ∨ i = 1 ∨ i = 2) with rfl | rfl | rfl
  · by_cases h0 : checkS l = 0
    · rw [h0] at c1
      clear hI2 hI3 c2
      refine zX (zZ ?_); refine xBi ?_; intro _ _; refine zY ?_; refine zX ?_; refine q_c (fun h h_k => ?_) (fun h h_k => ?_) <;> ((try subst h_k); (have hp := h; try simp only [q_n] at hp); (try (exfalso; first | omega | (cases hp; done))));
      refine zR ?_; refine zX ?_; refine zL ?_; refine zX (zZ ?_); refine xIx ?_; refine xLa ?_; refine xBa ?_; intro _; refine xSt ?_; refine zY ?_; refine zX (zZ ?_); refine xLa ?_; apply zQ; rfl; rfl; rfl; (refine zK rfl rfl (zV (by kernel_rfl)) ?_; exact c1 _); refine xAs ?_; refine zY ?_; refine zX (zZ ?_); refine xMv ?_; refine xBi ?_; intro _ _; refine zY ?_; refine q_c (fun h h_k => ?_) (fun h h_k => ?_) <;> ((try subst h_k); (have hp := h; try simp only [q_n] at hp); (try (exfalso; first | omega | (cases hp; done))));
      refine zR ?_; refine zZ ?_; refine xAd ?_; refine xMv ?_; refine zN ?_; simp only [zP, zU, zT, zW, retA, ↓reduceIte, Nat.reduceEqDiff]; rotate_left
      (all_goals (repeat (rename BV _ _ => hbv; first | cases hbv | clear hbv)))
      all_goals (try (first | cases ‹true = false› | cases ‹false = true›))
      refine ⟨1, ⟨by omega, fun _ => h0, by omega⟩, by omega, ?_⟩
      exact q_le
    · have e : mergeS l m = ([], checkS l) := by unfold mergeS; rw [if_pos h0]
      rw [e]
      clear hI2 hI3 c2
      refine zX (zZ ?_); refine xBi ?_; intro _ _; refine zY ?_; refine zX ?_; refine q_c (fun h h_k => ?_) (fun h h_k => ?_) <;> ((try subst h_k); (have hp := h; try simp only [q_n] at hp); (try (exfalso; first | omega | (cases hp; done))));
      refine zR ?_; refine zX ?_; refine zL ?_; refine zX (zZ ?_); refine xIx ?_; refine xLa ?_; refine xBa ?_; intro _; refine xSt ?_; refine zY ?_; refine zX (zZ ?_); refine xLa ?_; apply zQ; rfl; rfl; rfl; (refine zK rfl rfl (zV (by kernel_rfl)) ?_; exact c1 _); refine xAs ?_; refine zY ?_; refine zX (zZ ?_); refine xMv ?_; refine xBi ?_; intro _ _; refine zY ?_; refine q_c (fun h h_k => ?_) (fun h h_k => ?_) <;> ((try subst h_k); (have hp := h; try simp only [q_n] at hp); (try (exfalso; first | omega | (cases hp; done))));
      refine zX (zZ ?_); refine xLa ?_; refine xMv ?_; refine xSt ?_; refine xAs ?_; refine zY ?_; refine zJ ?_; simp only [zP, zU, zT, zW, retA, ↓reduceIte, Nat.reduceEqDiff]; rotate_left
      (all_goals (repeat (rename BV _ _ => hbv; first | cases hbv | clear hbv)))
      all_goals (try (first | cases ‹true = false› | cases ‹false = true›))
      refine q_rq (σ3 := σ) ?_
      exact fin_nil (sz := 8) (.tup (.agg (.here .nil) (.same .nil)) .nil) (fin_done .mk)
  · have hl0 := hI2 (by omega)
    by_cases h0 : checkS m = 0
    · rw [h0] at c2
      clear hI2 hI3 c1
      refine zX (zZ ?_); refine xBi ?_; intro _ _; refine zY ?_; refine zX ?_; refine q_c (fun h h_k => ?_) (fun h h_k => ?_) <;> ((try subst h_k); (have hp := h; try simp only [q_n] at hp); (try (exfalso; first | omega | (cases hp; done))));
      refine zR ?_; refine zX ?_; refine zL ?_; refine zX (zZ ?_); refine xIx ?_; refine xLa ?_; refine xBa ?_; intro _; refine xSt ?_; refine zY ?_; refine zX (zZ ?_); refine xLa ?_; apply zQ; rfl; rfl; rfl; (refine zK rfl rfl (zV (by kernel_rfl)) ?_; exact c2 _); refine xAs ?_; refine zY ?_; refine zX (zZ ?_); refine xMv ?_; refine xBi ?_; intro _ _; refine zY ?_; refine q_c (fun h h_k => ?_) (fun h h_k => ?_) <;> ((try subst h_k); (have hp := h; try simp only [q_n] at hp); (try (exfalso; first | omega | (cases hp; done))));
      refine zR ?_; refine zZ ?_; refine xAd ?_; refine xMv ?_; refine zN ?_; simp only [zP, zU, zT, zW, retA, ↓reduceIte, Nat.reduceEqDiff]; rotate_left
      (all_goals (repeat (rename BV _ _ => hbv; first | cases hbv | clear hbv)))
      all_goals (try (first | cases ‹true = false› | cases ‹false = true›))
      refine ⟨2, ⟨by omega, fun _ => hl0, fun _ => h0⟩, by omega, ?_⟩
      exact q_le
    · have e : mergeS l m = ([], checkS m) := by unfold mergeS; rw [if_neg (by rw [hl0]; simp), if_pos h0]
      rw [e]
      clear hI2 hI3 c1
      refine zX (zZ ?_); refine xBi ?_; intro _ _; refine zY ?_; refine zX ?_; refine q_c (fun h h_k => ?_) (fun h h_k => ?_) <;> ((try subst h_k); (have hp := h; try simp only [q_n] at hp); (try (exfalso; first | omega | (cases hp; done))));
      refine zR ?_; refine zX ?_; refine zL ?_; refine zX (zZ ?_); refine xIx ?_; refine xLa ?_; refine xBa ?_; intro _; refine xSt ?_; refine zY ?_; refine zX (zZ ?_); refine xLa ?_; apply zQ; rfl; rfl; rfl; (refine zK rfl rfl (zV (by kernel_rfl)) ?_; exact c2 _); refine xAs ?_; refine zY ?_; refine zX (zZ ?_); refine xMv ?_; refine xBi ?_; intro _ _; refine zY ?_; refine q_c (fun h h_k => ?_) (fun h h_k => ?_) <;> ((try subst h_k); (have hp := h; try simp only [q_n] at hp); (try (exfalso; first | omega | (cases hp; done))));
      refine zX (zZ ?_); refine xLa ?_; refine xMv ?_; refine xSt ?_; refine xAs ?_; refine zY ?_; refine zJ ?_; simp only [zP, zU, zT, zW, retA, ↓reduceIte, Nat.reduceEqDiff]; rotate_left
      (all_goals (repeat (rename BV _ _ => hbv; first | cases hbv | clear hbv)))
      all_goals (try (first | cases ‹true = false› | cases ‹false = true›))
      refine q_rq (σ3 := σ) ?_
      exact fin_nil (sz := 8) (.tup (.agg (.here .nil) (.same .nil)) .nil) (fin_done .mk)
  · have hl0 := hI2 (by omega)
    have hm0 := hI3 (by omega)
    have e : mergeS l m = match mergeR l m with | none => ([], 540) | some o => if (512 : Int) < o.length then ([], 2) else (o, 0) := by unfold mergeS; rw [if_neg (by rw [hl0]; simp), if_neg (by rw [hm0]; simp)]; cases mergeR l m <;> rfl
    have hl5 := (check_zero.1 hl0).1
    have hm5 := (check_zero.1 hm0).1
    rw [e]
    clear e c1 c2 hI1 hI2 hI3 hl0 hm0
    refine ex_nilRow 43 8 ?_
    refine zX (zZ ?_); refine xBi ?_; intro _ _; refine zY ?_; refine zX ?_; refine q_c (fun h h_k => ?_) (fun h h_k => ?_) <;> ((try subst h_k); (have hp := h; try simp only [q_n] at hp); (try (exfalso; first | omega | (cases hp; done))));
    refine ex_exit ?_; refine zX (zZ ?_); refine xAs ?_; refine zY ?_; refine zX ?_; refine ex_drawP rfl rfl (by kernel_rfl) rfl ?_; refine ex_drawQ rfl (by kernel_rfl) rfl ?_; refine wFa ?_; refine wLd ?_; refine wFa ?_; refine wLd ?_; apply wl_is; rfl; rfl; rfl; (intro σ' hl; (apply g_assign; rfl)); apply wl_is; rfl; rfl; rfl; (intro σ' hl; (apply g_assign; rfl)); refine wl_nil ?_; show EX _ _ _ _ _; refine zX ?_; refine zL ?_; rotate_left
    (all_goals (repeat (rename BV _ _ => hbv; first | cases hbv | clear hbv)))
    all_goals (try (first | cases ‹true = false› | cases ‹false = true›))
    refine ex_loop (fun (z : List Sl × List Sl × List Sl × Value) => (⟨[(4, .ptr b4 0), (8, .slv z.2.2.2), (9, sls z.2.1), (10, sls z.2.2.1)], .row z.2.2.2 43 8 (z.1.map slC) :: .cells b4 [.slv nilS] 24 :: σ, [], Tryz.f11.ntmps⟩ : St)) (fun z => mergeR l m = (mergeR z.2.1 z.2.2.1).map (z.1 ++ ·) ∧ z.1.length + z.2.1.length + z.2.2.1.length ≤ 1024) (fun z => z.2.1.length + z.2.2.1.length) ([], l, m, nilS) (⟨by simp, by simp; omega⟩) (St.le_of (by repeat (first | exact trivial | refine ⟨rfl, ?_⟩)) (by repeat (first | exact q_r | apply q_q | apply q_k))) ?_
    intro z hI
    obtain ⟨o, L, M, v⟩ := z
    obtain ⟨hI1, hI2⟩ := hI
    dsimp only at hI1 hI2 ⊢
    clear hl5 hm5
    have hol : (o.map slC).length = o.length := List.length_map _
    cases L with
    | nil =>
      cases M with
      | nil =>
        rw [mergeR] at hI1
        rw [hI1]
        dsimp only [Option.map_some]
        rw [List.append_nil]
        by_cases h5 : (512 : Int) < o.length
        · rw [if_pos h5]
          refine zX ?_; refine zX (zZ ?_); refine xMv ?_; refine xLn ?_; refine xMv ?_; refine xLn ?_; refine xAd ?_; refine xBi ?_; intro _ _; refine zY ?_; refine q_c (fun h h_k => ?_) (fun h h_k => ?_) <;> ((try subst h_k); (have hp := h; try simp only [q_n] at hp); (try (exfalso; first | omega | (cases hp; done))));
          refine ex_exit ?_; refine zX ?_; refine zX (zZ ?_); refine xMv ?_; apply zQ; rfl; rfl; rfl; (apply g_len; rfl; rfl; (exact .inl ⟨_, _, _, (by (repeat first | exact q_h | apply q_t | assumption); done), (List.length_map _).symm⟩)); refine xBi ?_; intro _ _; refine zY ?_; refine q_c (fun h h_k => ?_) (fun h h_k => ?_) <;> ((try subst h_k); (have hp := h; try simp only [q_n] at hp); (try (exfalso; first | omega | (cases hp; done))));
          refine zX (zZ ?_); refine xLa ?_; refine xSt ?_; refine xAs ?_; refine zY ?_; refine zJ ?_; simp only [zP, zU, zT, zW, retA, ↓reduceIte, Nat.reduceEqDiff]; rotate_left
          (all_goals (repeat (rename BV _ _ => hbv; first | cases hbv | clear hbv)))
          all_goals (try (first | cases ‹true = false› | cases ‹false = true›))
          refine q_rq (σ3 := σ) ?_
          exact fin_nil (sz := 8) (.tup (.agg (.here .nil) (.same .nil)) .nil) (fin_done .mk)
        · rw [if_neg h5]
          refine zX ?_; refine zX (zZ ?_); refine xMv ?_; refine xLn ?_; refine xMv ?_; refine xLn ?_; refine xAd ?_; refine xBi ?_; intro _ _; refine zY ?_; refine q_c (fun h h_k => ?_) (fun h h_k => ?_) <;> ((try subst h_k); (have hp := h; try simp only [q_n] at hp); (try (exfalso; first | omega | (cases hp; done))));
          refine ex_exit ?_; refine zX ?_; refine zX (zZ ?_); refine xMv ?_; apply zQ; rfl; rfl; rfl; (apply g_len; rfl; rfl; (exact .inl ⟨_, _, _, (by (repeat first | exact q_h | apply q_t | assumption); done), (List.length_map _).symm⟩)); refine xBi ?_; intro _ _; refine zY ?_; refine q_c (fun h h_k => ?_) (fun h h_k => ?_) <;> ((try subst h_k); (have hp := h; try simp only [q_n] at hp); (try (exfalso; first | omega | (cases hp; done))));
          refine zR ?_; refine zX (zZ ?_); refine xMv ?_; apply zQ; rfl; rfl; rfl; (apply g_build; rfl; rfl; rfl; rfl); refine xSt ?_; refine xAs ?_; refine zY ?_; refine zJ ?_; simp only [zP, zU, zT, zW, retA, ↓reduceIte, Nat.reduceEqDiff]; rotate_left
          (all_goals (repeat (rename BV _ _ => hbv; first | cases hbv | clear hbv)))
          all_goals (try (first | cases ‹true = false› | cases ‹false = true›))
          refine q_rq (σ3 := .row v 43 8 (o.map slC) :: σ) ?_
          exact fin_seal .here (.tup (.agg (.here .nil) (.same .nil)) .nil) (fin_done .mk)
      | cons y M =>
        have hgy := sl_get (l := y :: M) (k := 0) rfl
        have hnx : mergeR l m = (mergeR [] M).map (o ++ [y] ++ ·) := by rw [hI1, mergeR, mergeR]; simp
        refine zX ?_; refine zX (zZ ?_); refine xMv ?_; refine xLn ?_; refine xMv ?_; refine xLn ?_; refine xAd ?_; refine xBi ?_; intro _ _; refine zY ?_; refine q_c (fun h h_k => ?_) (fun h h_k => ?_) <;> ((try subst h_k); (have hp := h; try simp only [q_n] at hp); (try (exfalso; first | omega | (cases hp; done))));
        refine zR ?_; refine zL ?_; refine zX (zZ ?_); refine xAs ?_; refine zY ?_; refine zX ?_; refine zL ?_; refine zX (zZ ?_); refine xMv ?_; refine xLn ?_; refine xBi ?_; intro _ _; refine xAs ?_; refine zY ?_; refine q_c (fun h h_k => ?_) (fun h h_k => ?_) <;> ((try subst h_k); (have hp := h; try simp only [q_n] at hp); (try (exfalso; first | omega | (cases hp; done))));
        refine zZ ?_; refine xAs ?_; refine zN ?_; refine zX ?_; refine zX ?_; refine ex_drawP rfl rfl (by kernel_rfl) rfl ?_; refine ex_drawQ rfl (by kernel_rfl) rfl ?_; refine wMv ?_; refine wBi ?_; intro _ _; refine wMv ?_; refine q_w (fun h h_k => ?_) (fun h h_k => ?_) <;> ((try subst h_k); (have hp := h; try simp only [q_n] at hp); (try (exfalso; first | omega | (cases hp; done))));
        refine wSk ?_; refine wSk ?_; refine wSk ?_; refine wSk ?_; refine wSk ?_; refine wSk ?_; refine wSk ?_; apply wl_is; rfl; rfl; rfl; (intro σ' hl; (apply g_pick_f; rfl; (rfl); rfl)); refine wl_nil ?_; show EX _ _ _ _ _; refine ex_cond_f rfl (by rfl) ?_; refine zR ?_; refine zX ?_; refine zX (zZ ?_); refine xMv ?_; refine xBi ?_; intro _ _; refine zY ?_; refine q_c (fun h h_k => ?_) (fun h h_k => ?_) <;> ((try subst h_k); (have hp := h; try simp only [q_n] at hp); (try (exfalso; first | omega | (cases hp; done))));
        refine zZ ?_; refine xMv ?_; refine xMv ?_; refine xIx ?_; refine xLa ?_; refine exl_row rfl rfl rfl (by exact g_buildSlice rfl rfl (by decide) rfl rfl (by (simp only [chunkN, List.take_succ_cons, List.take_zero, List.drop_succ_cons, List.drop_zero]; rfl))) ?_; intro _; apply exl_grew; rfl; rfl; rfl; (apply g_append; rfl; rfl; rfl; (intro v'; (exact Upd.there (Upd.here))); (exact .r (by (repeat first | exact q_h | apply q_t | assumption); done)); (intro y hy; simp only [List.mem_map, List.mem_cons, List.not_mem_nil, or_false, List.mem_append] at hy; (focus (obtain ⟨_, _, rfl⟩ := hy; rfl; done))); (refine app_ok ?_ (by kernel_rfl); (try simp only [List.length_append, List.length_map, List.length_cons, List.length_nil, List.length_take, List.length_drop]); omega)); intro _; refine xAs ?_; refine zY ?_; refine zX (zZ ?_); refine xMv ?_; refine xBi ?_; intro _ _; refine zY ?_; refine q_c (fun h h_k => ?_) (fun h h_k => ?_) <;> ((try subst h_k); (have hp := h; try simp only [q_n] at hp); (try (exfalso; first | omega | (cases hp; done))));
        refine zZ ?_; refine xMv ?_; apply zQ; rfl; rfl; rfl; (apply g_sliceLo; rfl; rfl; rfl; (exact (rfl : (1:Int) = ((1:Nat):Int))); omega); refine xAs ?_; refine zN ?_; simp only [zP, zU, zT, zW, retA, ↓reduceIte, Nat.reduceEqDiff]; rotate_left; refine zX (zZ ?_); refine xMv ?_; refine xLn ?_; refine xBi ?_; intro _ _; refine xAs ?_; refine zY ?_; refine q_c (fun h h_k => ?_) (fun h h_k => ?_) <;> ((try subst h_k); (have hp := h; try simp only [q_n] at hp); (try (exfalso; first | omega | (cases hp; done))));
        rotate_left
        (all_goals (repeat (rename BV _ _ => hbv; first | cases hbv | clear hbv)))
        all_goals (try (first | cases ‹true = false› | cases ‹false = true›))
        rename Value => v2
        refine ⟨(o ++ [y], [], M, v2), ⟨hnx, by simp at hI2 ⊢; omega⟩, by simp, ?_⟩
        dsimp only
        rw [← sl_snoc]
        exact q_le
    | cons x L =>
      have hgx := sl_get (l := x :: L) (k := 0) rfl
      cases M with
      | nil =>
        have hnx : mergeR l m = (mergeR L []).map (o ++ [x] ++ ·) := by rw [hI1, mergeR_nil, mergeR_nil]; simp
        refine zX ?_; refine zX (zZ ?_); refine xMv ?_; refine xLn ?_; refine xMv ?_; refine xLn ?_; refine xAd ?_; refine xBi ?_; intro _ _; refine zY ?_; refine q_c (fun h h_k => ?_) (fun h h_k => ?_) <;> ((try subst h_k); (have hp := h; try simp only [q_n] at hp); (try (exfalso; first | omega | (cases hp; done))));
        refine zR ?_; refine zL ?_; refine zX (zZ ?_); refine xAs ?_; refine zY ?_; refine zX ?_; refine zL ?_; refine zX (zZ ?_); refine xMv ?_; refine xLn ?_; refine xBi ?_; intro _ _; refine xAs ?_; refine zY ?_; refine q_c (fun h h_k => ?_) (fun h h_k => ?_) <;> ((try subst h_k); (have hp := h; try simp only [q_n] at hp); (try (exfalso; first | omega | (cases hp; done))));
        refine zX (zZ ?_); refine xMv ?_; refine xLn ?_; refine xBi ?_; intro _ _; refine xAs ?_; refine zY ?_; refine q_c (fun h h_k => ?_) (fun h h_k => ?_) <;> ((try subst h_k); (have hp := h; try simp only [q_n] at hp); (try (exfalso; first | omega | (cases hp; done))));
        refine zZ ?_; refine xAs ?_; refine zN ?_; refine zX ?_; refine zX ?_; refine ex_drawP rfl rfl (by kernel_rfl) rfl ?_; refine ex_drawQ rfl (by kernel_rfl) rfl ?_; refine wMv ?_; refine wBi ?_; intro _ _; refine wMv ?_; refine q_w (fun h h_k => ?_) (fun h h_k => ?_) <;> ((try subst h_k); (have hp := h; try simp only [q_n] at hp); (try (exfalso; first | omega | (cases hp; done))));
        refine wSk ?_; refine wSk ?_; refine wSk ?_; refine wSk ?_; refine wSk ?_; refine wSk ?_; refine wSk ?_; apply wl_is; rfl; rfl; rfl; (intro σ' hl; (apply g_pick_f; rfl; (rfl); rfl)); refine wl_nil ?_; show EX _ _ _ _ _; refine ex_cond_f rfl (by rfl) ?_; refine zR ?_; refine zX ?_; refine zX (zZ ?_); refine xMv ?_; refine xBi ?_; intro _ _; refine zY ?_; refine q_c (fun h h_k => ?_) (fun h h_k => ?_) <;> ((try subst h_k); (have hp := h; try simp only [q_n] at hp); (try (exfalso; first | omega | (cases hp; done))));
        rotate_left; rotate_left
        (all_goals (repeat (rename BV _ _ => hbv; first | cases hbv | clear hbv)))
        all_goals (try (first | cases ‹true = false› | cases ‹false = true›))
        refine ex_drawLO (fun _ => False) 9 [0, 1, 2, 3, 4, 6, 7, 5, 8] [7] rfl (by kernel_rfl) rfl (by kernel_rfl) rfl ?_
        simp only [pick, List.filterMap_cons, List.filterMap_nil, List.getElem?_cons_zero, List.getElem?_cons_succ, List.take_succ_cons, List.take_zero, List.drop_succ_cons, List.drop_zero]
        refine wMv ?_; refine wMv ?_; refine wIx ?_; refine wLa ?_; apply wl_is; rfl; rfl; rfl; (intro σ' hl; (exact gop_sealed (g_buildSlice rfl rfl (by decide) rfl rfl (by (simp only [chunkN, List.take_succ_cons, List.take_zero, List.drop_succ_cons, List.drop_zero]; rfl))))); refine wMv ?_; apply wl_is; rfl; rfl; rfl; (intro σ' hl; (apply g_sliceLo; rfl; rfl; rfl; (exact (rfl : (1:Int) = ((1:Nat):Int))); omega)); refine wl_eff rfl rfl rfl (by apply g_append; rfl; rfl; rfl; (intro v'; (exact Upd.here)); (exact .d); (intro y hy; simp only [List.mem_map, List.mem_cons, List.not_mem_nil, or_false, List.mem_append] at hy; (focus (obtain ⟨_, _, rfl⟩ := hy; rfl; done))); (refine app_ok ?_ (by kernel_rfl); (try simp only [List.length_append, List.length_map, List.length_cons, List.length_nil, List.length_take, List.length_drop]); omega)) ?_; rintro _ _ ⟨v'⟩; refine ⟨(by (rintro _ (rfl | rfl) _ <;> exact (by (repeat first | exact q_h | apply q_t | assumption); done))), ?_⟩; apply wl_is; rfl; rfl; rfl; (intro σ' hl; (apply g_assign; rfl)); refine wl_nil ?_; refine xAs ?_; refine zY ?_; refine zX (zZ ?_); refine xMv ?_; refine xBi ?_; intro _ _; refine zY ?_; refine q_c (fun h h_k => ?_) (fun h h_k => ?_) <;> ((try subst h_k); (have hp := h; try simp only [q_n] at hp); (try (exfalso; first | omega | (cases hp; done))));
        refine zR ?_; simp only [zP, zU, zT, zW, retA, ↓reduceIte, Nat.reduceEqDiff]; rotate_left
        (all_goals (repeat (rename BV _ _ => hbv; first | cases hbv | clear hbv)))
        all_goals (try (first | cases ‹true = false› | cases ‹false = true›))
        rename Value => v2
        refine ⟨(o ++ [x], L, [], v2), ⟨hnx, by simp at hI2 ⊢; omega⟩, by simp, ?_⟩
        dsimp only
        rw [← sl_snoc]
        exact q_le
      | cons y M =>
        have hgy := sl_get (l := y :: M) (k := 0) rfl
        obtain ⟨s1, s2, s3, s4⟩ := merge_step hI1
        have cc := compare_c x y
        obtain ⟨c, hc⟩ : ∃ c, cmpS x y = c := ⟨_, rfl⟩
        rw [hc] at cc
        have hlt := @cmpS_lt x y
        have hgt := @cmpS_gt x y
        rw [hc] at hlt hgt
        clear hI1
        rcases Int.lt_trichotomy c 0 with hc0 | hc0 | hc0
        · have hnx := s1 (hlt.1 hc0)
          clear s1 s2 s3 s4 hlt hgt hc
          refine zX ?_; refine zX (zZ ?_); refine xMv ?_; refine xLn ?_; refine xMv ?_; refine xLn ?_; refine xAd ?_; refine xBi ?_; intro _ _; refine zY ?_; refine q_c (fun h h_k => ?_) (fun h h_k => ?_) <;> ((try subst h_k); (have hp := h; try simp only [q_n] at hp); (try (exfalso; first | omega | (cases hp; done))));
          refine zR ?_; refine zL ?_; refine zX (zZ ?_); refine xAs ?_; refine zY ?_; refine zX ?_; refine zL ?_; refine zX (zZ ?_); refine xMv ?_; refine xLn ?_; refine xBi ?_; intro _ _; refine xAs ?_; refine zY ?_; refine q_c (fun h h_k => ?_) (fun h h_k => ?_) <;> ((try subst h_k); (have hp := h; try simp only [q_n] at hp); (try (exfalso; first | omega | (cases hp; done))));
          refine zX (zZ ?_); refine xMv ?_; refine xLn ?_; refine xBi ?_; intro _ _; refine xAs ?_; refine zY ?_; refine q_c (fun h h_k => ?_) (fun h h_k => ?_) <;> ((try subst h_k); (have hp := h; try simp only [q_n] at hp); (try (exfalso; first | omega | (cases hp; done))));
          refine ex_drawC rfl rfl (by kernel_rfl) rfl ?_; refine ex_drawQ rfl (by kernel_rfl) rfl ?_; refine wMv ?_; refine wIx ?_; refine wLa ?_; refine wMv ?_; refine wIx ?_; refine wLa ?_; apply wl_is; rfl; rfl; rfl; (intro σ' hl; (refine zK rfl rfl (zV (by kernel_rfl)) ?_; exact cc _)); apply wl_is; rfl; rfl; rfl; (intro σ' hl; (apply g_assign; rfl)); refine wl_nil ?_; show EX _ _ _ _ _; refine zX ?_; refine zX ?_; refine ex_drawC rfl rfl (by kernel_rfl) rfl ?_; refine ex_drawQ rfl (by kernel_rfl) rfl ?_; refine wMv ?_; refine wBi ?_; intro _ _; refine wMv ?_; refine q_w (fun h h_k => ?_) (fun h h_k => ?_) <;> ((try subst h_k); (have hp := h; try simp only [q_n] at hp); (try (exfalso; first | omega | (cases hp; done))));
          refine wSk ?_; refine wSk ?_; refine wSk ?_; refine wSk ?_; refine wSk ?_; refine wSk ?_; refine wSk ?_; apply wl_is; rfl; rfl; rfl; (intro σ' hl; (apply g_pick_f; rfl; (rfl); rfl)); refine wl_nil ?_; show EX _ _ _ _ _; refine ex_cond_f rfl (by rfl) ?_; refine zR ?_; refine zX ?_; refine zX (zZ ?_); refine xMv ?_; refine xBi ?_; intro _ _; refine zY ?_; refine q_c (fun h h_k => ?_) (fun h h_k => ?_) <;> ((try subst h_k); (have hp := h; try simp only [q_n] at hp); (try (exfalso; first | omega | (cases hp; done))));
          rotate_left
          (all_goals (repeat (rename BV _ _ => hbv; first | cases hbv | clear hbv)))
          all_goals (try (first | cases ‹true = false› | cases ‹false = true›))
          refine ex_drawLO (fun _ => False) 9 [0, 1, 2, 3, 4, 6, 7, 5, 8] [7] rfl (by kernel_rfl) rfl (by kernel_rfl) rfl ?_
          simp only [pick, List.filterMap_cons, List.filterMap_nil, List.getElem?_cons_zero, List.getElem?_cons_succ, List.take_succ_cons, List.take_zero, List.drop_succ_cons, List.drop_zero]
          refine wMv ?_; refine wMv ?_; refine wIx ?_; refine wLa ?_; apply wl_is; rfl; rfl; rfl; (intro σ' hl; (exact gop_sealed (g_buildSlice rfl rfl (by decide) rfl rfl (by (simp only [chunkN, List.take_succ_cons, List.take_zero, List.drop_succ_cons, List.drop_zero]; rfl))))); refine wMv ?_; apply wl_is; rfl; rfl; rfl; (intro σ' hl; (apply g_sliceLo; rfl; rfl; rfl; (exact (rfl : (1:Int) = ((1:Nat):Int))); omega)); refine wl_eff rfl rfl rfl (by apply g_append; rfl; rfl; rfl; (intro v'; (exact Upd.here)); (exact .d); (intro y hy; simp only [List.mem_map, List.mem_cons, List.not_mem_nil, or_false, List.mem_append] at hy; (focus (obtain ⟨_, _, rfl⟩ := hy; rfl; done))); (refine app_ok ?_ (by kernel_rfl); (try simp only [List.length_append, List.length_map, List.length_cons, List.length_nil, List.length_take, List.length_drop]); omega)) ?_; rintro _ _ ⟨v'⟩; refine ⟨(by (rintro _ (rfl | rfl) _ <;> exact (by (repeat first | exact q_h | apply q_t | assumption); done))), ?_⟩; apply wl_is; rfl; rfl; rfl; (intro σ' hl; (apply g_assign; rfl)); refine wl_nil ?_; refine xAs ?_; refine zY ?_; refine zX (zZ ?_); refine xMv ?_; refine xBi ?_; intro _ _; refine zY ?_; refine q_c (fun h h_k => ?_) (fun h h_k => ?_) <;> ((try subst h_k); (have hp := h; try simp only [q_n] at hp); (try (exfalso; first | omega | (cases hp; done))));
          refine zR ?_; simp only [zP, zU, zT, zW, retA, ↓reduceIte, Nat.reduceEqDiff]; rotate_left
          (all_goals (repeat (rename BV _ _ => hbv; first | cases hbv | clear hbv)))
          all_goals (try (first | cases ‹true = false› | cases ‹false = true›))
          rename Value => v2
          refine ⟨(o ++ [x], L, y :: M, v2), ⟨hnx, by simp at hI2 ⊢; omega⟩, by simp, ?_⟩
          dsimp only
          rw [← sl_snoc]
          exact q_le
        · have hn1 : ¬ ltS x y := fun h => by have := hlt.2 h; omega
          have hn2 : ¬ ltS y x := fun h => by have := hgt.2 h; omega
          subst hc0
          by_cases hxy : x = y
          · have hnx := s3 hn1 hn2 hxy
            have hq : decide (x = y) = true := decide_eq_true hxy
            clear s1 s2 s3 s4 hlt hgt hc
            refine zX ?_; refine zX (zZ ?_); refine xMv ?_; refine xLn ?_; refine xMv ?_; refine xLn ?_; refine xAd ?_; refine xBi ?_; intro _ _; refine zY ?_; refine q_c (fun h h_k => ?_) (fun h h_k => ?_) <;> ((try subst h_k); (have hp := h; try simp only [q_n] at hp); (try (exfalso; first | omega | (cases hp; done))));
            refine zR ?_; refine zL ?_; refine zX (zZ ?_); refine xAs ?_; refine zY ?_; refine zX ?_; refine zL ?_; refine zX (zZ ?_); refine xMv ?_; refine xLn ?_; refine xBi ?_; intro _ _; refine xAs ?_; refine zY ?_; refine q_c (fun h h_k => ?_) (fun h h_k => ?_) <;> ((try subst h_k); (have hp := h; try simp only [q_n] at hp); (try (exfalso; first | omega | (cases hp; done))));
            refine zX (zZ ?_); refine xMv ?_; refine xLn ?_; refine xBi ?_; intro _ _; refine xAs ?_; refine zY ?_; refine q_c (fun h h_k => ?_) (fun h h_k => ?_) <;> ((try subst h_k); (have hp := h; try simp only [q_n] at hp); (try (exfalso; first | omega | (cases hp; done))));
            refine ex_drawC rfl rfl (by kernel_rfl) rfl ?_; refine ex_drawQ rfl (by kernel_rfl) rfl ?_; refine wMv ?_; refine wIx ?_; refine wLa ?_; refine wMv ?_; refine wIx ?_; refine wLa ?_; apply wl_is; rfl; rfl; rfl; (intro σ' hl; (refine zK rfl rfl (zV (by kernel_rfl)) ?_; exact cc _)); apply wl_is; rfl; rfl; rfl; (intro σ' hl; (apply g_assign; rfl)); refine wl_nil ?_; show EX _ _ _ _ _; refine zX ?_; refine zX ?_; refine ex_drawC rfl rfl (by kernel_rfl) rfl ?_; refine ex_drawQ rfl (by kernel_rfl) rfl ?_; refine wMv ?_; refine wBi ?_; intro _ _; refine wMv ?_; refine q_w (fun h h_k => ?_) (fun h h_k => ?_) <;> ((try subst h_k); (have hp := h; try simp only [q_n] at hp); (try (exfalso; first | omega | (cases hp; done))));
            refine vMv ?_; refine vIx ?_; refine vLa ?_; refine vMv ?_; refine vIx ?_; refine vLa ?_; refine wl_isBW rfl rfl rfl rfl (fun σ' hl => g_neqSl rfl rfl rfl hq) ?_; intro _ _; apply wl_is; rfl; rfl; rfl; (intro σ' hl; (apply g_pick_t; rfl; (rfl); rfl)); refine wl_nil ?_; show EX _ _ _ _ _; refine q_c (fun h h_k => ?_) (fun h h_k => ?_) <;> ((try subst h_k); (have hp := h; try simp only [q_n] at hp); (try (exfalso; first | omega | (cases hp; done))));
            refine zR ?_; refine zX ?_; refine zX (zZ ?_); refine xMv ?_; refine xBi ?_; intro _ _; refine zY ?_; refine q_c (fun h h_k => ?_) (fun h h_k => ?_) <;> ((try subst h_k); (have hp := h; try simp only [q_n] at hp); (try (exfalso; first | omega | (cases hp; done))));
            rotate_left
            (all_goals (repeat (rename BV _ _ => hbv; first | cases hbv | clear hbv)))
            all_goals (try (first | cases ‹true = false› | cases ‹false = true›))
            refine ex_drawLO (fun _ => False) 9 [0, 1, 2, 3, 4, 6, 7, 5, 8] [7] rfl (by kernel_rfl) rfl (by kernel_rfl) rfl ?_
            simp only [pick, List.filterMap_cons, List.filterMap_nil, List.getElem?_cons_zero, List.getElem?_cons_succ, List.take_succ_cons, List.take_zero, List.drop_succ_cons, List.drop_zero]
            refine wMv ?_; refine wMv ?_; refine wIx ?_; refine wLa ?_; apply wl_is; rfl; rfl; rfl; (intro σ' hl; (exact gop_sealed (g_buildSlice rfl rfl (by decide) rfl rfl (by (simp only [chunkN, List.take_succ_cons, List.take_zero, List.drop_succ_cons, List.drop_zero]; rfl))))); refine wMv ?_; apply wl_is; rfl; rfl; rfl; (intro σ' hl; (apply g_sliceLo; rfl; rfl; rfl; (exact (rfl : (1:Int) = ((1:Nat):Int))); omega)); refine wl_eff rfl rfl rfl (by apply g_append; rfl; rfl; rfl; (intro v'; (exact Upd.here)); (exact .d); (intro y hy; simp only [List.mem_map, List.mem_cons, List.not_mem_nil, or_false, List.mem_append] at hy; (focus (obtain ⟨_, _, rfl⟩ := hy; rfl; done))); (refine app_ok ?_ (by kernel_rfl); (try simp only [List.length_append, List.length_map, List.length_cons, List.length_nil, List.length_take, List.length_drop]); omega)) ?_; rintro _ _ ⟨v'⟩; refine ⟨(by (rintro _ (rfl | rfl) _ <;> exact (by (repeat first | exact q_h | apply q_t | assumption); done))), ?_⟩; apply wl_is; rfl; rfl; rfl; (intro σ' hl; (apply g_assign; rfl)); refine wl_nil ?_; refine xAs ?_; refine zY ?_; refine zX (zZ ?_); refine xMv ?_; refine xBi ?_; intro _ _; refine zY ?_; refine q_c (fun h h_k => ?_) (fun h h_k => ?_) <;> ((try subst h_k); (have hp := h; try simp only [q_n] at hp); (try (exfalso; first | omega | (cases hp; done))));
            refine zZ ?_; refine xMv ?_; apply zQ; rfl; rfl; rfl; (apply g_sliceLo; rfl; rfl; rfl; (exact (rfl : (1:Int) = ((1:Nat):Int))); omega); refine xAs ?_; refine zN ?_; simp only [zP, zU, zT, zW, retA, ↓reduceIte, Nat.reduceEqDiff]; rotate_left
            (all_goals (repeat (rename BV _ _ => hbv; first | cases hbv | clear hbv)))
            all_goals (try (first | cases ‹true = false› | cases ‹false = true›))
            rename Value => v2
            refine ⟨(o ++ [x], L, M, v2), ⟨hnx, by simp at hI2 ⊢; omega⟩, by simp; omega, ?_⟩
            dsimp only
            rw [← sl_snoc]
            exact q_le
          · have hnx := s4 hn1 hn2 hxy
            have hq : decide (x = y) = false := decide_eq_false hxy
            rw [hnx]
            clear s1 s2 s3 s4 hlt hgt hc
            refine zX ?_; refine zX (zZ ?_); refine xMv ?_; refine xLn ?_; refine xMv ?_; refine xLn ?_; refine xAd ?_; refine xBi ?_; intro _ _; refine zY ?_; refine q_c (fun h h_k => ?_) (fun h h_k => ?_) <;> ((try subst h_k); (have hp := h; try simp only [q_n] at hp); (try (exfalso; first | omega | (cases hp; done))));
            refine zR ?_; refine zL ?_; refine zX (zZ ?_); refine xAs ?_; refine zY ?_; refine zX ?_; refine zL ?_; refine zX (zZ ?_); refine xMv ?_; refine xLn ?_; refine xBi ?_; intro _ _; refine xAs ?_; refine zY ?_; refine q_c (fun h h_k => ?_) (fun h h_k => ?_) <;> ((try subst h_k); (have hp := h; try simp only [q_n] at hp); (try (exfalso; first | omega | (cases hp; done))));
            refine zX (zZ ?_); refine xMv ?_; refine xLn ?_; refine xBi ?_; intro _ _; refine xAs ?_; refine zY ?_; refine q_c (fun h h_k => ?_) (fun h h_k => ?_) <;> ((try subst h_k); (have hp := h; try simp only [q_n] at hp); (try (exfalso; first | omega | (cases hp; done))));
            refine ex_drawC rfl rfl (by kernel_rfl) rfl ?_; refine ex_drawQ rfl (by kernel_rfl) rfl ?_; refine wMv ?_; refine wIx ?_; refine wLa ?_; refine wMv ?_; refine wIx ?_; refine wLa ?_; apply wl_is; rfl; rfl; rfl; (intro σ' hl; (refine zK rfl rfl (zV (by kernel_rfl)) ?_; exact cc _)); apply wl_is; rfl; rfl; rfl; (intro σ' hl; (apply g_assign; rfl)); refine wl_nil ?_; show EX _ _ _ _ _; refine zX ?_; refine zX ?_; refine ex_drawC rfl rfl (by kernel_rfl) rfl ?_; refine ex_drawQ rfl (by kernel_rfl) rfl ?_; refine wMv ?_; refine wBi ?_; intro _ _; refine wMv ?_; refine q_w (fun h h_k => ?_) (fun h h_k => ?_) <;> ((try subst h_k); (have hp := h; try simp only [q_n] at hp); (try (exfalso; first | omega | (cases hp; done))));
            refine vMv ?_; refine vIx ?_; refine vLa ?_; refine vMv ?_; refine vIx ?_; refine vLa ?_; refine wl_isBW rfl rfl rfl rfl (fun σ' hl => g_neqSl rfl rfl rfl hq) ?_; intro _ _; apply wl_is; rfl; rfl; rfl; (intro σ' hl; (apply g_pick_t; rfl; (rfl); rfl)); refine wl_nil ?_; show EX _ _ _ _ _; refine q_c (fun h h_k => ?_) (fun h h_k => ?_) <;> ((try subst h_k); (have hp := h; try simp only [q_n] at hp); (try (exfalso; first | omega | (cases hp; done))));
            refine zX (zZ ?_); refine xLa ?_; refine xSt ?_; refine xAs ?_; refine zY ?_; refine zJ ?_; simp only [zP, zU, zT, zW, retA, ↓reduceIte, Nat.reduceEqDiff]; rotate_left
            (all_goals (repeat (rename BV _ _ => hbv; first | cases hbv | clear hbv)))
            all_goals (try (first | cases ‹true = false› | cases ‹false = true›))
            refine q_rq (σ3 := σ) ?_
            exact fin_nil (sz := 8) (.tup (.agg (.here .nil) (.same .nil)) .nil) (fin_done .mk)
        · have hnx := s2 (hgt.1 hc0)
          clear s1 s2 s3 s4 hlt hgt hc
          refine zX ?_; refine zX (zZ ?_); refine xMv ?_; refine xLn ?_; refine xMv ?_; refine xLn ?_; refine xAd ?_; refine xBi ?_; intro _ _; refine zY ?_; refine q_c (fun h h_k => ?_) (fun h h_k => ?_) <;> ((try subst h_k); (have hp := h; try simp only [q_n] at hp); (try (exfalso; first | omega | (cases hp; done))));
          refine zR ?_; refine zL ?_; refine zX (zZ ?_); refine xAs ?_; refine zY ?_; refine zX ?_; refine zL ?_; refine zX (zZ ?_); refine xMv ?_; refine xLn ?_; refine xBi ?_; intro _ _; refine xAs ?_; refine zY ?_; refine q_c (fun h h_k => ?_) (fun h h_k => ?_) <;> ((try subst h_k); (have hp := h; try simp only [q_n] at hp); (try (exfalso; first | omega | (cases hp; done))));
          refine zX (zZ ?_); refine xMv ?_; refine xLn ?_; refine xBi ?_; intro _ _; refine xAs ?_; refine zY ?_; refine q_c (fun h h_k => ?_) (fun h h_k => ?_) <;> ((try subst h_k); (have hp := h; try simp only [q_n] at hp); (try (exfalso; first | omega | (cases hp; done))));
          refine ex_drawC rfl rfl (by kernel_rfl) rfl ?_; refine ex_drawQ rfl (by kernel_rfl) rfl ?_; refine wMv ?_; refine wIx ?_; refine wLa ?_; refine wMv ?_; refine wIx ?_; refine wLa ?_; apply wl_is; rfl; rfl; rfl; (intro σ' hl; (refine zK rfl rfl (zV (by kernel_rfl)) ?_; exact cc _)); apply wl_is; rfl; rfl; rfl; (intro σ' hl; (apply g_assign; rfl)); refine wl_nil ?_; show EX _ _ _ _ _; refine zX ?_; refine zX ?_; refine ex_drawC rfl rfl (by kernel_rfl) rfl ?_; refine ex_drawQ rfl (by kernel_rfl) rfl ?_; refine wMv ?_; refine wBi ?_; intro _ _; refine wMv ?_; refine q_w (fun h h_k => ?_) (fun h h_k => ?_) <;> ((try subst h_k); (have hp := h; try simp only [q_n] at hp); (try (exfalso; first | omega | (cases hp; done))));
          refine wSk ?_; refine wSk ?_; refine wSk ?_; refine wSk ?_; refine wSk ?_; refine wSk ?_; refine wSk ?_; apply wl_is; rfl; rfl; rfl; (intro σ' hl; (apply g_pick_f; rfl; (rfl); rfl)); refine wl_nil ?_; show EX _ _ _ _ _; refine ex_cond_f rfl (by rfl) ?_; refine zR ?_; refine zX ?_; refine zX (zZ ?_); refine xMv ?_; refine xBi ?_; intro _ _; refine zY ?_; refine q_c (fun h h_k => ?_) (fun h h_k => ?_) <;> ((try subst h_k); (have hp := h; try simp only [q_n] at hp); (try (exfalso; first | omega | (cases hp; done))));
          refine zZ ?_; refine xMv ?_; refine xMv ?_; refine xIx ?_; refine xLa ?_; refine exl_row rfl rfl rfl (by exact g_buildSlice rfl rfl (by decide) rfl rfl (by (simp only [chunkN, List.take_succ_cons, List.take_zero, List.drop_succ_cons, List.drop_zero]; rfl))) ?_; intro _; apply exl_grew; rfl; rfl; rfl; (apply g_append; rfl; rfl; rfl; (intro v'; (exact Upd.there (Upd.here))); (exact .r (by (repeat first | exact q_h | apply q_t | assumption); done)); (intro y hy; simp only [List.mem_map, List.mem_cons, List.not_mem_nil, or_false, List.mem_append] at hy; (focus (obtain ⟨_, _, rfl⟩ := hy; rfl; done))); (refine app_ok ?_ (by kernel_rfl); (try simp only [List.length_append, List.length_map, List.length_cons, List.length_nil, List.length_take, List.length_drop]); omega)); intro _; refine xAs ?_; refine zY ?_; refine zX (zZ ?_); refine xMv ?_; refine xBi ?_; intro _ _; refine zY ?_; refine q_c (fun h h_k => ?_) (fun h h_k => ?_) <;> ((try subst h_k); (have hp := h; try simp only [q_n] at hp); (try (exfalso; first | omega | (cases hp; done))));
          refine zZ ?_; refine xMv ?_; apply zQ; rfl; rfl; rfl; (apply g_sliceLo; rfl; rfl; rfl; (exact (rfl : (1:Int) = ((1:Nat):Int))); omega); refine xAs ?_; refine zN ?_; simp only [zP, zU, zT, zW, retA, ↓reduceIte, Nat.reduceEqDiff]; rotate_left
          (all_goals (repeat (rename BV _ _ => hbv; first | cases hbv | clear hbv)))
          all_goals (try (first | cases ‹true = false› | cases ‹false = true›))
          rename Value => v2
          refine ⟨(o ++ [y], x :: L, M, v2), ⟨hnx, by simp at hI2 ⊢; omega⟩, by simp, ?_⟩
          dsimp only
          rw [← sl_snoc]
          exact q_le
end Go.Proofs.YtkhoengjdfmfaaaGreat
namespace Go.Proofs.YtkhoengjdfmfaaaGreat
def andNot (a b : Nat) : Nat := a ^^^ (a &&& b)
theorem ofInt_nat (a : Nat) (h : a < 9223372036854775808) : (BitVec.ofInt 64 (a : Int)).toNat = a := by
  rw [BitVec.ofInt_natCast, BitVec.toNat_ofNat]
  exact Nat.mod_eq_of_lt (by omega)
section
variable {P : Program} {ro : Option Nat} {env : Env} {σ : List Ent} {dst : Option Tmp} {ty : TypeId} {pos : String} {after : Array Edge} {guard : Option (Nat × Bool)}
theorem g_xorN {x y : Operand} {t yt : TypeId} {a b : Int} {m n : Nat} (hx : evA env x = some (.int .i64 a)) (hy : evA env y = some (.int .i64 b)) (ha : a = (m : Int)) (hb : b = (n : Int)) (h1 : m < 9223372036854775808) (h2 : n < 9223372036854775808) :
    GOp P ro ⟨dst, .binOp .xor t x y yt, ty, pos, after, guard⟩ env σ (Is (.int .i64 ((m ^^^ n : Nat) : Int)) σ) := by
  subst ha hb
  refine g_bits hx hy (.inl rfl) rfl ?_
  show IntKind.i64.wrap ((BitVec.ofInt 64 (m : Int) ^^^ BitVec.ofInt 64 (n : Int)).toNat : Int) = _
  rw [BitVec.toNat_xor, ofInt_nat m h1, ofInt_nat n h2]
  have : m ^^^ n < 9223372036854775808 := Nat.xor_lt_two_pow (n := 63) h1 h2
  exact wrap64 ⟨by omega, by omega⟩
end
end Go.Proofs.YtkhoengjdfmfaaaGreat
namespace Go.Proofs.YtkhoengjdfmfaaaGreat
section
variable {P : Program} {ro : Option Nat} {env : Env} {σ : List Ent} {dst : Option Tmp} {ty : TypeId} {pos : String} {after : Array Edge} {guard : Option (Nat × Bool)}
theorem g_conv {s t : TypeId} {x : Operand} {k' ks k2 : IntKind} {n c : Int} (hs : P.underlying s = some (.int ks)) (ht : P.underlying t = some (.int k2)) (hx : evA env x = some (.int k' n)) (hc : k2.wrap n = c) :
    GOp P ro ⟨dst, .convert s t x, ty, pos, after, guard⟩ env σ (Is (.int k2 c) σ) :=
  gop_pure _ (by intro c h; cases h) fun X M e w hg ho => by
    have h1 := ho x (by simp [Op.operands]) _ hx
    simp only [VRel] at h1
    refine ⟨.int k2 c, by simp [VRel], ?_⟩
    simp [execOp, h1, convert, Sem.run_bind, run_underlying hs, run_underlying ht, Conv.intToInt, hc]
theorem wrapU64 {m : Nat} (h : m < 18446744073709551616) : IntKind.u64.wrap (m : Int) = m := by rw [IntKind.wrap_u64]; omega
theorem wrapU8 {m : Nat} (h : m < 256) : IntKind.u8.wrap (m : Int) = m := by rw [IntKind.wrap_u8]; omega
theorem ofInt64 {a : Nat} (h : a < 18446744073709551616) : (BitVec.ofInt 64 (a : Int)).toNat = a := by
  rw [BitVec.ofInt_natCast, BitVec.toNat_ofNat]; omega
theorem ofInt8 {a : Nat} (h : a < 256) : (BitVec.ofInt 8 (a : Int)).toNat = a := by
  rw [BitVec.ofInt_natCast, BitVec.toNat_ofNat]; omega
theorem g_orU {x y : Operand} {t yt : TypeId} {a b : Int} {m n q : Nat} (hx : evA env x = some (.int .u64 a)) (hy : evA env y = some (.int .u64 b)) (ha : a = (m : Int)) (hb : b = (n : Int)) (h1 : m < 18446744073709551616) (h2 : n < 18446744073709551616) (hq : m ||| n = q) :
    GOp P ro ⟨dst, .binOp .or t x y yt, ty, pos, after, guard⟩ env σ (Is (.int .u64 (q : Int)) σ) := by
  subst ha hb hq
  refine g_bits hx hy (.inl rfl) rfl ?_
  show IntKind.u64.wrap ((BitVec.ofInt 64 (m : Int) ||| BitVec.ofInt 64 (n : Int)).toNat : Int) = _
  rw [BitVec.toNat_or, ofInt64 h1, ofInt64 h2, wrapU64 (Nat.or_lt_two_pow (n := 64) h1 h2)]
theorem g_xorU {x y : Operand} {t yt : TypeId} {a b : Int} {m n q : Nat} (hx : evA env x = some (.int .u64 a)) (hy : evA env y = some (.int .u64 b)) (ha : a = (m : Int)) (hb : b = (n : Int)) (h1 : m < 18446744073709551616) (h2 : n < 18446744073709551616) (hq : m ^^^ n = q) :
    GOp P ro ⟨dst, .binOp .xor t x y yt, ty, pos, after, guard⟩ env σ (Is (.int .u64 (q : Int)) σ) := by
  subst ha hb hq
  refine g_bits hx hy (.inl rfl) rfl ?_
  show IntKind.u64.wrap ((BitVec.ofInt 64 (m : Int) ^^^ BitVec.ofInt 64 (n : Int)).toNat : Int) = _
  rw [BitVec.toNat_xor, ofInt64 h1, ofInt64 h2, wrapU64 (Nat.xor_lt_two_pow (n := 64) h1 h2)]
theorem g_andU {x y : Operand} {t yt : TypeId} {a b : Int} {m n q : Nat} (hx : evA env x = some (.int .u64 a)) (hy : evA env y = some (.int .u64 b)) (ha : a = (m : Int)) (hb : b = (n : Int)) (h1 : m < 18446744073709551616) (h2 : n < 18446744073709551616) (hq : m &&& n = q) :
    GOp P ro ⟨dst, .binOp .and t x y yt, ty, pos, after, guard⟩ env σ (Is (.int .u64 (q : Int)) σ) := by
  subst ha hb hq
  refine g_bits hx hy (.inl rfl) rfl ?_
  show IntKind.u64.wrap ((BitVec.ofInt 64 (m : Int) &&& BitVec.ofInt 64 (n : Int)).toNat : Int) = _
  rw [BitVec.toNat_and, ofInt64 h1, ofInt64 h2, wrapU64 (Nat.and_lt_two_pow (n := 64) _ h2)]
theorem g_or8 {x y : Operand} {t yt : TypeId} {a b : Int} {m n q : Nat} (hx : evA env x = some (.int .u8 a)) (hy : evA env y = some (.int .u8 b)) (ha : a = (m : Int)) (hb : b = (n : Int)) (h1 : m < 256) (h2 : n < 256) (hq : m ||| n = q) :
    GOp P ro ⟨dst, .binOp .or t x y yt, ty, pos, after, guard⟩ env σ (Is (.int .u8 (q : Int)) σ) := by
  subst ha hb hq
  refine g_bits hx hy (.inl rfl) rfl ?_
  show IntKind.u8.wrap ((BitVec.ofInt 8 (m : Int) ||| BitVec.ofInt 8 (n : Int)).toNat : Int) = _
  rw [BitVec.toNat_or, ofInt8 h1, ofInt8 h2, wrapU8 (Nat.or_lt_two_pow (n := 8) h1 h2)]
theorem g_and8 {x y : Operand} {t yt : TypeId} {a b : Int} {m n q : Nat} (hx : evA env x = some (.int .u8 a)) (hy : evA env y = some (.int .u8 b)) (ha : a = (m : Int)) (hb : b = (n : Int)) (h1 : m < 256) (h2 : n < 256) (hq : m &&& n = q) :
    GOp P ro ⟨dst, .binOp .and t x y yt, ty, pos, after, guard⟩ env σ (Is (.int .u8 (q : Int)) σ) := by
  subst ha hb hq
  refine g_bits hx hy (.inl rfl) rfl ?_
  show IntKind.u8.wrap ((BitVec.ofInt 8 (m : Int) &&& BitVec.ofInt 8 (n : Int)).toNat : Int) = _
  rw [BitVec.toNat_and, ofInt8 h1, ofInt8 h2, wrapU8 (Nat.and_lt_two_pow (n := 8) _ h2)]
theorem g_shlU {x y : Operand} {t yt : TypeId} {k' : IntKind} {a b : Int} {m n q : Nat} (hx : evA env x = some (.int .u64 a)) (hy : evA env y = some (.int k' b)) (ha : a = (m : Int)) (hb : b = (n : Int)) (hn : n ≤ 64) (hq : m * 2 ^ n = q) (hl : q < 18446744073709551616) :
    GOp P ro ⟨dst, .binOp .shl t x y yt, ty, pos, after, guard⟩ env σ (Is (.int .u64 (q : Int)) σ) := by
  subst ha hb
  refine g_bits (c := IntKind.u64.wrap ((m : Int) * 2 ^ min (n : Int).toNat 64)) hx hy (.inr (.inl rfl)) ?_ ?_
  · show (if (n : Int) < 0 then none else _) = _
    rw [if_neg (by omega)]; rfl
  · rw [Int.toNat_natCast, Nat.min_eq_left hn, show (m : Int) * 2 ^ n = ((m * 2 ^ n : Nat) : Int) by simp, hq, wrapU64 hl]
theorem g_shrU {x y : Operand} {t yt : TypeId} {k' : IntKind} {a b : Int} {m n q : Nat} (hx : evA env x = some (.int .u64 a)) (hy : evA env y = some (.int k' b)) (ha : a = (m : Int)) (hb : b = (n : Int)) (hn : n ≤ 64) (hq : m / 2 ^ n = q) :
    GOp P ro ⟨dst, .binOp .shr t x y yt, ty, pos, after, guard⟩ env σ (Is (.int .u64 (q : Int)) σ) := by
  subst ha hb
  refine g_bits (c := (m : Int).fdiv (2 ^ min (n : Int).toNat 64)) hx hy (.inr (.inr rfl)) ?_ ?_
  · show (if (n : Int) < 0 then none else _) = _
    rw [if_neg (by omega)]; rfl
  · rw [Int.toNat_natCast, Nat.min_eq_left hn, show (2 : Int) ^ n = ((2 ^ n : Nat) : Int) by simp, Int.fdiv_eq_ediv_of_nonneg _ (Int.natCast_nonneg _), ← Int.natCast_ediv, hq]
theorem g_shrI {x y : Operand} {t yt : TypeId} {k' : IntKind} {a b : Int} {m n q : Nat} (hx : evA env x = some (.int .i64 a)) (hy : evA env y = some (.int k' b)) (ha : a = (m : Int)) (hb : b = (n : Int)) (hn : n ≤ 64) (hq : m / 2 ^ n = q) :
    GOp P ro ⟨dst, .binOp .shr t x y yt, ty, pos, after, guard⟩ env σ (Is (.int .i64 (q : Int)) σ) := by
  subst ha hb
  refine g_bits (c := (m : Int).fdiv (2 ^ min (n : Int).toNat 64)) hx hy (.inr (.inr rfl)) ?_ ?_
  · show (if (n : Int) < 0 then none else _) = _
    rw [if_neg (by omega)]; rfl
  · rw [Int.toNat_natCast, Nat.min_eq_left hn, show (2 : Int) ^ n = ((2 ^ n : Nat) : Int) by simp, Int.fdiv_eq_ediv_of_nonneg _ (Int.natCast_nonneg _), ← Int.natCast_ediv, hq]
theorem g_eqlStr {x y : Operand} {t yt : TypeId} {a b : ByteArray} {q : Bool} (ht : P.underlying t = some .string) (hx : evA env x = some (.str a)) (hy : evA env y = some (.str b)) (hq : (a.toList == b.toList) = q) :
    GOp P ro ⟨dst, .binOp .eql t x y yt, ty, pos, after, guard⟩ env σ (Is (.bool q) σ) :=
  gop_pure _ (by intro c h; cases h) fun X M e w hg ho => by
    have h1 := ho x (by simp [Op.operands]) _ hx
    have h2 := ho y (by simp [Op.operands]) _ hy
    simp only [VRel] at h1 h2
    refine ⟨.bool q, by simp [VRel], ?_⟩
    simp [execOp, h1, h2, eqGuard, binOp, Sem.run_bind, Op.stringOp, hq]
end
end Go.Proofs.YtkhoengjdfmfaaaGreat
namespace Go.Proofs.YtkhoengjdfmfaaaGreat
section
variable {P : Program} {ro : Option Nat} {env : Env} {σ : List Ent} {dst : Option Tmp} {ty : TypeId} {pos : String} {after : Array Edge} {guard : Option (Nat × Bool)}
theorem g_indexRaw {t e : TypeId} {x ix : Operand} {sz k n g cap : Nat} {kk : IntKind} {i : Int} (ht : elemOf P t = some (e, sz)) (hx : evA env x = some (.slv (.slice (some ⟨g, 0, none⟩) n cap))) (hi : evA env ix = some (.int kk i)) (hk : i = (k : Int)) (hlt : k < n) :
    GOp P ro ⟨dst, .indexAddr t x ix, ty, pos, after, guard⟩ env σ (Is (.rptr (.slice (some ⟨g, 0, none⟩) n cap) (k * sz)) σ) :=
  gop_pure _ (by intro c h; cases h) fun X M en w hg ho => by
    have h1 := ho x (by simp [Op.operands]) _ hx
    have h2 := ho ix (by simp [Op.operands]) _ hi
    simp only [VRel] at h1 h2
    obtain ⟨h1, _⟩ := h1
    obtain ⟨hue, inf, hinf, hsz⟩ := elemOf_spec ht
    have add : (⟨g, 0, none⟩ : Addr).add (k * sz) = ⟨g, k * sz, none⟩ := by unfold Addr.add; split <;> simp_all
    refine ⟨.pointer (some ⟨g, k * sz, none⟩), ⟨g, n, cap, rfl, rfl⟩, ?_⟩
    subst hk
    simp [execOp, h2, h1, Instr.indexAt, asIntOf, Sem.run_bind, run_underlying hue, sizeOf, typeInfo, hinf, hsz, hlt, add]
theorem ex_rowV {c : Code} {Q : Exit → St → Prop} {s : St} {v : Value} {e : TypeId} {sz : Nat} {L : List (List AV)} (hm : Ent.row v e sz L ∈ s.σ) (hL : L ≠ []) (h : ∀ g cap, v = .slice (some ⟨g, 0, none⟩) L.length cap → EX P ro c Q s) : EX P ro c Q s :=
  ⟨fun X M a w hs => by
    obtain ⟨xs, ⟨ho1, ho2⟩, _, _⟩ := hs.good.ent _ hm
    rcases ho2 with ⟨rfl, h0⟩ | ⟨g, cap, cur, hv, _⟩
    · exact absurd (List.eq_nil_of_length_eq_zero h0) hL
    · exact (h g cap hv).run X M a w hs⟩
end
end Go.Proofs.YtkhoengjdfmfaaaGreat
