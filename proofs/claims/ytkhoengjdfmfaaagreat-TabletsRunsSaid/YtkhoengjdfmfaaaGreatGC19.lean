/- Parts of the proof that belong together: Wu Ws. -/
import Derived.Test.YtkhoengjdfmfaaaGreatGC04
import Derived.Test.YtkhoengjdfmfaaaGreatGC12
import Derived.Test.YtkhoengjdfmfaaaGreatGC18
set_option maxRecDepth 10000
set_option linter.unusedSimpArgs false
set_option linter.unusedVariables false
namespace Go.Proofs.YtkhoengjdfmfaaaGreat
theorem use_rest {P : Program} {ro : Option Nat} {c : Code} {Q : Exit → St → Prop} {α : Type} (S : α → St) (H : α → Prop) {G : Prop} (h1 : (∀ a, H a → EX P ro c Q (S a)) → G) (h2 : ∀ a, H a → EX P ro c Q (S a)) : G := h1 h2
set_option maxHeartbeats 64000000 in
theorem runsLaw_c (n : Nat) (L : List Ps) (hn : n < 256) : SCall Tryz.prog 5 [.int .u8 n, .dl 12 (L.map psC)] [] (Is (.bool true) []) := by
  refine scall_of Tryz.func5 rfl (by simp) ?_
  obtain ⟨N, hN, hN2⟩ : ∃ N : Nat, (1 : Int) + ((n % 8 : Nat) : Int) = (N : Nat) ∧ (1 ≤ N ∧ N ≤ 8) := ⟨1 + n % 8, by omega, by omega⟩
  have nw := new_ok N (by omega)
  rw [← hN] at nw
  by_cases hlen : (60 : Int) < L.length
  · clear nw
    refine zX (zZ ?_); refine xAs rfl rfl rfl rfl ?_; refine zY ?_; refine zX ?_; refine zX (zZ ?_); apply exl_isB; rfl; rfl; rfl; (refine yX rfl rfl (zQ (by kernel_rfl)) ?_; exact sane_c _); intro _ _; apply exl_isB; rfl; rfl; rfl; (apply g_not; rfl); intro _ _; refine zY ?_; refine zU rfl (fun h => ?_) (fun h => ?_) <;> ((first | (subst h; rename BV _ true => g; have h := g.eq; clear g) | (subst h; rename BV _ false => g; have h := g.eq; clear g) | skip); (have hp := h; try simp only [q_n] at hp); (try (exfalso; first | omega | (cases hp; done))));
    refine zX (zZ ?_); refine xAs rfl rfl rfl rfl ?_; refine zY ?_; refine yV ?_; simp only [zD, zK, zJ, zT, retA, ↓reduceIte, Nat.reduceEqDiff]; rotate_left; refine zG ?_; refine zX ?_; refine zX (zZ ?_); refine xMv rfl rfl rfl rfl ?_; apply zV; rfl; rfl; rfl; (apply g_len; rfl; rfl; (exact (List.length_map _).symm)); refine xBi rfl rfl rfl rfl rfl rfl ?_; intro _ _; refine zY ?_; refine zU rfl (fun h => ?_) (fun h => ?_) <;> ((first | (subst h; rename BV _ true => g; have h := g.eq; clear g) | (subst h; rename BV _ false => g; have h := g.eq; clear g) | skip); (have hp := h; try simp only [q_n] at hp); (try (exfalso; first | omega | (cases hp; done))));
    refine zX (zZ ?_); refine xAs rfl rfl rfl rfl ?_; refine zY ?_; refine yV ?_; simp only [zD, zK, zJ, zT, retA, ↓reduceIte, Nat.reduceEqDiff]; rotate_left
    (all_goals (repeat (rename BV _ _ => hbv; cases hbv)))
    all_goals (try (first | cases ‹true = false› | cases ‹false = true›))
    refine ret_is .nil (.cons (.ofTmp rfl) .nil) (by repeat (first | exact q_r | apply q_q | apply q_k | exact q_a)) ?_
    rfl
  have h8 : (8 : Int) = ((8 : Nat) : Int) := rfl
  have hrl : (List.replicate N ([] : List Sl)).length = N := List.length_replicate
  have hN3 : (1 : Int) + (n : Int) % 8 = (N : Nat) := by omega
  refine zX (zZ ?_); refine xAs rfl rfl rfl rfl ?_; refine zY ?_; refine zX ?_; refine zX (zZ ?_); apply exl_isB; rfl; rfl; rfl; (refine yX rfl rfl (zQ (by kernel_rfl)) ?_; exact sane_c _); intro _ _; apply exl_isB; rfl; rfl; rfl; (apply g_not; rfl); intro _ _; refine zY ?_; refine zU rfl (fun h => ?_) (fun h => ?_) <;> ((first | (subst h; rename BV _ true => g; have h := g.eq; clear g) | (subst h; rename BV _ false => g; have h := g.eq; clear g) | skip); (have hp := h; try simp only [q_n] at hp); (try (exfalso; first | omega | (cases hp; done))));
  refine zX (zZ ?_); refine xAs rfl rfl rfl rfl ?_; refine zY ?_; refine yV ?_; simp only [zD, zK, zJ, zT, retA, ↓reduceIte, Nat.reduceEqDiff]; rotate_left; refine zG ?_; refine zX ?_; refine zX (zZ ?_); refine xMv rfl rfl rfl rfl ?_; apply zV; rfl; rfl; rfl; (apply g_len; rfl; rfl; (exact (List.length_map _).symm)); refine xBi rfl rfl rfl rfl rfl rfl ?_; intro _ _; refine zY ?_; refine zU rfl (fun h => ?_) (fun h => ?_) <;> ((first | (subst h; rename BV _ true => g; have h := g.eq; clear g) | (subst h; rename BV _ false => g; have h := g.eq; clear g) | skip); (have hp := h; try simp only [q_n] at hp); (try (exfalso; first | omega | (cases hp; done))));
  refine zG ?_; refine zX (zZ ?_); refine xMv rfl rfl rfl rfl ?_; apply zV; rfl; rfl; rfl; (apply g_conv64; rfl; rfl; rfl; exact ⟨by omega, by omega⟩); apply zV; rfl; rfl; rfl; (apply g_remP; rfl; rfl; exact ⟨by omega, by omega⟩); apply zV; rfl; rfl; rfl; (apply g_add; rfl; rfl; rfl; exact ⟨by omega, by omega⟩); refine xAs rfl rfl rfl rfl ?_; refine zY ?_; refine zX (zZ ?_); refine xMv rfl rfl rfl rfl ?_; apply zV; rfl; rfl; rfl; (refine yX rfl rfl (zQ (by kernel_rfl)) ?_; exact nw _); refine xMv rfl rfl rfl rfl ?_; apply zV; rfl; rfl; rfl; (apply yW; rfl; rfl); apply zV; rfl; rfl; rfl; (apply yW; rfl; rfl); refine zE rfl rfl rfl (g_alloc rfl) ?_; intro _; apply yY; rfl; rfl; (apply zL; rfl; rfl; rfl; (exact Upd.here); (simp only [setL, q_z, AV.cells]; rfl); rfl; rfl; rfl; exact q_b rfl); refine xAs rfl rfl rfl rfl ?_; refine zY ?_; refine zX ?_; refine zX (zZ ?_); refine xMv rfl rfl rfl rfl ?_; refine xBi rfl rfl rfl rfl rfl rfl ?_; intro _ _; refine xMv rfl rfl rfl rfl ?_; refine zA rfl (fun h => ?_) (fun h => ?_) <;> ((first | (subst h; rename BV _ true => g; have h := g.eq; clear g) | (subst h; rename BV _ false => g; have h := g.eq; clear g) | skip); (have hp := h; try simp only [q_n] at hp); (try (exfalso; first | omega | (cases hp; done))));
  refine yFa rfl rfl rfl rfl rfl rfl rfl ?_; refine yLd rfl rfl rfl rfl rfl rfl (.p (by (repeat first | exact q_h | apply q_t | assumption); done) rfl) ?_; apply exl_isW; rfl; (rfl); rfl; rfl; (apply g_len; rfl; rfl; (exact (List.length_map _).symm)); apply exl_isW; rfl; (rfl); rfl; rfl; (apply zH; rfl); refine yBi rfl rfl rfl rfl rfl rfl rfl ?_; intro _ _; refine xPf rfl rfl rfl rfl rfl rfl ?_; refine zY ?_; refine zU rfl (fun h => ?_) (fun h => ?_) <;> ((first | (subst h; rename BV _ true => g; have h := g.eq; clear g) | (subst h; rename BV _ false => g; have h := g.eq; clear g) | skip); (have hp := h; try simp only [q_n] at hp); (try (exfalso; first | omega | (cases hp; done))));
  refine zG ?_; refine zX (zZ ?_); refine xMv rfl rfl rfl rfl ?_; rotate_left
  (all_goals (repeat (rename BV _ _ => hbv; cases hbv)))
  all_goals (try (first | cases ‹true = false› | cases ‹false = true›))
  refine exl_row rfl rfl rfl (g_makeSlice (n := N) rfl rfl rfl rfl hN3 hN3 (app_ok (by omega) (by kernel_rfl))) ?_
  intro vW
  refine xAs rfl rfl rfl rfl ?_; refine zY ?_; refine zX ?_; refine zX (zZ ?_); refine xMv rfl rfl rfl rfl ?_; apply zV; rfl; rfl; rfl; (apply g_len; rfl; rfl; (exact (List.length_map _).symm)); refine xMv rfl rfl rfl rfl ?_; refine zY ?_; refine yZ ?_; rotate_left
  (all_goals (repeat (rename BV _ _ => hbv; cases hbv)))
  all_goals (try (first | cases ‹true = false› | cases ‹false = true›))
  rename Nat => b6
  clear nw hrl
  refine ex_nilRows 43 8 N ?_
  obtain ⟨W0, hW0⟩ : ∃ W0 : List (List Sl × Value), W0 = List.replicate N ([], nilS) := ⟨_, rfl⟩
  refine ex_perm (σ' := rndE b6 (List.replicate N []) [] :: rowV vW W0 :: rowsW W0) ?_ ?_
  · have e1 : rowsW W0 = List.replicate N (rowW nilS []) := by rw [hW0]; unfold rowsW; rw [List.map_replicate]
    have e2 : vsC W0 = List.replicate N [AV.slv nilS] := by rw [hW0]; exact List.map_replicate
    rw [e1]
    show (List.replicate N (rowW nilS []) ++ [.row vW 22 1 (List.replicate N [AV.slv nilS]), rndE b6 (List.replicate N []) []]).Perm (rndE b6 (List.replicate N []) [] :: .row vW 22 1 (vsC W0) :: List.replicate N (rowW nilS []))
    rw [e2]
    exact (List.perm_append_comm).trans (.swap _ _ _)
  have hw0 : wOf W0 = List.replicate N [] := by rw [hW0]; exact List.map_replicate
  refine ex_loop (fun (z : Nat × List (List Sl) × List Qk × List (List Sl × Value)) => (⟨[(5, .int .i64 (1 + (n : Int) % 8)), (6, .ptr b6 0), (8, .slv vW), (50, .dl 12 (L.map psC)), (51, .int .i64 L.length), (52, .int .i64 z.1)], rndE b6 z.2.1 z.2.2.1 :: rowV vW z.2.2.2 :: rowsW z.2.2.2, [], Tryz.f5.ntmps⟩ : St)) (fun z => z.1 ≤ L.length ∧ Hist z.2.1 z.2.2.1 (wOf z.2.2.2) ∧ z.2.1.length = N) (fun z => L.length - z.1) (0, List.replicate N [], [], W0) (⟨Nat.zero_le _, by rw [hw0]; exact hist_new (by omega) (by omega), List.length_replicate⟩) (St.le_of (by repeat (first | exact trivial | refine ⟨rfl, ?_⟩)) (by repeat (first | exact q_r | apply q_q | apply q_k))) ?_
  intro z hI
  clear hw0 hW0
  obtain ⟨k, B, Q, W⟩ := z
  obtain ⟨hI1, hI2, hI3⟩ := hI
  dsimp only at hI1 hI2 hI3 ⊢
  by_cases hk : k < L.length
  · obtain ⟨r, hr⟩ : ∃ r, L[k]? = some r := get_some hk
    have hg : (L.map psC)[k]? = some (psC r) := by rw [List.getElem?_map, hr]; rfl
    have hd := fun σ => do_c B Q r hI2.rt σ
    cases hds : doS B Q r with
    | error e =>
      have he := do_code hds
      rw [hds] at hd
      dsimp only [doV] at hd
      refine zX (zZ ?_); refine xBi rfl rfl rfl rfl rfl rfl ?_; intro _ _; refine zY ?_; refine zX ?_; refine zU rfl (fun h => ?_) (fun h => ?_) <;> ((first | (subst h; rename BV _ true => g; have h := g.eq; clear g) | (subst h; rename BV _ false => g; have h := g.eq; clear g) | skip); (have hp := h; try simp only [q_n] at hp); (try (exfalso; first | omega | (cases hp; done))));
      refine zG ?_; refine zX ?_; refine yZ ?_; refine zX (zZ ?_); apply zV; rfl; rfl; rfl; (apply g_indexDl; rfl; rfl; rfl; (rfl); (assumption)); apply zV; rfl; rfl; rfl; (apply zB; rfl; decide; rfl; (exact .e rfl rfl)); refine zE rfl rfl rfl (g_alloc rfl) ?_; intro _; apply yY; rfl; rfl; (apply zL; rfl; rfl; rfl; (exact Upd.here); (simp only [setL, q_z, AV.cells]; rfl); rfl; rfl; rfl; exact q_b rfl); refine zY ?_; refine zX (zZ ?_); refine xLa rfl rfl rfl rfl (by decide) rfl (.p (by (repeat first | exact q_h | apply q_t | assumption); done) rfl rfl) ?_; refine xLa rfl rfl rfl rfl (by decide) rfl (.p (by (repeat first | exact q_h | apply q_t | assumption); done) rfl rfl) ?_; apply zV; rfl; rfl; rfl; (refine yX rfl rfl (zQ (by kernel_rfl)) ?_; exact hd _); refine xMv rfl rfl rfl rfl ?_; apply zV; rfl; rfl; rfl; (apply yW; rfl; rfl); apply zV; rfl; rfl; rfl; (apply yW; rfl; rfl); refine zE rfl rfl rfl (g_alloc rfl) ?_; intro _; apply yY; rfl; rfl; (apply zL; rfl; rfl; rfl; (exact Upd.here); (simp only [setL, q_z, AV.cells]; rfl); rfl; rfl; rfl; exact q_b rfl); refine xAs rfl rfl rfl rfl ?_; refine zY ?_; refine zX ?_; refine zX (zZ ?_); refine xMv rfl rfl rfl rfl ?_; refine xBi rfl rfl rfl rfl rfl rfl ?_; intro _ _; refine zY ?_; refine zU rfl (fun h => ?_) (fun h => ?_) <;> ((first | (subst h; rename BV _ true => g; have h := g.eq; clear g) | (subst h; rename BV _ false => g; have h := g.eq; clear g) | skip); (have hp := h; try simp only [q_n] at hp); (try (exfalso; first | omega | (cases hp; done))));
      refine ex_exit ?_; refine zZ ?_; apply zV; rfl; rfl; rfl; (apply g_add; rfl; rfl; rfl; exact ⟨by omega, by omega⟩); refine xMv rfl rfl rfl rfl ?_; refine zC ?_; simp only [zD, zK, zJ, zT, retA, ↓reduceIte, Nat.reduceEqDiff]; rotate_left
      (all_goals (repeat (rename BV _ _ => hbv; cases hbv)))
      all_goals (try (first | cases ‹true = false› | cases ‹false = true›))
      refine ⟨(k + 1, B, Q, W), ⟨hk, hI2, hI3⟩, by dsimp only; omega, ?_⟩
      dsimp only
      exact (St.le_of (by repeat (first | exact trivial | refine ⟨rfl, ?_⟩)) (by repeat (first | exact q_r | apply q_q | apply q_k | exact q_a)))
    | ok x =>
      obtain ⟨B2, Q2⟩ := x
      obtain ⟨h2, hgr, hrg⟩ := hist_do hI2 hds
      have hl2 : B2.length = N := by rw [hgr.len]; exact hI3
      have hWN : W.length = N := by have := hI2.len; unfold wOf at this; rw [List.length_map] at this; omega
      rw [hds] at hd
      dsimp only [doV] at hd
      clear hds
      apply use_rest (P := Tryz.prog) (ro := none) (fun (y : List (List Sl × Value) × Nat) => (⟨[(5, .int .i64 (1 + (n : Int) % 8)), (6, .ptr b6 0), (8, .slv vW), (11, .ptr y.2 0), (50, .dl 12 (L.map psC)), (51, .int .i64 L.length), (52, .int .i64 k), (103, bks B2), (104, .int .i64 B2.length), (105, .int .i64 0)], rndE y.2 B2 Q2 :: rndE b6 B Q :: rowV vW y.1 :: rowsW y.1, [], Tryz.f5.ntmps⟩ : St)) (fun y => Hist B2 Q2 (wOf y.1))
      · intro rest
        by_cases hw : r.k = 1
        · obtain ⟨ha0, haB⟩ := hrg hw
          obtain ⟨a, haa⟩ : ∃ a : Nat, r.a = a := ⟨r.a.toNat, by omega⟩
          obtain ⟨x, hx⟩ : ∃ x, W[a]? = some x := get_some (by omega)
          obtain ⟨w, va⟩ := x
          obtain ⟨R, hp1, hp2⟩ := rowsW_split hx
          refine ex_perm (.cons _ (.cons _ hp1)) ?_
          have hgv : (vsC W)[a]? = some [.slv va] := by rw [List.getElem?_map, hx]; rfl
          have hvl : (vsC W).length = N := by rw [List.length_map]; exact hWN
          have hwd : (wOf W).getD a [] = w := by rw [List.getD_eq_getElem?_getD, List.getElem?_map, hx]; rfl
          have hwl : w.length ≤ 512 := by
            have h3 := hI2.own a (by omega)
            rw [hwd] at h3
            rw [← h3]
            have h4 := (check_zero.1 (hI2.rt.ck _ (getD_mem (B := B) (t := a) (d := []) (by omega)))).1
            exact Nat.le_trans (List.length_filter_le _ _) h4
          refine zX (zZ ?_); refine xBi rfl rfl rfl rfl rfl rfl ?_; intro _ _; refine zY ?_; refine zX ?_; refine zU rfl (fun h => ?_) (fun h => ?_) <;> ((first | (subst h; rename BV _ true => g; have h := g.eq; clear g) | (subst h; rename BV _ false => g; have h := g.eq; clear g) | skip); (have hp := h; try simp only [q_n] at hp); (try (exfalso; first | omega | (cases hp; done))));
          refine zG ?_; refine zX ?_; refine yZ ?_; refine zX (zZ ?_); apply zV; rfl; rfl; rfl; (apply g_indexDl; rfl; rfl; rfl; (rfl); (assumption)); apply zV; rfl; rfl; rfl; (apply zB; rfl; decide; rfl; (exact .e rfl rfl)); refine zE rfl rfl rfl (g_alloc rfl) ?_; intro _; apply yY; rfl; rfl; (apply zL; rfl; rfl; rfl; (exact Upd.here); (simp only [setL, q_z, AV.cells]; rfl); rfl; rfl; rfl; exact q_b rfl); refine zY ?_; refine zX (zZ ?_); refine xLa rfl rfl rfl rfl (by decide) rfl (.p (by (repeat first | exact q_h | apply q_t | assumption); done) rfl rfl) ?_; refine xLa rfl rfl rfl rfl (by decide) rfl (.p (by (repeat first | exact q_h | apply q_t | assumption); done) rfl rfl) ?_; apply zV; rfl; rfl; rfl; (refine yX rfl rfl (zQ (by kernel_rfl)) ?_; exact hd _); refine xMv rfl rfl rfl rfl ?_; apply zV; rfl; rfl; rfl; (apply yW; rfl; rfl); apply zV; rfl; rfl; rfl; (apply yW; rfl; rfl); refine zE rfl rfl rfl (g_alloc rfl) ?_; intro _; apply yY; rfl; rfl; (apply zL; rfl; rfl; rfl; (exact Upd.here); (simp only [setL, q_z, AV.cells]; rfl); rfl; rfl; rfl; exact q_b rfl); refine xAs rfl rfl rfl rfl ?_; refine zY ?_; refine zX ?_; refine zX (zZ ?_); refine xMv rfl rfl rfl rfl ?_; refine xBi rfl rfl rfl rfl rfl rfl ?_; intro _ _; refine zY ?_; refine zU rfl (fun h => ?_) (fun h => ?_) <;> ((first | (subst h; rename BV _ true => g; have h := g.eq; clear g) | (subst h; rename BV _ false => g; have h := g.eq; clear g) | skip); (have hp := h; try simp only [q_n] at hp); (try (exfalso; first | omega | (cases hp; done))));
          refine zG ?_; refine zX ?_; refine zX (zZ ?_); refine xFa rfl rfl rfl rfl rfl rfl ?_; refine xLd rfl rfl rfl rfl rfl (.p (by (repeat first | exact q_h | apply q_t | assumption); done) rfl) ?_; apply zV; rfl; rfl; rfl; (apply g_len; rfl; rfl; (exact (List.length_map _).symm)); refine xMv rfl rfl rfl rfl ?_; refine xBi rfl rfl rfl rfl rfl rfl ?_; intro _ _; refine zY ?_; refine zU rfl (fun h => ?_) (fun h => ?_) <;> ((first | (subst h; rename BV _ true => g; have h := g.eq; clear g) | (subst h; rename BV _ false => g; have h := g.eq; clear g) | skip); (have hp := h; try simp only [q_n] at hp); (try (exfalso; first | omega | (cases hp; done))));
          refine zG ?_; refine zX ?_; refine zX (zZ ?_); refine xFa rfl rfl rfl rfl rfl rfl ?_; refine xLd rfl rfl rfl rfl rfl (.p (by (repeat first | exact q_h | apply q_t | assumption); done) rfl) ?_; refine xBi rfl rfl rfl rfl rfl rfl ?_; intro _ _; refine zY ?_; refine zU rfl (fun h => ?_) (fun h => ?_) <;> ((first | (subst h; rename BV _ true => g; have h := g.eq; clear g) | (subst h; rename BV _ false => g; have h := g.eq; clear g) | skip); (have hp := h; try simp only [q_n] at hp); (try (exfalso; first | omega | (cases hp; done))));
          refine zX ?_; refine zX (zZ ?_); refine xFa rfl rfl rfl rfl rfl rfl ?_; refine xLd rfl rfl rfl rfl rfl (.p (by (repeat first | exact q_h | apply q_t | assumption); done) rfl) ?_; refine xBi rfl rfl rfl rfl rfl rfl ?_; intro _ _; refine xMv rfl rfl rfl rfl ?_; refine zA rfl (fun h => ?_) (fun h => ?_) <;> ((first | (subst h; rename BV _ true => g; have h := g.eq; clear g) | (subst h; rename BV _ false => g; have h := g.eq; clear g) | skip); (have hp := h; try simp only [q_n] at hp); (try (exfalso; first | omega | (cases hp; done))));
          refine yFa rfl rfl rfl rfl rfl rfl rfl ?_; refine yLd rfl rfl rfl rfl rfl rfl (.p (by (repeat first | exact q_h | apply q_t | assumption); done) rfl) ?_; apply exl_isW; rfl; (rfl); rfl; rfl; (apply zH; rfl); refine yBi rfl rfl rfl rfl rfl rfl rfl ?_; intro _ _; refine xPf rfl rfl rfl rfl rfl rfl ?_; refine zY ?_; refine zU rfl (fun h => ?_) (fun h => ?_) <;> ((first | (subst h; rename BV _ true => g; have h := g.eq; clear g) | (subst h; rename BV _ false => g; have h := g.eq; clear g) | skip); (have hp := h; try simp only [q_n] at hp); (try (exfalso; first | omega | (cases hp; done))));
          refine zG ?_; refine zX (zZ ?_); refine xFa rfl rfl rfl rfl rfl rfl ?_; refine xLa rfl rfl rfl rfl (by decide) rfl (.p (by (repeat first | exact q_h | apply q_t | assumption); done) rfl rfl) ?_; refine zE rfl rfl rfl (g_alloc rfl) ?_; intro _; apply yY; rfl; rfl; (apply zL; rfl; rfl; rfl; (exact Upd.here); (simp only [setL, q_z, AV.cells]; rfl); rfl; rfl; rfl; exact q_b rfl); refine zY ?_; refine zX (zZ ?_); refine xMv rfl rfl rfl rfl ?_; refine xFa rfl rfl rfl rfl rfl rfl ?_; refine xLd rfl rfl rfl rfl rfl (.p (by (repeat first | exact q_h | apply q_t | assumption); done) rfl) ?_; apply zV; rfl; rfl; rfl; (apply g_indexRow; rfl; rfl; exact (by (repeat first | exact q_h | apply q_t | assumption); done); rfl; (assumption); (omega)); apply zV; rfl; rfl; rfl; (apply g_load1; rfl; rfl; (exact .k0 (by (repeat first | exact q_h | apply q_t | assumption); done) (by assumption) rfl)); apply zV; rfl; rfl; rfl; (apply g_len; rfl; rfl; (exact .inl ⟨_, _, _, (by (repeat first | exact q_h | apply q_t | assumption); done), (List.length_map _).symm⟩)); refine xFa rfl rfl rfl rfl rfl rfl ?_; apply yY; rfl; rfl; (apply zL; rfl; rfl; rfl; (exact Upd.here); (simp only [setL, q_z, AV.cells]; rfl); rfl; rfl; rfl; exact q_b rfl); refine zY ?_; rotate_left
          (all_goals (repeat (rename BV _ _ => hbv; cases hbv)))
          all_goals (try (first | cases ‹true = false› | cases ‹false = true›))
          rename Nat => b13; revert b13; rename Nat => b11; revert b11; rename Nat => b10; revert b10
          intro b10 b11 b13
          obtain ⟨s', hs'⟩ : ∃ s' : Sl, s' = { r.s with seq := (w.length : Nat) } := ⟨_, rfl⟩
          have hcs : slC s' = [.int .i64 r.s.tab, .int .i64 w.length, .int .i64 r.s.kind, .int .i64 r.s.turn, .int .i64 r.s.farm, .int .i64 r.s.hour, .int .i64 r.s.lit, .int .i64 r.s.off] := by rw [hs']
          refine ex_weaken (s' := ⟨[(5, .int .i64 (1 + (n : Int) % 8)), (6, .ptr b6 0), (8, .slv vW), (11, .ptr b11 0), (50, .dl 12 (L.map psC)), (51, .int .i64 L.length), (52, .int .i64 k), (10, .ptr b10 0), (13, .ptr b13 0)], .cells b13 [.int .i64 r.s.tab, .int .i64 w.length, .int .i64 r.s.kind, .int .i64 r.s.turn, .int .i64 r.s.farm, .int .i64 r.s.hour, .int .i64 r.s.lit, .int .i64 r.s.off] 43 :: rndE b11 B2 Q2 :: .cells b10 (psC r) 45 :: rndE b6 B Q :: rowV vW W :: rowW va w :: R, [], Tryz.f5.ntmps⟩) (St.le_of (by repeat (first | exact trivial | refine ⟨rfl, ?_⟩)) (by repeat (first | exact q_r | apply q_q | apply q_k))) ?_
          rw [← hcs]
          refine ex_drawLO (fun e => e = .cells b10 (psC r) 45 ∨ e = .cells b13 (slC s') 43 ∨ e = rowV vW W) 11 [0, 1, 2, 3, 4, 5, 6, 7, 8, 9, 10] [10] rfl (by kernel_rfl) rfl (by kernel_rfl) rfl ?_
          simp only [pick, List.filterMap_cons, List.filterMap_nil, List.getElem?_cons_zero, List.getElem?_cons_succ, List.take_succ_cons, List.take_zero, List.drop_succ_cons, List.drop_zero]
          apply zR; rfl; rfl; rfl; (intro σ' hl; (apply zH; rfl)); apply zR; rfl; rfl; rfl; (intro σ' hl; (apply zP; rfl; rfl; rfl)); apply zR; rfl; rfl; rfl; (intro σ' hl; (apply g_load1; rfl; rfl; (exact .p (hl _ (by (exact .inl rfl)) (by (repeat first | exact q_h | apply q_t | assumption); done)) rfl))); apply zR; rfl; rfl; rfl; (intro σ' hl; (apply zH; rfl)); apply zR; rfl; rfl; rfl; (intro σ' hl; (apply zP; rfl; rfl; rfl)); apply zR; rfl; rfl; rfl; (intro σ' hl; (apply g_load1; rfl; rfl; (exact .p (hl _ (by (exact .inl rfl)) (by (repeat first | exact q_h | apply q_t | assumption); done)) rfl))); apply zR; rfl; rfl; rfl; (intro σ' hl; (apply g_indexRow; rfl; rfl; exact hl _ (by (exact .inr (.inr rfl))) (by (repeat first | exact q_h | apply q_t | assumption); done); rfl; (assumption); (omega))); apply zR; rfl; rfl; rfl; (intro σ' hl; (apply g_load1; rfl; rfl; (exact .k0 (hl _ (by (exact .inr (.inr rfl))) (by (repeat first | exact q_h | apply q_t | assumption); done)) (by assumption) rfl))); apply zR; rfl; rfl; rfl; (intro σ' hl; (apply zB; rfl; decide; rfl; (exact .p (hl _ (by (exact .inr (.inl rfl))) (by (repeat first | exact q_h | apply q_t | assumption); done)) rfl rfl))); apply zR; rfl; rfl; rfl; (intro σ' hl; (exact gop_sealed (g_buildSlice rfl rfl (by decide) rfl rfl (by (simp only [chunkN, List.take_succ_cons, List.take_zero, List.drop_succ_cons, List.drop_zero]; rfl))))); refine wl_eff rfl rfl rfl (by apply g_append; rfl; rfl; rfl; (intro v'; exact (by (exact Upd.there (Upd.there (Upd.there (Upd.there (Upd.there (Upd.here)))))))); (exact .d); (intro y hy; simp only [List.mem_map, List.mem_cons, List.not_mem_nil, or_false, List.mem_append] at hy; (focus (obtain ⟨_, _, rfl⟩ := hy; rfl; done))); (refine app_ok ?_ (by kernel_rfl); (try simp only [List.length_append, List.length_map, List.length_cons, List.length_nil, List.length_take, List.length_drop]); omega)) ?_; rintro _ _ ⟨v'⟩; refine ⟨(by (rintro _ (rfl | rfl | rfl) _ <;> exact (by (repeat first | exact q_h | apply q_t | assumption); done))), ?_⟩; refine wl_nil ?_; apply zV; rfl; rfl; rfl; (apply g_indexRow; rfl; rfl; exact (by (repeat first | exact q_h | apply q_t | assumption); done); rfl; (assumption); (omega)); apply yY; rfl; rfl; focus (apply g_setElem; rfl; rfl; rfl; rfl; rfl; rfl; rotate_left; (exact Upd.there (Upd.there (Upd.there (Upd.there (Upd.here))))); (omega));
          refine zY ?_; refine zX ?_; refine zX (zZ ?_); refine xFa rfl rfl rfl rfl rfl rfl ?_; refine xLd rfl rfl rfl rfl rfl (.p (by (repeat first | exact q_h | apply q_t | assumption); done) rfl) ?_; apply zV; rfl; rfl; rfl; (apply g_len; rfl; rfl; (exact (List.length_map _).symm)); refine xMv rfl rfl rfl rfl ?_; refine zY ?_; refine yZ ?_; rotate_left
          (all_goals (repeat (rename BV _ _ => hbv; cases hbv)))
          all_goals (try (first | cases ‹true = false› | cases ‹false = true›))
          rename Value => v'
          have hset : (vsC W).set a [.slv v'] = vsC (W.set a (w ++ [s'], v')) := by show _ = (W.set a _).map _; rw [List.map_set]
          refine ex_weaken (s' := ⟨[(5, .int .i64 (1 + (n : Int) % 8)), (6, .ptr b6 0), (8, .slv vW), (11, .ptr b11 0), (50, .dl 12 (L.map psC)), (51, .int .i64 L.length), (52, .int .i64 k), (103, bks B2), (104, .int .i64 B2.length), (105, .int .i64 0)], rndE b11 B2 Q2 :: rndE b6 B Q :: .row vW 22 1 ((vsC W).set a [.slv v']) :: .row v' 43 8 (w.map slC ++ [slC s']) :: R, [], Tryz.f5.ntmps⟩) (St.le_of (by repeat (first | exact trivial | refine ⟨rfl, ?_⟩)) (by repeat (first | exact q_r | apply q_q | apply q_k))) ?_
          rw [hset, sl_snoc]
          refine ex_perm (.cons _ (.cons _ (.cons _ (hp2 _ _)))) ?_
          refine rest (W.set a (w ++ [s'], v'), b11) ?_
          have hww : wroteS (wOf W) r = wOf (W.set a (w ++ [s'], v')) := by
            unfold wroteS
            rw [if_pos hw, show r.a.toNat = a by omega, hwd, hs']
            show _ = (W.set a _).map _
            rw [List.map_set]
          rwa [hww] at h2
        · have hww : wroteS (wOf W) r = wOf W := if_neg hw
          rw [hww] at h2
          refine zX (zZ ?_); refine xBi rfl rfl rfl rfl rfl rfl ?_; intro _ _; refine zY ?_; refine zX ?_; refine zU rfl (fun h => ?_) (fun h => ?_) <;> ((first | (subst h; rename BV _ true => g; have h := g.eq; clear g) | (subst h; rename BV _ false => g; have h := g.eq; clear g) | skip); (have hp := h; try simp only [q_n] at hp); (try (exfalso; first | omega | (cases hp; done))));
          refine zG ?_; refine zX ?_; refine yZ ?_; refine zX (zZ ?_); apply zV; rfl; rfl; rfl; (apply g_indexDl; rfl; rfl; rfl; (rfl); (assumption)); apply zV; rfl; rfl; rfl; (apply zB; rfl; decide; rfl; (exact .e rfl rfl)); refine zE rfl rfl rfl (g_alloc rfl) ?_; intro _; apply yY; rfl; rfl; (apply zL; rfl; rfl; rfl; (exact Upd.here); (simp only [setL, q_z, AV.cells]; rfl); rfl; rfl; rfl; exact q_b rfl); refine zY ?_; refine zX (zZ ?_); refine xLa rfl rfl rfl rfl (by decide) rfl (.p (by (repeat first | exact q_h | apply q_t | assumption); done) rfl rfl) ?_; refine xLa rfl rfl rfl rfl (by decide) rfl (.p (by (repeat first | exact q_h | apply q_t | assumption); done) rfl rfl) ?_; apply zV; rfl; rfl; rfl; (refine yX rfl rfl (zQ (by kernel_rfl)) ?_; exact hd _); refine xMv rfl rfl rfl rfl ?_; apply zV; rfl; rfl; rfl; (apply yW; rfl; rfl); apply zV; rfl; rfl; rfl; (apply yW; rfl; rfl); refine zE rfl rfl rfl (g_alloc rfl) ?_; intro _; apply yY; rfl; rfl; (apply zL; rfl; rfl; rfl; (exact Upd.here); (simp only [setL, q_z, AV.cells]; rfl); rfl; rfl; rfl; exact q_b rfl); refine xAs rfl rfl rfl rfl ?_; refine zY ?_; refine zX ?_; refine zX (zZ ?_); refine xMv rfl rfl rfl rfl ?_; refine xBi rfl rfl rfl rfl rfl rfl ?_; intro _ _; refine zY ?_; refine zU rfl (fun h => ?_) (fun h => ?_) <;> ((first | (subst h; rename BV _ true => g; have h := g.eq; clear g) | (subst h; rename BV _ false => g; have h := g.eq; clear g) | skip); (have hp := h; try simp only [q_n] at hp); (try (exfalso; first | omega | (cases hp; done))));
          refine zG ?_; refine zX ?_; refine zX (zZ ?_); refine xFa rfl rfl rfl rfl rfl rfl ?_; refine xLd rfl rfl rfl rfl rfl (.p (by (repeat first | exact q_h | apply q_t | assumption); done) rfl) ?_; apply zV; rfl; rfl; rfl; (apply g_len; rfl; rfl; (exact (List.length_map _).symm)); refine xMv rfl rfl rfl rfl ?_; refine xBi rfl rfl rfl rfl rfl rfl ?_; intro _ _; refine zY ?_; refine zU rfl (fun h => ?_) (fun h => ?_) <;> ((first | (subst h; rename BV _ true => g; have h := g.eq; clear g) | (subst h; rename BV _ false => g; have h := g.eq; clear g) | skip); (have hp := h; try simp only [q_n] at hp); (try (exfalso; first | omega | (cases hp; done))));
          refine zG ?_; refine zX ?_; refine zX (zZ ?_); refine xFa rfl rfl rfl rfl rfl rfl ?_; refine xLd rfl rfl rfl rfl rfl (.p (by (repeat first | exact q_h | apply q_t | assumption); done) rfl) ?_; refine xBi rfl rfl rfl rfl rfl rfl ?_; intro _ _; refine zY ?_; refine zU rfl (fun h => ?_) (fun h => ?_) <;> ((first | (subst h; rename BV _ true => g; have h := g.eq; clear g) | (subst h; rename BV _ false => g; have h := g.eq; clear g) | skip); (have hp := h; try simp only [q_n] at hp); (try (exfalso; first | omega | (cases hp; done))));
          refine zG ?_; refine zX ?_; refine zX (zZ ?_); refine xFa rfl rfl rfl rfl rfl rfl ?_; refine xLd rfl rfl rfl rfl rfl (.p (by (repeat first | exact q_h | apply q_t | assumption); done) rfl) ?_; apply zV; rfl; rfl; rfl; (apply g_len; rfl; rfl; (exact (List.length_map _).symm)); refine xMv rfl rfl rfl rfl ?_; refine zY ?_; refine yZ ?_; rotate_left
          (all_goals (repeat (rename BV _ _ => hbv; cases hbv)))
          all_goals (try (first | cases ‹true = false› | cases ‹false = true›))
          rename Nat => b11; revert b11; rename Nat => b10; revert b10
          intro b10 b11
          refine ex_weaken (s' := ⟨[(5, .int .i64 (1 + (n : Int) % 8)), (6, .ptr b6 0), (8, .slv vW), (11, .ptr b11 0), (50, .dl 12 (L.map psC)), (51, .int .i64 L.length), (52, .int .i64 k), (103, bks B2), (104, .int .i64 B2.length), (105, .int .i64 0)], rndE b11 B2 Q2 :: rndE b6 B Q :: rowV vW W :: rowsW W, [], Tryz.f5.ntmps⟩) (St.le_of (by repeat (first | exact trivial | refine ⟨rfl, ?_⟩)) (by repeat (first | exact q_r | apply q_q | apply q_k))) ?_
          exact rest (W, b11) h2
      · rintro ⟨W', b11⟩ hh
        dsimp only at hh ⊢
        have hWN' : W'.length = N := by have := hh.len; unfold wOf at this; rw [List.length_map] at this; omega
        clear hd h2 hrg hWN hg hr
        refine ex_loop (fun (i : Nat) => (⟨[(5, .int .i64 (1 + (n : Int) % 8)), (6, .ptr b6 0), (8, .slv vW), (11, .ptr b11 0), (50, .dl 12 (L.map psC)), (51, .int .i64 L.length), (52, .int .i64 k), (103, bks B2), (104, .int .i64 B2.length), (105, .int .i64 i)], rndE b11 B2 Q2 :: rndE b6 B Q :: rowV vW W' :: rowsW W', [], Tryz.f5.ntmps⟩ : St)) (fun i => i ≤ B2.length) (fun i => B2.length - i) 0 (Nat.zero_le _) (St.le_of (by repeat (first | exact trivial | refine ⟨rfl, ?_⟩)) (by repeat (first | exact q_r | apply q_q | apply q_k))) ?_
        intro i hI
        by_cases hi : i < B2.length
        · obtain ⟨l2, hl2i⟩ : ∃ l, B2[i]? = some l := get_some hi
          obtain ⟨l1, hl1i⟩ : ∃ l, B[i]? = some l := get_some (by omega)
          obtain ⟨x, hx⟩ : ∃ x, W'[i]? = some x := get_some (by omega)
          obtain ⟨wi, vi⟩ := x
          have hm2 := List.mem_of_getElem? hl2i
          have hck := check_c l2
          rw [hh.rt.ck l2 hm2] at hck
          have hbg := hist_begins hh hm2
          rw [hl2] at hbg
          have gd2 : B2.getD i [] = l2 := by rw [List.getD_eq_getElem?_getD, hl2i]; rfl
          have gd1 : B.getD i [] = l1 := by rw [List.getD_eq_getElem?_getD, hl1i]; rfl
          have hle := hgr.more i (by omega)
          rw [gd1, gd2] at hle
          have hown := hh.own i hi
          rw [gd2, show (wOf W').getD i [] = wi by rw [List.getD_eq_getElem?_getD, List.getElem?_map, hx]; rfl] at hown
          have hmy : manyS l2 i = wi.length := by rw [many_len, hown]
          have hrow : rowW vi wi ∈ rowsW W' := List.mem_map.2 ⟨_, List.mem_of_getElem? hx, rfl⟩
          have hgv : (vsC W')[i]? = some [.slv vi] := by rw [List.getElem?_map, hx]; rfl
          have hvl : (vsC W').length = N := by rw [List.length_map]; exact hWN'
          have hg2 := bk_get hl2i
          have hg1 := bk_get hl1i
          have hN8 : N ≤ 8 := hN2.2
          have hl5 := (check_zero.1 (hh.rt.ck l2 hm2)).1
          clear hown gd1 gd2 hl1i hl2i hm2 hx
          refine zX (zZ ?_); refine xBi rfl rfl rfl rfl rfl rfl ?_; intro _ _; refine zY ?_; refine zX ?_; refine zU rfl (fun h => ?_) (fun h => ?_) <;> ((first | (subst h; rename BV _ true => g; have h := g.eq; clear g) | (subst h; rename BV _ false => g; have h := g.eq; clear g) | skip); (have hp := h; try simp only [q_n] at hp); (try (exfalso; first | omega | (cases hp; done))));
          refine zG ?_; refine zX ?_; refine yZ ?_; refine zX (zZ ?_); refine xMv rfl rfl rfl rfl ?_; apply zV; rfl; rfl; rfl; (apply g_indexDl; rfl; rfl; rfl; (rfl); (assumption)); apply zV; rfl; rfl; rfl; (apply zB; rfl; decide; rfl; (exact .e rfl rfl)); refine zE rfl rfl rfl (g_alloc rfl) ?_; intro _; refine xAs rfl rfl rfl rfl ?_; apply yY; rfl; rfl; (apply zL; rfl; rfl; rfl; (exact Upd.here); (simp only [setL, q_z, AV.cells]; rfl); rfl; rfl; rfl; exact q_b rfl); refine zY ?_; refine zX ?_; refine zX ?_; rotate_left
          (all_goals (repeat (rename BV _ _ => hbv; cases hbv)))
          all_goals (try (first | cases ‹true = false› | cases ‹false = true›))
          rename Nat => b15; revert b15
          intro b15
          refine ex_drawLK anyK 22 [] rfl (by kernel_rfl) rfl ?_
          simp only [List.take_succ_cons, List.take_zero, List.drop_succ_cons, List.drop_zero]
          apply zR; rfl; rfl; rfl; (intro σ' hl; (apply zB; rfl; decide; rfl; (exact .p (hl _ (by (exact True.intro)) (by (repeat first | exact q_h | apply q_t | assumption); done)) rfl rfl))); apply zR; rfl; rfl; rfl; (intro σ' hl; (refine yX rfl rfl (zQ (by kernel_rfl)) ?_; exact hck _)); apply wl_isB; rfl; rfl; rfl; (intro σ' hl; (apply g_binInt; rfl; rfl; rfl)); intro _ _; apply zR; rfl; rfl; rfl; (intro σ' hl; (apply zH; rfl)); refine wl_case rfl (fun h => ?_) (fun h => ?_) <;> ((first | (subst h; rename BV _ true => g; have h := g.eq; clear g) | (subst h; rename BV _ false => g; have h := g.eq; clear g) | skip); (have hp := h; try simp only [q_n] at hp); (try (exfalso; first | omega | (cases hp; done))));
          apply wl_isW; rfl; (rfl); rfl; rfl; (intro σ' hl; (apply zB; rfl; decide; rfl; (exact .p (hl _ (by (exact True.intro)) (by (repeat first | exact q_h | apply q_t | assumption); done)) rfl rfl))); apply wl_isW; rfl; (rfl); rfl; rfl; (intro σ' hl; (apply zH; rfl)); apply wl_isW; rfl; (rfl); rfl; rfl; (intro σ' hl; (refine yX rfl rfl (zQ (by kernel_rfl)) (begins_l N l2 W' vW hN8 hbg _ ?_); intro e he; exact hl _ True.intro (by repeat (first | exact he | refine List.Mem.tail _ ?_)))); apply wl_isBW; rfl; (rfl); rfl; rfl; (intro σ' hl; (apply g_not; rfl)); intro _ _; apply zR; rfl; rfl; rfl; (intro σ' hl; (apply g_pick_f; rfl; (rfl); rfl)); apply zR; rfl; rfl; rfl; (intro σ' hl; (apply zH; rfl)); refine wl_case rfl (fun h => ?_) (fun h => ?_) <;> ((first | (subst h; rename BV _ true => g; have h := g.eq; clear g) | (subst h; rename BV _ false => g; have h := g.eq; clear g) | skip); (have hp := h; try simp only [q_n] at hp); (try (exfalso; first | omega | (cases hp; done))));
          apply wl_isW; rfl; (rfl); rfl; rfl; (intro σ' hl; (apply zP; rfl; rfl; rfl)); apply wl_isW; rfl; (rfl); rfl; rfl; (intro σ' hl; (apply g_load1; rfl; rfl; (exact .p (hl _ (by (exact True.intro)) (by (repeat first | exact q_h | apply q_t | assumption); done)) rfl))); apply wl_isW; rfl; (rfl); rfl; rfl; (intro σ' hl; (apply g_len; rfl; rfl; (exact (List.length_map _).symm))); apply wl_isW; rfl; (rfl); rfl; rfl; (intro σ' hl; (apply zP; rfl; rfl; rfl)); apply wl_isW; rfl; (rfl); rfl; rfl; (intro σ' hl; (apply g_load1; rfl; rfl; (exact .p (hl _ (by (exact True.intro)) (by (repeat first | exact q_h | apply q_t | assumption); done)) rfl))); apply wl_isW; rfl; (rfl); rfl; rfl; (intro σ' hl; (apply zH; rfl)); apply wl_isW; rfl; (rfl); rfl; rfl; (intro σ' hl; (apply g_indexDl; rfl; rfl; rfl; (rfl); (assumption))); apply wl_isW; rfl; (rfl); rfl; rfl; (intro σ' hl; (apply zP; rfl; rfl; rfl)); apply wl_isW; rfl; (rfl); rfl; rfl; (intro σ' hl; (apply g_load1; rfl; rfl; (exact .e rfl))); apply wl_isW; rfl; (rfl); rfl; rfl; (intro σ' hl; (apply g_len; rfl; rfl; (exact (List.length_map _).symm))); apply wl_isBW; rfl; (rfl); rfl; rfl; (intro σ' hl; (apply g_binInt; rfl; rfl; rfl)); intro _ _; apply zR; rfl; rfl; rfl; (intro σ' hl; (apply g_pick_f; rfl; (rfl); rfl)); refine wl_nil ?_; refine zY ?_; refine zU rfl (fun h => ?_) (fun h => ?_) <;> ((first | (subst h; rename BV _ true => g; have h := g.eq; clear g) | (subst h; rename BV _ false => g; have h := g.eq; clear g) | skip); (have hp := h; try simp only [q_n] at hp); (try (exfalso; first | omega | (cases hp; done))));
          refine zG ?_; refine zX (zZ ?_); refine xAs rfl rfl rfl rfl ?_; refine zY ?_; refine zX ?_; refine zX (zZ ?_); refine xFa rfl rfl rfl rfl rfl rfl ?_; refine xLd rfl rfl rfl rfl rfl (.p (by (repeat first | exact q_h | apply q_t | assumption); done) rfl) ?_; apply zV; rfl; rfl; rfl; (apply g_len; rfl; rfl; (exact (List.length_map _).symm)); refine xMv rfl rfl rfl rfl ?_; refine zY ?_; refine yZ ?_; rotate_left
          (all_goals (repeat (rename BV _ _ => hbv; cases hbv)))
          all_goals (try (first | cases ‹true = false› | cases ‹false = true›))
          clear hck hbg
          refine ex_loop (fun (z : Nat × Nat) => (⟨[(5, .int .i64 (1 + (n : Int) % 8)), (6, .ptr b6 0), (8, .slv vW), (11, .ptr b11 0), (50, .dl 12 (L.map psC)), (51, .int .i64 L.length), (52, .int .i64 k), (103, bks B2), (104, .int .i64 B2.length), (105, .int .i64 i), (14, .int .i64 i), (16, .int .i64 z.2), (133, sls l2), (134, .int .i64 l2.length), (135, .int .i64 z.1)], rndE b11 B2 Q2 :: rndE b6 B Q :: rowV vW W' :: rowsW W', [], Tryz.f5.ntmps⟩ : St)) (fun z => z.1 ≤ l2.length ∧ z.2 = manyS (l2.take z.1) i) (fun z => l2.length - z.1) (0, 0) (⟨Nat.zero_le _, rfl⟩) (St.le_of (by repeat (first | exact trivial | refine ⟨rfl, ?_⟩)) (by repeat (first | exact q_r | apply q_q | apply q_k))) ?_
          intro z hI
          obtain ⟨j, c⟩ := z
          obtain ⟨hJ1, hJ2⟩ := hI
          dsimp only at hJ1 hJ2 ⊢
          by_cases hj : j < l2.length
          · obtain ⟨s, hs⟩ : ∃ s, l2[j]? = some s := get_some hj
            have hgs := sl_get hs
            have hmt := manyS_take hs i
            rw [← hJ2] at hmt
            have hcj : c ≤ j := by rw [hJ2]; exact Nat.le_trans (many_le _ _) (by rw [List.length_take]; omega)
            by_cases e : s.tab = i
            · rw [if_pos e] at hmt
              refine zX (zZ ?_); refine xBi rfl rfl rfl rfl rfl rfl ?_; intro _ _; refine zY ?_; refine zX ?_; refine zU rfl (fun h => ?_) (fun h => ?_) <;> ((first | (subst h; rename BV _ true => g; have h := g.eq; clear g) | (subst h; rename BV _ false => g; have h := g.eq; clear g) | skip); (have hp := h; try simp only [q_n] at hp); (try (exfalso; first | omega | (cases hp; done))));
              refine zG ?_; refine zX ?_; refine yZ ?_; refine zX (zZ ?_); apply zV; rfl; rfl; rfl; (apply g_indexDl; rfl; rfl; rfl; (rfl); (assumption)); apply zV; rfl; rfl; rfl; (apply zB; rfl; decide; rfl; (exact .e rfl rfl)); refine zE rfl rfl rfl (g_alloc rfl) ?_; intro _; apply yY; rfl; rfl; (apply zL; rfl; rfl; rfl; (exact Upd.here); (simp only [setL, q_z, AV.cells]; rfl); rfl; rfl; rfl; exact q_b rfl); refine zY ?_; refine zX (zZ ?_); refine xFa rfl rfl rfl rfl rfl rfl ?_; refine xLd rfl rfl rfl rfl rfl (.p (by (repeat first | exact q_h | apply q_t | assumption); done) rfl) ?_; refine xMv rfl rfl rfl rfl ?_; refine xBi rfl rfl rfl rfl rfl rfl ?_; intro _ _; refine zY ?_; refine zU rfl (fun h => ?_) (fun h => ?_) <;> ((first | (subst h; rename BV _ true => g; have h := g.eq; clear g) | (subst h; rename BV _ false => g; have h := g.eq; clear g) | skip); (have hp := h; try simp only [q_n] at hp); (try (exfalso; first | omega | (cases hp; done))));
              refine zZ ?_; refine xMv rfl rfl rfl rfl ?_; apply zV; rfl; rfl; rfl; (apply g_add; rfl; rfl; rfl; exact ⟨by omega, by omega⟩); refine xAs rfl rfl rfl rfl ?_; refine zC ?_; refine zZ ?_; apply zV; rfl; rfl; rfl; (apply g_add; rfl; rfl; rfl; exact ⟨by omega, by omega⟩); refine xMv rfl rfl rfl rfl ?_; refine zC ?_; simp only [zD, zK, zJ, zT, retA, ↓reduceIte, Nat.reduceEqDiff]; rotate_left
              (all_goals (repeat (rename BV _ _ => hbv; cases hbv)))
              all_goals (try (first | cases ‹true = false› | cases ‹false = true›))
              refine ⟨(j + 1, c + 1), ⟨hj, hmt.symm⟩, by dsimp only; omega, ?_⟩
              dsimp only
              exact (St.le_of (by repeat (first | exact trivial | refine ⟨rfl, ?_⟩)) (by repeat (first | exact q_r | apply q_q | apply q_k | exact q_a)))
            · rw [if_neg e] at hmt
              refine zX (zZ ?_); refine xBi rfl rfl rfl rfl rfl rfl ?_; intro _ _; refine zY ?_; refine zX ?_; refine zU rfl (fun h => ?_) (fun h => ?_) <;> ((first | (subst h; rename BV _ true => g; have h := g.eq; clear g) | (subst h; rename BV _ false => g; have h := g.eq; clear g) | skip); (have hp := h; try simp only [q_n] at hp); (try (exfalso; first | omega | (cases hp; done))));
              refine zG ?_; refine zX ?_; refine yZ ?_; refine zX (zZ ?_); apply zV; rfl; rfl; rfl; (apply g_indexDl; rfl; rfl; rfl; (rfl); (assumption)); apply zV; rfl; rfl; rfl; (apply zB; rfl; decide; rfl; (exact .e rfl rfl)); refine zE rfl rfl rfl (g_alloc rfl) ?_; intro _; apply yY; rfl; rfl; (apply zL; rfl; rfl; rfl; (exact Upd.here); (simp only [setL, q_z, AV.cells]; rfl); rfl; rfl; rfl; exact q_b rfl); refine zY ?_; refine zX (zZ ?_); refine xFa rfl rfl rfl rfl rfl rfl ?_; refine xLd rfl rfl rfl rfl rfl (.p (by (repeat first | exact q_h | apply q_t | assumption); done) rfl) ?_; refine xMv rfl rfl rfl rfl ?_; refine xBi rfl rfl rfl rfl rfl rfl ?_; intro _ _; refine zY ?_; refine zU rfl (fun h => ?_) (fun h => ?_) <;> ((first | (subst h; rename BV _ true => g; have h := g.eq; clear g) | (subst h; rename BV _ false => g; have h := g.eq; clear g) | skip); (have hp := h; try simp only [q_n] at hp); (try (exfalso; first | omega | (cases hp; done))));
              refine zG ?_; refine zZ ?_; apply zV; rfl; rfl; rfl; (apply g_add; rfl; rfl; rfl; exact ⟨by omega, by omega⟩); refine xMv rfl rfl rfl rfl ?_; refine zC ?_; simp only [zD, zK, zJ, zT, retA, ↓reduceIte, Nat.reduceEqDiff]; rotate_left
              (all_goals (repeat (rename BV _ _ => hbv; cases hbv)))
              all_goals (try (first | cases ‹true = false› | cases ‹false = true›))
              refine ⟨(j + 1, c), ⟨hj, hmt.symm⟩, by dsimp only; omega, ?_⟩
              dsimp only
              exact (St.le_of (by repeat (first | exact trivial | refine ⟨rfl, ?_⟩)) (by repeat (first | exact q_r | apply q_q | apply q_k | exact q_a)))
          · have e : j = l2.length := by omega
            subst e
            rw [List.take_length, hmy] at hJ2
            subst hJ2
            refine zX (zZ ?_); refine xBi rfl rfl rfl rfl rfl rfl ?_; intro _ _; refine zY ?_; refine zX ?_; refine zU rfl (fun h => ?_) (fun h => ?_) <;> ((first | (subst h; rename BV _ true => g; have h := g.eq; clear g) | (subst h; rename BV _ false => g; have h := g.eq; clear g) | skip); (have hp := h; try simp only [q_n] at hp); (try (exfalso; first | omega | (cases hp; done))));
            refine ex_exit ?_; refine zX (zZ ?_); refine xMv rfl rfl rfl rfl ?_; refine xMv rfl rfl rfl rfl ?_; refine xMv rfl rfl rfl rfl ?_; apply zV; rfl; rfl; rfl; (apply g_indexRow; rfl; rfl; exact (by (repeat first | exact q_h | apply q_t | assumption); done); rfl; (rfl); (omega)); apply zV; rfl; rfl; rfl; (apply g_load1; rfl; rfl; (exact .k0 (by (repeat first | exact q_h | apply q_t | assumption); done) (by assumption) rfl)); apply zV; rfl; rfl; rfl; (apply g_len; rfl; rfl; (exact .inl ⟨_, _, _, (by (repeat first | exact q_h | apply q_t | assumption); done), (List.length_map _).symm⟩)); refine xBi rfl rfl rfl rfl rfl rfl ?_; intro _ _; refine zY ?_; refine zU rfl (fun h => ?_) (fun h => ?_) <;> ((first | (subst h; rename BV _ true => g; have h := g.eq; clear g) | (subst h; rename BV _ false => g; have h := g.eq; clear g) | skip); (have hp := h; try simp only [q_n] at hp); (try (exfalso; first | omega | (cases hp; done))));
            refine zG ?_; refine zZ ?_; apply zV; rfl; rfl; rfl; (apply g_add; rfl; rfl; rfl; exact ⟨by omega, by omega⟩); refine xMv rfl rfl rfl rfl ?_; refine zC ?_; simp only [zD, zK, zJ, zT, retA, ↓reduceIte, Nat.reduceEqDiff]; rotate_left
            (all_goals (repeat (rename BV _ _ => hbv; cases hbv)))
            all_goals (try (first | cases ‹true = false› | cases ‹false = true›))
            refine ⟨i + 1, hi, by omega, ?_⟩
            exact (St.le_of (by repeat (first | exact trivial | refine ⟨rfl, ?_⟩)) (by repeat (first | exact q_r | apply q_q | apply q_k | exact q_a)))
        · have e : i = B2.length := by omega
          subst e
          refine zX (zZ ?_); refine xBi rfl rfl rfl rfl rfl rfl ?_; intro _ _; refine zY ?_; refine zX ?_; refine zU rfl (fun h => ?_) (fun h => ?_) <;> ((first | (subst h; rename BV _ true => g; have h := g.eq; clear g) | (subst h; rename BV _ false => g; have h := g.eq; clear g) | skip); (have hp := h; try simp only [q_n] at hp); (try (exfalso; first | omega | (cases hp; done))));
          refine ex_exit ?_; refine zZ ?_; refine xLa rfl rfl rfl rfl (by decide) rfl (.p (by (repeat first | exact q_h | apply q_t | assumption); done) rfl rfl) ?_; apply yY; rfl; rfl; (apply zL; rfl; rfl; rfl; (exact Upd.there (Upd.here)); (simp only [setL, q_z, AV.cells]; rfl); rfl; rfl; rfl; exact q_b rfl); refine zC ?_; refine zZ ?_; apply zV; rfl; rfl; rfl; (apply g_add; rfl; rfl; rfl; exact ⟨by omega, by omega⟩); refine xMv rfl rfl rfl rfl ?_; refine zC ?_; simp only [zD, zK, zJ, zT, retA, ↓reduceIte, Nat.reduceEqDiff]; rotate_left
          (all_goals (repeat (rename BV _ _ => hbv; cases hbv)))
          all_goals (try (first | cases ‹true = false› | cases ‹false = true›))
          refine ⟨(k + 1, B2, Q2, W'), ⟨hk, hh, hl2⟩, by dsimp only; omega, ?_⟩
          dsimp only
          exact (St.le_of (by repeat (first | exact trivial | refine ⟨rfl, ?_⟩)) (by repeat (first | exact q_r | apply q_q | apply q_k | exact q_a)))
  · have e : k = L.length := by omega
    subst e
    have hN8 : N ≤ 8 := hN2.2
    refine zX (zZ ?_); refine xBi rfl rfl rfl rfl rfl rfl ?_; intro _ _; refine zY ?_; refine zX ?_; refine zU rfl (fun h => ?_) (fun h => ?_) <;> ((first | (subst h; rename BV _ true => g; have h := g.eq; clear g) | (subst h; rename BV _ false => g; have h := g.eq; clear g) | skip); (have hp := h; try simp only [q_n] at hp); (try (exfalso; first | omega | (cases hp; done))));
    refine ex_exit ?_; refine zX ?_; refine zX (zZ ?_); refine xFa rfl rfl rfl rfl rfl rfl ?_; refine xLd rfl rfl rfl rfl rfl (.p (by (repeat first | exact q_h | apply q_t | assumption); done) rfl) ?_; apply zV; rfl; rfl; rfl; (apply g_len; rfl; rfl; (exact (List.length_map _).symm)); refine xMv rfl rfl rfl rfl ?_; refine zY ?_; refine yZ ?_; rotate_left
    (all_goals (repeat (rename BV _ _ => hbv; cases hbv)))
    all_goals (try (first | cases ‹true = false› | cases ‹false = true›))
    clear hI1 hk
    refine ex_loop (fun (i : Nat) => (⟨[(6, .ptr b6 0), (8, .slv vW), (157, bks B), (158, .int .i64 B.length), (159, .int .i64 i)], rndE b6 B Q :: rowV vW W :: rowsW W, [], Tryz.f5.ntmps⟩ : St)) (fun i => i ≤ B.length) (fun i => B.length - i) 0 (Nat.zero_le _) (St.le_of (by repeat (first | exact trivial | refine ⟨rfl, ?_⟩)) (by repeat (first | exact q_r | apply q_q | apply q_k))) ?_
    intro i hI
    by_cases hi : i < B.length
    · obtain ⟨l1, hl1⟩ : ∃ l, B[i]? = some l := get_some hi
      have hm1 := List.mem_of_getElem? hl1
      have hg1 := bk_get hl1
      clear hl1
      refine zX (zZ ?_); refine xBi rfl rfl rfl rfl rfl rfl ?_; intro _ _; refine zY ?_; refine zX ?_; refine zU rfl (fun h => ?_) (fun h => ?_) <;> ((first | (subst h; rename BV _ true => g; have h := g.eq; clear g) | (subst h; rename BV _ false => g; have h := g.eq; clear g) | skip); (have hp := h; try simp only [q_n] at hp); (try (exfalso; first | omega | (cases hp; done))));
      refine zG ?_; refine zX ?_; refine yZ ?_; refine zX (zZ ?_); apply zV; rfl; rfl; rfl; (apply g_indexDl; rfl; rfl; rfl; (rfl); (assumption)); apply zV; rfl; rfl; rfl; (apply zB; rfl; decide; rfl; (exact .e rfl rfl)); refine zE rfl rfl rfl (g_alloc rfl) ?_; intro _; apply yY; rfl; rfl; (apply zL; rfl; rfl; rfl; (exact Upd.here); (simp only [setL, q_z, AV.cells]; rfl); rfl; rfl; rfl; exact q_b rfl); refine zY ?_; refine zX (zZ ?_); refine xFa rfl rfl rfl rfl rfl rfl ?_; refine xLd rfl rfl rfl rfl rfl (.p (by (repeat first | exact q_h | apply q_t | assumption); done) rfl) ?_; apply zV; rfl; rfl; rfl; (apply g_len; rfl; rfl; (exact (List.length_map _).symm)); refine xMv rfl rfl rfl rfl ?_; refine zY ?_; refine yZ ?_; rotate_left
      (all_goals (repeat (rename BV _ _ => hbv; cases hbv)))
      all_goals (try (first | cases ‹true = false› | cases ‹false = true›))
      rename Nat => b20; revert b20
      intro b20
      refine ex_loop (fun (j : Nat) => (⟨[(6, .ptr b6 0), (8, .slv vW), (157, bks B), (158, .int .i64 B.length), (159, .int .i64 i), (20, .ptr b20 0), (164, bks B), (165, .int .i64 B.length), (166, .int .i64 j)], bkE b20 l1 :: rndE b6 B Q :: rowV vW W :: rowsW W, [], Tryz.f5.ntmps⟩ : St)) (fun j => j ≤ B.length) (fun j => B.length - j) 0 (Nat.zero_le _) (St.le_of (by repeat (first | exact trivial | refine ⟨rfl, ?_⟩)) (by repeat (first | exact q_r | apply q_q | apply q_k))) ?_
      intro j hI
      by_cases hj : j < B.length
      · obtain ⟨l2, hl2⟩ : ∃ l, B[j]? = some l := get_some hj
        obtain ⟨o, _, hbo, hbg, hm⟩ := merge_code hI2 hm1 (List.mem_of_getElem? hl2)
        have hg2 := bk_get hl2
        have mg := merge_c l1 l2
        rw [hm] at mg
        rw [hI3] at hbg
        by_cases h5 : (512 : Int) < o.length
        · rw [if_pos h5] at mg
          clear hm hbg hbo
          dsimp only at mg
          refine zX (zZ ?_); refine xBi rfl rfl rfl rfl rfl rfl ?_; intro _ _; refine zY ?_; refine zX ?_; refine zU rfl (fun h => ?_) (fun h => ?_) <;> ((first | (subst h; rename BV _ true => g; have h := g.eq; clear g) | (subst h; rename BV _ false => g; have h := g.eq; clear g) | skip); (have hp := h; try simp only [q_n] at hp); (try (exfalso; first | omega | (cases hp; done))));
          refine zG ?_; refine zX ?_; refine yZ ?_; refine zX (zZ ?_); apply zV; rfl; rfl; rfl; (apply g_indexDl; rfl; rfl; rfl; (rfl); (assumption)); apply zV; rfl; rfl; rfl; (apply zB; rfl; decide; rfl; (exact .e rfl rfl)); refine zE rfl rfl rfl (g_alloc rfl) ?_; intro _; apply yY; rfl; rfl; (apply zL; rfl; rfl; rfl; (exact Upd.here); (simp only [setL, q_z, AV.cells]; rfl); rfl; rfl; rfl; exact q_b rfl); refine zY ?_; refine zX (zZ ?_); refine xLa rfl rfl rfl rfl (by decide) rfl (.p (by (repeat first | exact q_h | apply q_t | assumption); done) rfl rfl) ?_; refine xLa rfl rfl rfl rfl (by decide) rfl (.p (by (repeat first | exact q_h | apply q_t | assumption); done) rfl rfl) ?_; apply zV; rfl; rfl; rfl; (refine yX rfl rfl (zQ (by kernel_rfl)) ?_; exact mg _); refine xMv rfl rfl rfl rfl ?_; apply zV; rfl; rfl; rfl; (apply yW; rfl; rfl); apply zV; rfl; rfl; rfl; (apply yW; rfl; rfl); refine zE rfl rfl rfl (g_alloc rfl) ?_; intro _; apply yY; rfl; rfl; (apply zL; rfl; rfl; rfl; (exact Upd.here); (simp only [setL, q_z, AV.cells]; rfl); rfl; rfl; rfl; exact q_b rfl); refine xAs rfl rfl rfl rfl ?_; refine zY ?_; refine zX (zZ ?_); refine xMv rfl rfl rfl rfl ?_; refine xBi rfl rfl rfl rfl rfl rfl ?_; intro _ _; refine xMv rfl rfl rfl rfl ?_; refine zA rfl (fun h => ?_) (fun h => ?_) <;> ((first | (subst h; rename BV _ true => g; have h := g.eq; clear g) | (subst h; rename BV _ false => g; have h := g.eq; clear g) | skip); (have hp := h; try simp only [q_n] at hp); (try (exfalso; first | omega | (cases hp; done))));
          apply exl_isW; rfl; (rfl); rfl; rfl; (apply zH; rfl); refine yBi rfl rfl rfl rfl rfl rfl rfl ?_; intro _ _; refine xPt rfl rfl rfl rfl rfl rfl ?_; refine xMv rfl rfl rfl rfl ?_; refine zA rfl (fun h => ?_) (fun h => ?_) <;> ((first | (subst h; rename BV _ true => g; have h := g.eq; clear g) | (subst h; rename BV _ false => g; have h := g.eq; clear g) | skip); (have hp := h; try simp only [q_n] at hp); (try (exfalso; first | omega | (cases hp; done))));
          apply exl_isW; rfl; (rfl); rfl; rfl; (apply zH; rfl); refine yBi rfl rfl rfl rfl rfl rfl rfl ?_; intro _ _; apply exl_isW; rfl; (rfl); rfl; rfl; (apply zH; rfl); refine zA rfl (fun h => ?_) (fun h => ?_) <;> ((first | (subst h; rename BV _ true => g; have h := g.eq; clear g) | (subst h; rename BV _ false => g; have h := g.eq; clear g) | skip); (have hp := h; try simp only [q_n] at hp); (try (exfalso; first | omega | (cases hp; done))));
          refine zW rfl rfl rfl rfl ?_; refine zW rfl rfl rfl rfl ?_; refine zW rfl rfl rfl rfl ?_; refine zW rfl rfl rfl rfl ?_; apply exl_isW; rfl; (rfl); rfl; rfl; (apply g_pick_f; rfl; (rfl); rfl); refine xPf rfl rfl rfl rfl rfl rfl ?_; refine zY ?_; refine ex_cond_f rfl (by rfl) ?_; refine zG ?_; refine zZ ?_; apply zV; rfl; rfl; rfl; (apply g_add; rfl; rfl; rfl; exact ⟨by omega, by omega⟩); refine xMv rfl rfl rfl rfl ?_; refine zC ?_; simp only [zD, zK, zJ, zT, retA, ↓reduceIte, Nat.reduceEqDiff]; rotate_left
          (all_goals (repeat (rename BV _ _ => hbv; cases hbv)))
          all_goals (try (first | cases ‹true = false› | cases ‹false = true›))
          refine ⟨j + 1, hj, by omega, ?_⟩
          exact (St.le_of (by repeat (first | exact trivial | refine ⟨rfl, ?_⟩)) (by repeat (first | exact q_r | apply q_q | apply q_k | exact q_a)))
        · rw [if_neg h5] at mg
          clear hm hbo
          dsimp only at mg
          refine zX (zZ ?_); refine xBi rfl rfl rfl rfl rfl rfl ?_; intro _ _; refine zY ?_; refine zX ?_; refine zU rfl (fun h => ?_) (fun h => ?_) <;> ((first | (subst h; rename BV _ true => g; have h := g.eq; clear g) | (subst h; rename BV _ false => g; have h := g.eq; clear g) | skip); (have hp := h; try simp only [q_n] at hp); (try (exfalso; first | omega | (cases hp; done))));
          refine zG ?_; refine zX ?_; refine yZ ?_; refine zX (zZ ?_); apply zV; rfl; rfl; rfl; (apply g_indexDl; rfl; rfl; rfl; (rfl); (assumption)); apply zV; rfl; rfl; rfl; (apply zB; rfl; decide; rfl; (exact .e rfl rfl)); refine zE rfl rfl rfl (g_alloc rfl) ?_; intro _; apply yY; rfl; rfl; (apply zL; rfl; rfl; rfl; (exact Upd.here); (simp only [setL, q_z, AV.cells]; rfl); rfl; rfl; rfl; exact q_b rfl); refine zY ?_; refine zX (zZ ?_); refine xLa rfl rfl rfl rfl (by decide) rfl (.p (by (repeat first | exact q_h | apply q_t | assumption); done) rfl rfl) ?_; refine xLa rfl rfl rfl rfl (by decide) rfl (.p (by (repeat first | exact q_h | apply q_t | assumption); done) rfl rfl) ?_; apply zV; rfl; rfl; rfl; (refine yX rfl rfl (zQ (by kernel_rfl)) ?_; exact mg _); refine xMv rfl rfl rfl rfl ?_; apply zV; rfl; rfl; rfl; (apply yW; rfl; rfl); apply zV; rfl; rfl; rfl; (apply yW; rfl; rfl); refine zE rfl rfl rfl (g_alloc rfl) ?_; intro _; apply yY; rfl; rfl; (apply zL; rfl; rfl; rfl; (exact Upd.here); (simp only [setL, q_z, AV.cells]; rfl); rfl; rfl; rfl; exact q_b rfl); refine xAs rfl rfl rfl rfl ?_; refine zY ?_; refine zX (zZ ?_); refine xMv rfl rfl rfl rfl ?_; refine xBi rfl rfl rfl rfl rfl rfl ?_; intro _ _; refine xMv rfl rfl rfl rfl ?_; refine zA rfl (fun h => ?_) (fun h => ?_) <;> ((first | (subst h; rename BV _ true => g; have h := g.eq; clear g) | (subst h; rename BV _ false => g; have h := g.eq; clear g) | skip); (have hp := h; try simp only [q_n] at hp); (try (exfalso; first | omega | (cases hp; done))));
          refine zW rfl rfl rfl rfl ?_; refine zW rfl rfl rfl rfl ?_; refine xPf rfl rfl rfl rfl rfl rfl ?_; refine xMv rfl rfl rfl rfl ?_; apply exl_isW; rfl; (rfl); rfl; rfl; (apply zH; rfl); refine yBi rfl rfl rfl rfl rfl rfl rfl ?_; intro _ _; apply exl_isW; rfl; (rfl); rfl; rfl; (apply zH; rfl); refine zA rfl (fun h => ?_) (fun h => ?_) <;> ((first | (subst h; rename BV _ true => g; have h := g.eq; clear g) | (subst h; rename BV _ false => g; have h := g.eq; clear g) | skip); (have hp := h; try simp only [q_n] at hp); (try (exfalso; first | omega | (cases hp; done))));
          refine yLa rfl rfl rfl rfl rfl (by decide) rfl (.p (by (repeat first | exact q_h | apply q_t | assumption); done) rfl rfl) ?_; apply exl_isW; rfl; (rfl); rfl; rfl; (apply zH; rfl); apply exl_isBW; rfl; (rfl); rfl; rfl; (refine yX rfl rfl (zQ (by kernel_rfl)) ?_; exact begins_l N o W vW hN8 hbg _ (fun e he => by repeat (first | exact he | refine List.Mem.tail _ ?_))); intro _ _; apply exl_isBW; rfl; (rfl); rfl; rfl; (apply g_not; rfl); intro _ _; apply exl_isW; rfl; (rfl); rfl; rfl; (apply g_pick_t; rfl; (rfl); rfl); refine xPf rfl rfl rfl rfl rfl rfl ?_; refine zY ?_; refine zU rfl (fun h => ?_) (fun h => ?_) <;> ((first | (subst h; rename BV _ true => g; have h := g.eq; clear g) | (subst h; rename BV _ false => g; have h := g.eq; clear g) | skip); (have hp := h; try simp only [q_n] at hp); (try (exfalso; first | omega | (cases hp; done))));
          refine zX (zZ ?_); refine xAs rfl rfl rfl rfl ?_; refine zY ?_; refine yV ?_; simp only [zD, zK, zJ, zT, retA, ↓reduceIte, Nat.reduceEqDiff]; rotate_left; refine zG ?_; refine zZ ?_; apply zV; rfl; rfl; rfl; (apply g_add; rfl; rfl; rfl; exact ⟨by omega, by omega⟩); refine xMv rfl rfl rfl rfl ?_; refine zC ?_; simp only [zD, zK, zJ, zT, retA, ↓reduceIte, Nat.reduceEqDiff]; rotate_left
          (all_goals (repeat (rename BV _ _ => hbv; cases hbv)))
          all_goals (try (first | cases ‹true = false› | cases ‹false = true›))
          refine ⟨j + 1, hj, by omega, ?_⟩
          exact (St.le_of (by repeat (first | exact trivial | refine ⟨rfl, ?_⟩)) (by repeat (first | exact q_r | apply q_q | apply q_k | exact q_a)))
      · have e : j = B.length := by omega
        subst e
        refine zX (zZ ?_); refine xBi rfl rfl rfl rfl rfl rfl ?_; intro _ _; refine zY ?_; refine zX ?_; refine zU rfl (fun h => ?_) (fun h => ?_) <;> ((first | (subst h; rename BV _ true => g; have h := g.eq; clear g) | (subst h; rename BV _ false => g; have h := g.eq; clear g) | skip); (have hp := h; try simp only [q_n] at hp); (try (exfalso; first | omega | (cases hp; done))));
        refine ex_exit ?_; refine zZ ?_; apply zV; rfl; rfl; rfl; (apply g_add; rfl; rfl; rfl; exact ⟨by omega, by omega⟩); refine xMv rfl rfl rfl rfl ?_; refine zC ?_; simp only [zD, zK, zJ, zT, retA, ↓reduceIte, Nat.reduceEqDiff]; rotate_left
        (all_goals (repeat (rename BV _ _ => hbv; cases hbv)))
        all_goals (try (first | cases ‹true = false› | cases ‹false = true›))
        refine ⟨i + 1, hi, by omega, ?_⟩
        exact (St.le_of (by repeat (first | exact trivial | refine ⟨rfl, ?_⟩)) (by repeat (first | exact q_r | apply q_q | apply q_k | exact q_a)))
    · have e : i = B.length := by omega
      subst e
      refine zX (zZ ?_); refine xBi rfl rfl rfl rfl rfl rfl ?_; intro _ _; refine zY ?_; refine zX ?_; refine zU rfl (fun h => ?_) (fun h => ?_) <;> ((first | (subst h; rename BV _ true => g; have h := g.eq; clear g) | (subst h; rename BV _ false => g; have h := g.eq; clear g) | skip); (have hp := h; try simp only [q_n] at hp); (try (exfalso; first | omega | (cases hp; done))));
      refine ex_exit ?_; refine zX (zZ ?_); refine xAs rfl rfl rfl rfl ?_; refine zY ?_; refine yV ?_; simp only [zD, zK, zJ, zT, retA, ↓reduceIte, Nat.reduceEqDiff]; rotate_left
      (all_goals (repeat (rename BV _ _ => hbv; cases hbv)))
      all_goals (try (first | cases ‹true = false› | cases ‹false = true›))
      refine ret_is .nil (.cons (.ofTmp rfl) .nil) (by exact List.nil_sublist _) ?_
      rfl
end Go.Proofs.YtkhoengjdfmfaaaGreat
namespace Go.Proofs.YtkhoengjdfmfaaaGreat
def slS : Sh := .agg [.int .i64, .int .i64, .int .i64, .int .i64, .int .i64, .int .i64, .int .i64, .int .i64]
def psS : Sh := .agg [.int .i64, .int .i64, .int .i64, .int .i64, slS]
theorem fits_sl {l : List AV} (h : Fits slS l) : ∃ s : Sl, l = slC s := by
  simp only [slS, Fits, Fitss] at h
  obtain ⟨_, _, rfl, ⟨a, rfl, _⟩, _, _, rfl, ⟨b, rfl, _⟩, _, _, rfl, ⟨c, rfl, _⟩, _, _, rfl, ⟨d, rfl, _⟩, _, _, rfl, ⟨e, rfl, _⟩, _, _, rfl, ⟨f, rfl, _⟩, _, _, rfl, ⟨g, rfl, _⟩, _, _, rfl, ⟨i, rfl, _⟩, rfl⟩ := h
  exact ⟨⟨a, b, c, d, e, f, g, i⟩, rfl⟩
theorem fits_ps {l : List AV} (h : Fits psS l) : ∃ r : Ps, l = psC r := by
  unfold psS at h
  rw [Fits] at h
  simp only [Fitss] at h
  obtain ⟨_, _, rfl, h1, _, _, rfl, h2, _, _, rfl, h3, _, _, rfl, h4, _, _, rfl, h5, rfl⟩ := h
  obtain ⟨a, rfl, _⟩ := fits_i64 h1
  obtain ⟨b, rfl, _⟩ := fits_i64 h2
  obtain ⟨c, rfl, _⟩ := fits_i64 h3
  obtain ⟨d, rfl, _⟩ := fits_i64 h4
  obtain ⟨s, rfl⟩ := fits_sl h5
  exact ⟨⟨a, b, c, d, s⟩, by simp⟩
theorem fits_pss {l : List AV} (h : Fits (.slice psS) l) : ∃ xs : List Ps, l = [.dl 12 (xs.map psC)] := by
  obtain ⟨xs, rfl, _⟩ := fits_slice (f := psC) (p := fun _ => True) (fun x hx => by obtain ⟨n, rfl⟩ := fits_ps hx; exact ⟨n, rfl, trivial⟩) h
  exact ⟨xs, rfl⟩
end Go.Proofs.YtkhoengjdfmfaaaGreat
