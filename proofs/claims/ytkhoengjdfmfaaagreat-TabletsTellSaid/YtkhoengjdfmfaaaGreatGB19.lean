/- Parts of the proof that belong together: Wq Ws. -/
import Derived.Test.YtkhoengjdfmfaaaGreatGB04
import Derived.Test.YtkhoengjdfmfaaaGreatGB12
import Derived.Test.YtkhoengjdfmfaaaGreatGB13
import Derived.Test.YtkhoengjdfmfaaaGreatGB18
set_option maxRecDepth 10000
set_option linter.unusedSimpArgs false
set_option linter.unusedVariables false
namespace Go.Proofs.YtkhoengjdfmfaaaGreat
abbrev rndE (b : Nat) (B : List (List Sl)) (Q : List Qk) : Ent := .cells b (stC B (qPs Q)) 41
set_option maxHeartbeats 16000000 in
theorem tell_c (n : Nat) (L : List Ps) (f t : Nat) (hn : n < 256) (hf : f < 256) (ht : t < 256) : SCall Tryz.prog 8 [.int .u8 n, .dl 12 (L.map psC), .int .u8 f, .int .u8 t] [] (Is (.bool true) []) := by
  refine scall_of Tryz.func8 rfl (by simp) ?_
  obtain ⟨N, hN, hN2⟩ : ∃ N : Nat, (2 : Int) + ((n % 7 : Nat) : Int) = (N : Nat) ∧ (2 ≤ N ∧ N ≤ 8) := ⟨2 + n % 7, by omega, by omega⟩
  have nw := new_ok N (by omega)
  rw [← hN] at nw
  by_cases hlen : (60 : Int) < L.length
  · clear nw
    refine zX (zZ ?_); refine xAs rfl rfl rfl rfl ?_; refine zY ?_; refine zX ?_; refine zX (zZ ?_); apply exl_isB; rfl; rfl; rfl; (refine yZ rfl rfl (zQ (by kernel_rfl)) ?_; exact sane_c _); intro _ _; apply exl_isB; rfl; rfl; rfl; (apply g_not; rfl); intro _ _; refine zY ?_; refine zU rfl (fun h => ?_) (fun h => ?_) <;> ((first | (subst h; rename BV _ true => g; have h := g.eq; clear g) | (subst h; rename BV _ false => g; have h := g.eq; clear g) | skip); (have hp := h; try simp only [q_n] at hp); (try (exfalso; first | omega | (cases hp; done))));
    refine zX (zZ ?_); refine xAs rfl rfl rfl rfl ?_; refine zY ?_; refine yV ?_; simp only [zE, zL, zK, zT, retA, ↓reduceIte, Nat.reduceEqDiff]; rotate_left; refine zF ?_; refine zX ?_; refine zX (zZ ?_); refine xMv rfl rfl rfl rfl ?_; apply zV; rfl; rfl; rfl; (apply g_len; rfl; rfl; (exact (List.length_map _).symm)); refine xBi rfl rfl rfl rfl rfl rfl ?_; intro _ _; refine zY ?_; refine zU rfl (fun h => ?_) (fun h => ?_) <;> ((first | (subst h; rename BV _ true => g; have h := g.eq; clear g) | (subst h; rename BV _ false => g; have h := g.eq; clear g) | skip); (have hp := h; try simp only [q_n] at hp); (try (exfalso; first | omega | (cases hp; done))));
    refine zX (zZ ?_); refine xAs rfl rfl rfl rfl ?_; refine zY ?_; refine yV ?_; simp only [zE, zL, zK, zT, retA, ↓reduceIte, Nat.reduceEqDiff]; rotate_left
    (all_goals (repeat (rename BV _ _ => hbv; cases hbv)))
    all_goals (try (first | cases ‹true = false› | cases ‹false = true›))
    refine ret_is .nil (.cons (.ofTmp rfl) .nil) (by repeat (first | exact q_r | apply q_q | apply q_k | exact q_a)) ?_
    rfl
  have h7 : (7 : Int) = ((7 : Nat) : Int) := rfl
  have hrl : (List.replicate N ([] : List Sl)).length = N := List.length_replicate
  have hN3 : (2 : Int) + (n : Int) % 7 = (N : Nat) := by omega
  refine zX (zZ ?_); refine xAs rfl rfl rfl rfl ?_; refine zY ?_; refine zX ?_; refine zX (zZ ?_); apply exl_isB; rfl; rfl; rfl; (refine yZ rfl rfl (zQ (by kernel_rfl)) ?_; exact sane_c _); intro _ _; apply exl_isB; rfl; rfl; rfl; (apply g_not; rfl); intro _ _; refine zY ?_; refine zU rfl (fun h => ?_) (fun h => ?_) <;> ((first | (subst h; rename BV _ true => g; have h := g.eq; clear g) | (subst h; rename BV _ false => g; have h := g.eq; clear g) | skip); (have hp := h; try simp only [q_n] at hp); (try (exfalso; first | omega | (cases hp; done))));
  refine zX (zZ ?_); refine xAs rfl rfl rfl rfl ?_; refine zY ?_; refine yV ?_; simp only [zE, zL, zK, zT, retA, ↓reduceIte, Nat.reduceEqDiff]; rotate_left; refine zF ?_; refine zX ?_; refine zX (zZ ?_); refine xMv rfl rfl rfl rfl ?_; apply zV; rfl; rfl; rfl; (apply g_len; rfl; rfl; (exact (List.length_map _).symm)); refine xBi rfl rfl rfl rfl rfl rfl ?_; intro _ _; refine zY ?_; refine zU rfl (fun h => ?_) (fun h => ?_) <;> ((first | (subst h; rename BV _ true => g; have h := g.eq; clear g) | (subst h; rename BV _ false => g; have h := g.eq; clear g) | skip); (have hp := h; try simp only [q_n] at hp); (try (exfalso; first | omega | (cases hp; done))));
  refine zF ?_; refine zX (zZ ?_); refine xMv rfl rfl rfl rfl ?_; apply zV; rfl; rfl; rfl; (apply g_conv64; rfl; rfl; rfl; exact ⟨by omega, by omega⟩); apply zV; rfl; rfl; rfl; (apply g_remP; rfl; rfl; exact ⟨by omega, by omega⟩); apply zV; rfl; rfl; rfl; (apply g_add; rfl; rfl; rfl; exact ⟨by omega, by omega⟩); refine xAs rfl rfl rfl rfl ?_; refine zY ?_; refine zX (zZ ?_); refine xMv rfl rfl rfl rfl ?_; apply zV; rfl; rfl; rfl; (refine yZ rfl rfl (zQ (by kernel_rfl)) ?_; exact nw _); refine xMv rfl rfl rfl rfl ?_; apply zV; rfl; rfl; rfl; (apply yY; rfl; rfl); apply zV; rfl; rfl; rfl; (apply yY; rfl; rfl); refine zD rfl rfl rfl (g_alloc rfl) ?_; intro _; apply yX; rfl; rfl; (apply zJ; rfl; rfl; rfl; (exact Upd.here); (simp only [setL, q_z, AV.cells]; rfl); rfl; rfl; rfl; exact q_b rfl); refine xAs rfl rfl rfl rfl ?_; refine zY ?_; refine zX ?_; refine zX (zZ ?_); refine xMv rfl rfl rfl rfl ?_; refine xBi rfl rfl rfl rfl rfl rfl ?_; intro _ _; refine xMv rfl rfl rfl rfl ?_; refine zC rfl (fun h => ?_) (fun h => ?_) <;> ((first | (subst h; rename BV _ true => g; have h := g.eq; clear g) | (subst h; rename BV _ false => g; have h := g.eq; clear g) | skip); (have hp := h; try simp only [q_n] at hp); (try (exfalso; first | omega | (cases hp; done))));
  refine yFa rfl rfl rfl rfl rfl rfl rfl ?_; refine yLd rfl rfl rfl rfl rfl rfl (.p (by (repeat first | exact q_h | apply q_t | assumption); done) rfl) ?_; apply exl_isW; rfl; (rfl); rfl; rfl; (apply g_len; rfl; rfl; (exact (List.length_map _).symm)); apply exl_isW; rfl; (rfl); rfl; rfl; (apply zH; rfl); refine yBi rfl rfl rfl rfl rfl rfl rfl ?_; intro _ _; refine xPf rfl rfl rfl rfl rfl rfl ?_; refine zY ?_; refine zU rfl (fun h => ?_) (fun h => ?_) <;> ((first | (subst h; rename BV _ true => g; have h := g.eq; clear g) | (subst h; rename BV _ false => g; have h := g.eq; clear g) | skip); (have hp := h; try simp only [q_n] at hp); (try (exfalso; first | omega | (cases hp; done))));
  refine zF ?_; refine zX ?_; refine zX (zZ ?_); refine xMv rfl rfl rfl rfl ?_; apply zV; rfl; rfl; rfl; (apply g_len; rfl; rfl; (exact (List.length_map _).symm)); refine xMv rfl rfl rfl rfl ?_; refine zY ?_; refine yW ?_; rotate_left
  (all_goals (repeat (rename BV _ _ => hbv; cases hbv)))
  all_goals (try (first | cases ‹true = false› | cases ‹false = true›))
  rename Nat => b; revert b
  intro b
  clear nw hrl
  refine ex_loop (fun (z : Nat × List (List Sl) × List Qk × List (List Sl)) => (⟨[(2, .int .u8 f), (3, .int .u8 t), (46, .dl 12 (L.map psC)), (47, .int .i64 L.length), (48, .int .i64 z.1), (9, .int .i64 (2 + (n : Int) % 7)), (10, .ptr b 0)], [rndE b z.2.1 z.2.2.1], [], Tryz.f8.ntmps⟩ : St)) (fun z => z.1 ≤ L.length ∧ Hist z.2.1 z.2.2.1 z.2.2.2 ∧ z.2.1.length = N) (fun z => L.length - z.1) (0, List.replicate N [], [], List.replicate N []) (⟨Nat.zero_le _, hist_new (by omega) (by omega), List.length_replicate⟩) (St.le_of (by repeat (first | exact trivial | refine ⟨rfl, ?_⟩)) (by repeat (first | exact q_r | apply q_q | apply q_k))) ?_
  intro z hI
  obtain ⟨k, B, Q, W⟩ := z
  obtain ⟨hI1, hI2, hI3⟩ := hI
  dsimp only at hI1 hI2 hI3 ⊢
  by_cases hk : k < L.length
  · obtain ⟨r, hr⟩ : ∃ r, L[k]? = some r := get_some hk
    have hg : (L.map psC)[k]? = some (psC r) := by rw [List.getElem?_map, hr]; rfl
    have hd := fun σ => do_c B Q r hI2.rt σ
    cases hds : doS B Q r with
    | error e =>
      have he := do_code hds
      rw [hds] at hd
      dsimp only [doV] at hd
      refine zX (zZ ?_); refine xBi rfl rfl rfl rfl rfl rfl ?_; intro _ _; refine zY ?_; refine zX ?_; refine zU rfl (fun h => ?_) (fun h => ?_) <;> ((first | (subst h; rename BV _ true => g; have h := g.eq; clear g) | (subst h; rename BV _ false => g; have h := g.eq; clear g) | skip); (have hp := h; try simp only [q_n] at hp); (try (exfalso; first | omega | (cases hp; done))));
      refine zF ?_; refine zX ?_; refine yW ?_; refine zX (zZ ?_); apply zV; rfl; rfl; rfl; (apply g_indexDl; rfl; rfl; rfl; (rfl); (assumption)); apply zV; rfl; rfl; rfl; (apply zA; rfl; decide; rfl; (exact .e rfl rfl)); refine zD rfl rfl rfl (g_alloc rfl) ?_; intro _; apply yX; rfl; rfl; (apply zJ; rfl; rfl; rfl; (exact Upd.here); (simp only [setL, q_z, AV.cells]; rfl); rfl; rfl; rfl; exact q_b rfl); refine zY ?_; refine zX (zZ ?_); refine xLa rfl rfl rfl rfl (by decide) rfl (.p (by (repeat first | exact q_h | apply q_t | assumption); done) rfl rfl) ?_; refine xLa rfl rfl rfl rfl (by decide) rfl (.p (by (repeat first | exact q_h | apply q_t | assumption); done) rfl rfl) ?_; apply zV; rfl; rfl; rfl; (refine yZ rfl rfl (zQ (by kernel_rfl)) ?_; exact hd _); refine xMv rfl rfl rfl rfl ?_; apply zV; rfl; rfl; rfl; (apply yY; rfl; rfl); apply zV; rfl; rfl; rfl; (apply yY; rfl; rfl); refine zD rfl rfl rfl (g_alloc rfl) ?_; intro _; apply yX; rfl; rfl; (apply zJ; rfl; rfl; rfl; (exact Upd.here); (simp only [setL, q_z, AV.cells]; rfl); rfl; rfl; rfl; exact q_b rfl); refine xAs rfl rfl rfl rfl ?_; refine zY ?_; refine zX (zZ ?_); refine xMv rfl rfl rfl rfl ?_; refine xBi rfl rfl rfl rfl rfl rfl ?_; intro _ _; refine zY ?_; refine zU rfl (fun h => ?_) (fun h => ?_) <;> ((first | (subst h; rename BV _ true => g; have h := g.eq; clear g) | (subst h; rename BV _ false => g; have h := g.eq; clear g) | skip); (have hp := h; try simp only [q_n] at hp); (try (exfalso; first | omega | (cases hp; done))));
      refine zF ?_; refine zZ ?_; apply zV; rfl; rfl; rfl; (apply g_add; rfl; rfl; rfl; exact ⟨by omega, by omega⟩); refine xMv rfl rfl rfl rfl ?_; refine zB ?_; simp only [zE, zL, zK, zT, retA, ↓reduceIte, Nat.reduceEqDiff]; rotate_left
      (all_goals (repeat (rename BV _ _ => hbv; cases hbv)))
      all_goals (try (first | cases ‹true = false› | cases ‹false = true›))
      refine ⟨(k + 1, B, Q, W), ⟨hk, hI2, hI3⟩, by dsimp only; omega, ?_⟩
      dsimp only
      exact (St.le_of (by repeat (first | exact trivial | refine ⟨rfl, ?_⟩)) (by repeat (first | exact q_r | apply q_q | apply q_k | exact q_a)))
    | ok x =>
      obtain ⟨B2, Q2⟩ := x
      have h2 := hist_do hI2 hds
      have hl2 : B2.length = N := by rw [h2.2.1.len]; exact hI3
      rw [hds] at hd
      dsimp only [doV] at hd
      refine zX (zZ ?_); refine xBi rfl rfl rfl rfl rfl rfl ?_; intro _ _; refine zY ?_; refine zX ?_; refine zU rfl (fun h => ?_) (fun h => ?_) <;> ((first | (subst h; rename BV _ true => g; have h := g.eq; clear g) | (subst h; rename BV _ false => g; have h := g.eq; clear g) | skip); (have hp := h; try simp only [q_n] at hp); (try (exfalso; first | omega | (cases hp; done))));
      refine zF ?_; refine zX ?_; refine yW ?_; refine zX (zZ ?_); apply zV; rfl; rfl; rfl; (apply g_indexDl; rfl; rfl; rfl; (rfl); (assumption)); apply zV; rfl; rfl; rfl; (apply zA; rfl; decide; rfl; (exact .e rfl rfl)); refine zD rfl rfl rfl (g_alloc rfl) ?_; intro _; apply yX; rfl; rfl; (apply zJ; rfl; rfl; rfl; (exact Upd.here); (simp only [setL, q_z, AV.cells]; rfl); rfl; rfl; rfl; exact q_b rfl); refine zY ?_; refine zX (zZ ?_); refine xLa rfl rfl rfl rfl (by decide) rfl (.p (by (repeat first | exact q_h | apply q_t | assumption); done) rfl rfl) ?_; refine xLa rfl rfl rfl rfl (by decide) rfl (.p (by (repeat first | exact q_h | apply q_t | assumption); done) rfl rfl) ?_; apply zV; rfl; rfl; rfl; (refine yZ rfl rfl (zQ (by kernel_rfl)) ?_; exact hd _); refine xMv rfl rfl rfl rfl ?_; apply zV; rfl; rfl; rfl; (apply yY; rfl; rfl); apply zV; rfl; rfl; rfl; (apply yY; rfl; rfl); refine zD rfl rfl rfl (g_alloc rfl) ?_; intro _; apply yX; rfl; rfl; (apply zJ; rfl; rfl; rfl; (exact Upd.here); (simp only [setL, q_z, AV.cells]; rfl); rfl; rfl; rfl; exact q_b rfl); refine xAs rfl rfl rfl rfl ?_; refine zY ?_; refine zX (zZ ?_); refine xMv rfl rfl rfl rfl ?_; refine xBi rfl rfl rfl rfl rfl rfl ?_; intro _ _; refine zY ?_; refine zU rfl (fun h => ?_) (fun h => ?_) <;> ((first | (subst h; rename BV _ true => g; have h := g.eq; clear g) | (subst h; rename BV _ false => g; have h := g.eq; clear g) | skip); (have hp := h; try simp only [q_n] at hp); (try (exfalso; first | omega | (cases hp; done))));
      refine zZ ?_; refine xLa rfl rfl rfl rfl (by decide) rfl (.p (by (repeat first | exact q_h | apply q_t | assumption); done) rfl rfl) ?_; apply yX; rfl; rfl; (apply zJ; rfl; rfl; rfl; (exact Upd.there (Upd.there (Upd.here))); (simp only [setL, q_z, AV.cells]; rfl); rfl; rfl; rfl; exact q_b rfl); refine zB ?_; refine zZ ?_; apply zV; rfl; rfl; rfl; (apply g_add; rfl; rfl; rfl; exact ⟨by omega, by omega⟩); refine xMv rfl rfl rfl rfl ?_; refine zB ?_; simp only [zE, zL, zK, zT, retA, ↓reduceIte, Nat.reduceEqDiff]; rotate_left
      (all_goals (repeat (rename BV _ _ => hbv; cases hbv)))
      all_goals (try (first | cases ‹true = false› | cases ‹false = true›))
      refine ⟨(k + 1, B2, Q2, wroteS W r), ⟨hk, h2.1, hl2⟩, by dsimp only; omega, ?_⟩
      dsimp only
      exact (St.le_of (by repeat (first | exact trivial | refine ⟨rfl, ?_⟩)) (by repeat (first | exact q_r | apply q_q | apply q_k | exact q_a)))
  · have hnc := fun σ => netcheck_c (qPs Q) hI2.rt.rt.okP hI2.rt.rt.few σ
    have e : k = L.length := by omega
    subst e
    have ea : (f : Int) % (2 + (n : Int) % 7) = ((f % N : Nat) : Int) := by rw [hN3]; omega
    have ec : (t : Int) % (2 + (n : Int) % 7) = ((t % N : Nat) : Int) := by rw [hN3]; omega
    have ha : f % N < B.length := by rw [hI3]; exact Nat.mod_lt _ (by omega)
    have hc : t % N < B.length := by rw [hI3]; exact Nat.mod_lt _ (by omega)
    clear hI1 hk hlen
    refine zX (zZ ?_); refine xBi rfl rfl rfl rfl rfl rfl ?_; intro _ _; refine zY ?_; refine zX ?_; refine zU rfl (fun h => ?_) (fun h => ?_) <;> ((first | (subst h; rename BV _ true => g; have h := g.eq; clear g) | (subst h; rename BV _ false => g; have h := g.eq; clear g) | skip); (have hp := h; try simp only [q_n] at hp); (try (exfalso; first | omega | (cases hp; done))));
    refine ex_exit ?_; refine zX ?_; refine zX (zZ ?_); refine xFa rfl rfl rfl rfl rfl rfl ?_; refine xLd rfl rfl rfl rfl rfl (.p (by (repeat first | exact q_h | apply q_t | assumption); done) rfl) ?_; apply zV; rfl; rfl; rfl; (apply g_len; rfl; rfl; (exact (List.length_map _).symm)); refine xMv rfl rfl rfl rfl ?_; refine xBi rfl rfl rfl rfl rfl rfl ?_; intro _ _; refine xMv rfl rfl rfl rfl ?_; refine zC rfl (fun h => ?_) (fun h => ?_) <;> ((first | (subst h; rename BV _ true => g; have h := g.eq; clear g) | (subst h; rename BV _ false => g; have h := g.eq; clear g) | skip); (have hp := h; try simp only [q_n] at hp); (try (exfalso; first | omega | (cases hp; done))));
    refine yFa rfl rfl rfl rfl rfl rfl rfl ?_; refine yLa rfl rfl rfl rfl rfl (by decide) rfl (.p (by (repeat first | exact q_h | apply q_t | assumption); done) rfl rfl) ?_; apply exl_isW; rfl; (rfl); rfl; rfl; (refine yZ rfl rfl (zQ (by kernel_rfl)) ?_; exact hnc _); refine yBi rfl rfl rfl rfl rfl rfl rfl ?_; intro _ _; refine xPf rfl rfl rfl rfl rfl rfl ?_; refine zY ?_; refine zU rfl (fun h => ?_) (fun h => ?_) <;> ((first | (subst h; rename BV _ true => g; have h := g.eq; clear g) | (subst h; rename BV _ false => g; have h := g.eq; clear g) | skip); (have hp := h; try simp only [q_n] at hp); (try (exfalso; first | omega | (cases hp; done))));
    refine zF ?_; refine zX ?_; refine ex_drawP rfl rfl (by kernel_rfl) rfl ?_; refine ex_drawQ rfl (by kernel_rfl) rfl ?_; apply zR; rfl; rfl; rfl; (intro σ' hl; (apply zH; rfl)); apply zR; rfl; rfl; rfl; (intro σ' hl; (apply g_conv64; rfl; rfl; rfl; exact ⟨by omega, by omega⟩)); apply zR; rfl; rfl; rfl; (intro σ' hl; (apply zH; rfl)); apply zR; rfl; rfl; rfl; (intro σ' hl; (apply g_remP; rfl; rfl; exact ⟨by omega, by omega⟩)); apply zR; rfl; rfl; rfl; (intro σ' hl; (apply zH; rfl)); apply zR; rfl; rfl; rfl; (intro σ' hl; (apply g_conv64; rfl; rfl; rfl; exact ⟨by omega, by omega⟩)); apply zR; rfl; rfl; rfl; (intro σ' hl; (apply zH; rfl)); apply zR; rfl; rfl; rfl; (intro σ' hl; (apply g_remP; rfl; rfl; exact ⟨by omega, by omega⟩)); apply zR; rfl; rfl; rfl; (intro σ' hl; (apply g_assign; rfl)); apply zR; rfl; rfl; rfl; (intro σ' hl; (apply g_assign; rfl)); refine wl_nil ?_; show EX _ _ _ _ _; refine zX ?_; refine zX (zZ ?_); refine xMv rfl rfl rfl rfl ?_; refine xMv rfl rfl rfl rfl ?_; refine xBi rfl rfl rfl rfl rfl rfl ?_; intro _ _; refine zY ?_; refine zU rfl (fun h => ?_) (fun h => ?_) <;> ((first | (subst h; rename BV _ true => g; have h := g.eq; clear g) | (subst h; rename BV _ false => g; have h := g.eq; clear g) | skip); (have hp := h; try simp only [q_n] at hp); (try (exfalso; first | omega | (cases hp; done))));
    refine zX (zZ ?_); refine xAs rfl rfl rfl rfl ?_; refine zY ?_; refine yV ?_; simp only [zE, zL, zK, zT, retA, ↓reduceIte, Nat.reduceEqDiff]; rotate_left; refine zF ?_; refine zX ?_; rotate_left
    (all_goals (repeat (rename BV _ _ => hbv; cases hbv)))
    all_goals (try (first | cases ‹true = false› | cases ‹false = true›))
    · refine ret_is .nil (.cons (.ofTmp rfl) .nil) (by repeat (first | exact q_r | apply q_q | apply q_k | exact q_a)) ?_
      rfl
    rename ¬ (_ = _) => hne
    rw [ea, ec] at hne
    rw [ea, ec]
    generalize f % N = a at ha hne ⊢
    generalize t % N = c at hc hne ⊢
    have hne : a ≠ c := by omega
    clear ea ec hf ht hN hN2 hnc hn
    refine ex_weaken (s' := ⟨[(9, .int .i64 (2 + (n : Int) % 7)), (10, .ptr b 0), (16, .int .i64 a), (17, .int .i64 c)], [rndE b B Q], [], Tryz.f8.ntmps⟩) (St.le_of (by repeat (first | exact trivial | refine ⟨rfl, ?_⟩)) (by repeat (first | exact q_r | apply q_q | apply q_k))) ?_
    obtain ⟨la, hla⟩ : ∃ l, B[a]? = some l := get_some ha
    obtain ⟨lc, hlc⟩ : ∃ l, B[c]? = some l := get_some hc
    have ga : B.getD a [] = la := by rw [List.getD_eq_getElem?_getD, hla]; rfl
    have gc : B.getD c [] = lc := by rw [List.getD_eq_getElem?_getD, hlc]; rfl
    obtain ⟨o, ho, hbo, hbg, hm⟩ := merge_code hI2 (List.mem_of_getElem? hlc) (List.mem_of_getElem? hla)
    have mg := merge_c lc la
    have td := fun σ => do_c B Q ⟨2, a, c, 0, slZ⟩ hI2.rt σ
    rw [tell_do (Q := Q) ha hc hne, ga] at td
    have hga := bk_get hla
    have hgc := bk_get hlc
    rw [hm] at mg
    refine ex_joinT (fun (z : Nat) => (⟨[(9, .int .i64 (2 + (n : Int) % 7)), (10, .ptr b 0), (16, .int .i64 a), (17, .int .i64 c), (18, .ptr z 0), (19, .int .i64 (if (512 : Int) < o.length then (([] : List Sl), (2 : Int)) else (o, 0)).2)], [.cells z [sls (if (512 : Int) < o.length then (([] : List Sl), (2 : Int)) else (o, 0)).1] 24, rndE b B Q], [], Tryz.f8.ntmps⟩ : St)) ?_ ?_
    · refine ex_drfT (fun x => x = rndE b B Q) [14, 15] 16 rfl (by kernel_rfl) rfl ?_
      refine zN rfl rfl (by kernel_rfl) ?_; apply zG; rfl; rfl; (intro σ' hl; (apply zP; rfl; rfl; rfl)); refine zN rfl rfl (by kernel_rfl) ?_; apply zG; rfl; rfl; (intro σ' hl; (apply g_load1; rfl; rfl; (exact .p (hl _ (by (rfl)) (by (repeat first | exact q_h | apply q_t | assumption); done)) rfl))); refine zN rfl rfl (by kernel_rfl) ?_; apply zG; rfl; rfl; (intro σ' hl; (apply zH; rfl)); refine zN rfl rfl (by kernel_rfl) ?_; apply zG; rfl; rfl; (intro σ' hl; (apply g_indexDl; rfl; rfl; rfl; (rfl); (assumption))); refine zN rfl rfl (by kernel_rfl) ?_; apply zG; rfl; rfl; (intro σ' hl; (apply zA; rfl; decide; rfl; (exact .e rfl rfl))); refine zN rfl rfl (by kernel_rfl) ?_; apply zG; rfl; rfl; (intro σ' hl; (apply zP; rfl; rfl; rfl)); refine zN rfl rfl (by kernel_rfl) ?_; apply zG; rfl; rfl; (intro σ' hl; (apply g_load1; rfl; rfl; (exact .p (hl _ (by (rfl)) (by (repeat first | exact q_h | apply q_t | assumption); done)) rfl))); refine zN rfl rfl (by kernel_rfl) ?_; apply zG; rfl; rfl; (intro σ' hl; (apply zH; rfl)); refine zN rfl rfl (by kernel_rfl) ?_; apply zG; rfl; rfl; (intro σ' hl; (apply g_indexDl; rfl; rfl; rfl; (rfl); (assumption))); refine zN rfl rfl (by kernel_rfl) ?_; apply zG; rfl; rfl; (intro σ' hl; (apply zA; rfl; decide; rfl; (exact .e rfl rfl))); refine zN rfl rfl (by kernel_rfl) ?_; apply zG; rfl; rfl; (intro σ' hl; (refine yZ rfl rfl (zQ (by kernel_rfl)) ?_; exact mg _)); refine zN rfl rfl (by kernel_rfl) ?_; apply zG; rfl; rfl; (intro σ' hl; (apply zH; rfl)); refine zN rfl rfl (by kernel_rfl) ?_; apply zG; rfl; rfl; (intro σ' hl; (apply yY; rfl; rfl)); refine zN rfl rfl (by kernel_rfl) ?_; apply zG; rfl; rfl; (intro σ' hl; (apply yY; rfl; rfl)); refine drf_one rfl rfl ?_; refine drs_box rfl rfl (g_alloc rfl) ?_; intro _; refine drf_one rfl rfl ?_; apply drs_do; rfl; rfl; (apply zJ; rfl; rfl; rfl; (exact Upd.here); (simp only [setL, q_z, AV.cells]; rfl); rfl; rfl; rfl; exact q_b rfl); (rintro _ (rfl | rfl | rfl) _ <;> exact (by (repeat first | exact q_h | apply q_t | assumption); done)); refine drf_nil rfl ?_; refine xAs rfl rfl rfl rfl ?_; refine zB ?_; simp only [zE, zL, zK, zT, retA, ↓reduceIte, Nat.reduceEqDiff]; rotate_left
      (all_goals (repeat (rename BV _ _ => hbv; cases hbv)))
      all_goals (try (first | cases ‹true = false› | cases ‹false = true›))
      exact ⟨_, _, List.Perm.refl _, (St.le_of (by repeat (first | exact trivial | refine ⟨rfl, ?_⟩)) (by repeat (first | exact q_r | apply q_q | apply q_k | exact q_a)))⟩
    · intro z
      clear mg hga hgc
      have hQl : ((qPs Q).length : Int) = Q.length := by rw [List.length_map]
      by_cases hq : Q.length + la.length ≤ 4096
      · rw [if_pos hq] at td
        dsimp only [doV] at td
        by_cases h5 : (512 : Int) < o.length
        · rw [if_pos h5]
          dsimp only
          clear hm hbg hbo
          refine zX (zZ ?_); refine xFa rfl rfl rfl rfl rfl rfl ?_; refine xFa rfl rfl rfl rfl rfl rfl ?_; refine xLd rfl rfl rfl rfl rfl (.p (by (repeat first | exact q_h | apply q_t | assumption); done) rfl) ?_; apply zV; rfl; rfl; rfl; (apply g_len; rfl; rfl; (exact (List.length_map _).symm)); refine xAs rfl rfl rfl rfl ?_; refine zY ?_; refine zX (zZ ?_); refine xLa rfl rfl rfl rfl (by decide) rfl (.p (by (repeat first | exact q_h | apply q_t | assumption); done) rfl rfl) ?_; refine xMv rfl rfl rfl rfl ?_; refine xMv rfl rfl rfl rfl ?_; apply zV; rfl; rfl; rfl; (apply g_build; rfl; rfl; rfl; rfl); apply zV; rfl; rfl; rfl; (refine yZ rfl rfl (zQ (by kernel_rfl)) ?_; exact td _); refine xMv rfl rfl rfl rfl ?_; apply zV; rfl; rfl; rfl; (apply yY; rfl; rfl); apply zV; rfl; rfl; rfl; (apply yY; rfl; rfl); refine zD rfl rfl rfl (g_alloc rfl) ?_; intro _; apply yX; rfl; rfl; (apply zJ; rfl; rfl; rfl; (exact Upd.here); (simp only [setL, q_z, AV.cells]; rfl); rfl; rfl; rfl; exact q_b rfl); refine xAs rfl rfl rfl rfl ?_; refine zY ?_; refine zX ?_; refine zX (zZ ?_); refine xMv rfl rfl rfl rfl ?_; refine xBi rfl rfl rfl rfl rfl rfl ?_; intro _ _; refine xMv rfl rfl rfl rfl ?_; refine zC rfl (fun h => ?_) (fun h => ?_) <;> ((first | (subst h; rename BV _ true => g; have h := g.eq; clear g) | (subst h; rename BV _ false => g; have h := g.eq; clear g) | skip); (have hp := h; try simp only [q_n] at hp); (try (exfalso; first | omega | (cases hp; done))));
          refine zW rfl rfl rfl rfl ?_; refine zW rfl rfl rfl rfl ?_; refine xPt rfl rfl rfl rfl rfl rfl ?_; refine zY ?_; refine ex_cond_t rfl (by rfl) ?_; refine zX (zZ ?_); refine xMv rfl rfl rfl rfl ?_; refine xBi rfl rfl rfl rfl rfl rfl ?_; intro _ _; refine xMv rfl rfl rfl rfl ?_; refine zC rfl (fun h => ?_) (fun h => ?_) <;> ((first | (subst h; rename BV _ true => g; have h := g.eq; clear g) | (subst h; rename BV _ false => g; have h := g.eq; clear g) | skip); (have hp := h; try simp only [q_n] at hp); (try (exfalso; first | omega | (cases hp; done))));
          refine zW rfl rfl rfl rfl ?_; refine zW rfl rfl rfl rfl ?_; refine xPt rfl rfl rfl rfl rfl rfl ?_; refine xAs rfl rfl rfl rfl ?_; refine zY ?_; refine yV ?_; simp only [zE, zL, zK, zT, retA, ↓reduceIte, Nat.reduceEqDiff]; rotate_left
          (all_goals (repeat (rename BV _ _ => hbv; cases hbv)))
          all_goals (try (first | cases ‹true = false› | cases ‹false = true›))
          refine ret_is .nil (.cons (.ofTmp rfl) .nil) (by repeat (first | exact q_r | apply q_q | apply q_k)) (bool_eq ?_)
          rfl
        · rw [if_neg h5]
          dsimp only
          have hT0 := tell_start hI2 hI3 ha hc hne (by rw [ga]; exact hq)
          rw [ga] at hT0
          have hfew : ∀ o', mergeR (B.getD c []) (B.getD a []) = some o' → o'.length ≤ 512 := fun o' h' => by
            rw [gc, ga, ho] at h'; cases h'; omega
          have hgB : (B.map bkC)[a]? = some (bkC la) := bk_get hla
          generalize hQ1 : (Q ++ la.map fun s => (⟨a, c, s⟩ : Qk)) = Q1 at td hT0
          clear hm hbg hbo
          refine zX (zZ ?_); refine xFa rfl rfl rfl rfl rfl rfl ?_; refine xFa rfl rfl rfl rfl rfl rfl ?_; refine xLd rfl rfl rfl rfl rfl (.p (by (repeat first | exact q_h | apply q_t | assumption); done) rfl) ?_; apply zV; rfl; rfl; rfl; (apply g_len; rfl; rfl; (exact (List.length_map _).symm)); refine xAs rfl rfl rfl rfl ?_; refine zY ?_; refine zX (zZ ?_); refine xLa rfl rfl rfl rfl (by decide) rfl (.p (by (repeat first | exact q_h | apply q_t | assumption); done) rfl rfl) ?_; refine xMv rfl rfl rfl rfl ?_; refine xMv rfl rfl rfl rfl ?_; apply zV; rfl; rfl; rfl; (apply g_build; rfl; rfl; rfl; rfl); apply zV; rfl; rfl; rfl; (refine yZ rfl rfl (zQ (by kernel_rfl)) ?_; exact td _); refine xMv rfl rfl rfl rfl ?_; apply zV; rfl; rfl; rfl; (apply yY; rfl; rfl); apply zV; rfl; rfl; rfl; (apply yY; rfl; rfl); refine zD rfl rfl rfl (g_alloc rfl) ?_; intro _; apply yX; rfl; rfl; (apply zJ; rfl; rfl; rfl; (exact Upd.here); (simp only [setL, q_z, AV.cells]; rfl); rfl; rfl; rfl; exact q_b rfl); refine xAs rfl rfl rfl rfl ?_; refine zY ?_; refine zX ?_; refine zX (zZ ?_); refine xMv rfl rfl rfl rfl ?_; refine xBi rfl rfl rfl rfl rfl rfl ?_; intro _ _; refine xMv rfl rfl rfl rfl ?_; refine zC rfl (fun h => ?_) (fun h => ?_) <;> ((first | (subst h; rename BV _ true => g; have h := g.eq; clear g) | (subst h; rename BV _ false => g; have h := g.eq; clear g) | skip); (have hp := h; try simp only [q_n] at hp); (try (exfalso; first | omega | (cases hp; done))));
          apply exl_isW; rfl; (rfl); rfl; rfl; (apply zH; rfl); refine yBi rfl rfl rfl rfl rfl rfl rfl ?_; intro _ _; refine xPf rfl rfl rfl rfl rfl rfl ?_; refine zY ?_; refine zU rfl (fun h => ?_) (fun h => ?_) <;> ((first | (subst h; rename BV _ true => g; have h := g.eq; clear g) | (subst h; rename BV _ false => g; have h := g.eq; clear g) | skip); (have hp := h; try simp only [q_n] at hp); (try (exfalso; first | omega | (cases hp; done))));
          refine zF ?_; refine zX ?_; refine zX (zZ ?_); refine xFa rfl rfl rfl rfl rfl rfl ?_; refine xLd rfl rfl rfl rfl rfl (.p (by (repeat first | exact q_h | apply q_t | assumption); done) rfl) ?_; refine xMv rfl rfl rfl rfl ?_; apply zV; rfl; rfl; rfl; (apply g_indexDl; rfl; rfl; rfl; (rfl); (assumption)); refine xFa rfl rfl rfl rfl rfl rfl ?_; apply zV; rfl; rfl; rfl; (apply g_load1; rfl; rfl; (exact .e rfl)); apply zV; rfl; rfl; rfl; (apply g_len; rfl; rfl; (exact (List.length_map _).symm)); refine xMv rfl rfl rfl rfl ?_; refine zY ?_; refine yW ?_; simp only [zE, zL, zK, zT, retA, ↓reduceIte, Nat.reduceEqDiff]; rotate_left
          (all_goals (repeat (rename BV _ _ => hbv; cases hbv)))
          all_goals (try (first | cases ‹true = false› | cases ‹false = true›))
          rename Nat => b21; revert b21
          intro b21
          clear td
          rw [← gc, ← ga] at ho
          refine ex_loop (fun (y : Nat × List (List Sl) × List Qk) => (⟨[(9, .int .i64 (2 + (n : Int) % 7)), (17, .int .i64 c), (18, .ptr z 0), (20, .int .i64 (qPs Q).length), (21, .ptr b21 0), (128, .int .i64 la.length), (129, .int .i64 y.1)], [rndE b21 y.2.1 y.2.2, .cells z [sls o] 24], [], Tryz.f8.ntmps⟩ : St)) (fun y => y.1 ≤ la.length ∧ TellI N a c B Q W y.1 y.2.1 y.2.2) (fun y => la.length - y.1) (0, B, Q1) (⟨Nat.zero_le _, hT0⟩) (St.le_of (by repeat (first | exact trivial | refine ⟨rfl, ?_⟩)) (by repeat (first | exact q_r | apply q_q | apply q_k))) ?_
          intro y hI
          obtain ⟨k, B1, Q1'⟩ := y
          obtain ⟨hJ1, hJ2⟩ := hI
          dsimp only at hJ1 hJ2 ⊢
          by_cases hkl : k < la.length
          · obtain ⟨B2, Q2, hd2, hT2⟩ := tell_step hI2 hI3 ha hc hfew hJ2 (by rw [ga]; exact hkl)
            have td := fun σ => do_c B1 Q1' ⟨3, 0, 0, Q.length, slZ⟩ hJ2.hist.rt σ
            rw [hd2, ← hQl] at td
            dsimp only [doV] at td
            refine zX (zZ ?_); refine xBi rfl rfl rfl rfl rfl rfl ?_; intro _ _; refine zY ?_; refine zX ?_; refine zU rfl (fun h => ?_) (fun h => ?_) <;> ((first | (subst h; rename BV _ true => g; have h := g.eq; clear g) | (subst h; rename BV _ false => g; have h := g.eq; clear g) | skip); (have hp := h; try simp only [q_n] at hp); (try (exfalso; first | omega | (cases hp; done))));
            refine zF ?_; refine zX ?_; refine yW ?_; refine zX (zZ ?_); refine xLa rfl rfl rfl rfl (by decide) rfl (.p (by (repeat first | exact q_h | apply q_t | assumption); done) rfl rfl) ?_; refine xMv rfl rfl rfl rfl ?_; apply zV; rfl; rfl; rfl; (apply g_build; rfl; rfl; rfl; rfl); apply zV; rfl; rfl; rfl; (refine yZ rfl rfl (zQ (by kernel_rfl)) ?_; exact td _); refine xMv rfl rfl rfl rfl ?_; apply zV; rfl; rfl; rfl; (apply yY; rfl; rfl); apply zV; rfl; rfl; rfl; (apply yY; rfl; rfl); apply yX; rfl; rfl; (apply zJ; rfl; rfl; rfl; (exact Upd.here); (simp only [setL, q_z, AV.cells]; rfl); rfl; rfl; rfl; exact q_b rfl); refine xAs rfl rfl rfl rfl ?_; refine zY ?_; refine zX (zZ ?_); refine xMv rfl rfl rfl rfl ?_; refine xBi rfl rfl rfl rfl rfl rfl ?_; intro _ _; refine zY ?_; refine zU rfl (fun h => ?_) (fun h => ?_) <;> ((first | (subst h; rename BV _ true => g; have h := g.eq; clear g) | (subst h; rename BV _ false => g; have h := g.eq; clear g) | skip); (have hp := h; try simp only [q_n] at hp); (try (exfalso; first | omega | (cases hp; done))));
            refine zF ?_; refine zZ ?_; apply zV; rfl; rfl; rfl; (apply g_add; rfl; rfl; rfl; exact ⟨by omega, by omega⟩); refine xMv rfl rfl rfl rfl ?_; refine zB ?_; simp only [zE, zL, zK, zT, retA, ↓reduceIte, Nat.reduceEqDiff]; rotate_left
            (all_goals (repeat (rename BV _ _ => hbv; cases hbv)))
            all_goals (try (first | cases ‹true = false› | cases ‹false = true›))
            refine ⟨(k + 1, B2, Q2), ⟨hkl, hT2⟩, by dsimp only; omega, ?_⟩
            dsimp only
            exact (St.le_of (by repeat (first | exact trivial | refine ⟨rfl, ?_⟩)) (by repeat (first | exact q_r | apply q_q | apply q_k | exact q_a)))
          · have e : k = la.length := by omega
            subst e
            have hl1 : B1.length = N := hJ2.len
            rw [← ga] at hJ2
            obtain ⟨hQe, hBe⟩ := tell_end hI2 hI3 ha hc hJ2 ho
            have hgo : (B1.map bkC)[c]? = some (bkC o) := by
              refine bk_get ?_
              have hcl : c < B1.length := by omega
              rw [List.getD_eq_getElem?_getD, List.getElem?_eq_getElem hcl] at hBe
              rw [List.getElem?_eq_getElem hcl]
              exact congrArg some hBe
            subst hQe
            have ss := same_c o
            clear hfew hT0 hJ2 hBe ho
            refine zX (zZ ?_); refine xBi rfl rfl rfl rfl rfl rfl ?_; intro _ _; refine zY ?_; refine zX ?_; refine zU rfl (fun h => ?_) (fun h => ?_) <;> ((first | (subst h; rename BV _ true => g; have h := g.eq; clear g) | (subst h; rename BV _ false => g; have h := g.eq; clear g) | skip); (have hp := h; try simp only [q_n] at hp); (try (exfalso; first | omega | (cases hp; done))));
            refine ex_exit ?_; refine zX ?_; rotate_left
            (all_goals (repeat (rename BV _ _ => hbv; cases hbv)))
            all_goals (try (first | cases ‹true = false› | cases ‹false = true›))
            refine ex_drawLK anyK 22 [] rfl (by kernel_rfl) rfl ?_
            simp only [List.take_succ_cons, List.take_zero, List.drop_succ_cons, List.drop_zero]
            apply zR; rfl; rfl; rfl; (intro σ' hl; (apply zP; rfl; rfl; rfl)); apply zR; rfl; rfl; rfl; (intro σ' hl; (apply g_load1; rfl; rfl; (exact .p (hl _ (by (exact True.intro)) (by (repeat first | exact q_h | apply q_t | assumption); done)) rfl))); apply zR; rfl; rfl; rfl; (intro σ' hl; (apply g_len; rfl; rfl; (exact (List.length_map _).symm))); apply zR; rfl; rfl; rfl; (intro σ' hl; (apply zH; rfl)); apply wl_isB; rfl; rfl; rfl; (intro σ' hl; (apply g_binInt; rfl; rfl; rfl)); intro _ _; apply zR; rfl; rfl; rfl; (intro σ' hl; (apply zH; rfl)); refine wl_case rfl (fun h => ?_) (fun h => ?_) <;> ((first | (subst h; rename BV _ true => g; have h := g.eq; clear g) | (subst h; rename BV _ false => g; have h := g.eq; clear g) | skip); (have hp := h; try simp only [q_n] at hp); (try (exfalso; first | omega | (cases hp; done))));
            apply wl_isW; rfl; (rfl); rfl; rfl; (intro σ' hl; (apply zP; rfl; rfl; rfl)); apply wl_isW; rfl; (rfl); rfl; rfl; (intro σ' hl; (apply zP; rfl; rfl; rfl)); apply wl_isW; rfl; (rfl); rfl; rfl; (intro σ' hl; (apply g_load1; rfl; rfl; (exact .p (hl _ (by (exact True.intro)) (by (repeat first | exact q_h | apply q_t | assumption); done)) rfl))); apply wl_isW; rfl; (rfl); rfl; rfl; (intro σ' hl; (apply g_len; rfl; rfl; (exact (List.length_map _).symm))); apply wl_isW; rfl; (rfl); rfl; rfl; (intro σ' hl; (apply zH; rfl)); apply wl_isBW; rfl; (rfl); rfl; rfl; (intro σ' hl; (apply g_binInt; rfl; rfl; rfl)); intro _ _; apply zR; rfl; rfl; rfl; (intro σ' hl; (apply g_pick_t; rfl; (rfl); rfl)); apply zR; rfl; rfl; rfl; (intro σ' hl; (apply zH; rfl)); refine wl_case rfl (fun h => ?_) (fun h => ?_) <;> ((first | (subst h; rename BV _ true => g; have h := g.eq; clear g) | (subst h; rename BV _ false => g; have h := g.eq; clear g) | skip); (have hp := h; try simp only [q_n] at hp); (try (exfalso; first | omega | (cases hp; done))));
            apply wl_isW; rfl; (rfl); rfl; rfl; (intro σ' hl; (apply zP; rfl; rfl; rfl)); apply wl_isW; rfl; (rfl); rfl; rfl; (intro σ' hl; (apply g_load1; rfl; rfl; (exact .p (hl _ (by (exact True.intro)) (by (repeat first | exact q_h | apply q_t | assumption); done)) rfl))); apply wl_isW; rfl; (rfl); rfl; rfl; (intro σ' hl; (apply zH; rfl)); apply wl_isW; rfl; (rfl); rfl; rfl; (intro σ' hl; (apply g_indexDl; rfl; rfl; rfl; (rfl); (assumption))); apply wl_isW; rfl; (rfl); rfl; rfl; (intro σ' hl; (apply zA; rfl; decide; rfl; (exact .e rfl rfl))); apply wl_isW; rfl; (rfl); rfl; rfl; (intro σ' hl; (apply zA; rfl; decide; rfl; (exact .p (hl _ (by (exact True.intro)) (by (repeat first | exact q_h | apply q_t | assumption); done)) rfl rfl))); apply wl_isBW; rfl; (rfl); rfl; rfl; (intro σ' hl; (refine yZ rfl rfl (zQ (by kernel_rfl)) ?_; exact ss _)); intro _ _; apply zR; rfl; rfl; rfl; (intro σ' hl; (apply g_pick_t; rfl; (rfl); rfl)); refine wl_nil ?_; refine xAs rfl rfl rfl rfl ?_; refine zY ?_; refine yV ?_; simp only [zE, zL, zK, zT, retA, ↓reduceIte, Nat.reduceEqDiff]; rotate_left
            (all_goals (repeat (rename BV _ _ => hbv; cases hbv)))
            all_goals (try (first | cases ‹true = false› | cases ‹false = true›))
            refine ret_is .nil (.cons (.ofTmp rfl) .nil) (by repeat (first | exact q_r | apply q_q | apply q_k)) (bool_eq ?_)
            rfl
      · rw [if_neg hq] at td
        dsimp only [doV] at td
        by_cases h5 : (512 : Int) < o.length
        · rw [if_pos h5]
          dsimp only
          clear hm hbg hbo
          refine zX (zZ ?_); refine xFa rfl rfl rfl rfl rfl rfl ?_; refine xFa rfl rfl rfl rfl rfl rfl ?_; refine xLd rfl rfl rfl rfl rfl (.p (by (repeat first | exact q_h | apply q_t | assumption); done) rfl) ?_; apply zV; rfl; rfl; rfl; (apply g_len; rfl; rfl; (exact (List.length_map _).symm)); refine xAs rfl rfl rfl rfl ?_; refine zY ?_; refine zX (zZ ?_); refine xLa rfl rfl rfl rfl (by decide) rfl (.p (by (repeat first | exact q_h | apply q_t | assumption); done) rfl rfl) ?_; refine xMv rfl rfl rfl rfl ?_; refine xMv rfl rfl rfl rfl ?_; apply zV; rfl; rfl; rfl; (apply g_build; rfl; rfl; rfl; rfl); apply zV; rfl; rfl; rfl; (refine yZ rfl rfl (zQ (by kernel_rfl)) ?_; exact td _); refine xMv rfl rfl rfl rfl ?_; apply zV; rfl; rfl; rfl; (apply yY; rfl; rfl); apply zV; rfl; rfl; rfl; (apply yY; rfl; rfl); refine zD rfl rfl rfl (g_alloc rfl) ?_; intro _; apply yX; rfl; rfl; (apply zJ; rfl; rfl; rfl; (exact Upd.here); (simp only [setL, q_z, AV.cells]; rfl); rfl; rfl; rfl; exact q_b rfl); refine xAs rfl rfl rfl rfl ?_; refine zY ?_; refine zX ?_; refine zX (zZ ?_); refine xMv rfl rfl rfl rfl ?_; refine xBi rfl rfl rfl rfl rfl rfl ?_; intro _ _; refine xMv rfl rfl rfl rfl ?_; refine zC rfl (fun h => ?_) (fun h => ?_) <;> ((first | (subst h; rename BV _ true => g; have h := g.eq; clear g) | (subst h; rename BV _ false => g; have h := g.eq; clear g) | skip); (have hp := h; try simp only [q_n] at hp); (try (exfalso; first | omega | (cases hp; done))));
          refine zW rfl rfl rfl rfl ?_; refine zW rfl rfl rfl rfl ?_; refine xPt rfl rfl rfl rfl rfl rfl ?_; refine zY ?_; refine ex_cond_t rfl (by rfl) ?_; refine zX (zZ ?_); refine xMv rfl rfl rfl rfl ?_; refine xBi rfl rfl rfl rfl rfl rfl ?_; intro _ _; refine xMv rfl rfl rfl rfl ?_; refine zC rfl (fun h => ?_) (fun h => ?_) <;> ((first | (subst h; rename BV _ true => g; have h := g.eq; clear g) | (subst h; rename BV _ false => g; have h := g.eq; clear g) | skip); (have hp := h; try simp only [q_n] at hp); (try (exfalso; first | omega | (cases hp; done))));
          refine zW rfl rfl rfl rfl ?_; refine zW rfl rfl rfl rfl ?_; refine xPt rfl rfl rfl rfl rfl rfl ?_; refine xAs rfl rfl rfl rfl ?_; refine zY ?_; refine yV ?_; simp only [zE, zL, zK, zT, retA, ↓reduceIte, Nat.reduceEqDiff]; rotate_left
          (all_goals (repeat (rename BV _ _ => hbv; cases hbv)))
          all_goals (try (first | cases ‹true = false› | cases ‹false = true›))
          refine ret_is .nil (.cons (.ofTmp rfl) .nil) (by repeat (first | exact q_r | apply q_q | apply q_k)) (bool_eq ?_)
          rfl
        · rw [if_neg h5]
          dsimp only
          clear hm hbg hbo
          refine zX (zZ ?_); refine xFa rfl rfl rfl rfl rfl rfl ?_; refine xFa rfl rfl rfl rfl rfl rfl ?_; refine xLd rfl rfl rfl rfl rfl (.p (by (repeat first | exact q_h | apply q_t | assumption); done) rfl) ?_; apply zV; rfl; rfl; rfl; (apply g_len; rfl; rfl; (exact (List.length_map _).symm)); refine xAs rfl rfl rfl rfl ?_; refine zY ?_; refine zX (zZ ?_); refine xLa rfl rfl rfl rfl (by decide) rfl (.p (by (repeat first | exact q_h | apply q_t | assumption); done) rfl rfl) ?_; refine xMv rfl rfl rfl rfl ?_; refine xMv rfl rfl rfl rfl ?_; apply zV; rfl; rfl; rfl; (apply g_build; rfl; rfl; rfl; rfl); apply zV; rfl; rfl; rfl; (refine yZ rfl rfl (zQ (by kernel_rfl)) ?_; exact td _); refine xMv rfl rfl rfl rfl ?_; apply zV; rfl; rfl; rfl; (apply yY; rfl; rfl); apply zV; rfl; rfl; rfl; (apply yY; rfl; rfl); refine zD rfl rfl rfl (g_alloc rfl) ?_; intro _; apply yX; rfl; rfl; (apply zJ; rfl; rfl; rfl; (exact Upd.here); (simp only [setL, q_z, AV.cells]; rfl); rfl; rfl; rfl; exact q_b rfl); refine xAs rfl rfl rfl rfl ?_; refine zY ?_; refine zX ?_; refine zX (zZ ?_); refine xMv rfl rfl rfl rfl ?_; refine xBi rfl rfl rfl rfl rfl rfl ?_; intro _ _; refine xMv rfl rfl rfl rfl ?_; refine zC rfl (fun h => ?_) (fun h => ?_) <;> ((first | (subst h; rename BV _ true => g; have h := g.eq; clear g) | (subst h; rename BV _ false => g; have h := g.eq; clear g) | skip); (have hp := h; try simp only [q_n] at hp); (try (exfalso; first | omega | (cases hp; done))));
          apply exl_isW; rfl; (rfl); rfl; rfl; (apply zH; rfl); refine yBi rfl rfl rfl rfl rfl rfl rfl ?_; intro _ _; refine xPf rfl rfl rfl rfl rfl rfl ?_; refine zY ?_; refine zU rfl (fun h => ?_) (fun h => ?_) <;> ((first | (subst h; rename BV _ true => g; have h := g.eq; clear g) | (subst h; rename BV _ false => g; have h := g.eq; clear g) | skip); (have hp := h; try simp only [q_n] at hp); (try (exfalso; first | omega | (cases hp; done))));
          refine zX (zZ ?_); refine xMv rfl rfl rfl rfl ?_; refine xBi rfl rfl rfl rfl rfl rfl ?_; intro _ _; refine xMv rfl rfl rfl rfl ?_; refine zC rfl (fun h => ?_) (fun h => ?_) <;> ((first | (subst h; rename BV _ true => g; have h := g.eq; clear g) | (subst h; rename BV _ false => g; have h := g.eq; clear g) | skip); (have hp := h; try simp only [q_n] at hp); (try (exfalso; first | omega | (cases hp; done))));
          apply exl_isW; rfl; (rfl); rfl; rfl; (apply zH; rfl); refine yBi rfl rfl rfl rfl rfl rfl rfl ?_; intro _ _; refine xPf rfl rfl rfl rfl rfl rfl ?_; refine xAs rfl rfl rfl rfl ?_; refine zY ?_; refine yV ?_; simp only [zE, zL, zK, zT, retA, ↓reduceIte, Nat.reduceEqDiff]; rotate_left
          (all_goals (repeat (rename BV _ _ => hbv; cases hbv)))
          all_goals (try (first | cases ‹true = false› | cases ‹false = true›))
          refine ret_is .nil (.cons (.ofTmp rfl) .nil) (by repeat (first | exact q_r | apply q_q | apply q_k)) (bool_eq ?_)
          rfl
end Go.Proofs.YtkhoengjdfmfaaaGreat
namespace Go.Proofs.YtkhoengjdfmfaaaGreat
def slS : Sh := .agg [.int .i64, .int .i64, .int .i64, .int .i64, .int .i64, .int .i64, .int .i64, .int .i64]
def psS : Sh := .agg [.int .i64, .int .i64, .int .i64, .int .i64, slS]
theorem fits_sl {l : List AV} (h : Fits slS l) : ∃ s : Sl, l = slC s := by
  simp only [slS, Fits, Fitss] at h
  obtain ⟨_, _, rfl, ⟨a, rfl, _⟩, _, _, rfl, ⟨b, rfl, _⟩, _, _, rfl, ⟨c, rfl, _⟩, _, _, rfl, ⟨d, rfl, _⟩, _, _, rfl, ⟨e, rfl, _⟩, _, _, rfl, ⟨f, rfl, _⟩, _, _, rfl, ⟨g, rfl, _⟩, _, _, rfl, ⟨i, rfl, _⟩, rfl⟩ := h
  exact ⟨⟨a, b, c, d, e, f, g, i⟩, rfl⟩
theorem fits_ps {l : List AV} (h : Fits psS l) : ∃ r : Ps, l = psC r := by
  unfold psS at h
  rw [Fits] at h
  simp only [Fitss] at h
  obtain ⟨_, _, rfl, h1, _, _, rfl, h2, _, _, rfl, h3, _, _, rfl, h4, _, _, rfl, h5, rfl⟩ := h
  obtain ⟨a, rfl, _⟩ := fits_i64 h1
  obtain ⟨b, rfl, _⟩ := fits_i64 h2
  obtain ⟨c, rfl, _⟩ := fits_i64 h3
  obtain ⟨d, rfl, _⟩ := fits_i64 h4
  obtain ⟨s, rfl⟩ := fits_sl h5
  exact ⟨⟨a, b, c, d, s⟩, by simp⟩
theorem fits_pss {l : List AV} (h : Fits (.slice psS) l) : ∃ xs : List Ps, l = [.dl 12 (xs.map psC)] := by
  obtain ⟨xs, rfl, _⟩ := fits_slice (f := psC) (p := fun _ => True) (fun x hx => by obtain ⟨n, rfl⟩ := fits_ps hx; exact ⟨n, rfl, trivial⟩) h
  exact ⟨xs, rfl⟩
end Go.Proofs.YtkhoengjdfmfaaaGreat
