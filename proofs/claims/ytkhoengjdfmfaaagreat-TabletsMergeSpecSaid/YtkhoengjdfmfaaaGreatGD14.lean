/- Parts of the proof that belong together: Wl Wm To Sne Wn Tq. -/
import Derived.Test.YtkhoengjdfmfaaaGreatGD03
import Derived.Test.YtkhoengjdfmfaaaGreatGD05
import Derived.Test.YtkhoengjdfmfaaaGreatGD10
import Derived.Test.YtkhoengjdfmfaaaGreatGD11
import Derived.Test.YtkhoengjdfmfaaaGreatGD13
set_option maxRecDepth 10000
set_option linter.unusedSimpArgs false
set_option linter.unusedVariables false
namespace Go.Proofs.YtkhoengjdfmfaaaGreat
set_option maxHeartbeats 4000000 in
theorem same_c (l : List Sl) (σ : List Ent) : SCall Tryz.prog 15 [.agg [sls l], .agg [sls l]] σ (Is (.bool true) σ) := by
  refine scall_of Tryz.func15 rfl (by simp) ?_
  refine zX (zZ ?_); refine xBb ?_; intro _; refine xBb ?_; intro _; refine xAs ?_; refine zY ?_; refine zX ?_; refine zX (zZ ?_); refine xFa ?_; refine xLd ?_; refine xLn ?_; refine xFa ?_; refine xLd ?_; refine xLn ?_; refine xBi ?_; intro _ _; refine zY ?_; refine q_c (fun h h_k => ?_) (fun h h_k => ?_) <;> ((try subst h_k); (have hp := h; try simp only [q_n] at hp); (try (exfalso; first | omega | (cases hp; done))));
  refine zR ?_; refine zX ?_; refine zX (zZ ?_); refine xAs ?_; refine zY ?_; refine zK ?_; rotate_left
  (all_goals (repeat (rename BV _ _ => hbv; first | cases hbv | clear hbv)))
  all_goals (try (first | cases ‹true = false› | cases ‹false = true›))
  refine ex_len (t := 7) rfl ((List.length_map _).symm) (fun hlen => ?_)
  rename Nat => b3; revert b3; rename Nat => b2; revert b2
  intro b2 b3
  refine ex_loop (fun (k : Nat) => (⟨[(2, .ptr b2 0), (3, .ptr b3 0), (5, .int .i64 k)], .cells b3 [sls l] 24 :: .cells b2 [sls l] 24 :: σ, [], Tryz.f15.ntmps⟩ : St)) (fun k => k ≤ l.length) (fun k => l.length - k) 0 (Nat.zero_le _) (St.le_of (by repeat (first | exact trivial | refine ⟨rfl, ?_⟩)) (by repeat (first | exact q_r | apply q_q | apply q_k))) ?_
  intro k hI
  by_cases hk : k < l.length
  · obtain ⟨s, hs⟩ : ∃ s, l[k]? = some s := get_some hk
    have hg := sl_get hs
    refine zX ?_; refine zX (zZ ?_); refine xMv ?_; refine xFa ?_; refine xLd ?_; refine xLn ?_; refine xBi ?_; intro _ _; refine zY ?_; refine q_c (fun h h_k => ?_) (fun h h_k => ?_) <;> ((try subst h_k); (have hp := h; try simp only [q_n] at hp); (try (exfalso; first | omega | (cases hp; done))));
    refine zR ?_; refine zX ?_; refine zK ?_; refine zX ?_; refine ex_drawP rfl rfl (by kernel_rfl) rfl ?_; refine ex_drawQ rfl (by kernel_rfl) rfl ?_; refine wFa ?_; refine wLd ?_; refine wMv ?_; refine wIx ?_; refine wLa ?_; refine wFa ?_; refine wLd ?_; refine wMv ?_; refine wIx ?_; refine wLa ?_; refine zF (v := .bool false) rfl rfl rfl (fun σ' hl => g_neqSl (a := s) (b := s) (q := true) rfl rfl rfl (by simp)) ?_; refine wl_nil ?_; show EX _ _ _ _ _; refine ex_cond_f rfl (by rfl) ?_; refine zR ?_; refine zZ ?_; refine xMv ?_; refine xAd ?_; refine xAs ?_; refine zN ?_; simp only [zQ, zV, zU, zW, zG, ↓reduceIte, Nat.reduceEqDiff]; rotate_left
    (all_goals (repeat (rename BV _ _ => hbv; first | cases hbv | clear hbv)))
    all_goals (try (first | cases ‹true = false› | cases ‹false = true›))
    refine ⟨k + 1, hk, by omega, ?_⟩
    exact q_le
  · refine zX ?_; refine zX (zZ ?_); refine xMv ?_; refine xFa ?_; refine xLd ?_; refine xLn ?_; refine xBi ?_; intro _ _; refine zY ?_; refine q_c (fun h h_k => ?_) (fun h h_k => ?_) <;> ((try subst h_k); (have hp := h; try simp only [q_n] at hp); (try (exfalso; first | omega | (cases hp; done))));
    refine ex_exit ?_; refine zX (zZ ?_); refine xAs ?_; refine zY ?_; refine zL ?_; simp only [zQ, zV, zU, zW, zG, ↓reduceIte, Nat.reduceEqDiff]; rotate_left
    (all_goals (repeat (rename BV _ _ => hbv; first | cases hbv | clear hbv)))
    all_goals (try (first | cases ‹true = false› | cases ‹false = true›))
    refine q_ri ?_
    rfl
theorem tnC_get {L : List Tn} {k : Nat} {t : Tn} (h : L[k]? = some t) : (L.map tnC)[k]? = some (tnC t) := by rw [List.getElem?_map, h]; rfl
theorem intC_get {L : List Int} {k : Nat} {x : Int} (h : L[k]? = some x) : (L.map intC)[k]? = some (intC x) := by rw [List.getElem?_map, h]; rfl
set_option maxHeartbeats 4000000 in
theorem sameTurn_c (t : Tn) (σ : List Ent) : SCall Tryz.prog 42 [.agg (tnC t), .agg (tnC t)] σ (Is (.bool true) σ) := by
  refine scall_of Tryz.func42 rfl (by simp) ?_
  refine zX (zZ ?_); refine xBb ?_; intro _; refine xBb ?_; intro _; refine xAs ?_; refine zY ?_; refine zX ?_; refine zX (zZ ?_); refine xFa ?_; refine xLd ?_; refine xFa ?_; refine xLd ?_; refine xBi ?_; intro _ _; refine xMv ?_; refine q_d (fun h h_k => ?_) (fun h h_k => ?_) <;> ((try subst h_k); (have hp := h; try simp only [q_n] at hp); (try (exfalso; first | omega | (cases hp; done))));
  refine yFa ?_; refine yLd ?_; refine yFa ?_; refine yLd ?_; refine yBi ?_; intro _ _; refine xPf ?_; refine xMv ?_; refine q_d (fun h h_k => ?_) (fun h h_k => ?_) <;> ((try subst h_k); (have hp := h; try simp only [q_n] at hp); (try (exfalso; first | omega | (cases hp; done))));
  refine yFa ?_; refine yLd ?_; refine yFa ?_; refine yLd ?_; refine yBi ?_; intro _ _; refine xPf ?_; refine xMv ?_; refine q_d (fun h h_k => ?_) (fun h h_k => ?_) <;> ((try subst h_k); (have hp := h; try simp only [q_n] at hp); (try (exfalso; first | omega | (cases hp; done))));
  refine yFa ?_; refine yLd ?_; apply exl_isW; rfl; (rfl); rfl; rfl; (apply g_len; rfl; rfl; (exact (List.length_map _).symm)); refine yFa ?_; refine yLd ?_; apply exl_isW; rfl; (rfl); rfl; rfl; (apply g_len; rfl; rfl; (exact (List.length_map _).symm)); refine yBi ?_; intro _ _; refine xPf ?_; refine zY ?_; refine q_c (fun h h_k => ?_) (fun h h_k => ?_) <;> ((try subst h_k); (have hp := h; try simp only [q_n] at hp); (try (exfalso; first | omega | (cases hp; done))));
  refine zR ?_; refine zX ?_; refine zX (zZ ?_); refine xAs ?_; refine zY ?_; refine zK ?_; rotate_left
  (all_goals (repeat (rename BV _ _ => hbv; first | cases hbv | clear hbv)))
  all_goals (try (first | cases ‹true = false› | cases ‹false = true›))
  refine ex_len (t := 27) rfl ((List.length_map _).symm) (fun hlen => ?_)
  rename Nat => b3; revert b3; rename Nat => b2; revert b2
  intro b2 b3
  refine ex_loop (fun (k : Nat) => (⟨[(2, .ptr b2 0), (3, .ptr b3 0), (5, .int .i64 k)], .cells b3 (tnC t) 64 :: .cells b2 (tnC t) 64 :: σ, [], Tryz.f42.ntmps⟩ : St)) (fun k => k ≤ t.twice.length) (fun k => t.twice.length - k) 0 (Nat.zero_le _) (St.le_of (by repeat (first | exact trivial | refine ⟨rfl, ?_⟩)) (by repeat (first | exact q_r | apply q_q | apply q_k))) ?_
  intro k hI
  by_cases hk : k < t.twice.length
  · obtain ⟨x, hx⟩ : ∃ x, t.twice[k]? = some x := get_some hk
    have hg := intC_get hx
    refine zX ?_; refine zX (zZ ?_); refine xMv ?_; refine xFa ?_; refine xLd ?_; refine xLn ?_; refine xBi ?_; intro _ _; refine zY ?_; refine q_c (fun h h_k => ?_) (fun h h_k => ?_) <;> ((try subst h_k); (have hp := h; try simp only [q_n] at hp); (try (exfalso; first | omega | (cases hp; done))));
    refine zR ?_; refine zX ?_; refine zK ?_; refine zX ?_; refine ex_drawP rfl rfl (by kernel_rfl) rfl ?_; refine ex_drawQ rfl (by kernel_rfl) rfl ?_; refine wFa ?_; refine wLd ?_; refine wMv ?_; refine wIx ?_; refine wLd ?_; refine wFa ?_; refine wLd ?_; refine wMv ?_; refine wIx ?_; refine wLd ?_; refine wBi ?_; intro _ _; refine wl_nil ?_; show EX _ _ _ _ _; refine q_c (fun h h_k => ?_) (fun h h_k => ?_) <;> ((try subst h_k); (have hp := h; try simp only [q_n] at hp); (try (exfalso; first | omega | (cases hp; done))));
    refine zR ?_; refine zZ ?_; refine xMv ?_; refine xAd ?_; refine xAs ?_; refine zN ?_; simp only [zQ, zV, zU, zW, zG, ↓reduceIte, Nat.reduceEqDiff]; rotate_left
    (all_goals (repeat (rename BV _ _ => hbv; first | cases hbv | clear hbv)))
    all_goals (try (first | cases ‹true = false› | cases ‹false = true›))
    refine ⟨k + 1, hk, by omega, ?_⟩
    exact q_le
  · refine zX ?_; refine zX (zZ ?_); refine xMv ?_; refine xFa ?_; refine xLd ?_; refine xLn ?_; refine xBi ?_; intro _ _; refine zY ?_; refine q_c (fun h h_k => ?_) (fun h h_k => ?_) <;> ((try subst h_k); (have hp := h; try simp only [q_n] at hp); (try (exfalso; first | omega | (cases hp; done))));
    refine ex_exit ?_; refine zX (zZ ?_); refine xAs ?_; refine zY ?_; refine zL ?_; simp only [zQ, zV, zU, zW, zG, ↓reduceIte, Nat.reduceEqDiff]; rotate_left
    (all_goals (repeat (rename BV _ _ => hbv; first | cases hbv | clear hbv)))
    all_goals (try (first | cases ‹true = false› | cases ‹false = true›))
    refine q_ri ?_
    rfl
set_option maxHeartbeats 4000000 in
theorem sameTurns_c (L : List Tn) (σ : List Ent) : SCall Tryz.prog 16 [.dl 4 (L.map tnC), .dl 4 (L.map tnC)] σ (Is (.bool true) σ) := by
  refine scall_of Tryz.func16 rfl (by simp) ?_
  refine zX (zZ ?_); refine xAs ?_; refine zY ?_; refine zX ?_; refine zX (zZ ?_); refine xMv ?_; refine xLn ?_; refine xMv ?_; refine xLn ?_; refine xBi ?_; intro _ _; refine zY ?_; refine q_c (fun h h_k => ?_) (fun h h_k => ?_) <;> ((try subst h_k); (have hp := h; try simp only [q_n] at hp); (try (exfalso; first | omega | (cases hp; done))));
  refine zR ?_; refine zX ?_; refine zX (zZ ?_); refine xAs ?_; refine zY ?_; refine zK ?_; rotate_left
  (all_goals (repeat (rename BV _ _ => hbv; first | cases hbv | clear hbv)))
  all_goals (try (first | cases ‹true = false› | cases ‹false = true›))
  refine ex_len (t := 6) rfl ((List.length_map _).symm) (fun hlen => ?_)
  refine ex_loop (fun (k : Nat) => (⟨[(0, .dl 4 (L.map tnC)), (1, .dl 4 (L.map tnC)), (5, .int .i64 k)], σ, [], Tryz.f16.ntmps⟩ : St)) (fun k => k ≤ L.length) (fun k => L.length - k) 0 (Nat.zero_le _) (St.le_of (by repeat (first | exact trivial | refine ⟨rfl, ?_⟩)) (by repeat (first | exact q_r | apply q_q | apply q_k))) ?_
  intro k hI
  by_cases hk : k < L.length
  · obtain ⟨x, hx⟩ : ∃ x, L[k]? = some x := get_some hk
    have hg := tnC_get hx
    refine zX ?_; refine zX (zZ ?_); refine xMv ?_; refine xMv ?_; refine xLn ?_; refine xBi ?_; intro _ _; refine zY ?_; refine q_c (fun h h_k => ?_) (fun h h_k => ?_) <;> ((try subst h_k); (have hp := h; try simp only [q_n] at hp); (try (exfalso; first | omega | (cases hp; done))));
    refine zR ?_; refine zX ?_; refine zK ?_; refine zX ?_; rotate_left
    (all_goals (repeat (rename BV _ _ => hbv; first | cases hbv | clear hbv)))
    all_goals (try (first | cases ‹true = false› | cases ‹false = true›))
    refine ex_drawLK anyK 10 [] rfl (by kernel_rfl) rfl ?_
    simp only [List.take_succ_cons, List.take_zero, List.drop_succ_cons, List.drop_zero]
    refine wMv ?_; refine wMv ?_; refine wIx ?_; refine wLa ?_; refine wMv ?_; refine wMv ?_; refine wIx ?_; refine wLa ?_; apply wl_isB; rfl; rfl; rfl; (intro σ' hl; (refine zJ rfl rfl (zT (by kernel_rfl)) ?_; exact sameTurn_c _ _)); intro _ _; apply wl_isB; rfl; rfl; rfl; (intro σ' hl; (apply g_not; rfl)); intro _ _; refine wl_nil ?_; refine zY ?_; refine q_c (fun h h_k => ?_) (fun h h_k => ?_) <;> ((try subst h_k); (have hp := h; try simp only [q_n] at hp); (try (exfalso; first | omega | (cases hp; done))));
    refine zX (zZ ?_); refine xAs ?_; refine zY ?_; refine zL ?_; simp only [zQ, zV, zU, zW, zG, ↓reduceIte, Nat.reduceEqDiff]; rotate_left; refine zR ?_; refine zZ ?_; refine xMv ?_; refine xAd ?_; refine xAs ?_; refine zN ?_; simp only [zQ, zV, zU, zW, zG, ↓reduceIte, Nat.reduceEqDiff]; rotate_left
    (all_goals (repeat (rename BV _ _ => hbv; first | cases hbv | clear hbv)))
    all_goals (try (first | cases ‹true = false› | cases ‹false = true›))
    refine ⟨k + 1, hk, by omega, ?_⟩
    exact q_le
  · refine zX ?_; refine zX (zZ ?_); refine xMv ?_; refine xMv ?_; refine xLn ?_; refine xBi ?_; intro _ _; refine zY ?_; refine q_c (fun h h_k => ?_) (fun h h_k => ?_) <;> ((try subst h_k); (have hp := h; try simp only [q_n] at hp); (try (exfalso; first | omega | (cases hp; done))));
    refine ex_exit ?_; refine zX (zZ ?_); refine xAs ?_; refine zY ?_; refine zL ?_; simp only [zQ, zV, zU, zW, zG, ↓reduceIte, Nat.reduceEqDiff]; rotate_left
    (all_goals (repeat (rename BV _ _ => hbv; first | cases hbv | clear hbv)))
    all_goals (try (first | cases ‹true = false› | cases ‹false = true›))
    refine q_ri ?_
    rfl
theorem given_c (tab turn farm hour : Int) (σ : List Ent) : SCall Tryz.prog 28 [.int .i64 tab, .int .i64 turn, .int .i64 farm, .int .i64 hour] σ (Is (slV ⟨tab, 0, 1, turn, farm, hour, 5, 0⟩) σ) := by
  refine scall_of Tryz.func28 rfl (by simp) ?_
  refine zX (zZ ?_); refine xBa ?_; intro _; refine zY ?_; refine zX (zZ ?_); refine xMv ?_; refine xMv ?_; refine xMv ?_; refine xMv ?_; apply zP; rfl; rfl; rfl; (apply g_build; rfl; rfl; rfl; rfl); refine xSt ?_; refine zY ?_; refine zL ?_; simp only [zQ, zV, zU, zW, zG, ↓reduceIte, Nat.reduceEqDiff]; rotate_left
  (all_goals (repeat (rename BV _ _ => hbv; first | cases hbv | clear hbv)))
  all_goals (try (first | cases ‹true = false› | cases ‹false = true›))
  refine q_ri ?_
  rfl
end Go.Proofs.YtkhoengjdfmfaaaGreat
namespace Go.Proofs.YtkhoengjdfmfaaaGreat
abbrev qP (q : Qk) : Pk := ⟨q.f, q.t, msgS q.s⟩
abbrev qPs (Q : List Qk) : List Pk := Q.map qP
theorem RtQ.rt {B : List (List Sl)} {Q : List Qk} (h : RtQ B Q) : Rt B (qPs Q) :=
  ⟨h.n1, h.n8, h.ck, h.tab, fun p hp => by
    obtain ⟨q, hq, rfl⟩ := List.mem_map.1 hp
    obtain ⟨h1, h2, h3, h4, h5, h6, h7⟩ := h.net q hq
    exact ⟨h1, h2, h3, h4, h5, q.s, rfl, h6, h7⟩, by rw [List.length_map]; exact h.few⟩
def doV : Except Int (List (List Sl) × List Qk) → AV
  | .error e => .tup [rnd0, .int .i64 e]
  | .ok x => .tup [.agg (stC x.1 (qPs x.2)), .int .i64 0]
theorem qPs_erase (Q : List Qk) (k : Nat) : (qPs Q).eraseIdx k = qPs (Q.eraseIdx k) := by
  show (Q.map qP).eraseIdx k = (Q.eraseIdx k).map qP
  rw [List.eraseIdx_eq_take_drop_succ, List.eraseIdx_eq_take_drop_succ, List.map_append, List.map_take, List.map_drop]
theorem scall_or {P : Program} {f : FuncId} {args : List AV} {σ : List Ent} {R R' : AV → List Ent → Prop} (h : SCall P f args σ R) (hr : ∀ v τ, R v τ → R' v τ) : SCall P f args σ R' :=
  ⟨fun X M w vs hg ha => (h.run X M w vs hg ha).mono fun e w' ⟨M', σ', r, v, h1, h2, h3, h4, h5⟩ => ⟨M', σ', r, v, h1, h2, h3, h4, hr _ _ h5⟩⟩
theorem do_write (B : List (List Sl)) (Q : List Qk) (r : Ps) (hR : RtQ B Q) (hk : r.k = 1) (σ : List Ent) :
    SCall Tryz.prog 20 [.agg (stC B (qPs Q)), psV r] σ (Is (doV (doS B Q r)) σ) := by
  have hz : passM r.k = some (.fn (.func 48) [] []) := by rw [hk]; rfl
  unfold doS
  rw [if_pos hk]
  by_cases hc : 0 ≤ r.a ∧ r.a < B.length ∧ r.s.tab = r.a
  · rw [if_pos hc]
    obtain ⟨k, hkk⟩ : ∃ k : Nat, r.a = k := ⟨r.a.toNat, by omega⟩
    have hkB : k < B.length := by omega
    obtain ⟨l, hl⟩ : ∃ l, B[k]? = some l := get_some hkB
    have hgd : B.getD r.a.toNat [] = l := by rw [show r.a.toNat = k by omega, List.getD_eq_getElem?_getD, hl]; rfl
    rw [hgd, show r.a.toNat = k by omega]
    by_cases he : (writeS l r.s).2 = 0
    · rw [if_pos he]
      refine do_ok B _ r hR.rt _ (zT (by kernel_rfl)) hz _ _ (fun b σ => ?_) σ
      have h0 := pwrite_ok b k B (qPs Q) r hR.n8 hkB hkk hc.2.2 l hl 0 he σ
      rwa [if_pos rfl] at h0
    · rw [if_neg he]
      refine do_err B _ r hR.rt _ (zT (by kernel_rfl)) hz (bks B) (pks (qPs Q)) (.dl 2 []) _ he (fun b σ => ?_) σ
      have h0 := pwrite_ok b k B (qPs Q) r hR.n8 hkB hkk hc.2.2 l hl _ rfl σ
      rw [if_neg he] at h0
      exact h0
  · rw [if_neg hc]
    exact do_err B _ r hR.rt _ (zT (by kernel_rfl)) hz _ _ _ _ (by omega) (fun b σ => pwrite_bad b B _ r hR.n8 hc σ) σ
theorem do_tell (B : List (List Sl)) (Q : List Qk) (r : Ps) (hR : RtQ B Q) (hk : r.k = 2) (σ : List Ent) :
    SCall Tryz.prog 20 [.agg (stC B (qPs Q)), psV r] σ (Is (doV (doS B Q r)) σ) := by
  have hz : passM r.k = some (.fn (.func 49) [] []) := by rw [hk]; rfl
  unfold doS
  rw [if_neg (by omega), if_pos hk]
  have hfew : (qPs Q).length ≤ 4096 := hR.rt.few
  have hQl : (qPs Q).length = Q.length := List.length_map ..
  by_cases hc : 0 ≤ r.a ∧ r.a < B.length ∧ 0 ≤ r.t ∧ r.t < B.length ∧ r.a ≠ r.t
  · rw [if_pos hc]
    obtain ⟨k, hkk⟩ : ∃ k : Nat, r.a = k := ⟨r.a.toNat, by omega⟩
    have hkB : k < B.length := by omega
    obtain ⟨l, hl⟩ : ∃ l, B[k]? = some l := get_some hkB
    have hlm := List.mem_of_getElem? hl
    have hck := hR.ck l hlm
    have hgd : B.getD r.a.toNat [] = l := by rw [show r.a.toNat = k by omega, List.getD_eq_getElem?_getD, hl]; rfl
    rw [hgd]
    have hln : l.length ≤ 512 := by have := (check_zero.1 hck).1; omega
    have hsd : ∀ s ∈ l, Sendable s := fun s hs => sendable_book hck hs
    by_cases he : Q.length + l.length ≤ 4096
    · rw [if_pos he]
      have hmp : qPs (Q ++ l.map fun s => ⟨r.a, r.t, s⟩) = qPs Q ++ l.map (sentP r) := by
        show (Q ++ l.map fun s => (⟨r.a, r.t, s⟩ : Qk)).map qP = Q.map qP ++ l.map (sentP r)
        rw [List.map_append, List.map_map]; rfl
      show SCall _ _ _ _ (Is (.tup [.agg (stC B (qPs (Q ++ l.map fun s => ⟨r.a, r.t, s⟩))), .int .i64 0]) σ)
      rw [hmp]
      refine do_ok B _ r hR.rt _ (zT (by kernel_rfl)) hz _ _ (fun b σ => ?_) σ
      refine scall_or (ptell_ok b k B (qPs Q) r hR.rt.okP hfew hR.n8 hc hkk l hl hsd hln σ) ?_
      rintro v τ (⟨_, rfl, rfl⟩ | ⟨h, _⟩)
      · exact .mk
      · omega
    · rw [if_neg he]
      refine do_err B _ r hR.rt _ (zT (by kernel_rfl)) hz (bks B) (.slv nilS) (.slv nilS) 2 (by omega) (fun b σ => ?_) σ
      refine scall_or (ptell_ok b k B (qPs Q) r hR.rt.okP hfew hR.n8 hc hkk l hl hsd hln σ) ?_
      rintro v τ (⟨h, _⟩ | ⟨_, rfl, rfl⟩)
      · omega
      · exact .mk
  · rw [if_neg hc]
    exact do_err B _ r hR.rt _ (zT (by kernel_rfl)) hz _ _ _ _ (by omega) (fun b σ => ptell_bad b B _ r hR.n8 hc σ) σ
theorem do_net (B : List (List Sl)) (Q : List Qk) (r : Ps) (hR : RtQ B Q) (hk : r.k = 3 ∨ r.k = 4 ∨ r.k = 5) (σ : List Ent) :
    SCall Tryz.prog 20 [.agg (stC B (qPs Q)), psV r] σ (Is (doV (doS B Q r)) σ) := by
  unfold doS
  rw [if_neg (by omega), if_neg (by omega), if_pos hk]
  have hfew : (qPs Q).length ≤ 4096 := hR.rt.few
  have hQl : (qPs Q).length = Q.length := List.length_map ..
  have hok := hR.rt.okP
  by_cases hi : r.i < 0 ∨ (Q.length : Int) ≤ r.i
  · rw [if_pos hi]
    have hi' : r.i < 0 ∨ ((qPs Q).length : Int) ≤ r.i := by omega
    rcases hk with hk | hk | hk
    · exact do_err B _ r hR.rt _ (zT (by kernel_rfl)) (by rw [hk]; rfl) _ _ _ _ (by omega) (fun b σ => pdeliver_out b B _ r hok hfew hi' σ) σ
    · exact do_err B _ r hR.rt _ (zT (by kernel_rfl)) (by rw [hk]; rfl) _ _ _ _ (by omega) (fun b σ => plose_out b B _ r hok hfew hi' σ) σ
    · exact do_err B _ r hR.rt _ (zT (by kernel_rfl)) (by rw [hk]; rfl) _ _ _ _ (by omega) (fun b σ => prepeat_out b B _ r hok hfew hi' σ) σ
  · rw [if_neg hi]
    obtain ⟨k, hkk⟩ : ∃ k : Nat, r.i = k := ⟨r.i.toNat, by omega⟩
    have hkt : r.i.toNat = k := by omega
    obtain ⟨q, hq⟩ : ∃ q, Q[k]? = some q := get_some (by omega)
    rw [hkt, hq]
    have hqP : (qPs Q)[k]? = some (qP q) := by rw [List.getElem?_map, hq]; rfl
    obtain ⟨h1, h2, h3, h4, h5, h6, h7⟩ := hR.net q (List.mem_of_getElem? hq)
    dsimp only
    rcases hk with hk | hk | hk
    · rw [if_pos hk]
      obtain ⟨t, htt⟩ : ∃ t : Nat, q.t = t := ⟨q.t.toNat, by omega⟩
      have htB : t < B.length := by omega
      obtain ⟨l, hl⟩ : ∃ l, B[t]? = some l := get_some htB
      have hgd : B.getD q.t.toNat [] = l := by rw [show q.t.toNat = t by omega, List.getD_eq_getElem?_getD, hl]; rfl
      rw [hgd, show q.t.toNat = t by omega]
      have hck := hR.ck l (List.mem_of_getElem? hl)
      have hln : l.length ≤ 512 := by have := (check_zero.1 hck).1; omega
      show SCall _ _ _ _ (Is (.tup [.agg (stC (B.set t (heardS l q.s)) (qPs (Q.eraseIdx k))), .int .i64 0]) σ)
      rw [← qPs_erase]
      exact do_ok B _ r hR.rt _ (zT (by kernel_rfl)) (by rw [hk]; rfl) _ _ (fun b σ => pdeliver_in b B _ r hok hfew hR.n8 k t _ hqP hkk q.s h6 rfl htt l hl hln σ) σ
    · rw [if_neg (by omega), if_pos hk]
      show SCall _ _ _ _ (Is (.tup [.agg (stC B (qPs (Q.eraseIdx k))), .int .i64 0]) σ)
      rw [← qPs_erase]
      exact do_ok B _ r hR.rt _ (zT (by kernel_rfl)) (by rw [hk]; rfl) _ _ (fun b σ => plose_in b B _ r hok hfew k _ hqP hkk σ) σ
    · rw [if_neg (by omega), if_neg (by omega)]
      by_cases he : Q.length = 4096
      · rw [if_pos he]
        exact do_err B _ r hR.rt _ (zT (by kernel_rfl)) (by rw [hk]; rfl) _ _ _ _ (by omega) (fun b σ => prepeat_full b B _ r hok hfew k _ hqP hkk (by omega) σ) σ
      · rw [if_neg he]
        show SCall _ _ _ _ (Is (.tup [.agg (stC B (qPs (Q ++ [q]))), .int .i64 0]) σ)
        rw [show qPs (Q ++ [q]) = qPs Q ++ [qP q] from List.map_append ..]
        exact do_ok B _ r hR.rt _ (zT (by kernel_rfl)) (by rw [hk]; rfl) _ _ (fun b σ => prepeat_in b B _ r hok hfew k _ hqP hkk (by omega) σ) σ
theorem do_c (B : List (List Sl)) (Q : List Qk) (r : Ps) (hR : RtQ B Q) (σ : List Ent) :
    SCall Tryz.prog 20 [.agg (stC B (qPs Q)), psV r] σ (Is (doV (doS B Q r)) σ) := by
  by_cases h1 : r.k = 1
  · exact do_write B Q r hR h1 σ
  by_cases h2 : r.k = 2
  · exact do_tell B Q r hR h2 σ
  by_cases h3 : r.k = 3 ∨ r.k = 4 ∨ r.k = 5
  · exact do_net B Q r hR h3 σ
  unfold doS
  rw [if_neg h1, if_neg h2, if_neg h3]
  exact do_none B _ r hR.rt (by omega) σ
end Go.Proofs.YtkhoengjdfmfaaaGreat
namespace Go.Proofs.YtkhoengjdfmfaaaGreat
def bkA : List Sl := [⟨0, 0, 1, 7, 1, 4, 5, 0⟩]
def bkB : List Sl := [⟨1, 0, 1, 7, 2, 3, 5, 0⟩]
def bkL : List Sl := [⟨0, 0, 1, 7, 1, 4, 5, 0⟩, ⟨1, 0, 1, 7, 2, 3, 5, 0⟩]
def bkV : List Sl := [⟨0, 0, 1, 7, 1, 4, 5, 0⟩, ⟨1, 0, 1, 7, 2, 3, 5, 0⟩, ⟨1, 1, 3, 0, 0, 0, 0, 1⟩]
theorem ex1 : writeS [] ⟨0, 0, 1, 7, 1, 4, 5, 0⟩ = (bkA, 0) ∧ writeS [] ⟨1, 0, 1, 7, 2, 3, 5, 0⟩ = (bkB, 0) ∧ writeS [] ⟨0, 0, 3, 0, 0, 0, 0, 0⟩ = ([], 540) := by decide +kernel
theorem ex2 : mergeR bkA bkB = some bkL := by
  unfold bkA bkB bkL
  rw [mergeR, if_pos (by decide), mergeR]; rfl
theorem ex3 : checkS bkA = 0 ∧ checkS bkB = 0 ∧ checkS bkL = 0 := by decide +kernel
theorem ex4 : mergeS bkA bkB = (bkL, 0) := by
  unfold mergeS
  rw [ex2, if_neg (by rw [ex3.1]; simp), if_neg (by rw [ex3.2.1]; simp)]; rfl
theorem ex5 : mergeS bkL bkL = (bkL, 0) := mergeS_self ex3.2.2
theorem ex6 : turnsS bkL = ([⟨7, 2, 2, [0]⟩], 0) := by decide +kernel
theorem ex7 : writeS bkL ⟨1, 0, 3, 0, 0, 0, 0, 1⟩ = (bkV, 0) := by decide +kernel
theorem ex8 : turnsS bkV = ([⟨7, 1, 1, []⟩], 0) := by decide +kernel
def rdS : List Ps := [⟨1, 0, 0, 0, ⟨0, 0, 1, 7, 1, 4, 5, 0⟩⟩, ⟨1, 0, 0, 0, ⟨0, 0, 1, 8, 1, 4, 5, 0⟩⟩, ⟨2, 0, 1, 0, ⟨0, 0, 0, 0, 0, 0, 0, 0⟩⟩, ⟨3, 0, 0, 1, ⟨0, 0, 0, 0, 0, 0, 0, 0⟩⟩, ⟨3, 0, 0, 0, ⟨0, 0, 0, 0, 0, 0, 0, 0⟩⟩]
abbrev sA : Sl := ⟨0, 0, 1, 7, 1, 4, 5, 0⟩
abbrev sB : Sl := ⟨0, 1, 1, 8, 1, 4, 5, 0⟩
def rdB : List (List (List Sl)) := [[[], []], [[sA], []], [[sA, sB], []], [[sA, sB], []], [[sA, sB], []], [[sA, sB], [sA]]]
def rdQ : List (List Qk) := [[], [], [], [⟨0, 1, sA⟩, ⟨0, 1, sB⟩], [⟨0, 1, sA⟩], []]
def isOk (r : Except Int (List (List Sl) × List Qk)) (B : List (List Sl)) (Q : List Qk) : Bool := match r with
  | .ok (B', Q') => decide (B' = B) && decide (Q' = Q)
  | .error _ => false
theorem ok_is {r : Except Int (List (List Sl) × List Qk)} {B : List (List Sl)} {Q : List Qk} (h : isOk r B Q = true) : r = .ok (B, Q) := by
  unfold isOk at h
  split at h
  · rw [Bool.and_eq_true, decide_eq_true_eq, decide_eq_true_eq] at h; rw [h.1, h.2]
  · cases h
theorem ex9a : ∀ k < 5, isOk (doS (rdB.getD k []) (rdQ.getD k []) (rdS.getD k ⟨0, 0, 0, 0, sA⟩)) (rdB.getD (k + 1) []) (rdQ.getD (k + 1) []) = true := by decide +kernel
theorem ex9 (k : Nat) (hk : k < 5) : doS (rdB.getD k []) (rdQ.getD k []) (rdS.getD k ⟨0, 0, 0, 0, sA⟩) = .ok (rdB.getD (k + 1) [], rdQ.getD (k + 1) []) := ok_is (ex9a k hk)
theorem ex10 : ∀ k, k ≤ 5 → RtQ (rdB.getD k []) (rdQ.getD k []) := by
  have key : ∀ k, k ≤ 5 → ∃ W, Hist (rdB.getD k []) (rdQ.getD k []) W := by
    intro k
    induction k with
    | zero => intro _; exact ⟨_, hist_new (n := 2) (by decide) (by decide)⟩
    | succ k ih =>
      intro hk
      obtain ⟨W, hW⟩ := ih (by omega)
      exact ⟨_, (hist_do hW (ex9 k (by omega))).1⟩
  intro k hk
  obtain ⟨W, hW⟩ := key k hk
  exact hW.rt
theorem ex11 : doS (rdB.getD 0 []) (rdQ.getD 0 []) ⟨0, 0, 0, 0, ⟨0, 0, 0, 0, 0, 0, 0, 0⟩⟩ = .error 1 := rfl
end Go.Proofs.YtkhoengjdfmfaaaGreat
namespace Go.Proofs.YtkhoengjdfmfaaaGreat
section
variable {P : Program} {ro : Option Nat} {env : Env} {σ : List Ent} {dst : Option Tmp} {ty : TypeId} {pos : String} {after : Array Edge} {guard : Option (Nat × Bool)}
end
end Go.Proofs.YtkhoengjdfmfaaaGreat
namespace Go.Proofs.YtkhoengjdfmfaaaGreat
set_option maxHeartbeats 2000000 in
theorem right_none (σ : List Ent) : SCall Tryz.prog 47 [rnd0] σ (Is (.bool false) σ) := by
  refine scall_of Tryz.func47 rfl (by simp) ?_
  have hi := fun σ => in_c 0 1 8 σ
  rw [show inB 0 1 8 = false by rfl] at hi
  refine zX (zZ ?_); refine xBb ?_; intro _; refine xAs ?_; refine zY ?_; refine zX (zZ ?_); refine xFa ?_; refine xLd ?_; apply zP; rfl; rfl; rfl; (apply g_len; rfl; rfl; (exact .inr ⟨rfl, rfl⟩)); refine xBa ?_; intro _; refine xSt ?_; refine zY ?_; refine zX ?_; refine zX (zZ ?_); refine xLd ?_; apply exl_isB; rfl; rfl; rfl; (refine zJ rfl rfl (zT (by kernel_rfl)) ?_; exact hi _); intro _ _; refine xNo ?_; intro _ _; refine xMv ?_; refine q_d (fun h h_k => ?_) (fun h h_k => ?_) <;> ((try subst h_k); (have hp := h; try simp only [q_n] at hp); (try (exfalso; first | omega | (cases hp; done))));
  refine xSk ?_; refine xSk ?_; refine xSk ?_; refine xSk ?_; refine xPt ?_; refine zY ?_; refine ex_cond_t rfl (by rfl) ?_; refine zX (zZ ?_); refine xAs ?_; refine zY ?_; refine zL ?_; simp only [zQ, zV, zU, zW, zG, ↓reduceIte, Nat.reduceEqDiff]; rotate_left; refine yFa ?_; refine yLa ?_; rotate_left
  (all_goals (repeat (rename BV _ _ => hbv; first | cases hbv | clear hbv)))
  all_goals (try (first | cases ‹true = false› | cases ‹false = true›))
  refine q_ri ?_
  rfl
set_option maxHeartbeats 4000000 in
theorem do_empty (r : Ps) (σ : List Ent) : SCall Tryz.prog 20 [rnd0, psV r] σ (Is (.tup [rnd0, .int .i64 540]) σ) := by
  refine scall_of Tryz.func20 rfl (by simp) ?_
  refine zX (zZ ?_); refine xBb ?_; intro _; refine xBb ?_; intro _; refine xBa ?_; intro _; refine xAs ?_; refine zY ?_; refine zX ?_; refine zX (zZ ?_); refine xLa ?_; apply exl_isB; rfl; rfl; rfl; (refine zJ rfl rfl (zT (by kernel_rfl)) ?_; exact right_none _); intro _ _; refine xNo ?_; intro _ _; refine zY ?_; refine q_c (fun h h_k => ?_) (fun h h_k => ?_) <;> ((try subst h_k); (have hp := h; try simp only [q_n] at hp); (try (exfalso; first | omega | (cases hp; done))));
  refine zX (zZ ?_); refine xLa ?_; refine xSt ?_; refine xAs ?_; refine zY ?_; refine zL ?_; simp only [zQ, zV, zU, zW, zG, ↓reduceIte, Nat.reduceEqDiff]; rotate_left; refine zR ?_; refine zX (zZ ?_); refine exl_map rfl rfl rfl (by exact g_makeMap) ?_; intro _; rotate_left
  (all_goals (repeat (rename BV _ _ => hbv; first | cases hbv | clear hbv)))
  all_goals (try (first | cases ‹true = false› | cases ‹false = true›))
  refine q_rq (σ3 := σ) ?_
  exact fin_done .mk
def fewB (l : List Sl) : Bool := decide ((l.length : Int) ≤ 60) || (decide ((512 : Int) < l.length) && decide ((l.length : Int) ≤ 1000))
set_option maxHeartbeats 2000000 in
theorem few_c (l : List Sl) (σ : List Ent) : SCall Tryz.prog 10 [.agg [sls l]] σ (Is (.bool (fewB l)) σ) := by
  refine scall_of Tryz.func10 rfl (by simp) ?_
  unfold fewB
  refine zX (zZ ?_); refine xBb ?_; intro _; refine xAs ?_; refine zY ?_; refine zX (zZ ?_); refine xFa ?_; refine xLd ?_; refine xLn ?_; refine xBi ?_; intro _ _; refine xMv ?_; refine q_d (fun h h_k => ?_) (fun h h_k => ?_) <;> ((try subst h_k); (have hp := h; try simp only [q_n] at hp); (try (exfalso; first | omega | (cases hp; done))));
  refine xSk ?_; refine xSk ?_; refine xSk ?_; refine xSk ?_; refine xSk ?_; refine xSr ?_; refine xSr ?_; refine xSr ?_; refine xSr ?_; refine xSk ?_; refine xPt ?_; refine xAs ?_; refine zY ?_; refine zL ?_; simp only [zQ, zV, zU, zW, zG, ↓reduceIte, Nat.reduceEqDiff]; rotate_left; refine yFa ?_; refine yLd ?_; apply exl_isW; rfl; (rfl); rfl; rfl; (apply g_len; rfl; rfl; (exact (List.length_map _).symm)); refine yBi ?_; intro _ _; refine yMv ?_; refine q_d (fun h h_k => ?_) (fun h h_k => ?_) <;> ((try subst h_k); (have hp := h; try simp only [q_n] at hp); (try (exfalso; first | omega | (cases hp; done))));
  refine yFa ?_; refine yLd ?_; apply exl_isW; rfl; (rfl); rfl; rfl; (apply g_len; rfl; rfl; (exact (List.length_map _).symm)); refine yBi ?_; intro _ _; apply exl_isW; rfl; (rfl); rfl; rfl; (apply g_pick_t; rfl; (rfl); rfl); refine xPf ?_; refine xAs ?_; refine zY ?_; refine zL ?_; simp only [zQ, zV, zU, zW, zG, ↓reduceIte, Nat.reduceEqDiff]; rotate_left; refine xSk ?_; refine xSk ?_; refine xSk ?_; refine xSk ?_; apply exl_isW; rfl; (rfl); rfl; rfl; (apply g_pick_f; rfl; (rfl); rfl); refine xPf ?_; refine xAs ?_; refine zY ?_; refine zL ?_; simp only [zQ, zV, zU, zW, zG, ↓reduceIte, Nat.reduceEqDiff]; rotate_left
  (all_goals (repeat (rename BV _ _ => hbv; first | cases hbv | clear hbv)))
  all_goals (try (first | cases ‹true = false› | cases ‹false = true›))
  all_goals
    refine q_ri (bool_eq ?_)
    simp [*]
theorem bk_view {M : Mem} {vs : List Value} : VRels M [.agg [.slv nilS]] vs → VRels M [.agg [sls []]] vs := fun h => by
  simp only [VRels, VRel, List.map_nil] at h ⊢
  obtain ⟨v, r, rfl, ⟨ws, rfl, w, q, h2, ⟨rfl, h3⟩, h4⟩, h5⟩ := h
  exact ⟨_, _, rfl, ⟨_, rfl, _, _, h2, ⟨none, 0, rfl, by simp, by omega, by simp, by simp⟩, h4⟩, h5⟩
theorem write_e (s : Sl) (σ : List Ent) : SCall Tryz.prog 26 [.agg [.slv nilS], slV s] σ (Is (.tup [.agg [sls (writeS [] s).1], .int .i64 (writeS [] s).2]) σ) :=
  scall_view (fun M vs h => by
    simp only [VRels] at h ⊢
    obtain ⟨v, r, rfl, h1, h2⟩ := h
    have := bk_view (M := M) (vs := [v]) (by simp only [VRels]; exact ⟨v, [], rfl, h1, rfl⟩)
    simp only [VRels, List.cons.injEq] at this
    obtain ⟨_, _, ⟨rfl, _⟩, h3, _⟩ := this
    exact ⟨_, _, rfl, h3, h2⟩) (write_c [] s σ)
theorem scall_or' {P : Program} {f : FuncId} {args : List AV} {σ : List Ent} {v : AV} (h : SCall P f args σ (fun r τ => r = v ∧ τ = σ)) : SCall P f args σ (Is v σ) :=
  scall_or h fun _ _ ⟨h1, h2⟩ => by subst h1 h2; exact .mk
theorem same_v (σ : List Ent) : SCall Tryz.prog 16 [.dl 4 ([(⟨7, 1, 1, []⟩ : Tn)].map tnC), .dl 4 [[.int .i64 7, .int .i64 1, .int .i64 1, .slv nilS]]] σ (Is (.bool true) σ) :=
  scall_view (fun M vs h => by
    simp only [VRels] at h ⊢
    obtain ⟨v, r, rfl, h1, u, q, rfl, h2, h3⟩ := h
    refine ⟨_, _, rfl, h1, _, _, rfl, ?_, h3⟩
    refine VRel.dl_view (l := [[.int .i64 7, .int .i64 1, .int .i64 1, .slv nilS]]) (l' := [(⟨7, 1, 1, []⟩ : Tn)].map tnC) rfl (fun x hx => by simp at hx; subst hx; rfl) (fun k x x' b i hx hx' hc => ?_) h2
    cases k with
    | zero =>
      simp at hx hx'; subst hx hx'
      exact hc.view fun vs hvs => (Cv.same (.same (.same (.here .nil))) : Cv nilS (.dl 1 []) [.int .i64 7, .int .i64 1, .int .i64 1, .slv nilS] [.int .i64 7, .int .i64 1, .int .i64 1, .dl 1 []]).rel (nil_rel M 1) hvs
    | succ k => simp at hx) (sameTurns_c [⟨7, 1, 1, []⟩] σ)
abbrev zS : Sl := ⟨0, 0, 0, 0, 0, 0, 0, 0⟩
theorem st_rd (k : Nat) (hk : k < 5) (σ : List Ent) : SCall Tryz.prog 20 [.agg (stC (rdB.getD k []) (qPs (rdQ.getD k []))), psV (rdS.getD k ⟨0, 0, 0, 0, sA⟩)] σ (Is (.tup [.agg (stC (rdB.getD (k + 1) []) (qPs (rdQ.getD (k + 1) []))), .int .i64 0]) σ) := by
  have := do_c _ _ (rdS.getD k ⟨0, 0, 0, 0, sA⟩) (ex10 k (by omega)) σ
  rwa [ex9 k hk] at this
set_option maxHeartbeats 8000000 in
theorem sane_c (σ : List Ent) : SCall Tryz.prog 9 [] σ (Is (.bool true) σ) := by
  refine scall_of Tryz.func9 rfl (by simp) ?_
  have g1 := given_c 0 7 1 4
  have g2 := given_c 1 7 2 3
  have w1 := write_e ⟨0, 0, 1, 7, 1, 4, 5, 0⟩
  have w2 := write_e ⟨1, 0, 1, 7, 2, 3, 5, 0⟩
  have w3 := write_e ⟨0, 0, 3, 0, 0, 0, 0, 0⟩
  have m1 := merge_c bkA bkB
  have m2 := merge_c bkL bkL
  have t1 := fun σ => scall_or' (turns_c bkL σ)
  have w4 := write_c bkL ⟨1, 0, 3, 0, 0, 0, 0, 1⟩
  have t2 := fun σ => scall_or' (turns_c bkV σ)
  have k1 := check_c bkL
  have s1 := same_c bkL
  rw [ex1.1] at w1
  rw [ex1.2.1] at w2
  rw [ex1.2.2] at w3
  rw [ex4] at m1
  rw [ex5] at m2
  rw [ex6] at t1
  rw [ex7] at w4
  rw [ex8] at t2
  rw [ex3.2.2] at k1
  dsimp only at w1 w2 w3 w4 m1 m2 t1 t2
  obtain ⟨A, hA⟩ : ∃ A, sls bkA = .dl 8 A := ⟨_, rfl⟩
  obtain ⟨B, hB⟩ : ∃ B, sls bkB = .dl 8 B := ⟨_, rfl⟩
  obtain ⟨L, hL, hLl⟩ : ∃ L, sls bkL = .dl 8 L ∧ L.length = 2 := ⟨_, rfl, rfl⟩
  obtain ⟨V, hV⟩ : ∃ V, sls bkV = .dl 8 V := ⟨_, rfl⟩
  rw [hA] at w1 m1
  rw [hB] at w2 m1
  rw [hL] at m1 m2 t1 w4 k1 s1
  rw [hV] at w4 t2
  clear hA hB hL hV
  refine zX (zZ ?_); refine xAs ?_; refine zY ?_; refine zX (zZ ?_); apply zP; rfl; rfl; rfl; (apply g_build; rfl; rfl; rfl; rfl); apply zP; rfl; rfl; rfl; (refine zJ rfl rfl (zT (by kernel_rfl)) ?_; exact g1 _); apply zP; rfl; rfl; rfl; (refine zJ rfl rfl (zT (by kernel_rfl)) ?_; exact w1 _); refine xMv ?_; refine xEx ?_; refine xEx ?_; refine xBa ?_; intro _; refine xSt ?_; refine xAs ?_; refine zY ?_; refine zX (zZ ?_); apply zP; rfl; rfl; rfl; (apply g_build; rfl; rfl; rfl; rfl); apply zP; rfl; rfl; rfl; (refine zJ rfl rfl (zT (by kernel_rfl)) ?_; exact g2 _); apply zP; rfl; rfl; rfl; (refine zJ rfl rfl (zT (by kernel_rfl)) ?_; exact w2 _); refine xMv ?_; refine xEx ?_; refine xEx ?_; refine xBa ?_; intro _; refine xSt ?_; refine xAs ?_; refine zY ?_; refine zX (zZ ?_); apply zP; rfl; rfl; rfl; (apply g_build; rfl; rfl; rfl; rfl); apply zP; rfl; rfl; rfl; (apply g_build; rfl; rfl; rfl; rfl); apply zP; rfl; rfl; rfl; (refine zJ rfl rfl (zT (by kernel_rfl)) ?_; exact w3 _); refine xMv ?_; refine xEx ?_; refine xEx ?_; refine xBa ?_; intro _; refine xSt ?_; refine xAs ?_; refine zY ?_; refine zX (zZ ?_); refine xLa ?_; refine xLa ?_; simp only [zQ, zV, zU, zW, zG, ↓reduceIte, Nat.reduceEqDiff]; rotate_left
  (all_goals (repeat (rename BV _ _ => hbv; first | cases hbv | clear hbv)))
  all_goals (try (first | cases ‹true = false› | cases ‹false = true›))
  clear g1 g2 w1 w2 w3
  refine exl_weaken (s' := ⟨[(39, .agg [.dl 8 A]), (40, .agg [.dl 8 B]), (2, .int .i64 0), (4, .int .i64 0), (6, .int .i64 540)], σ, [], Tryz.f9.ntmps⟩) (St.le_of (by repeat (first | exact trivial | refine ⟨rfl, ?_⟩)) (by repeat (first | exact q_r | apply q_q | apply q_k | exact q_a))) ?_
  have v1 := sameTurns_c [⟨7, 2, 2, [0]⟩]
  have v2 := same_v
  apply zP; rfl; rfl; rfl; (refine zJ rfl rfl (zT (by kernel_rfl)) ?_; exact m1 _); refine xMv ?_; refine xEx ?_; refine xEx ?_; refine xBa ?_; intro _; refine xSt ?_; refine xAs ?_; refine zY ?_; refine zX (zZ ?_); refine xLa ?_; refine xLa ?_; apply zP; rfl; rfl; rfl; (refine zJ rfl rfl (zT (by kernel_rfl)) ?_; exact m2 _); refine xMv ?_; refine xEx ?_; refine xEx ?_; refine xBa ?_; intro _; refine xSt ?_; refine xAs ?_; refine zY ?_; refine zX (zZ ?_); refine xLa ?_; apply zP; rfl; rfl; rfl; (refine zJ rfl rfl (zT (by kernel_rfl)) ?_; exact t1 _); refine xMv ?_; refine xEx ?_; refine xEx ?_; refine xAs ?_; refine xAs ?_; refine zY ?_; refine zX (zZ ?_); refine xLa ?_; apply zP; rfl; rfl; rfl; (apply g_build; rfl; rfl; rfl; rfl); apply zP; rfl; rfl; rfl; (refine zJ rfl rfl (zT (by kernel_rfl)) ?_; exact w4 _); refine xMv ?_; refine xEx ?_; refine xEx ?_; refine xBa ?_; intro _; refine xSt ?_; refine xAs ?_; refine zY ?_; refine zX (zZ ?_); refine xLa ?_; apply zP; rfl; rfl; rfl; (refine zJ rfl rfl (zT (by kernel_rfl)) ?_; exact t2 _); refine xMv ?_; refine xEx ?_; refine xEx ?_; refine xAs ?_; refine xAs ?_; refine zY ?_; refine zX ?_; refine zX (zZ ?_); refine xMv ?_; refine xBi ?_; intro _ _; refine xMv ?_; refine q_d (fun h h_k => ?_) (fun h h_k => ?_) <;> ((try subst h_k); (have hp := h; try simp only [q_n] at hp); (try (exfalso; first | omega | (cases hp; done))));
  refine yMv ?_; refine yBi ?_; intro _ _; refine xPf ?_; refine xMv ?_; refine q_d (fun h h_k => ?_) (fun h h_k => ?_) <;> ((try subst h_k); (have hp := h; try simp only [q_n] at hp); (try (exfalso; first | omega | (cases hp; done))));
  refine yMv ?_; refine yBi ?_; intro _ _; refine xPf ?_; refine xMv ?_; refine q_d (fun h h_k => ?_) (fun h h_k => ?_) <;> ((try subst h_k); (have hp := h; try simp only [q_n] at hp); (try (exfalso; first | omega | (cases hp; done))));
  refine yMv ?_; refine yBi ?_; intro _ _; refine xPf ?_; refine xMv ?_; refine q_d (fun h h_k => ?_) (fun h h_k => ?_) <;> ((try subst h_k); (have hp := h; try simp only [q_n] at hp); (try (exfalso; first | omega | (cases hp; done))));
  refine yMv ?_; refine yBi ?_; intro _ _; refine xPf ?_; refine xMv ?_; refine q_d (fun h h_k => ?_) (fun h h_k => ?_) <;> ((try subst h_k); (have hp := h; try simp only [q_n] at hp); (try (exfalso; first | omega | (cases hp; done))));
  refine yMv ?_; refine yBi ?_; intro _ _; refine xPf ?_; refine xMv ?_; refine q_d (fun h h_k => ?_) (fun h h_k => ?_) <;> ((try subst h_k); (have hp := h; try simp only [q_n] at hp); (try (exfalso; first | omega | (cases hp; done))));
  refine yMv ?_; refine yBi ?_; intro _ _; refine xPf ?_; refine xMv ?_; refine q_d (fun h h_k => ?_) (fun h h_k => ?_) <;> ((try subst h_k); (have hp := h; try simp only [q_n] at hp); (try (exfalso; first | omega | (cases hp; done))));
  refine yMv ?_; refine yBi ?_; intro _ _; refine xPf ?_; refine xMv ?_; refine q_d (fun h h_k => ?_) (fun h h_k => ?_) <;> ((try subst h_k); (have hp := h; try simp only [q_n] at hp); (try (exfalso; first | omega | (cases hp; done))));
  refine yLa ?_; apply exl_isW; rfl; (rfl); rfl; rfl; (refine zJ rfl rfl (zT (by kernel_rfl)) ?_; exact k1 _); refine yBi ?_; intro _ _; refine xPf ?_; refine xMv ?_; refine q_d (fun h h_k => ?_) (fun h h_k => ?_) <;> ((try subst h_k); (have hp := h; try simp only [q_n] at hp); (try (exfalso; first | omega | (cases hp; done))));
  refine yLa ?_; refine yLa ?_; apply exl_isBW; rfl; (rfl); rfl; rfl; (refine zJ rfl rfl (zT (by kernel_rfl)) ?_; exact s1 _); intro _ _; refine yNo ?_; intro _ _; refine xPf ?_; refine xMv ?_; refine q_d (fun h h_k => ?_) (fun h h_k => ?_) <;> ((try subst h_k); (have hp := h; try simp only [q_n] at hp); (try (exfalso; first | omega | (cases hp; done))));
  refine xSk ?_; refine xSk ?_; refine xSk ?_; refine xSk ?_; refine xPt ?_; refine zY ?_; refine ex_cond_t rfl (by rfl) ?_; refine zX (zZ ?_); refine xAs ?_; refine zY ?_; refine zL ?_; simp only [zQ, zV, zU, zW, zG, ↓reduceIte, Nat.reduceEqDiff]; rotate_left; refine yFa ?_; refine yLd ?_; apply exl_isW; rfl; (rfl); rfl; rfl; (apply g_len; rfl; rfl; (rfl)); refine yBi ?_; intro _ _; refine xPf ?_; refine zY ?_; refine q_c (fun h h_k => ?_) (fun h h_k => ?_) <;> ((try subst h_k); (have hp := h; try simp only [q_n] at hp); (try (exfalso; first | omega | (cases hp; done))));
  refine zR ?_; refine zX ?_; refine zX (zZ ?_); refine xMv ?_; apply zP; rfl; rfl; rfl; (exact gop_sealed (g_buildSlice rfl rfl (by decide) rfl rfl (by (simp only [chunkN, List.take_succ_cons, List.take_zero, List.drop_succ_cons, List.drop_zero]; rfl)))); apply zP; rfl; rfl; rfl; (apply g_build; rfl; rfl; rfl; rfl); apply zP; rfl; rfl; rfl; (exact gop_sealed (g_buildSlice rfl rfl (by decide) rfl rfl (by (simp only [chunkN, List.take_succ_cons, List.take_zero, List.drop_succ_cons, List.drop_zero]; rfl)))); apply exl_isB; rfl; rfl; rfl; (refine zJ rfl rfl (zT (by kernel_rfl)) ?_; exact v1 _); intro _ _; refine xNo ?_; intro _ _; refine xMv ?_; refine q_d (fun h h_k => ?_) (fun h h_k => ?_) <;> ((try subst h_k); (have hp := h; try simp only [q_n] at hp); (try (exfalso; first | omega | (cases hp; done))));
  refine xSk ?_; refine xSk ?_; refine xSk ?_; refine xSk ?_; refine xSk ?_; refine xPt ?_; refine zY ?_; refine ex_cond_t rfl (by rfl) ?_; refine zX (zZ ?_); refine xAs ?_; refine zY ?_; refine zL ?_; simp only [zQ, zV, zU, zW, zG, ↓reduceIte, Nat.reduceEqDiff]; rotate_left; refine yMv ?_; apply exl_isW; rfl; (rfl); rfl; rfl; (apply g_build; rfl; rfl; rfl; rfl); apply exl_isW; rfl; (rfl); rfl; rfl; (exact gop_sealed (g_buildSlice rfl rfl (by decide) rfl rfl (by (simp only [chunkN, List.take_succ_cons, List.take_zero, List.drop_succ_cons, List.drop_zero]; rfl)))); apply exl_isBW; rfl; (rfl); rfl; rfl; (refine zJ rfl rfl (zT (by kernel_rfl)) ?_; exact v2 _); intro _ _; refine yNo ?_; intro _ _; refine xPf ?_; refine zY ?_; refine q_c (fun h h_k => ?_) (fun h h_k => ?_) <;> ((try subst h_k); (have hp := h; try simp only [q_n] at hp); (try (exfalso; first | omega | (cases hp; done))));
  refine zX (zZ ?_); refine xAs ?_; refine zY ?_; refine zL ?_; simp only [zQ, zV, zU, zW, zG, ↓reduceIte, Nat.reduceEqDiff]; rotate_left; refine zR ?_; refine zX (zZ ?_); simp only [zQ, zV, zU, zW, zG, ↓reduceIte, Nat.reduceEqDiff]; rotate_left
  (all_goals (repeat (rename BV _ _ => hbv; first | cases hbv | clear hbv)))
  all_goals (try (first | cases ‹true = false› | cases ‹false = true›))
  clear m1 m2 t1 w4 t2 k1 s1 v1 v2
  refine exl_weaken (s' := ⟨[], σ, [], Tryz.f9.ntmps⟩) (St.le_of (by repeat (first | exact trivial | refine ⟨rfl, ?_⟩)) (by repeat (first | exact q_r | apply q_q | apply q_k | exact q_a))) ?_
  have n1 := new_ok 2 (by decide)
  have n2 := new_bad 9 (by decide)
  have d1 := do_empty ⟨0, 0, 0, 0, zS⟩
  have d2 := do_c _ _ ⟨0, 0, 0, 0, zS⟩ (ex10 0 (by decide))
  rw [ex11] at d2
  apply zP; rfl; rfl; rfl; (refine zJ rfl rfl (zT (by kernel_rfl)) ?_; exact n1 _); refine xMv ?_; refine xEx ?_; refine xEx ?_; refine xBa ?_; intro _; refine xSt ?_; refine xAs ?_; refine zY ?_; refine zX (zZ ?_); apply zP; rfl; rfl; rfl; (refine zJ rfl rfl (zT (by kernel_rfl)) ?_; exact n2 _); refine xMv ?_; refine xEx ?_; refine xEx ?_; refine xAs ?_; refine zY ?_; refine zX (zZ ?_); apply zP; rfl; rfl; rfl; (apply g_build; rfl; rfl; rfl; rfl); apply zP; rfl; rfl; rfl; (apply g_build; rfl; rfl; rfl; rfl); apply zP; rfl; rfl; rfl; (refine zJ rfl rfl (zT (by kernel_rfl)) ?_; exact d1 _); refine xMv ?_; refine xEx ?_; refine xEx ?_; refine xAs ?_; refine zY ?_; refine zX (zZ ?_); refine xLa ?_; apply zP; rfl; rfl; rfl; (apply g_build; rfl; rfl; rfl; rfl); apply zP; rfl; rfl; rfl; (refine zJ rfl rfl (zT (by kernel_rfl)) ?_; exact d2 _); refine xMv ?_; refine xEx ?_; refine xEx ?_; refine xAs ?_; refine zY ?_; refine zX ?_; refine zX (zZ ?_); refine xMv ?_; refine xBi ?_; intro _ _; refine xMv ?_; refine q_d (fun h h_k => ?_) (fun h h_k => ?_) <;> ((try subst h_k); (have hp := h; try simp only [q_n] at hp); (try (exfalso; first | omega | (cases hp; done))));
  refine yMv ?_; refine yBi ?_; intro _ _; refine xPf ?_; refine xMv ?_; refine q_d (fun h h_k => ?_) (fun h h_k => ?_) <;> ((try subst h_k); (have hp := h; try simp only [q_n] at hp); (try (exfalso; first | omega | (cases hp; done))));
  refine yMv ?_; refine yBi ?_; intro _ _; refine xPf ?_; refine xMv ?_; refine q_d (fun h h_k => ?_) (fun h h_k => ?_) <;> ((try subst h_k); (have hp := h; try simp only [q_n] at hp); (try (exfalso; first | omega | (cases hp; done))));
  refine yMv ?_; refine yBi ?_; intro _ _; refine xPf ?_; refine zY ?_; refine q_c (fun h h_k => ?_) (fun h h_k => ?_) <;> ((try subst h_k); (have hp := h; try simp only [q_n] at hp); (try (exfalso; first | omega | (cases hp; done))));
  refine zR ?_; refine zX ?_; refine zX (zZ ?_); apply zP; rfl; rfl; rfl; (refine zJ rfl rfl (zT (by kernel_rfl)) ?_; exact given_c _ _ _ _ _); apply zP; rfl; rfl; rfl; (apply g_build; rfl; rfl; rfl; rfl); apply zP; rfl; rfl; rfl; (refine zJ rfl rfl (zT (by kernel_rfl)) ?_; exact given_c _ _ _ _ _); apply zP; rfl; rfl; rfl; (apply g_build; rfl; rfl; rfl; rfl); apply zP; rfl; rfl; rfl; (apply g_build; rfl; rfl; rfl; rfl); apply zP; rfl; rfl; rfl; (apply g_build; rfl; rfl; rfl; rfl); apply zP; rfl; rfl; rfl; (apply g_build; rfl; rfl; rfl; rfl); apply zP; rfl; rfl; rfl; (exact gop_sealed (g_buildSlice rfl rfl (by decide) rfl rfl (by (simp only [chunkN, List.take_succ_cons, List.take_zero, List.drop_succ_cons, List.drop_zero]; rfl)))); apply zP; rfl; rfl; rfl; (apply g_len; rfl; rfl; (rfl)); refine xMv ?_; refine zY ?_; refine zK ?_; simp only [zQ, zV, zU, zW, zG, ↓reduceIte, Nat.reduceEqDiff]; rotate_left
  (all_goals (repeat (rename BV _ _ => hbv; first | cases hbv | clear hbv)))
  all_goals (try (first | cases ‹true = false› | cases ‹false = true›))
  clear n1 n2 d1 d2
  rename Nat => b; revert b
  intro b
  refine ex_loop (fun (k : Nat) => (⟨[(167, .dl 12 (rdS.map psC)), (168, .int .i64 5), (169, .int .i64 k), (17, .ptr b 0)], .cells b (stC (rdB.getD k []) (qPs (rdQ.getD k []))) 41 :: σ, [], Tryz.f9.ntmps⟩ : St)) (fun k => k ≤ 5) (fun k => 5 - k) 0 (by decide) (St.le_of (by repeat (first | exact trivial | refine ⟨rfl, ?_⟩)) (by repeat (first | exact q_r | apply q_q | apply q_k))) ?_
  intro k hI
  by_cases hk : k < 5
  · have hd := st_rd k hk
    have hg : (rdS.map psC)[k]? = some (psC (rdS.getD k ⟨0, 0, 0, 0, sA⟩)) := by
      obtain ⟨r, hr⟩ : ∃ r, rdS[k]? = some r := get_some hk
      rw [List.getElem?_map, List.getD_eq_getElem?_getD, hr]; rfl
    have hl5 : 5 = (rdS.map psC).length := rfl
    generalize rdS.map psC = R at hg hl5 ⊢
    generalize rdS.getD k ⟨0, 0, 0, 0, sA⟩ = r at hd hg
    generalize rdB.getD k [] = B1 at hd ⊢
    generalize rdQ.getD k [] = Q1 at hd ⊢
    generalize hB2 : rdB.getD (k + 1) [] = B2 at hd
    generalize hQ2 : rdQ.getD (k + 1) [] = Q2 at hd
    refine zX (zZ ?_); refine xBi ?_; intro _ _; refine zY ?_; refine zX ?_; refine q_c (fun h h_k => ?_) (fun h h_k => ?_) <;> ((try subst h_k); (have hp := h; try simp only [q_n] at hp); (try (exfalso; first | omega | (cases hp; done))));
    refine zR ?_; refine zX ?_; refine zK ?_; refine zX (zZ ?_); refine xIx ?_; refine xLa ?_; refine xBa ?_; intro _; refine xSt ?_; refine zY ?_; refine zX (zZ ?_); refine xLa ?_; refine xLa ?_; apply zP; rfl; rfl; rfl; (refine zJ rfl rfl (zT (by kernel_rfl)) ?_; exact hd _); refine xMv ?_; refine xEx ?_; refine xEx ?_; refine xSt ?_; refine xAs ?_; refine zY ?_; refine zX (zZ ?_); refine xMv ?_; refine xBi ?_; intro _ _; refine zY ?_; refine q_c (fun h h_k => ?_) (fun h h_k => ?_) <;> ((try subst h_k); (have hp := h; try simp only [q_n] at hp); (try (exfalso; first | omega | (cases hp; done))));
    refine zR ?_; refine zZ ?_; refine xAd ?_; refine xMv ?_; refine zN ?_; simp only [zQ, zV, zU, zW, zG, ↓reduceIte, Nat.reduceEqDiff]; rotate_left
    (all_goals (repeat (rename BV _ _ => hbv; first | cases hbv | clear hbv)))
    all_goals (try (first | cases ‹true = false› | cases ‹false = true›))
    refine ⟨k + 1, hk, by omega, ?_⟩
    rw [hB2, hQ2]
    exact q_le
  · obtain rfl : k = 5 := by omega
    rw [show rdB.getD 5 [] = [[sA, sB], [sA]] from rfl, show rdQ.getD 5 [] = [] from rfl]
    clear hI hk
    have h0 : (([[sA, sB], [sA]] : List (List Sl)).map bkC)[0]? = some (bkC [sA, sB]) := rfl
    have h1 : (([[sA, sB], [sA]] : List (List Sl)).map bkC)[1]? = some (bkC [sA]) := rfl
    refine zX (zZ ?_); refine xBi ?_; intro _ _; refine zY ?_; refine zX ?_; refine q_c (fun h h_k => ?_) (fun h h_k => ?_) <;> ((try subst h_k); (have hp := h; try simp only [q_n] at hp); (try (exfalso; first | omega | (cases hp; done))));
    refine ex_exit ?_; refine zX (zZ ?_); refine xFa ?_; refine xLd ?_; refine xLn ?_; refine xBi ?_; intro _ _; refine xMv ?_; refine q_d (fun h h_k => ?_) (fun h h_k => ?_) <;> ((try subst h_k); (have hp := h; try simp only [q_n] at hp); (try (exfalso; first | omega | (cases hp; done))));
    refine yFa ?_; refine yLd ?_; refine yIx ?_; refine yFa ?_; refine yLd ?_; apply exl_isW; rfl; (rfl); rfl; rfl; (apply g_len; rfl; rfl; (exact (List.length_map _).symm)); refine yBi ?_; intro _ _; refine xPt ?_; refine xMv ?_; refine q_d (fun h h_k => ?_) (fun h h_k => ?_) <;> ((try subst h_k); (have hp := h; try simp only [q_n] at hp); (try (exfalso; first | omega | (cases hp; done))));
    refine yFa ?_; refine yLd ?_; refine yIx ?_; refine yFa ?_; refine yLd ?_; apply exl_isW; rfl; (rfl); rfl; rfl; (apply g_len; rfl; rfl; (exact (List.length_map _).symm)); refine yBi ?_; intro _ _; refine xPt ?_; refine xMv ?_; refine q_d (fun h h_k => ?_) (fun h h_k => ?_) <;> ((try subst h_k); (have hp := h; try simp only [q_n] at hp); (try (exfalso; first | omega | (cases hp; done))));
    refine yFa ?_; refine yFa ?_; refine yLd ?_; apply exl_isW; rfl; (rfl); rfl; rfl; (apply g_len; rfl; rfl; (exact (List.length_map _).symm)); refine yBi ?_; intro _ _; refine xPt ?_; refine xAs ?_; refine zY ?_; refine zL ?_; simp only [zQ, zV, zU, zW, zG, ↓reduceIte, Nat.reduceEqDiff]; rotate_left; refine xSk ?_; refine xSk ?_; refine xSk ?_; refine xSk ?_; refine xSk ?_; refine xPf ?_; refine xAs ?_; refine zY ?_; refine zL ?_; simp only [zQ, zV, zU, zW, zG, ↓reduceIte, Nat.reduceEqDiff]; rotate_left; refine xSk ?_; refine xSk ?_; refine xSk ?_; refine xSk ?_; refine xSk ?_; refine xSk ?_; refine xSk ?_; refine xPf ?_; refine xMv ?_; refine xSk ?_; refine xSk ?_; refine xSk ?_; refine xSk ?_; refine xSk ?_; refine xPf ?_; refine xAs ?_; refine zY ?_; refine zL ?_; simp only [zQ, zV, zU, zW, zG, ↓reduceIte, Nat.reduceEqDiff]; rotate_left; refine xSk ?_; refine xSk ?_; refine xSk ?_; refine xSk ?_; refine xSk ?_; refine xSk ?_; refine xSk ?_; refine xPf ?_; refine xMv ?_; refine xSk ?_; refine xSk ?_; refine xSk ?_; refine xSk ?_; refine xSk ?_; refine xSk ?_; refine xSk ?_; refine xPf ?_; refine xMv ?_; refine xSk ?_; refine xSk ?_; refine xSk ?_; refine xSk ?_; refine xSk ?_; refine xPf ?_; refine xAs ?_; refine zY ?_; refine zL ?_; simp only [zQ, zV, zU, zW, zG, ↓reduceIte, Nat.reduceEqDiff]; rotate_left
    (all_goals (repeat (rename BV _ _ => hbv; first | cases hbv | clear hbv)))
    all_goals (try (first | cases ‹true = false› | cases ‹false = true›))
    refine q_ri (bool_eq ?_)
    rfl
end Go.Proofs.YtkhoengjdfmfaaaGreat
namespace Go.Proofs.YtkhoengjdfmfaaaGreat
structure FirstI (l : List Sl) (i f : Nat) : Prop where
  le : f ≤ i
  pr : ∀ p, 0 < i → l[i - 1]? = some p → f < i ∧ p.seq = (i : Int) - 1 - f
theorem first_zero (l : List Sl) : FirstI l 0 0 := ⟨Nat.le_refl _, fun p h => by omega⟩
def nextF (l : List Sl) (i f : Nat) (s : Sl) : Nat := match prevL l i with
  | some p => if s.tab = p.tab then f else i
  | none => f
theorem ok_iff {l : List Sl} {i f : Nat} {s : Sl} (hs : l[i]? = some s) (h : FirstI l i f) : okAt l i = true ↔ (0 ≤ s.tab ∧ s.tab < 8) ∧ (∀ p, prevL l i = some p → p.tab ≤ s.tab) ∧ s.seq = (i : Int) - nextF l i f s ∧ slipB s = true ∧ (s.kind = 3 → ∀ y, l[nextF l i f s + (s.off - 1).toNat]? = some y → y.kind ≠ 3) := by
  rw [ok_some hs]
  have hf := h.le
  cases i with
  | zero =>
    have hp : prevL l 0 = none := rfl
    have f0 : f = 0 := by omega
    unfold nextF
    rw [hp]
    dsimp only
    subst f0
    simp only [stepB, decide_eq_true_eq]
    constructor
    · rintro ⟨h1, h2, h3, h4⟩
      refine ⟨⟨h1.1, by omega⟩, by simp, by omega, h3, fun hk y hy => ?_⟩
      have := slip_off h3 hk
      omega
    · rintro ⟨h1, _, h2, h3, h4⟩
      refine ⟨⟨h1.1, by omega⟩, by omega, h3, ?_⟩
      unfold voidB
      by_cases hk : s.kind = 3
      · have := slip_off h3 hk; omega
      · rw [decide_eq_false hk]; rfl
  | succ j =>
    obtain ⟨p, hp⟩ : ∃ p, l[j]? = some p := get_some (by have := get_lt hs; omega)
    have hpl : prevL l (j + 1) = some p := hp
    obtain ⟨g1, g2⟩ := h.pr p (by omega) (by simpa using hp)
    unfold nextF
    rw [hpl]
    dsimp only
    simp only [stepB, Bool.or_eq_true, Bool.and_eq_true, decide_eq_true_eq, Option.some.injEq, forall_eq']
    have key : ∀ F : Nat, s.seq = ((j + 1 : Nat) : Int) - F → slipB s = true → F ≤ j + 1 → (voidB l (j + 1) s = true ↔ (s.kind = 3 → ∀ y, l[F + (s.off - 1).toNat]? = some y → y.kind ≠ 3)) := by
      intro F e1 e2 e3
      unfold voidB
      by_cases hk : s.kind = 3
      · have ho := slip_off e2 hk
        rw [decide_eq_true hk, show j + 1 - s.seq.toNat = F by omega]
        simp only [Bool.not_true, Bool.false_or, Bool.and_eq_true, decide_eq_true_eq, hk, true_implies]
        cases hy : l[F + (s.off - 1).toNat]? with
        | none => simp; omega
        | some y => simp; omega
      · rw [decide_eq_false hk]
        simp [hk]
    by_cases e : s.tab = p.tab
    · rw [if_pos e]
      constructor
      · rintro ⟨h1, h2, h3, h4⟩
        have e1 : s.seq = ((j + 1 : Nat) : Int) - f := by omega
        exact ⟨⟨h1.1, by omega⟩, by omega, e1, h3, (key f e1 h3 hf).1 h4⟩
      · rintro ⟨h1, _, h2, h3, h4⟩
        exact ⟨⟨h1.1, by omega⟩, .inr ⟨e.symm, by omega⟩, h3, (key f h2 h3 hf).2 h4⟩
    · rw [if_neg e]
      constructor
      · rintro ⟨h1, h2, h3, h4⟩
        have e1 : s.seq = ((j + 1 : Nat) : Int) - (j + 1 : Nat) := by omega
        exact ⟨⟨h1.1, by omega⟩, by omega, e1, h3, (key (j + 1) e1 h3 (Nat.le_refl _)).1 h4⟩
      · rintro ⟨h1, h1', h2, h3, h4⟩
        exact ⟨⟨h1.1, by omega⟩, .inl ⟨by omega, by omega⟩, h3, (key (j + 1) h2 h3 (Nat.le_refl _)).2 h4⟩
theorem first_next {l : List Sl} {i f : Nat} {s : Sl} (hs : l[i]? = some s) (h : FirstI l i f) (hok : okAt l i = true) : FirstI l (i + 1) (nextF l i f s) := by
  have h1 := ((ok_iff hs h).1 hok).2.2.1
  have hle : nextF l i f s ≤ i := by
    unfold nextF
    have := h.le
    split
    · split <;> omega
    · omega
  refine ⟨by omega, fun p _ hp => ?_⟩
  rw [Nat.add_sub_cancel, hs] at hp
  cases hp
  exact ⟨by omega, by omega⟩
theorem find_none {l : List Sl} {t s : Int} (h : ∀ x ∈ l, ¬ (x.tab = t ∧ x.seq = s)) : findS l t s = none := by
  unfold findS
  rw [List.findIdx?_eq_none_iff]
  intro x hx
  have := h x hx
  simp; omega
theorem find_some {l : List Sl} {t s : Int} {k : Nat} {c : Sl} (hc : l[k]? = some c) (h : c.tab = t ∧ c.seq = s) (h0 : ∀ x ∈ l.take k, ¬ (x.tab = t ∧ x.seq = s)) : findS l t s = some k := by
  unfold findS
  have hk := get_lt hc
  rw [List.findIdx?_eq_some_iff_getElem]
  refine ⟨hk, ?_, fun j hj => ?_⟩
  · rw [(List.getElem?_eq_some_iff.1 hc).2]; simp [h.1, h.2]
  · have := h0 l[j] (List.mem_iff_getElem?.2 ⟨j, by rw [List.getElem?_take, if_pos hj]; exact List.getElem?_eq_getElem _⟩)
    simp; omega
theorem find_is {l : List Sl} {t s : Int} : (∃ k x, findS l t s = some k ∧ l[k]? = some x ∧ x.tab = t ∧ x.seq = s) ∨ (findS l t s = none ∧ ∀ x ∈ l, ¬ (x.tab = t ∧ x.seq = s)) := by
  cases h : findS l t s with
  | none =>
    refine .inr ⟨rfl, fun x hx => ?_⟩
    unfold findS at h
    rw [List.findIdx?_eq_none_iff] at h
    have := h x hx
    simp at this
    intro e
    exact this e.1 e.2
  | some k =>
    unfold findS at h
    rw [List.findIdx?_eq_some_iff_getElem] at h
    obtain ⟨hk, h1, _⟩ := h
    simp at h1
    exact .inl ⟨k, l[k], rfl, List.getElem?_eq_getElem hk, h1.1, h1.2⟩
end Go.Proofs.YtkhoengjdfmfaaaGreat
