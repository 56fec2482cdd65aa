/- Parts of the proof that belong together: Wl Wm To Sne Wn Smk Wo Wp Tr Oa Wr Tp Wt Wq Wu Tq Ya Yb Yc Yd. -/
import Derived.Test.YtkhoengjdfmfaaaGreatGE03
import Derived.Test.YtkhoengjdfmfaaaGreatGE05
import Derived.Test.YtkhoengjdfmfaaaGreatGE10
import Derived.Test.YtkhoengjdfmfaaaGreatGE11
import Derived.Test.YtkhoengjdfmfaaaGreatGE13
import Derived.WideKeyMaps
import Derived.DeepKeys4
import Derived.WalkArith
set_option maxRecDepth 10000
set_option linter.unusedSimpArgs false
set_option linter.unusedVariables false
namespace Go.Proofs.YtkhoengjdfmfaaaGreat
set_option maxHeartbeats 4000000 in
theorem same_c (l : List Sl) (σ : List Ent) : SCall Tryz.prog 15 [.agg [sls l], .agg [sls l]] σ (Is (.bool true) σ) := by
  refine scall_of Tryz.func15 rfl (by simp) ?_
  refine zX (zZ ?_); refine xBb ?_; intro _; refine xBb ?_; intro _; refine xAs ?_; refine zY ?_; refine zX ?_; refine zX (zZ ?_); refine xFa ?_; refine xLd ?_; refine xLn ?_; refine xFa ?_; refine xLd ?_; refine xLn ?_; refine xBi ?_; intro _ _; refine zY ?_; refine q_c (fun h h_k => ?_) (fun h h_k => ?_) <;> ((try subst h_k); (have hp := h; try simp only [q_n] at hp); (try (exfalso; first | omega | (cases hp; done))));
  refine zR ?_; refine zX ?_; refine zX (zZ ?_); refine xAs ?_; refine zY ?_; refine zL ?_; rotate_left
  (all_goals (repeat (rename BV _ _ => hbv; first | cases hbv | clear hbv)))
  all_goals (try (first | cases ‹true = false› | cases ‹false = true›))
  refine ex_len (t := 7) rfl ((List.length_map _).symm) (fun hlen => ?_)
  rename Nat => b3; revert b3; rename Nat => b2; revert b2
  intro b2 b3
  refine ex_loop (fun (k : Nat) => (⟨[(2, .ptr b2 0), (3, .ptr b3 0), (5, .int .i64 k)], .cells b3 [sls l] 24 :: .cells b2 [sls l] 24 :: σ, [], Tryz.f15.ntmps⟩ : St)) (fun k => k ≤ l.length) (fun k => l.length - k) 0 (Nat.zero_le _) (St.le_of (by repeat (first | exact trivial | refine ⟨rfl, ?_⟩)) (by repeat (first | exact q_r | apply q_q | apply q_k))) ?_
  intro k hI
  by_cases hk : k < l.length
  · obtain ⟨s, hs⟩ : ∃ s, l[k]? = some s := get_some hk
    have hg := sl_get hs
    refine zX ?_; refine zX (zZ ?_); refine xMv ?_; refine xFa ?_; refine xLd ?_; refine xLn ?_; refine xBi ?_; intro _ _; refine zY ?_; refine q_c (fun h h_k => ?_) (fun h h_k => ?_) <;> ((try subst h_k); (have hp := h; try simp only [q_n] at hp); (try (exfalso; first | omega | (cases hp; done))));
    refine zR ?_; refine zX ?_; refine zL ?_; refine zX ?_; refine ex_drawP rfl rfl (by kernel_rfl) rfl ?_; refine ex_drawQ rfl (by kernel_rfl) rfl ?_; refine wFa ?_; refine wLd ?_; refine wMv ?_; refine wIx ?_; refine wLa ?_; refine wFa ?_; refine wLd ?_; refine wMv ?_; refine wIx ?_; refine wLa ?_; refine wl_is (v := .bool false) rfl rfl rfl (fun σ' hl => g_neqSl (a := s) (b := s) (q := true) rfl rfl rfl (by simp)) ?_; refine wl_nil ?_; show EX _ _ _ _ _; refine ex_cond_f rfl (by rfl) ?_; refine zR ?_; refine zZ ?_; refine xMv ?_; refine xAd ?_; refine xAs ?_; refine zN ?_; simp only [zP, zU, zT, zW, retA, ↓reduceIte, Nat.reduceEqDiff]; rotate_left
    (all_goals (repeat (rename BV _ _ => hbv; first | cases hbv | clear hbv)))
    all_goals (try (first | cases ‹true = false› | cases ‹false = true›))
    refine ⟨k + 1, hk, by omega, ?_⟩
    exact q_le
  · refine zX ?_; refine zX (zZ ?_); refine xMv ?_; refine xFa ?_; refine xLd ?_; refine xLn ?_; refine xBi ?_; intro _ _; refine zY ?_; refine q_c (fun h h_k => ?_) (fun h h_k => ?_) <;> ((try subst h_k); (have hp := h; try simp only [q_n] at hp); (try (exfalso; first | omega | (cases hp; done))));
    refine ex_exit ?_; refine zX (zZ ?_); refine xAs ?_; refine zY ?_; refine zJ ?_; simp only [zP, zU, zT, zW, retA, ↓reduceIte, Nat.reduceEqDiff]; rotate_left
    (all_goals (repeat (rename BV _ _ => hbv; first | cases hbv | clear hbv)))
    all_goals (try (first | cases ‹true = false› | cases ‹false = true›))
    refine q_ri ?_
    rfl
theorem tnC_get {L : List Tn} {k : Nat} {t : Tn} (h : L[k]? = some t) : (L.map tnC)[k]? = some (tnC t) := by rw [List.getElem?_map, h]; rfl
theorem intC_get {L : List Int} {k : Nat} {x : Int} (h : L[k]? = some x) : (L.map intC)[k]? = some (intC x) := by rw [List.getElem?_map, h]; rfl
set_option maxHeartbeats 4000000 in
theorem sameTurn_c (t : Tn) (σ : List Ent) : SCall Tryz.prog 42 [.agg (tnC t), .agg (tnC t)] σ (Is (.bool true) σ) := by
  refine scall_of Tryz.func42 rfl (by simp) ?_
  refine zX (zZ ?_); refine xBb ?_; intro _; refine xBb ?_; intro _; refine xAs ?_; refine zY ?_; refine zX ?_; refine zX (zZ ?_); refine xFa ?_; refine xLd ?_; refine xFa ?_; refine xLd ?_; refine xBi ?_; intro _ _; refine xMv ?_; refine q_d (fun h h_k => ?_) (fun h h_k => ?_) <;> ((try subst h_k); (have hp := h; try simp only [q_n] at hp); (try (exfalso; first | omega | (cases hp; done))));
  refine yFa ?_; refine yLd ?_; refine yFa ?_; refine yLd ?_; refine yBi ?_; intro _ _; refine xPf ?_; refine xMv ?_; refine q_d (fun h h_k => ?_) (fun h h_k => ?_) <;> ((try subst h_k); (have hp := h; try simp only [q_n] at hp); (try (exfalso; first | omega | (cases hp; done))));
  refine yFa ?_; refine yLd ?_; refine yFa ?_; refine yLd ?_; refine yBi ?_; intro _ _; refine xPf ?_; refine xMv ?_; refine q_d (fun h h_k => ?_) (fun h h_k => ?_) <;> ((try subst h_k); (have hp := h; try simp only [q_n] at hp); (try (exfalso; first | omega | (cases hp; done))));
  refine yFa ?_; refine yLd ?_; apply exl_isW; rfl; (rfl); rfl; rfl; (apply g_len; rfl; rfl; (exact (List.length_map _).symm)); refine yFa ?_; refine yLd ?_; apply exl_isW; rfl; (rfl); rfl; rfl; (apply g_len; rfl; rfl; (exact (List.length_map _).symm)); refine yBi ?_; intro _ _; refine xPf ?_; refine zY ?_; refine q_c (fun h h_k => ?_) (fun h h_k => ?_) <;> ((try subst h_k); (have hp := h; try simp only [q_n] at hp); (try (exfalso; first | omega | (cases hp; done))));
  refine zR ?_; refine zX ?_; refine zX (zZ ?_); refine xAs ?_; refine zY ?_; refine zL ?_; rotate_left
  (all_goals (repeat (rename BV _ _ => hbv; first | cases hbv | clear hbv)))
  all_goals (try (first | cases ‹true = false› | cases ‹false = true›))
  refine ex_len (t := 27) rfl ((List.length_map _).symm) (fun hlen => ?_)
  rename Nat => b3; revert b3; rename Nat => b2; revert b2
  intro b2 b3
  refine ex_loop (fun (k : Nat) => (⟨[(2, .ptr b2 0), (3, .ptr b3 0), (5, .int .i64 k)], .cells b3 (tnC t) 64 :: .cells b2 (tnC t) 64 :: σ, [], Tryz.f42.ntmps⟩ : St)) (fun k => k ≤ t.twice.length) (fun k => t.twice.length - k) 0 (Nat.zero_le _) (St.le_of (by repeat (first | exact trivial | refine ⟨rfl, ?_⟩)) (by repeat (first | exact q_r | apply q_q | apply q_k))) ?_
  intro k hI
  by_cases hk : k < t.twice.length
  · obtain ⟨x, hx⟩ : ∃ x, t.twice[k]? = some x := get_some hk
    have hg := intC_get hx
    refine zX ?_; refine zX (zZ ?_); refine xMv ?_; refine xFa ?_; refine xLd ?_; refine xLn ?_; refine xBi ?_; intro _ _; refine zY ?_; refine q_c (fun h h_k => ?_) (fun h h_k => ?_) <;> ((try subst h_k); (have hp := h; try simp only [q_n] at hp); (try (exfalso; first | omega | (cases hp; done))));
    refine zR ?_; refine zX ?_; refine zL ?_; refine zX ?_; refine ex_drawP rfl rfl (by kernel_rfl) rfl ?_; refine ex_drawQ rfl (by kernel_rfl) rfl ?_; refine wFa ?_; refine wLd ?_; refine wMv ?_; refine wIx ?_; refine wLd ?_; refine wFa ?_; refine wLd ?_; refine wMv ?_; refine wIx ?_; refine wLd ?_; refine wBi ?_; intro _ _; refine wl_nil ?_; show EX _ _ _ _ _; refine q_c (fun h h_k => ?_) (fun h h_k => ?_) <;> ((try subst h_k); (have hp := h; try simp only [q_n] at hp); (try (exfalso; first | omega | (cases hp; done))));
    refine zR ?_; refine zZ ?_; refine xMv ?_; refine xAd ?_; refine xAs ?_; refine zN ?_; simp only [zP, zU, zT, zW, retA, ↓reduceIte, Nat.reduceEqDiff]; rotate_left
    (all_goals (repeat (rename BV _ _ => hbv; first | cases hbv | clear hbv)))
    all_goals (try (first | cases ‹true = false› | cases ‹false = true›))
    refine ⟨k + 1, hk, by omega, ?_⟩
    exact q_le
  · refine zX ?_; refine zX (zZ ?_); refine xMv ?_; refine xFa ?_; refine xLd ?_; refine xLn ?_; refine xBi ?_; intro _ _; refine zY ?_; refine q_c (fun h h_k => ?_) (fun h h_k => ?_) <;> ((try subst h_k); (have hp := h; try simp only [q_n] at hp); (try (exfalso; first | omega | (cases hp; done))));
    refine ex_exit ?_; refine zX (zZ ?_); refine xAs ?_; refine zY ?_; refine zJ ?_; simp only [zP, zU, zT, zW, retA, ↓reduceIte, Nat.reduceEqDiff]; rotate_left
    (all_goals (repeat (rename BV _ _ => hbv; first | cases hbv | clear hbv)))
    all_goals (try (first | cases ‹true = false› | cases ‹false = true›))
    refine q_ri ?_
    rfl
set_option maxHeartbeats 4000000 in
theorem sameTurns_c (L : List Tn) (σ : List Ent) : SCall Tryz.prog 16 [.dl 4 (L.map tnC), .dl 4 (L.map tnC)] σ (Is (.bool true) σ) := by
  refine scall_of Tryz.func16 rfl (by simp) ?_
  refine zX (zZ ?_); refine xAs ?_; refine zY ?_; refine zX ?_; refine zX (zZ ?_); refine xMv ?_; refine xLn ?_; refine xMv ?_; refine xLn ?_; refine xBi ?_; intro _ _; refine zY ?_; refine q_c (fun h h_k => ?_) (fun h h_k => ?_) <;> ((try subst h_k); (have hp := h; try simp only [q_n] at hp); (try (exfalso; first | omega | (cases hp; done))));
  refine zR ?_; refine zX ?_; refine zX (zZ ?_); refine xAs ?_; refine zY ?_; refine zL ?_; rotate_left
  (all_goals (repeat (rename BV _ _ => hbv; first | cases hbv | clear hbv)))
  all_goals (try (first | cases ‹true = false› | cases ‹false = true›))
  refine ex_len (t := 6) rfl ((List.length_map _).symm) (fun hlen => ?_)
  refine ex_loop (fun (k : Nat) => (⟨[(0, .dl 4 (L.map tnC)), (1, .dl 4 (L.map tnC)), (5, .int .i64 k)], σ, [], Tryz.f16.ntmps⟩ : St)) (fun k => k ≤ L.length) (fun k => L.length - k) 0 (Nat.zero_le _) (St.le_of (by repeat (first | exact trivial | refine ⟨rfl, ?_⟩)) (by repeat (first | exact q_r | apply q_q | apply q_k))) ?_
  intro k hI
  by_cases hk : k < L.length
  · obtain ⟨x, hx⟩ : ∃ x, L[k]? = some x := get_some hk
    have hg := tnC_get hx
    refine zX ?_; refine zX (zZ ?_); refine xMv ?_; refine xMv ?_; refine xLn ?_; refine xBi ?_; intro _ _; refine zY ?_; refine q_c (fun h h_k => ?_) (fun h h_k => ?_) <;> ((try subst h_k); (have hp := h; try simp only [q_n] at hp); (try (exfalso; first | omega | (cases hp; done))));
    refine zR ?_; refine zX ?_; refine zL ?_; refine zX ?_; rotate_left
    (all_goals (repeat (rename BV _ _ => hbv; first | cases hbv | clear hbv)))
    all_goals (try (first | cases ‹true = false› | cases ‹false = true›))
    refine ex_drawLK anyK 10 [] rfl (by kernel_rfl) rfl ?_
    simp only [List.take_succ_cons, List.take_zero, List.drop_succ_cons, List.drop_zero]
    refine wMv ?_; refine wMv ?_; refine wIx ?_; refine wLa ?_; refine wMv ?_; refine wMv ?_; refine wIx ?_; refine wLa ?_; apply wl_isB; rfl; rfl; rfl; (intro σ' hl; (refine zK rfl rfl (zV (by kernel_rfl)) ?_; exact sameTurn_c _ _)); intro _ _; apply wl_isB; rfl; rfl; rfl; (intro σ' hl; (apply g_not; rfl)); intro _ _; refine wl_nil ?_; refine zY ?_; refine q_c (fun h h_k => ?_) (fun h h_k => ?_) <;> ((try subst h_k); (have hp := h; try simp only [q_n] at hp); (try (exfalso; first | omega | (cases hp; done))));
    refine zX (zZ ?_); refine xAs ?_; refine zY ?_; refine zJ ?_; simp only [zP, zU, zT, zW, retA, ↓reduceIte, Nat.reduceEqDiff]; rotate_left; refine zR ?_; refine zZ ?_; refine xMv ?_; refine xAd ?_; refine xAs ?_; refine zN ?_; simp only [zP, zU, zT, zW, retA, ↓reduceIte, Nat.reduceEqDiff]; rotate_left
    (all_goals (repeat (rename BV _ _ => hbv; first | cases hbv | clear hbv)))
    all_goals (try (first | cases ‹true = false› | cases ‹false = true›))
    refine ⟨k + 1, hk, by omega, ?_⟩
    exact q_le
  · refine zX ?_; refine zX (zZ ?_); refine xMv ?_; refine xMv ?_; refine xLn ?_; refine xBi ?_; intro _ _; refine zY ?_; refine q_c (fun h h_k => ?_) (fun h h_k => ?_) <;> ((try subst h_k); (have hp := h; try simp only [q_n] at hp); (try (exfalso; first | omega | (cases hp; done))));
    refine ex_exit ?_; refine zX (zZ ?_); refine xAs ?_; refine zY ?_; refine zJ ?_; simp only [zP, zU, zT, zW, retA, ↓reduceIte, Nat.reduceEqDiff]; rotate_left
    (all_goals (repeat (rename BV _ _ => hbv; first | cases hbv | clear hbv)))
    all_goals (try (first | cases ‹true = false› | cases ‹false = true›))
    refine q_ri ?_
    rfl
theorem given_c (tab turn farm hour : Int) (σ : List Ent) : SCall Tryz.prog 28 [.int .i64 tab, .int .i64 turn, .int .i64 farm, .int .i64 hour] σ (Is (slV ⟨tab, 0, 1, turn, farm, hour, 5, 0⟩) σ) := by
  refine scall_of Tryz.func28 rfl (by simp) ?_
  refine zX (zZ ?_); refine xBa ?_; intro _; refine zY ?_; refine zX (zZ ?_); refine xMv ?_; refine xMv ?_; refine xMv ?_; refine xMv ?_; apply zQ; rfl; rfl; rfl; (apply g_build; rfl; rfl; rfl; rfl); refine xSt ?_; refine zY ?_; refine zJ ?_; simp only [zP, zU, zT, zW, retA, ↓reduceIte, Nat.reduceEqDiff]; rotate_left
  (all_goals (repeat (rename BV _ _ => hbv; first | cases hbv | clear hbv)))
  all_goals (try (first | cases ‹true = false› | cases ‹false = true›))
  refine q_ri ?_
  rfl
end Go.Proofs.YtkhoengjdfmfaaaGreat
namespace Go.Proofs.YtkhoengjdfmfaaaGreat
abbrev qP (q : Qk) : Pk := ⟨q.f, q.t, msgS q.s⟩
abbrev qPs (Q : List Qk) : List Pk := Q.map qP
theorem RtQ.rt {B : List (List Sl)} {Q : List Qk} (h : RtQ B Q) : Rt B (qPs Q) :=
  ⟨h.n1, h.n8, h.ck, h.tab, fun p hp => by
    obtain ⟨q, hq, rfl⟩ := List.mem_map.1 hp
    obtain ⟨h1, h2, h3, h4, h5, h6, h7⟩ := h.net q hq
    exact ⟨h1, h2, h3, h4, h5, q.s, rfl, h6, h7⟩, by rw [List.length_map]; exact h.few⟩
def doV : Except Int (List (List Sl) × List Qk) → AV
  | .error e => .tup [rnd0, .int .i64 e]
  | .ok x => .tup [.agg (stC x.1 (qPs x.2)), .int .i64 0]
theorem qPs_erase (Q : List Qk) (k : Nat) : (qPs Q).eraseIdx k = qPs (Q.eraseIdx k) := by
  show (Q.map qP).eraseIdx k = (Q.eraseIdx k).map qP
  rw [List.eraseIdx_eq_take_drop_succ, List.eraseIdx_eq_take_drop_succ, List.map_append, List.map_take, List.map_drop]
theorem scall_or {P : Program} {f : FuncId} {args : List AV} {σ : List Ent} {R R' : AV → List Ent → Prop} (h : SCall P f args σ R) (hr : ∀ v τ, R v τ → R' v τ) : SCall P f args σ R' :=
  ⟨fun X M w vs hg ha => (h.run X M w vs hg ha).mono fun e w' ⟨M', σ', r, v, h1, h2, h3, h4, h5⟩ => ⟨M', σ', r, v, h1, h2, h3, h4, hr _ _ h5⟩⟩
theorem do_write (B : List (List Sl)) (Q : List Qk) (r : Ps) (hR : RtQ B Q) (hk : r.k = 1) (σ : List Ent) :
    SCall Tryz.prog 20 [.agg (stC B (qPs Q)), psV r] σ (Is (doV (doS B Q r)) σ) := by
  have hz : passM r.k = some (.fn (.func 48) [] []) := by rw [hk]; rfl
  unfold doS
  rw [if_pos hk]
  by_cases hc : 0 ≤ r.a ∧ r.a < B.length ∧ r.s.tab = r.a
  · rw [if_pos hc]
    obtain ⟨k, hkk⟩ : ∃ k : Nat, r.a = k := ⟨r.a.toNat, by omega⟩
    have hkB : k < B.length := by omega
    obtain ⟨l, hl⟩ : ∃ l, B[k]? = some l := get_some hkB
    have hgd : B.getD r.a.toNat [] = l := by rw [show r.a.toNat = k by omega, List.getD_eq_getElem?_getD, hl]; rfl
    rw [hgd, show r.a.toNat = k by omega]
    by_cases he : (writeS l r.s).2 = 0
    · rw [if_pos he]
      refine do_ok B _ r hR.rt _ (zV (by kernel_rfl)) hz _ _ (fun b σ => ?_) σ
      have h0 := pwrite_ok b k B (qPs Q) r hR.n8 hkB hkk hc.2.2 l hl 0 he σ
      rwa [if_pos rfl] at h0
    · rw [if_neg he]
      refine do_err B _ r hR.rt _ (zV (by kernel_rfl)) hz (bks B) (pks (qPs Q)) (.dl 2 []) _ he (fun b σ => ?_) σ
      have h0 := pwrite_ok b k B (qPs Q) r hR.n8 hkB hkk hc.2.2 l hl _ rfl σ
      rw [if_neg he] at h0
      exact h0
  · rw [if_neg hc]
    exact do_err B _ r hR.rt _ (zV (by kernel_rfl)) hz _ _ _ _ (by omega) (fun b σ => pwrite_bad b B _ r hR.n8 hc σ) σ
theorem do_tell (B : List (List Sl)) (Q : List Qk) (r : Ps) (hR : RtQ B Q) (hk : r.k = 2) (σ : List Ent) :
    SCall Tryz.prog 20 [.agg (stC B (qPs Q)), psV r] σ (Is (doV (doS B Q r)) σ) := by
  have hz : passM r.k = some (.fn (.func 49) [] []) := by rw [hk]; rfl
  unfold doS
  rw [if_neg (by omega), if_pos hk]
  have hfew : (qPs Q).length ≤ 4096 := hR.rt.few
  have hQl : (qPs Q).length = Q.length := List.length_map ..
  by_cases hc : 0 ≤ r.a ∧ r.a < B.length ∧ 0 ≤ r.t ∧ r.t < B.length ∧ r.a ≠ r.t
  · rw [if_pos hc]
    obtain ⟨k, hkk⟩ : ∃ k : Nat, r.a = k := ⟨r.a.toNat, by omega⟩
    have hkB : k < B.length := by omega
    obtain ⟨l, hl⟩ : ∃ l, B[k]? = some l := get_some hkB
    have hlm := List.mem_of_getElem? hl
    have hck := hR.ck l hlm
    have hgd : B.getD r.a.toNat [] = l := by rw [show r.a.toNat = k by omega, List.getD_eq_getElem?_getD, hl]; rfl
    rw [hgd]
    have hln : l.length ≤ 512 := by have := (check_zero.1 hck).1; omega
    have hsd : ∀ s ∈ l, Sendable s := fun s hs => sendable_book hck hs
    by_cases he : Q.length + l.length ≤ 4096
    · rw [if_pos he]
      have hmp : qPs (Q ++ l.map fun s => ⟨r.a, r.t, s⟩) = qPs Q ++ l.map (sentP r) := by
        show (Q ++ l.map fun s => (⟨r.a, r.t, s⟩ : Qk)).map qP = Q.map qP ++ l.map (sentP r)
        rw [List.map_append, List.map_map]; rfl
      show SCall _ _ _ _ (Is (.tup [.agg (stC B (qPs (Q ++ l.map fun s => ⟨r.a, r.t, s⟩))), .int .i64 0]) σ)
      rw [hmp]
      refine do_ok B _ r hR.rt _ (zV (by kernel_rfl)) hz _ _ (fun b σ => ?_) σ
      refine scall_or (ptell_ok b k B (qPs Q) r hR.rt.okP hfew hR.n8 hc hkk l hl hsd hln σ) ?_
      rintro v τ (⟨_, rfl, rfl⟩ | ⟨h, _⟩)
      · exact .mk
      · omega
    · rw [if_neg he]
      refine do_err B _ r hR.rt _ (zV (by kernel_rfl)) hz (bks B) (.slv nilS) (.slv nilS) 2 (by omega) (fun b σ => ?_) σ
      refine scall_or (ptell_ok b k B (qPs Q) r hR.rt.okP hfew hR.n8 hc hkk l hl hsd hln σ) ?_
      rintro v τ (⟨h, _⟩ | ⟨_, rfl, rfl⟩)
      · omega
      · exact .mk
  · rw [if_neg hc]
    exact do_err B _ r hR.rt _ (zV (by kernel_rfl)) hz _ _ _ _ (by omega) (fun b σ => ptell_bad b B _ r hR.n8 hc σ) σ
theorem do_net (B : List (List Sl)) (Q : List Qk) (r : Ps) (hR : RtQ B Q) (hk : r.k = 3 ∨ r.k = 4 ∨ r.k = 5) (σ : List Ent) :
    SCall Tryz.prog 20 [.agg (stC B (qPs Q)), psV r] σ (Is (doV (doS B Q r)) σ) := by
  unfold doS
  rw [if_neg (by omega), if_neg (by omega), if_pos hk]
  have hfew : (qPs Q).length ≤ 4096 := hR.rt.few
  have hQl : (qPs Q).length = Q.length := List.length_map ..
  have hok := hR.rt.okP
  by_cases hi : r.i < 0 ∨ (Q.length : Int) ≤ r.i
  · rw [if_pos hi]
    have hi' : r.i < 0 ∨ ((qPs Q).length : Int) ≤ r.i := by omega
    rcases hk with hk | hk | hk
    · exact do_err B _ r hR.rt _ (zV (by kernel_rfl)) (by rw [hk]; rfl) _ _ _ _ (by omega) (fun b σ => pdeliver_out b B _ r hok hfew hi' σ) σ
    · exact do_err B _ r hR.rt _ (zV (by kernel_rfl)) (by rw [hk]; rfl) _ _ _ _ (by omega) (fun b σ => plose_out b B _ r hok hfew hi' σ) σ
    · exact do_err B _ r hR.rt _ (zV (by kernel_rfl)) (by rw [hk]; rfl) _ _ _ _ (by omega) (fun b σ => prepeat_out b B _ r hok hfew hi' σ) σ
  · rw [if_neg hi]
    obtain ⟨k, hkk⟩ : ∃ k : Nat, r.i = k := ⟨r.i.toNat, by omega⟩
    have hkt : r.i.toNat = k := by omega
    obtain ⟨q, hq⟩ : ∃ q, Q[k]? = some q := get_some (by omega)
    rw [hkt, hq]
    have hqP : (qPs Q)[k]? = some (qP q) := by rw [List.getElem?_map, hq]; rfl
    obtain ⟨h1, h2, h3, h4, h5, h6, h7⟩ := hR.net q (List.mem_of_getElem? hq)
    dsimp only
    rcases hk with hk | hk | hk
    · rw [if_pos hk]
      obtain ⟨t, htt⟩ : ∃ t : Nat, q.t = t := ⟨q.t.toNat, by omega⟩
      have htB : t < B.length := by omega
      obtain ⟨l, hl⟩ : ∃ l, B[t]? = some l := get_some htB
      have hgd : B.getD q.t.toNat [] = l := by rw [show q.t.toNat = t by omega, List.getD_eq_getElem?_getD, hl]; rfl
      rw [hgd, show q.t.toNat = t by omega]
      have hck := hR.ck l (List.mem_of_getElem? hl)
      have hln : l.length ≤ 512 := by have := (check_zero.1 hck).1; omega
      show SCall _ _ _ _ (Is (.tup [.agg (stC (B.set t (heardS l q.s)) (qPs (Q.eraseIdx k))), .int .i64 0]) σ)
      rw [← qPs_erase]
      exact do_ok B _ r hR.rt _ (zV (by kernel_rfl)) (by rw [hk]; rfl) _ _ (fun b σ => pdeliver_in b B _ r hok hfew hR.n8 k t _ hqP hkk q.s h6 rfl htt l hl hln σ) σ
    · rw [if_neg (by omega), if_pos hk]
      show SCall _ _ _ _ (Is (.tup [.agg (stC B (qPs (Q.eraseIdx k))), .int .i64 0]) σ)
      rw [← qPs_erase]
      exact do_ok B _ r hR.rt _ (zV (by kernel_rfl)) (by rw [hk]; rfl) _ _ (fun b σ => plose_in b B _ r hok hfew k _ hqP hkk σ) σ
    · rw [if_neg (by omega), if_neg (by omega)]
      by_cases he : Q.length = 4096
      · rw [if_pos he]
        exact do_err B _ r hR.rt _ (zV (by kernel_rfl)) (by rw [hk]; rfl) _ _ _ _ (by omega) (fun b σ => prepeat_full b B _ r hok hfew k _ hqP hkk (by omega) σ) σ
      · rw [if_neg he]
        show SCall _ _ _ _ (Is (.tup [.agg (stC B (qPs (Q ++ [q]))), .int .i64 0]) σ)
        rw [show qPs (Q ++ [q]) = qPs Q ++ [qP q] from List.map_append ..]
        exact do_ok B _ r hR.rt _ (zV (by kernel_rfl)) (by rw [hk]; rfl) _ _ (fun b σ => prepeat_in b B _ r hok hfew k _ hqP hkk (by omega) σ) σ
theorem do_c (B : List (List Sl)) (Q : List Qk) (r : Ps) (hR : RtQ B Q) (σ : List Ent) :
    SCall Tryz.prog 20 [.agg (stC B (qPs Q)), psV r] σ (Is (doV (doS B Q r)) σ) := by
  by_cases h1 : r.k = 1
  · exact do_write B Q r hR h1 σ
  by_cases h2 : r.k = 2
  · exact do_tell B Q r hR h2 σ
  by_cases h3 : r.k = 3 ∨ r.k = 4 ∨ r.k = 5
  · exact do_net B Q r hR h3 σ
  unfold doS
  rw [if_neg h1, if_neg h2, if_neg h3]
  exact do_none B _ r hR.rt (by omega) σ
end Go.Proofs.YtkhoengjdfmfaaaGreat
namespace Go.Proofs.YtkhoengjdfmfaaaGreat
def bkA : List Sl := [⟨0, 0, 1, 7, 1, 4, 5, 0⟩]
def bkB : List Sl := [⟨1, 0, 1, 7, 2, 3, 5, 0⟩]
def bkL : List Sl := [⟨0, 0, 1, 7, 1, 4, 5, 0⟩, ⟨1, 0, 1, 7, 2, 3, 5, 0⟩]
def bkV : List Sl := [⟨0, 0, 1, 7, 1, 4, 5, 0⟩, ⟨1, 0, 1, 7, 2, 3, 5, 0⟩, ⟨1, 1, 3, 0, 0, 0, 0, 1⟩]
theorem ex1 : writeS [] ⟨0, 0, 1, 7, 1, 4, 5, 0⟩ = (bkA, 0) ∧ writeS [] ⟨1, 0, 1, 7, 2, 3, 5, 0⟩ = (bkB, 0) ∧ writeS [] ⟨0, 0, 3, 0, 0, 0, 0, 0⟩ = ([], 540) := by decide +kernel
theorem ex2 : mergeR bkA bkB = some bkL := by
  unfold bkA bkB bkL
  rw [mergeR, if_pos (by decide), mergeR]; rfl
theorem ex3 : checkS bkA = 0 ∧ checkS bkB = 0 ∧ checkS bkL = 0 := by decide +kernel
theorem ex4 : mergeS bkA bkB = (bkL, 0) := by
  unfold mergeS
  rw [ex2, if_neg (by rw [ex3.1]; simp), if_neg (by rw [ex3.2.1]; simp)]; rfl
theorem ex5 : mergeS bkL bkL = (bkL, 0) := mergeS_self ex3.2.2
theorem ex6 : turnsS bkL = ([⟨7, 2, 2, [0]⟩], 0) := by decide +kernel
theorem ex7 : writeS bkL ⟨1, 0, 3, 0, 0, 0, 0, 1⟩ = (bkV, 0) := by decide +kernel
theorem ex8 : turnsS bkV = ([⟨7, 1, 1, []⟩], 0) := by decide +kernel
def rdS : List Ps := [⟨1, 0, 0, 0, ⟨0, 0, 1, 7, 1, 4, 5, 0⟩⟩, ⟨1, 0, 0, 0, ⟨0, 0, 1, 8, 1, 4, 5, 0⟩⟩, ⟨2, 0, 1, 0, ⟨0, 0, 0, 0, 0, 0, 0, 0⟩⟩, ⟨3, 0, 0, 1, ⟨0, 0, 0, 0, 0, 0, 0, 0⟩⟩, ⟨3, 0, 0, 0, ⟨0, 0, 0, 0, 0, 0, 0, 0⟩⟩]
abbrev sA : Sl := ⟨0, 0, 1, 7, 1, 4, 5, 0⟩
abbrev sB : Sl := ⟨0, 1, 1, 8, 1, 4, 5, 0⟩
def rdB : List (List (List Sl)) := [[[], []], [[sA], []], [[sA, sB], []], [[sA, sB], []], [[sA, sB], []], [[sA, sB], [sA]]]
def rdQ : List (List Qk) := [[], [], [], [⟨0, 1, sA⟩, ⟨0, 1, sB⟩], [⟨0, 1, sA⟩], []]
def isOk (r : Except Int (List (List Sl) × List Qk)) (B : List (List Sl)) (Q : List Qk) : Bool := match r with
  | .ok (B', Q') => decide (B' = B) && decide (Q' = Q)
  | .error _ => false
theorem ok_is {r : Except Int (List (List Sl) × List Qk)} {B : List (List Sl)} {Q : List Qk} (h : isOk r B Q = true) : r = .ok (B, Q) := by
  unfold isOk at h
  split at h
  · rw [Bool.and_eq_true, decide_eq_true_eq, decide_eq_true_eq] at h; rw [h.1, h.2]
  · cases h
theorem ex9a : ∀ k < 5, isOk (doS (rdB.getD k []) (rdQ.getD k []) (rdS.getD k ⟨0, 0, 0, 0, sA⟩)) (rdB.getD (k + 1) []) (rdQ.getD (k + 1) []) = true := by decide +kernel
theorem ex9 (k : Nat) (hk : k < 5) : doS (rdB.getD k []) (rdQ.getD k []) (rdS.getD k ⟨0, 0, 0, 0, sA⟩) = .ok (rdB.getD (k + 1) [], rdQ.getD (k + 1) []) := ok_is (ex9a k hk)
theorem ex10 : ∀ k, k ≤ 5 → RtQ (rdB.getD k []) (rdQ.getD k []) := by
  have key : ∀ k, k ≤ 5 → ∃ W, Hist (rdB.getD k []) (rdQ.getD k []) W := by
    intro k
    induction k with
    | zero => intro _; exact ⟨_, hist_new (n := 2) (by decide) (by decide)⟩
    | succ k ih =>
      intro hk
      obtain ⟨W, hW⟩ := ih (by omega)
      exact ⟨_, (hist_do hW (ex9 k (by omega))).1⟩
  intro k hk
  obtain ⟨W, hW⟩ := key k hk
  exact hW.rt
theorem ex11 : doS (rdB.getD 0 []) (rdQ.getD 0 []) ⟨0, 0, 0, 0, ⟨0, 0, 0, 0, 0, 0, 0, 0⟩⟩ = .error 1 := rfl
end Go.Proofs.YtkhoengjdfmfaaaGreat
namespace Go.Proofs.YtkhoengjdfmfaaaGreat
section
variable {P : Program} {ro : Option Nat} {env : Env} {σ : List Ent} {dst : Option Tmp} {ty : TypeId} {pos : String} {after : Array Edge} {guard : Option (Nat × Bool)}
end
end Go.Proofs.YtkhoengjdfmfaaaGreat
namespace Go.Proofs.YtkhoengjdfmfaaaGreat
set_option maxHeartbeats 2000000 in
theorem right_none (σ : List Ent) : SCall Tryz.prog 47 [rnd0] σ (Is (.bool false) σ) := by
  refine scall_of Tryz.func47 rfl (by simp) ?_
  have hi := fun σ => in_c 0 1 8 σ
  rw [show inB 0 1 8 = false by rfl] at hi
  refine zX (zZ ?_); refine xBb ?_; intro _; refine xAs ?_; refine zY ?_; refine zX (zZ ?_); refine xFa ?_; refine xLd ?_; apply zQ; rfl; rfl; rfl; (apply g_len; rfl; rfl; (exact .inr ⟨rfl, rfl⟩)); refine xBa ?_; intro _; refine xSt ?_; refine zY ?_; refine zX ?_; refine zX (zZ ?_); refine xLd ?_; apply exl_isB; rfl; rfl; rfl; (refine zK rfl rfl (zV (by kernel_rfl)) ?_; exact hi _); intro _ _; refine xNo ?_; intro _ _; refine xMv ?_; refine q_d (fun h h_k => ?_) (fun h h_k => ?_) <;> ((try subst h_k); (have hp := h; try simp only [q_n] at hp); (try (exfalso; first | omega | (cases hp; done))));
  refine xSk ?_; refine xSk ?_; refine xSk ?_; refine xSk ?_; refine xPt ?_; refine zY ?_; refine ex_cond_t rfl (by rfl) ?_; refine zX (zZ ?_); refine xAs ?_; refine zY ?_; refine zJ ?_; simp only [zP, zU, zT, zW, retA, ↓reduceIte, Nat.reduceEqDiff]; rotate_left; refine yFa ?_; refine yLa ?_; rotate_left
  (all_goals (repeat (rename BV _ _ => hbv; first | cases hbv | clear hbv)))
  all_goals (try (first | cases ‹true = false› | cases ‹false = true›))
  refine q_ri ?_
  rfl
set_option maxHeartbeats 4000000 in
theorem do_empty (r : Ps) (σ : List Ent) : SCall Tryz.prog 20 [rnd0, psV r] σ (Is (.tup [rnd0, .int .i64 540]) σ) := by
  refine scall_of Tryz.func20 rfl (by simp) ?_
  refine zX (zZ ?_); refine xBb ?_; intro _; refine xBb ?_; intro _; refine xBa ?_; intro _; refine xAs ?_; refine zY ?_; refine zX ?_; refine zX (zZ ?_); refine xLa ?_; apply exl_isB; rfl; rfl; rfl; (refine zK rfl rfl (zV (by kernel_rfl)) ?_; exact right_none _); intro _ _; refine xNo ?_; intro _ _; refine zY ?_; refine q_c (fun h h_k => ?_) (fun h h_k => ?_) <;> ((try subst h_k); (have hp := h; try simp only [q_n] at hp); (try (exfalso; first | omega | (cases hp; done))));
  refine zX (zZ ?_); refine xLa ?_; refine xSt ?_; refine xAs ?_; refine zY ?_; refine zJ ?_; simp only [zP, zU, zT, zW, retA, ↓reduceIte, Nat.reduceEqDiff]; rotate_left; refine zR ?_; refine zX (zZ ?_); refine exl_map rfl rfl rfl (by exact g_makeMap) ?_; intro _; rotate_left
  (all_goals (repeat (rename BV _ _ => hbv; first | cases hbv | clear hbv)))
  all_goals (try (first | cases ‹true = false› | cases ‹false = true›))
  refine q_rq (σ3 := σ) ?_
  exact fin_done .mk
def fewB (l : List Sl) : Bool := decide ((l.length : Int) ≤ 60) || (decide ((512 : Int) < l.length) && decide ((l.length : Int) ≤ 1000))
set_option maxHeartbeats 2000000 in
theorem few_c (l : List Sl) (σ : List Ent) : SCall Tryz.prog 10 [.agg [sls l]] σ (Is (.bool (fewB l)) σ) := by
  refine scall_of Tryz.func10 rfl (by simp) ?_
  unfold fewB
  refine zX (zZ ?_); refine xBb ?_; intro _; refine xAs ?_; refine zY ?_; refine zX (zZ ?_); refine xFa ?_; refine xLd ?_; refine xLn ?_; refine xBi ?_; intro _ _; refine xMv ?_; refine q_d (fun h h_k => ?_) (fun h h_k => ?_) <;> ((try subst h_k); (have hp := h; try simp only [q_n] at hp); (try (exfalso; first | omega | (cases hp; done))));
  refine xSk ?_; refine xSk ?_; refine xSk ?_; refine xSk ?_; refine xSk ?_; refine xSr ?_; refine xSr ?_; refine xSr ?_; refine xSr ?_; refine xSk ?_; refine xPt ?_; refine xAs ?_; refine zY ?_; refine zJ ?_; simp only [zP, zU, zT, zW, retA, ↓reduceIte, Nat.reduceEqDiff]; rotate_left; refine yFa ?_; refine yLd ?_; apply exl_isW; rfl; (rfl); rfl; rfl; (apply g_len; rfl; rfl; (exact (List.length_map _).symm)); refine yBi ?_; intro _ _; refine yMv ?_; refine q_d (fun h h_k => ?_) (fun h h_k => ?_) <;> ((try subst h_k); (have hp := h; try simp only [q_n] at hp); (try (exfalso; first | omega | (cases hp; done))));
  refine yFa ?_; refine yLd ?_; apply exl_isW; rfl; (rfl); rfl; rfl; (apply g_len; rfl; rfl; (exact (List.length_map _).symm)); refine yBi ?_; intro _ _; apply exl_isW; rfl; (rfl); rfl; rfl; (apply g_pick_t; rfl; (rfl); rfl); refine xPf ?_; refine xAs ?_; refine zY ?_; refine zJ ?_; simp only [zP, zU, zT, zW, retA, ↓reduceIte, Nat.reduceEqDiff]; rotate_left; refine xSk ?_; refine xSk ?_; refine xSk ?_; refine xSk ?_; apply exl_isW; rfl; (rfl); rfl; rfl; (apply g_pick_f; rfl; (rfl); rfl); refine xPf ?_; refine xAs ?_; refine zY ?_; refine zJ ?_; simp only [zP, zU, zT, zW, retA, ↓reduceIte, Nat.reduceEqDiff]; rotate_left
  (all_goals (repeat (rename BV _ _ => hbv; first | cases hbv | clear hbv)))
  all_goals (try (first | cases ‹true = false› | cases ‹false = true›))
  all_goals
    refine q_ri (bool_eq ?_)
    simp [*]
theorem bk_view {M : Mem} {vs : List Value} : VRels M [.agg [.slv nilS]] vs → VRels M [.agg [sls []]] vs := fun h => by
  simp only [VRels, VRel, List.map_nil] at h ⊢
  obtain ⟨v, r, rfl, ⟨ws, rfl, w, q, h2, ⟨rfl, h3⟩, h4⟩, h5⟩ := h
  exact ⟨_, _, rfl, ⟨_, rfl, _, _, h2, ⟨none, 0, rfl, by simp, by omega, by simp, by simp⟩, h4⟩, h5⟩
theorem write_e (s : Sl) (σ : List Ent) : SCall Tryz.prog 26 [.agg [.slv nilS], slV s] σ (Is (.tup [.agg [sls (writeS [] s).1], .int .i64 (writeS [] s).2]) σ) :=
  scall_view (fun M vs h => by
    simp only [VRels] at h ⊢
    obtain ⟨v, r, rfl, h1, h2⟩ := h
    have := bk_view (M := M) (vs := [v]) (by simp only [VRels]; exact ⟨v, [], rfl, h1, rfl⟩)
    simp only [VRels, List.cons.injEq] at this
    obtain ⟨_, _, ⟨rfl, _⟩, h3, _⟩ := this
    exact ⟨_, _, rfl, h3, h2⟩) (write_c [] s σ)
theorem scall_or' {P : Program} {f : FuncId} {args : List AV} {σ : List Ent} {v : AV} (h : SCall P f args σ (fun r τ => r = v ∧ τ = σ)) : SCall P f args σ (Is v σ) :=
  scall_or h fun _ _ ⟨h1, h2⟩ => by subst h1 h2; exact .mk
theorem same_v (σ : List Ent) : SCall Tryz.prog 16 [.dl 4 ([(⟨7, 1, 1, []⟩ : Tn)].map tnC), .dl 4 [[.int .i64 7, .int .i64 1, .int .i64 1, .slv nilS]]] σ (Is (.bool true) σ) :=
  scall_view (fun M vs h => by
    simp only [VRels] at h ⊢
    obtain ⟨v, r, rfl, h1, u, q, rfl, h2, h3⟩ := h
    refine ⟨_, _, rfl, h1, _, _, rfl, ?_, h3⟩
    refine VRel.dl_view (l := [[.int .i64 7, .int .i64 1, .int .i64 1, .slv nilS]]) (l' := [(⟨7, 1, 1, []⟩ : Tn)].map tnC) rfl (fun x hx => by simp at hx; subst hx; rfl) (fun k x x' b i hx hx' hc => ?_) h2
    cases k with
    | zero =>
      simp at hx hx'; subst hx hx'
      exact hc.view fun vs hvs => (Cv.same (.same (.same (.here .nil))) : Cv nilS (.dl 1 []) [.int .i64 7, .int .i64 1, .int .i64 1, .slv nilS] [.int .i64 7, .int .i64 1, .int .i64 1, .dl 1 []]).rel (nil_rel M 1) hvs
    | succ k => simp at hx) (sameTurns_c [⟨7, 1, 1, []⟩] σ)
abbrev zS : Sl := ⟨0, 0, 0, 0, 0, 0, 0, 0⟩
theorem st_rd (k : Nat) (hk : k < 5) (σ : List Ent) : SCall Tryz.prog 20 [.agg (stC (rdB.getD k []) (qPs (rdQ.getD k []))), psV (rdS.getD k ⟨0, 0, 0, 0, sA⟩)] σ (Is (.tup [.agg (stC (rdB.getD (k + 1) []) (qPs (rdQ.getD (k + 1) []))), .int .i64 0]) σ) := by
  have := do_c _ _ (rdS.getD k ⟨0, 0, 0, 0, sA⟩) (ex10 k (by omega)) σ
  rwa [ex9 k hk] at this
set_option maxHeartbeats 8000000 in
theorem sane_c (σ : List Ent) : SCall Tryz.prog 9 [] σ (Is (.bool true) σ) := by
  refine scall_of Tryz.func9 rfl (by simp) ?_
  have g1 := given_c 0 7 1 4
  have g2 := given_c 1 7 2 3
  have w1 := write_e ⟨0, 0, 1, 7, 1, 4, 5, 0⟩
  have w2 := write_e ⟨1, 0, 1, 7, 2, 3, 5, 0⟩
  have w3 := write_e ⟨0, 0, 3, 0, 0, 0, 0, 0⟩
  have m1 := merge_c bkA bkB
  have m2 := merge_c bkL bkL
  have t1 := fun σ => scall_or' (turns_c bkL σ)
  have w4 := write_c bkL ⟨1, 0, 3, 0, 0, 0, 0, 1⟩
  have t2 := fun σ => scall_or' (turns_c bkV σ)
  have k1 := check_c bkL
  have s1 := same_c bkL
  rw [ex1.1] at w1
  rw [ex1.2.1] at w2
  rw [ex1.2.2] at w3
  rw [ex4] at m1
  rw [ex5] at m2
  rw [ex6] at t1
  rw [ex7] at w4
  rw [ex8] at t2
  rw [ex3.2.2] at k1
  dsimp only at w1 w2 w3 w4 m1 m2 t1 t2
  obtain ⟨A, hA⟩ : ∃ A, sls bkA = .dl 8 A := ⟨_, rfl⟩
  obtain ⟨B, hB⟩ : ∃ B, sls bkB = .dl 8 B := ⟨_, rfl⟩
  obtain ⟨L, hL, hLl⟩ : ∃ L, sls bkL = .dl 8 L ∧ L.length = 2 := ⟨_, rfl, rfl⟩
  obtain ⟨V, hV⟩ : ∃ V, sls bkV = .dl 8 V := ⟨_, rfl⟩
  rw [hA] at w1 m1
  rw [hB] at w2 m1
  rw [hL] at m1 m2 t1 w4 k1 s1
  rw [hV] at w4 t2
  clear hA hB hL hV
  refine zX (zZ ?_); refine xAs ?_; refine zY ?_; refine zX (zZ ?_); apply zQ; rfl; rfl; rfl; (apply g_build; rfl; rfl; rfl; rfl); apply zQ; rfl; rfl; rfl; (refine zK rfl rfl (zV (by kernel_rfl)) ?_; exact g1 _); apply zQ; rfl; rfl; rfl; (refine zK rfl rfl (zV (by kernel_rfl)) ?_; exact w1 _); refine xMv ?_; refine xEx ?_; refine xEx ?_; refine xBa ?_; intro _; refine xSt ?_; refine xAs ?_; refine zY ?_; refine zX (zZ ?_); apply zQ; rfl; rfl; rfl; (apply g_build; rfl; rfl; rfl; rfl); apply zQ; rfl; rfl; rfl; (refine zK rfl rfl (zV (by kernel_rfl)) ?_; exact g2 _); apply zQ; rfl; rfl; rfl; (refine zK rfl rfl (zV (by kernel_rfl)) ?_; exact w2 _); refine xMv ?_; refine xEx ?_; refine xEx ?_; refine xBa ?_; intro _; refine xSt ?_; refine xAs ?_; refine zY ?_; refine zX (zZ ?_); apply zQ; rfl; rfl; rfl; (apply g_build; rfl; rfl; rfl; rfl); apply zQ; rfl; rfl; rfl; (apply g_build; rfl; rfl; rfl; rfl); apply zQ; rfl; rfl; rfl; (refine zK rfl rfl (zV (by kernel_rfl)) ?_; exact w3 _); refine xMv ?_; refine xEx ?_; refine xEx ?_; refine xBa ?_; intro _; refine xSt ?_; refine xAs ?_; refine zY ?_; refine zX (zZ ?_); refine xLa ?_; refine xLa ?_; simp only [zP, zU, zT, zW, retA, ↓reduceIte, Nat.reduceEqDiff]; rotate_left
  (all_goals (repeat (rename BV _ _ => hbv; first | cases hbv | clear hbv)))
  all_goals (try (first | cases ‹true = false› | cases ‹false = true›))
  clear g1 g2 w1 w2 w3
  refine exl_weaken (s' := ⟨[(39, .agg [.dl 8 A]), (40, .agg [.dl 8 B]), (2, .int .i64 0), (4, .int .i64 0), (6, .int .i64 540)], σ, [], Tryz.f9.ntmps⟩) (St.le_of (by repeat (first | exact trivial | refine ⟨rfl, ?_⟩)) (by repeat (first | exact q_r | apply q_q | apply q_k | exact q_a))) ?_
  have v1 := sameTurns_c [⟨7, 2, 2, [0]⟩]
  have v2 := same_v
  apply zQ; rfl; rfl; rfl; (refine zK rfl rfl (zV (by kernel_rfl)) ?_; exact m1 _); refine xMv ?_; refine xEx ?_; refine xEx ?_; refine xBa ?_; intro _; refine xSt ?_; refine xAs ?_; refine zY ?_; refine zX (zZ ?_); refine xLa ?_; refine xLa ?_; apply zQ; rfl; rfl; rfl; (refine zK rfl rfl (zV (by kernel_rfl)) ?_; exact m2 _); refine xMv ?_; refine xEx ?_; refine xEx ?_; refine xBa ?_; intro _; refine xSt ?_; refine xAs ?_; refine zY ?_; refine zX (zZ ?_); refine xLa ?_; apply zQ; rfl; rfl; rfl; (refine zK rfl rfl (zV (by kernel_rfl)) ?_; exact t1 _); refine xMv ?_; refine xEx ?_; refine xEx ?_; refine xAs ?_; refine xAs ?_; refine zY ?_; refine zX (zZ ?_); refine xLa ?_; apply zQ; rfl; rfl; rfl; (apply g_build; rfl; rfl; rfl; rfl); apply zQ; rfl; rfl; rfl; (refine zK rfl rfl (zV (by kernel_rfl)) ?_; exact w4 _); refine xMv ?_; refine xEx ?_; refine xEx ?_; refine xBa ?_; intro _; refine xSt ?_; refine xAs ?_; refine zY ?_; refine zX (zZ ?_); refine xLa ?_; apply zQ; rfl; rfl; rfl; (refine zK rfl rfl (zV (by kernel_rfl)) ?_; exact t2 _); refine xMv ?_; refine xEx ?_; refine xEx ?_; refine xAs ?_; refine xAs ?_; refine zY ?_; refine zX ?_; refine zX (zZ ?_); refine xMv ?_; refine xBi ?_; intro _ _; refine xMv ?_; refine q_d (fun h h_k => ?_) (fun h h_k => ?_) <;> ((try subst h_k); (have hp := h; try simp only [q_n] at hp); (try (exfalso; first | omega | (cases hp; done))));
  refine yMv ?_; refine yBi ?_; intro _ _; refine xPf ?_; refine xMv ?_; refine q_d (fun h h_k => ?_) (fun h h_k => ?_) <;> ((try subst h_k); (have hp := h; try simp only [q_n] at hp); (try (exfalso; first | omega | (cases hp; done))));
  refine yMv ?_; refine yBi ?_; intro _ _; refine xPf ?_; refine xMv ?_; refine q_d (fun h h_k => ?_) (fun h h_k => ?_) <;> ((try subst h_k); (have hp := h; try simp only [q_n] at hp); (try (exfalso; first | omega | (cases hp; done))));
  refine yMv ?_; refine yBi ?_; intro _ _; refine xPf ?_; refine xMv ?_; refine q_d (fun h h_k => ?_) (fun h h_k => ?_) <;> ((try subst h_k); (have hp := h; try simp only [q_n] at hp); (try (exfalso; first | omega | (cases hp; done))));
  refine yMv ?_; refine yBi ?_; intro _ _; refine xPf ?_; refine xMv ?_; refine q_d (fun h h_k => ?_) (fun h h_k => ?_) <;> ((try subst h_k); (have hp := h; try simp only [q_n] at hp); (try (exfalso; first | omega | (cases hp; done))));
  refine yMv ?_; refine yBi ?_; intro _ _; refine xPf ?_; refine xMv ?_; refine q_d (fun h h_k => ?_) (fun h h_k => ?_) <;> ((try subst h_k); (have hp := h; try simp only [q_n] at hp); (try (exfalso; first | omega | (cases hp; done))));
  refine yMv ?_; refine yBi ?_; intro _ _; refine xPf ?_; refine xMv ?_; refine q_d (fun h h_k => ?_) (fun h h_k => ?_) <;> ((try subst h_k); (have hp := h; try simp only [q_n] at hp); (try (exfalso; first | omega | (cases hp; done))));
  refine yMv ?_; refine yBi ?_; intro _ _; refine xPf ?_; refine xMv ?_; refine q_d (fun h h_k => ?_) (fun h h_k => ?_) <;> ((try subst h_k); (have hp := h; try simp only [q_n] at hp); (try (exfalso; first | omega | (cases hp; done))));
  refine yLa ?_; apply exl_isW; rfl; (rfl); rfl; rfl; (refine zK rfl rfl (zV (by kernel_rfl)) ?_; exact k1 _); refine yBi ?_; intro _ _; refine xPf ?_; refine xMv ?_; refine q_d (fun h h_k => ?_) (fun h h_k => ?_) <;> ((try subst h_k); (have hp := h; try simp only [q_n] at hp); (try (exfalso; first | omega | (cases hp; done))));
  refine yLa ?_; refine yLa ?_; apply exl_isBW; rfl; (rfl); rfl; rfl; (refine zK rfl rfl (zV (by kernel_rfl)) ?_; exact s1 _); intro _ _; refine yNo ?_; intro _ _; refine xPf ?_; refine xMv ?_; refine q_d (fun h h_k => ?_) (fun h h_k => ?_) <;> ((try subst h_k); (have hp := h; try simp only [q_n] at hp); (try (exfalso; first | omega | (cases hp; done))));
  refine xSk ?_; refine xSk ?_; refine xSk ?_; refine xSk ?_; refine xPt ?_; refine zY ?_; refine ex_cond_t rfl (by rfl) ?_; refine zX (zZ ?_); refine xAs ?_; refine zY ?_; refine zJ ?_; simp only [zP, zU, zT, zW, retA, ↓reduceIte, Nat.reduceEqDiff]; rotate_left; refine yFa ?_; refine yLd ?_; apply exl_isW; rfl; (rfl); rfl; rfl; (apply g_len; rfl; rfl; (rfl)); refine yBi ?_; intro _ _; refine xPf ?_; refine zY ?_; refine q_c (fun h h_k => ?_) (fun h h_k => ?_) <;> ((try subst h_k); (have hp := h; try simp only [q_n] at hp); (try (exfalso; first | omega | (cases hp; done))));
  refine zR ?_; refine zX ?_; refine zX (zZ ?_); refine xMv ?_; apply zQ; rfl; rfl; rfl; (exact gop_sealed (g_buildSlice rfl rfl (by decide) rfl rfl (by (simp only [chunkN, List.take_succ_cons, List.take_zero, List.drop_succ_cons, List.drop_zero]; rfl)))); apply zQ; rfl; rfl; rfl; (apply g_build; rfl; rfl; rfl; rfl); apply zQ; rfl; rfl; rfl; (exact gop_sealed (g_buildSlice rfl rfl (by decide) rfl rfl (by (simp only [chunkN, List.take_succ_cons, List.take_zero, List.drop_succ_cons, List.drop_zero]; rfl)))); apply exl_isB; rfl; rfl; rfl; (refine zK rfl rfl (zV (by kernel_rfl)) ?_; exact v1 _); intro _ _; refine xNo ?_; intro _ _; refine xMv ?_; refine q_d (fun h h_k => ?_) (fun h h_k => ?_) <;> ((try subst h_k); (have hp := h; try simp only [q_n] at hp); (try (exfalso; first | omega | (cases hp; done))));
  refine xSk ?_; refine xSk ?_; refine xSk ?_; refine xSk ?_; refine xSk ?_; refine xPt ?_; refine zY ?_; refine ex_cond_t rfl (by rfl) ?_; refine zX (zZ ?_); refine xAs ?_; refine zY ?_; refine zJ ?_; simp only [zP, zU, zT, zW, retA, ↓reduceIte, Nat.reduceEqDiff]; rotate_left; refine yMv ?_; apply exl_isW; rfl; (rfl); rfl; rfl; (apply g_build; rfl; rfl; rfl; rfl); apply exl_isW; rfl; (rfl); rfl; rfl; (exact gop_sealed (g_buildSlice rfl rfl (by decide) rfl rfl (by (simp only [chunkN, List.take_succ_cons, List.take_zero, List.drop_succ_cons, List.drop_zero]; rfl)))); apply exl_isBW; rfl; (rfl); rfl; rfl; (refine zK rfl rfl (zV (by kernel_rfl)) ?_; exact v2 _); intro _ _; refine yNo ?_; intro _ _; refine xPf ?_; refine zY ?_; refine q_c (fun h h_k => ?_) (fun h h_k => ?_) <;> ((try subst h_k); (have hp := h; try simp only [q_n] at hp); (try (exfalso; first | omega | (cases hp; done))));
  refine zX (zZ ?_); refine xAs ?_; refine zY ?_; refine zJ ?_; simp only [zP, zU, zT, zW, retA, ↓reduceIte, Nat.reduceEqDiff]; rotate_left; refine zR ?_; refine zX (zZ ?_); simp only [zP, zU, zT, zW, retA, ↓reduceIte, Nat.reduceEqDiff]; rotate_left
  (all_goals (repeat (rename BV _ _ => hbv; first | cases hbv | clear hbv)))
  all_goals (try (first | cases ‹true = false› | cases ‹false = true›))
  clear m1 m2 t1 w4 t2 k1 s1 v1 v2
  refine exl_weaken (s' := ⟨[], σ, [], Tryz.f9.ntmps⟩) (St.le_of (by repeat (first | exact trivial | refine ⟨rfl, ?_⟩)) (by repeat (first | exact q_r | apply q_q | apply q_k | exact q_a))) ?_
  have n1 := new_ok 2 (by decide)
  have n2 := new_bad 9 (by decide)
  have d1 := do_empty ⟨0, 0, 0, 0, zS⟩
  have d2 := do_c _ _ ⟨0, 0, 0, 0, zS⟩ (ex10 0 (by decide))
  rw [ex11] at d2
  apply zQ; rfl; rfl; rfl; (refine zK rfl rfl (zV (by kernel_rfl)) ?_; exact n1 _); refine xMv ?_; refine xEx ?_; refine xEx ?_; refine xBa ?_; intro _; refine xSt ?_; refine xAs ?_; refine zY ?_; refine zX (zZ ?_); apply zQ; rfl; rfl; rfl; (refine zK rfl rfl (zV (by kernel_rfl)) ?_; exact n2 _); refine xMv ?_; refine xEx ?_; refine xEx ?_; refine xAs ?_; refine zY ?_; refine zX (zZ ?_); apply zQ; rfl; rfl; rfl; (apply g_build; rfl; rfl; rfl; rfl); apply zQ; rfl; rfl; rfl; (apply g_build; rfl; rfl; rfl; rfl); apply zQ; rfl; rfl; rfl; (refine zK rfl rfl (zV (by kernel_rfl)) ?_; exact d1 _); refine xMv ?_; refine xEx ?_; refine xEx ?_; refine xAs ?_; refine zY ?_; refine zX (zZ ?_); refine xLa ?_; apply zQ; rfl; rfl; rfl; (apply g_build; rfl; rfl; rfl; rfl); apply zQ; rfl; rfl; rfl; (refine zK rfl rfl (zV (by kernel_rfl)) ?_; exact d2 _); refine xMv ?_; refine xEx ?_; refine xEx ?_; refine xAs ?_; refine zY ?_; refine zX ?_; refine zX (zZ ?_); refine xMv ?_; refine xBi ?_; intro _ _; refine xMv ?_; refine q_d (fun h h_k => ?_) (fun h h_k => ?_) <;> ((try subst h_k); (have hp := h; try simp only [q_n] at hp); (try (exfalso; first | omega | (cases hp; done))));
  refine yMv ?_; refine yBi ?_; intro _ _; refine xPf ?_; refine xMv ?_; refine q_d (fun h h_k => ?_) (fun h h_k => ?_) <;> ((try subst h_k); (have hp := h; try simp only [q_n] at hp); (try (exfalso; first | omega | (cases hp; done))));
  refine yMv ?_; refine yBi ?_; intro _ _; refine xPf ?_; refine xMv ?_; refine q_d (fun h h_k => ?_) (fun h h_k => ?_) <;> ((try subst h_k); (have hp := h; try simp only [q_n] at hp); (try (exfalso; first | omega | (cases hp; done))));
  refine yMv ?_; refine yBi ?_; intro _ _; refine xPf ?_; refine zY ?_; refine q_c (fun h h_k => ?_) (fun h h_k => ?_) <;> ((try subst h_k); (have hp := h; try simp only [q_n] at hp); (try (exfalso; first | omega | (cases hp; done))));
  refine zR ?_; refine zX ?_; refine zX (zZ ?_); apply zQ; rfl; rfl; rfl; (refine zK rfl rfl (zV (by kernel_rfl)) ?_; exact given_c _ _ _ _ _); apply zQ; rfl; rfl; rfl; (apply g_build; rfl; rfl; rfl; rfl); apply zQ; rfl; rfl; rfl; (refine zK rfl rfl (zV (by kernel_rfl)) ?_; exact given_c _ _ _ _ _); apply zQ; rfl; rfl; rfl; (apply g_build; rfl; rfl; rfl; rfl); apply zQ; rfl; rfl; rfl; (apply g_build; rfl; rfl; rfl; rfl); apply zQ; rfl; rfl; rfl; (apply g_build; rfl; rfl; rfl; rfl); apply zQ; rfl; rfl; rfl; (apply g_build; rfl; rfl; rfl; rfl); apply zQ; rfl; rfl; rfl; (exact gop_sealed (g_buildSlice rfl rfl (by decide) rfl rfl (by (simp only [chunkN, List.take_succ_cons, List.take_zero, List.drop_succ_cons, List.drop_zero]; rfl)))); apply zQ; rfl; rfl; rfl; (apply g_len; rfl; rfl; (rfl)); refine xMv ?_; refine zY ?_; refine zL ?_; simp only [zP, zU, zT, zW, retA, ↓reduceIte, Nat.reduceEqDiff]; rotate_left
  (all_goals (repeat (rename BV _ _ => hbv; first | cases hbv | clear hbv)))
  all_goals (try (first | cases ‹true = false› | cases ‹false = true›))
  clear n1 n2 d1 d2
  rename Nat => b; revert b
  intro b
  refine ex_loop (fun (k : Nat) => (⟨[(167, .dl 12 (rdS.map psC)), (168, .int .i64 5), (169, .int .i64 k), (17, .ptr b 0)], .cells b (stC (rdB.getD k []) (qPs (rdQ.getD k []))) 41 :: σ, [], Tryz.f9.ntmps⟩ : St)) (fun k => k ≤ 5) (fun k => 5 - k) 0 (by decide) (St.le_of (by repeat (first | exact trivial | refine ⟨rfl, ?_⟩)) (by repeat (first | exact q_r | apply q_q | apply q_k))) ?_
  intro k hI
  by_cases hk : k < 5
  · have hd := st_rd k hk
    have hg : (rdS.map psC)[k]? = some (psC (rdS.getD k ⟨0, 0, 0, 0, sA⟩)) := by
      obtain ⟨r, hr⟩ : ∃ r, rdS[k]? = some r := get_some hk
      rw [List.getElem?_map, List.getD_eq_getElem?_getD, hr]; rfl
    have hl5 : 5 = (rdS.map psC).length := rfl
    generalize rdS.map psC = R at hg hl5 ⊢
    generalize rdS.getD k ⟨0, 0, 0, 0, sA⟩ = r at hd hg
    generalize rdB.getD k [] = B1 at hd ⊢
    generalize rdQ.getD k [] = Q1 at hd ⊢
    generalize hB2 : rdB.getD (k + 1) [] = B2 at hd
    generalize hQ2 : rdQ.getD (k + 1) [] = Q2 at hd
    refine zX (zZ ?_); refine xBi ?_; intro _ _; refine zY ?_; refine zX ?_; refine q_c (fun h h_k => ?_) (fun h h_k => ?_) <;> ((try subst h_k); (have hp := h; try simp only [q_n] at hp); (try (exfalso; first | omega | (cases hp; done))));
    refine zR ?_; refine zX ?_; refine zL ?_; refine zX (zZ ?_); refine xIx ?_; refine xLa ?_; refine xBa ?_; intro _; refine xSt ?_; refine zY ?_; refine zX (zZ ?_); refine xLa ?_; refine xLa ?_; apply zQ; rfl; rfl; rfl; (refine zK rfl rfl (zV (by kernel_rfl)) ?_; exact hd _); refine xMv ?_; refine xEx ?_; refine xEx ?_; refine xSt ?_; refine xAs ?_; refine zY ?_; refine zX (zZ ?_); refine xMv ?_; refine xBi ?_; intro _ _; refine zY ?_; refine q_c (fun h h_k => ?_) (fun h h_k => ?_) <;> ((try subst h_k); (have hp := h; try simp only [q_n] at hp); (try (exfalso; first | omega | (cases hp; done))));
    refine zR ?_; refine zZ ?_; refine xAd ?_; refine xMv ?_; refine zN ?_; simp only [zP, zU, zT, zW, retA, ↓reduceIte, Nat.reduceEqDiff]; rotate_left
    (all_goals (repeat (rename BV _ _ => hbv; first | cases hbv | clear hbv)))
    all_goals (try (first | cases ‹true = false› | cases ‹false = true›))
    refine ⟨k + 1, hk, by omega, ?_⟩
    rw [hB2, hQ2]
    exact q_le
  · obtain rfl : k = 5 := by omega
    rw [show rdB.getD 5 [] = [[sA, sB], [sA]] from rfl, show rdQ.getD 5 [] = [] from rfl]
    clear hI hk
    have h0 : (([[sA, sB], [sA]] : List (List Sl)).map bkC)[0]? = some (bkC [sA, sB]) := rfl
    have h1 : (([[sA, sB], [sA]] : List (List Sl)).map bkC)[1]? = some (bkC [sA]) := rfl
    refine zX (zZ ?_); refine xBi ?_; intro _ _; refine zY ?_; refine zX ?_; refine q_c (fun h h_k => ?_) (fun h h_k => ?_) <;> ((try subst h_k); (have hp := h; try simp only [q_n] at hp); (try (exfalso; first | omega | (cases hp; done))));
    refine ex_exit ?_; refine zX (zZ ?_); refine xFa ?_; refine xLd ?_; refine xLn ?_; refine xBi ?_; intro _ _; refine xMv ?_; refine q_d (fun h h_k => ?_) (fun h h_k => ?_) <;> ((try subst h_k); (have hp := h; try simp only [q_n] at hp); (try (exfalso; first | omega | (cases hp; done))));
    refine yFa ?_; refine yLd ?_; refine yIx ?_; refine yFa ?_; refine yLd ?_; apply exl_isW; rfl; (rfl); rfl; rfl; (apply g_len; rfl; rfl; (exact (List.length_map _).symm)); refine yBi ?_; intro _ _; refine xPt ?_; refine xMv ?_; refine q_d (fun h h_k => ?_) (fun h h_k => ?_) <;> ((try subst h_k); (have hp := h; try simp only [q_n] at hp); (try (exfalso; first | omega | (cases hp; done))));
    refine yFa ?_; refine yLd ?_; refine yIx ?_; refine yFa ?_; refine yLd ?_; apply exl_isW; rfl; (rfl); rfl; rfl; (apply g_len; rfl; rfl; (exact (List.length_map _).symm)); refine yBi ?_; intro _ _; refine xPt ?_; refine xMv ?_; refine q_d (fun h h_k => ?_) (fun h h_k => ?_) <;> ((try subst h_k); (have hp := h; try simp only [q_n] at hp); (try (exfalso; first | omega | (cases hp; done))));
    refine yFa ?_; refine yFa ?_; refine yLd ?_; apply exl_isW; rfl; (rfl); rfl; rfl; (apply g_len; rfl; rfl; (exact (List.length_map _).symm)); refine yBi ?_; intro _ _; refine xPt ?_; refine xAs ?_; refine zY ?_; refine zJ ?_; simp only [zP, zU, zT, zW, retA, ↓reduceIte, Nat.reduceEqDiff]; rotate_left; refine xSk ?_; refine xSk ?_; refine xSk ?_; refine xSk ?_; refine xSk ?_; refine xPf ?_; refine xAs ?_; refine zY ?_; refine zJ ?_; simp only [zP, zU, zT, zW, retA, ↓reduceIte, Nat.reduceEqDiff]; rotate_left; refine xSk ?_; refine xSk ?_; refine xSk ?_; refine xSk ?_; refine xSk ?_; refine xSk ?_; refine xSk ?_; refine xPf ?_; refine xMv ?_; refine xSk ?_; refine xSk ?_; refine xSk ?_; refine xSk ?_; refine xSk ?_; refine xPf ?_; refine xAs ?_; refine zY ?_; refine zJ ?_; simp only [zP, zU, zT, zW, retA, ↓reduceIte, Nat.reduceEqDiff]; rotate_left; refine xSk ?_; refine xSk ?_; refine xSk ?_; refine xSk ?_; refine xSk ?_; refine xSk ?_; refine xSk ?_; refine xPf ?_; refine xMv ?_; refine xSk ?_; refine xSk ?_; refine xSk ?_; refine xSk ?_; refine xSk ?_; refine xSk ?_; refine xSk ?_; refine xPf ?_; refine xMv ?_; refine xSk ?_; refine xSk ?_; refine xSk ?_; refine xSk ?_; refine xSk ?_; refine xPf ?_; refine xAs ?_; refine zY ?_; refine zJ ?_; simp only [zP, zU, zT, zW, retA, ↓reduceIte, Nat.reduceEqDiff]; rotate_left
    (all_goals (repeat (rename BV _ _ => hbv; first | cases hbv | clear hbv)))
    all_goals (try (first | cases ‹true = false› | cases ‹false = true›))
    refine q_ri (bool_eq ?_)
    rfl
end Go.Proofs.YtkhoengjdfmfaaaGreat
namespace Go.Proofs.YtkhoengjdfmfaaaGreat
open Go.WideMaps Go.MapKept Go.RowKit
abbrev keyV (ns : List Int) : Value := .agg (ns.map (Value.int .i64)).toArray
def fsInts (P : Program) : Nat → List Field → Bool
  | _, [] => true
  | i, f :: fs => (match P.underlying f.type with | some (.int .i64) => true | _ => false) && (P.cellsOf f.type == 1) && (f.name != "_") && (f.offset == i) && fsInts P (i + 1) fs
def intsKey (P : Program) (k : TypeId) (n : Nat) : Bool :=
  P.keyType k && (P.cellsOf k == n) && (P.types.size != 0) && match P.underlying k with
  | some (.struct fs) => fs.size == n && fsInts P 0 fs.toList
  | some (.array m e) => m == n && (P.cellsOf e == 1) && (match P.underlying e with | some (.int .i64) => true | _ => false)
  | _ => false
def inR (n : Int) : Prop := -9223372036854775808 ≤ n ∧ n ≤ 9223372036854775807
theorem lits_int {P : Program} {t : TypeId} {D : Nat} {n : Int} (ht : (match P.underlying t with | some (.int .i64) => true | _ => false) = true) (hn : inR n) : P.keyLits (D + 1) t [.int .i64 n] = some [.int .i64 n] := by
  unfold Program.keyLits
  split at ht
  · rename_i h; rw [h]; simp [WalkArith.wf_i64 hn]
  · cases ht
theorem drop_one {α : Type} {l : List α} {i : Nat} {x : α} (h : l[i]? = some x) : (l.drop i).take 1 = [x] := by
  obtain ⟨h1, h2⟩ := List.getElem?_eq_some_iff.1 h
  rw [List.drop_eq_getElem_cons h1, h2]; rfl
theorem lits_fs {P : Program} {D : Nat} {ns : List Int} (hn : ∀ n ∈ ns, inR n) : ∀ (fs : List Field) (i : Nat), fsInts P i fs = true → i + fs.length = ns.length →
    (fs.mapM fun f => P.keyLits (D + 1) f.type (((ns.map (Value.int .i64)).drop f.offset).take (P.cellsOf f.type))) = some ((ns.drop i).map fun n => [Lit.int .i64 n])
  | [], i, _, hl => by rw [List.drop_of_length_le (by simp at hl; omega)]; rfl
  | f :: fs, i, h, hl => by
    simp only [fsInts, Bool.and_eq_true, beq_iff_eq] at h
    obtain ⟨⟨⟨⟨h1, h2⟩, _⟩, h3⟩, h4⟩ := h
    simp only [List.length_cons] at hl
    have hi : i < ns.length := by omega
    have e1 : (ns.map (Value.int .i64))[i]? = some (.int .i64 ns[i]) := by rw [List.getElem?_map, List.getElem?_eq_getElem hi]; rfl
    have ih := lits_fs (D := D) hn fs (i + 1) h4 (by omega)
    rw [List.mapM_cons, h3, h2, drop_one e1, lits_int h1 (hn _ (List.getElem_mem hi)), ih, List.drop_eq_getElem_cons hi]
    rfl
theorem lits_arr {P : Program} {D : Nat} {e : TypeId} (he : (match P.underlying e with | some (.int .i64) => true | _ => false) = true) {ns : List Int} (hn : ∀ n ∈ ns, inR n) : ∀ (l : List Nat), (∀ i ∈ l, i < ns.length) →
    (l.mapM fun i => P.keyLits (D + 1) e (((ns.map (Value.int .i64)).drop (i * 1)).take 1)) = some (l.map fun i => [Lit.int .i64 (ns.getD i 0)])
  | [], _ => rfl
  | i :: l, h => by
    have hi := h i (by simp)
    have e1 : (ns.map (Value.int .i64))[i * 1]? = some (.int .i64 ns[i]) := by rw [Nat.mul_one, List.getElem?_map, List.getElem?_eq_getElem hi]; rfl
    have ih := lits_arr (D := D) he hn l (fun j hj => h j (by simp [hj]))
    rw [List.mapM_cons, drop_one e1, lits_int he (hn _ (List.getElem_mem hi)), ih]
    simp [List.getElem?_eq_getElem hi]
theorem key_of {P : Program} {k : TypeId} {n : Nat} (hk : intsKey P k n = true) {ns : List Int} (hl : ns.length = n) (hn : ∀ x ∈ ns, inR x) : ∃ l, keyOf P k (keyV ns) = some l := by
  unfold intsKey at hk
  simp only [Bool.and_eq_true, beq_iff_eq, bne_iff_ne] at hk
  obtain ⟨⟨⟨h1, h2⟩, h0⟩, h3⟩ := hk
  obtain ⟨m, hm⟩ : ∃ m, P.types.size = m + 1 := ⟨P.types.size - 1, by omega⟩
  split at h3
  · rename_i fs hu
    simp only [Bool.and_eq_true, beq_iff_eq] at h3
    have hall : fs.all (·.name != "_") = true := by
      rw [Array.all_eq_true_iff_forall_mem]
      intro f hf
      have : ∀ (l : List Field) (i : Nat), fsInts P i l = true → ∀ f ∈ l, (f.name != "_") = true := by
        intro l
        induction l with
        | nil => intro _ _ f hf; cases hf
        | cons g l ih =>
          intro i h f hf
          simp only [fsInts, Bool.and_eq_true] at h
          rcases List.mem_cons.1 hf with rfl | hf
          · exact h.1.1.2
          · exact ih _ h.2 f hf
      exact this _ 0 h3.2 f (Array.mem_toList_iff.2 hf)
    have hF : (Value.formed P k (keyV ns)) = true := by simp [Value.formed, hu, hl, h2]
    have := lits_fs (P := P) (D := m) (ns := ns) hn fs.toList 0 h3.2 (by simp; omega)
    refine ⟨Lit.string (keyBytes ((ns.drop 0).map fun n => [Lit.int .i64 n]).flatten), ?_⟩
    · unfold keyOf
      rw [hu]
      dsimp only
      rw [h1, hF]
      simp only [Bool.and_self, if_true, hm, Value.cells]
      unfold Program.keyLits
      rw [hu]
      dsimp only
      rw [if_pos ⟨by simp [hl, h2], hall⟩, this]
      rfl
  · rename_i a e hu
    simp only [Bool.and_eq_true, beq_iff_eq] at h3
    obtain ⟨⟨ha, hc⟩, he⟩ := h3
    subst ha
    have hF : (Value.formed P k (keyV ns)) = true := by simp [Value.formed, hu, hl, h2]
    have := lits_arr (P := P) (D := m) he hn (List.range a) (fun i hi => by rw [hl]; exact List.mem_range.1 hi)
    refine ⟨Lit.string (keyBytes ((List.range a).map fun i => [Lit.int .i64 (ns.getD i 0)]).flatten), ?_⟩
    · unfold keyOf
      rw [hu]
      dsimp only
      rw [h1, hF]
      simp only [Bool.and_self, if_true, hm, Value.cells]
      unfold Program.keyLits
      rw [hu]
      dsimp only
      rw [if_pos (by simp [hl, h2]), hc, this]
      rfl
  · cases h3
theorem keyV_inj {a b : List Int} (h : keyV a = keyV b) : a = b := by
  have h1 : (a.map (Value.int .i64)) = b.map (Value.int .i64) := by injection h with h; simpa using congrArg Array.toList h
  have : ∀ (l m : List Int), l.map (Value.int .i64) = m.map (Value.int .i64) → l = m := by
    intro l
    induction l with
    | nil => intro m h; cases m; rfl; cases h
    | cons x l ih =>
      intro m h
      cases m with
      | nil => cases h
      | cons y m => simp only [List.map_cons, List.cons.injEq, Value.int.injEq, true_and] at h; rw [h.1, ih m h.2]
  exact this a b h1
structure KSet (P : Program) (k : TypeId) (es : Array MapEntry) (clock : Nat) (S : List Int → Bool) : Prop where
  st : Stamped es clock
  ks : ∀ e ∈ es.toList, (∃ l, keyOf P k e.key = some l) ∧ e.val = .bool true ∧ ∃ q, e.key = keyV q ∧ S q = true
  al : ∀ q, S q = true → ∃ e ∈ es.toList, e.key = keyV q
theorem KSet.empty (P : Program) (k : TypeId) : KSet P k #[] 0 (fun _ => false) := ⟨stamped_empty 0, by simp, by simp⟩
section
variable {P : Program} {ro : Option Nat} {env : Env} {σ : List Ent} {o : Oper} {dst : Option Tmp} {ty : TypeId} {pos : String} {after : Array Edge} {guard : Option (Nat × Bool)}
inductive MappedO (σ : List Ent) : AV → List Ent → Prop
  | mk (b : Nat) : MappedO σ (.mp b) (.obj b (.map #[] 0) :: σ)
theorem g_makeMapO {t : TypeId} : GOp P ro ⟨dst, .makeMap t none, ty, pos, after, guard⟩ env σ (MappedO σ) :=
  gop_run (by intro c h; cases h) fun X M a w hg ho => by
    refine ⟨M, .map (some w.heap.size), w.alloc (.map #[] 0), .mp w.heap.size, .obj w.heap.size (.map #[] 0) :: σ, Mem.le_refl M, ?_, by simp [VRel], .mk _, .inl ?_⟩
    · exact hg.alloc _ (.obj w.heap.size (.map #[] 0)) rfl (Go.heap_alloc_new w _)
    · simp [execOp, Instr.makeMap, newObj, Sem.run_bind, Sem.run]
theorem ints_val {M : Mem} : ∀ {ns : List Int} {vs : List Value}, VRels M (ns.map (AV.int .i64)) vs → vs = ns.map (Value.int .i64)
  | [], vs, h => by simpa [VRels] using h
  | n :: ns, vs, h => by
    simp only [List.map_cons, VRels, VRel] at h
    obtain ⟨v, r, rfl, rfl, h⟩ := h
    rw [ints_val h]; rfl
theorem key_val {M : Mem} {ns : List Int} {v : Value} (h : VRel M (.agg (ns.map (AV.int .i64))) v) : v = keyV ns := by
  simp only [VRel] at h
  obtain ⟨vs, rfl, h⟩ := h
  unfold keyV
  rw [← ints_val h]
def mapOfK (P : Program) (t : TypeId) : Option (TypeId × TypeId) := match P.underlying t with
  | some (.map kt et) => some (kt, et)
  | _ => none
theorem mapOfK_spec {t kt et : TypeId} (h : mapOfK P t = some (kt, et)) : P.underlying t = some (.map kt et) := by
  unfold mapOfK at h
  split at h
  · rename_i h1; cases h; exact h1
  · cases h
theorem g_lookupK {t kt et : TypeId} {x ix : Operand} {b clock : Nat} {es : Array MapEntry} {S : List Int → Bool} {n : Nat} {ns : List Int} {l : List AV} {q : Bool} (ht : mapOfK P t = some (kt, et)) (K : KeyLaw P kt) (hz : zeroV P et = some (.bool false)) (hx : evA env x = some (.mp b)) (hm : Ent.obj b (.map es clock) ∈ σ) (hS : KSet P kt es clock S) (hi : evA env ix = some (.agg l)) (hlns : l = ns.map (AV.int .i64)) (hk : intsKey P kt n = true) (hl : ns.length = n) (hn : ∀ x ∈ ns, inR x) (hq : S ns = q) :
    GOp P ro ⟨dst, .lookup t x ix false, ty, pos, after, guard⟩ env σ (Is (.bool q) σ) :=
  gop_pure _ (by intro c h; cases h) fun X M a w hg ho => by
    subst hlns hq
    have h1 := ho x (by simp [Op.operands]) _ hx
    have h2 := key_val (ho ix (by simp [Op.operands]) _ hi)
    simp only [VRel] at h1
    obtain ⟨zv, hz1, hz2⟩ := zeroV_spec hz
    have hz2 := hz2 M
    simp only [VRel] at hz2
    subst hz2
    have hb : w.heap[b]? = some (.map es clock) := hg.ent _ hm
    obtain ⟨kl, hkl⟩ := key_of hk hl hn
    refine ⟨.bool (S ns), by simp [VRel], ?_⟩
    rcases K.find w hkl es.toList (fun e he => (hS.ks e he).1) with ⟨hf, hno⟩ | ⟨j, e, hf, hj, he⟩
    · have : S ns = false := by
        cases hs : S ns with
        | false => rfl
        | true => obtain ⟨e, he, hek⟩ := hS.al ns hs; exact absurd hek (hno e he)
      simp [execOp, h1, h2, Sem.run_bind, Instr.lookup, run_underlying (mapOfK_spec ht), MapKept.run_getObj_map hb, K.check w _ hkl, hf, hz1, Result.andThen, this]
    · have hmem : e ∈ es.toList := List.mem_of_getElem? hj
      obtain ⟨_, hv, q, hq, hsq⟩ := hS.ks e hmem
      have hqn : q = ns := keyV_inj (hq.symm.trans he)
      subst hqn
      simp [execOp, h1, h2, Sem.run_bind, Instr.lookup, run_underlying (mapOfK_spec ht), MapKept.run_getObj_map hb, K.check w _ hkl, hf, Result.andThen, hsq, hv]
inductive UpdK (P : Program) (kt : TypeId) (b : Nat) (S : List Int → Bool) (ns : List Int) (σ1 : Ent → List Ent) : AV → List Ent → Prop
  | mk (es : Array MapEntry) (clock : Nat) (h : KSet P kt es clock (fun q => S q || decide (q = ns))) : UpdK P kt b S ns σ1 (.raw undef) (σ1 (.obj b (.map es clock)))
theorem g_updateK {t kt et : TypeId} {x ix y : Operand} {b clock : Nat} {es : Array MapEntry} {S : List Int → Bool} {n : Nat} {ns : List Int} {l : List AV} {σ1 : Ent → List Ent} (ht : mapOfK P t = some (kt, et)) (K : KeyLaw P kt) (hx : evA env x = some (.mp b)) (hi : evA env ix = some (.agg l)) (hy : evA env y = some (.bool true)) (hu : ∀ e, Upd σ (.obj b (.map es clock)) e (σ1 e)) (hS : KSet P kt es clock S) (hlns : l = ns.map (AV.int .i64)) (hk : intsKey P kt n = true) (hl : ns.length = n) (hn : ∀ x ∈ ns, inR x) :
    GOp P ro ⟨dst, .mapUpdate t x ix y, ty, pos, after, guard⟩ env σ (UpdK P kt b S ns σ1) :=
  gop_run (by intro c h; cases h) fun X M a w hg ho => by
    subst hlns
    have h1 := ho x (by simp [Op.operands]) _ hx
    have h2 := key_val (ho ix (by simp [Op.operands]) _ hi)
    have h3 := ho y (by simp [Op.operands]) _ hy
    simp only [VRel] at h1 h3
    have hb : w.heap[b]? = some (.map es clock) := hg.ent _ (hu (.obj b (.map #[] 0))).mem
    obtain ⟨kl, hkl⟩ := key_of hk hl hn
    have hfin : ∀ es' clock', KSet P kt es' clock' (fun q => S q || decide (q = ns)) → (Instr.mapUpdate t (.map (some b)) (keyV ns) (.bool true)).run P w = .ok () { w with heap := w.heap.setIfInBounds b (.map es' clock') } →
        ∃ M' u w' v σ', M.le M' ∧ Good X M' σ' w' ∧ VRel M' v u ∧ UpdK P kt b S ns σ1 v σ' ∧ ((execOp a.eval ⟨dst, .mapUpdate t x ix y, ty, pos, after, guard⟩).run P w = .ok (.value u) w' ∨ ((execOp a.eval ⟨dst, .mapUpdate t x ix y, ty, pos, after, guard⟩).run P w = .ok .skip w' ∧ u = undef)) := by
      intro es' clock' hS' hrun
      refine ⟨M, undef, { w with heap := w.heap.setIfInBounds b (.map es' clock') }, .raw undef, _, Mem.le_refl M, ?_, by simp [VRel], .mk es' clock' hS', .inr ⟨?_, rfl⟩⟩
      · exact hg.upd (hu _) rfl rfl rfl (fun q hq hne => (heap_set hb).2 q (fun e => hne (by rw [e]; rfl))) (heap_set hb).1 (.inl rfl)
      · simp [execOp, h1, h2, h3, Sem.run_bind, hrun]
    rcases K.find w hkl es.toList (fun e he => (hS.ks e he).1) with ⟨hf, hno⟩ | ⟨j, e, hf, hj, he⟩
    · refine hfin (es.push { key := keyV ns, val := .bool true, born := clock }) (clock + 1) ⟨stamped_push hS.st hno, ?_, ?_⟩ ?_
      · intro e he
        simp only [Array.toList_push, List.mem_append, List.mem_singleton] at he
        rcases he with he | rfl
        · obtain ⟨g1, g2, q, g3, g4⟩ := hS.ks e he
          exact ⟨g1, g2, q, g3, by rw [g4]; rfl⟩
        · exact ⟨⟨kl, hkl⟩, rfl, ns, rfl, by simp⟩
      · intro q hq
        rw [Bool.or_eq_true, decide_eq_true_eq] at hq
        rcases hq with hq | rfl
        · obtain ⟨e, he, hek⟩ := hS.al q hq
          exact ⟨e, by simp only [Array.toList_push, List.mem_append]; exact .inl he, hek⟩
        · exact ⟨_, by simp only [Array.toList_push, List.mem_append, List.mem_singleton]; exact .inr rfl, rfl⟩
      · simp [Instr.mapUpdate, Sem.run_bind, run_underlying (mapOfK_spec ht), MapKept.run_getObj_map hb, K.check w _ hkl, hf, MapKept.run_setObj_map _ hb, Result.andThen]
    · have hmem : e ∈ es.toList := List.mem_of_getElem? hj
      obtain ⟨_, hv, q, hq, hsq⟩ := hS.ks e hmem
      have hqn : q = ns := keyV_inj (hq.symm.trans he)
      subst hqn
      have hj' : es[j]? = some e := by simpa using hj
      have hmod : es.modify j (fun e => { e with key := keyV q, val := .bool true }) = es := by
        apply Array.ext_getElem?
        intro i
        rw [Array.getElem?_modify]
        split
        · rename_i hij
          subst hij
          rw [hj']
          obtain ⟨ek, ev, eb⟩ := e
          dsimp only at he hv
          subst he hv
          rfl
        · rfl
      refine hfin es clock ⟨hS.st, fun e he => ?_, fun p hp => ?_⟩ ?_
      · obtain ⟨g1, g2, q, g3, g4⟩ := hS.ks e he
        exact ⟨g1, g2, q, g3, by rw [g4]; rfl⟩
      · rw [Bool.or_eq_true, decide_eq_true_eq] at hp
        rcases hp with hp | rfl
        · exact hS.al p hp
        · exact hS.al p hsq
      · simp [Instr.mapUpdate, Sem.run_bind, run_underlying (mapOfK_spec ht), MapKept.run_getObj_map hb, K.check w _ hkl, hf, hj', he, K.stays w hkl, MapKept.run_setObj_map _ hb, Result.andThen, hmod]
end
section
variable {P : Program} {ro : Option Nat} {Q : Exit → St → Prop} {ops : Array Oper} {rest : List Oper} {o : Oper} {env : Env} {σ : List Ent} {mk : List Nat} {n : Nat}
theorem exl_mapO {d : Nat} (hgd : o.guard = none) (hd : o.dst = some d) (hn : Nat.blt d n = true) (hg : GOp P ro o env σ (MappedO σ)) (h : ∀ b, EXL P ro ops rest Q ⟨(d, .mp b) :: env, .obj b (.map #[] 0) :: σ, mk, n⟩) : EXL P ro ops (o :: rest) Q ⟨env, σ, mk, n⟩ :=
  exl_plain (s := ⟨env, σ, mk, n⟩) hgd (dst_ok hd hn) hg (by rintro _ _ ⟨b⟩; rw [hd]; exact h b)
theorem exl_updK {kt : TypeId} {b : Nat} {S : List Int → Bool} {ns : List Int} {σ1 : Ent → List Ent} (hgd : o.guard = none) (hd : o.dst = none) (hg : GOp P ro o env σ (UpdK P kt b S ns σ1)) (h : ∀ es clock, KSet P kt es clock (fun q => S q || decide (q = ns)) → EXL P ro ops rest Q ⟨env, σ1 (.obj b (.map es clock)), mk, n⟩) : EXL P ro ops (o :: rest) Q ⟨env, σ, mk, n⟩ :=
  exl_plain (s := ⟨env, σ, mk, n⟩) hgd (by rw [hd]; rfl) hg (by rintro _ _ ⟨es, clock, hS⟩; rw [hd]; exact h es clock hS)
end
end Go.Proofs.YtkhoengjdfmfaaaGreat
namespace Go.Proofs.YtkhoengjdfmfaaaGreat
end Go.Proofs.YtkhoengjdfmfaaaGreat
namespace Go.Proofs.YtkhoengjdfmfaaaGreat
abbrev bkE (b : Nat) (l : List Sl) : Ent := .cells b [sls l] 24
end Go.Proofs.YtkhoengjdfmfaaaGreat
namespace Go.Proofs.YtkhoengjdfmfaaaGreat
def seenL (S : List Ey) (q : Int) : Option Int := (S.find? fun e => decide ((e.1 : Int) = q)).map fun e => e.2.turn
theorem seen_mem {S : List Ey} {q t : Int} (h : seenL S q = some t) : ∃ e ∈ S, (e.1 : Int) = q ∧ e.2.turn = t := by
  unfold seenL at h
  rw [Option.map_eq_some_iff] at h
  obtain ⟨e, he, h2⟩ := h
  have h1 := List.find?_some he
  exact ⟨e, List.mem_of_find?_eq_some he, by simpa using h1, h2⟩
theorem seen_none {S : List Ey} {q : Int} (h : ∀ e ∈ S, (e.1 : Int) ≠ q) : seenL S q = none := by
  unfold seenL
  rw [List.find?_eq_none.2 fun e he => by simpa using h e he]; rfl
theorem seen_some {S : List Ey} {e : Ey} (he : e ∈ S) (h : ∀ x ∈ S, x.1 = e.1 → x = e) : seenL S e.1 = some e.2.turn := by
  cases hs : seenL S e.1 with
  | none =>
    unfold seenL at hs
    rw [Option.map_eq_none_iff, List.find?_eq_none] at hs
    exact absurd (hs e he) (by simp)
  | some t =>
    obtain ⟨x, hx, h1, h2⟩ := seen_mem hs
    rw [← h2, h x hx (by omega)]
theorem seen_upd {S : List Ey} {e : Ey} (h : ∀ x ∈ S, x.1 ≠ e.1) (q : Int) : (if q = (e.1 : Int) then some e.2.turn else seenL S q) = seenL (S ++ [e]) q := by
  unfold seenL
  rw [List.find?_append]
  by_cases hq : q = (e.1 : Int)
  · rw [if_pos hq]
    have : (S.find? fun x => decide ((x.1 : Int) = q)) = none := List.find?_eq_none.2 fun x hx => by have := h x hx; simp; omega
    rw [this]
    simp [hq]
  · rw [if_neg hq]
    cases (S.find? fun x => decide ((x.1 : Int) = q)) with
    | some x => rfl
    | none =>
      have : decide ((e.1 : Int) = q) = false := by simp; omega
      simp [this]
def seqT (l : List Sl) (n : Int) : List Ey := match (givs (entT l n)).foldl givF none with
  | some g => g :: (giv1 (entT l n)).filter fun e => !decide (e.1 = g.1)
  | none => []
theorem giv_eq {l : List Sl} (h : BookC l) (n : Int) : givs (entT l n) = giv1 (entT l n) := by
  unfold givs giv1
  refine List.filter_congr fun e he => ?_
  rcases ent_kind h (entT_mem.1 he).1 with e1 | e1
  · simp [e1]
  · simp [e1]
theorem giv1_mem {E : List Ey} {e : Ey} : e ∈ giv1 E ↔ e ∈ E ∧ e.2.kind = 1 := by unfold giv1; rw [List.mem_filter]; simp
structure GivI (l : List Sl) (n : Int) (g : Ey) : Prop where
  mem : g ∈ entL l ∧ g.2.turn = n ∧ g.2.kind = 1
  least : ∀ x ∈ giv1 (entT l n), x = g ∨ ltE g x
theorem giv_some {l : List Sl} (h : BookC l) {n : Int} {g : Ey} (hg : (givs (entT l n)).foldl givF none = some g) : GivI l n g := by
  have hbef : Bef (givs (entT l n)) := fun a ha b hb => ent_bef h a (entT_mem.1 (mem_flt ha)).1 b (entT_mem.1 (mem_flt hb)).1
  have hup : (givs (entT l n)).Pairwise fun a b => a.1 < b.1 := (entT_up l n).filter _
  have := giv_fold [] (givs (entT l n)) none (by simpa using hbef) (by simpa using hup) rfl
  rw [hg, List.nil_append, giv_eq h] at this
  obtain ⟨h1, h2⟩ := this
  obtain ⟨h3, h4⟩ := giv1_mem.1 h1
  exact ⟨⟨(entT_mem.1 h3).1, (entT_mem.1 h3).2, h4⟩, h2⟩
theorem giv_nil {l : List Sl} (h : BookC l) {n : Int} (hg : (givs (entT l n)).foldl givF none = none) : giv1 (entT l n) = [] := by
  rw [← giv_eq h]
  have : ∀ (E : List Ey) (o : Option Ey), E.foldl givF o = none → E = [] := by
    intro E
    induction E with
    | nil => intro o _; rfl
    | cons e E ih =>
      intro o he
      have h1 := ih _ he
      subst h1
      exfalso
      rw [List.foldl_cons, List.foldl_nil] at he
      unfold givF at he
      cases o with
      | none => cases he
      | some p => dsimp only at he; split at he <;> cases he
  exact this _ _ hg
theorem ent_key {l : List Sl} {a b : Ey} (ha : a ∈ entL l) (hb : b ∈ entL l) (h : a.1 = b.1) : a = b := by
  have h1 := (entL_get.1 ha).1
  have h2 := (entL_get.1 hb).1
  rw [h, h2] at h1
  cases a; cases b
  dsimp only at *
  cases h1; subst h; rfl
theorem seqT_mem {l : List Sl} (h : BookC l) {n : Int} {e : Ey} : e ∈ seqT l n ↔ e ∈ entL l ∧ e.2.turn = n ∧ e.2.kind = 1 := by
  unfold seqT
  cases hg : (givs (entT l n)).foldl givF none with
  | none =>
    have hn := giv_nil h hg
    constructor
    · intro he; cases he
    · rintro ⟨h1, h2, h3⟩
      have : e ∈ giv1 (entT l n) := giv1_mem.2 ⟨entT_mem.2 ⟨h1, h2⟩, h3⟩
      rw [hn] at this; cases this
  | some g =>
    have hG := giv_some h hg
    dsimp only
    rw [List.mem_cons, List.mem_filter, giv1_mem, entT_mem]
    constructor
    · rintro (rfl | ⟨⟨⟨h1, h2⟩, h3⟩, _⟩)
      · exact hG.mem
      · exact ⟨h1, h2, h3⟩
    · rintro ⟨h1, h2, h3⟩
      by_cases e1 : e.1 = g.1
      · exact .inl (ent_key h1 hG.mem.1 e1)
      · exact .inr ⟨⟨⟨h1, h2⟩, h3⟩, by simpa using e1⟩
def seqN (l : List Sl) (N : List Int) : List Ey := N.flatMap (seqT l)
theorem seqN_mem {l : List Sl} (h : BookC l) {N : List Int} {e : Ey} : e ∈ seqN l N ↔ e ∈ entL l ∧ e.2.turn ∈ N ∧ e.2.kind = 1 := by
  unfold seqN
  rw [List.mem_flatMap]
  constructor
  · rintro ⟨n, hn, he⟩
    obtain ⟨h1, h2, h3⟩ := (seqT_mem h).1 he
    exact ⟨h1, by rw [h2]; exact hn, h3⟩
  · rintro ⟨h1, h2, h3⟩
    exact ⟨_, h2, (seqT_mem h).2 ⟨h1, rfl, h3⟩⟩
theorem seen_all {l : List Sl} (h : BookC l) {i : Nat} {s : Sl} (hs : l[i]? = some s) : seenL (seqN l (numsE (entL l))) i = if cntB l s = true ∧ s.kind = 1 then some s.turn else none := by
  split
  · rename_i hc
    have he : (i, s) ∈ entL l := entL_get.2 ⟨hs, hc.1⟩
    have hm : ((i, s) : Ey) ∈ seqN l (numsE (entL l)) := (seqN_mem h).2 ⟨he, nums_mem.2 ⟨_, he, rfl⟩, hc.2⟩
    exact seen_some hm fun x hx e => ent_key ((seqN_mem h).1 hx).1 he e
  · rename_i hc
    refine seen_none fun e he heq => hc ?_
    obtain ⟨h1, _, h3⟩ := (seqN_mem h).1 he
    obtain ⟨g1, g2⟩ := entL_get.1 h1
    have : e.1 = i := by omega
    rw [this, hs] at g1
    cases g1
    exact ⟨g2, h3⟩
theorem cnt_iff {l : List Sl} {s : Sl} : cntB l s = true ↔ s.kind ≠ 3 ∧ ¬ ∃ y ∈ l, y.kind = 3 ∧ y.tab = s.tab ∧ y.off - 1 = s.seq := by
  unfold cntB voidIn
  rw [Bool.and_eq_true, Bool.not_eq_true', Bool.not_eq_true', decide_eq_false_iff_not, List.any_eq_false]
  constructor
  · rintro ⟨h1, h2⟩
    refine ⟨h1, ?_⟩
    rintro ⟨y, hy, e1, e2, e3⟩
    exact h2 y hy (by simp [e1, e2]; omega)
  · rintro ⟨h1, h2⟩
    refine ⟨h1, fun y hy hh => h2 ⟨y, hy, ?_⟩⟩
    simp only [Bool.and_eq_true, decide_eq_true_eq] at hh
    exact ⟨hh.1.1, hh.1.2, by omega⟩
theorem nums_snoc (E : List Ey) (e : Ey) : numsE (E ++ [e]) = insN e.2.turn (numsE E) := by
  refine same_up (r := fun a b : Int => a < b) (fun a b h k => int_asymm a b h k) (nums_up _) (insN_up (nums_up _)) fun y => ?_
  rw [nums_mem, insN_mem, nums_mem]
  constructor
  · rintro ⟨x, hx, rfl⟩
    rcases List.mem_append.1 hx with hx | hx
    · exact .inr ⟨x, hx, rfl⟩
    · rw [List.mem_singleton] at hx; subst hx; exact .inl rfl
  · rintro (rfl | ⟨x, hx, rfl⟩)
    · exact ⟨e, by simp, rfl⟩
    · exact ⟨x, by simp [hx], rfl⟩
theorem insN_len2 (n : Int) : ∀ l : List Int, l.Pairwise (· < ·) → (insN n l).length = if n ∈ l then l.length else l.length + 1
  | [], _ => rfl
  | x :: l, h => by
    have h' := List.pairwise_cons.1 h
    rw [insN]
    by_cases h1 : n < x
    · rw [if_pos h1, if_neg (fun hm => by rcases List.mem_cons.1 hm with rfl | hm; omega; have := h'.1 n hm; omega)]; simp
    · rw [if_neg h1]
      by_cases h2 : n = x
      · rw [if_pos h2, if_pos (by simp [h2])]
      · rw [if_neg h2, List.length_cons, insN_len2 n l h'.2]
        by_cases h3 : n ∈ l
        · rw [if_pos h3, if_pos (by simp [h3])]; simp
        · rw [if_neg h3, if_neg (by simp [h2, h3])]; simp
def farmL (L : List Sl) : Int := match ((L.filter fun s => !decide (s.kind = 2)).foldl (fun (o : Option Sl) e => match o with | none => some e | some p => if befS e p then some e else some p) none) with
  | some g => g.farm
  | none => match ((L.filter fun s => decide (s.kind = 2)).foldl (fun (o : Option Sl) e => match o with | none => some e | some p => if befS p e then some e else some p) none) with
    | some g => g.farm
    | none => 0
theorem fold_snd {f : Option Ey → Ey → Option Ey} {g : Option Sl → Sl → Option Sl} (h : ∀ o e, (f o e).map (·.2) = g (o.map (·.2)) e.2) : ∀ (E : List Ey) (o : Option Ey), (E.foldl f o).map (·.2) = (E.map (·.2)).foldl g (o.map (·.2))
  | [], _ => rfl
  | e :: E, o => by rw [List.foldl_cons, fold_snd h E, h]; rfl
theorem giv_snd (o : Option Ey) (e : Ey) : (givF o e).map (·.2) = (match o.map (·.2) with | none => some e.2 | some p => if befS e.2 p then some e.2 else some p) := by
  cases o with
  | none => rfl
  | some p =>
    show ((if befS e.2 p.2 then some e else some p) : Option Ey).map (·.2) = if befS e.2 p.2 then some e.2 else some p.2
    by_cases h : befS e.2 p.2 = true
    · rw [if_pos h, if_pos h]; rfl
    · rw [if_neg h, if_neg h]; rfl
theorem lent_snd (o : Option Ey) (e : Ey) : (lentF o e).map (·.2) = (match o.map (·.2) with | none => some e.2 | some p => if befS p e.2 then some e.2 else some p) := by
  cases o with
  | none => rfl
  | some p =>
    show ((if befS p.2 e.2 then some e else some p) : Option Ey).map (·.2) = if befS p.2 e.2 then some e.2 else some p.2
    by_cases h : befS p.2 e.2 = true
    · rw [if_pos h, if_pos h]; rfl
    · rw [if_neg h, if_neg h]; rfl
theorem farm_is {l : List Sl} (h : BookC l) (n : Int) : (turnS l n).farm = farmL ((entT l n).map (·.2)) := by
  rw [← turnR_is h n]
  have e1 := fold_snd (f := givF) (g := fun (o : Option Sl) e => match o with | none => some e | some p => if befS e p then some e else some p) (fun o e => giv_snd o e) (givs (entT l n)) none
  have e2 := fold_snd (f := lentF) (g := fun (o : Option Sl) e => match o with | none => some e | some p => if befS p e then some e else some p) (fun o e => lent_snd o e) (lents (entT l n)) none
  have f1 : (givs (entT l n)).map (·.2) = ((entT l n).map (·.2)).filter fun s => !decide (s.kind = 2) := by unfold givs; rw [List.filter_map]; rfl
  have f2 : (lents (entT l n)).map (·.2) = ((entT l n).map (·.2)).filter fun s => decide (s.kind = 2) := by unfold lents; rw [List.filter_map]; rfl
  rw [f1] at e1
  rw [f2] at e2
  unfold turnR farmL
  simp only [Option.map_none] at e1 e2
  rw [← e1, ← e2]
  cases (givs (entT l n)).foldl givF none with
  | some g => rfl
  | none =>
    cases (lents (entT l n)).foldl lentF none with
    | some g => rfl
    | none => rfl
theorem ent_slips (l : List Sl) : ∀ (m : List Sl) (i : Nat), (entF l i m).map (·.2) = m.filter (cntB l)
  | [], _ => rfl
  | x :: m, i => by
    rw [entF]
    by_cases h : cntB l x = true
    · rw [if_pos h, List.map_cons, ent_slips l m, List.filter_cons_of_pos h]
    · rw [if_neg h, ent_slips l m, List.filter_cons_of_neg h]
theorem entT_slips (l : List Sl) (n : Int) : (entT l n).map (·.2) = l.filter fun s => cntB l s && decide (s.turn = n) := by
  unfold entT entL
  have : ((entF l 0 l).filter fun e => decide (e.2.turn = n)).map (·.2) = ((entF l 0 l).map (·.2)).filter fun s => decide (s.turn = n) := by rw [List.filter_map]; rfl
  rw [this, ent_slips, List.filter_filter]
  refine List.filter_congr fun s _ => Bool.and_comm _ _
theorem cnt_put {l : List Sl} {s x : Sl} (hk : s.kind ≠ 3) : cntB (putS l s) x = cntB l x := by
  rw [Bool.eq_iff_iff, cnt_iff, cnt_iff]
  constructor
  · rintro ⟨h1, h2⟩
    exact ⟨h1, fun ⟨y, hy, h3⟩ => h2 ⟨y, put_mem.2 (.inr hy), h3⟩⟩
  · rintro ⟨h1, h2⟩
    refine ⟨h1, fun ⟨y, hy, h3⟩ => ?_⟩
    rcases put_mem.1 hy with rfl | hy
    · exact hk h3.1
    · exact h2 ⟨y, hy, h3⟩
theorem slips_put {l : List Sl} {s : Sl} {n : Int} (hk : s.kind ≠ 3) (hn : s.turn ≠ n) : (entT (putS l s) n).map (·.2) = (entT l n).map (·.2) := by
  rw [entT_slips, entT_slips]
  have e1 : (fun x => cntB (putS l s) x && decide (x.turn = n)) = fun x => cntB l x && decide (x.turn = n) := by funext x; rw [cnt_put hk]
  rw [e1]
  unfold putS
  rw [List.filter_append, List.filter_cons_of_neg (by simp [hn]), ← List.filter_append, List.take_append_drop]
theorem farm_put {l : List Sl} {s : Sl} {n : Int} (h : BookC l) (h' : BookC (putS l s)) (hk : s.kind ≠ 3) (hn : s.turn ≠ n) (hm : n ∈ numsE (entL l)) : n ∈ numsE (entL (putS l s)) ∧ (turnS (putS l s) n).farm = (turnS l n).farm := by
  have hs := slips_put (l := l) hk hn
  refine ⟨?_, by rw [farm_is h', farm_is h, hs]⟩
  obtain ⟨e, he, hen⟩ := nums_mem.1 hm
  have h1 : e.2 ∈ (entT l n).map (·.2) := List.mem_map.2 ⟨e, entT_mem.2 ⟨he, hen⟩, rfl⟩
  rw [← hs] at h1
  obtain ⟨x, hx, _⟩ := List.mem_map.1 h1
  exact nums_mem.2 ⟨x, (entT_mem.1 hx).1, (entT_mem.1 hx).2⟩
theorem turn_no (l : List Sl) (n : Int) : (turnS l n).turn = n := by
  unfold turnS
  show (foldT n (sortE (entT l n))).turn = n
  unfold foldT
  have : ∀ (S : List Ey) (t : Tn), (S.foldl stepT t).turn = t.turn := by
    intro S
    induction S with
    | nil => intro t; rfl
    | cons e S ih =>
      intro t
      rw [List.foldl_cons, ih]
      unfold stepT
      split
      · split <;> rfl
      · split
        · split <;> rfl
        · rfl
  rw [this]
theorem turn_cases {l : List Sl} (h : BookC l) (n : Int) : (∃ g, GivI l n g ∧ seqT l n = g :: (seqT l n).tail ∧ turnS l n = ⟨n, g.2.farm, (g.1 : Int) + 1, (seqT l n).tail.map fun e => (e.1 : Int)⟩ ∧ (seqT l n).tail.Pairwise (fun a b => a.1 < b.1) ∧ ∀ e ∈ (seqT l n).tail, e.1 ≠ g.1 ∧ ltE g e) ∨ (seqT l n = [] ∧ ∃ f, turnS l n = ⟨n, f, 0, []⟩) := by
  have ht := turnR_is h n
  unfold seqT
  cases hg : (givs (entT l n)).foldl givF none with
  | some g =>
    have hG := giv_some h hg
    refine .inl ⟨g, hG, rfl, ?_, ?_, ?_⟩
    · rw [← ht]; unfold turnR; rw [hg]; rfl
    · exact ((entT_up l n).filter _).filter _
    · intro e he
      obtain ⟨h1, h2⟩ := List.mem_filter.1 he
      have h3 : e.1 ≠ g.1 := by simpa using h2
      refine ⟨h3, ?_⟩
      rcases hG.least e h1 with rfl | h4
      · exact absurd rfl h3
      · exact h4
  | none =>
    refine .inr ⟨rfl, ?_⟩
    rw [← ht]
    unfold turnR
    rw [hg]
    cases (lents (entT l n)).foldl lentF none with
    | some p => exact ⟨_, rfl⟩
    | none => exact ⟨_, rfl⟩
end Go.Proofs.YtkhoengjdfmfaaaGreat
namespace Go.Proofs.YtkhoengjdfmfaaaGreat
theorem k2Law : Go.WideMaps.KeyLaw Tryz.prog 59 := deep_law_laid (by kernel_rfl) (m := 3) (by omega) (of_decide_eq_true (by kernel_rfl)) (by kernel_rfl) (by kernel_rfl)
theorem k2Key : intsKey Tryz.prog 59 2 = true := by kernel_rfl
def voidS (l : List Sl) (q : List Int) : Bool := l.any fun s => decide (s.kind = 3) && decide (q = [s.tab, s.off - 1])
theorem void_next {l : List Sl} {k : Nat} {s : Sl} (h : l[k]? = some s) (hk : s.kind = 3) : (fun q => voidS (l.take k) q || decide (q = [s.tab, s.off - 1])) = voidS (l.take (k + 1)) := by
  funext q
  unfold voidS
  rw [List.take_add_one, h, List.any_append]
  simp [hk]
theorem void_skip {l : List Sl} {k : Nat} {s : Sl} (h : l[k]? = some s) (hk : s.kind ≠ 3) : voidS (l.take (k + 1)) = voidS (l.take k) := by
  funext q
  unfold voidS
  rw [List.take_add_one, h, List.any_append]
  simp [hk]
theorem void_cnt {l : List Sl} {s : Sl} (hk : s.kind ≠ 3) : voidS l [s.tab, s.seq] = !cntB l s := by
  unfold voidS cntB voidIn
  rw [decide_eq_false hk, Bool.not_false, Bool.true_and, Bool.not_not]
  congr 1
  funext y
  rw [Bool.eq_iff_iff]
  simp only [Bool.and_eq_true, decide_eq_true_eq, List.cons.injEq, and_true]
  omega
def seenA (S : List Ey) : Int → Option AV := fun q => (seenL S q).map (AV.int .i64)
theorem seenA_upd {S : List Ey} {e : Ey} {q t : Int} (h : ∀ x ∈ S, x.1 ≠ e.1) (hq : q = (e.1 : Int)) (ht : t = e.2.turn) : updA (seenA S) q (.int .i64 t) = seenA (S ++ [e]) := by
  subst hq ht
  funext p
  unfold updA seenA
  rw [← seen_upd h p]
  split <;> rfl
theorem boolM_new {L : List Int} {n : Int} (h : n ∉ L) : ((boolM L.contains) n).isSome = false := by
  unfold boolM
  have : L.contains n = false := by simpa using h
  rw [this]; rfl
theorem ins_count {L : List Int} {n : Int} (h : L.Pairwise (· < ·)) : (if ((boolM L.contains) n).isSome then L.length else L.length + 1) = (insN n L).length := by
  rw [insN_len2 n L h]
  unfold boolM
  by_cases hm : n ∈ L
  · have : L.contains n = true := by simpa using hm
    rw [this, if_pos hm]; rfl
  · have : L.contains n = false := by simpa using hm
    rw [this, if_neg hm]; rfl
end Go.Proofs.YtkhoengjdfmfaaaGreat
namespace Go.Proofs.YtkhoengjdfmfaaaGreat
end Go.Proofs.YtkhoengjdfmfaaaGreat
namespace Go.Proofs.YtkhoengjdfmfaaaGreat
end Go.Proofs.YtkhoengjdfmfaaaGreat
namespace Go.Proofs.YtkhoengjdfmfaaaGreat
end Go.Proofs.YtkhoengjdfmfaaaGreat
namespace Go.Proofs.YtkhoengjdfmfaaaGreat
end Go.Proofs.YtkhoengjdfmfaaaGreat
namespace Go.Proofs.YtkhoengjdfmfaaaGreat
theorem use_rest {P : Program} {ro : Option Nat} {c : Code} {Q : Exit → St → Prop} {α : Type} (S : α → St) (H : α → Prop) {G : Prop} (h1 : (∀ a, H a → EX P ro c Q (S a)) → G) (h2 : ∀ a, H a → EX P ro c Q (S a)) : G := h1 h2
end Go.Proofs.YtkhoengjdfmfaaaGreat
namespace Go.Proofs.YtkhoengjdfmfaaaGreat
end Go.Proofs.YtkhoengjdfmfaaaGreat
namespace Go.Proofs.YtkhoengjdfmfaaaGreat
end Go.Proofs.YtkhoengjdfmfaaaGreat
namespace Go.Proofs.YtkhoengjdfmfaaaGreat
end Go.Proofs.YtkhoengjdfmfaaaGreat
namespace Go.Proofs.YtkhoengjdfmfaaaGreat
end Go.Proofs.YtkhoengjdfmfaaaGreat
namespace Go.Proofs.YtkhoengjdfmfaaaGreat
theorem entF_take {l : List Sl} {i : Nat} {s : Sl} (hs : l[i]? = some s) : entF l 0 (l.take (i + 1)) = if cntB l s then entF l 0 (l.take i) ++ [(i, s)] else entF l 0 (l.take i) := by
  have hi := get_lt hs
  rw [List.take_add_one, hs]
  show entF l 0 (l.take i ++ [s]) = _
  rw [entF_app]
  have hlen : 0 + (l.take i).length = i := by rw [List.length_take]; omega
  rw [hlen]
  cases h : cntB l s with
  | true => simp [entF, h]
  | false => simp [entF, h]
end Go.Proofs.YtkhoengjdfmfaaaGreat
