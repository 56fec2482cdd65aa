/- Parts of the proof that belong together: Ve Vf Wa Wb Wc Wd We. -/
import Derived.Test.YtkhoengjdfmfaaaGreatGE04
import Derived.Test.YtkhoengjdfmfaaaGreatGE08
set_option maxRecDepth 10000
set_option linter.unusedSimpArgs false
set_option linter.unusedVariables false
namespace Go.Proofs.YtkhoengjdfmfaaaGreat
theorem item_two (n : Int) : 2 ≤ (itemL n).length := by
  unfold itemL
  have h : (numL (2 * n.toNat)).length ≠ 0 := fun e => numL_ne _ (List.length_eq_zero_iff.1 e)
  rw [List.length_cons]; omega
theorem itemsL_len : ∀ ns : List Int, ns.length ≤ (ns.flatMap itemL).length
  | [] => Nat.le_refl _
  | n :: ns => by
    have := itemsL_len ns
    have h := item_two n
    rw [List.flatMap_cons, List.length_append, List.length_cons]; omega
theorem items_top : ∀ (ns : List Int), (∀ n ∈ ns, 0 ≤ n ∧ n ≤ 1073741824) → (ns.flatMap itemL).length ≤ 6 * ns.length
  | [], _ => Nat.le_refl _
  | n :: ns, h => by
    have := items_top ns (fun x hx => h x (List.mem_cons_of_mem _ hx))
    have h := item_len (h n List.mem_cons_self)
    rw [List.flatMap_cons, List.length_append, List.length_cons]; omega
theorem valueI_at {b : Nat} {n d : Int} {D : List Nat} (hm : 0 ≤ n ∧ n ≤ 1073741824) (hD : D.length ≤ 70000) {σ σ' : List Ent} (h : Upd σ (rdE b (itemL n ++ D)) (rdE b D) σ') :
    SCall Tryz.prog 147 [.ptr b 0, .int .i64 d] σ (Is (.agg (itC n)) σ') := by
  obtain ⟨m, rfl⟩ : ∃ m : Nat, n = (m : Int) := ⟨n.toNat, by omega⟩
  exact scall_updI (valueI_c b m d D (by omega) hD) h
set_option maxHeartbeats 16000000 in
theorem valueL_c (b : Nat) (ns : List Int) (D : List Nat) (hns : ∀ n ∈ ns, 0 ≤ n ∧ n ≤ 1073741824) (hl : ns.length ≤ 100) (hD : D.length ≤ 60000) (σ : List Ent) :
    SCall Tryz.prog 147 [.ptr b 0, .int .i64 0] (rdE b (encL ns ++ D) :: σ) (Is (.agg (lvC ns)) (rdE b D :: σ)) := by
  refine scall_of Tryz.func147 rfl (by simp) ?_
  have hx : ([3].map b8C)[0]? = some (b8C 3) := rfl
  have hcv : IntKind.i64.wrap ((3 : Nat) : Int) = ((3 : Nat) : Int) := by rw [IntKind.wrap_i64]; omega
  have hit := itemsL_len ns
  have hto := items_top ns hns
  have e0 : encL ns ++ D = 3 :: (numL ns.length ++ (ns.flatMap itemL ++ D)) := by unfold encL; simp
  rw [e0]
  obtain ⟨F, hF⟩ : ∃ F, ns.flatMap itemL ++ D = F := ⟨_, rfl⟩
  have hFl : F.length ≤ 61000 := by rw [← hF, List.length_append]; omega
  have hFn : ns.length ≤ F.length := by rw [← hF, List.length_append]; omega
  obtain ⟨E, hE⟩ : ∃ E, numL ns.length ++ F = E := ⟨_, rfl⟩
  have hnl : E.length ≤ 90000 := by
    have := numL_len (k := 4) (u := ns.length) (by omega)
    rw [← hE, List.length_append]; omega
  have hlc : ∀ {σ σ' : List Ent}, Upd σ (rdE b E) (rdE b F) σ' → SCall Tryz.prog 161 [.ptr b 0] σ (Is (.int .i64 ns.length) σ') := fun h => by
    rw [← hE] at h; exact length_at hFn (by omega) h
  rw [hF, hE]
  clear hE hit hto e0
  refine ex_nilRow 160 4 ?_
  refine zX (zZ ?_); refine xBa ?_; intro _; refine zY ?_; refine zX (zZ ?_); refine xMv ?_; apply zQ; rfl; rfl; rfl; (refine zK rfl rfl (zV (by kernel_rfl)) ?_; exact take1_at (x := 3) (D := E) hnl (by (exact Upd.there (Upd.there (Upd.here))))); refine xIx ?_; refine xLd ?_; apply zQ; rfl; rfl; rfl; (apply g_conv64; rfl; rfl; rfl; exact ⟨by omega, by omega⟩); refine xFa ?_; refine xSt ?_; refine zY ?_; refine zX ?_; refine zX (zZ ?_); refine xFa ?_; refine xLd ?_; refine zY ?_; refine zL ?_; refine zX (zZ ?_); refine xBi ?_; intro _ _; refine xAs ?_; refine zY ?_; refine q_c (fun h h_k => ?_) (fun h h_k => ?_) <;> ((try subst h_k); (have hp := h; try simp only [q_n] at hp); (try (exfalso; first | omega | (cases hp; done))));
  refine zX (zZ ?_); refine xBi ?_; intro _ _; refine xAs ?_; refine zY ?_; refine q_c (fun h h_k => ?_) (fun h h_k => ?_) <;> ((try subst h_k); (have hp := h; try simp only [q_n] at hp); (try (exfalso; first | omega | (cases hp; done))));
  refine zX (zZ ?_); refine xBi ?_; intro _ _; refine xAs ?_; refine zY ?_; refine q_c (fun h h_k => ?_) (fun h h_k => ?_) <;> ((try subst h_k); (have hp := h; try simp only [q_n] at hp); (try (exfalso; first | omega | (cases hp; done))));
  refine zX (zZ ?_); refine xMv ?_; refine xMv ?_; refine xBi ?_; intro _ _; rotate_left
  (all_goals (repeat (rename BV _ _ => hbv; first | cases hbv | clear hbv)))
  all_goals (try (first | cases ‹true = false› | cases ‹false = true›))
  rename Nat => b4; revert b4
  intro b4
  refine zQ rfl rfl rfl (zK rfl rfl (zV (by kernel_rfl)) (want_q _ (decide_eq_true (by omega)) _)) ?_
  refine zY ?_; refine zX (zZ ?_); refine xMv ?_; apply zQ; rfl; rfl; rfl; (refine zK rfl rfl (zV (by kernel_rfl)) ?_; exact hlc (by (exact Upd.there (Upd.there (Upd.here))))); refine xMv ?_; refine zY ?_; refine zL ?_; rotate_left
  (all_goals (repeat (rename BV _ _ => hbv; first | cases hbv | clear hbv)))
  all_goals (try (first | cases ‹true = false› | cases ‹false = true›))
  refine ex_loop (fun (z : Nat × Value × List Nat) => (⟨[(0, .ptr b 0), (1, .int .i64 0), (4, .ptr b4 0), (36, .int .i64 ns.length), (37, .int .i64 z.1)], .cells b4 [.int .i64 3, .int .i64 0, noStr, .slv z.2.1] 160 :: .row z.2.1 160 4 ((ns.take z.1).map itC) :: rdE b z.2.2 :: σ, [], Tryz.f147.ntmps⟩ : St)) (fun z => z.1 ≤ ns.length ∧ z.2.2 = (ns.drop z.1).flatMap itemL ++ D) (fun z => ns.length - z.1) (0, nilS, F) (⟨Nat.zero_le _, hF.symm⟩) (St.le_of (by repeat (first | exact trivial | refine ⟨rfl, ?_⟩)) (by repeat (first | exact q_r | apply q_q | apply q_k))) ?_
  intro z hI
  clear hlc hnl hx hcv hFn
  obtain ⟨k, v, R⟩ := z
  obtain ⟨hI1, hI2⟩ := hI
  dsimp only at hI1 hI2 ⊢
  by_cases hk : k < ns.length
  · obtain ⟨n, hn⟩ : ∃ n, ns[k]? = some n := get_some hk
    have hnb := hns n (List.mem_of_getElem? hn)
    have hdr : ns.drop k = n :: ns.drop (k + 1) := drop_get hn
    obtain ⟨S, hS⟩ : ∃ S, (ns.drop (k + 1)).flatMap itemL ++ D = S := ⟨_, rfl⟩
    have hR : R = itemL n ++ S := by rw [hI2, hdr, List.flatMap_cons, List.append_assoc, hS]
    have hSl : S.length ≤ 70000 := by
      have h1 := items_top (ns.drop (k + 1)) (fun x hx => hns x (List.mem_of_mem_drop hx))
      rw [← hS, List.length_append]
      rw [List.length_drop] at h1; omega
    have hst : (ns.take (k + 1)).map itC = (ns.take k).map itC ++ [itC n] := by rw [List.take_add_one, hn, List.map_append]; rfl
    have htl : ((ns.take k).map itC).length ≤ 100 := by rw [List.length_map, List.length_take]; omega
    rw [hR]
    have hvc : ∀ {σ σ' : List Ent} {d : Int}, Upd σ (rdE b (itemL n ++ S)) (rdE b S) σ' → SCall Tryz.prog 147 [.ptr b 0, .int .i64 d] σ (Is (.agg (itC n)) σ') := fun h => valueI_at hnb hSl h
    clear hns hn hI2 hdr hR hF hFl hI1 hD
    generalize (ns.take k).map itC = T at hst htl ⊢
    generalize itemL n ++ S = R0 at hvc ⊢
    refine zX (zZ ?_); refine xBi ?_; intro _ _; refine zY ?_; refine zX ?_; refine q_c (fun h h_k => ?_) (fun h h_k => ?_) <;> ((try subst h_k); (have hp := h; try simp only [q_n] at hp); (try (exfalso; first | omega | (cases hp; done))));
    refine zR ?_; refine zX ?_; refine zL ?_; rotate_left
    (all_goals (repeat (rename BV _ _ => hbv; first | cases hbv | clear hbv)))
    all_goals (try (first | cases ‹true = false› | cases ‹false = true›))
    refine ex_drawLK (fun e => e = .cells b4 [.int .i64 3, .int .i64 0, noStr, .slv v] 160) 8 [5, 7] rfl (by kernel_rfl) rfl ?_
    simp only [List.take_succ_cons, List.take_zero, List.drop_succ_cons, List.drop_zero]
    refine wFa ?_; refine wLd ?_; refine wMv ?_; refine wMv ?_; apply wl_is; rfl; rfl; rfl; (intro σ' hl; (apply g_add; rfl; rfl; rfl; exact ⟨by omega, by omega⟩)); refine wl_eff rfl rfl rfl (zK rfl rfl (zV (by kernel_rfl)) (hvc (by (exact Upd.there (Upd.there (Upd.here)))))) ?_; rintro _ _ ⟨⟩; refine ⟨(by (rintro _ (rfl | rfl | rfl) _ <;> exact (by (repeat first | exact q_h | apply q_t | assumption); done))), ?_⟩; apply wl_is; rfl; rfl; rfl; (intro σ' hl; (exact gop_sealed (g_buildSlice rfl rfl (by decide) rfl rfl (by (simp only [chunkN, List.take_succ_cons, List.take_zero, List.drop_succ_cons, List.drop_zero]; rfl))))); refine wl_eff rfl rfl rfl (by apply g_append; rfl; rfl; rfl; (intro v'; (exact Upd.there (Upd.here))); (exact .d); (intro y hy; simp only [List.mem_map, List.mem_cons, List.not_mem_nil, or_false, List.mem_append] at hy; (focus (obtain ⟨_, _, rfl⟩ := hy; rfl; done))); (refine app_ok ?_ (by kernel_rfl); (try simp only [List.length_append, List.length_map, List.length_cons, List.length_nil, List.length_take, List.length_drop]); omega)) ?_; rintro _ _ ⟨v'⟩; refine ⟨(by (rintro _ (rfl | rfl) _ <;> exact (by (repeat first | exact q_h | apply q_t | assumption); done))), ?_⟩; refine wl_nil ?_; refine xFa ?_; refine xSt ?_; refine zN ?_; refine zZ ?_; refine xAd ?_; refine xMv ?_; refine zN ?_; simp only [zP, zU, zT, zW, retA, ↓reduceIte, Nat.reduceEqDiff]; rotate_left
    (all_goals (repeat (rename BV _ _ => hbv; first | cases hbv | clear hbv)))
    all_goals (try (first | cases ‹true = false› | cases ‹false = true›))
    rename Value => v2
    refine ⟨(k + 1, v2, S), ⟨hk, hS.symm⟩, by dsimp only; omega, ?_⟩
    dsimp only
    rw [hst]
    exact q_le
  · have e : k = ns.length := by omega
    subst e
    have hall : ns.take ns.length = ns := List.take_length
    have hR : R = D := by rw [hI2, List.drop_length]; rfl
    rw [hall, hR]
    clear hI2 hR hns
    refine zX (zZ ?_); refine xBi ?_; intro _ _; refine zY ?_; refine zX ?_; refine q_c (fun h h_k => ?_) (fun h h_k => ?_) <;> ((try subst h_k); (have hp := h; try simp only [q_n] at hp); (try (exfalso; first | omega | (cases hp; done))));
    refine ex_exit ?_; refine zX (zZ ?_); refine xLa ?_; refine xSt ?_; refine zY ?_; refine zJ ?_; simp only [zP, zU, zT, zW, retA, ↓reduceIte, Nat.reduceEqDiff]; rotate_left
    (all_goals (repeat (rename BV _ _ => hbv; first | cases hbv | clear hbv)))
    all_goals (try (first | cases ‹true = false› | cases ‹false = true›))
    refine q_rq (σ3 := .row v 160 4 (ns.map itC) :: rdE b D :: σ) ?_
    exact fin_seal .here (.agg (.same (.same (.same (.here .nil)))) .nil) (fin_done .mk)
end Go.Proofs.YtkhoengjdfmfaaaGreat
namespace Go.Proofs.YtkhoengjdfmfaaaGreat
theorem two_of {ws : Array Value} (h : ws.size = 2) : ∃ a b, ws = #[a, b] := by
  obtain ⟨l⟩ := ws
  match l, h with
  | [a, b], _ => exact ⟨a, b, rfl⟩
set_option maxHeartbeats 4000000 in
theorem idle_c : Idle Tryz.prog 146 2 := by
  intro ws w hws
  obtain ⟨a, b, rfl⟩ := two_of hws
  refine callsDIn_of_wpSIn Tryz.func146 rfl trivial fun c₀ cs hu => ?_
  apply wpSIn_seq
  apply wpSIn_region
  simp [wpOpsSIn, go_sem, recoverD, hu, Tryz.ntmps146, Exit.thenS]
  apply wpSIn_seq
  apply wpSIn_region
  simp [wpOpsSIn, go_sem, Exit.thenS]
  refine wpSIn_cond (t := false) (by simp [Act.eval, Array.replicate]) ?_
  simp only [Bool.false_eq_true, if_false]
  refine wpSIn_of_wpIn rfl (wpIn_skip ?_)
  cases c₀
  simp_all [bodyPostS, results]
set_option maxHeartbeats 8000000 in
theorem decode_c (ns : List Int) (hns : ∀ n ∈ ns, 0 ≤ n ∧ n ≤ 1073741824) (hl : ns.length ≤ 100) (σ : List Ent) :
    SCall Tryz.prog 123 [bys (encL ns)] σ (Is (.tup [.agg (lvC ns), .int .i64 0]) σ) := by
  refine scall_ofD Tryz.func123 rfl (by simp) ?_
  have hv : ∀ {b : Nat} {σ σ' : List Ent}, Upd σ (rdE b (encL ns)) (rdE b []) σ' → SCall Tryz.prog 147 [.ptr b 0, .int .i64 0] σ (Is (.agg (lvC ns)) σ') := fun {b σ σ'} h => by
    have h0 := fun σ0 => valueL_c b ns [] hns hl (by simp) σ0
    rw [List.append_nil] at h0
    exact scall_updI h0 h
  generalize encL ns = C at hv ⊢
  refine exd_seq ?_
  refine zZ ?_; refine xBa ?_; intro _; refine xBa ?_; intro _; refine zN ?_; rotate_left
  (all_goals (repeat (rename BV _ _ => hbv; first | cases hbv | clear hbv)))
  all_goals (try (first | cases ‹true = false› | cases ‹false = true›))
  rename Nat => b3; revert b3; rename Nat => b2; revert b2
  intro b2 b3
  refine exd_region (exdl_op rfl rfl (g_makeFunc rfl rfl) ?_)
  rintro _ _ ⟨⟩
  refine exdl_defer rfl (zV (by kernel_rfl)) idle_c ?_
  refine zX (zZ ?_); refine xMv ?_; apply zQ; rfl; rfl; rfl; (apply g_build; rfl; rfl; rfl; rfl); refine xBb ?_; intro _; refine xAs ?_; refine zY ?_; refine zX (zZ ?_); refine xMv ?_; apply zQ; rfl; rfl; rfl; (refine zK rfl rfl (zV (by kernel_rfl)) ?_; exact hv (by (exact Upd.here))); refine xSt ?_; refine zY ?_; refine zX (zZ ?_); refine xMv ?_; refine xMv ?_; apply zQ; rfl; rfl; rfl; (apply g_nilCheck; rfl; rfl); refine xFa ?_; refine xLd ?_; refine xLn ?_; refine xBi ?_; intro _ _; simp only [zP, zU, zT, zW, retA, ↓reduceIte, Nat.reduceEqDiff]; rotate_left
  (all_goals (repeat (rename BV _ _ => hbv; first | cases hbv | clear hbv)))
  all_goals (try (first | cases ‹true = false› | cases ‹false = true›))
  refine zQ rfl rfl rfl (zK rfl rfl (zV (by kernel_rfl)) (want_q _ rfl _)) ?_
  refine zY ?_; refine zX (zZ ?_); refine xLa ?_; refine xSt ?_; refine xSt ?_; refine zY ?_; refine zJ ?_; simp only [zP, zU, zT, zW, retA, ↓reduceIte, Nat.reduceEqDiff]; rotate_left
  (all_goals (repeat (rename BV _ _ => hbv; first | cases hbv | clear hbv)))
  all_goals (try (first | cases ‹true = false› | cases ‹false = true›))
  refine q_rq (σ3 := σ) ?_
  exact fin_done .mk
end Go.Proofs.YtkhoengjdfmfaaaGreat
namespace Go.Proofs.YtkhoengjdfmfaaaGreat
structure Pk where
  f : Int
  t : Int
  d : List Nat
abbrev pkC (p : Pk) : List AV := [.int .i64 p.f, .int .i64 p.t, bys p.d]
abbrev pkV (p : Pk) : AV := .agg (pkC p)
abbrev pks (L : List Pk) : AV := .dl 3 (L.map pkC)
abbrev netC (L : List Pk) : List AV := [pks L, .dl 2 []]
abbrev netV (L : List Pk) : AV := .agg (netC L)
structure OkP (p : Pk) : Prop where
  f0 : 0 ≤ p.f
  t0 : 0 ≤ p.t
  ne : p.f ≠ p.t
  f1 : p.f < 24
  t1 : p.t < 24
  d1 : p.d.length ≤ 1048576
theorem between_c (f t : Int) (σ : List Ent) : SCall Tryz.prog 101 [.int .i64 f, .int .i64 t] σ (Is (.agg [.int .i64 (min f t), .int .i64 (max f t)]) σ) := by
  refine scall_of Tryz.func101 rfl (by simp) ?_
  refine zX (zZ ?_); refine xBa ?_; intro _; refine zY ?_; refine zX (zZ ?_); refine xMv ?_; refine xMv ?_; apply zQ; rfl; rfl; rfl; (apply g_min; rfl; rfl); refine xMv ?_; refine xMv ?_; apply zQ; rfl; rfl; rfl; (apply g_max; rfl; rfl); apply zQ; rfl; rfl; rfl; (apply g_buildArr; rfl; rfl; rfl; rfl); refine xSt ?_; refine zY ?_; refine zJ ?_; simp only [zP, zU, zT, zW, retA, ↓reduceIte, Nat.reduceEqDiff]; rotate_left
  (all_goals (repeat (rename BV _ _ => hbv; first | cases hbv | clear hbv)))
  all_goals (try (first | cases ‹true = false› | cases ‹false = true›))
  refine q_ri ?_
  rfl
theorem link_c (a b : Int) (h : 0 ≤ a ∧ a < b ∧ b < 24) (σ : List Ent) : SCall Tryz.prog 65 [.agg [.int .i64 a, .int .i64 b]] σ (Is (.bool true) σ) := by
  refine scall_of Tryz.func65 rfl (by simp) ?_
  refine zX (zZ ?_); refine xBb ?_; intro _; refine xAs ?_; refine zY ?_; refine zX (zZ ?_); apply zQ; rfl; rfl; rfl; (apply g_indexArr; rfl; rfl; rfl; (exact (rfl : (0:Int) = ((0:Nat):Int))); (exact q_b rfl); rfl); refine xLd ?_; refine xBi ?_; intro _ _; refine xMv ?_; refine q_d (fun h h_k => ?_) (fun h h_k => ?_) <;> ((try subst h_k); (have hp := h; try simp only [q_n] at hp); (try (exfalso; first | omega | (cases hp; done))));
  apply exl_isW; rfl; (rfl); rfl; rfl; (apply g_indexArr; rfl; rfl; rfl; (exact (rfl : (0:Int) = ((0:Nat):Int))); (exact q_b rfl); rfl); refine yLd ?_; apply exl_isW; rfl; (rfl); rfl; rfl; (apply g_indexArr; rfl; rfl; rfl; (exact (rfl : (1:Int) = ((1:Nat):Int))); (exact q_b rfl); rfl); refine yLd ?_; refine yBi ?_; intro _ _; refine xPt ?_; refine xMv ?_; refine q_d (fun h h_k => ?_) (fun h h_k => ?_) <;> ((try subst h_k); (have hp := h; try simp only [q_n] at hp); (try (exfalso; first | omega | (cases hp; done))));
  apply exl_isW; rfl; (rfl); rfl; rfl; (apply g_indexArr; rfl; rfl; rfl; (exact (rfl : (1:Int) = ((1:Nat):Int))); (exact q_b rfl); rfl); refine yLd ?_; refine yBi ?_; intro _ _; refine xPt ?_; refine xAs ?_; refine zY ?_; refine zJ ?_; simp only [zP, zU, zT, zW, retA, ↓reduceIte, Nat.reduceEqDiff]; rotate_left
  (all_goals (repeat (rename BV _ _ => hbv; first | cases hbv | clear hbv)))
  all_goals (try (first | cases ‹true = false› | cases ‹false = true›))
  all_goals
    refine q_ri ?_
    first | rfl | (simp only [oneA, AV.bool.injEq]; exact decide_eq_true (by omega))
theorem packet_c (p : Pk) (h : OkP p) (σ : List Ent) : SCall Tryz.prog 64 [pkV p] σ (Is (.bool true) σ) := by
  refine scall_of Tryz.func64 rfl (by simp) ?_
  have h1 := h.f0
  have h2 := h.t0
  have h3 := h.ne
  have h4 := h.f1
  have h5 := h.t1
  have h6 := h.d1
  have hl := link_c (min p.f p.t) (max p.f p.t) (by omega)
  refine zX (zZ ?_); refine xBb ?_; intro _; refine xAs ?_; refine zY ?_; refine zX (zZ ?_); refine xFa ?_; refine xLd ?_; refine xFa ?_; refine xLd ?_; apply zQ; rfl; rfl; rfl; (refine zK rfl rfl (zV (by kernel_rfl)) ?_; exact between_c _ _ _); apply exl_isB; rfl; rfl; rfl; (refine zK rfl rfl (zV (by kernel_rfl)) ?_; exact hl _); intro _ _; refine xMv ?_; refine q_d (fun h h_k => ?_) (fun h h_k => ?_) <;> ((try subst h_k); (have hp := h; try simp only [q_n] at hp); (try (exfalso; first | omega | (cases hp; done))));
  refine yFa ?_; refine yLd ?_; apply exl_isW; rfl; (rfl); rfl; rfl; (apply g_len; rfl; rfl; (exact (List.length_map _).symm)); refine yBi ?_; intro _ _; refine xPt ?_; refine xAs ?_; refine zY ?_; refine zJ ?_; simp only [zP, zU, zT, zW, retA, ↓reduceIte, Nat.reduceEqDiff]; rotate_left
  (all_goals (repeat (rename BV _ _ => hbv; first | cases hbv | clear hbv)))
  all_goals (try (first | cases ‹true = false› | cases ‹false = true›))
  all_goals
    refine q_ri ?_
    first | rfl | (simp only [oneA, AV.bool.injEq]; exact decide_eq_true (by first | omega | (simp only [List.length_map]; omega)))
theorem check1_c (p : Pk) (h : OkP p) (σ : List Ent) : SCall Tryz.prog 63 [pkV p] σ (Is (.bool false) σ) := by
  refine scall_of Tryz.func63 rfl (by simp) ?_
  refine zX (zZ ?_); refine xBb ?_; intro _; refine xAs ?_; refine zY ?_; refine zX (zZ ?_); refine xLa ?_; apply exl_isB; rfl; rfl; rfl; (refine zK rfl rfl (zV (by kernel_rfl)) ?_; exact packet_c p h _); intro _ _; refine xNo ?_; intro _ _; refine xAs ?_; refine zY ?_; refine zJ ?_; simp only [zP, zU, zT, zW, retA, ↓reduceIte, Nat.reduceEqDiff]; rotate_left
  (all_goals (repeat (rename BV _ _ => hbv; first | cases hbv | clear hbv)))
  all_goals (try (first | cases ‹true = false› | cases ‹false = true›))
  refine q_ri ?_
  rfl
theorem fPk_idx (l : List Pk) (g : Nat) (first cap : List AV) (p : Pk → Bool) (σ : List Ent) (he : Enters Tryz.prog g) (hf : ∀ (k : Nat) (c : Pk), l[k]? = some c → SCall Tryz.prog g (first ++ [(pkV) c] ++ cap) σ (Is (.bool (p c)) σ)) :
    SCall Tryz.prog 100 [.dl 3 (l.map pkC), .fn (.func g) first cap] σ (Is (.int .i64 (idxFrom p l 0)) σ) := by
  refine scall_of Tryz.func100 rfl (by simp) ?_
  refine zX (zZ ?_); refine xAs ?_; refine zY ?_; refine zX ?_; refine zX (zZ ?_); refine xMv ?_; refine xLn ?_; refine xMv ?_; refine zY ?_; refine zL ?_; rotate_left
  (all_goals (repeat (rename BV _ _ => hbv; first | cases hbv | clear hbv)))
  all_goals (try (first | cases ‹true = false› | cases ‹false = true›))
  refine ex_len (t := 0) rfl ((List.length_map _).symm) (fun hlen => ?_)
  refine ex_loop (fun (k : Nat) => (⟨[(0, .dl 3 (l.map pkC)), (1, .fn (.func g) first cap), (7, .int .i64 l.length), (8, .int .i64 k)], σ, [], Tryz.f100.ntmps⟩ : St)) (fun k => k ≤ l.length ∧ idxFrom p l 0 = idxFrom p (l.drop k) k) (fun k => l.length - k) 0 (⟨Nat.zero_le _, rfl⟩) (St.le_of (by repeat (first | exact trivial | refine ⟨rfl, ?_⟩)) (by repeat (first | exact q_r | apply q_q | apply q_k))) ?_
  intro k hI
  by_cases hk : k < l.length
  · obtain ⟨c, hc⟩ : ∃ c, l[k]? = some c := ⟨_, List.getElem?_eq_getElem hk⟩
    have hd := idxFrom_drop p hc
    refine zX (zZ ?_); refine xBi ?_; intro _ _; refine zY ?_; refine zX ?_; refine q_c (fun h h_k => ?_) (fun h h_k => ?_) <;> ((try subst h_k); (have hp := h; try simp only [q_n] at hp); (try (exfalso; first | omega | (cases hp; done))));
    refine zR ?_; refine zX ?_; refine zL ?_; refine zX (zZ ?_); refine xMv ?_; refine xAs ?_; refine zY ?_; refine zX (zZ ?_); refine xMv ?_; refine xMv ?_; refine xMv ?_; refine xIx ?_; refine xLa ?_; apply zQ; rfl; rfl; rfl; (exact zK rfl rfl he (hf k c hc)); refine zY ?_; refine q_c (fun h h_k => ?_) (fun h h_k => ?_) <;> ((try subst h_k); (have hp := h; try simp only [q_n] at hp); (try (exfalso; first | omega | (cases hp; done))));
    refine zX (zZ ?_); refine xMv ?_; refine xAs ?_; refine zY ?_; refine zJ ?_; simp only [zP, zU, zT, zW, retA, ↓reduceIte, Nat.reduceEqDiff]; rotate_left; refine zR ?_; refine zZ ?_; refine xAd ?_; refine xMv ?_; refine zN ?_; simp only [zP, zU, zT, zW, retA, ↓reduceIte, Nat.reduceEqDiff]; rotate_left
    (all_goals (repeat (rename BV _ _ => hbv; first | cases hbv | clear hbv)))
    all_goals (try (first | cases ‹true = false› | cases ‹false = true›))
    · refine q_ri (int_eq ?_)
      rw [hI.2, hd, if_pos (by assumption)]
    · refine ⟨k + 1, ⟨hk, by rw [hI.2, hd, if_neg (by simp [*])]⟩, by omega, St.le_of (by repeat (first | exact trivial | refine ⟨rfl, ?_⟩)) (by repeat (first | exact q_r | apply q_q | apply q_k))⟩
  · refine zX (zZ ?_); refine xBi ?_; intro _ _; refine zY ?_; refine zX ?_; refine q_c (fun h h_k => ?_) (fun h h_k => ?_) <;> ((try subst h_k); (have hp := h; try simp only [q_n] at hp); (try (exfalso; first | omega | (cases hp; done))));
    refine ex_exit ?_; refine zX (zZ ?_); refine xAs ?_; refine zY ?_; refine zJ ?_; simp only [zP, zU, zT, zW, retA, ↓reduceIte, Nat.reduceEqDiff]; rotate_left
    (all_goals (repeat (rename BV _ _ => hbv; first | cases hbv | clear hbv)))
    all_goals (try (first | cases ‹true = false› | cases ‹false = true›))
    refine q_ri (int_eq ?_)
    rw [hI.2, List.drop_of_length_le (by omega)]; rfl
theorem fPk_any (l : List Pk) (g : Nat) (first cap : List AV) (p : Pk → Bool) (σ : List Ent) (he : Enters Tryz.prog g) (hf : ∀ (k : Nat) (c : Pk), l[k]? = some c → SCall Tryz.prog g (first ++ [(pkV) c] ++ cap) σ (Is (.bool (p c)) σ)) :
    SCall Tryz.prog 62 [.dl 3 (l.map pkC), .fn (.func g) first cap] σ (Is (.bool (l.any p)) σ) := by
  refine scall_of Tryz.func62 rfl (by simp) ?_
  refine zX (zZ ?_); refine xAs ?_; refine zY ?_; refine zX (zZ ?_); refine xMv ?_; refine xMv ?_; apply zQ; rfl; rfl; rfl; (refine zK rfl rfl (zV (by kernel_rfl)) ?_; exact fPk_idx l g first cap p σ he hf); refine xBi ?_; intro _ _; refine xAs ?_; refine zY ?_; refine zJ ?_; simp only [zP, zU, zT, zW, retA, ↓reduceIte, Nat.reduceEqDiff]; rotate_left
  (all_goals (repeat (rename BV _ _ => hbv; first | cases hbv | clear hbv)))
  all_goals (try (first | cases ‹true = false› | cases ‹false = true›))
  refine q_ri (bool_eq ?_)
  exact idxFrom_any p l 0
theorem netcheck_c (L : List Pk) (h : ∀ p ∈ L, OkP p) (hl : L.length ≤ 4096) (σ : List Ent) : SCall Tryz.prog 27 [netV L] σ (Is (.int .i64 0) σ) := by
  refine scall_of Tryz.func27 rfl (by simp) ?_
  have hany : L.any (fun _ => false) = false := by rw [List.any_eq_false]; intro x _; simp
  have hc := fun σ => fPk_any L 63 [] [] (fun _ => false) σ (zV (by kernel_rfl)) (fun k c hk => check1_c c (h c (List.mem_of_getElem? hk)) σ)
  rw [hany] at hc
  refine zX (zZ ?_); refine xBb ?_; intro _; refine xAs ?_; refine zY ?_; refine zX ?_; refine zX (zZ ?_); refine xFa ?_; refine xLd ?_; refine xLn ?_; refine xBi ?_; intro _ _; refine xMv ?_; refine q_d (fun h h_k => ?_) (fun h h_k => ?_) <;> ((try subst h_k); (have hp := h; try simp only [q_n] at hp); (try (exfalso; first | omega | (cases hp; done))));
  refine yFa ?_; refine yLd ?_; apply exl_isBW; rfl; (rfl); rfl; rfl; (refine zK rfl rfl (zV (by kernel_rfl)) ?_; exact hc _); intro _ _; refine xPf ?_; refine zY ?_; refine q_c (fun h h_k => ?_) (fun h h_k => ?_) <;> ((try subst h_k); (have hp := h; try simp only [q_n] at hp); (try (exfalso; first | omega | (cases hp; done))));
  refine zR ?_; refine zX ?_; refine zX (zZ ?_); refine xFa ?_; refine xLd ?_; apply zQ; rfl; rfl; rfl; (apply g_len; rfl; rfl; (rfl)); refine xMv ?_; refine zY ?_; refine zL ?_; rotate_left
  (all_goals (repeat (rename BV _ _ => hbv; first | cases hbv | clear hbv)))
  all_goals (try (first | cases ‹true = false› | cases ‹false = true›))
  refine ex_loop (fun (z : Unit) => (⟨[(2, .int .i64 0), (15, .dl 2 []), (16, .int .i64 0), (17, .int .i64 0)], σ, [], Tryz.f27.ntmps⟩ : St)) (fun z => True) (fun z => 0) () (trivial) (St.le_of (by repeat (first | exact trivial | refine ⟨rfl, ?_⟩)) (by repeat (first | exact q_r | apply q_q | apply q_k))) ?_
  intro z hI
  refine zX (zZ ?_); refine xBi ?_; intro _ _; refine zY ?_; refine zX ?_; refine q_c (fun h h_k => ?_) (fun h h_k => ?_) <;> ((try subst h_k); (have hp := h; try simp only [q_n] at hp); (try (exfalso; first | omega | (cases hp; done))));
  refine ex_exit ?_; refine zX (zZ ?_); refine xAs ?_; refine zY ?_; refine zJ ?_; simp only [zP, zU, zT, zW, retA, ↓reduceIte, Nat.reduceEqDiff]; rotate_left
  (all_goals (repeat (rename BV _ _ => hbv; first | cases hbv | clear hbv)))
  all_goals (try (first | cases ‹true = false› | cases ‹false = true›))
  refine q_ri ?_
  rfl
theorem netnew_c (σ : List Ent) : SCall Tryz.prog 45 [] σ (Is (.agg [.slv nilS, .slv nilS]) σ) := by
  refine scall_of Tryz.func45 rfl (by simp) ?_
  refine zX (zZ ?_); refine xBa ?_; intro _; refine zY ?_; refine zX (zZ ?_); refine xLa ?_; refine xSt ?_; refine zY ?_; refine zJ ?_; simp only [zP, zU, zT, zW, retA, ↓reduceIte, Nat.reduceEqDiff]; rotate_left
  (all_goals (repeat (rename BV _ _ => hbv; first | cases hbv | clear hbv)))
  all_goals (try (first | cases ‹true = false› | cases ‹false = true›))
  refine q_ri ?_
  rfl
set_option maxHeartbeats 4000000 in
theorem send_c (L : List Pk) (h : ∀ p ∈ L, OkP p) (hl : L.length ≤ 4096) (p : Pk) (hp0 : OkP p) (σ : List Ent) :
    SCall Tryz.prog 83 [netV L, pkV p] σ (Is (if L.length = 4096 then .tup [.agg [.slv nilS, .slv nilS], .int .i64 2] else .tup [netV (L ++ [p]), .int .i64 0]) σ) := by
  refine scall_of Tryz.func83 rfl (by simp) ?_
  have hc := fun σ => netcheck_c L h hl σ
  have hk := fun σ => packet_c p hp0 σ
  clear h hp0
  by_cases he : L.length = 4096
  · rw [if_pos he]
    have he1 : (L.length : Int) = 4096 := by omega
    refine zX (zZ ?_); refine xBb ?_; intro _; refine xBb ?_; intro _; refine xBa ?_; intro _; refine xAs ?_; refine zY ?_; refine zX ?_; refine zX (zZ ?_); refine xLa ?_; apply zQ; rfl; rfl; rfl; (refine zK rfl rfl (zV (by kernel_rfl)) ?_; exact hc _); refine xBi ?_; intro _ _; refine xMv ?_; refine q_d (fun h h_k => ?_) (fun h h_k => ?_) <;> ((try subst h_k); (have hp := h; try simp only [q_n] at hp); (try (exfalso; first | omega | (cases hp; done))));
    refine yLa ?_; apply exl_isBW; rfl; (rfl); rfl; rfl; (refine zK rfl rfl (zV (by kernel_rfl)) ?_; exact hk _); intro _ _; refine yNo ?_; intro _ _; refine xPf ?_; refine zY ?_; refine q_c (fun h h_k => ?_) (fun h h_k => ?_) <;> ((try subst h_k); (have hp := h; try simp only [q_n] at hp); (try (exfalso; first | omega | (cases hp; done))));
    refine zX (zZ ?_); refine xLa ?_; refine xSt ?_; refine xAs ?_; refine zY ?_; refine zJ ?_; simp only [zP, zU, zT, zW, retA, ↓reduceIte, Nat.reduceEqDiff]; rotate_left; refine zR ?_; refine zX ?_; refine zX (zZ ?_); refine xFa ?_; refine xLd ?_; refine xLn ?_; refine xBi ?_; intro _ _; refine zY ?_; refine q_c (fun h h_k => ?_) (fun h h_k => ?_) <;> ((try subst h_k); (have hp := h; try simp only [q_n] at hp); (try (exfalso; first | omega | (cases hp; done))));
    refine zX (zZ ?_); refine xLa ?_; refine xSt ?_; refine xAs ?_; refine zY ?_; refine zJ ?_; simp only [zP, zU, zT, zW, retA, ↓reduceIte, Nat.reduceEqDiff]; rotate_left
    (all_goals (repeat (rename BV _ _ => hbv; first | cases hbv | clear hbv)))
    all_goals (try (first | cases ‹true = false› | cases ‹false = true›))
    refine q_ri ?_
    rfl
  · rw [if_neg he]
    have he1 : ¬ (L.length : Int) = 4096 := by omega
    have hat : L.length ≤ (L.map pkC).length := by rw [List.length_map]; exact Nat.le_refl _
    have htl : ((L.map pkC).take L.length).length = L.length := by rw [List.length_take]; omega
    have hput : (L ++ [p]).map pkC = (L.map pkC).take L.length ++ [pkC p] := by rw [List.map_append, List.take_of_length_le (by rw [List.length_map]; exact Nat.le_refl _)]; rfl
    have hres : netV (L ++ [p]) = .agg [.dl 3 ((L.map pkC).take L.length ++ [pkC p]), .dl 2 []] := by show AV.agg [.dl 3 ((L ++ [p]).map pkC), .dl 2 []] = _; rw [hput]
    rw [hres]
    clear hput hres
    refine zX (zZ ?_); refine xBb ?_; intro _; refine xBb ?_; intro _; refine xBa ?_; intro _; refine xAs ?_; refine zY ?_; refine zX ?_; refine zX (zZ ?_); refine xLa ?_; apply zQ; rfl; rfl; rfl; (refine zK rfl rfl (zV (by kernel_rfl)) ?_; exact hc _); refine xBi ?_; intro _ _; refine xMv ?_; refine q_d (fun h h_k => ?_) (fun h h_k => ?_) <;> ((try subst h_k); (have hp := h; try simp only [q_n] at hp); (try (exfalso; first | omega | (cases hp; done))));
    refine yLa ?_; apply exl_isBW; rfl; (rfl); rfl; rfl; (refine zK rfl rfl (zV (by kernel_rfl)) ?_; exact hk _); intro _ _; refine yNo ?_; intro _ _; refine xPf ?_; refine zY ?_; refine q_c (fun h h_k => ?_) (fun h h_k => ?_) <;> ((try subst h_k); (have hp := h; try simp only [q_n] at hp); (try (exfalso; first | omega | (cases hp; done))));
    refine zX (zZ ?_); refine xLa ?_; refine xSt ?_; refine xAs ?_; refine zY ?_; refine zJ ?_; simp only [zP, zU, zT, zW, retA, ↓reduceIte, Nat.reduceEqDiff]; rotate_left; refine zR ?_; refine zX ?_; refine zX (zZ ?_); refine xFa ?_; refine xLd ?_; refine xLn ?_; refine xBi ?_; intro _ _; refine zY ?_; refine q_c (fun h h_k => ?_) (fun h h_k => ?_) <;> ((try subst h_k); (have hp := h; try simp only [q_n] at hp); (try (exfalso; first | omega | (cases hp; done))));
    refine zR ?_; refine zX ?_; refine ex_drawT rfl rfl (by kernel_rfl) rfl ?_; simp only [List.length_cons, List.length_nil, Nat.reduceAdd, Nat.reduceSub, List.take_succ_cons, List.take_zero, List.drop_succ_cons, List.drop_zero]; refine wFa ?_; refine wLd ?_; refine wFa ?_; refine wLd ?_; apply wl_is; rfl; rfl; rfl; (intro σ' hl; (apply g_len; rfl; rfl; (exact (List.length_map _).symm))); refine wFa ?_; refine wLd ?_; apply wl_is; rfl; rfl; rfl; (intro σ' hl; (apply g_len; rfl; rfl; (exact (List.length_map _).symm))); apply wl_is; rfl; rfl; rfl; (intro σ' hl; (exact g_slice3 rfl rfl rfl rfl rfl rfl hat)); refine wLa ?_; apply wl_is; rfl; rfl; rfl; (intro σ' hl; (exact gop_sealed (g_buildSlice rfl rfl (by decide) rfl rfl (by (simp only [chunkN, List.take_succ_cons, List.take_zero, List.drop_succ_cons, List.drop_zero]; rfl))))); apply wl_is; rfl; rfl; rfl; (intro σ' hl; (refine g_appendTS rfl rfl rfl (.s .d) ?_; refine app_ok ?_ (by kernel_rfl); rw [htl]; simp; omega)); refine wFa ?_; refine wl_nil ?_; refine xSt ?_; refine zY ?_; refine zX (zZ ?_); refine xLa ?_; refine xSt ?_; refine xAs ?_; refine zY ?_; refine zJ ?_; simp only [zP, zU, zT, zW, retA, ↓reduceIte, Nat.reduceEqDiff]; rotate_left
    (all_goals (repeat (rename BV _ _ => hbv; first | cases hbv | clear hbv)))
    all_goals (try (first | cases ‹true = false› | cases ‹false = true›))
    refine q_ri ?_
    rfl
end Go.Proofs.YtkhoengjdfmfaaaGreat
namespace Go.Proofs.YtkhoengjdfmfaaaGreat
abbrev pk0 : List AV := [.int .i64 0, .int .i64 0, .slv nilS]
abbrev net0 : List AV := [.slv nilS, .slv nilS]
theorem pk_get {L : List Pk} {k : Nat} {p : Pk} (h : L[k]? = some p) : (L.map pkC)[k]? = some (pkC p) := by rw [List.getElem?_map, h]; rfl
set_option maxHeartbeats 4000000 in
theorem at_out (L : List Pk) (h : ∀ p ∈ L, OkP p) (hl : L.length ≤ 4096) (i : Int) (hi : i < 0 ∨ (L.length : Int) ≤ i) (σ : List Ent) :
    SCall Tryz.prog 127 [netV L, .int .i64 i] σ (Is (.tup [.agg pk0, .int .i64 1]) σ) := by
  refine scall_of Tryz.func127 rfl (by simp) ?_
  have hc := fun σ => netcheck_c L h hl σ
  clear h
  refine zX (zZ ?_); refine xBb ?_; intro _; refine xBa ?_; intro _; refine xAs ?_; refine zY ?_; refine zX ?_; refine zX (zZ ?_); refine xLa ?_; apply zQ; rfl; rfl; rfl; (refine zK rfl rfl (zV (by kernel_rfl)) ?_; exact hc _); refine xBi ?_; intro _ _; refine zY ?_; refine q_c (fun h h_k => ?_) (fun h h_k => ?_) <;> ((try subst h_k); (have hp := h; try simp only [q_n] at hp); (try (exfalso; first | omega | (cases hp; done))));
  refine zR ?_; refine zX ?_; refine zX (zZ ?_); refine xMv ?_; refine xBi ?_; intro _ _; refine xMv ?_; refine q_d (fun h h_k => ?_) (fun h h_k => ?_) <;> ((try subst h_k); (have hp := h; try simp only [q_n] at hp); (try (exfalso; first | omega | (cases hp; done))));
  refine xSk ?_; refine xSk ?_; refine xSk ?_; refine xSk ?_; refine xSk ?_; refine xPt ?_; refine zY ?_; refine ex_cond_t rfl (by rfl) ?_; refine zX (zZ ?_); refine xLa ?_; refine xSt ?_; refine xAs ?_; refine zY ?_; refine zJ ?_; simp only [zP, zU, zT, zW, retA, ↓reduceIte, Nat.reduceEqDiff]; rotate_left; refine yMv ?_; refine yFa ?_; refine yLd ?_; apply exl_isW; rfl; (rfl); rfl; rfl; (apply g_len; rfl; rfl; (exact (List.length_map _).symm)); refine yBi ?_; intro _ _; refine xPf ?_; refine zY ?_; refine q_c (fun h h_k => ?_) (fun h h_k => ?_) <;> ((try subst h_k); (have hp := h; try simp only [q_n] at hp); (try (exfalso; first | omega | (cases hp; done))));
  refine zX (zZ ?_); refine xLa ?_; refine xSt ?_; refine xAs ?_; refine zY ?_; refine zJ ?_; simp only [zP, zU, zT, zW, retA, ↓reduceIte, Nat.reduceEqDiff]; rotate_left
  (all_goals (repeat (rename BV _ _ => hbv; first | cases hbv | clear hbv)))
  all_goals (try (first | cases ‹true = false› | cases ‹false = true›))
  all_goals
    refine q_ri ?_
    rfl
set_option maxHeartbeats 4000000 in
theorem at_in (L : List Pk) (h : ∀ p ∈ L, OkP p) (hl : L.length ≤ 4096) (k : Nat) (p : Pk) (hk : L[k]? = some p) (σ : List Ent) :
    SCall Tryz.prog 127 [netV L, .int .i64 k] σ (Is (.tup [pkV p, .int .i64 0]) σ) := by
  refine scall_of Tryz.func127 rfl (by simp) ?_
  have hc := fun σ => netcheck_c L h hl σ
  have hg := pk_get hk
  have hlt : k < L.length := (List.getElem?_eq_some_iff.1 hk).1
  clear h hk
  refine zX (zZ ?_); refine xBb ?_; intro _; refine xBa ?_; intro _; refine xAs ?_; refine zY ?_; refine zX ?_; refine zX (zZ ?_); refine xLa ?_; apply zQ; rfl; rfl; rfl; (refine zK rfl rfl (zV (by kernel_rfl)) ?_; exact hc _); refine xBi ?_; intro _ _; refine zY ?_; refine q_c (fun h h_k => ?_) (fun h h_k => ?_) <;> ((try subst h_k); (have hp := h; try simp only [q_n] at hp); (try (exfalso; first | omega | (cases hp; done))));
  refine zR ?_; refine zX ?_; refine zX (zZ ?_); refine xMv ?_; refine xBi ?_; intro _ _; refine xMv ?_; refine q_d (fun h h_k => ?_) (fun h h_k => ?_) <;> ((try subst h_k); (have hp := h; try simp only [q_n] at hp); (try (exfalso; first | omega | (cases hp; done))));
  refine yMv ?_; refine yFa ?_; refine yLd ?_; apply exl_isW; rfl; (rfl); rfl; rfl; (apply g_len; rfl; rfl; (exact (List.length_map _).symm)); refine yBi ?_; intro _ _; refine xPf ?_; refine zY ?_; refine q_c (fun h h_k => ?_) (fun h h_k => ?_) <;> ((try subst h_k); (have hp := h; try simp only [q_n] at hp); (try (exfalso; first | omega | (cases hp; done))));
  refine zR ?_; refine zX (zZ ?_); refine xFa ?_; refine xLd ?_; refine xMv ?_; refine xIx ?_; refine xLa ?_; refine xSt ?_; refine xAs ?_; refine zY ?_; refine zJ ?_; simp only [zP, zU, zT, zW, retA, ↓reduceIte, Nat.reduceEqDiff]; rotate_left
  (all_goals (repeat (rename BV _ _ => hbv; first | cases hbv | clear hbv)))
  all_goals (try (first | cases ‹true = false› | cases ‹false = true›))
  all_goals
    refine q_ri ?_
    rfl
set_option maxHeartbeats 4000000 in
theorem without_c (L : List Pk) (hl : L.length ≤ 4096) (k : Nat) (hk : k < L.length) (σ : List Ent) :
    SCall Tryz.prog 129 [netV L, .int .i64 k] σ (Is (netV (L.eraseIdx k)) σ) := by
  refine scall_of Tryz.func129 rfl (by simp) ?_
  have hat : k ≤ (L.map pkC).length := by rw [List.length_map]; omega
  have htl : ((L.map pkC).take k).length = k := by rw [List.length_take]; omega
  have hres : netV (L.eraseIdx k) = .agg [.dl 3 ((L.map pkC).take k ++ (L.drop (k + 1)).map pkC), .dl 2 []] := by
    show AV.agg [.dl 3 ((L.eraseIdx k).map pkC), .dl 2 []] = _
    rw [List.eraseIdx_eq_take_drop_succ, List.map_append, List.map_take]
  rw [hres]
  clear hres
  have hdl : ((L.drop (k + 1)).map pkC).length ≤ 4096 := by rw [List.length_map, List.length_drop]; omega
  refine zX (zZ ?_); refine xBb ?_; intro _; refine xBa ?_; intro _; refine zY ?_; refine zX ?_; refine ex_drawT rfl rfl (by kernel_rfl) rfl ?_; simp only [List.length_cons, List.length_nil, Nat.reduceAdd, Nat.reduceSub, List.take_succ_cons, List.take_zero, List.drop_succ_cons, List.drop_zero]; refine wFa ?_; refine wLd ?_; refine wMv ?_; refine wMv ?_; apply wl_is; rfl; rfl; rfl; (intro σ' hl; (exact g_slice3 rfl rfl rfl rfl rfl rfl hat)); refine wFa ?_; refine wLd ?_; refine wMv ?_; apply wl_is; rfl; rfl; rfl; (intro σ' hl; (apply g_add; rfl; rfl; rfl; exact ⟨by omega, by omega⟩)); apply wl_is; rfl; rfl; rfl; (intro σ' hl; (apply g_sliceLo; rfl; rfl; rfl; (rfl); omega)); simp only [zP, zU, zT, zW, retA, ↓reduceIte, Nat.reduceEqDiff]; apply wl_is; rfl; rfl; rfl; (intro σ' hl; (refine g_appendTS rfl rfl rfl (.s .d) ?_; refine app_ok ?_ (by kernel_rfl); rw [htl]; omega)); refine wFa ?_; refine wl_nil ?_; refine xSt ?_; refine zY ?_; refine zX (zZ ?_); refine xLa ?_; refine xSt ?_; refine zY ?_; refine zJ ?_; simp only [zP, zU, zT, zW, retA, ↓reduceIte, Nat.reduceEqDiff]; rotate_left
  (all_goals (repeat (rename BV _ _ => hbv; first | cases hbv | clear hbv)))
  all_goals (try (first | cases ‹true = false› | cases ‹false = true›))
  all_goals
    refine q_ri ?_
    rfl
set_option maxHeartbeats 4000000 in
theorem cuts_idx (a b : Int) (σ : List Ent) : SCall Tryz.prog 151 [.dl 2 [], .agg [.int .i64 a, .int .i64 b]] σ (Is (.int .i64 (-1)) σ) := by
  refine scall_of Tryz.func151 rfl (by simp) ?_
  refine zX (zZ ?_); refine xBb ?_; intro _; refine xAs ?_; refine zY ?_; refine zX ?_; refine zX (zZ ?_); refine xMv ?_; apply zQ; rfl; rfl; rfl; (apply g_len; rfl; rfl; (rfl)); refine xMv ?_; refine zY ?_; refine zL ?_; rotate_left
  (all_goals (repeat (rename BV _ _ => hbv; first | cases hbv | clear hbv)))
  all_goals (try (first | cases ‹true = false› | cases ‹false = true›))
  refine ex_loop (fun (z : Unit) => (⟨[(6, .dl 2 []), (7, .int .i64 0), (8, .int .i64 0)], σ, [], Tryz.f151.ntmps⟩ : St)) (fun z => True) (fun z => 0) () (trivial) (St.le_of (by repeat (first | exact trivial | refine ⟨rfl, ?_⟩)) (by repeat (first | exact q_r | apply q_q | apply q_k))) ?_
  intro z hI
  refine zX (zZ ?_); refine xBi ?_; intro _ _; refine zY ?_; refine zX ?_; refine q_c (fun h h_k => ?_) (fun h h_k => ?_) <;> ((try subst h_k); (have hp := h; try simp only [q_n] at hp); (try (exfalso; first | omega | (cases hp; done))));
  refine ex_exit ?_; refine zX (zZ ?_); refine xAs ?_; refine zY ?_; refine zJ ?_; simp only [zP, zU, zT, zW, retA, ↓reduceIte, Nat.reduceEqDiff]; rotate_left
  (all_goals (repeat (rename BV _ _ => hbv; first | cases hbv | clear hbv)))
  all_goals (try (first | cases ‹true = false› | cases ‹false = true›))
  refine q_ri ?_
  rfl
theorem cuts_has (a b : Int) (σ : List Ent) : SCall Tryz.prog 128 [.dl 2 [], .agg [.int .i64 a, .int .i64 b]] σ (Is (.bool false) σ) := by
  refine scall_of Tryz.func128 rfl (by simp) ?_
  refine zX (zZ ?_); refine xBb ?_; intro _; refine xAs ?_; refine zY ?_; refine zX (zZ ?_); refine xMv ?_; refine xLa ?_; apply zQ; rfl; rfl; rfl; (refine zK rfl rfl (zV (by kernel_rfl)) ?_; exact cuts_idx _ _ _); refine xBi ?_; intro _ _; refine xAs ?_; refine zY ?_; refine zJ ?_; simp only [zP, zU, zT, zW, retA, ↓reduceIte, Nat.reduceEqDiff]; rotate_left
  (all_goals (repeat (rename BV _ _ => hbv; first | cases hbv | clear hbv)))
  all_goals (try (first | cases ‹true = false› | cases ‹false = true›))
  all_goals
    refine q_ri ?_
    rfl
set_option maxHeartbeats 4000000 in
theorem deliver_out (L : List Pk) (h : ∀ p ∈ L, OkP p) (hl : L.length ≤ 4096) (i : Int) (hi : i < 0 ∨ (L.length : Int) ≤ i) (σ : List Ent) :
    SCall Tryz.prog 85 [netV L, .int .i64 i] σ (Is (.tup [.agg pk0, .agg net0, .int .i64 1]) σ) := by
  refine scall_of Tryz.func85 rfl (by simp) ?_
  have hc := fun σ => at_out L h hl i hi σ
  clear h hi
  refine zX (zZ ?_); refine xBb ?_; intro _; refine xBa ?_; intro _; refine xBa ?_; intro _; refine xAs ?_; refine zY ?_; refine zX ?_; refine zX (zZ ?_); refine xLa ?_; refine xMv ?_; apply zQ; rfl; rfl; rfl; (refine zK rfl rfl (zV (by kernel_rfl)) ?_; exact hc _); refine xMv ?_; refine xEx ?_; refine xEx ?_; refine xSt ?_; refine xAs ?_; refine zY ?_; refine zX (zZ ?_); refine xMv ?_; refine xBi ?_; intro _ _; refine zY ?_; refine q_c (fun h h_k => ?_) (fun h h_k => ?_) <;> ((try subst h_k); (have hp := h; try simp only [q_n] at hp); (try (exfalso; first | omega | (cases hp; done))));
  refine zX ?_; refine ex_all rfl ?_; refine exa_three rfl rfl rfl rfl ?_ ?_ ?_; refine xLa ?_; refine zN ?_; refine exa_three rfl rfl rfl rfl ?_ ?_ ?_; refine xLa ?_; refine zN ?_; refine exa_two rfl rfl rfl ?_ ?_; refine xMv ?_; refine zN ?_; refine exa_one rfl rfl ?_; refine xSt ?_; refine zN ?_; refine exa_one rfl rfl ?_; refine xSt ?_; refine zN ?_; refine exa_one rfl rfl ?_; refine xAs ?_; refine zN ?_; refine exa_nil rfl ?_; refine zJ ?_; simp only [zP, zU, zT, zW, retA, ↓reduceIte, Nat.reduceEqDiff]; rotate_left; refine xSt ?_; refine zN ?_; refine exa_two rfl rfl rfl ?_ ?_; refine xMv ?_; refine zN ?_; refine exa_one rfl rfl ?_; refine xSt ?_; refine zN ?_; refine exa_one rfl rfl ?_; refine xAs ?_; refine zN ?_; refine exa_nil rfl ?_; refine zJ ?_; simp only [zP, zU, zT, zW, retA, ↓reduceIte, Nat.reduceEqDiff]; rotate_left; refine xSt ?_; refine zN ?_; refine exa_one rfl rfl ?_; refine xMv ?_; refine zN ?_; refine exa_one rfl rfl ?_; refine xAs ?_; refine zN ?_; refine exa_nil rfl ?_; refine zJ ?_; simp only [zP, zU, zT, zW, retA, ↓reduceIte, Nat.reduceEqDiff]; rotate_left; refine xMv ?_; refine zN ?_; refine exa_two rfl rfl rfl ?_ ?_; refine xLa ?_; refine zN ?_; refine exa_one rfl rfl ?_; refine xSt ?_; refine zN ?_; refine exa_one rfl rfl ?_; refine xSt ?_; refine zN ?_; refine exa_one rfl rfl ?_; refine xAs ?_; refine zN ?_; refine exa_nil rfl ?_; refine zJ ?_; simp only [zP, zU, zT, zW, retA, ↓reduceIte, Nat.reduceEqDiff]; rotate_left; refine xSt ?_; refine zN ?_; refine exa_one rfl rfl ?_; refine xLa ?_; refine zN ?_; refine exa_one rfl rfl ?_; refine xSt ?_; refine zN ?_; refine exa_one rfl rfl ?_; refine xAs ?_; refine zN ?_; refine exa_nil rfl ?_; refine zJ ?_; simp only [zP, zU, zT, zW, retA, ↓reduceIte, Nat.reduceEqDiff]; rotate_left; refine xSt ?_; refine zN ?_; refine exa_two rfl rfl rfl ?_ ?_; refine xLa ?_; refine zN ?_; refine exa_two rfl rfl rfl ?_ ?_; refine xMv ?_; refine zN ?_; refine exa_one rfl rfl ?_; refine xSt ?_; refine zN ?_; refine exa_one rfl rfl ?_; refine xAs ?_; refine zN ?_; refine exa_nil rfl ?_; refine zJ ?_; simp only [zP, zU, zT, zW, retA, ↓reduceIte, Nat.reduceEqDiff]; rotate_left; refine xSt ?_; refine zN ?_; refine exa_one rfl rfl ?_; refine xMv ?_; refine zN ?_; refine exa_one rfl rfl ?_; refine xAs ?_; refine zN ?_; refine exa_nil rfl ?_; refine zJ ?_; simp only [zP, zU, zT, zW, retA, ↓reduceIte, Nat.reduceEqDiff]; rotate_left; refine xMv ?_; refine zN ?_; refine exa_one rfl rfl ?_; refine xLa ?_; refine zN ?_; refine exa_one rfl rfl ?_; refine xSt ?_; refine zN ?_; refine exa_one rfl rfl ?_; refine xAs ?_; refine zN ?_; refine exa_nil rfl ?_; refine zJ ?_; simp only [zP, zU, zT, zW, retA, ↓reduceIte, Nat.reduceEqDiff]; rotate_left; refine xLa ?_; refine zN ?_; refine exa_two rfl rfl rfl ?_ ?_; refine xLa ?_; refine zN ?_; refine exa_two rfl rfl rfl ?_ ?_; refine xMv ?_; refine zN ?_; refine exa_one rfl rfl ?_; refine xSt ?_; refine zN ?_; refine exa_one rfl rfl ?_; refine xSt ?_; refine zN ?_; refine exa_one rfl rfl ?_; refine xAs ?_; refine zN ?_; refine exa_nil rfl ?_; refine zJ ?_; simp only [zP, zU, zT, zW, retA, ↓reduceIte, Nat.reduceEqDiff]; rotate_left; refine xSt ?_; refine zN ?_; refine exa_two rfl rfl rfl ?_ ?_; refine xMv ?_; refine zN ?_; refine exa_one rfl rfl ?_; refine xSt ?_; refine zN ?_; refine exa_one rfl rfl ?_; refine xAs ?_; refine zN ?_; refine exa_nil rfl ?_; refine zJ ?_; simp only [zP, zU, zT, zW, retA, ↓reduceIte, Nat.reduceEqDiff]; rotate_left; refine xSt ?_; refine zN ?_; refine exa_one rfl rfl ?_; refine xMv ?_; refine zN ?_; refine exa_one rfl rfl ?_; refine xAs ?_; refine zN ?_; refine exa_nil rfl ?_; refine zJ ?_; simp only [zP, zU, zT, zW, retA, ↓reduceIte, Nat.reduceEqDiff]; rotate_left; refine xMv ?_; refine zN ?_; refine exa_one rfl rfl ?_; refine xLa ?_; refine zN ?_; refine exa_one rfl rfl ?_; refine xSt ?_; refine zN ?_; refine exa_one rfl rfl ?_; refine xSt ?_; refine zN ?_; refine exa_one rfl rfl ?_; refine xAs ?_; refine zN ?_; refine exa_nil rfl ?_; refine zJ ?_; simp only [zP, zU, zT, zW, retA, ↓reduceIte, Nat.reduceEqDiff]; rotate_left; refine xMv ?_; refine zN ?_; refine exa_two rfl rfl rfl ?_ ?_; refine xLa ?_; refine zN ?_; refine exa_two rfl rfl rfl ?_ ?_; refine xLa ?_; refine zN ?_; refine exa_one rfl rfl ?_; refine xSt ?_; refine zN ?_; refine exa_one rfl rfl ?_; refine xSt ?_; refine zN ?_; refine exa_one rfl rfl ?_; refine xAs ?_; refine zN ?_; refine exa_nil rfl ?_; refine zJ ?_; simp only [zP, zU, zT, zW, retA, ↓reduceIte, Nat.reduceEqDiff]; rotate_left; refine xSt ?_; refine zN ?_; refine exa_one rfl rfl ?_; refine xLa ?_; refine zN ?_; refine exa_one rfl rfl ?_; refine xSt ?_; refine zN ?_; refine exa_one rfl rfl ?_; refine xAs ?_; refine zN ?_; refine exa_nil rfl ?_; refine zJ ?_; simp only [zP, zU, zT, zW, retA, ↓reduceIte, Nat.reduceEqDiff]; rotate_left; refine xLa ?_; refine zN ?_; refine exa_one rfl rfl ?_; refine xLa ?_; refine zN ?_; refine exa_one rfl rfl ?_; refine xSt ?_; refine zN ?_; refine exa_one rfl rfl ?_; refine xSt ?_; refine zN ?_; refine exa_one rfl rfl ?_; refine xAs ?_; refine zN ?_; refine exa_nil rfl ?_; refine zJ ?_; simp only [zP, zU, zT, zW, retA, ↓reduceIte, Nat.reduceEqDiff]; rotate_left
  (all_goals (repeat (rename BV _ _ => hbv; first | cases hbv | clear hbv)))
  all_goals (try (first | cases ‹true = false› | cases ‹false = true›))
  all_goals
    refine q_ri ?_
    rfl
set_option maxHeartbeats 4000000 in
theorem deliver_in (L : List Pk) (h : ∀ p ∈ L, OkP p) (hl : L.length ≤ 4096) (k : Nat) (p : Pk) (hk : L[k]? = some p) (σ : List Ent) :
    SCall Tryz.prog 85 [netV L, .int .i64 k] σ (Is (.tup [pkV p, netV (L.eraseIdx k), .int .i64 0]) σ) := by
  refine scall_of Tryz.func85 rfl (by simp) ?_
  have hc := fun σ => at_in L h hl k p hk σ
  have hlt : k < L.length := (List.getElem?_eq_some_iff.1 hk).1
  have hw := fun σ => without_c L hl k hlt σ
  clear h hk
  refine zX (zZ ?_); refine xBb ?_; intro _; refine xBa ?_; intro _; refine xBa ?_; intro _; refine xAs ?_; refine zY ?_; refine zX ?_; refine zX (zZ ?_); refine xLa ?_; refine xMv ?_; apply zQ; rfl; rfl; rfl; (refine zK rfl rfl (zV (by kernel_rfl)) ?_; exact hc _); refine xMv ?_; refine xEx ?_; refine xEx ?_; refine xSt ?_; refine xAs ?_; refine zY ?_; refine zX (zZ ?_); refine xMv ?_; refine xBi ?_; intro _ _; refine zY ?_; refine q_c (fun h h_k => ?_) (fun h h_k => ?_) <;> ((try subst h_k); (have hp := h; try simp only [q_n] at hp); (try (exfalso; first | omega | (cases hp; done))));
  refine zR ?_; refine zX ?_; refine zX ?_; rotate_left
  (all_goals (repeat (rename BV _ _ => hbv; first | cases hbv | clear hbv)))
  all_goals (try (first | cases ‹true = false› | cases ‹false = true›))
  refine ex_drawLK anyK 8 [6, 7] rfl (by kernel_rfl) rfl ?_
  simp only [List.take_succ_cons, List.take_zero, List.drop_succ_cons, List.drop_zero]
  refine wFa ?_; refine wLd ?_; refine wFa ?_; refine wLd ?_; refine wFa ?_; refine wLd ?_; refine wl_eff rfl rfl rfl (zK rfl rfl (zV (by kernel_rfl)) (between_c _ _ _)) ?_; rintro _ _ ⟨⟩; refine ⟨fun _ _ h => h, ?_⟩; refine wl_eff rfl rfl rfl (zK rfl rfl (zV (by kernel_rfl)) (cuts_has _ _ _)) ?_; rintro _ _ ⟨⟩; refine ⟨fun _ _ h => h, ?_⟩; refine wl_nil ?_; refine zY ?_; refine ex_cond_f rfl (by rfl) ?_; refine zR ?_; refine zX ?_; rotate_left
  (all_goals (repeat (rename BV _ _ => hbv; first | cases hbv | clear hbv)))
  all_goals (try (first | cases ‹true = false› | cases ‹false = true›))
  refine ex_drawLK anyK 4 [3] rfl (by kernel_rfl) rfl ?_
  simp only [List.take_succ_cons, List.take_zero, List.drop_succ_cons, List.drop_zero]
  refine wLa ?_; refine wLa ?_; refine wMv ?_; refine wl_eff rfl rfl rfl (zK rfl rfl (zV (by kernel_rfl)) (hw _)) ?_; rintro _ _ ⟨⟩; refine ⟨fun _ _ h => h, ?_⟩; refine wl_nil ?_; refine xSt ?_; refine xSt ?_; refine xAs ?_; refine zY ?_; refine zJ ?_; simp only [zP, zU, zT, zW, retA, ↓reduceIte, Nat.reduceEqDiff]; rotate_left
  (all_goals (repeat (rename BV _ _ => hbv; first | cases hbv | clear hbv)))
  all_goals (try (first | cases ‹true = false› | cases ‹false = true›))
  all_goals
    refine q_ri ?_
    rfl
set_option maxHeartbeats 4000000 in
theorem lose_out (L : List Pk) (h : ∀ p ∈ L, OkP p) (hl : L.length ≤ 4096) (i : Int) (hi : i < 0 ∨ (L.length : Int) ≤ i) (σ : List Ent) :
    SCall Tryz.prog 86 [netV L, .int .i64 i] σ (Is (.tup [.agg net0, .int .i64 1]) σ) := by
  refine scall_of Tryz.func86 rfl (by simp) ?_
  have hc := fun σ => at_out L h hl i hi σ
  clear h hi
  refine zX (zZ ?_); refine xBb ?_; intro _; refine xBa ?_; intro _; refine xAs ?_; refine zY ?_; refine zX ?_; refine zX (zZ ?_); refine xLa ?_; refine xMv ?_; apply zQ; rfl; rfl; rfl; (refine zK rfl rfl (zV (by kernel_rfl)) ?_; exact hc _); refine xMv ?_; refine xEx ?_; refine xEx ?_; refine xAs ?_; refine zY ?_; refine zX (zZ ?_); refine xMv ?_; refine xBi ?_; intro _ _; refine zY ?_; refine q_c (fun h h_k => ?_) (fun h h_k => ?_) <;> ((try subst h_k); (have hp := h; try simp only [q_n] at hp); (try (exfalso; first | omega | (cases hp; done))));
  refine zX (zZ ?_); refine xLa ?_; refine xMv ?_; refine xSt ?_; refine xAs ?_; refine zY ?_; refine zJ ?_; simp only [zP, zU, zT, zW, retA, ↓reduceIte, Nat.reduceEqDiff]; rotate_left
  (all_goals (repeat (rename BV _ _ => hbv; first | cases hbv | clear hbv)))
  all_goals (try (first | cases ‹true = false› | cases ‹false = true›))
  all_goals
    refine q_ri ?_
    rfl
set_option maxHeartbeats 4000000 in
theorem lose_in (L : List Pk) (h : ∀ p ∈ L, OkP p) (hl : L.length ≤ 4096) (k : Nat) (p : Pk) (hk : L[k]? = some p) (σ : List Ent) :
    SCall Tryz.prog 86 [netV L, .int .i64 k] σ (Is (.tup [netV (L.eraseIdx k), .int .i64 0]) σ) := by
  refine scall_of Tryz.func86 rfl (by simp) ?_
  have hc := fun σ => at_in L h hl k p hk σ
  have hlt : k < L.length := (List.getElem?_eq_some_iff.1 hk).1
  have hw := fun σ => without_c L hl k hlt σ
  clear h hk
  refine zX (zZ ?_); refine xBb ?_; intro _; refine xBa ?_; intro _; refine xAs ?_; refine zY ?_; refine zX ?_; refine zX (zZ ?_); refine xLa ?_; refine xMv ?_; apply zQ; rfl; rfl; rfl; (refine zK rfl rfl (zV (by kernel_rfl)) ?_; exact hc _); refine xMv ?_; refine xEx ?_; refine xEx ?_; refine xAs ?_; refine zY ?_; refine zX (zZ ?_); refine xMv ?_; refine xBi ?_; intro _ _; refine zY ?_; refine q_c (fun h h_k => ?_) (fun h h_k => ?_) <;> ((try subst h_k); (have hp := h; try simp only [q_n] at hp); (try (exfalso; first | omega | (cases hp; done))));
  refine zR ?_; refine zX (zZ ?_); refine xLa ?_; refine xMv ?_; apply zQ; rfl; rfl; rfl; (refine zK rfl rfl (zV (by kernel_rfl)) ?_; exact hw _); refine xSt ?_; refine xAs ?_; refine zY ?_; refine zJ ?_; simp only [zP, zU, zT, zW, retA, ↓reduceIte, Nat.reduceEqDiff]; rotate_left
  (all_goals (repeat (rename BV _ _ => hbv; first | cases hbv | clear hbv)))
  all_goals (try (first | cases ‹true = false› | cases ‹false = true›))
  all_goals
    refine q_ri ?_
    rfl
set_option maxHeartbeats 4000000 in
theorem repeat_out (L : List Pk) (h : ∀ p ∈ L, OkP p) (hl : L.length ≤ 4096) (i : Int) (hi : i < 0 ∨ (L.length : Int) ≤ i) (σ : List Ent) :
    SCall Tryz.prog 87 [netV L, .int .i64 i] σ (Is (.tup [.agg net0, .int .i64 1]) σ) := by
  refine scall_of Tryz.func87 rfl (by simp) ?_
  have hc := fun σ => at_out L h hl i hi σ
  clear h hi
  refine zX (zZ ?_); refine xBb ?_; intro _; refine xBa ?_; intro _; refine xAs ?_; refine zY ?_; refine zX (zZ ?_); refine xLa ?_; refine xMv ?_; apply zQ; rfl; rfl; rfl; (refine zK rfl rfl (zV (by kernel_rfl)) ?_; exact hc _); refine xMv ?_; refine xEx ?_; refine xEx ?_; refine xBa ?_; intro _; refine xSt ?_; refine xAs ?_; refine zY ?_; refine zX ?_; refine zX (zZ ?_); refine xMv ?_; refine xBi ?_; intro _ _; refine zY ?_; refine q_c (fun h h_k => ?_) (fun h h_k => ?_) <;> ((try subst h_k); (have hp := h; try simp only [q_n] at hp); (try (exfalso; first | omega | (cases hp; done))));
  refine zX (zZ ?_); refine xLa ?_; refine xMv ?_; refine xSt ?_; refine xAs ?_; refine zY ?_; refine zJ ?_; simp only [zP, zU, zT, zW, retA, ↓reduceIte, Nat.reduceEqDiff]; rotate_left
  (all_goals (repeat (rename BV _ _ => hbv; first | cases hbv | clear hbv)))
  all_goals (try (first | cases ‹true = false› | cases ‹false = true›))
  all_goals
    refine q_ri ?_
    rfl
abbrev sendR (L : List Pk) (p : Pk) : AV := if L.length = 4096 then .tup [.agg net0, .int .i64 2] else .tup [netV (L ++ [p]), .int .i64 0]
set_option maxHeartbeats 4000000 in
theorem repeat_in (L : List Pk) (h : ∀ p ∈ L, OkP p) (hl : L.length ≤ 4096) (k : Nat) (p : Pk) (hk : L[k]? = some p) (σ : List Ent) :
    SCall Tryz.prog 87 [netV L, .int .i64 k] σ (Is (sendR L p) σ) := by
  refine scall_of Tryz.func87 rfl (by simp) ?_
  have hc := fun σ => at_in L h hl k p hk σ
  have hs := fun σ => send_c L h hl p (h p (List.mem_of_getElem? hk)) σ
  clear h hk
  unfold sendR
  by_cases he : L.length = 4096
  · rw [if_pos he] at hs ⊢
    refine zX (zZ ?_); refine xBb ?_; intro _; refine xBa ?_; intro _; refine xAs ?_; refine zY ?_; refine zX (zZ ?_); refine xLa ?_; refine xMv ?_; apply zQ; rfl; rfl; rfl; (refine zK rfl rfl (zV (by kernel_rfl)) ?_; exact hc _); refine xMv ?_; refine xEx ?_; refine xEx ?_; refine xBa ?_; intro _; refine xSt ?_; refine xAs ?_; refine zY ?_; refine zX ?_; refine zX (zZ ?_); refine xMv ?_; refine xBi ?_; intro _ _; refine zY ?_; refine q_c (fun h h_k => ?_) (fun h h_k => ?_) <;> ((try subst h_k); (have hp := h; try simp only [q_n] at hp); (try (exfalso; first | omega | (cases hp; done))));
    refine zR ?_; refine zX (zZ ?_); refine xLa ?_; refine xLa ?_; apply zQ; rfl; rfl; rfl; (refine zK rfl rfl (zV (by kernel_rfl)) ?_; exact hs _); refine xEx ?_; refine xEx ?_; refine xSt ?_; refine xAs ?_; refine zY ?_; refine zJ ?_; simp only [zP, zU, zT, zW, retA, ↓reduceIte, Nat.reduceEqDiff]; rotate_left
    (all_goals (repeat (rename BV _ _ => hbv; first | cases hbv | clear hbv)))
    all_goals (try (first | cases ‹true = false› | cases ‹false = true›))
    all_goals
      refine q_ri ?_
      rfl
  · rw [if_neg he] at hs ⊢
    refine zX (zZ ?_); refine xBb ?_; intro _; refine xBa ?_; intro _; refine xAs ?_; refine zY ?_; refine zX (zZ ?_); refine xLa ?_; refine xMv ?_; apply zQ; rfl; rfl; rfl; (refine zK rfl rfl (zV (by kernel_rfl)) ?_; exact hc _); refine xMv ?_; refine xEx ?_; refine xEx ?_; refine xBa ?_; intro _; refine xSt ?_; refine xAs ?_; refine zY ?_; refine zX ?_; refine zX (zZ ?_); refine xMv ?_; refine xBi ?_; intro _ _; refine zY ?_; refine q_c (fun h h_k => ?_) (fun h h_k => ?_) <;> ((try subst h_k); (have hp := h; try simp only [q_n] at hp); (try (exfalso; first | omega | (cases hp; done))));
    refine zR ?_; refine zX (zZ ?_); refine xLa ?_; refine xLa ?_; apply zQ; rfl; rfl; rfl; (refine zK rfl rfl (zV (by kernel_rfl)) ?_; exact hs _); refine xEx ?_; refine xEx ?_; refine xSt ?_; refine xAs ?_; refine zY ?_; refine zJ ?_; simp only [zP, zU, zT, zW, retA, ↓reduceIte, Nat.reduceEqDiff]; rotate_left
    (all_goals (repeat (rename BV _ _ => hbv; first | cases hbv | clear hbv)))
    all_goals (try (first | cases ‹true = false› | cases ‹false = true›))
    all_goals
      refine q_ri ?_
      rfl
end Go.Proofs.YtkhoengjdfmfaaaGreat
namespace Go.Proofs.YtkhoengjdfmfaaaGreat
abbrev intsR (C : List Int) : List AV := C.map (AV.int .i64)
theorem int_getR {C : List Int} {k : Nat} (h : k < C.length) : ∃ n, (intsR C)[k + 0]? = some (.int .i64 n) := by
  obtain ⟨n, hn⟩ := get_some h
  exact ⟨n, by rw [Nat.add_zero, List.getElem?_map, hn]; rfl⟩
set_option maxHeartbeats 8000000 in
theorem read_c (s : Sl) (hs : Sendable s) (σ : List Ent) : SCall Tryz.prog 81 [bys (msgS s)] σ (Is (.tup [slV s, .bool true]) σ) := by
  refine scall_of Tryz.func81 rfl (by simp) ?_
  have hd := fun σ => decode_c (fieldsL s) hs.nats (show (8 : Nat) ≤ 100 by omega) σ
  rw [enc_msg] at hd
  have hv := fun σ => valid_c s σ
  rw [hs.slip] at hv
  have h8 : (8 : Int) = ((8 : Nat) : Int) := rfl
  have hfl : (fieldsL s).length = 8 := rfl
  refine zX (zZ ?_); refine xBa ?_; intro _; refine xAs ?_; refine zY ?_; refine zX (zZ ?_); refine xMv ?_; apply zQ; rfl; rfl; rfl; (refine zK rfl rfl (zV (by kernel_rfl)) ?_; exact hd _); refine xMv ?_; refine xEx ?_; refine xEx ?_; refine xBa ?_; intro _; refine xSt ?_; refine xAs ?_; refine zY ?_; refine zX (zZ ?_); apply zQ; rfl; rfl; rfl; (refine zK rfl rfl (zV (by kernel_rfl)) ?_; exact fields_c _ _); refine xBa ?_; intro _; refine xSt ?_; refine zY ?_; refine zX ?_; refine zX (zZ ?_); refine xMv ?_; refine xBi ?_; intro _ _; refine xMv ?_; refine q_d (fun h h_k => ?_) (fun h h_k => ?_) <;> ((try subst h_k); (have hp := h; try simp only [q_n] at hp); (try (exfalso; first | omega | (cases hp; done))));
  refine yFa ?_; refine yLd ?_; refine yBi ?_; intro _ _; refine xPf ?_; refine xMv ?_; refine q_d (fun h h_k => ?_) (fun h h_k => ?_) <;> ((try subst h_k); (have hp := h; try simp only [q_n] at hp); (try (exfalso; first | omega | (cases hp; done))));
  refine yFa ?_; refine yLd ?_; apply exl_isW; rfl; (rfl); rfl; rfl; (apply g_len; rfl; rfl; (exact (List.length_map _).symm)); refine yBi ?_; intro _ _; refine xPf ?_; refine zY ?_; refine q_c (fun h h_k => ?_) (fun h h_k => ?_) <;> ((try subst h_k); (have hp := h; try simp only [q_n] at hp); (try (exfalso; first | omega | (cases hp; done))));
  refine zR ?_; refine zX ?_; refine zX (zZ ?_); refine xLa ?_; refine xMv ?_; refine zY ?_; refine zL ?_; rotate_left
  (all_goals (repeat (rename BV _ _ => hbv; first | cases hbv | clear hbv)))
  all_goals (try (first | cases ‹true = false› | cases ‹false = true›))
  rename Nat => b6; revert b6; rename Nat => b4; revert b4; rename Nat => b2; revert b2
  intro b2 b4 b6
  refine ex_loop (fun (z : Nat × List Int) => (⟨[(2, .ptr b2 0), (4, .ptr b4 0), (29, .agg [.ptr b2 0, .ptr b2 1, .ptr b2 2, .ptr b2 3, .ptr b2 4, .ptr b2 5, .ptr b2 6, .ptr b2 7]), (30, .int .i64 z.1)], .cells b4 (lvC (fieldsL s)) 160 :: .cells b2 (intsR z.2) 43 :: σ, [], Tryz.f81.ntmps⟩ : St)) (fun z => z.1 ≤ 8 ∧ z.2.length = 8 ∧ z.2.take z.1 = (fieldsL s).take z.1) (fun z => 8 - z.1) (0, [0, 0, 0, 0, 0, 0, 0, 0]) (⟨Nat.zero_le _, rfl, rfl⟩) (St.le_of (by repeat (first | exact trivial | refine ⟨rfl, ?_⟩)) (by repeat (first | exact q_r | apply q_q | apply q_k))) ?_
  intro z hI
  clear hd
  obtain ⟨k, C⟩ := z
  obtain ⟨hI1, hI2, hI3⟩ := hI
  dsimp only at hI1 hI2 hI3 ⊢
  by_cases hk : k < 8
  · obtain ⟨n, hn⟩ : ∃ n, (fieldsL s)[k]? = some n := get_some (by omega)
    have hg2 := ptrs_get (b := b2) hk
    have hit := it_get hn
    have hst : intsR (C.set k n) = (intsR C).set k (.int .i64 n) := List.map_set ..
    have hset : (C.set k n).take (k + 1) = (fieldsL s).take (k + 1) := by
      rw [List.take_add_one, List.take_add_one, hn, List.getElem?_set_self (by omega), List.take_set_of_le (Nat.le_refl k), hI3]
    have hck : k < (intsR C).length := by rw [List.length_map, hI2]; exact hk
    obtain ⟨n0, hn0⟩ := int_getR (C := C) (k := k) (by omega)
    clear hv hs hn hI3
    refine zX (zZ ?_); refine xBi ?_; intro _ _; refine zY ?_; refine zX ?_; refine q_c (fun h h_k => ?_) (fun h h_k => ?_) <;> ((try subst h_k); (have hp := h; try simp only [q_n] at hp); (try (exfalso; first | omega | (cases hp; done))));
    refine zR ?_; refine zX ?_; refine zL ?_; refine zX (zZ ?_); refine xMv ?_; apply zQ; rfl; rfl; rfl; (apply g_index1; rfl; rfl; rfl; (rfl); (omega); (assumption)); refine xAs ?_; refine xAs ?_; refine zY ?_; refine zX ?_; refine zX (zZ ?_); refine xFa ?_; refine xLd ?_; refine xMv ?_; refine xIx ?_; refine xFa ?_; refine xLd ?_; refine xBi ?_; intro _ _; refine zY ?_; refine q_c (fun h h_k => ?_) (fun h h_k => ?_) <;> ((try subst h_k); (have hp := h; try simp only [q_n] at hp); (try (exfalso; first | omega | (cases hp; done))));
    refine zR ?_; refine zZ ?_; refine xMv ?_; refine xFa ?_; refine xLd ?_; refine xMv ?_; refine xIx ?_; refine xFa ?_; refine xLd ?_; apply zQ; rfl; rfl; rfl; (apply g_nilCheck; rfl; rfl); rotate_left
    (all_goals (repeat (rename BV _ _ => hbv; first | cases hbv | clear hbv)))
    all_goals (try (first | cases ‹true = false› | cases ‹false = true›))
    refine exl_do rfl rfl (g_store (tb := 43) (l := intsR C) (l' := intsR (C.set k n)) rfl rfl rfl rfl rfl rfl hck hst.symm (.there .here)) ?_
    refine zN ?_; refine zZ ?_; refine xAd ?_; refine xMv ?_; refine zN ?_; simp only [zP, zU, zT, zW, retA, ↓reduceIte, Nat.reduceEqDiff]; rotate_left
    (all_goals (repeat (rename BV _ _ => hbv; first | cases hbv | clear hbv)))
    all_goals (try (first | cases ‹true = false› | cases ‹false = true›))
    refine ⟨(k + 1, C.set k n), ⟨hk, by dsimp only; rw [List.length_set]; exact hI2, hset⟩, by dsimp only; omega, ?_⟩
    exact q_le
  · have e : k = 8 := by omega
    subst e
    have hC : C = fieldsL s := by rw [← List.take_length (l := C), hI2, hI3]; exact List.take_of_length_le (by rw [hfl]; exact Nat.le_refl _)
    subst hC
    clear hI2 hI3 hs
    have hsl : intsR (fieldsL s) = slC s := rfl
    rw [hsl]
    refine zX (zZ ?_); refine xBi ?_; intro _ _; refine zY ?_; refine zX ?_; refine q_c (fun h h_k => ?_) (fun h h_k => ?_) <;> ((try subst h_k); (have hp := h; try simp only [q_n] at hp); (try (exfalso; first | omega | (cases hp; done))));
    refine ex_exit ?_; refine zX ?_; rotate_left
    (all_goals (repeat (rename BV _ _ => hbv; first | cases hbv | clear hbv)))
    all_goals (try (first | cases ‹true = false› | cases ‹false = true›))
    refine ex_drawLK anyK 3 [2] rfl (by kernel_rfl) rfl ?_
    simp only [List.take_succ_cons, List.take_zero, List.drop_succ_cons, List.drop_zero]
    refine wLa ?_; refine wLa ?_; refine wl_eff rfl rfl rfl (zK rfl rfl (zV (by kernel_rfl)) (hv _)) ?_; rintro _ _ ⟨⟩; refine ⟨fun _ _ h => h, ?_⟩; refine wl_nil ?_; refine xSt ?_; refine xAs ?_; refine zY ?_; refine zJ ?_; simp only [zP, zU, zT, zW, retA, ↓reduceIte, Nat.reduceEqDiff]; rotate_left
    (all_goals (repeat (rename BV _ _ => hbv; first | cases hbv | clear hbv)))
    all_goals (try (first | cases ‹true = false› | cases ‹false = true›))
    refine q_rq (σ3 := σ) ?_
    exact fin_done .mk
end Go.Proofs.YtkhoengjdfmfaaaGreat
namespace Go.Proofs.YtkhoengjdfmfaaaGreat
theorem fin_shut {σ σ1 σ' : List Ent} {r : AV} {Q : AV → List Ent → Prop} {v : Value} {e : TypeId} {sz : Nat} {l : List (List AV)} (hr : Rem σ (.row v e sz l) σ1) (hs : ShutEnts v (.dl sz l) σ1 σ') (h : Fin σ' r Q) : Fin σ r Q := fun X M w u hg hv => by
  obtain ⟨M1, h1, h2, h3⟩ := hg.shut hr
  obtain ⟨M2, σ2, r2, h4, h5, h6, h7⟩ := h X M1 w u (h2.shutE h3 hs) (hv.mono h1)
  exact ⟨M2, σ2, r2, Mem.le_trans h1 h4, h5, h6, h7⟩
abbrev bkC (l : List Sl) : List AV := [sls l]
abbrev bks (B : List (List Sl)) : AV := .dl 1 (B.map bkC)
abbrev stC (B : List (List Sl)) (L : List Pk) : List AV := [bks B, pks L, .dl 2 []]
abbrev stE (b : Nat) (B : List (List Sl)) (L : List Pk) : Ent := .cells b (stC B L) 102
theorem bk_get {B : List (List Sl)} {k : Nat} {l : List Sl} (h : B[k]? = some l) : (B.map bkC)[k]? = some (bkC l) := by rw [List.getElem?_map, h]; rfl
theorem bk_one (B : List (List Sl)) : ∀ y ∈ B.map bkC, y.all AV.one = true := by
  intro y hy
  obtain ⟨_, _, rfl⟩ := List.mem_map.1 hy
  rfl
set_option maxHeartbeats 4000000 in
theorem clone_c (B : List (List Sl)) (h0 : B ≠ []) (hB : B.length ≤ 100) (σ : List Ent) : SCall Tryz.prog 125 [bks B] σ (fun r τ => ∃ v, r = .slv v ∧ τ = .row v 24 1 (B.map bkC) :: σ) := by
  refine scall_of Tryz.func125 rfl (by simp) ?_
  have h1 := bk_one B
  have hlen : 0 < (B.map bkC).length := by rw [List.length_map]; exact List.length_pos_iff.2 h0
  refine zX (zZ ?_); refine xAs ?_; refine zY ?_; refine zX ?_; refine zX (zZ ?_); refine xMv ?_; apply zQ; rfl; rfl; rfl; (apply g_eqlNil; rfl; rfl; exact hlen); refine zY ?_; refine ex_cond_f rfl (by rfl) ?_; refine zR ?_; refine zX (zZ ?_); refine exl_row rfl rfl rfl (by exact g_buildSlice rfl rfl (by decide) rfl rfl (by (simp only [chunkN, List.take_succ_cons, List.take_zero, List.drop_succ_cons, List.drop_zero]; rfl))) ?_; intro _; refine xMv ?_; apply exl_grew; rfl; rfl; rfl; (apply g_append; rfl; rfl; rfl; (intro v'; (exact Upd.here)); (exact .d); (intro y hy; simp only [List.mem_map, List.mem_cons, List.not_mem_nil, or_false, List.mem_append] at hy; (focus (obtain ⟨_, _, rfl⟩ := hy; rfl; done))); (refine app_ok ?_ (by kernel_rfl); (try simp only [List.length_append, List.length_map, List.length_cons, List.length_nil, List.length_take, List.length_drop]); omega)); intro _; refine xAs ?_; refine zY ?_; refine zJ ?_; simp only [zP, zU, zT, zW, retA, ↓reduceIte, Nat.reduceEqDiff]; rotate_left
  (all_goals (repeat (rename BV _ _ => hbv; first | cases hbv | clear hbv)))
  all_goals (try (first | cases ‹true = false› | cases ‹false = true›))
  rename_i v3
  refine q_rq (σ3 := .row v3 24 1 (B.map bkC) :: σ) ?_
  exact fin_done ⟨v3, rfl, rfl⟩
set_option maxHeartbeats 8000000 in
theorem put0_c (b k : Nat) (B : List (List Sl)) (L : List Pk) (l : List Sl) (hk : k < B.length) (hB : B.length ≤ 8) (σ : List Ent) :
    SCall Tryz.prog 82 [.ptr b 0, .int .i64 k, .agg (bkC l)] (stE b B L :: σ) (Is (.tup []) (stE b (B.set k l) L :: σ)) := by
  refine scall_of Tryz.func82 rfl (by simp) ?_
  have hc := fun σ => clone_c B (fun e => by rw [e] at hk; simp at hk) (by omega) σ
  have hkm : k < (B.map bkC).length := by rw [List.length_map]; exact hk
  have hst : (B.set k l).map bkC = (B.map bkC).set k (bkC l) := List.map_set ..
  refine zX (zZ ?_); refine xBb ?_; intro _; refine zY ?_; refine zX (zZ ?_); refine xMv ?_; refine xMv ?_; apply zQ; rfl; rfl; rfl; (apply g_nilCheck; rfl; rfl); refine xFa ?_; refine xFa ?_; refine xLd ?_; refine exl_call rfl rfl rfl (zK rfl rfl (zV (by kernel_rfl)) (hc _)) ?_; rintro _ _ ⟨v, rfl, rfl⟩; apply zQ; rfl; rfl; rfl; (apply g_nilCheck; rfl; rfl); refine xFa ?_; refine xFa ?_; refine xSt ?_; refine zY ?_; rotate_left
  (all_goals (repeat (rename BV _ _ => hbv; first | cases hbv | clear hbv)))
  all_goals (try (first | cases ‹true = false› | cases ‹false = true›))
  rename Nat => b5; revert b5
  intro b5
  refine ex_drawT rfl rfl (by kernel_rfl) rfl ?_; simp only [List.length_cons, List.length_nil, Nat.reduceAdd, Nat.reduceSub, List.take_succ_cons, List.take_zero, List.drop_succ_cons, List.drop_zero]; refine wMv ?_; apply wl_is; rfl; rfl; rfl; (intro σ' hl; (apply g_nilCheck; rfl; rfl)); refine wFa ?_; refine wFa ?_; refine wLd ?_; refine wMv ?_; refine wLa ?_; apply wl_is; rfl; rfl; rfl; (intro σ' hl; (apply g_indexRow; rfl; rfl; exact hl _ (by (exact True.intro)) (by (repeat first | exact q_h | apply q_t | assumption); done); rfl; (rfl); (assumption))); refine wl_nil ?_; apply exl_do; rfl; rfl; (apply g_setElem; rfl; rfl; rfl; rfl; rfl; rfl; (assumption); (exact Upd.here)); refine zN ?_; simp only [zP, zU, zT, zW, retA, ↓reduceIte, Nat.reduceEqDiff]; rotate_left
  (all_goals (repeat (rename BV _ _ => hbv; first | cases hbv | clear hbv)))
  all_goals (try (first | cases ‹true = false› | cases ‹false = true›))
  refine q_rq (σ3 := .row v 24 1 ((B.map bkC).set k (bkC l)) :: .cells b [.slv v, pks L, .dl 2 []] 102 :: σ) ?_
  rw [← hst]
  exact fin_shut .here (.cells (.here (.same (.same .nil))) (ShutEnts.refl _)) (fin_done .mk)
theorem put_c {b k : Nat} {B : List (List Sl)} {L : List Pk} {l : List Sl} (hk : k < B.length) (hB : B.length ≤ 8) {σ σ' : List Ent} (hu : Upd σ (stE b B L) (stE b (B.set k l) L) σ') :
    SCall Tryz.prog 82 [.ptr b 0, .int .i64 k, .agg (bkC l)] σ (Is (.tup []) σ') := scall_updI (put0_c b k B L l hk hB) hu
end Go.Proofs.YtkhoengjdfmfaaaGreat
namespace Go.Proofs.YtkhoengjdfmfaaaGreat
structure RtP (n : Nat) (p : Pk) : Prop where
  f0 : 0 ≤ p.f
  t0 : 0 ≤ p.t
  ne : p.f ≠ p.t
  fn : p.f < n
  tn : p.t < n
  msg : ∃ s : Sl, p.d = msgS s ∧ Sendable s ∧ s.tab < n
structure Rt (B : List (List Sl)) (L : List Pk) : Prop where
  n1 : 1 ≤ B.length
  n8 : B.length ≤ 8
  ck : ∀ l ∈ B, checkS l = 0
  tab : ∀ l ∈ B, ∀ s ∈ l, s.tab < B.length
  net : ∀ p ∈ L, RtP B.length p
  few : L.length ≤ 4096
theorem RtP.ok {n : Nat} {p : Pk} (hn : n ≤ 8) (h : RtP n p) : OkP p := by
  obtain ⟨s, h1, h2, _⟩ := h.msg
  have h3 := h.fn
  have h4 := h.tn
  have h5 := msg_len h2
  exact ⟨h.f0, h.t0, h.ne, by omega, by omega, by rw [h1]; omega⟩
theorem Rt.okP {B : List (List Sl)} {L : List Pk} (h : Rt B L) : ∀ p ∈ L, OkP p := fun p hp => (h.net p hp).ok h.n8
theorem right1_c (s : Sl) (n : Int) {b : Nat} {σ : List Ent} (hm : Ent.cells b [.int .i64 n] 3 ∈ σ) (hs : s.tab < n) : SCall Tryz.prog 80 [slV s, .ptr b 0] σ (Is (.bool false) σ) := by
  refine scall_of Tryz.func80 rfl (by simp) ?_
  refine zX (zZ ?_); refine xBb ?_; intro _; refine xAs ?_; refine zY ?_; refine zX (zZ ?_); refine xFa ?_; refine xLd ?_; refine xLd ?_; refine xBi ?_; intro _ _; refine xAs ?_; refine zY ?_; refine zJ ?_; simp only [zP, zU, zT, zW, retA, ↓reduceIte, Nat.reduceEqDiff]; rotate_left
  (all_goals (repeat (rename BV _ _ => hbv; first | cases hbv | clear hbv)))
  all_goals (try (first | cases ‹true = false› | cases ‹false = true›))
  all_goals
    refine q_ri (bool_eq ?_)
    simp
    omega
set_option maxHeartbeats 8000000 in
theorem right_c (B : List (List Sl)) (L : List Pk) (hR : Rt B L) (σ : List Ent) : SCall Tryz.prog 47 [.agg (stC B L)] σ (Is (.bool true) σ) := by
  refine scall_of Tryz.func47 rfl (by simp) ?_
  have hn1 := hR.n1
  have hn8 := hR.n8
  have hnc := fun σ => netcheck_c L hR.okP hR.few σ
  have hin : ∀ σ, SCall Tryz.prog 44 [.int .i64 B.length, .int .i64 1, .int .i64 8] σ (Is (.bool true) σ) := fun σ => by
    have h0 := in_c B.length 1 8 σ
    rwa [show inB B.length 1 8 = true by unfold inB; simp; omega] at h0
  refine zX (zZ ?_); refine xBb ?_; intro _; refine xAs ?_; refine zY ?_; refine zX (zZ ?_); refine xFa ?_; refine xLd ?_; refine xLn ?_; refine xBa ?_; intro _; refine xSt ?_; refine zY ?_; refine zX ?_; refine zX (zZ ?_); refine xLd ?_; apply exl_isB; rfl; rfl; rfl; (refine zK rfl rfl (zV (by kernel_rfl)) ?_; exact hin _); intro _ _; refine xNo ?_; intro _ _; refine xMv ?_; refine q_d (fun h h_k => ?_) (fun h h_k => ?_) <;> ((try subst h_k); (have hp := h; try simp only [q_n] at hp); (try (exfalso; first | omega | (cases hp; done))));
  refine xSk ?_; refine xSk ?_; refine xSk ?_; refine xSk ?_; refine xPt ?_; refine zY ?_; refine ex_cond_t rfl (by rfl) ?_; refine zX (zZ ?_); refine xAs ?_; refine zY ?_; refine zJ ?_; simp only [zP, zU, zT, zW, retA, ↓reduceIte, Nat.reduceEqDiff]; rotate_left; refine yFa ?_; refine yLa ?_; apply exl_isW; rfl; (rfl); rfl; rfl; (refine zK rfl rfl (zV (by kernel_rfl)) ?_; exact hnc _); refine yBi ?_; intro _ _; refine xPf ?_; refine zY ?_; refine q_c (fun h h_k => ?_) (fun h h_k => ?_) <;> ((try subst h_k); (have hp := h; try simp only [q_n] at hp); (try (exfalso; first | omega | (cases hp; done))));
  refine zR ?_; refine zX ?_; refine zX (zZ ?_); refine xFa ?_; refine xLd ?_; refine xLn ?_; refine xMv ?_; refine zY ?_; refine zL ?_; rotate_left
  (all_goals (repeat (rename BV _ _ => hbv; first | cases hbv | clear hbv)))
  all_goals (try (first | cases ‹true = false› | cases ‹false = true›))
  rename Nat => b3; revert b3; rename Nat => b1; revert b1
  intro b1 b3
  clear hnc hin
  refine ex_loop (fun (k : Nat) => (⟨[(1, .ptr b1 0), (3, .ptr b3 0), (23, bks B), (24, .int .i64 B.length), (25, .int .i64 k)], .cells b3 [.int .i64 B.length] 3 :: .cells b1 (stC B L) 41 :: σ, [], Tryz.f47.ntmps⟩ : St)) (fun k => k ≤ B.length) (fun k => B.length - k) 0 (Nat.zero_le _) (St.le_of (by repeat (first | exact trivial | refine ⟨rfl, ?_⟩)) (by repeat (first | exact q_r | apply q_q | apply q_k))) ?_
  intro k hI
  by_cases hk : k < B.length
  · obtain ⟨l, hl⟩ : ∃ l, B[k]? = some l := get_some hk
    have hmem := List.mem_of_getElem? hl
    have hck : ∀ σ, SCall Tryz.prog 23 [.agg (bkC l)] σ (Is (.int .i64 0) σ) := fun σ => by
      have h0 := check_c l σ
      rwa [hR.ck l hmem] at h0
    have hany : ∀ τ, Ent.cells b3 [.int .i64 B.length] 3 ∈ τ → SCall Tryz.prog 79 [sls l, .fn (.func 80) [] [.ptr b3 0]] τ (Is (.bool false) τ) := fun τ hτ => by
      have h0 := fSl_any l 80 [] [.ptr b3 0] (fun _ => false) τ (zV (by kernel_rfl)) (fun k c hc => right1_c c B.length hτ (hR.tab l hmem c (List.mem_of_getElem? hc)))
      rwa [show (l.any fun _ => false) = false by rw [List.any_eq_false]; intro x _; simp] at h0
    have hg := bk_get hl
    clear hR
    refine zX (zZ ?_); refine xBi ?_; intro _ _; refine zY ?_; refine zX ?_; refine q_c (fun h h_k => ?_) (fun h h_k => ?_) <;> ((try subst h_k); (have hp := h; try simp only [q_n] at hp); (try (exfalso; first | omega | (cases hp; done))));
    refine zR ?_; refine zX ?_; refine zL ?_; refine zX (zZ ?_); refine xIx ?_; refine xLa ?_; refine xBa ?_; intro _; refine xSt ?_; refine zY ?_; refine zX (zZ ?_); refine xLa ?_; apply zQ; rfl; rfl; rfl; (refine zK rfl rfl (zV (by kernel_rfl)) ?_; exact hck _); refine xBi ?_; intro _ _; refine xMv ?_; refine q_d (fun h h_k => ?_) (fun h h_k => ?_) <;> ((try subst h_k); (have hp := h; try simp only [q_n] at hp); (try (exfalso; first | omega | (cases hp; done))));
    refine yFa ?_; refine yLd ?_; apply exl_isW; rfl; (rfl); rfl; rfl; (apply g_makeFunc; rfl; rfl); apply exl_isBW; rfl; (rfl); rfl; rfl; (refine zK rfl rfl (zV (by kernel_rfl)) ?_; exact hany _ (by (repeat first | exact q_h | apply q_t | assumption); done)); intro _ _; refine xPf ?_; refine zY ?_; refine q_c (fun h h_k => ?_) (fun h h_k => ?_) <;> ((try subst h_k); (have hp := h; try simp only [q_n] at hp); (try (exfalso; first | omega | (cases hp; done))));
    refine zR ?_; refine zZ ?_; refine xAd ?_; refine xMv ?_; refine zN ?_; simp only [zP, zU, zT, zW, retA, ↓reduceIte, Nat.reduceEqDiff]; rotate_left
    (all_goals (repeat (rename BV _ _ => hbv; first | cases hbv | clear hbv)))
    all_goals (try (first | cases ‹true = false› | cases ‹false = true›))
    refine ⟨k + 1, hk, by omega, ?_⟩
    exact q_le
  · refine zX (zZ ?_); refine xBi ?_; intro _ _; refine zY ?_; refine zX ?_; refine q_c (fun h h_k => ?_) (fun h h_k => ?_) <;> ((try subst h_k); (have hp := h; try simp only [q_n] at hp); (try (exfalso; first | omega | (cases hp; done))));
    refine ex_exit ?_; refine zX ?_; refine zX (zZ ?_); refine xFa ?_; refine xFa ?_; refine xLd ?_; refine xLn ?_; refine xMv ?_; refine zY ?_; refine zL ?_; rotate_left
    (all_goals (repeat (rename BV _ _ => hbv; first | cases hbv | clear hbv)))
    all_goals (try (first | cases ‹true = false› | cases ‹false = true›))
    refine ex_loop (fun (j : Nat) => (⟨[(1, .ptr b1 0), (3, .ptr b3 0), (41, pks L), (42, .int .i64 L.length), (43, .int .i64 j)], .cells b3 [.int .i64 B.length] 3 :: .cells b1 (stC B L) 41 :: σ, [], Tryz.f47.ntmps⟩ : St)) (fun j => j ≤ L.length) (fun j => L.length - j) 0 (Nat.zero_le _) (St.le_of (by repeat (first | exact trivial | refine ⟨rfl, ?_⟩)) (by repeat (first | exact q_r | apply q_q | apply q_k))) ?_
    intro j hI
    by_cases hj : j < L.length
    · obtain ⟨p, hpj⟩ : ∃ p, L[j]? = some p := get_some hj
      have hP := hR.net p (List.mem_of_getElem? hpj)
      obtain ⟨s, hs1, hs2, hs3⟩ := hP.msg
      have hg := pk_get hpj
      have hrd : ∀ σ, SCall Tryz.prog 81 [bys p.d] σ (Is (.tup [slV s, .bool true]) σ) := fun σ => by rw [hs1]; exact read_c s hs2 σ
      have htb := hs2.tab
      have hsq := hs2.seq
      have hf1 := hP.fn
      have ht1 := hP.tn
      have hi1 : ∀ σ, SCall Tryz.prog 44 [.int .i64 s.tab, .int .i64 0, .int .i64 ((B.length : Int) - 1)] σ (Is (.bool true) σ) := fun σ => by
        have h0 := in_c s.tab 0 ((B.length : Int) - 1) σ
        rwa [show inB s.tab 0 ((B.length : Int) - 1) = true by unfold inB; simp; omega] at h0
      have hi2 : ∀ σ, SCall Tryz.prog 44 [.int .i64 s.seq, .int .i64 0, .int .i64 511] σ (Is (.bool true) σ) := fun σ => by
        have h0 := in_c s.seq 0 511 σ
        rwa [show inB s.seq 0 511 = true by unfold inB; simp; omega] at h0
      have hfew := hR.few
      clear hR hP hs1 hs2
      refine zX (zZ ?_); refine xBi ?_; intro _ _; refine zY ?_; refine zX ?_; refine q_c (fun h h_k => ?_) (fun h h_k => ?_) <;> ((try subst h_k); (have hp := h; try simp only [q_n] at hp); (try (exfalso; first | omega | (cases hp; done))));
      refine zR ?_; refine zX ?_; refine zL ?_; refine zX (zZ ?_); refine xIx ?_; refine xLa ?_; refine xBa ?_; intro _; refine xSt ?_; refine zY ?_; refine zX (zZ ?_); refine xFa ?_; refine xLd ?_; apply zQ; rfl; rfl; rfl; (refine zK rfl rfl (zV (by kernel_rfl)) ?_; exact hrd _); refine xMv ?_; refine xEx ?_; refine xEx ?_; refine xBa ?_; intro _; refine xSt ?_; refine xAs ?_; refine zY ?_; refine zX (zZ ?_); refine xMv ?_; refine xNo ?_; intro _ _; refine xMv ?_; refine q_d (fun h h_k => ?_) (fun h h_k => ?_) <;> ((try subst h_k); (have hp := h; try simp only [q_n] at hp); (try (exfalso; first | omega | (cases hp; done))));
      refine yFa ?_; refine yLd ?_; refine yFa ?_; refine yLd ?_; apply exl_isW; rfl; (rfl); rfl; rfl; (apply g_max; rfl; rfl); refine yLd ?_; refine yBi ?_; intro _ _; refine xPf ?_; refine xMv ?_; refine q_d (fun h h_k => ?_) (fun h h_k => ?_) <;> ((try subst h_k); (have hp := h; try simp only [q_n] at hp); (try (exfalso; first | omega | (cases hp; done))));
      refine yFa ?_; refine yLd ?_; refine yLd ?_; apply exl_isW; rfl; (rfl); rfl; rfl; (apply g_sub; rfl; rfl; rfl; exact ⟨by omega, by omega⟩); apply exl_isBW; rfl; (rfl); rfl; rfl; (refine zK rfl rfl (zV (by kernel_rfl)) ?_; exact hi1 _); intro _ _; refine yNo ?_; intro _ _; refine xPf ?_; refine xMv ?_; refine q_d (fun h h_k => ?_) (fun h h_k => ?_) <;> ((try subst h_k); (have hp := h; try simp only [q_n] at hp); (try (exfalso; first | omega | (cases hp; done))));
      refine xSk ?_; refine xSk ?_; refine xSk ?_; refine xSk ?_; refine xPt ?_; refine zY ?_; refine ex_cond_t rfl (by rfl) ?_; refine zX (zZ ?_); refine xAs ?_; refine zY ?_; refine zJ ?_; simp only [zP, zU, zT, zW, retA, ↓reduceIte, Nat.reduceEqDiff]; rotate_left; refine yFa ?_; refine yLd ?_; apply exl_isBW; rfl; (rfl); rfl; rfl; (refine zK rfl rfl (zV (by kernel_rfl)) ?_; exact hi2 _); intro _ _; refine yNo ?_; intro _ _; refine xPf ?_; refine zY ?_; refine q_c (fun h h_k => ?_) (fun h h_k => ?_) <;> ((try subst h_k); (have hp := h; try simp only [q_n] at hp); (try (exfalso; first | omega | (cases hp; done))));
      refine zX (zZ ?_); refine xAs ?_; refine zY ?_; refine zJ ?_; simp only [zP, zU, zT, zW, retA, ↓reduceIte, Nat.reduceEqDiff]; rotate_left; refine zR ?_; refine zZ ?_; refine xAd ?_; refine xMv ?_; refine zN ?_; simp only [zP, zU, zT, zW, retA, ↓reduceIte, Nat.reduceEqDiff]; rotate_left
      (all_goals (repeat (rename BV _ _ => hbv; first | cases hbv | clear hbv)))
      all_goals (try (first | cases ‹true = false› | cases ‹false = true›))
      refine ⟨j + 1, hj, by omega, ?_⟩
      exact q_le
    · refine zX (zZ ?_); refine xBi ?_; intro _ _; refine zY ?_; refine zX ?_; refine q_c (fun h h_k => ?_) (fun h h_k => ?_) <;> ((try subst h_k); (have hp := h; try simp only [q_n] at hp); (try (exfalso; first | omega | (cases hp; done))));
      refine ex_exit ?_; refine zX (zZ ?_); refine xAs ?_; refine zY ?_; refine zJ ?_; simp only [zP, zU, zT, zW, retA, ↓reduceIte, Nat.reduceEqDiff]; rotate_left
      (all_goals (repeat (rename BV _ _ => hbv; first | cases hbv | clear hbv)))
      all_goals (try (first | cases ‹true = false› | cases ‹false = true›))
      refine q_ri ?_
      rfl
end Go.Proofs.YtkhoengjdfmfaaaGreat
