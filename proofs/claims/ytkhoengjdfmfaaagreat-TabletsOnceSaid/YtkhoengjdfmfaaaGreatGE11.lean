/- Parts of the proof that belong together: Wk Sbu Ue Uf Ug Uh. -/
import Derived.Test.YtkhoengjdfmfaaaGreatGE04
import Derived.Test.YtkhoengjdfmfaaaGreatGE07
import Derived.Test.YtkhoengjdfmfaaaGreatGE08
import Derived.Test.YtkhoengjdfmfaaaGreatGE10
set_option maxRecDepth 10000
set_option linter.unusedSimpArgs false
set_option linter.unusedVariables false
namespace Go.Proofs.YtkhoengjdfmfaaaGreat
theorem new_bad (n : Int) (h : n < 1 ∨ 8 < n) (σ : List Ent) : SCall Tryz.prog 18 [.int .i64 n] σ (Is (.tup [rnd0, .int .i64 1]) σ) := by
  refine scall_of Tryz.func18 rfl (by simp) ?_
  have hi : ∀ σ, SCall Tryz.prog 44 [.int .i64 n, .int .i64 1, .int .i64 8] σ (Is (.bool false) σ) := fun σ => by
    have h0 := in_c n 1 8 σ
    rwa [show inB n 1 8 = false by unfold inB; simp; omega] at h0
  clear h
  refine zX (zZ ?_); refine xBa ?_; intro _; refine xAs ?_; refine zY ?_; refine zX ?_; refine zX (zZ ?_); refine xMv ?_; apply exl_isB; rfl; rfl; rfl; (refine zK rfl rfl (zV (by kernel_rfl)) ?_; exact hi _); intro _ _; refine xNo ?_; intro _ _; refine zY ?_; refine q_c (fun h h_k => ?_) (fun h h_k => ?_) <;> ((try subst h_k); (have hp := h; try simp only [q_n] at hp); (try (exfalso; first | omega | (cases hp; done))));
  refine zX (zZ ?_); refine xLa ?_; refine xSt ?_; refine xAs ?_; refine zY ?_; refine zJ ?_; simp only [zP, zU, zT, zW, retA, ↓reduceIte, Nat.reduceEqDiff]; rotate_left; refine zR ?_; refine zX ?_; rotate_left
  (all_goals (repeat (rename BV _ _ => hbv; first | cases hbv | clear hbv)))
  all_goals (try (first | cases ‹true = false› | cases ‹false = true›))
  refine q_rq (σ3 := σ) ?_
  exact fin_done .mk
theorem view3 {M : Mem} {n : Nat} {x y z : AV} {u : Value} (h : VRel M (.tup [.agg [.dl 1 (List.replicate n [.slv nilS]), x, y], z]) u) : VRel M (.tup [.agg [.dl 1 (List.replicate n [.dl 8 []]), x, y], z]) u := by
  simp only [VRel, VRels] at h ⊢
  obtain ⟨vs, rfl, v, r, h1, ⟨ws, rfl, w, r2, h2, h3, h4⟩, h5⟩ := h
  exact ⟨vs, rfl, _, r, h1, ⟨ws, rfl, w, r2, h2, by have := nils_view (sz := 8) (by simpa only [VRel] using h3); simpa only [VRel] using this, h4⟩, h5⟩
set_option maxHeartbeats 4000000 in
theorem new_ok (n : Nat) (h : 1 ≤ n ∧ n ≤ 8) (σ : List Ent) : SCall Tryz.prog 18 [.int .i64 n] σ (Is (.tup [.agg (stC (List.replicate n []) []), .int .i64 0]) σ) := by
  refine scall_of Tryz.func18 rfl (by simp) ?_
  have hi : ∀ σ, SCall Tryz.prog 44 [.int .i64 n, .int .i64 1, .int .i64 8] σ (Is (.bool true) σ) := fun σ => by
    have h0 := in_c n 1 8 σ
    rwa [show inB n 1 8 = true by unfold inB; simp; omega] at h0
  refine zX (zZ ?_); refine xBa ?_; intro _; refine xAs ?_; refine zY ?_; refine zX ?_; refine zX (zZ ?_); refine xMv ?_; apply exl_isB; rfl; rfl; rfl; (refine zK rfl rfl (zV (by kernel_rfl)) ?_; exact hi _); intro _ _; refine xNo ?_; intro _ _; refine zY ?_; refine q_c (fun h h_k => ?_) (fun h h_k => ?_) <;> ((try subst h_k); (have hp := h; try simp only [q_n] at hp); (try (exfalso; first | omega | (cases hp; done))));
  refine zX (zZ ?_); refine xLa ?_; refine xSt ?_; refine xAs ?_; refine zY ?_; refine zJ ?_; simp only [zP, zU, zT, zW, retA, ↓reduceIte, Nat.reduceEqDiff]; rotate_left; refine zR ?_; refine zX ?_; rotate_left
  (all_goals (repeat (rename BV _ _ => hbv; first | cases hbv | clear hbv)))
  all_goals (try (first | cases ‹true = false› | cases ‹false = true›))
  have hni : ((n : Nat) : Int) = ((n : Nat) : Int) := rfl
  refine ex_drawLO anyK 4 [0, 2, 1, 3] [2] rfl (by kernel_rfl) rfl (by kernel_rfl) rfl ?_
  simp only [pick, List.filterMap_cons, List.filterMap_nil, List.getElem?_cons_zero, List.getElem?_cons_succ, List.take_succ_cons, List.take_zero, List.drop_succ_cons, List.drop_zero]
  refine wMv ?_; apply wl_is; rfl; rfl; rfl; (intro σ' hl; (refine zK rfl rfl (zV (by kernel_rfl)) ?_; exact netnew_c _)); refine wl_row rfl rfl rfl (by apply g_makeSlice; rfl; rfl; rfl; rfl; (rfl); (rfl); (refine app_ok ?_ (by kernel_rfl); (omega))) ?_; intro _; apply wl_is; rfl; rfl; rfl; (intro σ' hl; (apply g_build; rfl; rfl; rfl; rfl)); refine wl_nil ?_; refine xSt ?_; refine xAs ?_; refine zY ?_; refine zJ ?_; simp only [zP, zU, zT, zW, retA, ↓reduceIte, Nat.reduceEqDiff]; rotate_left
  (all_goals (repeat (rename BV _ _ => hbv; first | cases hbv | clear hbv)))
  all_goals (try (first | cases ‹true = false› | cases ‹false = true›))
  rename Value => v
  refine q_rq (σ3 := .row v 24 1 (List.replicate n [.slv nilS]) :: σ) ?_
  refine fin_seal .here (.tup (.agg (.here (.same (.same .nil))) (.same .nil)) .nil) ?_
  refine fin_view (fun M u hv => view3 hv) ?_
  refine fin_nil (sz := 3) (.tup (.agg (.same (.here (.same .nil))) (.same .nil)) .nil) ?_
  refine fin_nil (sz := 2) (.tup (.agg (.same (.same (.here .nil))) (.same .nil)) .nil) ?_
  rw [show stC (List.replicate n []) [] = [.dl 1 (List.replicate n [.dl 8 []]), .dl 3 [], .dl 2 []] by show [AV.dl 1 ((List.replicate n ([] : List Sl)).map bkC), _, _] = _; rw [List.map_replicate]; rfl]
  exact fin_done .mk
end Go.Proofs.YtkhoengjdfmfaaaGreat
namespace Go.Proofs.YtkhoengjdfmfaaaGreat
theorem wrapU {n : Int} (h : 0 ≤ n ∧ n ≤ 9223372036854775807) : IntKind.u64.wrap n = n := by
  simp only [IntKind.wrap, IntKind.bits, IntKind.signed]
  simp
  omega
theorem g_convU {P : Program} {ro : Option Nat} {env : Env} {σ : List Ent} {dst : Option Tmp} {ty : TypeId} {pos : String} {after : Array Edge} {guard : Option (Nat × Bool)} {s t : TypeId} {x : Operand} {k' ks : IntKind} {n : Int} (hs : P.underlying s = some (.int ks)) (ht : P.underlying t = some (.int .u64)) (hx : evA env x = some (.int k' n)) (hn : 0 ≤ n ∧ n ≤ 9223372036854775807) :
    GOp P ro ⟨dst, .convert s t x, ty, pos, after, guard⟩ env σ (Is (.int .u64 n) σ) :=
  gop_pure _ (by intro c h; cases h) fun X M e w hg ho => by
    have h1 := ho x (by simp [Op.operands]) _ hx
    simp only [VRel] at h1
    refine ⟨.int .u64 n, by simp [VRel], ?_⟩
    have hw : IntKind.u64.wrap n = n := wrapU hn
    simp [execOp, h1, convert, Sem.run_bind, run_underlying hs, run_underlying ht, Conv.intToInt, hw]
theorem g_halfU {P : Program} {ro : Option Nat} {env : Env} {σ : List Ent} {dst : Option Tmp} {ty : TypeId} {pos : String} {after : Array Edge} {guard : Option (Nat × Bool)} {x y : Operand} {t yt : TypeId} {k' : IntKind} {a b : Int} {m : Nat} (hx : evA env x = some (.int .u64 a)) (hy : evA env y = some (.int k' b)) (hb : b = 1) (ha : a = (m : Int)) :
    GOp P ro ⟨dst, .binOp .shr t x y yt, ty, pos, after, guard⟩ env σ (Is (.int .u64 ((m / 2 : Nat) : Int)) σ) := by
  subst ha hb
  refine g_bits (c := ((m : Int)).fdiv (2 ^ min 1 64)) hx hy (.inr (.inr rfl)) ?_ ?_
  · show (if (1 : Int) < 0 then none else some (((m : Int)).fdiv (2 ^ min (1 : Int).toNat 64))) = _
    rw [if_neg (by omega)]; rfl
  · rw [Int.fdiv_eq_ediv_of_nonneg _ (by decide)]
    show (m : Int) / 2 = _
    omega
end Go.Proofs.YtkhoengjdfmfaaaGreat
namespace Go.Proofs.YtkhoengjdfmfaaaGreat
abbrev entC (e : Ey) : List AV := [.int .i64 e.1, .int .i64 e.2.tab, .int .i64 e.2.seq, .int .i64 e.2.kind, .int .i64 e.2.turn, .int .i64 e.2.farm, .int .i64 e.2.hour, .int .i64 e.2.lit, .int .i64 e.2.off]
abbrev entF' : AV := .fn (.func 35) [] []
theorem ent_get {l : List Ey} {k : Nat} {x : Ey} (h : l[k]? = some x) : (l.map entC)[k]? = some (entC x) := by rw [List.getElem?_map, h]; rfl
theorem swp2_map {L : List Ey} {p q : Nat} {x y : Ey} (h1 : L[p]? = some x) (h2 : L[q]? = some y) : ((L.map entC).set p (entC y)).set q (entC x) = (swp2 L p q).map entC := by
  unfold swp2; rw [h1, h2]; simp [List.map_set]
theorem less_c (x y : Ey) (σ : List Ent) : SCall Tryz.prog 35 [.agg (entC x), .agg (entC y)] σ (Is (.int .i64 (cmpI x.2.hour y.2.hour)) σ) := by
  refine scall_of Tryz.func35 rfl (by simp) ?_
  refine zX (zZ ?_); refine xBb ?_; intro _; refine xBb ?_; intro _; refine xAs ?_; refine zY ?_; refine zX (zZ ?_); refine xFa ?_; refine xFa ?_; refine xLd ?_; refine xFa ?_; refine xFa ?_; refine xLd ?_; apply zQ; rfl; rfl; rfl; (refine zK rfl rfl (zV (by kernel_rfl)) ?_; exact cmpI_c _ _ _); refine xAs ?_; refine zY ?_; refine zJ ?_; simp only [zP, zU, zT, zW, retA, ↓reduceIte, Nat.reduceEqDiff]; rotate_left
  (all_goals (repeat (rename BV _ _ => hbv; first | cases hbv | clear hbv)))
  all_goals (try (first | cases ‹true = false› | cases ‹false = true›))
  refine q_ri ?_
  rfl
set_option maxHeartbeats 4000000 in
theorem swapRange_c (A X B Y C : List Ey) (pa pb n : Nat) (hpa : A.length = pa) (hn : X.length = n) (hn2 : Y.length = n) (hpb : pa + n + B.length = pb) (hl : (A ++ X ++ B ++ Y ++ C).length ≤ 100000) (v : Value) (σ : List Ent) :
    SCall Tryz.prog 155 [.slv v, .int .i64 pa, .int .i64 pb, .int .i64 n, entF'] (.row v 80 9 ((A ++ X ++ B ++ Y ++ C).map entC) :: σ) (fun r τ => r = .tup [] ∧ τ = .row v 80 9 ((A ++ Y ++ B ++ X ++ C).map entC) :: σ) := by
  refine scall_of Tryz.func155 rfl (by simp) ?_
  refine zX (zZ ?_); refine xAs ?_; refine zY ?_; refine zL ?_; rotate_left
  (all_goals (repeat (rename BV _ _ => hbv; first | cases hbv | clear hbv)))
  all_goals (try (first | cases ‹true = false› | cases ‹false = true›))
  refine ex_loop (fun (k : Nat) => (⟨[(0, .slv v), (1, .int .i64 pa), (2, .int .i64 pb), (3, .int .i64 n), (10, .int .i64 k)], .row v 80 9 ((A ++ (Y.take k ++ X.drop k) ++ B ++ (X.take k ++ Y.drop k) ++ C).map entC) :: σ, [], Tryz.f155.ntmps⟩ : St)) (fun k => k ≤ n) (fun k => n - k) 0 (Nat.zero_le _) (St.le_of (by repeat (first | exact trivial | refine ⟨rfl, ?_⟩)) (by repeat (first | exact q_r | apply q_q | apply q_k))) ?_
  intro k hI
  by_cases hk : k < n
  · have hst := swap_range (A := A) (B := B) (C := C) (X := X) (Y := Y) (by omega) (k := k) (by omega)
    rw [hpa, hn, hpb] at hst
    obtain ⟨L, hL⟩ : ∃ L, A ++ (Y.take k ++ X.drop k) ++ B ++ (X.take k ++ Y.drop k) ++ C = L := ⟨_, rfl⟩
    have hLl : L.length = pa + n + B.length + n + C.length := by rw [← hL]; simp; omega
    have hLb : L.length ≤ 100000 := by simp at hl; omega
    rw [hL] at hst ⊢
    obtain ⟨x, hx⟩ : ∃ x, L[pa + k]? = some x := get_some (by omega)
    obtain ⟨y, hy⟩ : ∃ y, L[pb + k]? = some y := get_some (by omega)
    have hgx := ent_get hx
    have hgy := ent_get hy
    have hz1 : (pa : Int) + (k : Int) = ((pa + k : Nat) : Int) := by omega
    have hz2 : (pb : Int) + (k : Int) = ((pb + k : Nat) : Int) := by omega
    have hw := swp2_map hx hy
    rw [hst] at hw
    have hlm : (L.map entC).length = L.length := List.length_map _
    clear hst hL hl
    refine ex_rowV (L := L.map entC) (.head _) (fun e => by rw [List.map_eq_nil_iff] at e; subst e; cases hx) ?_
    rintro g cap rfl
    rw [hlm]
    refine zX ?_; refine zX (zZ ?_); refine xMv ?_; refine xMv ?_; refine xBi ?_; intro _ _; refine zY ?_; refine q_c (fun h h_k => ?_) (fun h h_k => ?_) <;> ((try subst h_k); (have hp := h; try simp only [q_n] at hp); (try (exfalso; first | omega | (cases hp; done))));
    refine zR ?_; refine zX ?_; refine zL ?_; rotate_left
    (all_goals (repeat (rename BV _ _ => hbv; first | cases hbv | clear hbv)))
    all_goals (try (first | cases ‹true = false› | cases ‹false = true›))
    refine ex_drfT (fun _ => False) [13, 19, 21] 22 rfl (by kernel_rfl) rfl ?_
    simp only [List.take_succ_cons, List.take_zero, List.drop_succ_cons, List.drop_zero]
    refine dVl ?_; refine dMv ?_; refine dVl ?_; refine dMv ?_; refine dVl ?_; refine dMv ?_; refine dVl ?_; apply drv_is; rfl; rfl; (intro σ' hl; (apply g_add; rfl; rfl; rfl; exact ⟨by omega, by omega⟩)); refine dVl ?_; refine dMv ?_; refine dVl ?_; refine dMv ?_; refine dVl ?_; refine dMv ?_; refine dVl ?_; apply drv_is; rfl; rfl; (intro σ' hl; (apply g_add; rfl; rfl; rfl; exact ⟨by omega, by omega⟩)); refine dVl ?_; refine dMv ?_; refine dVl ?_; refine dMv ?_; refine dVl ?_; refine dMv ?_; refine dVl ?_; apply drv_is; rfl; rfl; (intro σ' hl; (apply g_add; rfl; rfl; rfl; exact ⟨by omega, by omega⟩)); refine dVl ?_; apply drv_is; rfl; rfl; (intro σ' hl; (apply g_indexRaw; rfl; rfl; rfl; (assumption); (omega))); refine dVl ?_; refine dMv ?_; refine dVl ?_; refine dMv ?_; refine dVl ?_; refine dMv ?_; refine dVl ?_; apply drv_is; rfl; rfl; (intro σ' hl; (apply g_add; rfl; rfl; rfl; exact ⟨by omega, by omega⟩)); refine dVl ?_; apply drv_is; rfl; rfl; (intro σ' hl; (apply g_indexRaw; rfl; rfl; rfl; (assumption); (omega))); refine drf_two rfl rfl rfl ?_ ?_; apply drs_is; rfl; rfl; (apply g_loadAgg; rfl; decide; rfl; (exact .k0 (by (repeat first | exact q_h | apply q_t | assumption); done) (by assumption) rfl rfl)); refine drf_one rfl rfl ?_; apply drs_is; rfl; rfl; (apply g_loadAgg; rfl; decide; rfl; (exact .k0 (by (repeat first | exact q_h | apply q_t | assumption); done) (by assumption) rfl rfl)); refine dVl ?_; apply drv_is; rfl; rfl; (intro σ' hl; (apply g_indexRaw; rfl; rfl; rfl; (assumption); (omega))); refine drf_one rfl rfl ?_; apply drs_do; rfl; rfl; (focus (apply g_setElem; rfl; rfl; rfl; rfl; rfl; rfl; rotate_left; (exact Upd.here); (omega))); (rintro _ (rfl | rfl | rfl) _ <;> exact (by (repeat first | exact q_h | apply q_t | assumption); done)); refine drf_nil rfl ?_; apply zQ; rfl; rfl; rfl; (apply g_indexRow; rfl; rfl; exact (by (repeat first | exact q_h | apply q_t | assumption); done); rfl; (assumption); (simp only [List.length_map, List.length_set]; omega)); apply exl_do; rfl; rfl; focus (apply g_setElem; rfl; rfl; rfl; rfl; rfl; rfl; rotate_left; (exact Upd.here); (simp only [List.length_set, List.length_map]; omega));
    refine zN ?_; refine zZ ?_; refine xMv ?_; refine xAd ?_; refine xAs ?_; refine zN ?_; simp only [zP, zU, zT, zW, retA, ↓reduceIte, Nat.reduceEqDiff]; rotate_left; apply drs_is; rfl; rfl; (apply g_loadAgg; rfl; decide; rfl; (exact .k0 (by (repeat first | exact q_h | apply q_t | assumption); done) (by assumption) rfl rfl)); refine drf_one rfl rfl ?_; apply drs_is; rfl; rfl; (apply g_loadAgg; rfl; decide; rfl; (exact .k0 (by (repeat first | exact q_h | apply q_t | assumption); done) (by assumption) rfl rfl)); refine dVl ?_; apply drv_is; rfl; rfl; (intro σ' hl; (apply g_indexRaw; rfl; rfl; rfl; (assumption); (omega))); refine drf_one rfl rfl ?_; apply drs_do; rfl; rfl; (focus (apply g_setElem; rfl; rfl; rfl; rfl; rfl; rfl; rotate_left; (exact Upd.here); (omega))); (rintro _ (rfl | rfl | rfl) _ <;> exact (by (repeat first | exact q_h | apply q_t | assumption); done)); refine drf_nil rfl ?_; apply zQ; rfl; rfl; rfl; (apply g_indexRow; rfl; rfl; exact (by (repeat first | exact q_h | apply q_t | assumption); done); rfl; (assumption); (simp only [List.length_map, List.length_set]; omega)); apply exl_do; rfl; rfl; focus (apply g_setElem; rfl; rfl; rfl; rfl; rfl; rfl; rotate_left; (exact Upd.here); (simp only [List.length_set, List.length_map]; omega));
    refine zN ?_; refine zZ ?_; refine xMv ?_; refine xAd ?_; refine xAs ?_; refine zN ?_; simp only [zP, zU, zT, zW, retA, ↓reduceIte, Nat.reduceEqDiff]; rotate_left
    (all_goals (repeat (rename BV _ _ => hbv; first | cases hbv | clear hbv)))
    all_goals (try (first | cases ‹true = false› | cases ‹false = true›))
    all_goals
      refine ⟨k + 1, hk, by omega, ?_⟩
      rw [← hw]
      exact q_le
  · have e : k = n := by omega
    subst e
    rw [List.take_of_length_le (by omega), List.drop_of_length_le (by omega), List.take_of_length_le (by omega), List.drop_of_length_le (by omega), List.append_nil, List.append_nil]
    refine zX ?_; refine zX (zZ ?_); refine xMv ?_; refine xMv ?_; refine xBi ?_; intro _ _; refine zY ?_; refine q_c (fun h h_k => ?_) (fun h h_k => ?_) <;> ((try subst h_k); (have hp := h; try simp only [q_n] at hp); (try (exfalso; first | omega | (cases hp; done))));
    refine ex_exit ?_; simp only [zP, zU, zT, zW, retA, ↓reduceIte, Nat.reduceEqDiff]; rotate_left
    (all_goals (repeat (rename BV _ _ => hbv; first | cases hbv | clear hbv)))
    all_goals (try (first | cases ‹true = false› | cases ‹false = true›))
    refine q_rq (σ3 := .row v 80 9 ((A ++ Y ++ B ++ X ++ C).map entC) :: σ) ?_
    exact fin_done ⟨rfl, rfl⟩
end Go.Proofs.YtkhoengjdfmfaaaGreat
namespace Go.Proofs.YtkhoengjdfmfaaaGreat
abbrev rowE (v : Value) (L : List Ey) : Ent := .row v 80 9 (L.map entC)
set_option maxHeartbeats 8000000 in
theorem rotate_c (A X Y C : List Ey) (a m b : Nat) (ha : A.length = a) (hm : a + X.length = m) (hb : m + Y.length = b) (hX : X ≠ []) (hY : Y ≠ []) (hl : (A ++ X ++ Y ++ C).length ≤ 100000) (v : Value) (σ : List Ent) :
    SCall Tryz.prog 137 [.slv v, .int .i64 a, .int .i64 m, .int .i64 b, entF'] (rowE v (A ++ X ++ Y ++ C) :: σ) (fun r τ => r = .tup [] ∧ τ = rowE v (A ++ Y ++ X ++ C) :: σ) := by
  refine scall_of Tryz.func137 rfl (by simp) ?_
  have hd1 : (m : Int) - (a : Int) = ((X.length : Nat) : Int) := by omega
  have hd2 : (b : Int) - (m : Int) = ((Y.length : Nat) : Int) := by omega
  have hlx : a + X.length + Y.length + C.length ≤ 100000 := by simp at hl; omega
  refine zX (zZ ?_); refine xMv ?_; refine xMv ?_; refine xSu ?_; refine xAs ?_; refine zY ?_; refine zX (zZ ?_); refine xMv ?_; refine xMv ?_; refine xSu ?_; refine xAs ?_; refine zY ?_; refine zX ?_; refine zL ?_; rotate_left
  (all_goals (repeat (rename BV _ _ => hbv; first | cases hbv | clear hbv)))
  all_goals (try (first | cases ‹true = false› | cases ‹false = true›))
  rw [hd1, hd2]
  clear hd1 hd2
  refine ex_loop (fun (z : List Ey × List Ey × List Ey × List Ey) => (⟨[(0, .slv v), (2, .int .i64 m), (4, entF'), (10, .int .i64 ((z.2.1.length : Nat) : Int)), (11, .int .i64 ((z.2.2.1.length : Nat) : Int))], rowE v (z.1 ++ z.2.1 ++ z.2.2.1 ++ z.2.2.2) :: σ, [], Tryz.f137.ntmps⟩ : St)) (fun z => z.1 ++ z.2.2.1 ++ z.2.1 ++ z.2.2.2 = A ++ Y ++ X ++ C ∧ z.1.length + z.2.1.length = m ∧ z.2.1 ≠ [] ∧ z.2.2.1 ≠ [] ∧ z.1.length + z.2.1.length + z.2.2.1.length + z.2.2.2.length ≤ 100000) (fun z => z.2.1.length + z.2.2.1.length) (A, X, Y, C) (⟨rfl, by dsimp only; omega, hX, hY, by dsimp only; omega⟩) (St.le_of (by repeat (first | exact trivial | refine ⟨rfl, ?_⟩)) (by repeat (first | exact q_r | apply q_q | apply q_k))) ?_
  intro z hI
  obtain ⟨P, S, T, R⟩ := z
  obtain ⟨hI1, hI2, hI3, hI4, hI5⟩ := hI
  dsimp only at hI1 hI2 hI3 hI4 hI5 ⊢
  clear hX hY hl hlx ha hm hb
  have hS0 := List.length_pos_iff.2 hI3
  have hT0 := List.length_pos_iff.2 hI4
  by_cases hlt : T.length < S.length
  · obtain ⟨S1, S2, hS, hS1⟩ : ∃ S1 S2, S = S1 ++ S2 ∧ S1.length = T.length := ⟨S.take T.length, S.drop T.length, (List.take_append_drop _ _).symm, by rw [List.length_take]; omega⟩
    have hS2 : S.length = T.length + S2.length := by rw [hS, List.length_append, hS1]
    have cc := swapRange_c P S1 S2 T R P.length m T.length rfl hS1 rfl (by omega) (by simp; omega) v σ
    have hz1 : (m : Int) - ((S.length : Nat) : Int) = ((P.length : Nat) : Int) := by omega
    have hz2 : ((S.length : Nat) : Int) - ((T.length : Nat) : Int) = ((S2.length : Nat) : Int) := by omega
    have hrow : P ++ S ++ T ++ R = P ++ S1 ++ S2 ++ T ++ R := by rw [hS]; simp
    rw [hrow]
    have hnew : (P ++ T) ++ S1 ++ S2 ++ R = A ++ Y ++ X ++ C := by rw [← hI1, hS]; simp
    have hrow2 : P ++ T ++ S2 ++ S1 ++ R = (P ++ T) ++ S2 ++ S1 ++ R := by simp
    have hn1 : S2 ≠ [] := fun e => by rw [e] at hS2; simp at hS2; omega
    have hn2 : S1 ≠ [] := fun e => by rw [e] at hS1; simp at hS1; omega
    clear hrow hI1
    have hne : ¬ (((S.length : Nat) : Int) = ((T.length : Nat) : Int)) := by omega
    refine zX ?_; refine zX (zZ ?_); refine xMv ?_; refine xMv ?_; refine xBi ?_; intro _ _; refine zY ?_; refine q_c (fun h h_k => ?_) (fun h h_k => ?_) <;> ((try subst h_k); (have hp := h; try simp only [q_n] at hp); (try (exfalso; first | omega | (cases hp; done))));
    refine zR ?_; refine zL ?_; refine zX (zZ ?_); refine xMv ?_; refine xMv ?_; refine xBi ?_; intro _ _; refine zY ?_; refine q_c (fun h h_k => ?_) (fun h h_k => ?_) <;> ((try subst h_k); (have hp := h; try simp only [q_n] at hp); (try (exfalso; first | omega | (cases hp; done))));
    refine zX (zZ ?_); refine xMv ?_; refine xMv ?_; refine xMv ?_; refine xSu ?_; refine xMv ?_; refine xMv ?_; refine xMv ?_; refine exl_call rfl rfl rfl (zK rfl rfl (zV (by kernel_rfl)) (by (rw [hz1]; exact cc))) ?_; rintro _ _ ⟨rfl, rfl⟩; refine zY ?_; refine zZ ?_; refine xMv ?_; refine xMv ?_; refine xSu ?_; refine xAs ?_; refine zN ?_; simp only [zP, zU, zT, zW, retA, ↓reduceIte, Nat.reduceEqDiff]; rotate_left
    (all_goals (repeat (rename BV _ _ => hbv; first | cases hbv | clear hbv)))
    all_goals (try (first | cases ‹true = false› | cases ‹false = true›))
    rw [hz2]
    refine ⟨(P ++ T, S2, S1, R), ⟨hnew, by simp; omega, hn1, hn2, by simp; omega⟩, by dsimp only; omega, ?_⟩
    dsimp only
    rw [hS1]
    exact q_le
  · by_cases heq : S.length = T.length
    · have cc := swapRange_c P S [] T R P.length m S.length rfl rfl heq.symm (by simp; omega) (by simp; omega) v σ
      have hz1 : (m : Int) - ((S.length : Nat) : Int) = ((P.length : Nat) : Int) := by omega
      simp only [List.append_nil] at cc
      have hze : ((S.length : Nat) : Int) = ((T.length : Nat) : Int) := by omega
      rw [← hI1]
      clear hI1
      refine zX ?_; refine zX (zZ ?_); refine xMv ?_; refine xMv ?_; refine xBi ?_; intro _ _; refine zY ?_; refine q_c (fun h h_k => ?_) (fun h h_k => ?_) <;> ((try subst h_k); (have hp := h; try simp only [q_n] at hp); (try (exfalso; first | omega | (cases hp; done))));
      refine ex_exit ?_; refine zZ ?_; refine xMv ?_; refine xMv ?_; refine xMv ?_; refine xSu ?_; refine xMv ?_; refine xMv ?_; refine xMv ?_; refine exl_call rfl rfl rfl (zK rfl rfl (zV (by kernel_rfl)) (by (rw [hz1]; exact cc))) ?_; rintro _ _ ⟨rfl, rfl⟩; refine zN ?_; simp only [zP, zU, zT, zW, retA, ↓reduceIte, Nat.reduceEqDiff]; rotate_left
      (all_goals (repeat (rename BV _ _ => hbv; first | cases hbv | clear hbv)))
      all_goals (try (first | cases ‹true = false› | cases ‹false = true›))
      refine q_rq (σ3 := rowE v (P ++ T ++ S ++ R) :: σ) ?_
      exact fin_done ⟨rfl, rfl⟩
    · obtain ⟨T1, T2, hT, hT1⟩ : ∃ T1 T2, T = T1 ++ T2 ∧ T2.length = S.length := ⟨T.take (T.length - S.length), T.drop (T.length - S.length), (List.take_append_drop _ _).symm, by rw [List.length_drop]; omega⟩
      have hT2 : T.length = T1.length + S.length := by rw [hT, List.length_append, hT1]
      have cc := swapRange_c P S T1 T2 R P.length (m + T1.length) S.length rfl rfl hT1 (by omega) (by simp; omega) v σ
      have hz1 : (m : Int) - ((S.length : Nat) : Int) = ((P.length : Nat) : Int) := by omega
      have hz2 : (m : Int) + ((T.length : Nat) : Int) - ((S.length : Nat) : Int) = ((m + T1.length : Nat) : Int) := by omega
      have hz3 : ((T.length : Nat) : Int) - ((S.length : Nat) : Int) = ((T1.length : Nat) : Int) := by omega
      have hrow : P ++ S ++ T ++ R = P ++ S ++ T1 ++ T2 ++ R := by rw [hT]; simp
      rw [hrow]
      have hnew : P ++ T1 ++ T2 ++ (S ++ R) = A ++ Y ++ X ++ C := by rw [← hI1, hT]; simp
      have hrow2 : P ++ T2 ++ T1 ++ S ++ R = P ++ T2 ++ T1 ++ (S ++ R) := by simp
      have hn1 : T1 ≠ [] := fun e => by rw [e] at hT2; simp at hT2; omega
      have hn2 : T2 ≠ [] := fun e => by rw [e] at hT1; simp at hT1; omega
      clear hrow hI1
      have hne : ¬ (((S.length : Nat) : Int) = ((T.length : Nat) : Int)) := by omega
      refine zX ?_; refine zX (zZ ?_); refine xMv ?_; refine xMv ?_; refine xBi ?_; intro _ _; refine zY ?_; refine q_c (fun h h_k => ?_) (fun h h_k => ?_) <;> ((try subst h_k); (have hp := h; try simp only [q_n] at hp); (try (exfalso; first | omega | (cases hp; done))));
      refine zR ?_; refine zL ?_; refine zX (zZ ?_); refine xMv ?_; refine xMv ?_; refine xBi ?_; intro _ _; refine zY ?_; refine q_c (fun h h_k => ?_) (fun h h_k => ?_) <;> ((try subst h_k); (have hp := h; try simp only [q_n] at hp); (try (exfalso; first | omega | (cases hp; done))));
      refine zX (zZ ?_); refine xMv ?_; refine xMv ?_; refine xMv ?_; refine xSu ?_; refine xMv ?_; refine xMv ?_; refine xAd ?_; refine xMv ?_; refine xSu ?_; refine xMv ?_; refine xMv ?_; refine exl_call rfl rfl rfl (zK rfl rfl (zV (by kernel_rfl)) (by rw [hz1, hz2]; exact cc)) ?_; rintro _ _ ⟨rfl, rfl⟩; refine zY ?_; refine zZ ?_; refine xMv ?_; refine xMv ?_; refine xSu ?_; refine xAs ?_; refine zN ?_; simp only [zP, zU, zT, zW, retA, ↓reduceIte, Nat.reduceEqDiff]; rotate_left
      (all_goals (repeat (rename BV _ _ => hbv; first | cases hbv | clear hbv)))
      all_goals (try (first | cases ‹true = false› | cases ‹false = true›))
      rw [hz3, hrow2]
      refine ⟨(P, T2, T1, S ++ R), ⟨hnew, by dsimp only; omega, hn2, hn1, by simp; omega⟩, by dsimp only; omega, ?_⟩
      dsimp only
      rw [hT1]
      exact q_le
set_option maxHeartbeats 8000000 in
theorem insertion_c (P S0 Q : List Ey) (a b : Nat) (ha : P.length = a) (hb : a + S0.length = b) (hup : S0.Pairwise fun x y => x.1 < y.1) (hl : (P ++ S0 ++ Q).length ≤ 100000) (v : Value) (σ : List Ent) :
    SCall Tryz.prog 102 [.slv v, .int .i64 a, .int .i64 b, entF'] (rowE v (P ++ S0 ++ Q) :: σ) (fun r τ => r = .tup [] ∧ ∃ S, S.Perm S0 ∧ S.Pairwise ltE ∧ τ = rowE v (P ++ S ++ Q) :: σ) := by
  refine scall_of Tryz.func102 rfl (by simp) ?_
  have hlx : a + S0.length + Q.length ≤ 100000 := by simp at hl; omega
  clear hl
  cases S0 with
  | nil =>
    have hz : ¬ ((a : Int) + 1 < (b : Int)) := by simp at hb; omega
    refine zX (zZ ?_); refine xMv ?_; refine xAd ?_; refine xAs ?_; refine zY ?_; refine zL ?_; rotate_left
    (all_goals (repeat (rename BV _ _ => hbv; first | cases hbv | clear hbv)))
    all_goals (try (first | cases ‹true = false› | cases ‹false = true›))
    refine ex_loop (fun (u : Unit) => (⟨[(0, .slv v), (1, .int .i64 a), (2, .int .i64 b), (3, entF'), (8, .int .i64 ((a : Int) + 1))], rowE v (P ++ [] ++ Q) :: σ, [], Tryz.f102.ntmps⟩ : St)) (fun u => True) (fun u => 0) () (trivial) (St.le_of (by repeat (first | exact trivial | refine ⟨rfl, ?_⟩)) (by repeat (first | exact q_r | apply q_q | apply q_k))) ?_
    intro u hI
    refine zX ?_; refine zX (zZ ?_); refine xMv ?_; refine xMv ?_; refine xBi ?_; intro _ _; refine zY ?_; refine q_c (fun h h_k => ?_) (fun h h_k => ?_) <;> ((try subst h_k); (have hp := h; try simp only [q_n] at hp); (try (exfalso; first | omega | (cases hp; done))));
    refine ex_exit ?_; simp only [zP, zU, zT, zW, retA, ↓reduceIte, Nat.reduceEqDiff]; rotate_left
    (all_goals (repeat (rename BV _ _ => hbv; first | cases hbv | clear hbv)))
    all_goals (try (first | cases ‹true = false› | cases ‹false = true›))
    refine q_rq (σ3 := rowE v (P ++ [] ++ Q) :: σ) ?_
    exact fin_done ⟨rfl, [], List.Perm.refl _, .nil, rfl⟩
  | cons x0 S0 =>
    have hz0 : (a : Int) + 1 = ((a + [x0].length : Nat) : Int) := by simp
    refine zX (zZ ?_); refine xMv ?_; refine xAd ?_; refine xAs ?_; refine zY ?_; refine zL ?_; rotate_left
    (all_goals (repeat (rename BV _ _ => hbv; first | cases hbv | clear hbv)))
    all_goals (try (first | cases ‹true = false› | cases ‹false = true›))
    rw [hz0]
    rw [show P ++ x0 :: S0 ++ Q = P ++ [x0] ++ S0 ++ Q by simp]
    refine ex_loop (fun (z : List Ey × List Ey) => (⟨[(0, .slv v), (1, .int .i64 a), (2, .int .i64 b), (3, entF'), (8, .int .i64 ((a + z.1.length : Nat) : Int))], rowE v (P ++ z.1 ++ z.2 ++ Q) :: σ, [], Tryz.f102.ntmps⟩ : St)) (fun z => (z.1 ++ z.2).Perm (x0 :: S0) ∧ z.1.Pairwise ltE ∧ z.2.Pairwise (fun x y => x.1 < y.1) ∧ (∀ x ∈ z.1, ∀ y ∈ z.2, x.1 < y.1) ∧ z.1 ≠ []) (fun z => z.2.length) ([x0], S0) (⟨List.Perm.refl _, by simp, (List.pairwise_cons.1 hup).2, fun x hx y hy => by rw [List.mem_singleton] at hx; subst hx; exact (List.pairwise_cons.1 hup).1 y hy, by simp⟩) (St.le_of (by repeat (first | exact trivial | refine ⟨rfl, ?_⟩)) (by repeat (first | exact q_r | apply q_q | apply q_k))) ?_
    intro z hI
    obtain ⟨S, R⟩ := z
    obtain ⟨hI1, hI2, hI3, hI4, hI5⟩ := hI
    dsimp only at hI1 hI2 hI3 hI4 hI5 ⊢
    clear hup hz0
    have hpl := hI1.length_eq
    rw [List.length_append] at hpl
    have hS0 := List.length_pos_iff.2 hI5
    cases R with
    | nil =>
      have hz : ¬ (((a + S.length : Nat) : Int) < (b : Int)) := by simp at hpl hb; omega
      refine zX ?_; refine zX (zZ ?_); refine xMv ?_; refine xMv ?_; refine xBi ?_; intro _ _; refine zY ?_; refine q_c (fun h h_k => ?_) (fun h h_k => ?_) <;> ((try subst h_k); (have hp := h; try simp only [q_n] at hp); (try (exfalso; first | omega | (cases hp; done))));
      refine ex_exit ?_; simp only [zP, zU, zT, zW, retA, ↓reduceIte, Nat.reduceEqDiff]; rotate_left
      (all_goals (repeat (rename BV _ _ => hbv; first | cases hbv | clear hbv)))
      all_goals (try (first | cases ‹true = false› | cases ‹false = true›))
      refine q_rq (σ3 := rowE v (P ++ S ++ [] ++ Q) :: σ) ?_
      exact fin_done ⟨rfl, S, by simpa using hI1, hI2, by simp⟩
    | cons x R =>
      rw [List.pairwise_cons] at hI3
      have hlt : ((a + S.length : Nat) : Int) < (b : Int) := by simp at hpl hb; omega
      have hRl : a + S.length + 1 + R.length + Q.length ≤ 100000 := by simp at hpl hlx; omega
      have hxS : ∀ y ∈ S, y.1 < x.1 := fun y hy => hI4 y hy x (by simp)
      refine zX ?_; refine zX (zZ ?_); refine xMv ?_; refine xMv ?_; refine xBi ?_; intro _ _; refine zY ?_; refine q_c (fun h h_k => ?_) (fun h h_k => ?_) <;> ((try subst h_k); (have hp := h; try simp only [q_n] at hp); (try (exfalso; first | omega | (cases hp; done))));
      refine zR ?_; refine zX ?_; refine zL ?_; refine zX (zZ ?_); refine xMv ?_; refine xAs ?_; refine zY ?_; refine zL ?_; rotate_left
      (all_goals (repeat (rename BV _ _ => hbv; first | cases hbv | clear hbv)))
      all_goals (try (first | cases ‹true = false› | cases ‹false = true›))
      rw [show P ++ S ++ x :: R ++ Q = P ++ S ++ x :: [] ++ (R ++ Q) by simp]
      refine ex_loop (fun (w : List Ey × List Ey) => (⟨[(0, .slv v), (1, .int .i64 a), (2, .int .i64 b), (3, entF'), (8, .int .i64 ((a + S.length : Nat) : Int)), (9, .int .i64 ((a + w.1.length : Nat) : Int))], rowE v (P ++ w.1 ++ x :: w.2 ++ (R ++ Q)) :: σ, [], Tryz.f102.ntmps⟩ : St)) (fun w => w.1 ++ w.2 = S ∧ ∀ y ∈ w.2, ltE x y) (fun w => w.1.length) (S, []) (⟨by simp, by simp⟩) (St.le_of (by repeat (first | exact trivial | refine ⟨rfl, ?_⟩)) (by repeat (first | exact q_r | apply q_q | apply q_k))) ?_
      intro w hI
      obtain ⟨S1, S2⟩ := w
      obtain ⟨hJ1, hJ2⟩ := hI
      dsimp only at hJ1 hJ2 ⊢
      subst hJ1
      obtain ⟨J, hJ⟩ : ∃ J, a + S1.length = J := ⟨_, rfl⟩
      have hPJ : (P ++ S1).length = J := by rw [List.length_append]; omega
      have hSl : (S1 ++ S2).length = S1.length + S2.length := List.length_append
      obtain ⟨L, hL⟩ : ∃ L, P ++ S1 ++ x :: S2 ++ (R ++ Q) = L := ⟨_, rfl⟩
      have hLl : L.length = J + 1 + S2.length + R.length + Q.length := by rw [← hL]; simp; omega
      have hLx : L[J]? = some x := by rw [← hL, ← hPJ]; simp
      have hgx := ent_get hLx
      have hlm : (L.map entC).length = L.length := List.length_map _
      rcases snoc_or S1 with rfl | ⟨T, z, rfl⟩
      · have hJa : J = a := by rw [← hJ]; simp
        rw [hL, hJ]
        rw [List.nil_append] at hI2 hI1
        have hnew : P ++ (x :: S2) ++ R ++ Q = L := by rw [← hL]; simp
        have hup2 : (x :: S2).Pairwise ltE := List.pairwise_cons.2 ⟨hJ2, hI2⟩
        have hperm : ((x :: S2) ++ R).Perm (x0 :: S0) := by
          refine List.Perm.trans ?_ hI1
          rw [List.cons_append]; exact List.perm_middle.symm
        have hidx : ∀ y ∈ x :: S2, ∀ u ∈ R, y.1 < u.1 := fun y hy u hu => by
          rcases List.mem_cons.1 hy with rfl | hy
          · exact hI3.1 u hu
          · exact hI4 y (by simpa using hy) u (by simp [hu])
        have hzz : ((a + ([] ++ S2).length : Nat) : Int) + 1 = ((a + (x :: S2).length : Nat) : Int) := by simp; omega
        rw [← hnew]
        clear hL hnew hI1 hI4 hxS hgx hLx
        subst hJa
        refine zX ?_; refine zX ?_; refine ex_drawC rfl rfl (by kernel_rfl) rfl ?_; refine ex_drawQ rfl (by kernel_rfl) rfl ?_; refine wMv ?_; refine wMv ?_; refine wBi ?_; intro _ _; refine wMv ?_; refine q_w (fun h h_k => ?_) (fun h h_k => ?_) <;> ((try subst h_k); (have hp := h; try simp only [q_n] at hp); (try (exfalso; first | omega | (cases hp; done))));
        refine wSk ?_; refine wSk ?_; refine wSk ?_; refine wSk ?_; refine wSk ?_; refine wSk ?_; refine wSk ?_; refine wSk ?_; refine wSk ?_; refine wSk ?_; refine wSk ?_; refine wSk ?_; apply wl_is; rfl; rfl; rfl; (intro σ' hl; (apply g_pick_f; rfl; (rfl); rfl)); refine wl_nil ?_; show EX _ _ _ _ _; refine ex_cond_f rfl (by rfl) ?_; refine ex_exit ?_; refine zZ ?_; refine xMv ?_; refine xAd ?_; refine xAs ?_; refine zN ?_; simp only [zP, zU, zT, zW, retA, ↓reduceIte, Nat.reduceEqDiff]; rotate_left
        (all_goals (repeat (rename BV _ _ => hbv; first | cases hbv | clear hbv)))
        all_goals (try (first | cases ‹true = false› | cases ‹false = true›))
        rw [hzz]
        refine ⟨(x :: S2, R), ⟨hperm, hup2, hI3.2, hidx, by simp⟩, by simp, ?_⟩
        exact q_le
      · obtain ⟨J', hJ'⟩ : ∃ J', a + T.length = J' := ⟨_, rfl⟩
        have hJJ : J = J' + 1 := by rw [← hJ, List.length_append, ← hJ']; simp; omega
        have hPT : (P ++ T).length = J' := by rw [List.length_append]; omega
        have hLz : L[J']? = some z := by
          rw [← hL, ← hPT, show P ++ (T ++ [z]) ++ x :: S2 ++ (R ++ Q) = (P ++ T) ++ z :: (x :: S2 ++ (R ++ Q)) by simp]
          simp
        have hgz := ent_get hLz
        have hzi : (J : Int) - 1 = (J' : Int) := by omega
        have hza : (a : Int) < (J : Int) := by omega
        have hsw : swp2 L J J' = P ++ T ++ x :: (z :: S2) ++ (R ++ Q) := by
          have := swp2_down (A := P ++ T) (C := S2 ++ (R ++ Q)) (x := z) (y := x)
          rw [hPT] at this
          rw [← hL, hJJ, show P ++ (T ++ [z]) ++ x :: S2 ++ (R ++ Q) = P ++ T ++ z :: x :: (S2 ++ (R ++ Q)) by simp, this]; simp
        have hw := swp2_map hLx hLz
        have lc := less_c x z
        obtain ⟨c, hc⟩ : ∃ c, cmpI x.2.hour z.2.hour = c := ⟨_, rfl⟩
        have hcl := @cmpI_lt x.2.hour z.2.hour
        rw [hc] at lc hcl
        have hzx : z.1 < x.1 := hxS z (by simp)
        have hLne : L ≠ [] := fun e => by rw [e] at hLx; simp at hLx
        by_cases hless : c < 0
        · have hxz : ltE x z := .inl (hcl.1 hless)
          have hS2' : ∀ y ∈ z :: S2, ltE x y := fun y hy => by
            rcases List.mem_cons.1 hy with rfl | hy
            · exact hxz
            · exact hJ2 y hy
          have hJT : T ++ z :: S2 = T ++ [z] ++ S2 := by simp
          rw [hsw] at hw
          have hwr : ∀ v, rowE v (P ++ T ++ x :: z :: S2 ++ (R ++ Q)) = Ent.row v 80 9 (((L.map entC).set J (entC z)).set J' (entC x)) := fun v => by
            show Ent.row _ _ _ _ = _
            rw [hw]
          rw [hL, hJ]
          clear hI1 hI2 hI4 hxS hL hcl hsw hJ2
          refine zX ?_; refine zX ?_; refine ex_drawC rfl rfl (by kernel_rfl) rfl ?_; refine ex_drawQ rfl (by kernel_rfl) rfl ?_; refine wMv ?_; refine wMv ?_; refine wBi ?_; intro _ _; refine wMv ?_; refine q_w (fun h h_k => ?_) (fun h h_k => ?_) <;> ((try subst h_k); (have hp := h; try simp only [q_n] at hp); (try (exfalso; first | omega | (cases hp; done))));
          refine vMv ?_; refine vMv ?_; refine vMv ?_; apply wl_isW; rfl; (rfl); rfl; rfl; (intro σ' hl; (apply g_indexRow; rfl; rfl; exact hl _ (by (exact True.intro)) (by (repeat first | exact q_h | apply q_t | assumption); done); rfl; (rfl); (omega))); refine vLa ?_; refine vMv ?_; refine vMv ?_; apply wl_isW; rfl; (rfl); rfl; rfl; (intro σ' hl; (apply g_sub; rfl; rfl; rfl; exact ⟨by omega, by omega⟩)); apply wl_isW; rfl; (rfl); rfl; rfl; (intro σ' hl; (apply g_indexRow; rfl; rfl; exact hl _ (by (exact True.intro)) (by (repeat first | exact q_h | apply q_t | assumption); done); rfl; (assumption); (omega))); refine vLa ?_; apply wl_isW; rfl; (rfl); rfl; rfl; (intro σ' hl; (refine zK rfl rfl (zV (by kernel_rfl)) ?_; exact lc _)); refine vBi ?_; intro _ _; apply wl_is; rfl; rfl; rfl; (intro σ' hl; (apply g_pick_t; rfl; (rfl); rfl)); refine wl_nil ?_; show EX _ _ _ _ _; refine q_c (fun h h_k => ?_) (fun h h_k => ?_) <;> ((try subst h_k); (have hp := h; try simp only [q_n] at hp); (try (exfalso; first | omega | (cases hp; done))));
          refine zR ?_; refine zX ?_; refine zL ?_; rotate_left
          (all_goals (repeat (rename BV _ _ => hbv; first | cases hbv | clear hbv)))
          all_goals (try (first | cases ‹true = false› | cases ‹false = true›))
          refine ex_rowV (L := L.map entC) (.head _) (fun e => hLne (List.map_eq_nil_iff.1 e)) ?_
          rintro g cap rfl
          rw [hlm]
          refine ex_drfT (fun _ => False) [9, 13, 15] 16 rfl (by kernel_rfl) rfl ?_
          simp only [List.take_succ_cons, List.take_zero, List.drop_succ_cons, List.drop_zero]
          refine dVl ?_; refine dMv ?_; refine dVl ?_; refine dMv ?_; refine dVl ?_; refine dMv ?_; refine dVl ?_; refine dMv ?_; refine dVl ?_; apply drv_is; rfl; rfl; (intro σ' hl; (apply g_sub; rfl; rfl; rfl; exact ⟨by omega, by omega⟩)); refine dVl ?_; refine dMv ?_; refine dVl ?_; refine dMv ?_; refine dVl ?_; apply drv_is; rfl; rfl; (intro σ' hl; (apply g_sub; rfl; rfl; rfl; exact ⟨by omega, by omega⟩)); refine dVl ?_; apply drv_is; rfl; rfl; (intro σ' hl; (apply g_indexRaw; rfl; rfl; rfl; (assumption); (omega))); refine dVl ?_; refine dMv ?_; refine dVl ?_; refine dMv ?_; refine dVl ?_; apply drv_is; rfl; rfl; (intro σ' hl; (apply g_indexRaw; rfl; rfl; rfl; (rfl); (omega))); refine drf_two rfl rfl rfl ?_ ?_; apply drs_is; rfl; rfl; (apply g_loadAgg; rfl; decide; rfl; (exact .k0 (by (repeat first | exact q_h | apply q_t | assumption); done) (by assumption) rfl rfl)); refine drf_one rfl rfl ?_; apply drs_is; rfl; rfl; (apply g_loadAgg; rfl; decide; rfl; (exact .k0 (by (repeat first | exact q_h | apply q_t | assumption); done) (by assumption) rfl rfl)); refine dVl ?_; apply drv_is; rfl; rfl; (intro σ' hl; (apply g_indexRaw; rfl; rfl; rfl; (rfl); (omega))); refine drf_one rfl rfl ?_; apply drs_do; rfl; rfl; (focus (apply g_setElem; rfl; rfl; rfl; rfl; rfl; rfl; rotate_left; (exact Upd.here); (omega))); (rintro _ (rfl | rfl | rfl) _ <;> exact (by (repeat first | exact q_h | apply q_t | assumption); done)); refine drf_nil rfl ?_; apply zQ; rfl; rfl; rfl; (apply g_indexRow; rfl; rfl; exact (by (repeat first | exact q_h | apply q_t | assumption); done); rfl; (assumption); (simp only [List.length_map, List.length_set]; omega)); apply exl_do; rfl; rfl; focus (apply g_setElem; rfl; rfl; rfl; rfl; rfl; rfl; rotate_left; (exact Upd.here); (simp only [List.length_set, List.length_map]; omega));
          refine zN ?_; refine zZ ?_; refine xMv ?_; refine xSu ?_; refine xAs ?_; refine zN ?_; simp only [zP, zU, zT, zW, retA, ↓reduceIte, Nat.reduceEqDiff]; rotate_left; apply drs_is; rfl; rfl; (apply g_loadAgg; rfl; decide; rfl; (exact .k0 (by (repeat first | exact q_h | apply q_t | assumption); done) (by assumption) rfl rfl)); refine drf_one rfl rfl ?_; apply drs_is; rfl; rfl; (apply g_loadAgg; rfl; decide; rfl; (exact .k0 (by (repeat first | exact q_h | apply q_t | assumption); done) (by assumption) rfl rfl)); refine dVl ?_; apply drv_is; rfl; rfl; (intro σ' hl; (apply g_indexRaw; rfl; rfl; rfl; (rfl); (omega))); refine drf_one rfl rfl ?_; apply drs_do; rfl; rfl; (focus (apply g_setElem; rfl; rfl; rfl; rfl; rfl; rfl; rotate_left; (exact Upd.here); (omega))); (rintro _ (rfl | rfl | rfl) _ <;> exact (by (repeat first | exact q_h | apply q_t | assumption); done)); refine drf_nil rfl ?_; apply zQ; rfl; rfl; rfl; (apply g_indexRow; rfl; rfl; exact (by (repeat first | exact q_h | apply q_t | assumption); done); rfl; (assumption); (simp only [List.length_map, List.length_set]; omega)); apply exl_do; rfl; rfl; focus (apply g_setElem; rfl; rfl; rfl; rfl; rfl; rfl; rotate_left; (exact Upd.here); (simp only [List.length_set, List.length_map]; omega));
          refine zN ?_; refine zZ ?_; refine xMv ?_; refine xSu ?_; refine xAs ?_; refine zN ?_; simp only [zP, zU, zT, zW, retA, ↓reduceIte, Nat.reduceEqDiff]; rotate_left
          (all_goals (repeat (rename BV _ _ => hbv; first | cases hbv | clear hbv)))
          all_goals (try (first | cases ‹true = false› | cases ‹false = true›))
          all_goals
            rw [hzi]
            refine ⟨(T, z :: S2), ⟨hJT, hS2'⟩, by simp, ?_⟩
            dsimp only
            rw [hwr, hJ']
            exact q_le
        · have hzx' : ltE z x := by have := mt hcl.2 hless; unfold ltE; omega
          rw [hL, hJ]
          have hS1 : ∀ y ∈ T ++ [z], ltE y x := fun y hy => by
            have hp := (List.pairwise_append.1 hI2).1
            rcases List.mem_append.1 hy with hy | hy
            · exact ltE_trans ((List.pairwise_append.1 hp).2.2 y hy z (by simp)) hzx'
            · rw [List.mem_singleton] at hy; subst hy; exact hzx'
          have hnew : P ++ ((T ++ [z]) ++ x :: S2) ++ R ++ Q = L := by rw [← hL]; simp
          have hup2 := ins_up hI2 hS1 hJ2
          have hperm : (((T ++ [z]) ++ x :: S2) ++ R).Perm (x0 :: S0) := by
            refine List.Perm.trans ?_ hI1
            rw [show (T ++ [z]) ++ x :: S2 ++ R = (T ++ [z]) ++ x :: (S2 ++ R) by simp, show (T ++ [z]) ++ S2 ++ x :: R = ((T ++ [z]) ++ S2) ++ x :: R by simp]
            refine List.perm_middle.trans (List.Perm.trans ?_ List.perm_middle.symm)
            simp
          have hidx : ∀ y ∈ (T ++ [z]) ++ x :: S2, ∀ u ∈ R, y.1 < u.1 := fun y hy u hu => by
            rcases List.mem_append.1 hy with hy | hy
            · exact hI4 y (by simp at hy ⊢; rcases hy with h | h <;> simp [h]) u (by simp [hu])
            · rcases List.mem_cons.1 hy with rfl | hy
              · exact hI3.1 u hu
              · exact hI4 y (by simp [hy]) u (by simp [hu])
          have hzz : ((a + ((T ++ [z]) ++ S2).length : Nat) : Int) + 1 = ((a + ((T ++ [z]) ++ x :: S2).length : Nat) : Int) := by simp; omega
          rw [← hnew]
          rw [← hnew] at hgx hgz hlm hLl
          clear hI1 hI2 hI4 hxS hL hcl hw hsw hJ2 hnew hLx hLz hS1
          refine zX ?_; refine zX ?_; refine ex_drawC rfl rfl (by kernel_rfl) rfl ?_; refine ex_drawQ rfl (by kernel_rfl) rfl ?_; refine wMv ?_; refine wMv ?_; refine wBi ?_; intro _ _; refine wMv ?_; refine q_w (fun h h_k => ?_) (fun h h_k => ?_) <;> ((try subst h_k); (have hp := h; try simp only [q_n] at hp); (try (exfalso; first | omega | (cases hp; done))));
          refine vMv ?_; refine vMv ?_; refine vMv ?_; apply wl_isW; rfl; (rfl); rfl; rfl; (intro σ' hl; (apply g_indexRow; rfl; rfl; exact hl _ (by (exact True.intro)) (by (repeat first | exact q_h | apply q_t | assumption); done); rfl; (rfl); (omega))); refine vLa ?_; refine vMv ?_; refine vMv ?_; apply wl_isW; rfl; (rfl); rfl; rfl; (intro σ' hl; (apply g_sub; rfl; rfl; rfl; exact ⟨by omega, by omega⟩)); apply wl_isW; rfl; (rfl); rfl; rfl; (intro σ' hl; (apply g_indexRow; rfl; rfl; exact hl _ (by (exact True.intro)) (by (repeat first | exact q_h | apply q_t | assumption); done); rfl; (assumption); (omega))); refine vLa ?_; apply wl_isW; rfl; (rfl); rfl; rfl; (intro σ' hl; (refine zK rfl rfl (zV (by kernel_rfl)) ?_; exact lc _)); refine vBi ?_; intro _ _; apply wl_is; rfl; rfl; rfl; (intro σ' hl; (apply g_pick_t; rfl; (rfl); rfl)); refine wl_nil ?_; show EX _ _ _ _ _; refine q_c (fun h h_k => ?_) (fun h h_k => ?_) <;> ((try subst h_k); (have hp := h; try simp only [q_n] at hp); (try (exfalso; first | omega | (cases hp; done))));
          refine ex_exit ?_; refine zZ ?_; refine xMv ?_; refine xAd ?_; refine xAs ?_; refine zN ?_; simp only [zP, zU, zT, zW, retA, ↓reduceIte, Nat.reduceEqDiff]; rotate_left
          (all_goals (repeat (rename BV _ _ => hbv; first | cases hbv | clear hbv)))
          all_goals (try (first | cases ‹true = false› | cases ‹false = true›))
          rw [hzz]
          refine ⟨((T ++ [z]) ++ x :: S2, R), ⟨hperm, hup2, hI3.2, hidx, by simp⟩, by simp, ?_⟩
          exact q_le
end Go.Proofs.YtkhoengjdfmfaaaGreat
namespace Go.Proofs.YtkhoengjdfmfaaaGreat
theorem St.le_mk {env env' : Env} {σ : List Ent} {m : List Nat} {n : Nat} (h : ∀ t v, lk env' t = some v → lk env t = some v) : St.le ⟨env, σ, m, n⟩ ⟨env', σ, m, n⟩ := ⟨h, List.Sublist.refl _, rfl, rfl⟩
theorem ex_int {P : Program} {ro : Option Nat} {c : Code} {Q : Exit → St → Prop} {env : Env} {σ : List Ent} {mk : List Nat} {n t : Nat} {x y : Int} (h : lk env t = some (.int .i64 x)) (e : x = y) (k : EX P ro c Q ⟨(t, .int .i64 y) :: env, σ, mk, n⟩) : EX P ro c Q ⟨env, σ, mk, n⟩ := by
  refine ex_weaken (s' := ⟨(t, .int .i64 y) :: env, σ, mk, n⟩) (St.le_mk fun u w hw => ?_) k
  by_cases hu : t = u
  · subst hu
    rw [lk_cons_same, ← e] at hw
    exact h.trans hw
  · rwa [lk_cons_ne hu] at hw
theorem lk_app {A B : List Ey} {k : Nat} {c : Ey} {n : Nat} (hn : A.length = n) (h : B[k]? = some c) : (A ++ B)[n + k]? = some c := by
  rw [List.getElem?_append_right (by omega), hn, Nat.add_sub_cancel_left]; exact h
theorem lk_left {A B : List Ey} {k : Nat} {c : Ey} (h : A[k]? = some c) : (A ++ B)[k]? = some c := by
  rw [List.getElem?_append_left (List.getElem?_eq_some_iff.1 h).1]; exact h
theorem merged_triv {A C : List Ey} (hA : A.Pairwise ltE) (hC : C.Pairwise ltE) (h : A = [] ∨ C = []) : MergedE A C (A ++ C) := by
  rcases h with rfl | rfl
  · exact ⟨List.Perm.refl _, by simpa using hC⟩
  · exact ⟨List.Perm.refl _, by simpa using hA⟩
abbrev symF : FuncId := 103
set_option maxHeartbeats 8000000 in
theorem sym_left (P Y Q : List Ey) (x : Ey) (a m b : Nat) (ha : P.length = a) (hm : a + 1 = m) (hb : m + Y.length = b) (hY : Y.Pairwise ltE) (hL : Left [x] Y) (hl : (P ++ [x] ++ Y ++ Q).length ≤ 100000) (v : Value) (σ : List Ent) :
    SCall Tryz.prog symF [.slv v, .int .i64 a, .int .i64 m, .int .i64 b, entF'] (rowE v (P ++ [x] ++ Y ++ Q) :: σ) (fun r τ => r = .tup [] ∧ ∃ S, MergedE [x] Y S ∧ τ = rowE v (P ++ S ++ Q) :: σ) := by
  refine scall_of Tryz.func103 rfl (by simp) ?_
  have hlx : a + 1 + Y.length + Q.length ≤ 100000 := by simp at hl; omega
  obtain ⟨L, hLd⟩ : ∃ L, P ++ [x] ++ Y ++ Q = L := ⟨_, rfl⟩
  have hLl : L.length = a + 1 + Y.length + Q.length := by rw [← hLd]; simp; omega
  have hLx : L[a]? = some x := by rw [← hLd, show P ++ [x] ++ Y ++ Q = P ++ ([x] ++ (Y ++ Q)) by simp]; exact lk_app ha (k := 0) rfl
  have hLy : ∀ k c, Y[k]? = some c → L[m + k]? = some c := fun k c h => by
    rw [← hLd, show P ++ [x] ++ Y ++ Q = (P ++ [x]) ++ (Y ++ Q) by simp]
    exact lk_app (by simp; omega) (lk_left h)
  have hgx := ent_get hLx
  have hlm : (L.map entC).length = L.length := List.length_map _
  rw [hLd]
  clear hl
  refine zX ?_; refine zX (zZ ?_); refine xMv ?_; refine xMv ?_; refine xSu ?_; refine xBi ?_; intro _ _; refine zY ?_; refine q_c (fun h h_k => ?_) (fun h h_k => ?_) <;> ((try subst h_k); (have hp := h; try simp only [q_n] at hp); (try (exfalso; first | omega | (cases hp; done))));
  refine zX (zZ ?_); refine xMv ?_; refine xAs ?_; refine zY ?_; refine zX (zZ ?_); refine xMv ?_; refine xAs ?_; refine zY ?_; refine zX ?_; refine zL ?_; rotate_left
  (all_goals (repeat (rename BV _ _ => hbv; first | cases hbv | clear hbv)))
  all_goals (try (first | cases ‹true = false› | cases ‹false = true›))
  refine ex_loop (fun (z : Nat × Nat) => (⟨[(0, .slv v), (1, .int .i64 a), (2, .int .i64 m), (3, .int .i64 b), (4, entF'), (10, .int .i64 z.1), (11, .int .i64 z.2)], rowE v L :: σ, [], Tryz.f103.ntmps⟩ : St)) (fun z => m ≤ z.1 ∧ z.1 ≤ z.2 ∧ z.2 ≤ b ∧ (∀ y, m < z.1 → Y[z.1 - m - 1]? = some y → y.2.hour < x.2.hour) ∧ (∀ y, Y[z.2 - m]? = some y → ¬ y.2.hour < x.2.hour)) (fun z => z.2 - z.1) (m, b) (⟨Nat.le_refl _, by dsimp only; omega, Nat.le_refl _, fun y h => by dsimp only at h; omega, fun y h => by dsimp only at h; rw [List.getElem?_eq_none (by omega)] at h; cases h⟩) (St.le_of (by repeat (first | exact trivial | refine ⟨rfl, ?_⟩)) (by repeat (first | exact q_r | apply q_q | apply q_k))) ?_
  intro z hI
  obtain ⟨i, j⟩ := z
  obtain ⟨hI1, hI2, hI3, hI4, hI5⟩ := hI
  dsimp only at hI1 hI2 hI3 hI4 hI5 ⊢
  by_cases hij : i < j
  · obtain ⟨q, hh⟩ : ∃ q, (i + j) / 2 = q := ⟨_, rfl⟩
    have hij2 : (i : Int) + (j : Int) = ((i + j : Nat) : Int) := by omega
    have hhz : (((i + j) / 2 : Nat) : Int) = (q : Int) := by rw [hh]
    obtain ⟨y, hy⟩ : ∃ y, Y[q - m]? = some y := get_some (by omega)
    have hLh := hLy _ _ hy
    rw [show m + (q - m) = q by omega] at hLh
    have hgy := ent_get hLh
    have lc := less_c y x
    obtain ⟨c, hc⟩ : ∃ c, cmpI y.2.hour x.2.hour = c := ⟨_, rfl⟩
    have hcl := @cmpI_lt y.2.hour x.2.hour
    rw [hc] at lc hcl
    by_cases hless : c < 0
    · have h4 : ∀ u, m < q + 1 → Y[q + 1 - m - 1]? = some u → u.2.hour < x.2.hour := fun u _ hu => by
        rw [show q + 1 - m - 1 = q - m by omega, hy] at hu
        cases hu; exact hcl.1 hless
      clear hI4 hcl hLy hY hL hc hLx hy hLh
      refine zX ?_; refine zX (zZ ?_); refine xMv ?_; refine xMv ?_; refine xBi ?_; intro _ _; refine zY ?_; refine q_c (fun h h_k => ?_) (fun h h_k => ?_) <;> ((try subst h_k); (have hp := h; try simp only [q_n] at hp); (try (exfalso; first | omega | (cases hp; done))));
      refine zR ?_; refine zL ?_; refine zX (zZ ?_); refine xMv ?_; refine xMv ?_; refine xAd ?_; apply zQ; rfl; rfl; rfl; (apply g_convU; rfl; rfl; rfl; exact ⟨by omega, by omega⟩); apply zQ; rfl; rfl; rfl; (apply g_halfU; rfl; rfl; rfl; exact hij2); apply zQ; rfl; rfl; rfl; (apply g_conv64; rfl; rfl; rfl; exact ⟨by omega, by omega⟩); refine xAs ?_; refine zY ?_; refine zX ?_; refine ex_drawC rfl rfl (by kernel_rfl) rfl ?_; refine ex_drawQ rfl (by kernel_rfl) rfl ?_; refine wMv ?_; refine wMv ?_; refine wMv ?_; apply wl_is; rfl; rfl; rfl; (intro σ' hl; (apply g_indexRow; rfl; rfl; exact hl _ (by (exact True.intro)) (by (repeat first | exact q_h | apply q_t | assumption); done); rfl; (assumption); (omega))); refine wLa ?_; refine wMv ?_; refine wMv ?_; apply wl_is; rfl; rfl; rfl; (intro σ' hl; (apply g_indexRow; rfl; rfl; exact hl _ (by (exact True.intro)) (by (repeat first | exact q_h | apply q_t | assumption); done); rfl; (rfl); (omega))); refine wLa ?_; apply wl_is; rfl; rfl; rfl; (intro σ' hl; (refine zK rfl rfl (zV (by kernel_rfl)) ?_; exact lc _)); refine wBi ?_; intro _ _; refine wl_nil ?_; show EX _ _ _ _ _; refine q_c (fun h h_k => ?_) (fun h h_k => ?_) <;> ((try subst h_k); (have hp := h; try simp only [q_n] at hp); (try (exfalso; first | omega | (cases hp; done))));
      refine zZ ?_; refine xMv ?_; refine xAd ?_; refine xAs ?_; refine zN ?_; simp only [zP, zU, zT, zW, retA, ↓reduceIte, Nat.reduceEqDiff]; rotate_left
      (all_goals (repeat (rename BV _ _ => hbv; first | cases hbv | clear hbv)))
      all_goals (try (first | cases ‹true = false› | cases ‹false = true›))
      rw [hhz]
      refine ⟨(q + 1, j), ⟨by dsimp only; omega, by dsimp only; omega, hI3, h4, hI5⟩, by dsimp only; omega, ?_⟩
      dsimp only
      exact q_le
    · have h5 : ∀ u, Y[q - m]? = some u → ¬ u.2.hour < x.2.hour := fun u hu => by
        rw [hy] at hu
        cases hu; exact mt hcl.2 hless
      clear hI5 hcl hLy hY hL hc hLx hy hLh
      refine zX ?_; refine zX (zZ ?_); refine xMv ?_; refine xMv ?_; refine xBi ?_; intro _ _; refine zY ?_; refine q_c (fun h h_k => ?_) (fun h h_k => ?_) <;> ((try subst h_k); (have hp := h; try simp only [q_n] at hp); (try (exfalso; first | omega | (cases hp; done))));
      refine zR ?_; refine zL ?_; refine zX (zZ ?_); refine xMv ?_; refine xMv ?_; refine xAd ?_; apply zQ; rfl; rfl; rfl; (apply g_convU; rfl; rfl; rfl; exact ⟨by omega, by omega⟩); apply zQ; rfl; rfl; rfl; (apply g_halfU; rfl; rfl; rfl; exact hij2); apply zQ; rfl; rfl; rfl; (apply g_conv64; rfl; rfl; rfl; exact ⟨by omega, by omega⟩); refine xAs ?_; refine zY ?_; refine zX ?_; refine ex_drawC rfl rfl (by kernel_rfl) rfl ?_; refine ex_drawQ rfl (by kernel_rfl) rfl ?_; refine wMv ?_; refine wMv ?_; refine wMv ?_; apply wl_is; rfl; rfl; rfl; (intro σ' hl; (apply g_indexRow; rfl; rfl; exact hl _ (by (exact True.intro)) (by (repeat first | exact q_h | apply q_t | assumption); done); rfl; (assumption); (omega))); refine wLa ?_; refine wMv ?_; refine wMv ?_; apply wl_is; rfl; rfl; rfl; (intro σ' hl; (apply g_indexRow; rfl; rfl; exact hl _ (by (exact True.intro)) (by (repeat first | exact q_h | apply q_t | assumption); done); rfl; (rfl); (omega))); refine wLa ?_; apply wl_is; rfl; rfl; rfl; (intro σ' hl; (refine zK rfl rfl (zV (by kernel_rfl)) ?_; exact lc _)); refine wBi ?_; intro _ _; refine wl_nil ?_; show EX _ _ _ _ _; refine q_c (fun h h_k => ?_) (fun h h_k => ?_) <;> ((try subst h_k); (have hp := h; try simp only [q_n] at hp); (try (exfalso; first | omega | (cases hp; done))));
      refine zZ ?_; refine xMv ?_; refine xAs ?_; refine zN ?_; simp only [zP, zU, zT, zW, retA, ↓reduceIte, Nat.reduceEqDiff]; rotate_left
      (all_goals (repeat (rename BV _ _ => hbv; first | cases hbv | clear hbv)))
      all_goals (try (first | cases ‹true = false› | cases ‹false = true›))
      rw [hhz]
      refine ⟨(i, q), ⟨hI1, by dsimp only; omega, by dsimp only; omega, hI4, h5⟩, by dsimp only; omega, ?_⟩
      dsimp only
      exact q_le
  · obtain rfl : i = j := by omega
    obtain ⟨k, hk⟩ : ∃ k, i - m = k := ⟨_, rfl⟩
    rw [hk] at hI4 hI5
    have hmer := merged_left_at (x := x) hY hL (k := k) (by omega) (fun y h0 hy => hI4 y (by omega) hy) hI5
    clear hI4 hI5 hLx hgx hL hY hLy
    have hik : (i : Int) - 1 = ((a + k : Nat) : Int) := by omega
    refine zX ?_; refine zX (zZ ?_); refine xMv ?_; refine xMv ?_; refine xBi ?_; intro _ _; refine zY ?_; refine q_c (fun h h_k => ?_) (fun h h_k => ?_) <;> ((try subst h_k); (have hp := h; try simp only [q_n] at hp); (try (exfalso; first | omega | (cases hp; done))));
    refine ex_exit ?_; refine zX ?_; refine zX (zZ ?_); refine xMv ?_; refine xAs ?_; refine zY ?_; refine zL ?_; rotate_left
    (all_goals (repeat (rename BV _ _ => hbv; first | cases hbv | clear hbv)))
    all_goals (try (first | cases ‹true = false› | cases ‹false = true›))
    rw [← hLd, show P ++ [x] ++ Y ++ Q = P ++ Y.take 0 ++ x :: Y.drop 0 ++ Q by simp]
    refine ex_loop (fun (t : Nat) => (⟨[(0, .slv v), (10, .int .i64 i), (13, .int .i64 ((a + t : Nat) : Int))], rowE v (P ++ Y.take t ++ x :: Y.drop t ++ Q) :: σ, [], Tryz.f103.ntmps⟩ : St)) (fun t => t ≤ k) (fun t => k - t) 0 (Nat.zero_le _) (St.le_of (by repeat (first | exact trivial | refine ⟨rfl, ?_⟩)) (by repeat (first | exact q_r | apply q_q | apply q_k))) ?_
    intro t hI
    clear hLd hLl hlm
    by_cases htk : t < k
    · obtain ⟨y, hy⟩ : ∃ y, Y[t]? = some y := get_some (by omega)
      have hPt : (P ++ Y.take t).length = a + t := by rw [List.length_append, List.length_take]; omega
      have hsw := swp2_up (A := P ++ Y.take t) (C := Y.drop (t + 1) ++ Q) (x := x) (y := y)
      have e1 : P ++ Y.take t ++ x :: Y.drop t ++ Q = P ++ Y.take t ++ x :: y :: (Y.drop (t + 1) ++ Q) := by rw [drop_get hy]; simp
      have e2 : P ++ Y.take (t + 1) ++ x :: Y.drop (t + 1) ++ Q = P ++ Y.take t ++ y :: x :: (Y.drop (t + 1) ++ Q) := by rw [take_get hy]; simp
      rw [hPt, ← e1, ← e2] at hsw
      obtain ⟨M, hM⟩ : ∃ M, P ++ Y.take t ++ x :: Y.drop t ++ Q = M := ⟨_, rfl⟩
      have hMx : M[a + t]? = some x := by rw [← hM, e1, ← hPt]; simp
      have hMy : M[a + t + 1]? = some y := by rw [← hM, e1, ← hPt, List.getElem?_append_right (by omega)]; simp
      have hMl : M.length = a + 1 + Y.length + Q.length := by rw [← hM]; simp [List.length_take]; omega
      rw [hM] at hsw ⊢
      clear hM e1 e2
      have hgx := ent_get hMx
      have hgy := ent_get hMy
      have hw := swp2_map hMx hMy
      rw [hsw] at hw
      have hwr : ∀ v, rowE v (P ++ Y.take (t + 1) ++ x :: Y.drop (t + 1) ++ Q) = Ent.row v 80 9 (((M.map entC).set (a + t) (entC y)).set (a + t + 1) (entC x)) := fun v => by
        show Ent.row _ _ _ _ = _
        rw [hw]
      have hlm : (M.map entC).length = M.length := List.length_map _
      have hz1 : ((a + t : Nat) : Int) + 1 = ((a + t + 1 : Nat) : Int) := by omega
      have hMne : M ≠ [] := fun e => by rw [e] at hMx; simp at hMx
      have hlt : ((a + t : Nat) : Int) < ((a + k : Nat) : Int) := by omega
      rw [← hik] at hlt
      clear hsw hw hy hMx hMy
      refine ex_rowV (L := M.map entC) (.head _) (fun e => hMne (List.map_eq_nil_iff.1 e)) ?_
      rintro g cap rfl
      rw [hlm]
      refine zX ?_; refine zX (zZ ?_); refine xMv ?_; refine xMv ?_; refine xSu ?_; refine xBi ?_; intro _ _; refine zY ?_; refine q_c (fun h h_k => ?_) (fun h h_k => ?_) <;> ((try subst h_k); (have hp := h; try simp only [q_n] at hp); (try (exfalso; first | omega | (cases hp; done))));
      refine zR ?_; refine zX ?_; refine zL ?_; rotate_left
      (all_goals (repeat (rename BV _ _ => hbv; first | cases hbv | clear hbv)))
      all_goals (try (first | cases ‹true = false› | cases ‹false = true›))
      refine ex_drfT (fun _ => False) [9, 13, 15] 16 rfl (by kernel_rfl) rfl ?_
      simp only [List.take_succ_cons, List.take_zero, List.drop_succ_cons, List.drop_zero]
      refine dVl ?_; refine dMv ?_; refine dVl ?_; refine dMv ?_; refine dVl ?_; refine dMv ?_; refine dVl ?_; refine dMv ?_; refine dVl ?_; apply drv_is; rfl; rfl; (intro σ' hl; (apply g_add; rfl; rfl; rfl; exact ⟨by omega, by omega⟩)); refine dVl ?_; refine dMv ?_; refine dVl ?_; refine dMv ?_; refine dVl ?_; apply drv_is; rfl; rfl; (intro σ' hl; (apply g_add; rfl; rfl; rfl; exact ⟨by omega, by omega⟩)); refine dVl ?_; apply drv_is; rfl; rfl; (intro σ' hl; (apply g_indexRaw; rfl; rfl; rfl; (assumption); (omega))); refine dVl ?_; refine dMv ?_; refine dVl ?_; refine dMv ?_; refine dVl ?_; apply drv_is; rfl; rfl; (intro σ' hl; (apply g_indexRaw; rfl; rfl; rfl; (rfl); (omega))); refine drf_two rfl rfl rfl ?_ ?_; apply drs_is; rfl; rfl; (apply g_loadAgg; rfl; decide; rfl; (exact .k0 (by (repeat first | exact q_h | apply q_t | assumption); done) (by assumption) rfl rfl)); refine drf_one rfl rfl ?_; apply drs_is; rfl; rfl; (apply g_loadAgg; rfl; decide; rfl; (exact .k0 (by (repeat first | exact q_h | apply q_t | assumption); done) (by assumption) rfl rfl)); refine dVl ?_; apply drv_is; rfl; rfl; (intro σ' hl; (apply g_indexRaw; rfl; rfl; rfl; (rfl); (omega))); refine drf_one rfl rfl ?_; apply drs_do; rfl; rfl; (focus (apply g_setElem; rfl; rfl; rfl; rfl; rfl; rfl; rotate_left; (exact Upd.here); (omega))); (rintro _ (rfl | rfl | rfl) _ <;> exact (by (repeat first | exact q_h | apply q_t | assumption); done)); refine drf_nil rfl ?_; apply zQ; rfl; rfl; rfl; (apply g_indexRow; rfl; rfl; exact (by (repeat first | exact q_h | apply q_t | assumption); done); rfl; (assumption); (simp only [List.length_map, List.length_set]; omega)); apply exl_do; rfl; rfl; focus (apply g_setElem; rfl; rfl; rfl; rfl; rfl; rfl; rotate_left; (exact Upd.here); (simp only [List.length_set, List.length_map]; omega));
      refine zN ?_; refine zZ ?_; refine xMv ?_; refine xAd ?_; refine xAs ?_; refine zN ?_; simp only [zP, zU, zT, zW, retA, ↓reduceIte, Nat.reduceEqDiff]; rotate_left; apply drs_is; rfl; rfl; (apply g_loadAgg; rfl; decide; rfl; (exact .k0 (by (repeat first | exact q_h | apply q_t | assumption); done) (by assumption) rfl rfl)); refine drf_one rfl rfl ?_; apply drs_is; rfl; rfl; (apply g_loadAgg; rfl; decide; rfl; (exact .k0 (by (repeat first | exact q_h | apply q_t | assumption); done) (by assumption) rfl rfl)); refine dVl ?_; apply drv_is; rfl; rfl; (intro σ' hl; (apply g_indexRaw; rfl; rfl; rfl; (rfl); (omega))); refine drf_one rfl rfl ?_; apply drs_do; rfl; rfl; (focus (apply g_setElem; rfl; rfl; rfl; rfl; rfl; rfl; rotate_left; (exact Upd.here); (omega))); (rintro _ (rfl | rfl | rfl) _ <;> exact (by (repeat first | exact q_h | apply q_t | assumption); done)); refine drf_nil rfl ?_; apply zQ; rfl; rfl; rfl; (apply g_indexRow; rfl; rfl; exact (by (repeat first | exact q_h | apply q_t | assumption); done); rfl; (assumption); (simp only [List.length_map, List.length_set]; omega)); apply exl_do; rfl; rfl; focus (apply g_setElem; rfl; rfl; rfl; rfl; rfl; rfl; rotate_left; (exact Upd.here); (simp only [List.length_set, List.length_map]; omega));
      refine zN ?_; refine zZ ?_; refine xMv ?_; refine xAd ?_; refine xAs ?_; refine zN ?_; simp only [zP, zU, zT, zW, retA, ↓reduceIte, Nat.reduceEqDiff]; rotate_left
      (all_goals (repeat (rename BV _ _ => hbv; first | cases hbv | clear hbv)))
      all_goals (try (first | cases ‹true = false› | cases ‹false = true›))
      all_goals
        refine ⟨t + 1, htk, by omega, ?_⟩
        rw [hwr]
        exact q_le
    · obtain rfl : t = k := by omega
      have hge : ¬ (((a + t : Nat) : Int) < (i : Int) - 1) := by omega
      rw [show P ++ Y.take t ++ x :: Y.drop t ++ Q = P ++ (Y.take t ++ x :: Y.drop t) ++ Q by simp]
      refine zX ?_; refine zX (zZ ?_); refine xMv ?_; refine xMv ?_; refine xSu ?_; refine xBi ?_; intro _ _; refine zY ?_; refine q_c (fun h h_k => ?_) (fun h h_k => ?_) <;> ((try subst h_k); (have hp := h; try simp only [q_n] at hp); (try (exfalso; first | omega | (cases hp; done))));
      refine ex_exit ?_; refine zJ ?_; simp only [zP, zU, zT, zW, retA, ↓reduceIte, Nat.reduceEqDiff]; rotate_left
      (all_goals (repeat (rename BV _ _ => hbv; first | cases hbv | clear hbv)))
      all_goals (try (first | cases ‹true = false› | cases ‹false = true›))
      refine q_rq (σ3 := rowE v (P ++ (Y.take t ++ x :: Y.drop t) ++ Q) :: σ) ?_
      exact fin_done ⟨rfl, _, hmer, rfl⟩
end Go.Proofs.YtkhoengjdfmfaaaGreat
namespace Go.Proofs.YtkhoengjdfmfaaaGreat
set_option maxHeartbeats 8000000 in
theorem sym_right (P X Q : List Ey) (y : Ey) (a m b : Nat) (ha : P.length = a) (hm : a + X.length = m) (hb : m + 1 = b) (hX2 : 2 ≤ X.length) (hX : X.Pairwise ltE) (hL : Left X [y]) (hl : (P ++ X ++ [y] ++ Q).length ≤ 100000) (v : Value) (σ : List Ent) :
    SCall Tryz.prog symF [.slv v, .int .i64 a, .int .i64 m, .int .i64 b, entF'] (rowE v (P ++ X ++ [y] ++ Q) :: σ) (fun r τ => r = .tup [] ∧ ∃ S, MergedE X [y] S ∧ τ = rowE v (P ++ S ++ Q) :: σ) := by
  refine scall_of Tryz.func103 rfl (by simp) ?_
  have hlx : a + X.length + 1 + Q.length ≤ 100000 := by simp at hl; omega
  obtain ⟨L, hLd⟩ : ∃ L, P ++ X ++ [y] ++ Q = L := ⟨_, rfl⟩
  have hLl : L.length = a + X.length + 1 + Q.length := by rw [← hLd]; simp; omega
  have hLy : L[m]? = some y := by
    rw [← hLd, show P ++ X ++ [y] ++ Q = (P ++ X) ++ ([y] ++ Q) by simp]; exact lk_app (by simp; omega) (k := 0) rfl
  have hLx : ∀ k c, X[k]? = some c → L[a + k]? = some c := fun k c h => by
    rw [← hLd, show P ++ X ++ [y] ++ Q = P ++ (X ++ ([y] ++ Q)) by simp]
    exact lk_app ha (lk_left h)
  have hgy := ent_get hLy
  have hlm : (L.map entC).length = L.length := List.length_map _
  have hn1 : ¬ ((m : Int) - (a : Int) = 1) := by omega
  have hb1 : (b : Int) - (m : Int) = 1 := by omega
  rw [hLd]
  clear hl
  refine zX ?_; refine zX (zZ ?_); refine xMv ?_; refine xMv ?_; refine xSu ?_; refine xBi ?_; intro _ _; refine zY ?_; refine q_c (fun h h_k => ?_) (fun h h_k => ?_) <;> ((try subst h_k); (have hp := h; try simp only [q_n] at hp); (try (exfalso; first | omega | (cases hp; done))));
  refine zR ?_; refine zX ?_; refine zX (zZ ?_); refine xMv ?_; refine xMv ?_; refine xSu ?_; refine xBi ?_; intro _ _; refine zY ?_; refine q_c (fun h h_k => ?_) (fun h h_k => ?_) <;> ((try subst h_k); (have hp := h; try simp only [q_n] at hp); (try (exfalso; first | omega | (cases hp; done))));
  refine zX (zZ ?_); refine xMv ?_; refine xAs ?_; refine zY ?_; refine zX (zZ ?_); refine xMv ?_; refine xAs ?_; refine zY ?_; refine zX ?_; refine zL ?_; rotate_left
  (all_goals (repeat (rename BV _ _ => hbv; first | cases hbv | clear hbv)))
  all_goals (try (first | cases ‹true = false› | cases ‹false = true›))
  refine ex_loop (fun (z : Nat × Nat) => (⟨[(0, .slv v), (1, .int .i64 a), (2, .int .i64 m), (3, .int .i64 b), (4, entF'), (14, .int .i64 z.1), (15, .int .i64 z.2)], rowE v L :: σ, [], Tryz.f103.ntmps⟩ : St)) (fun z => a ≤ z.1 ∧ z.1 ≤ z.2 ∧ z.2 ≤ m ∧ (∀ x, a < z.1 → X[z.1 - a - 1]? = some x → ¬ y.2.hour < x.2.hour) ∧ (∀ x, X[z.2 - a]? = some x → y.2.hour < x.2.hour)) (fun z => z.2 - z.1) (a, m) (⟨Nat.le_refl _, by dsimp only; omega, Nat.le_refl _, fun y h => by dsimp only at h; omega, fun y h => by dsimp only at h; rw [List.getElem?_eq_none (by omega)] at h; cases h⟩) (St.le_of (by repeat (first | exact trivial | refine ⟨rfl, ?_⟩)) (by repeat (first | exact q_r | apply q_q | apply q_k))) ?_
  intro z hI
  obtain ⟨i, j⟩ := z
  obtain ⟨hI1, hI2, hI3, hI4, hI5⟩ := hI
  dsimp only at hI1 hI2 hI3 hI4 hI5 ⊢
  by_cases hij : i < j
  · obtain ⟨q, hh⟩ : ∃ q, (i + j) / 2 = q := ⟨_, rfl⟩
    have hij2 : (i : Int) + (j : Int) = ((i + j : Nat) : Int) := by omega
    have hhz : (((i + j) / 2 : Nat) : Int) = (q : Int) := by rw [hh]
    obtain ⟨x, hx⟩ : ∃ x, X[q - a]? = some x := get_some (by omega)
    have hLh := hLx _ _ hx
    rw [show a + (q - a) = q by omega] at hLh
    have hgx := ent_get hLh
    have lc := less_c y x
    obtain ⟨c, hc⟩ : ∃ c, cmpI y.2.hour x.2.hour = c := ⟨_, rfl⟩
    have hcl := @cmpI_lt y.2.hour x.2.hour
    rw [hc] at lc hcl
    by_cases hless : c < 0
    · have h5 : ∀ u, X[q - a]? = some u → y.2.hour < u.2.hour := fun u hu => by
        rw [hx] at hu
        cases hu; exact hcl.1 hless
      clear hI5 hcl hLy hX hL hc hLx hx hLh
      refine zX ?_; refine zX (zZ ?_); refine xMv ?_; refine xMv ?_; refine xBi ?_; intro _ _; refine zY ?_; refine q_c (fun h h_k => ?_) (fun h h_k => ?_) <;> ((try subst h_k); (have hp := h; try simp only [q_n] at hp); (try (exfalso; first | omega | (cases hp; done))));
      refine zR ?_; refine zL ?_; refine zX (zZ ?_); refine xMv ?_; refine xMv ?_; refine xAd ?_; apply zQ; rfl; rfl; rfl; (apply g_convU; rfl; rfl; rfl; exact ⟨by omega, by omega⟩); apply zQ; rfl; rfl; rfl; (apply g_halfU; rfl; rfl; rfl; exact hij2); apply zQ; rfl; rfl; rfl; (apply g_conv64; rfl; rfl; rfl; exact ⟨by omega, by omega⟩); refine xAs ?_; refine zY ?_; refine zX ?_; refine ex_drawC rfl rfl (by kernel_rfl) rfl ?_; refine ex_drawQ rfl (by kernel_rfl) rfl ?_; refine wMv ?_; refine wMv ?_; refine wMv ?_; apply wl_is; rfl; rfl; rfl; (intro σ' hl; (apply g_indexRow; rfl; rfl; exact hl _ (by (exact True.intro)) (by (repeat first | exact q_h | apply q_t | assumption); done); rfl; (rfl); (omega))); refine wLa ?_; refine wMv ?_; refine wMv ?_; apply wl_is; rfl; rfl; rfl; (intro σ' hl; (apply g_indexRow; rfl; rfl; exact hl _ (by (exact True.intro)) (by (repeat first | exact q_h | apply q_t | assumption); done); rfl; (assumption); (omega))); refine wLa ?_; apply wl_is; rfl; rfl; rfl; (intro σ' hl; (refine zK rfl rfl (zV (by kernel_rfl)) ?_; exact lc _)); refine wBi ?_; intro _ _; apply wl_isB; rfl; rfl; rfl; (intro σ' hl; (apply g_not; rfl)); intro _ _; refine wl_nil ?_; show EX _ _ _ _ _; refine q_c (fun h h_k => ?_) (fun h h_k => ?_) <;> ((try subst h_k); (have hp := h; try simp only [q_n] at hp); (try (exfalso; first | omega | (cases hp; done))));
      refine zZ ?_; refine xMv ?_; refine xAd ?_; refine xAs ?_; refine zN ?_; simp only [zP, zU, zT, zW, retA, ↓reduceIte, Nat.reduceEqDiff]; rotate_left; refine zZ ?_; refine xMv ?_; refine xAs ?_; refine zN ?_; simp only [zP, zU, zT, zW, retA, ↓reduceIte, Nat.reduceEqDiff]; rotate_left
      (all_goals (repeat (rename BV _ _ => hbv; first | cases hbv | clear hbv)))
      all_goals (try (first | cases ‹true = false› | cases ‹false = true›))
      · exfalso
        have hq : (!decide (c < 0)) = true := by assumption
        simp [hless] at hq
      · rw [hhz]
        refine ⟨(i, q), ⟨hI1, by dsimp only; omega, by dsimp only; omega, hI4, h5⟩, by dsimp only; omega, ?_⟩
        dsimp only
        exact q_le
    · have h4 : ∀ u, a < q + 1 → X[q + 1 - a - 1]? = some u → ¬ y.2.hour < u.2.hour := fun u _ hu => by
        rw [show q + 1 - a - 1 = q - a by omega, hx] at hu
        cases hu; exact mt hcl.2 hless
      clear hI4 hcl hLy hX hL hc hLx hx hLh
      refine zX ?_; refine zX (zZ ?_); refine xMv ?_; refine xMv ?_; refine xBi ?_; intro _ _; refine zY ?_; refine q_c (fun h h_k => ?_) (fun h h_k => ?_) <;> ((try subst h_k); (have hp := h; try simp only [q_n] at hp); (try (exfalso; first | omega | (cases hp; done))));
      refine zR ?_; refine zL ?_; refine zX (zZ ?_); refine xMv ?_; refine xMv ?_; refine xAd ?_; apply zQ; rfl; rfl; rfl; (apply g_convU; rfl; rfl; rfl; exact ⟨by omega, by omega⟩); apply zQ; rfl; rfl; rfl; (apply g_halfU; rfl; rfl; rfl; exact hij2); apply zQ; rfl; rfl; rfl; (apply g_conv64; rfl; rfl; rfl; exact ⟨by omega, by omega⟩); refine xAs ?_; refine zY ?_; refine zX ?_; refine ex_drawC rfl rfl (by kernel_rfl) rfl ?_; refine ex_drawQ rfl (by kernel_rfl) rfl ?_; refine wMv ?_; refine wMv ?_; refine wMv ?_; apply wl_is; rfl; rfl; rfl; (intro σ' hl; (apply g_indexRow; rfl; rfl; exact hl _ (by (exact True.intro)) (by (repeat first | exact q_h | apply q_t | assumption); done); rfl; (rfl); (omega))); refine wLa ?_; refine wMv ?_; refine wMv ?_; apply wl_is; rfl; rfl; rfl; (intro σ' hl; (apply g_indexRow; rfl; rfl; exact hl _ (by (exact True.intro)) (by (repeat first | exact q_h | apply q_t | assumption); done); rfl; (assumption); (omega))); refine wLa ?_; apply wl_is; rfl; rfl; rfl; (intro σ' hl; (refine zK rfl rfl (zV (by kernel_rfl)) ?_; exact lc _)); refine wBi ?_; intro _ _; apply wl_isB; rfl; rfl; rfl; (intro σ' hl; (apply g_not; rfl)); intro _ _; refine wl_nil ?_; show EX _ _ _ _ _; refine q_c (fun h h_k => ?_) (fun h h_k => ?_) <;> ((try subst h_k); (have hp := h; try simp only [q_n] at hp); (try (exfalso; first | omega | (cases hp; done))));
      refine zZ ?_; refine xMv ?_; refine xAd ?_; refine xAs ?_; refine zN ?_; simp only [zP, zU, zT, zW, retA, ↓reduceIte, Nat.reduceEqDiff]; rotate_left; refine zZ ?_; refine xMv ?_; refine xAs ?_; refine zN ?_; simp only [zP, zU, zT, zW, retA, ↓reduceIte, Nat.reduceEqDiff]; rotate_left
      (all_goals (repeat (rename BV _ _ => hbv; first | cases hbv | clear hbv)))
      all_goals (try (first | cases ‹true = false› | cases ‹false = true›))
      · rw [hhz]
        refine ⟨(q + 1, j), ⟨by dsimp only; omega, by dsimp only; omega, hI3, h4, hI5⟩, by dsimp only; omega, ?_⟩
        dsimp only
        exact q_le
      · exfalso
        have hq : (!decide (c < 0)) = false := by assumption
        simp at hq
        exact hless hq
  · obtain rfl : i = j := by omega
    obtain ⟨k, hk⟩ : ∃ k, i - a = k := ⟨_, rfl⟩
    rw [hk] at hI4 hI5
    have hmer := merged_right_at (y := y) hX hL (k := k) (by omega) (fun x h0 hx => hI4 x (by omega) hx) hI5
    clear hI4 hI5 hLy hgy hL hX hLx
    have hik : i = a + k := by omega
    have hmX : m = a + X.length := by omega
    have hkX : k ≤ X.length := by omega
    subst hik hmX
    refine zX ?_; refine zX (zZ ?_); refine xMv ?_; refine xMv ?_; refine xBi ?_; intro _ _; refine zY ?_; refine q_c (fun h h_k => ?_) (fun h h_k => ?_) <;> ((try subst h_k); (have hp := h; try simp only [q_n] at hp); (try (exfalso; first | omega | (cases hp; done))));
    refine ex_exit ?_; refine zX ?_; refine zX (zZ ?_); refine xMv ?_; refine xAs ?_; refine zY ?_; refine zL ?_; rotate_left
    (all_goals (repeat (rename BV _ _ => hbv; first | cases hbv | clear hbv)))
    all_goals (try (first | cases ‹true = false› | cases ‹false = true›))
    rw [← hLd, show P ++ X ++ [y] ++ Q = P ++ X.take X.length ++ y :: X.drop X.length ++ Q by simp]
    refine ex_loop (fun (t : Nat) => (⟨[(0, .slv v), (14, .int .i64 ((a + k : Nat) : Int)), (17, .int .i64 ((a + t : Nat) : Int))], rowE v (P ++ X.take t ++ y :: X.drop t ++ Q) :: σ, [], Tryz.f103.ntmps⟩ : St)) (fun t => k ≤ t ∧ t ≤ X.length) (fun t => t - k) X.length (⟨hkX, Nat.le_refl _⟩) (St.le_of (by repeat (first | exact trivial | refine ⟨rfl, ?_⟩)) (by repeat (first | exact q_r | apply q_q | apply q_k))) ?_
    intro t hI
    obtain ⟨hJ1, hJ2⟩ := hI
    clear hLd hLl hlm
    by_cases htk : k < t
    · obtain ⟨s, rfl⟩ : ∃ s, t = s + 1 := ⟨t - 1, by omega⟩
      obtain ⟨x, hx⟩ : ∃ x, X[s]? = some x := get_some (by omega)
      have hPt : (P ++ X.take s).length = a + s := by rw [List.length_append, List.length_take]; omega
      have hsw := swp2_down (A := P ++ X.take s) (C := X.drop (s + 1) ++ Q) (x := x) (y := y)
      have e1 : P ++ X.take (s + 1) ++ y :: X.drop (s + 1) ++ Q = P ++ X.take s ++ x :: y :: (X.drop (s + 1) ++ Q) := by rw [take_get hx]; simp
      have e2 : P ++ X.take s ++ y :: X.drop s ++ Q = P ++ X.take s ++ y :: x :: (X.drop (s + 1) ++ Q) := by rw [drop_get hx]; simp
      rw [hPt, ← e1, ← e2] at hsw
      obtain ⟨M, hM⟩ : ∃ M, P ++ X.take (s + 1) ++ y :: X.drop (s + 1) ++ Q = M := ⟨_, rfl⟩
      have hMx : M[a + s]? = some x := by rw [← hM, e1, ← hPt]; simp
      have hMy : M[a + s + 1]? = some y := by rw [← hM, e1, ← hPt, List.getElem?_append_right (by omega)]; simp
      have hMl : M.length = a + X.length + 1 + Q.length := by rw [← hM]; simp [List.length_take]; omega
      rw [hM] at hsw ⊢
      clear hM e1 e2
      have hgx := ent_get hMx
      have hgy := ent_get hMy
      have hw := swp2_map hMy hMx
      rw [hsw] at hw
      have hwr : ∀ v, rowE v (P ++ X.take s ++ y :: X.drop s ++ Q) = Ent.row v 80 9 (((M.map entC).set (a + s + 1) (entC x)).set (a + s) (entC y)) := fun v => by
        show Ent.row _ _ _ _ = _
        rw [hw]
      have hlm : (M.map entC).length = M.length := List.length_map _
      have hz1 : ((a + (s + 1) : Nat) : Int) - 1 = ((a + s : Nat) : Int) := by omega
      have hz2 : ((a + (s + 1) : Nat) : Int) = ((a + s + 1 : Nat) : Int) := by omega
      have hMne : M ≠ [] := fun e => by rw [e] at hMx; simp at hMx
      have hgt : ((a + k : Nat) : Int) < ((a + (s + 1) : Nat) : Int) := by omega
      clear hsw hw hx hMx hMy
      refine ex_rowV (L := M.map entC) (.head _) (fun e => hMne (List.map_eq_nil_iff.1 e)) ?_
      rintro g cap rfl
      rw [hlm]
      refine zX ?_; refine zX (zZ ?_); refine xMv ?_; refine xMv ?_; refine xBi ?_; intro _ _; refine zY ?_; refine q_c (fun h h_k => ?_) (fun h h_k => ?_) <;> ((try subst h_k); (have hp := h; try simp only [q_n] at hp); (try (exfalso; first | omega | (cases hp; done))));
      refine zR ?_; refine zX ?_; refine zL ?_; rotate_left
      (all_goals (repeat (rename BV _ _ => hbv; first | cases hbv | clear hbv)))
      all_goals (try (first | cases ‹true = false› | cases ‹false = true›))
      refine ex_drfT (fun _ => False) [9, 13, 15] 16 rfl (by kernel_rfl) rfl ?_
      simp only [List.take_succ_cons, List.take_zero, List.drop_succ_cons, List.drop_zero]
      refine dVl ?_; refine dMv ?_; refine dVl ?_; refine dMv ?_; refine dVl ?_; refine dMv ?_; refine dVl ?_; refine dMv ?_; refine dVl ?_; apply drv_is; rfl; rfl; (intro σ' hl; (apply g_sub; rfl; rfl; rfl; exact ⟨by omega, by omega⟩)); refine dVl ?_; refine dMv ?_; refine dVl ?_; refine dMv ?_; refine dVl ?_; apply drv_is; rfl; rfl; (intro σ' hl; (apply g_sub; rfl; rfl; rfl; exact ⟨by omega, by omega⟩)); refine dVl ?_; apply drv_is; rfl; rfl; (intro σ' hl; (apply g_indexRaw; rfl; rfl; rfl; (assumption); (omega))); refine dVl ?_; refine dMv ?_; refine dVl ?_; refine dMv ?_; refine dVl ?_; apply drv_is; rfl; rfl; (intro σ' hl; (apply g_indexRaw; rfl; rfl; rfl; (assumption); (omega))); refine drf_two rfl rfl rfl ?_ ?_; apply drs_is; rfl; rfl; (apply g_loadAgg; rfl; decide; rfl; (exact .k0 (by (repeat first | exact q_h | apply q_t | assumption); done) (by assumption) rfl rfl)); refine drf_one rfl rfl ?_; apply drs_is; rfl; rfl; (apply g_loadAgg; rfl; decide; rfl; (exact .k0 (by (repeat first | exact q_h | apply q_t | assumption); done) (by assumption) rfl rfl)); refine dVl ?_; apply drv_is; rfl; rfl; (intro σ' hl; (apply g_indexRaw; rfl; rfl; rfl; (assumption); (omega))); refine drf_one rfl rfl ?_; apply drs_do; rfl; rfl; (focus (apply g_setElem; rfl; rfl; rfl; rfl; rfl; rfl; rotate_left; (exact Upd.here); (omega))); (rintro _ (rfl | rfl | rfl) _ <;> exact (by (repeat first | exact q_h | apply q_t | assumption); done)); refine drf_nil rfl ?_; apply zQ; rfl; rfl; rfl; (apply g_indexRow; rfl; rfl; exact (by (repeat first | exact q_h | apply q_t | assumption); done); rfl; (assumption); (simp only [List.length_map, List.length_set]; omega)); apply exl_do; rfl; rfl; focus (apply g_setElem; rfl; rfl; rfl; rfl; rfl; rfl; rotate_left; (exact Upd.here); (simp only [List.length_set, List.length_map]; omega));
      refine zN ?_; refine zZ ?_; refine xMv ?_; refine xSu ?_; refine xAs ?_; refine zN ?_; simp only [zP, zU, zT, zW, retA, ↓reduceIte, Nat.reduceEqDiff]; rotate_left; apply drs_is; rfl; rfl; (apply g_loadAgg; rfl; decide; rfl; (exact .k0 (by (repeat first | exact q_h | apply q_t | assumption); done) (by assumption) rfl rfl)); refine drf_one rfl rfl ?_; apply drs_is; rfl; rfl; (apply g_loadAgg; rfl; decide; rfl; (exact .k0 (by (repeat first | exact q_h | apply q_t | assumption); done) (by assumption) rfl rfl)); refine dVl ?_; apply drv_is; rfl; rfl; (intro σ' hl; (apply g_indexRaw; rfl; rfl; rfl; (assumption); (omega))); refine drf_one rfl rfl ?_; apply drs_do; rfl; rfl; (focus (apply g_setElem; rfl; rfl; rfl; rfl; rfl; rfl; rotate_left; (exact Upd.here); (omega))); (rintro _ (rfl | rfl | rfl) _ <;> exact (by (repeat first | exact q_h | apply q_t | assumption); done)); refine drf_nil rfl ?_; apply zQ; rfl; rfl; rfl; (apply g_indexRow; rfl; rfl; exact (by (repeat first | exact q_h | apply q_t | assumption); done); rfl; (assumption); (simp only [List.length_map, List.length_set]; omega)); apply exl_do; rfl; rfl; focus (apply g_setElem; rfl; rfl; rfl; rfl; rfl; rfl; rotate_left; (exact Upd.here); (simp only [List.length_set, List.length_map]; omega));
      refine zN ?_; refine zZ ?_; refine xMv ?_; refine xSu ?_; refine xAs ?_; refine zN ?_; simp only [zP, zU, zT, zW, retA, ↓reduceIte, Nat.reduceEqDiff]; rotate_left
      (all_goals (repeat (rename BV _ _ => hbv; first | cases hbv | clear hbv)))
      all_goals (try (first | cases ‹true = false› | cases ‹false = true›))
      all_goals
        rw [hz1]
        refine ⟨s, ⟨by omega, by omega⟩, by omega, ?_⟩
        rw [hwr]
        exact q_le
    · obtain rfl : t = k := by omega
      rw [show P ++ X.take t ++ y :: X.drop t ++ Q = P ++ (X.take t ++ y :: X.drop t) ++ Q by simp]
      refine zX ?_; refine zX (zZ ?_); refine xMv ?_; refine xMv ?_; refine xBi ?_; intro _ _; refine zY ?_; refine q_c (fun h h_k => ?_) (fun h h_k => ?_) <;> ((try subst h_k); (have hp := h; try simp only [q_n] at hp); (try (exfalso; first | omega | (cases hp; done))));
      refine ex_exit ?_; refine zJ ?_; simp only [zP, zU, zT, zW, retA, ↓reduceIte, Nat.reduceEqDiff]; rotate_left
      (all_goals (repeat (rename BV _ _ => hbv; first | cases hbv | clear hbv)))
      all_goals (try (first | cases ‹true = false› | cases ‹false = true›))
      refine q_rq (σ3 := rowE v (P ++ (X.take t ++ y :: X.drop t) ++ Q) :: σ) ?_
      exact fin_done ⟨rfl, _, hmer, rfl⟩
end Go.Proofs.YtkhoengjdfmfaaaGreat
