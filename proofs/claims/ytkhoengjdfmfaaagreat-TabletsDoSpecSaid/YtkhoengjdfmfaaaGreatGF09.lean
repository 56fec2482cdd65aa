/- Parts of the proof that belong together: Nd Ne Ra Rb Rc. -/
import Derived.Test.YtkhoengjdfmfaaaGreatGF08
set_option maxRecDepth 10000
set_option maxHeartbeats 8000000
set_option linter.unusedSimpArgs false
set_option linter.unusedVariables false
namespace Go.Proofs.YtkhoengjdfmfaaaGreat
theorem two_of {ws : Array Value} (h : ws.size = 2) : ∃ a b, ws = #[a, b] := by
 obtain ⟨l⟩ := ws
 match l, h with
 | [a, b], _ => exact ⟨a, b, rfl⟩
theorem idle_c : Idle Tryz.prog 146 2 := by
 intro ws w hws
 obtain ⟨a, b, rfl⟩ := two_of hws
 refine callsDIn_of_wpSIn Tryz.func146 rfl trivial fun c₀ cs hu => ?_
 apply wpSIn_seq
 apply wpSIn_region
 simp [wpOpsSIn, go_sem, recoverD, hu, Tryz.ntmps146, Exit.thenS]
 apply wpSIn_seq
 apply wpSIn_region
 simp [wpOpsSIn, go_sem, Exit.thenS]
 refine wpSIn_cond (t := false) (by simp [Act.eval, Array.replicate]) ?_
 simp only [Bool.false_eq_true, if_false]
 refine wpSIn_of_wpIn rfl (wpIn_skip ?_)
 cases c₀
 simp_all [bodyPostS, results]
abbrev zvC : List AV := [.int .i64 0, .int .i64 0, noStr, .slv nilS]
theorem run_equalIn_iface {P : Program} {t u : TypeId} {v : Value} {ms : Array (String × TypeId)} (ht : P.underlying t = some (.interface ms)) (d : Nat) (w : World) : (Op.equalIn (d + 1) t (.iface u v) .nilIface).run P w = .ok false w := by
 simp only [Op.equalIn, Sem.run_bind, run_underlying ht, Result.andThen_ok, Sem.run_pure]
theorem run_neq_iface {P : Program} {t u : TypeId} {v : Value} {ms : Array (String × TypeId)} (ht : P.underlying t = some (.interface ms)) (w : World) : (binOp .neq t (.iface u v) .nilIface).run P w = .ok (.bool true) w := by
 have h := run_equalIn_iface (P := P) (u := u) (v := v) ht 9999 w
 simp only [binOp]
 simp only [Op.equal, Op.maxDepth, Sem.run_bind, Sem.run_map, h]
 rfl
theorem g_neqIface {ro : Option Nat} {P : Program} {dst : Option Tmp} {ty : TypeId} {pos : String} {after : Array Edge} {guard : Option (Nat × Bool)} {env : Env} {σ : List Ent} {x : Operand} {t yt : TypeId} {u : TypeId} {v : Value} {ms : Array (String × TypeId)} (ht : P.underlying t = some (.interface ms)) (hx : xP env x = some (.raw (.iface u v))) :
  GOp P ro ⟨dst, .binOp .neq t x (.const .nilIface) yt, ty, pos, after, guard⟩ env σ (Is (.bool true) σ) :=
 xZ _ (by intro c h; cases h) fun X M e w hg ho => by
  have h1 := ho x (by simp [Op.operands]) _ hx
  simp only [VRel] at h1
  refine ⟨.bool true, by simp [VRel], ?_⟩
  have e2 : e.eval (.const .nilIface) = .nilIface := rfl
  simp only [execOp, h1, e2, Sem.run_bind, run_neq_iface ht]
  rfl
theorem saves_c (bv be : Nat) (x l0 l1 l2 l3 : AV) (σ0 : List Ent) : Saves Tryz.prog chE 146 [.ptr bv 0, .ptr be 0] (.cells be [x] 27 :: .cells bv [l0, l1, l2, l3] 160 :: σ0) (fun σ' => σ' = .cells be [.int .i64 10] 27 :: .cells bv zvC 160 :: σ0) := by
 intro X M w ws hg0 ha
 have hsz := ha.length
 simp only [Array.length_toList, List.length_cons, List.length_nil] at hsz
 obtain ⟨a, b, rfl⟩ := two_of hsz
 simp only [VRels, VRel, List.cons.injEq] at ha
 obtain ⟨_, _, ⟨rfl, rfl⟩, ha1, _, _, ⟨rfl, _⟩, ha2, _⟩ := ha
 subst ha1 ha2
 refine callsDIn_of_wpSIn Tryz.func146 rfl trivial fun c₀ cs hu => ?_
 apply wpSIn_seq
 apply wpSIn_region
 simp [wpOpsSIn, go_sem, recoverD, hu, Tryz.ntmps146, Exit.thenS]
 refine wpSIn_of_wpIn rfl ?_
 obtain ⟨Y, hY⟩ : ∃ Y : Fx, Y = { X with dt := [] } := ⟨_, rfl⟩
 have hg : Good Y M (.cells be [x] 27 :: .cells bv [l0, l1, l2, l3] 160 :: σ0) w := hY ▸ hg0.dt []
 have back : ∀ {M σ w}, Good Y M σ w → Good X M σ w := fun h => (hY ▸ h : Good { X with dt := [] } _ _ _).undt
 have hsim : Sim Y M ⟨[(0, .ptr bv 0), (1, .ptr be 0), (2, .raw errV)], .cells be [x] 27 :: .cells bv [l0, l1, l2, l3] 160 :: σ0, [], 9⟩ { tmps := #[.pointer (some ⟨bv, 0, none⟩), .pointer (some ⟨be, 0, none⟩)] ++ ((Array.replicate 7 undef).setIfInBounds 1 errV).setIfInBounds 0 errV, defers := [] } w := by
  refine ⟨hg, rfl, by rw [hY]; rfl, fun t v ht => ?_⟩
  match t, ht with
  | 0, ht => cases (show some (AV.ptr bv 0) = some v from ht); exact ⟨_, rfl, by simp [VRel]⟩
  | 1, ht => cases (show some (AV.ptr be 0) = some v from ht); exact ⟨_, rfl, by simp [VRel]⟩
  | 2, ht => cases (show some (AV.raw errV) = some v from ht); exact ⟨_, rfl, by simp [VRel]⟩
  | n + 3, ht => cases (show none = some v from ht)
 refine Go.wpIn_mono (EX.run (Q := fun e s => e = .normal ∧ s.marks = [] ∧ s.σ = .cells be [.int .i64 10] 27 :: .cells bv zvC 160 :: σ0) ?_ Y M _ w hsim) ?_
 ·refine zY (zZ ?_); refine zR ?_; apply zU; rfl; rfl; rfl; (exact g_neqIface rfl rfl); refine zX (zG rfl (by rfl) ?_); rotate_left
  all_goals ((repeat (rename BV _ _ => k; first | cases k | clear k)); try exact zN)
  refine wA (fun _ => False) [3] 4 rfl (by kernel_rfl) rfl ?_
  refine yL ?_; apply yS; rfl; rfl; (intro σ' hl; (apply tK <;> rfl)); refine yL ?_; refine tP ?_; refine yL ?_; apply yS; rfl; rfl; (intro σ' hl; (exact g_assert rfl rfl)); refine yP rfl rfl ?_; apply wF; rfl; rfl; (apply wV; rfl; rfl; rfl; (exact Upd.there (Upd.here)); (simp only [tS, q_z, AV.cells]; rfl); rfl; rfl; rfl; exact q_b rfl); (rintro _ (rfl | rfl | rfl) _ <;> exact (by repeat first | exact q_h | apply q_t | assumption)); refine wQ rfl ?_; refine yR ?_; refine zQ ?_; simp only [zA, zF, zE, zH, yK, ↓reduceIte, Nat.reduceEqDiff]; rotate_left
  all_goals ((repeat (rename BV _ _ => k; first | cases k | clear k)); try exact zN)
  exact ⟨trivial, trivial, rfl⟩
 ·rintro e a' w' ⟨M', s', hm, hs', rfl, hmk, hσ⟩
  have hdf := hs'.defs
  rw [hmk, hY] at hdf
  refine ⟨hdf, _, rfl, .tuple #[], by simp [results], ⟨_, rfl⟩, rfl, M', hm, ?_⟩
  rw [← hσ]
  exact back hs'.good
def decR (D : List Nat) : AV := match decD D with
 | some t => .tup [.agg (vtC t), .int .i64 0]
 | none => .tup [.agg (vtC (.mk 0 0 [] [])), .int .i64 10]
theorem decode_g (D : List Nat) (hB : ∀ x ∈ D, x < 256) (hD : D.length ≤ 1000) (σ : List Ent) : SCall Tryz.prog 123 [bys D] σ (Is (decR D) σ) := by
 refine scall_ofD Tryz.func123 rfl (by simp) ?_
 have hv := fun b => value_g 16 (by omega) b D hB hD
 rw [show (16 - ((16 : Nat) : Int)) = 0 from rfl] at hv
 have hbad : decD D = none → decR D = .tup [.agg (vtC (.mk 0 0 [] [])), .int .i64 10] := fun h => by unfold decR; rw [h]
 refine exd_seq ?_
 refine zZ (xK ?_); intro _; refine xK ?_; intro _; refine zQ ?_; rotate_left
 all_goals ((repeat (rename BV _ _ => k; first | cases k | clear k)); try exact zN)
 rename Nat => b3; revert b3; rename Nat => b2; revert b2
 intro b2 b3
 refine exd_region (exdl_op rfl rfl (qG rfl rfl) ?_)
 rintro _ _ ⟨⟩
 refine exdl_deferP (ch := chE) rfl (zB (by kernel_rfl)) idle_c ?_
 refine zY (zZ ?_); refine zR ?_; refine uA ?_; refine xB ?_; intro _; refine zP ?_; refine zX (zY (zZ ?_)); refine zR ?_; simp only [zA, zF, zE, zH, yK, ↓reduceIte, Nat.reduceEqDiff]; rotate_left
 all_goals ((repeat (rename BV _ _ => k; first | cases k | clear k)); try exact zN)
 rename Nat => b4; revert b4
 intro b4
 refine exl_pf rfl rfl rfl (zB (by kernel_rfl)) ((hv b4).framed (.cells b3 [.int .i64 0] 27 :: .cells b2 zvC 160 :: σ) (List.Perm.refl _)) (fun hN => And.intro rfl (And.intro rfl ⟨_, _, List.Sublist.refl _, saves_c b2 b3 _ _ _ _ _ σ, ?_⟩)) ?_
 ·rintro _ rfl
  refine ⟨[.agg zvC, .int .i64 10], .cons (.ofAgg rfl rfl (by decide) (.p (by repeat first | exact q_h | apply q_t | assumption) rfl rfl)) (.cons (.ofCell rfl rfl (.p (by repeat first | exact q_h | apply q_t | assumption) rfl)) .nil), ?_⟩
  rw [hbad (by unfold decD; rw [hN]), vJ]
  refine fin_drop (σ' := σ) (.cons _ (.cons _ (List.Sublist.refl _))) ?_
  refine wJ (sz := 4) (.tup (.agg (.same (.same (.same (.here .nil)))) (.same .nil)) .nil) ?_
  exact zJ .mk
 rintro _ _ ⟨_, ⟨_, ⟨⟨t1, t2, t3, t4⟩, D', hvd, rfl, rfl⟩, rfl⟩, rfl⟩
 simp only [vtC]
 refine yR ?_; refine zX (zY (zZ ?_)); (iterate 2 refine zR ?_); apply zU; rfl; rfl; rfl; (apply zK <;> rfl); refine yG ?_; refine wH ?_; refine xY ?_; intro _ _; rotate_left
 all_goals ((repeat (rename BV _ _ => k; first | cases k | clear k)); try exact zN)
 refine exl_pf (N := decide ((D'.length : Int) = 0) = false) rfl rfl rfl (zB (by kernel_rfl)) ((want_g _ _ []).framed _ (List.Perm.refl _)) (fun hN => And.intro rfl (And.intro rfl ⟨_, _, List.Sublist.cons _ (List.Sublist.refl _), saves_c b2 b3 _ _ _ _ _ σ, ?_⟩)) ?_
 ·rintro _ rfl
  refine ⟨[.agg zvC, .int .i64 10], .cons (.ofAgg rfl rfl (by decide) (.p (by repeat first | exact q_h | apply q_t | assumption) rfl rfl)) (.cons (.ofCell rfl rfl (.p (by repeat first | exact q_h | apply q_t | assumption) rfl)) .nil), ?_⟩
  have hne : D' ≠ [] := fun e => by rw [e] at hN; exact absurd hN (by decide)
  rw [hbad (by unfold decD; rw [hvd]; cases D' with | nil => exact absurd rfl hne | cons x D' => rfl), vJ]
  refine fin_drop (σ' := σ) (.cons _ (.cons _ (List.Sublist.refl _))) ?_
  refine wJ (sz := 4) (.tup (.agg (.same (.same (.same (.here .nil)))) (.same .nil)) .nil) ?_
  exact zJ .mk
 rintro _ _ ⟨_, ⟨hq, rfl, rfl⟩, rfl⟩
 have hnil : D' = [] := List.eq_nil_of_length_eq_zero (by have := of_decide_eq_true hq; omega)
 subst hnil
 have hres : decR D = .tup [.agg (vtC (.mk t1 t2 t3 t4)), .int .i64 0] := by unfold decR decD; rw [hvd]
 rw [hres]
 simp only [vtC]
 clear hv hbad hvd hres hq hB
 refine zX (zY (zZ ?_)); refine yA ?_; (iterate 2 refine yR ?_); refine zX (zV ?_); rotate_left
 all_goals ((repeat (rename BV _ _ => k; first | cases k | clear k)); try exact zN)
 refine xX (σ3 := σ) ?_
 exact zJ .mk
abbrev intsR (C : List Int) : List AV := C.map (AV.int .i64)
theorem int_getR {C : List Int} {k : Nat} (h : k < C.length) : ∃ n, (intsR C)[k + 0]? = some (.int .i64 n) := by
 obtain ⟨n, hn⟩ := yW h
 exact ⟨n, by rw [Nat.add_zero, List.getElem?_map, hn]; rfl⟩
theorem intsR8 {C : List Int} (h : C.length = 8) : ∃ s : Sl, intsR C = slC s ∧ s = ofL C := by
 match C, h with
 | [a, b, c, d, e, f, g, i], _ => exact ⟨_, rfl, rfl⟩
theorem vt_get {l : List Vt} {k : Nat} {x : Vt} (h : l[k]? = some x) : (l.map vtC)[k]? = some [.int .i64 x.kind, .int .i64 x.num, .str (pZ x.str), .dl 4 (x.list.map vtC)] := by
 rw [List.getElem?_map, h]
 obtain ⟨k, n, s, m⟩ := x
 show some (vtC _) = _
 rw [vJ]; rfl
def ReadQ (D : List Nat) (σ : List Ent) : AV → List Ent → Prop := fun r τ => ((∃ s, pX D = some s ∧ r = .tup [slV s, .bool (uR s)]) ∨ (pX D = none ∧ ∃ s, r = .tup [slV s, .bool false])) ∧ τ = σ
theorem slipD_bad {D : List Nat} (h : decD D = none) : pX D = none := by unfold pX; rw [h]; rfl
theorem slipD_not {D : List Nat} {t : Vt} (h : decD D = some t) (hn : ¬ (t.kind = 3 ∧ t.list.length = 8 ∧ ∀ x ∈ t.list, x.kind = 1)) : pX D = none := by
 unfold pX; rw [h, Option.bind_some, eightT, if_neg hn]; rfl
theorem slipD_is {D : List Nat} {t : Vt} (h : decD D = some t) (h1 : t.kind = 3) (h2 : t.list.length = 8) (h3 : ∀ x ∈ t.list, x.kind = 1) : pX D = some (ofL (t.list.map Vt.num)) := by
 unfold pX; rw [h, Option.bind_some, eightT, if_pos ⟨h1, h2, h3⟩]; rfl
theorem read_g (D : List Nat) (hB : ∀ x ∈ D, x < 256) (hD : D.length ≤ 1000) (σ : List Ent) : SCall Tryz.prog 81 [bys D] σ (ReadQ D σ) := by
 refine zL Tryz.func81 rfl (by simp) ?_
 have hd := fun σ => decode_g D hB hD σ
 have h8 : (8 : Int) = ((8 : Nat) : Int) := rfl
 unfold decR at hd
 clear hB hD
 cases hdec : decD D with
 | none =>
  rw [hdec] at hd
  have hno := slipD_bad hdec
  simp only [vJ] at hd
  refine zY (zZ ?_); refine xK ?_; intro _; refine zP ?_; refine zX (zY (zZ ?_)); refine zR ?_; apply zU; rfl; rfl; rfl; (refine yJ ?_; exact hd _); refine zR ?_; (iterate 2 refine tG ?_); refine xK ?_; intro _; refine yR ?_; refine zP ?_; refine zX (zY (zZ ?_)); apply zU; rfl; rfl; rfl; (refine yJ ?_; exact fields_c _ _); refine xK ?_; intro _; refine yR ?_; refine zX (zY (zY (zZ ?_))); refine zR ?_; refine xY ?_; intro _ _; refine zR ?_; refine xT ?_ ?_ <;> (intro h hp k; (try subst k); (try simp only [q_n] at hp); try first | omega | (cases hp; done));
  (iterate 3 refine yC ?_); refine xF ?_; refine zR ?_; (iterate 4 refine yC ?_); refine xF ?_; refine zX (zG rfl (by rfl) ?_); refine zY (zZ ?_); refine yA ?_; refine yR ?_; refine zP ?_; refine zX (zV ?_); simp only [yX]; rotate_left
  all_goals ((repeat (rename BV _ _ => k; first | cases k | clear k)); try exact zN)
  rename Nat => b6; revert b6; rename Nat => b4; revert b4; rename Nat => b2; revert b2
  intro b2 b4 b6
  refine xX (σ3 := σ) ?_
  exact zJ ⟨.inr ⟨hno, ⟨0, 0, 0, 0, 0, 0, 0, 0⟩, rfl⟩, rfl⟩
 | some t =>
  obtain ⟨k, n, s, l⟩ := t
  rw [hdec] at hd
  simp only [vJ] at hd
  by_cases hk : k = 3 ∧ l.length = 8
  ·obtain ⟨rfl, hl⟩ := hk
   have hkB : ((3 : Int) != 3) = false := rfl
   have hlB : (((l.map vtC).length : Int) != 8) = false := by rw [List.length_map, hl]; rfl
   refine zY (zZ ?_); refine xK ?_; intro _; refine zP ?_; refine zX (zY (zZ ?_)); refine zR ?_; apply zU; rfl; rfl; rfl; (refine yJ ?_; exact hd _); refine zR ?_; (iterate 2 refine tG ?_); refine xK ?_; intro _; refine yR ?_; refine zP ?_; refine zX (zY (zZ ?_)); apply zU; rfl; rfl; rfl; (refine yJ ?_; exact fields_c _ _); refine xK ?_; intro _; refine yR ?_; refine zX (zY (zY (zZ ?_))); refine zR ?_; refine xY ?_; intro _ _; refine zR ?_; refine xT ?_ ?_ <;> (intro h hp k; (try subst k); (try simp only [q_n] at hp); try first | omega | (cases hp; done));
   refine wL ?_; refine wT ?_; intro _ _; refine yB ?_; refine zR ?_; refine xT ?_ ?_ <;> (intro h hp k; (try subst k); (try simp only [q_n] at hp); try first | omega | (cases hp; done));
   refine wL ?_; apply yZ; rfl; (rfl); rfl; rfl; (apply xH; rfl; rfl; (exact (List.length_map _).symm)); refine wT ?_; intro _ _; refine yB ?_; refine zX (yN ?_ ?_) <;> (intro h hp k; (try subst k); (try simp only [q_n] at hp); try first | omega | (cases hp; done));
   refine zW (zY (zY (zZ ?_))); refine yA ?_; refine zR ?_; refine zX (zT ?_); rotate_left
   all_goals ((repeat (rename BV _ _ => k; first | cases k | clear k)); try exact zN)
   rename Nat => b6; revert b6; rename Nat => b4; revert b4; rename Nat => b2; revert b2
   intro b2 b4 b6
   refine yD (fun (z : Nat × List Int) => (⟨[(2, .ptr b2 0), (4, .ptr b4 0), (29, .agg [.ptr b2 0, .ptr b2 1, .ptr b2 2, .ptr b2 3, .ptr b2 4, .ptr b2 5, .ptr b2 6, .ptr b2 7]), (30, .int .i64 z.1)], .cells b4 [.int .i64 3, .int .i64 n, .str (pZ s), .dl 4 (l.map vtC)] 160 :: .cells b2 (intsR z.2) 43 :: σ, [], Tryz.f81.ntmps⟩ : St)) (fun z => (z.1 ≤ 8 ∧ z.2.length = 8) ∧ z.2.take z.1 = (l.take z.1).map Vt.num ∧ ∀ x ∈ l.take z.1, x.kind = 1) (fun z => 8 - z.1) (0, [0, 0, 0, 0, 0, 0, 0, 0]) (⟨⟨Nat.zero_le _, rfl⟩, rfl, fun x hx => by simp at hx⟩) (St.le_of (by repeat (first | exact trivial | refine ⟨rfl, ?_⟩)) (by repeat (first | exact q_r | apply q_q | apply q_k))) ?_
   intro z hI
   clear hd
   obtain ⟨i, C⟩ := z
   obtain ⟨⟨hI1, hI2⟩, hI3, hI4⟩ := hI
   dsimp only at hI1 hI2 hI3 hI4 ⊢
   by_cases hi : i < 8
   ·obtain ⟨x, hx⟩ : ∃ x, l[i]? = some x := yW (by omega)
    have hg := vt_get hx
    have hg2 := ptrs_get (b := b2) hi
    by_cases hx1 : x.kind = 1
    ·have hst : intsR (C.set i x.num) = (intsR C).set i (.int .i64 x.num) := List.map_set ..
     have hck : i < (intsR C).length := by rw [List.length_map, hI2]; exact hi
     obtain ⟨n0, hn0⟩ := int_getR (C := C) (k := i) (by omega)
     have hset : (C.set i x.num).take (i + 1) = (l.take (i + 1)).map Vt.num := by
      rw [List.take_add_one, List.take_add_one, hx, List.getElem?_set_self (by omega), List.take_set_of_le (Nat.le_refl i), hI3, List.map_append]; rfl
     have hall : ∀ y ∈ l.take (i + 1), y.kind = 1 := fun y hy => by
      rw [List.take_add_one, hx] at hy
      rcases List.mem_append.1 hy with hy | hy
      ·exact hI4 y hy
      ·simp at hy; subst hy; exact hx1
     rw [hx1] at hg
     clear hI3 hI4 hdec
     refine zY (zZ ?_); refine xY ?_; intro _ _; refine zX (zY (yN ?_ ?_)) <;> (intro h hp k; (try subst k); (try simp only [q_n] at hp); try first | omega | (cases hp; done));
     refine zW (zY (zT ?_)); refine zY (zZ ?_); refine zR ?_; apply zU; rfl; rfl; rfl; (apply g_index1; rfl; rfl; rfl; (rfl); (omega); (assumption)); (iterate 2 refine zP ?_); refine zX (zY (zY (zZ ?_))); refine yG ?_; refine zR ?_; refine vG ?_; refine yG ?_; refine zD ?_ ?_ <;> (intro h hp; (try simp only [q_n] at hp); try first | omega | (cases hp; done));
     refine zW (zZ (zR ?_)); refine yG ?_; refine zR ?_; refine vG ?_; refine yG ?_; apply zU; rfl; rfl; rfl; (apply zK <;> rfl); rotate_left
     all_goals ((repeat (rename BV _ _ => k; first | cases k | clear k)); try exact zN)
     refine vT rfl rfl (g_store (tb := 43) (l := intsR C) (l' := intsR (C.set i x.num)) rfl rfl rfl rfl rfl rfl hck hst.symm (.there .here)) ?_
     refine zQ (zZ (vX ?_)); refine zR ?_; refine zQ ?_; simp only [zA, zF, zE, zH, yK, ↓reduceIte, Nat.reduceEqDiff]; rotate_left
     all_goals ((repeat (rename BV _ _ => k; first | cases k | clear k)); try exact zN)
     refine ⟨(i + 1, C.set i x.num), ⟨⟨hi, by dsimp only; rw [List.length_set]; exact hI2⟩, hset, hall⟩, by dsimp only; omega, ?_⟩
     exact wW
    ·have hno := slipD_not hdec (fun h => hx1 (h.2.2 x (List.mem_of_getElem? hx)))
     obtain ⟨z, hz1, _⟩ := intsR8 hI2
     rw [hz1]
     clear hI3 hI4 hdec
     refine zY (zZ ?_); refine xY ?_; intro _ _; refine zX (zY (yN ?_ ?_)) <;> (intro h hp k; (try subst k); (try simp only [q_n] at hp); try first | omega | (cases hp; done));
     refine zW (zY (zT ?_)); refine zY (zZ ?_); refine zR ?_; apply zU; rfl; rfl; rfl; (apply g_index1; rfl; rfl; rfl; (rfl); (omega); (assumption)); (iterate 2 refine zP ?_); refine zX (zY (zY (zZ ?_))); refine yG ?_; refine zR ?_; refine vG ?_; refine yG ?_; refine zD ?_ ?_ <;> (intro h hp; (try simp only [q_n] at hp); try first | omega | (cases hp; done));
     refine zY (zZ ?_); refine yA ?_; refine yR ?_; refine zP ?_; refine zX (zV ?_); simp only [yX]; rotate_left
     all_goals ((repeat (rename BV _ _ => k; first | cases k | clear k)); try exact zN)
     refine xX (σ3 := σ) ?_
     exact zJ ⟨.inr ⟨hno, _, rfl⟩, rfl⟩
   ·have e : i = 8 := by omega
    subst e
    rw [List.take_of_length_le (by omega)] at hI3
    rw [List.take_of_length_le (by omega)] at hI3 hI4
    have his := slipD_is hdec rfl hl hI4
    obtain ⟨z, hz1, hz2⟩ := intsR8 hI2
    rw [hz1]
    rw [show (Vt.mk 3 n s l).list = l from rfl, ← hI3, ← hz2] at his
    clear hI3 hI4 hdec
    have hv := fun σ => valid_c z σ
    refine zY (zZ ?_); refine xY ?_; intro _ _; refine zX (zY (yN ?_ ?_)) <;> (intro h hp k; (try subst k); (try simp only [q_n] at hp); try first | omega | (cases hp; done));
    refine yQ ?_; refine zY ?_; rotate_left
    all_goals ((repeat (rename BV _ _ => k; first | cases k | clear k)); try exact zN)
    refine xN anyK 3 [2] rfl (by kernel_rfl) rfl ?_
    simp only [wU]
    (iterate 2 refine qB ?_); refine wE rfl rfl rfl (xJ rfl rfl (zB (by kernel_rfl)) (hv _)) ?_; rintro _ _ ⟨⟩; refine ⟨fun _ _ h => h, ?_⟩; refine zC (yR ?_); refine zP ?_; refine zX (zV ?_); simp only [yX]; rotate_left
    all_goals ((repeat (rename BV _ _ => k; first | cases k | clear k)); try exact zN)
    refine xX (σ3 := σ) ?_
    exact zJ ⟨.inl ⟨z, his, rfl⟩, rfl⟩
  ·have hno := slipD_not hdec (fun h => hk ⟨h.1, h.2.1⟩)
   refine zY (zZ ?_); refine xK ?_; intro _; refine zP ?_; refine zX (zY (zZ ?_)); refine zR ?_; apply zU; rfl; rfl; rfl; (refine yJ ?_; exact hd _); refine zR ?_; (iterate 2 refine tG ?_); refine xK ?_; intro _; refine yR ?_; refine zP ?_; refine zX (zY (zZ ?_)); apply zU; rfl; rfl; rfl; (refine yJ ?_; exact fields_c _ _); refine xK ?_; intro _; refine yR ?_; refine zX (zY (zY (zZ ?_))); refine zR ?_; refine xY ?_; intro _ _; refine zR ?_; refine xT ?_ ?_ <;> (intro h hp k; (try subst k); (try simp only [q_n] at hp); try first | omega | (cases hp; done));
   refine wL ?_; refine wT ?_; intro _ _; refine yB ?_; refine zR ?_; refine xT ?_ ?_ <;> (intro h hp k; (try subst k); (try simp only [q_n] at hp); try first | omega | (cases hp; done));
   (iterate 4 refine yC ?_); refine xF ?_; refine zX (zG rfl (by rfl) ?_); refine zY (zZ ?_); refine yA ?_; refine yR ?_; refine zP ?_; refine zX (zV ?_); simp only [yX]; rotate_left; refine wL ?_; apply yZ; rfl; (rfl); rfl; rfl; (apply xH; rfl; rfl; (exact (List.length_map _).symm)); refine wT ?_; intro _ _; refine yB ?_; refine zX (yN ?_ ?_) <;> (intro h hp k; (try subst k); (try simp only [q_n] at hp); try first | omega | (cases hp; done));
   refine zY (zZ ?_); refine yA ?_; refine yR ?_; refine zP ?_; refine zX (zV ?_); simp only [yX]; rotate_left
   all_goals ((repeat (rename BV _ _ => k; first | cases k | clear k)); try exact zN)
   all_goals
    refine xX (σ3 := σ) ?_
    exact zJ ⟨.inr ⟨hno, ⟨0, 0, 0, 0, 0, 0, 0, 0⟩, rfl⟩, rfl⟩
section
variable {ro : Option Nat} {P : Program} {dst : Option Tmp} {ty : TypeId} {pos : String} {after : Array Edge} {guard : Option (Nat × Bool)} {env : Env} {σ : List Ent}
theorem g_quoU {x y : Operand} {t yt : TypeId} {a b : Int} {m n q : Nat} (hx : xP env x = some (.int .u64 a)) (hy : xP env y = some (.int .u64 b)) (ha : a = (m : Int)) (hb : b = (n : Int)) (h0 : n ≠ 0) (hq : m / n = q) (hl : q < 18446744073709551616) :
  GOp P ro ⟨dst, .binOp .quo t x y yt, ty, pos, after, guard⟩ env σ (Is (.int .u64 (q : Int)) σ) :=
 xZ _ (by intro c h; cases h) fun X M e w hg ho => by
  have h1 := ho x (by simp [Op.operands]) _ hx
  have h2 := ho y (by simp [Op.operands]) _ hy
  simp only [VRel] at h1 h2
  have hb0 : b ≠ 0 := by omega
  have hc : a.tdiv b = (q : Int) := by subst ha hb hq; rfl
  exact ⟨.int .u64 q, by simp [VRel], by simp [execOp, h1, h2, eqGuard, binOp, Op.intDiv, Sem.run_bind, hb0, hc, tY hl]⟩
end
theorem numeral_r : ∀ (k u : Nat), u ≤ k → u < 18446744073709551616 → ∀ σ : List Ent, SCall Tryz.prog 172 [.int .u64 u] σ (Is (bys (tR u)) σ) := by
 intro k
 induction k with
 | zero =>
  intro u h0 _ σ
  have e : u = 0 := by omega
  subst e
  refine zL Tryz.func172 rfl (by simp) ?_
  rw [qT (by decide)]
  have h8 : IntKind.u8.wrap ((0 : Nat) : Int) = ((0 : Nat) : Int) := wrapU8 (by omega)
  refine zY (zZ ?_); refine zP ?_; refine zX (zY (zY (zZ ?_))); refine zR ?_; refine zD ?_ ?_ <;> (intro h hp; (try simp only [q_n] at hp); try first | omega | (cases hp; done));
  refine zY (zZ ?_); refine zR ?_; apply zU; rfl; rfl; rfl; (exact vA rfl rfl rfl h8); refine qS rfl rfl rfl (by exact yV rfl rfl (by decide) rfl rfl (by (simp only [xC, wU]; rfl))) ?_; intro _; refine zP ?_; refine zX (zV ?_); simp only [yX]; rotate_left
  all_goals ((repeat (rename BV _ _ => k; first | cases k | clear k)); try exact zN)
  rename Value => v
  refine xX (σ3 := .row v 5 1 [b8C 0] :: σ) ?_
  exact vV .here (.here .nil) (zJ .mk)
 | succ k ih =>
  intro u hk hu σ
  refine zL Tryz.func172 rfl (by simp) ?_
  by_cases hlo : u < 128
  ·rw [qT hlo]
   have h8 : IntKind.u8.wrap ((u : Nat) : Int) = ((u : Nat) : Int) := wrapU8 (by omega)
   clear ih
   refine zY (zZ ?_); refine zP ?_; refine zX (zY (zY (zZ ?_))); refine zR ?_; refine zD ?_ ?_ <;> (intro h hp; (try simp only [q_n] at hp); try first | omega | (cases hp; done));
   refine zY (zZ ?_); refine zR ?_; apply zU; rfl; rfl; rfl; (exact vA rfl rfl rfl h8); refine qS rfl rfl rfl (by exact yV rfl rfl (by decide) rfl rfl (by (simp only [xC, wU]; rfl))) ?_; intro _; refine zP ?_; refine zX (zV ?_); simp only [yX]; rotate_left
   all_goals ((repeat (rename BV _ _ => k; first | cases k | clear k)); try exact zN)
   rename Value => v
   refine xX (σ3 := .row v 5 1 [b8C u] :: σ) ?_
   exact vV .here (.here .nil) (zJ .mk)
  ·rw [numL_hi hlo]
   have h8 : IntKind.u8.wrap (IntKind.u64.wrap (((u % 128 : Nat) : Int) + 128)) = ((u % 128 + 128 : Nat) : Int) := by rw [IntKind.wrap_u8, IntKind.wrap_u64]; omega
   have h128 : (128 : Int) = ((128 : Nat) : Int) := rfl
   have hr := fun σ => ih (u / 128) (by omega) (by omega) σ
   have hnl := numL_len (k := 9) (u := u / 128) (by omega)
   clear ih
   generalize hq : u / 128 = q at hr hnl ⊢
   generalize tR q = E at hr hnl ⊢
   refine zY (zZ ?_); refine zP ?_; refine zX (zY (zY (zZ ?_))); refine zR ?_; refine zD ?_ ?_ <;> (intro h hp; (try simp only [q_n] at hp); try first | omega | (cases hp; done));
   refine zW (zY (zZ ?_)); refine zR ?_; apply zU; rfl; rfl; rfl; (apply g_remP; rfl; rfl; exact ⟨by omega, by omega⟩); apply zU; rfl; rfl; rfl; (apply wG <;> rfl); apply zU; rfl; rfl; rfl; (exact vA rfl rfl rfl h8); refine qS rfl rfl rfl (by exact yV rfl rfl (by decide) rfl rfl (by (simp only [xC, wU]; rfl))) ?_; intro _; refine zR ?_; apply zU; rfl; rfl; rfl; (exact g_quoU rfl rfl rfl h128 (by omega) hq (by omega)); apply zU; rfl; rfl; rfl; (refine yJ ?_; exact hr _); apply tQ; rfl; rfl; rfl; (apply xG; rfl; rfl; rfl; (intro v'; (exact Upd.here)); (exact .d); (intro y hy; simp only [tC] at hy; (focus (obtain ⟨_, _, rfl⟩ := hy; rfl; done))); (refine wP ?_ (by kernel_rfl); (try simp only [List.length_append, List.length_map, List.length_cons, List.length_nil, List.length_take, List.length_drop]); omega)); intro _; refine zP ?_; refine zX (zV ?_); simp only [yX]; rotate_left
   all_goals ((repeat (rename BV _ _ => k; first | cases k | clear k)); try exact zN)
   rename Value => v
   refine xX (σ3 := .row v 5 1 ([b8C (u % 128 + 128)] ++ E.map b8C) :: σ) ?_
   exact vV .here (.here .nil) (zJ .mk)
theorem unsigned_r (n : Int) (h1 : -9223372036854775808 ≤ n) (h2 : n < 9223372036854775808) (σ : List Ent) : SCall Tryz.prog 173 [.int .i64 n] σ (Is (.int .u64 (usg n : Nat)) σ) := by
 refine zL Tryz.func173 rfl (by simp) ?_
 by_cases h0 : 0 ≤ n
 ·obtain ⟨m, rfl⟩ : ∃ m : Nat, n = m := ⟨n.toNat, by omega⟩
  have hc : IntKind.u64.wrap ((m : Nat) : Int) = ((m : Nat) : Int) := tY (by omega)
  have hu : usg ((m : Nat) : Int) = 2 * m := by unfold usg; rw [if_pos h0]; omega
  rw [hu]
  refine zY (zZ ?_); refine zP ?_; refine zX (zY (zY (zZ ?_))); refine zR ?_; refine zD ?_ ?_ <;> (intro h hp; (try simp only [q_n] at hp); try first | omega | (cases hp; done));
  refine zY (zZ ?_); refine zR ?_; apply zU; rfl; rfl; rfl; (exact vA rfl rfl rfl hc); apply zU; rfl; rfl; rfl; (apply wG <;> rfl); refine zP ?_; refine zX (zV ?_); simp only [yX]; rotate_left
  all_goals ((repeat (rename BV _ _ => k; first | cases k | clear k)); try exact zN)
  refine xW ?_
  show AV.int _ _ = AV.int _ _
  rw [IntKind.wrap_u64]
  congr 1
  omega
 ·obtain ⟨m, hm⟩ : ∃ m : Nat, -(n + 1) = m := ⟨(-(n + 1)).toNat, by omega⟩
  have hc : IntKind.u64.wrap (-(n + 1)) = ((m : Nat) : Int) := by rw [hm]; exact tY (by omega)
  have hu : usg n = 2 * m + 1 := by unfold usg; rw [if_neg h0]; omega
  rw [hu]
  refine zY (zZ ?_); refine zP ?_; refine zX (zY (zY (zZ ?_))); refine zR ?_; refine zD ?_ ?_ <;> (intro h hp; (try simp only [q_n] at hp); try first | omega | (cases hp; done));
  refine zW (zY (zZ ?_)); refine zR ?_; refine vX ?_; apply zU; rfl; rfl; rfl; (apply g_neg; rfl; rfl; exact ⟨by omega, by omega⟩); apply zU; rfl; rfl; rfl; (exact vA rfl rfl rfl hc); apply zU; rfl; rfl; rfl; (apply wG <;> rfl); apply zU; rfl; rfl; rfl; (apply wG <;> rfl); refine zP ?_; refine zX (zV ?_); simp only [yX]; rotate_left
  all_goals ((repeat (rename BV _ _ => k; first | cases k | clear k)); try exact zN)
  refine xW ?_
  show AV.int _ _ = AV.int _ _
  rw [IntKind.wrap_u64, IntKind.wrap_u64]
  congr 1
  omega
theorem vtC_is (x : Vt) : vtC x = [.int .i64 x.kind, .int .i64 x.num, .str (pZ x.str), .dl 4 (x.list.map vtC)] := by
 obtain ⟨k, n, s, m⟩ := x
 rw [vJ]; rfl
theorem bstr_nil : pZ [] = ⟨#[]⟩ := rfl
theorem formed_r : ∀ (d : Nat) (t : Vt), VtOk d t → ∀ σ : List Ent, SCall Tryz.prog 170 [.agg (vtC t)] σ (Is (.bool true) σ) := by
 intro d
 induction d with
 | zero =>
  rintro ⟨k, n, s, l⟩ hw σ
  refine zL Tryz.func170 rfl (by simp) ?_
  simp only [VtOk] at hw
  rw [vJ]
  rcases hw with ⟨rfl, rfl, rfl, _⟩ | ⟨rfl, rfl, rfl, _⟩ | ⟨_, _, _, _, h, _⟩
  ·rw [bstr_nil]
   refine zY (zZ ?_); refine xB ?_; intro _; refine zP ?_; refine zX (zY (zY (zZ ?_))); refine yG ?_; refine zX (zT ?_); refine zY (zZ ?_); refine xY ?_; intro _ _; refine zP ?_; refine zX (yN ?_ ?_) <;> (intro h hp k; (try subst k); (try simp only [q_n] at hp); try first | omega | (cases hp; done));
   refine zY (zZ ?_); refine yG ?_; apply zU; rfl; rfl; rfl; (exact g_eqlStr (q := true) rfl rfl rfl (beq_self_eq_true _)); refine zR ?_; refine wL ?_; apply yZ; rfl; (rfl); rfl; rfl; (apply xH; rfl; rfl; (exact (List.length_map _).symm)); refine wT ?_; intro _ _; refine xF ?_; refine zP ?_; refine zX (zV ?_); simp only [yX]; rotate_left
   all_goals ((repeat (rename BV _ _ => k; first | cases k | clear k)); try exact zN)
   all_goals
    refine xW ?_
    rfl
  ·refine zY (zZ ?_); refine xB ?_; intro _; refine zP ?_; refine zX (zY (zY (zZ ?_))); refine yG ?_; refine zX (zT ?_); refine zY (zZ ?_); refine xY ?_; intro _ _; refine zP ?_; refine zX (yN ?_ ?_) <;> (intro h hp k; (try subst k); (try simp only [q_n] at hp); try first | omega | (cases hp; done));
   refine zY (zZ ?_); refine xY ?_; intro _ _; refine zP ?_; refine zX (yN ?_ ?_) <;> (intro h hp k; (try subst k); (try simp only [q_n] at hp); try first | omega | (cases hp; done));
   refine zY (zZ ?_); refine yG ?_; refine xY ?_; intro _ _; refine zR ?_; refine xT ?_ ?_ <;> (intro h hp k; (try subst k); (try simp only [q_n] at hp); try first | omega | (cases hp; done));
   refine wL ?_; apply yZ; rfl; (rfl); rfl; rfl; (apply xH; rfl; rfl; (exact (List.length_map _).symm)); refine wT ?_; intro _ _; refine xF ?_; refine zP ?_; refine zX (zV ?_); simp only [yX]; rotate_left
   all_goals ((repeat (rename BV _ _ => k; first | cases k | clear k)); try exact zN)
   all_goals
    refine xW ?_
    rfl
  ·omega
 | succ d ih =>
  rintro ⟨k, n, s, l⟩ hw σ
  refine zL Tryz.func170 rfl (by simp) ?_
  simp only [VtOk] at hw
  rw [vJ]
  rcases hw with ⟨rfl, rfl, rfl, _⟩ | ⟨rfl, rfl, rfl, _⟩ | ⟨rfl, rfl, rfl, hl, _, hm⟩
  ·rw [bstr_nil]
   clear ih
   refine zY (zZ ?_); refine xB ?_; intro _; refine zP ?_; refine zX (zY (zY (zZ ?_))); refine yG ?_; refine zX (zT ?_); refine zY (zZ ?_); refine xY ?_; intro _ _; refine zP ?_; refine zX (yN ?_ ?_) <;> (intro h hp k; (try subst k); (try simp only [q_n] at hp); try first | omega | (cases hp; done));
   refine zY (zZ ?_); refine yG ?_; apply zU; rfl; rfl; rfl; (exact g_eqlStr (q := true) rfl rfl rfl (beq_self_eq_true _)); refine zR ?_; refine wL ?_; apply yZ; rfl; (rfl); rfl; rfl; (apply xH; rfl; rfl; (exact (List.length_map _).symm)); refine wT ?_; intro _ _; refine xF ?_; refine zP ?_; refine zX (zV ?_); simp only [yX]; rotate_left
   all_goals ((repeat (rename BV _ _ => k; first | cases k | clear k)); try exact zN)
   all_goals
    refine xW ?_
    rfl
  ·clear ih
   refine zY (zZ ?_); refine xB ?_; intro _; refine zP ?_; refine zX (zY (zY (zZ ?_))); refine yG ?_; refine zX (zT ?_); refine zY (zZ ?_); refine xY ?_; intro _ _; refine zP ?_; refine zX (yN ?_ ?_) <;> (intro h hp k; (try subst k); (try simp only [q_n] at hp); try first | omega | (cases hp; done));
   refine zY (zZ ?_); refine xY ?_; intro _ _; refine zP ?_; refine zX (yN ?_ ?_) <;> (intro h hp k; (try subst k); (try simp only [q_n] at hp); try first | omega | (cases hp; done));
   refine zY (zZ ?_); refine yG ?_; refine xY ?_; intro _ _; refine zR ?_; refine xT ?_ ?_ <;> (intro h hp k; (try subst k); (try simp only [q_n] at hp); try first | omega | (cases hp; done));
   refine wL ?_; apply yZ; rfl; (rfl); rfl; rfl; (apply xH; rfl; rfl; (exact (List.length_map _).symm)); refine wT ?_; intro _ _; refine xF ?_; refine zP ?_; refine zX (zV ?_); simp only [yX]; rotate_left
   all_goals ((repeat (rename BV _ _ => k; first | cases k | clear k)); try exact zN)
   all_goals
    refine xW ?_
    rfl
  ·rw [bstr_nil]
   refine zY (zZ ?_); refine xB ?_; intro _; refine zP ?_; refine zX (zY (zY (zZ ?_))); refine yG ?_; refine zX (zT ?_); refine zY (zZ ?_); refine xY ?_; intro _ _; refine zP ?_; refine zX (yN ?_ ?_) <;> (intro h hp k; (try subst k); (try simp only [q_n] at hp); try first | omega | (cases hp; done));
   refine zY (zZ ?_); refine xY ?_; intro _ _; refine zP ?_; refine zX (yN ?_ ?_) <;> (intro h hp k; (try subst k); (try simp only [q_n] at hp); try first | omega | (cases hp; done));
   refine zY (zZ ?_); refine xY ?_; intro _ _; refine zP ?_; refine zX (yN ?_ ?_) <;> (intro h hp k; (try subst k); (try simp only [q_n] at hp); try first | omega | (cases hp; done));
   refine zY (zY (zZ ?_)); refine zP ?_; refine zX (zT ?_); rotate_left
   all_goals ((repeat (rename BV _ _ => k; first | cases k | clear k)); try exact zN)
   rename Nat => b1; revert b1
   intro b1
   refine yD (fun (k : Nat) => (⟨[(1, .ptr b1 0), (3, .int .i64 k)], .cells b1 [.int .i64 3, .int .i64 0, .str ⟨#[]⟩, .dl 4 (l.map vtC)] 160 :: σ, [], Tryz.f170.ntmps⟩ : St)) (fun k => k ≤ l.length) (fun k => l.length - k) 0 (Nat.zero_le _) (St.le_of (by repeat (first | exact trivial | refine ⟨rfl, ?_⟩)) (by repeat (first | exact q_r | apply q_q | apply q_k))) ?_
   intro k hI
   by_cases hk : k < l.length
   ·obtain ⟨x, hx⟩ : ∃ x, l[k]? = some x := yW hk
    have hg := vt_get hx
    have hf := fun σ => ih x (vtsOk_mem hm x (List.mem_of_getElem? hx)) σ
    rw [vtC_is] at hf
    clear ih hm
    refine zY (zY (zZ ?_)); refine zR ?_; refine yG ?_; refine wH ?_; refine zD ?_ ?_ <;> (intro h hp; (try simp only [q_n] at hp); try first | omega | (cases hp; done));
    refine zW (zY (zT ?_)); refine zY (zZ ?_); refine yG ?_; refine zR ?_; refine vG ?_; refine yA ?_; apply yE; rfl; rfl; rfl; (refine yJ ?_; exact hf _); intro _ _; refine qY ?_; intro _ _; refine zX (yN ?_ ?_) <;> (intro h hp k; (try subst k); (try simp only [q_n] at hp); try first | omega | (cases hp; done));
    refine zY (zZ ?_); refine zP ?_; refine zX (zV ?_); simp only [yX]; rotate_left; refine zW (zZ (zR ?_)); refine vX ?_; refine zP ?_; refine zQ ?_; simp only [zA, zF, zE, zH, yK, ↓reduceIte, Nat.reduceEqDiff]; rotate_left
    all_goals ((repeat (rename BV _ _ => k; first | cases k | clear k)); try exact zN)
    refine ⟨k + 1, hk, by omega, ?_⟩
    exact wW
   ·clear ih hm
    refine zY (zY (zZ ?_)); refine zR ?_; refine yG ?_; refine wH ?_; refine zD ?_ ?_ <;> (intro h hp; (try simp only [q_n] at hp); try first | omega | (cases hp; done));
    refine yQ ?_; refine zY (zZ ?_); refine yG ?_; refine xY ?_; intro _ _; refine zR ?_; refine xT ?_ ?_ <;> (intro h hp k; (try subst k); (try simp only [q_n] at hp); try first | omega | (cases hp; done));
    refine wL ?_; apply yZ; rfl; (rfl); rfl; rfl; (exact g_eqlStr (q := true) rfl rfl rfl (beq_self_eq_true _)); refine xF ?_; refine zP ?_; refine zX (zV ?_); simp only [yX]; rotate_left
    all_goals ((repeat (rename BV _ _ => k; first | cases k | clear k)); try exact zN)
    all_goals
     refine xW ?_
     rfl
theorem vtDs_snoc : ∀ (l : List Vt) (x : Vt), vtDs (l ++ [x]) = max (vtDs l) (vtD x)
 | [], x => by simp [vtDs]
 | y :: l, x => by simp only [List.cons_append, vtDs, vtDs_snoc l x]; omega
theorem max_cast (a b : Nat) : max ((a : Nat) : Int) ((b : Nat) : Int) = ((max a b : Nat) : Int) := by omega
theorem depth_r : ∀ (d : Nat) (t : Vt), VtOk d t → vtD t ≤ 100 → ∀ σ : List Ent, SCall Tryz.prog 171 [.agg (vtC t)] σ (Is (.int .i64 (vtD t : Nat)) σ) := by
 intro d
 induction d with
 | zero =>
  rintro ⟨k, n, s, l⟩ hw _ σ
  refine zL Tryz.func171 rfl (by simp) ?_
  simp only [VtOk] at hw
  rw [vJ, vtD]
  rcases hw with ⟨rfl, rfl, rfl, _⟩ | ⟨rfl, rfl, rfl, _⟩ | ⟨_, _, _, _, h, _⟩
  ·refine zY (zZ ?_); refine xB ?_; intro _; refine zP ?_; refine zX (zY (zY (zZ ?_))); refine yG ?_; refine zD ?_ ?_ <;> (intro h hp; (try simp only [q_n] at hp); try first | omega | (cases hp; done));
   refine zY (zZ ?_); refine zP ?_; refine zX (zV ?_); simp only [yX]; rotate_left
   all_goals ((repeat (rename BV _ _ => k; first | cases k | clear k)); try exact zN)
   refine xW ?_
   rfl
  ·refine zY (zZ ?_); refine xB ?_; intro _; refine zP ?_; refine zX (zY (zY (zZ ?_))); refine yG ?_; refine zD ?_ ?_ <;> (intro h hp; (try simp only [q_n] at hp); try first | omega | (cases hp; done));
   refine zY (zZ ?_); refine zP ?_; refine zX (zV ?_); simp only [yX]; rotate_left
   all_goals ((repeat (rename BV _ _ => k; first | cases k | clear k)); try exact zN)
   refine xW ?_
   rfl
  ·omega
 | succ d ih =>
  rintro ⟨k, n, s, l⟩ hw hdl σ
  refine zL Tryz.func171 rfl (by simp) ?_
  simp only [VtOk] at hw
  rw [vtD] at hdl
  rw [vJ, vtD]
  rcases hw with ⟨rfl, rfl, rfl, _⟩ | ⟨rfl, rfl, rfl, _⟩ | ⟨rfl, rfl, rfl, hl, _, hm⟩
  ·clear ih
   refine zY (zZ ?_); refine xB ?_; intro _; refine zP ?_; refine zX (zY (zY (zZ ?_))); refine yG ?_; refine zD ?_ ?_ <;> (intro h hp; (try simp only [q_n] at hp); try first | omega | (cases hp; done));
   refine zY (zZ ?_); refine zP ?_; refine zX (zV ?_); simp only [yX]; rotate_left
   all_goals ((repeat (rename BV _ _ => k; first | cases k | clear k)); try exact zN)
   refine xW ?_
   rfl
  ·clear ih
   refine zY (zZ ?_); refine xB ?_; intro _; refine zP ?_; refine zX (zY (zY (zZ ?_))); refine yG ?_; refine zD ?_ ?_ <;> (intro h hp; (try simp only [q_n] at hp); try first | omega | (cases hp; done));
   refine zY (zZ ?_); refine zP ?_; refine zX (zV ?_); simp only [yX]; rotate_left
   all_goals ((repeat (rename BV _ _ => k; first | cases k | clear k)); try exact zN)
   refine xW ?_
   rfl
  ·rw [if_pos rfl] at hdl ⊢
   rw [bstr_nil]
   refine zY (zZ ?_); refine xB ?_; intro _; refine zP ?_; refine zX (zY (zY (zZ ?_))); refine yG ?_; refine zD ?_ ?_ <;> (intro h hp; (try simp only [q_n] at hp); try first | omega | (cases hp; done));
   refine zW (zY (zZ ?_)); refine zP ?_; refine zX (zY (zY (zZ ?_))); refine zP ?_; refine zX (zT ?_); rotate_left
   all_goals ((repeat (rename BV _ _ => k; first | cases k | clear k)); try exact zN)
   rename Nat => b1; revert b1
   intro b1
   refine yD (fun (k : Nat) => (⟨[(1, .ptr b1 0), (3, .int .i64 (vtDs (l.take k) : Nat)), (4, .int .i64 k)], .cells b1 [.int .i64 3, .int .i64 0, .str ⟨#[]⟩, .dl 4 (l.map vtC)] 160 :: σ, [], Tryz.f171.ntmps⟩ : St)) (fun k => k ≤ l.length) (fun k => l.length - k) 0 (Nat.zero_le _) (St.le_of (by repeat (first | exact trivial | refine ⟨rfl, ?_⟩)) (by repeat (first | exact q_r | apply q_q | apply q_k))) ?_
   intro k hI
   by_cases hk : k < l.length
   ·obtain ⟨x, hx⟩ : ∃ x, l[k]? = some x := yW hk
    have hg := vt_get hx
    have hxm := List.mem_of_getElem? hx
    have hxl := vtDs_le hxm
    have hf := fun σ => ih x (vtsOk_mem hm x hxm) (by omega) σ
    rw [vtC_is] at hf
    have hmx := max_cast (vtDs (l.take k)) (vtD x)
    have hnx : vtDs (l.take (k + 1)) = max (vtDs (l.take k)) (vtD x) := by rw [List.take_add_one, hx]; exact vtDs_snoc _ _
    clear ih hm
    refine zY (zY (zZ ?_)); refine zR ?_; refine yG ?_; refine wH ?_; refine zD ?_ ?_ <;> (intro h hp; (try simp only [q_n] at hp); try first | omega | (cases hp; done));
    refine zW (zY (zT ?_)); refine zZ (zR ?_); refine yG ?_; refine zR ?_; refine vG ?_; refine yA ?_; apply zU; rfl; rfl; rfl; (refine yJ ?_; exact hf _); apply zU; rfl; rfl; rfl; (apply g_max <;> rfl); refine zP ?_; refine zQ (zZ (zR ?_)); refine vX ?_; refine zP ?_; refine zQ ?_; simp only [zA, zF, zE, zH, yK, ↓reduceIte, Nat.reduceEqDiff]; rotate_left
    all_goals ((repeat (rename BV _ _ => k; first | cases k | clear k)); try exact zN)
    refine ⟨k + 1, hk, by omega, ?_⟩
    rw [hnx, ← hmx]
    exact wW
   ·have e : k = l.length := by omega
    subst e
    rw [List.take_length]
    clear ih hm
    refine zY (zY (zZ ?_)); refine zR ?_; refine yG ?_; refine wH ?_; refine zD ?_ ?_ <;> (intro h hp; (try simp only [q_n] at hp); try first | omega | (cases hp; done));
    refine yQ ?_; refine zY (zZ ?_); refine zR ?_; refine vX ?_; refine zP ?_; refine zX (zV ?_); simp only [yX]; rotate_left
    all_goals ((repeat (rename BV _ _ => k; first | cases k | clear k)); try exact zN)
    refine xW ?_
    rfl
theorem check_r (t : Vt) (hw : VtOk 16 t) (hd : vtD t ≤ 16) (σ : List Ent) : SCall Tryz.prog 153 [.agg (vtC t)] σ (Is (.int .i64 0) σ) := by
 refine zL Tryz.func153 rfl (by simp) ?_
 have hf := fun σ => formed_r 16 t hw σ
 have hdp := fun σ => depth_r 16 t hw (by omega) σ
 rw [vtC_is] at hf hdp ⊢
 have hno : decide (((vtD t : Nat) : Int) > 16) = false := decide_eq_false (by omega)
 refine zY (zZ ?_); refine xB ?_; intro _; refine zP ?_; refine zX (zY (zY (zZ ?_))); refine yA ?_; apply yE; rfl; rfl; rfl; (refine yJ ?_; exact hf _); intro _ _; refine qY ?_; intro _ _; refine zX (yN ?_ ?_) <;> (intro h hp k; (try subst k); (try simp only [q_n] at hp); try first | omega | (cases hp; done));
 refine zY (zZ ?_); refine zP ?_; refine zX (zV ?_); simp only [yX]; rotate_left; refine zW (zY (zY (zZ ?_))); refine yA ?_; apply zU; rfl; rfl; rfl; (refine yJ ?_; exact hdp _); refine zD ?_ ?_ <;> (intro h hp; (try simp only [q_n] at hp); try first | omega | (cases hp; done));
 refine zW (zY (zZ ?_)); refine zP ?_; refine zX (zV ?_); simp only [yX]; rotate_left
 all_goals ((repeat (rename BV _ _ => k; first | cases k | clear k)); try exact zN)
 refine xW ?_
 rfl
theorem vtBs_len {l : List Vt} {x : Vt} : x ∈ l → (vtB x).length ≤ (vtBs l).length := by
 intro h
 induction l with
 | nil => cases h
 | cons y l ih =>
  simp only [vtBs, List.length_append]
  rcases List.mem_cons.1 h with rfl | h
  ·omega
  ·have := ih h; omega
theorem numL_l10 {u : Nat} (h : u < 18446744073709551616) : (tR u).length ≤ 10 := numL_len (k := 9) (by omega)
theorem g_lenStr {ro : Option Nat} {P : Program} {dst : Option Tmp} {ty : TypeId} {pos : String} {after : Array Edge} {guard : Option (Nat × Bool)} {env : Env} {σ : List Ent} {x : Operand} {t : TypeId} {a : ByteArray} {n : Nat} (ht : P.underlying t = some .string) (hx : xP env x = some (.str a)) (hn : a.size = n) :
  GOp P ro ⟨dst, .call { callee := .builtin .len, args := #[x], argTypes := #[t] }, ty, pos, after, guard⟩ env σ (Is (.int .i64 (n : Int)) σ) :=
 xZ _ (by intro c h; cases h) fun X M e w hg ho => by
  have h1 := ho x (by simp [Op.operands, Call.operands]) _ hx
  simp only [VRel] at h1
  refine ⟨.int .i64 n, by simp [VRel], ?_⟩
  subst hn
  simp [execOp, resolve, invoke, builtin, h1, Sem.run_bind, Builtin.len_, run_underlying ht, goInt]
theorem encode_s (d : Nat) (ih : ∀ d', d = d' + 1 → ∀ (t : Vt), VtOk d' t → (vtB t).length ≤ 100000 → ∀ σ : List Ent, SCall Tryz.prog 154 [.agg (vtC t)] σ (Is (bys (vtB t)) σ)) (t : Vt) (hw : VtOk d t) (hdl : (vtB t).length ≤ 100000) (σ : List Ent) :
  SCall Tryz.prog 154 [.agg (vtC t)] σ (Is (bys (vtB t)) σ) := by
 obtain ⟨k, n, s, l⟩ := t
 refine zL Tryz.func154 rfl (by simp) ?_
 simp only [VtOk] at hw
 rw [vtB] at hdl
 rw [vJ, vtB]
 rcases hw with ⟨rfl, rfl, rfl, hn1, hn2⟩ | ⟨rfl, rfl, rfl, hs1, hs2⟩ | ⟨rfl, rfl, rfl, hl, hd0, hm⟩
 ·rw [if_pos rfl] at hdl ⊢
  have hu := fun σ => unsigned_r n hn1 hn2 σ
  have hul : usg n < 18446744073709551616 := by unfold usg; split <;> omega
  have hnm := fun σ => numeral_r _ (usg n) (Nat.le_refl _) hul σ
  have hnl := numL_l10 hul
  generalize tR (usg n) = E at hnm hnl hdl ⊢
  clear ih
  refine zY (zZ ?_); refine xB ?_; intro _; refine zP ?_; refine zX (zY (zY (zZ ?_))); refine yG ?_; refine zX (zT ?_); refine zY (zZ ?_); refine xY ?_; intro _ _; refine zP ?_; refine zX (yN ?_ ?_) <;> (intro h hp k; (try subst k); (try simp only [q_n] at hp); try first | omega | (cases hp; done));
  refine zY (zZ ?_); refine qS rfl rfl rfl (by exact yV rfl rfl (by decide) rfl rfl (by (simp only [xC, wU]; rfl))) ?_; intro _; refine yG ?_; apply zU; rfl; rfl; rfl; (refine yJ ?_; exact hu _); apply zU; rfl; rfl; rfl; (refine yJ ?_; exact hnm _); apply tQ; rfl; rfl; rfl; (apply xG; rfl; rfl; rfl; (intro v'; (exact Upd.here)); (exact .d); (intro y hy; simp only [tC] at hy; (focus (obtain ⟨_, _, rfl⟩ := hy; rfl; done))); (refine wP ?_ (by kernel_rfl); (try simp only [List.length_append, List.length_map, List.length_cons, List.length_nil, List.length_take, List.length_drop]); omega)); intro _; refine zP ?_; refine zX (zV ?_); simp only [yX]; rotate_left
  all_goals ((repeat (rename BV _ _ => k; first | cases k | clear k)); try exact zN)
  rename Value => v
  refine xX (σ3 := .row v 5 1 ([b8C 1] ++ E.map b8C) :: σ) ?_
  exact vV .here (.here .nil) (zJ .mk)
 ·rw [if_neg (by decide), if_pos rfl] at hdl ⊢
  have hcv : IntKind.u64.wrap ((s.length : Nat) : Int) = ((s.length : Nat) : Int) := tY (by omega)
  have hnm := fun σ => numeral_r _ s.length (Nat.le_refl _) (by omega) σ
  have hnl := numL_l10 (u := s.length) (by omega)
  generalize tR s.length = E at hnm hnl hdl ⊢
  clear ih
  refine zY (zZ ?_); refine xB ?_; intro _; refine zP ?_; refine zX (zY (zY (zZ ?_))); refine yG ?_; refine zX (zT ?_); refine zY (zZ ?_); refine xY ?_; intro _ _; refine zP ?_; refine zX (yN ?_ ?_) <;> (intro h hp k; (try subst k); (try simp only [q_n] at hp); try first | omega | (cases hp; done));
  refine zY (zZ ?_); refine xY ?_; intro _ _; refine zP ?_; refine zX (yN ?_ ?_) <;> (intro h hp k; (try subst k); (try simp only [q_n] at hp); try first | omega | (cases hp; done));
  refine zY ?_; rotate_left
  all_goals ((repeat (rename BV _ _ => k; first | cases k | clear k)); try exact zN)
  rename Nat => b1; revert b1
  intro b1
  refine wA (fun x => x = .cells b1 [.int .i64 2, .int .i64 0, .str (pZ s), .dl 4 []] 160) [0, 6, 9] 10 rfl (by kernel_rfl) rfl ?_
  refine yL ?_; refine tN ?_; refine yL ?_; refine dLd ?_; refine yL ?_; apply yS; rfl; rfl; (intro σ' hl; (exact g_lenStr rfl rfl (bstr_size s))); refine yL ?_; apply yS; rfl; rfl; (intro σ' hl; (exact vA rfl rfl rfl hcv)); refine yL ?_; apply yS; rfl; rfl; (intro σ' hl; (refine yJ ?_; exact hnm _)); refine yL ?_; refine tN ?_; refine yL ?_; refine dLd ?_; refine yP rfl rfl ?_; refine drs_row rfl rfl (by exact yV rfl rfl (by decide) rfl rfl (by (simp only [xC, wU]; rfl))) ?_; intro _; refine yP rfl rfl ?_; refine drs_eff rfl rfl (by apply xG; rfl; rfl; rfl; (intro v'; (exact Upd.here)); (exact .d); (intro y hy; simp only [tC] at hy; (focus (obtain ⟨_, _, rfl⟩ := hy; rfl; done))); (refine wP ?_ (by kernel_rfl); (try simp only [List.length_append, List.length_map, List.length_cons, List.length_nil, List.length_take, List.length_drop]); omega)) ?_; rintro _ _ ⟨v'⟩; refine ⟨(by (rintro _ (rfl | rfl | rfl) _ <;> exact (by repeat first | exact q_h | apply q_t | assumption))), ?_⟩; refine yP rfl rfl ?_; refine drs_eff rfl rfl (g_appendStr (L := s) rfl rfl rfl rfl rfl (fun v' => by exact (by (exact Upd.here))) hs2 (by simp; omega)) ?_; rintro _ _ ⟨v'⟩; refine ⟨(by (rintro _ (rfl | rfl | rfl) _ <;> exact (by repeat first | exact q_h | apply q_t | assumption))), ?_⟩; refine wQ rfl ?_; refine zP ?_; refine zX (zV ?_); simp only [yX]; rotate_left
  all_goals ((repeat (rename BV _ _ => k; first | cases k | clear k)); try exact zN)
  refine xX (σ3 := .row v' 5 1 ([b8C 2] ++ E.map b8C ++ s.map b8C) :: σ) ?_
  refine vV .here (.here .nil) ?_
  rw [show [b8C 2] ++ E.map b8C ++ s.map b8C = (2 :: (E ++ s)).map b8C by simp]
  exact zJ .mk
 ·rw [if_neg (by decide), if_neg (by decide)] at hdl ⊢
  obtain ⟨d', rfl⟩ : ∃ d', d = d' + 1 := ⟨d - 1, by omega⟩
  have ihd := ih d' rfl
  clear ih
  rw [Nat.add_sub_cancel] at hm
  have hcv : IntKind.u64.wrap ((l.length : Nat) : Int) = ((l.length : Nat) : Int) := tY (by omega)
  have hnm := fun σ => numeral_r _ l.length (Nat.le_refl _) (by omega) σ
  have hnl := numL_l10 (u := l.length) (by omega)
  generalize tR l.length = E at hnm hnl hdl ⊢
  rw [List.length_cons, List.length_append] at hdl
  refine zY (zZ ?_); refine xB ?_; intro _; refine zP ?_; refine zX (zY (zY (zZ ?_))); refine yG ?_; refine zX (zT ?_); refine zY (zZ ?_); refine xY ?_; intro _ _; refine zP ?_; refine zX (yN ?_ ?_) <;> (intro h hp k; (try subst k); (try simp only [q_n] at hp); try first | omega | (cases hp; done));
  refine zY (zZ ?_); refine xY ?_; intro _ _; refine zP ?_; refine zX (yN ?_ ?_) <;> (intro h hp k; (try subst k); (try simp only [q_n] at hp); try first | omega | (cases hp; done));
  refine zW (zY (zZ ?_)); refine qS rfl rfl rfl (by exact yV rfl rfl (by decide) rfl rfl (by (simp only [xC, wU]; rfl))) ?_; intro _; refine yG ?_; refine wH ?_; apply zU; rfl; rfl; rfl; (exact vA rfl rfl rfl hcv); apply zU; rfl; rfl; rfl; (refine yJ ?_; exact hnm _); apply tQ; rfl; rfl; rfl; (apply xG; rfl; rfl; rfl; (intro v'; (exact Upd.here)); (exact .d); (intro y hy; simp only [tC] at hy; (focus (obtain ⟨_, _, rfl⟩ := hy; rfl; done))); (refine wP ?_ (by kernel_rfl); (try simp only [List.length_append, List.length_map, List.length_cons, List.length_nil, List.length_take, List.length_drop]); omega)); intro _; refine zP ?_; refine zX (zY (zY (zZ ?_))); refine zP ?_; refine zX (zT ?_); rotate_left
  all_goals ((repeat (rename BV _ _ => k; first | cases k | clear k)); try exact zN)
  rename Nat => b1; revert b1
  intro b1
  rename Value => v
  refine qD (s' := ⟨[(1, .ptr b1 0), (3, .slv v), (4, .int .i64 0)], .row v 5 1 ([b8C 3] ++ E.map b8C) :: .cells b1 [.int .i64 3, .int .i64 0, .str (pZ []), .dl 4 (l.map vtC)] 160 :: σ, [], Tryz.f154.ntmps⟩) (St.le_of (by repeat (first | exact trivial | refine ⟨rfl, ?_⟩)) (by repeat (first | exact q_r | apply q_q | apply q_k))) ?_
  rw [show [b8C 3] ++ E.map b8C = (3 :: (E ++ vtBs (l.take 0))).map b8C by simp [vtBs]]
  refine yD (fun (z : Nat × Value) => (⟨[(1, .ptr b1 0), (3, .slv z.2), (4, .int .i64 z.1)], .row z.2 5 1 ((3 :: (E ++ vtBs (l.take z.1))).map b8C) :: .cells b1 [.int .i64 3, .int .i64 0, .str (pZ []), .dl 4 (l.map vtC)] 160 :: σ, [], Tryz.f154.ntmps⟩ : St)) (fun z => z.1 ≤ l.length) (fun z => l.length - z.1) (0, v) (Nat.zero_le _) (St.le_of (by repeat (first | exact trivial | refine ⟨rfl, ?_⟩)) (by repeat (first | exact q_r | apply q_q | apply q_k))) ?_
  intro z hI
  obtain ⟨k, w⟩ := z
  dsimp only at hI ⊢
  by_cases hk : k < l.length
  ·obtain ⟨x, hx⟩ : ∃ x, l[k]? = some x := yW hk
   have hg := vt_get hx
   have hxm := List.mem_of_getElem? hx
   have hnx : vtBs (l.take (k + 1)) = vtBs (l.take k) ++ vtB x := by rw [List.take_add_one, hx, vtBs_app]; simp [vtBs]
   have hall : vtBs l = vtBs (l.take k) ++ vtBs (l.drop k) := by rw [← vtBs_app, List.take_append_drop]
   have hbl := vtBs_len hxm
   have htl : (vtBs (l.take k)).length ≤ 100000 := by rw [hall, List.length_append] at hdl; omega
   have hf := fun σ => ihd x (vtsOk_mem hm x hxm) (by omega) σ
   rw [vtC_is] at hf
   have hrow : (3 :: (E ++ vtBs (l.take (k + 1)))).map b8C = (3 :: (E ++ vtBs (l.take k))).map b8C ++ (vtB x).map b8C := by rw [hnx]; simp
   have hCl : (3 :: (E ++ vtBs (l.take k))).length ≤ 200000 := by rw [List.length_cons, List.length_append]; omega
   have hXl : (vtB x).length ≤ 100000 := by omega
   rw [show vtB x = vtB x from rfl] at hf
   generalize vtB x = X at hf hrow hXl
   generalize 3 :: (E ++ vtBs (l.take k)) = C at hrow hCl ⊢
   clear ihd hm hnm hnx hall hbl htl hdl
   refine zY (zY (zZ ?_)); refine zR ?_; refine yG ?_; refine wH ?_; refine zD ?_ ?_ <;> (intro h hp; (try simp only [q_n] at hp); try first | omega | (cases hp; done));
   refine zW (zY (zT ?_)); refine zZ (zR ?_); refine yG ?_; refine zR ?_; refine vG ?_; refine yA ?_; apply zU; rfl; rfl; rfl; (refine yJ ?_; exact hf _); apply tQ; rfl; rfl; rfl; (apply xG; rfl; rfl; rfl; (intro v'; (exact Upd.here)); (exact .d); (intro y hy; simp only [tC] at hy; (focus (obtain ⟨_, _, rfl⟩ := hy; rfl; done))); (refine wP ?_ (by kernel_rfl); (try simp only [List.length_append, List.length_map, List.length_cons, List.length_nil, List.length_take, List.length_drop]); omega)); intro _; refine zP ?_; refine zQ (zZ (zR ?_)); refine vX ?_; refine zP ?_; refine zQ ?_; simp only [zA, zF, zE, zH, yK, ↓reduceIte, Nat.reduceEqDiff]; rotate_left
   all_goals ((repeat (rename BV _ _ => k; first | cases k | clear k)); try exact zN)
   rename Value => w2
   refine ⟨(k + 1, w2), hk, by dsimp only; omega, ?_⟩
   dsimp only
   rw [hrow]
   exact wW
  ·have e : k = l.length := by omega
   subst e
   rw [List.take_length]
   clear ihd hm hnm
   refine zY (zY (zZ ?_)); refine zR ?_; refine yG ?_; refine wH ?_; refine zD ?_ ?_ <;> (intro h hp; (try simp only [q_n] at hp); try first | omega | (cases hp; done));
   refine yQ ?_; refine zY (zZ ?_); refine zR ?_; refine zP ?_; refine zX (zV ?_); simp only [yX]; rotate_left
   all_goals ((repeat (rename BV _ _ => k; first | cases k | clear k)); try exact zN)
   refine xX (σ3 := .row w 5 1 ((3 :: (E ++ vtBs l)).map b8C) :: σ) ?_
   exact vV .here (.here .nil) (zJ .mk)
theorem encode_r : ∀ (d : Nat) (t : Vt), VtOk d t → (vtB t).length ≤ 100000 → ∀ σ : List Ent, SCall Tryz.prog 154 [.agg (vtC t)] σ (Is (bys (vtB t)) σ)
 | 0 => encode_s 0 (fun _ e => by cases e)
 | d + 1 => encode_s (d + 1) (fun d' e => by
   have e2 : d = d' := by omega
   subst e2
   exact encode_r d)
abbrev rfE (b : Nat) (B : List Nat) (a : Nat) (q : Bool) : Ent := .cells b [bys B, .int .i64 a, .bool q] 197
theorem scall_atE {P : Program} {f : FuncId} {args : List AV} {σ : List Ent} {e : Ent} {Q : AV → Ent → Prop} (h : ∀ σ0, SCall P f args (e :: σ0) (fun r τ => ∃ e', Q r e' ∧ τ = e' :: σ0)) {F : Ent → List Ent} (hu : ∀ e', Upd σ e e' (F e')) : SCall P f args σ (fun r τ => ∃ e', Q r e' ∧ τ = F e') := by
 obtain ⟨a, c, h1, h2⟩ := (hu e).split
 have hp : σ.Perm (e :: (a ++ c)) := by rw [h1]; exact List.perm_middle
 refine ⟨fun X M w vs hg ha => ?_⟩
 refine Calls.mono ((h (a ++ c)).run X M w vs (hg.perm hp) ha) ?_
 rintro e0 w' ⟨M', σ', r, v, hm, hg', hr, he, e', h3, h4⟩
 refine ⟨M', F e', r, v, hm, hg'.perm ?_, hr, he, e', h3, rfl⟩
 obtain ⟨a', c', k1, k2⟩ := (hu e').split
 rw [h4, k2]
 have h5 : (e :: (a ++ c)).Perm (e :: (a' ++ c')) := by
  have : (a ++ e :: c).Perm (a' ++ e :: c') := by rw [← h1, ← k1]
  exact List.perm_middle.symm.trans (this.trans List.perm_middle)
 exact ((h5.cons_inv).cons e').trans List.perm_middle.symm
theorem b8_get {B : List Nat} {k x : Nat} (h : B[k]? = some x) : (B.map b8C)[k]? = some (b8C x) := by rw [List.getElem?_map, h]; rfl
theorem next_in (b a x : Nat) (B : List Nat) (hx : B[a]? = some x) (hB : B.length ≤ 100000) (σ : List Ent) : SCall Tryz.prog 168 [.ptr b 0] (rfE b B a false :: σ) (Is (.int .u8 x) (rfE b B (a + 1) false :: σ)) := by
 refine zL Tryz.func168 rfl (by simp) ?_
 have hlt := wD hx
 have hg := b8_get hx
 have h1 : ((a : Nat) : Int) + 1 - 1 = ((a : Nat) : Int) := by omega
 refine zY (zZ ?_); refine zP ?_; refine zX (zY ?_); refine zY (wN rfl rfl (by kernel_rfl) rfl ?_); refine yU rfl (by kernel_rfl) rfl ?_; refine xU ?_; apply yY; rfl; rfl; rfl; (intro σ' hl; (apply zK <;> rfl)); refine vR ?_; refine vW ?_; refine xU ?_; apply yY; rfl; rfl; rfl; (intro σ' hl; (apply zK <;> rfl)); refine vR ?_; refine vW ?_; apply yY; rfl; rfl; rfl; (intro σ' hl; (apply xH; rfl; rfl; (exact (List.length_map _).symm))); refine wBi ?_; intro _ _; refine zC ?_; show EX _ _ _ _ _; refine yN ?_ ?_ <;> (intro h hp k; (try subst k); (try simp only [q_n] at hp); try first | omega | (cases hp; done));
 refine zW (zY (zZ ?_)); refine zR ?_; apply zU; rfl; rfl; rfl; (apply zK <;> rfl); refine yG ?_; refine vX ?_; apply zU; rfl; rfl; rfl; (apply zK <;> rfl); refine uZ ?_; refine yR ?_; refine zX (zY (wN rfl rfl (by kernel_rfl) rfl ?_)); refine yU rfl (by kernel_rfl) rfl ?_; refine xU ?_; apply yY; rfl; rfl; rfl; (intro σ' hl; (apply zK <;> rfl)); refine vR ?_; refine vW ?_; refine xU ?_; apply yY; rfl; rfl; rfl; (intro σ' hl; (apply zK <;> rfl)); refine vR ?_; refine vW ?_; refine wSu ?_; refine wIx ?_; refine vW ?_; refine wAs ?_; refine zC ?_; show EX _ _ _ _ _; refine zV ?_; simp only [yX]; rotate_left
 all_goals ((repeat (rename BV _ _ => k; first | cases k | clear k)); try exact zN)
 refine xX (σ3 := rfE b B (a + 1) false :: σ) ?_
 exact zJ .mk
theorem next_out (b a : Nat) (B : List Nat) (hx : B.length ≤ a) (σ : List Ent) : SCall Tryz.prog 168 [.ptr b 0] (rfE b B a false :: σ) (Is (.int .u8 0) (rfE b B a true :: σ)) := by
 refine zL Tryz.func168 rfl (by simp) ?_
 refine zY (zZ ?_); refine zP ?_; refine zX (zY ?_); refine zY (wN rfl rfl (by kernel_rfl) rfl ?_); refine yU rfl (by kernel_rfl) rfl ?_; refine xU ?_; apply yY; rfl; rfl; rfl; (intro σ' hl; (apply zK <;> rfl)); refine vR ?_; refine vW ?_; refine xU ?_; apply yY; rfl; rfl; rfl; (intro σ' hl; (apply zK <;> rfl)); refine vR ?_; refine vW ?_; apply yY; rfl; rfl; rfl; (intro σ' hl; (apply xH; rfl; rfl; (exact (List.length_map _).symm))); refine wBi ?_; intro _ _; refine zC ?_; show EX _ _ _ _ _; refine yN ?_ ?_ <;> (intro h hp k; (try subst k); (try simp only [q_n] at hp); try first | omega | (cases hp; done));
 refine zY (zZ ?_); refine zR ?_; apply zU; rfl; rfl; rfl; (apply zK <;> rfl); refine uZ ?_; refine yR ?_; refine zX (zY (zZ ?_)); refine zP ?_; refine zX (zV ?_); simp only [yX]; rotate_left
 all_goals ((repeat (rename BV _ _ => k; first | cases k | clear k)); try exact zN)
 refine xX (σ3 := rfE b B a true :: σ) ?_
 exact zJ .mk
theorem drop_cons {B : List Nat} {a x : Nat} (h : B[a]? = some x) : B.drop a = x :: B.drop (a + 1) := by
 have hlt := wD h
 rw [List.drop_eq_getElem_cons hlt]
 rw [List.getElem?_eq_getElem hlt] at h
 cases h; rfl
def RnQ (b : Nat) (B : List Nat) (a : Nat) : AV → Ent → Prop := fun r e' => (∃ u a', a' ≤ B.length ∧ vU 0 (B.drop a) = some (u, B.drop a') ∧ r = .int .u64 u ∧ e' = rfE b B a' false) ∨ (vU 0 (B.drop a) = none ∧ ∃ a', a' ≤ B.length ∧ r = .int .u64 (0 : Nat) ∧ e' = rfE b B a' true)
theorem number_r (b a : Nat) (B : List Nat) (ha : a ≤ B.length) (hb8 : ∀ x ∈ B, x < 256) (hB : B.length ≤ 1000) (σ : List Ent) : SCall Tryz.prog 169 [.ptr b 0] (rfE b B a false :: σ) (fun r τ => ∃ e', RnQ b B a r e' ∧ τ = e' :: σ) := by
 refine zL Tryz.func169 rfl (by simp) ?_
 obtain ⟨N, hN⟩ : ∃ N, vU 0 (B.drop a) = N := ⟨_, rfl⟩
 unfold RnQ
 rw [hN]
 refine zY (zZ ?_); refine zP ?_; refine zX (zY (zZ ?_)); refine zP ?_; refine zX (zY (zY (zZ ?_))); refine zP ?_; refine zX (zT ?_); rotate_left
 all_goals ((repeat (rename BV _ _ => k; first | cases k | clear k)); try exact zN)
 refine yD (fun (z : Nat × Nat × Nat) => (⟨[(0, .ptr b 0), (3, .int .u64 z.2.2), (4, .int .i64 z.1)], rfE b B z.2.1 false :: σ, [], Tryz.f169.ntmps⟩ : St)) (fun z => (z.1 ≤ 9 ∧ z.2.2 < 2 ^ (7 * z.1) ∧ z.2.1 ≤ B.length) ∧ N = (vU z.1 (B.drop z.2.1)).map fun p => (z.2.2 + p.1 * 2 ^ (7 * z.1), p.2)) (fun z => B.length - z.2.1) (0, a, 0) (⟨⟨by omega, by simp, ha⟩, by rw [← hN]; simp only [Nat.mul_zero, Nat.pow_zero, Nat.mul_one, Nat.zero_add]; cases vU 0 (B.drop a) <;> rfl⟩) (St.le_of (by repeat (first | exact trivial | refine ⟨rfl, ?_⟩)) (by repeat (first | exact q_r | apply q_q | apply q_k))) ?_
 intro z hI
 obtain ⟨i, e, n⟩ := z
 obtain ⟨⟨hI1, hI2, hI3⟩, hI5⟩ := hI
 dsimp only at hI1 hI2 hI3 hI5 ⊢
 clear hN ha
 by_cases hlt : e < B.length
 ·obtain ⟨c, hcx⟩ : ∃ c, B[e]? = some c := yW hlt
  have hc : c < 256 := hb8 c (List.mem_of_getElem? hcx)
  rw [drop_cons hcx] at hI5
  have hnx := fun {σ σ' : List Ent} (h : Upd σ (rfE b B e false) (rfE b B (e + 1) false) σ') => scall_updI (next_in b e c B hcx (by omega)) h
  clear hb8
  obtain ⟨p, hp2⟩ : ∃ p, 2 ^ (7 * i) = p := ⟨_, rfl⟩
  have hp3 : 2 ^ (7 * (i + 1)) = 128 * p := by rw [← hp2, show 7 * (i + 1) = 7 + 7 * i by omega, Nat.pow_add]
  have hpl : p ≤ 9223372036854775808 := by
   rw [← hp2]
   have h1 : 2 ^ (7 * i) ≤ 2 ^ 63 := Nat.pow_le_pow_right (by omega) (by omega)
   omega
  obtain ⟨X, hX⟩ : ∃ X, c % 128 * 2 ^ (7 * i) = X := ⟨_, rfl⟩
  have hXl : (i < 9 ∨ c ≤ 1) → X < 18446744073709551616 := fun h => hX ▸ shl_fits hc h hI1
  have hXle : X ≤ 127 * p := by rw [← hX, hp2]; exact Nat.mul_le_mul (by omega) (Nat.le_refl _)
  have hX9 : i = 9 → c ≤ 1 → X ≤ p := fun _ h => by
   rw [← hX, hp2]
   have := Nat.mul_le_mul_right p (show c % 128 ≤ 1 by omega)
   omega
  have hX8 : i < 9 → 128 * p ≤ 9223372036854775808 := fun h => by
   rw [← hp3]
   have h1 : 2 ^ (7 * (i + 1)) ≤ 2 ^ 63 := Nat.pow_le_pow_right (by omega) (by omega)
   omega
  have hbad : ¬ ((i = 0 ∨ c ≠ 0) ∧ (i < 9 ∨ c ≤ 1)) → N = none := fun h => by rw [hI5, vU, if_neg h]; rfl
  have hfin : c < 128 → (i = 0 ∨ c ≠ 0) → (i < 9 ∨ c ≤ 1) → N = some (n + X, B.drop (e + 1)) := fun h1 h2 h3 => by
   rw [hI5, vU, if_pos ⟨h2, h3⟩, if_pos h1, ← hX, Nat.mod_eq_of_lt h1]; rfl
  have hnext : ¬ c < 128 → (i = 0 ∨ c ≠ 0) → (i < 9 ∨ c ≤ 1) → N = (vU (i + 1) (B.drop (e + 1))).map fun q => (n + X + q.1 * 2 ^ (7 * (i + 1)), q.2) := fun h1 h2 h3 => by
   rw [hI5, vU, if_pos ⟨h2, h3⟩, if_neg h1, Option.map_map]
   congr 1
   funext q
   show (n + (c - 128 + 128 * q.1) * 2 ^ (7 * i), q.2) = _
   rw [hp3, hp2, Nat.add_mul, ← hX, hp2, show c % 128 = c - 128 by omega, Nat.add_assoc, show 128 * q.1 * p = q.1 * (128 * p) by rw [Nat.mul_comm 128 q.1, Nat.mul_assoc]]
  have h128 : (128 : Int) = ((128 : Nat) : Int) := rfl
  have h7i : (7 : Int) * (i : Int) = ((7 * i : Nat) : Int) := by omega
  have hcv : IntKind.u64.wrap ((c % 128 : Nat) : Int) = ((c % 128 : Nat) : Int) := tY (by omega)
  have hadd : (i < 9 ∨ c ≤ 1) → IntKind.u64.wrap ((n : Int) + (X : Int)) = ((n + X : Nat) : Int) := fun h => by
   rw [show (n : Int) + (X : Int) = ((n + X : Nat) : Int) by omega]
   refine tY ?_
   by_cases h9 : i < 9
   ·have := hX8 h9; omega
   ·have := hX9 (by omega) (by omega); omega
  rw [hp2] at hI2
  clear hI5 hp2 hX9 hX8
  refine zY (zY (zZ ?_)); refine zR ?_; apply zU; rfl; rfl; rfl; (apply zK <;> rfl); refine yG ?_; refine qY ?_; intro _ _; refine zX (yN ?_ ?_) <;> (intro h hp k; (try subst k); (try simp only [q_n] at hp); try first | omega | (cases hp; done));
  refine zW (zY (zT ?_)); refine zY (zZ ?_); refine zR ?_; apply zU; rfl; rfl; rfl; (refine yJ ?_; exact hnx (by (exact Upd.here))); refine zP ?_; refine zX (zY (zY (zZ ?_))); refine zR ?_; refine xY ?_; intro _ _; refine zR ?_; refine xT ?_ ?_ <;> (intro h hp k; (try subst k); (try simp only [q_n] at hp); try first | omega | (cases hp; done));
  refine vN ?_; refine wT ?_; intro _ _; refine xF ?_; refine zR ?_; refine xT ?_ ?_ <;> (intro h hp k; (try subst k); (try simp only [q_n] at hp); try first | omega | (cases hp; done));
  (iterate 3 refine yC ?_); (iterate 2 refine xSr ?_); refine yC ?_; refine xF ?_; refine zX (zG rfl (by rfl) ?_); refine zY (zZ ?_); refine zR ?_; apply zU; rfl; rfl; rfl; (apply zK <;> rfl); refine uZ ?_; refine yR ?_; refine zX (zY (zZ ?_)); refine zP ?_; refine zX (zV ?_); simp only [yX]; rotate_left; refine vN ?_; refine wT ?_; intro _ _; refine vN ?_; refine xT ?_ ?_ <;> (intro h hp k; (try subst k); (try simp only [q_n] at hp); try first | omega | (cases hp; done));
  refine vN ?_; refine wT ?_; intro _ _; refine yPt ?_; refine yB ?_; refine zX (yN ?_ ?_) <;> (intro h hp k; (try subst k); (try simp only [q_n] at hp); try first | omega | (cases hp; done));
  refine zY (zZ ?_); refine zR ?_; apply zU; rfl; rfl; rfl; (apply zK <;> rfl); refine uZ ?_; refine yR ?_; refine zX (zY (zZ ?_)); refine zP ?_; refine zX (zV ?_); simp only [yX]; rotate_left; refine zW (zY (zZ ?_)); (iterate 2 refine zR ?_); apply zU; rfl; rfl; rfl; (apply g_remP; rfl; rfl; exact ⟨by omega, by omega⟩); apply zU; rfl; rfl; rfl; (exact vA rfl rfl rfl hcv); refine zR ?_; apply zU; rfl; rfl; rfl; (apply g_mul; rfl; rfl; rfl; exact ⟨by omega, by omega⟩); apply zU; rfl; rfl; rfl; (exact g_shlU rfl rfl rfl h7i (by omega) hX (hXl (by omega))); apply zU; rfl; rfl; rfl; (apply wG <;> rfl); refine zP ?_; refine zX (zY (zZ ?_)); refine zR ?_; refine zD ?_ ?_ <;> (intro h hp; (try simp only [q_n] at hp); try first | omega | (cases hp; done));
  refine zY (zZ ?_); refine zR ?_; refine zP ?_; refine zX (zV ?_); simp only [yX]; rotate_left; (iterate 2 refine yC ?_); refine yB ?_; refine zR ?_; refine vN ?_; refine wT ?_; intro _ _; refine vN ?_; refine xT ?_ ?_ <;> (intro h hp k; (try subst k); (try simp only [q_n] at hp); try first | omega | (cases hp; done));
  refine vN ?_; refine wT ?_; intro _ _; refine yPt ?_; refine yB ?_; refine zX (yN ?_ ?_) <;> (intro h hp k; (try subst k); (try simp only [q_n] at hp); try first | omega | (cases hp; done));
  refine zY (zZ ?_); refine zR ?_; apply zU; rfl; rfl; rfl; (apply zK <;> rfl); refine uZ ?_; refine yR ?_; refine zX (zY (zZ ?_)); refine zP ?_; refine zX (zV ?_); simp only [yX]; rotate_left; refine zW (zY (zZ ?_)); (iterate 2 refine zR ?_); apply zU; rfl; rfl; rfl; (apply g_remP; rfl; rfl; exact ⟨by omega, by omega⟩); apply zU; rfl; rfl; rfl; (exact vA rfl rfl rfl hcv); refine zR ?_; apply zU; rfl; rfl; rfl; (apply g_mul; rfl; rfl; rfl; exact ⟨by omega, by omega⟩); apply zU; rfl; rfl; rfl; (exact g_shlU rfl rfl rfl h7i (by omega) hX (hXl (by omega))); apply zU; rfl; rfl; rfl; (apply wG <;> rfl); refine zP ?_; refine zX (zY (zZ ?_)); refine zR ?_; refine zD ?_ ?_ <;> (intro h hp; (try simp only [q_n] at hp); try first | omega | (cases hp; done));
  refine zY (zZ ?_); refine zR ?_; refine zP ?_; refine zX (zV ?_); simp only [yX]; rotate_left; refine zW (zZ (zR ?_)); refine vX ?_; refine zP ?_; refine zQ ?_; simp only [zA, zF, zE, zH, yK, ↓reduceIte, Nat.reduceEqDiff]; rotate_left; (iterate 2 refine yC ?_); refine yPf ?_; refine yB ?_; refine zX (yH rfl (by rfl) ?_); refine zW (zY (zZ ?_)); (iterate 2 refine zR ?_); apply zU; rfl; rfl; rfl; (apply g_remP; rfl; rfl; exact ⟨by omega, by omega⟩); apply zU; rfl; rfl; rfl; (exact vA rfl rfl rfl hcv); refine zR ?_; apply zU; rfl; rfl; rfl; (apply g_mul; rfl; rfl; rfl; exact ⟨by omega, by omega⟩); apply zU; rfl; rfl; rfl; (exact g_shlU rfl rfl rfl h7i (by omega) hX (hXl (by omega))); apply zU; rfl; rfl; rfl; (apply wG <;> rfl); refine zP ?_; refine zX (zY (zZ ?_)); refine zR ?_; refine zD ?_ ?_ <;> (intro h hp; (try simp only [q_n] at hp); try first | omega | (cases hp; done));
  refine zY (zZ ?_); refine zR ?_; refine zP ?_; refine zX (zV ?_); simp only [yX]; rotate_left; refine zW (zZ (zR ?_)); refine vX ?_; refine zP ?_; refine zQ ?_; simp only [zA, zF, zE, zH, yK, ↓reduceIte, Nat.reduceEqDiff]; rotate_left
  all_goals ((repeat (rename BV _ _ => k; first | cases k | clear k)); try exact zN)
  all_goals
   by_cases hgd : (i = 0 ∨ c ≠ 0) ∧ (i < 9 ∨ c ≤ 1)
   ·have hw := hadd hgd.2
    by_cases hlo : c < 128
    ·(try (exfalso; omega))
     all_goals
      have hf := hfin hlo hgd.1 hgd.2
      clear hnx hfin hnext hadd hbad
      rw [hw]
      refine xX (σ3 := rfE b B (e + 1) false :: σ) ?_
      exact zJ ⟨_, .inl ⟨_, e + 1, hlt, hf, rfl, rfl⟩, rfl⟩
    ·(try (exfalso; omega))
     all_goals
      have hgo := hnext hlo hgd.1 hgd.2
      clear hnx hfin hnext hadd hbad
      rw [hw]
      refine ⟨(i + 1, e + 1, n + X), ⟨⟨by dsimp only; omega, by dsimp only; omega, hlt⟩, hgo⟩, by dsimp only; omega, ?_⟩
      exact wW
   ·have hn := hbad hgd
    (try (exfalso; omega))
    all_goals
     clear hnx hfin hnext hadd hbad
     refine xX (σ3 := rfE b B (e + 1) true :: σ) ?_
     exact zJ ⟨_, .inr ⟨hn, e + 1, hlt, rfl, rfl⟩, rfl⟩
 ·have he : e = B.length := by omega
  subst he
  have hn : N = none := by rw [hI5, List.drop_length, vU]; rfl
  have hnx := fun {σ σ' : List Ent} (h : Upd σ (rfE b B B.length false) (rfE b B B.length true) σ') => scall_updI (next_out b B.length B (Nat.le_refl _)) h
  clear hb8 hI5
  by_cases hi0 : i = 0
  ·subst hi0
   have hn0 : n = 0 := by simp at hI2; exact hI2
   subst hn0
   have h0 : (0 : Int) = ((0 : Nat) : Int) := rfl
   have h128 : (128 : Int) = ((128 : Nat) : Int) := rfl
   have h7i : (7 : Int) * ((0 : Nat) : Int) = ((0 : Nat) : Int) := rfl
   have hcv : IntKind.u64.wrap ((0 % 128 : Nat) : Int) = ((0 : Nat) : Int) := rfl
   refine zY (zY (zZ ?_)); refine zR ?_; apply zU; rfl; rfl; rfl; (apply zK <;> rfl); refine yG ?_; refine qY ?_; intro _ _; refine zX (yN ?_ ?_) <;> (intro h hp k; (try subst k); (try simp only [q_n] at hp); try first | omega | (cases hp; done));
   refine zW (zY (zT ?_)); refine zY (zZ ?_); refine zR ?_; apply zU; rfl; rfl; rfl; (refine yJ ?_; exact hnx (by (exact Upd.here))); refine zP ?_; refine zX (zY (zY (zZ ?_))); refine zR ?_; refine xY ?_; intro _ _; refine zR ?_; refine xT ?_ ?_ <;> (intro h hp k; (try subst k); (try simp only [q_n] at hp); try first | omega | (cases hp; done));
   (iterate 2 refine yC ?_); refine yB ?_; refine zR ?_; refine vN ?_; refine wT ?_; intro _ _; refine vN ?_; refine xT ?_ ?_ <;> (intro h hp k; (try subst k); (try simp only [q_n] at hp); try first | omega | (cases hp; done));
   (iterate 2 refine yC ?_); refine yPf ?_; refine yB ?_; refine zX (yH rfl (by rfl) ?_); refine zW (zY (zZ ?_)); (iterate 2 refine zR ?_); apply zU; rfl; rfl; rfl; (apply g_remP; rfl; rfl; exact ⟨by omega, by omega⟩); apply zU; rfl; rfl; rfl; (exact vA rfl rfl rfl hcv); refine zR ?_; apply zU; rfl; rfl; rfl; (apply g_mul; rfl; rfl; rfl; exact ⟨by omega, by omega⟩); apply zU; rfl; rfl; rfl; (exact g_shlU rfl rfl rfl h7i (by omega) (show 0 * 2 ^ 0 = 0 from rfl) (by omega)); apply zU; rfl; rfl; rfl; (apply wG <;> rfl); refine zP ?_; refine zX (zY (zZ ?_)); refine zR ?_; refine zD ?_ ?_ <;> (intro h hp; (try simp only [q_n] at hp); try first | omega | (cases hp; done));
   refine zY (zZ ?_); refine zR ?_; refine zP ?_; refine zX (zV ?_); simp only [yX]; rotate_left
   all_goals ((repeat (rename BV _ _ => k; first | cases k | clear k)); try exact zN)
   refine xX (σ3 := rfE b B B.length true :: σ) ?_
   exact zJ ⟨_, .inr ⟨hn, _, Nat.le_refl _, rfl, rfl⟩, rfl⟩
  ·have hip : decide (((i : Nat) : Int) > 0) = true := decide_eq_true (by omega)
   refine zY (zY (zZ ?_)); refine zR ?_; apply zU; rfl; rfl; rfl; (apply zK <;> rfl); refine yG ?_; refine qY ?_; intro _ _; refine zX (yN ?_ ?_) <;> (intro h hp k; (try subst k); (try simp only [q_n] at hp); try first | omega | (cases hp; done));
   refine zW (zY (zT ?_)); refine zY (zZ ?_); refine zR ?_; apply zU; rfl; rfl; rfl; (refine yJ ?_; exact hnx (by (exact Upd.here))); refine zP ?_; refine zX (zY (zY (zZ ?_))); refine zR ?_; refine xY ?_; intro _ _; refine zR ?_; refine xT ?_ ?_ <;> (intro h hp k; (try subst k); (try simp only [q_n] at hp); try first | omega | (cases hp; done));
   refine vN ?_; refine wT ?_; intro _ _; refine xF ?_; refine zR ?_; refine xT ?_ ?_ <;> (intro h hp k; (try subst k); (try simp only [q_n] at hp); try first | omega | (cases hp; done));
   refine vN ?_; refine wT ?_; intro _ _; refine vN ?_; refine xT ?_ ?_ <;> (intro h hp k; (try subst k); (try simp only [q_n] at hp); try first | omega | (cases hp; done));
   refine vN ?_; refine wT ?_; intro _ _; refine yPt ?_; refine yB ?_; refine zX (yN ?_ ?_) <;> (intro h hp k; (try subst k); (try simp only [q_n] at hp); try first | omega | (cases hp; done));
   refine zY (zZ ?_); refine zR ?_; apply zU; rfl; rfl; rfl; (apply zK <;> rfl); refine uZ ?_; refine yR ?_; refine zX (zY (zZ ?_)); refine zP ?_; refine zX (zV ?_); simp only [yX]; rotate_left; (iterate 2 refine yC ?_); refine yB ?_; refine zR ?_; refine vN ?_; refine wT ?_; intro _ _; refine vN ?_; refine xT ?_ ?_ <;> (intro h hp k; (try subst k); (try simp only [q_n] at hp); try first | omega | (cases hp; done));
   refine vN ?_; refine wT ?_; intro _ _; refine yPt ?_; refine yB ?_; refine zX (yN ?_ ?_) <;> (intro h hp k; (try subst k); (try simp only [q_n] at hp); try first | omega | (cases hp; done));
   refine zY (zZ ?_); refine zR ?_; apply zU; rfl; rfl; rfl; (apply zK <;> rfl); refine uZ ?_; refine yR ?_; refine zX (zY (zZ ?_)); refine zP ?_; refine zX (zV ?_); simp only [yX]; rotate_left
   all_goals ((repeat (rename BV _ _ => k; first | cases k | clear k)); try exact zN)
   all_goals
    refine xX (σ3 := rfE b B B.length true :: σ) ?_
    exact zJ ⟨_, .inr ⟨hn, _, Nat.le_refl _, rfl, rfl⟩, rfl⟩
end Go.Proofs.YtkhoengjdfmfaaaGreat
