/- Parts of the proof that belong together: Vc Vd Tl Ve Vf Wa. -/
import Derived.Test.YtkhoengjdfmfaaaGreatGC04
import Derived.Test.YtkhoengjdfmfaaaGreatGC05
import Derived.Test.YtkhoengjdfmfaaaGreatGC09
set_option maxRecDepth 10000
set_option linter.unusedSimpArgs false
set_option linter.unusedVariables false
namespace Go.Proofs.YtkhoengjdfmfaaaGreat
abbrev rdE (b : Nat) (D : List Nat) : Ent := .cells b [bys D] 185
/-- What is said of an entry's change, wherever it stands. -/
theorem scall_updI {P : Program} {f : FuncId} {args : List AV} {σ σ' : List Ent} {e e' : Ent} {r : AV} (h : ∀ σ0, SCall P f args (e :: σ0) (Is r (e' :: σ0))) (hu : Upd σ e e' σ') : SCall P f args σ (Is r σ') := by
  obtain ⟨a, c, h1, h2⟩ := hu.split
  have hp : σ.Perm (e :: (a ++ c)) := by rw [h1]; exact List.perm_middle
  refine ⟨fun X M w vs hg ha => ?_⟩
  refine Calls.mono ((h (a ++ c)).run X M w vs (hg.perm hp) ha) ?_
  rintro e0 w' ⟨M', τ, r', v, hm, hg', hr, he, hR⟩
  cases hR
  refine ⟨M', σ', r, v, hm, hg'.perm ?_, hr, he, .mk⟩
  rw [h2]
  exact List.perm_middle.symm
theorem g_slice3M {ro : Option Nat} {P : Program} {dst : Option Tmp} {ty : TypeId} {pos : String} {after : Array Edge} {guard : Option (Nat × Bool)} {env : Env} {σ : List Ent} {α : Type} {f : α → List AV} {t e : TypeId} {sz k : Nat} {x hi mx : Operand} {L : List α} {hj mj : Int} (ht : elemOf P t = some (e, sz)) (hx : evA env x = some (.dl sz (L.map f))) (hhi : boundA env 0 (some hi) = some hj) (hmx : boundA env 0 (some mx) = some mj) (hh : hj = (k : Int)) (hm : mj = (k : Int)) (hk : k ≤ L.length) :
    GOp P ro ⟨dst, .slice t x none (some hi) (some mx), ty, pos, after, guard⟩ env σ (Is (.dl sz ((L.take k).map f)) σ) := by
  rw [List.map_take]
  exact g_slice3D ht hx hhi hmx hh hm (by rw [List.length_map]; exact hk)
theorem want_c (p : AV) (σ : List Ent) : SCall Tryz.prog 148 [p, .bool true] σ (Is (.tup []) σ) := by
  refine scall_of Tryz.func148 rfl (by simp) ?_
  refine zX (zZ ?_); refine xMv rfl rfl rfl rfl ?_; apply exl_isB; rfl; rfl; rfl; (apply g_not; rfl); intro _ _; refine zY ?_; refine zU rfl (fun h => ?_) (fun h => ?_) <;> ((first | (subst h; rename BV _ true => g; have h := g.eq; clear g) | (subst h; rename BV _ false => g; have h := g.eq; clear g) | skip); (have hp := h; try simp only [q_n] at hp); (try (exfalso; first | omega | (cases hp; done))));
  refine zG ?_; simp only [zD, zK, zJ, zT, retA, ↓reduceIte, Nat.reduceEqDiff]; rotate_left
  (all_goals (repeat (rename BV _ _ => hbv; cases hbv)))
  all_goals (try (first | cases ‹true = false› | cases ‹false = true›))
  refine ret_q (σ3 := σ) .nil ((by repeat (first | exact Res.nil | (apply Res.cons; (first | (apply Res1.ofTmp; rfl) | (apply Res1.ofCell; rfl; rfl; (first | exact .e rfl | exact .p (by (repeat first | exact q_h | apply q_t | assumption); done) rfl | exact .r (by (repeat first | exact q_h | apply q_t | assumption); done) rfl)) | (apply Res1.ofAgg; rfl; rfl; decide; (first | exact .e rfl rfl | exact .p (by (repeat first | exact q_h | apply q_t | assumption); done) rfl rfl | exact .r (by (repeat first | exact q_h | apply q_t | assumption); done) rfl rfl))))))) (by repeat (first | exact q_r | apply q_q | apply q_k | exact q_a)) ?_
  exact fin_done .mk
set_option maxHeartbeats 4000000 in
theorem take_c (b n : Nat) (D : List Nat) (hn : n ≤ D.length) (hD : D.length ≤ 100000) (σ : List Ent) :
    SCall Tryz.prog 158 [.ptr b 0, .int .i64 n] (rdE b D :: σ) (Is (bys (D.take n)) (rdE b (D.drop n) :: σ)) := by
  refine scall_of Tryz.func158 rfl (by simp) ?_
  have hle : decide ((n : Int) ≤ (D.length : Int)) = true := decide_eq_true (by omega)
  have hw : ∀ p σ, SCall Tryz.prog 148 [p, .bool (decide ((n : Int) ≤ (D.length : Int)))] σ (Is (.tup []) σ) := by rw [hle]; exact want_c
  refine zX (zZ ?_); refine xAs rfl rfl rfl rfl ?_; refine zY ?_; refine zX (zZ ?_); refine xMv rfl rfl rfl rfl ?_; refine xMv rfl rfl rfl rfl ?_; refine xMv rfl rfl rfl rfl ?_; apply zV; rfl; rfl; rfl; (apply g_nilCheck; rfl; rfl); refine xFa rfl rfl rfl rfl rfl rfl ?_; refine xLd rfl rfl rfl rfl rfl (.p (by (repeat first | exact q_h | apply q_t | assumption); done) rfl) ?_; apply zV; rfl; rfl; rfl; (apply g_len; rfl; rfl; (exact (List.length_map _).symm)); refine xBi rfl rfl rfl rfl rfl rfl ?_; intro _ _; rotate_left
  (all_goals (repeat (rename BV _ _ => hbv; cases hbv)))
  all_goals (try (first | cases ‹true = false› | cases ‹false = true›))
  refine zV rfl rfl rfl (yX rfl rfl (zQ (by kernel_rfl)) (hw _ _)) ?_
  refine zY ?_; refine zX (zZ ?_); refine xMv rfl rfl rfl rfl ?_; apply zV; rfl; rfl; rfl; (apply g_nilCheck; rfl; rfl); refine xFa rfl rfl rfl rfl rfl rfl ?_; refine xLd rfl rfl rfl rfl rfl (.p (by (repeat first | exact q_h | apply q_t | assumption); done) rfl) ?_; refine xMv rfl rfl rfl rfl ?_; refine xMv rfl rfl rfl rfl ?_; apply zV; rfl; rfl; rfl; (exact g_slice3M rfl rfl rfl rfl rfl rfl hn); refine xAs rfl rfl rfl rfl ?_; refine zY ?_; refine zX (zZ ?_); refine xMv rfl rfl rfl rfl ?_; refine xMv rfl rfl rfl rfl ?_; apply zV; rfl; rfl; rfl; (apply g_nilCheck; rfl; rfl); refine xFa rfl rfl rfl rfl rfl rfl ?_; refine xLd rfl rfl rfl rfl rfl (.p (by (repeat first | exact q_h | apply q_t | assumption); done) rfl) ?_; refine xMv rfl rfl rfl rfl ?_; apply zV; rfl; rfl; rfl; (apply g_sliceLo; rfl; rfl; rfl; (rfl); omega); apply zV; rfl; rfl; rfl; (apply g_nilCheck; rfl; rfl); refine xFa rfl rfl rfl rfl rfl rfl ?_; apply yY; rfl; rfl; (apply zL; rfl; rfl; rfl; (exact Upd.here); (simp only [setL, q_z, AV.cells]; rfl); rfl; rfl; rfl; exact q_b rfl); refine zY ?_; refine zX (zZ ?_); refine xMv rfl rfl rfl rfl ?_; refine xAs rfl rfl rfl rfl ?_; refine zY ?_; refine yV ?_; simp only [zD, zK, zJ, zT, retA, ↓reduceIte, Nat.reduceEqDiff]; rotate_left
  (all_goals (repeat (rename BV _ _ => hbv; cases hbv)))
  all_goals (try (first | cases ‹true = false› | cases ‹false = true›))
  refine ret_q (σ3 := rdE b (D.drop n) :: σ) .nil (.cons (.ofTmp rfl) .nil) (by repeat (first | exact q_r | apply q_q | apply q_k | exact q_a)) ?_
  exact fin_done .mk
theorem take_at {b n : Nat} {D : List Nat} (hn : n ≤ D.length) (hD : D.length ≤ 100000) {σ σ' : List Ent} (hu : Upd σ (rdE b D) (rdE b (D.drop n)) σ') :
    SCall Tryz.prog 158 [.ptr b 0, .int .i64 n] σ (Is (bys (D.take n)) σ') := scall_updI (take_c b n D hn hD) hu
theorem take1_at {b x : Nat} {D : List Nat} (hD : D.length ≤ 90000) {σ σ' : List Ent} (hu : Upd σ (rdE b (x :: D)) (rdE b D) σ') :
    SCall Tryz.prog 158 [.ptr b 0, .int .i64 1] σ (Is (bys [x]) σ') := take_at (n := 1) (D := x :: D) (by simp) (by simp; omega) hu
set_option maxHeartbeats 4000000 in
theorem signed_c (n : Nat) (hn : n ≤ 1073741824) (σ : List Ent) : SCall Tryz.prog 159 [.int .u64 ((2 * n : Nat) : Int)] σ (Is (.int .i64 n) σ) := by
  refine scall_of Tryz.func159 rfl (by simp) ?_
  have hone : (1 : Int) = ((1 : Nat) : Int) := rfl
  have h1 : IntKind.i64.wrap ((n : Nat) : Int) = ((n : Nat) : Int) := by rw [IntKind.wrap_i64]; omega
  have h0 : IntKind.i64.wrap ((0 : Nat) : Int) = ((0 : Nat) : Int) := by rw [IntKind.wrap_i64]; omega
  have hz : (2 * n) &&& 1 = 0 := by rw [Nat.and_one_is_mod]; omega
  have hx : n ^^^ 0 = n := Nat.xor_zero _
  refine zX (zZ ?_); refine xAs rfl rfl rfl rfl ?_; refine zY ?_; refine zX (zZ ?_); refine xMv rfl rfl rfl rfl ?_; apply zV; rfl; rfl; rfl; (exact g_shrU rfl rfl rfl hone (by omega) (show 2 * n / 2 ^ 1 = n by omega)); apply zV; rfl; rfl; rfl; (apply g_conv64; rfl; rfl; rfl; exact ⟨by omega, by omega⟩); refine xMv rfl rfl rfl rfl ?_; apply zV; rfl; rfl; rfl; (exact g_andU rfl rfl rfl hone (by omega) (by omega) hz); apply zV; rfl; rfl; rfl; (apply g_conv64; rfl; rfl; rfl; exact ⟨by omega, by omega⟩); apply zV; rfl; rfl; rfl; (apply g_neg; rfl; rfl; exact ⟨by omega, by omega⟩); apply zV; rfl; rfl; rfl; (exact hx ▸ g_xorN rfl rfl (n := 0) rfl (by rfl) (by omega) (by omega)); refine xAs rfl rfl rfl rfl ?_; refine zY ?_; refine yV ?_; simp only [zD, zK, zJ, zT, retA, ↓reduceIte, Nat.reduceEqDiff]; rotate_left
  (all_goals (repeat (rename BV _ _ => hbv; cases hbv)))
  all_goals (try (first | cases ‹true = false› | cases ‹false = true›))
  refine ret_is .nil (.cons (.ofTmp rfl) .nil) (by repeat (first | exact q_r | apply q_q | apply q_k | exact q_a)) ?_
  rfl
theorem want_q (p : AV) {q : Bool} (hq : q = true) (σ : List Ent) : SCall Tryz.prog 148 [p, .bool q] σ (Is (.tup []) σ) := by subst hq; exact want_c p σ
set_option maxHeartbeats 8000000 in
theorem number_c (b u0 : Nat) (D : List Nat) (hu : u0 < 34359738368) (hD : D.length ≤ 80000) (σ : List Ent) :
    SCall Tryz.prog 160 [.ptr b 0] (rdE b (numL u0 ++ D) :: σ) (Is (.int .u64 u0) (rdE b D :: σ)) := by
  refine scall_of Tryz.func160 rfl (by simp) ?_
  refine zX (zZ ?_); refine xAs rfl rfl rfl rfl ?_; refine zY ?_; refine zX (zZ ?_); refine xAs rfl rfl rfl rfl ?_; refine zY ?_; refine yZ ?_; rotate_left
  (all_goals (repeat (rename BV _ _ => hbv; cases hbv)))
  all_goals (try (first | cases ‹true = false› | cases ‹false = true›))
  refine ex_loop (fun (z : Nat × Nat × Nat) => (⟨[(0, .ptr b 0), (2, .int .u64 z.2.2), (3, .int .i64 z.1)], rdE b (numL z.2.1 ++ D) :: σ, [], Tryz.f160.ntmps⟩ : St)) (fun z => z.1 ≤ 4 ∧ z.2.1 = u0 / 2 ^ (7 * z.1) ∧ z.2.2 = u0 % 2 ^ (7 * z.1) ∧ (z.1 = 0 ∨ 0 < z.2.1)) (fun z => 5 - z.1) (0, u0, 0) (⟨by omega, by simp, by simp [Nat.mod_one], .inl rfl⟩) (St.le_of (by repeat (first | exact trivial | refine ⟨rfl, ?_⟩)) (by repeat (first | exact q_r | apply q_q | apply q_k))) ?_
  intro z hI
  obtain ⟨i, u, r⟩ := z
  obtain ⟨hI1, hI2, hI3, hI4⟩ := hI
  dsimp only at hI1 hI2 hI3 hI4 ⊢
  have hp28 : 2 ^ (7 * i) ≤ 2 ^ 28 := Nat.pow_le_pow_right (by omega) (by omega)
  have hpos : 0 < 2 ^ (7 * i) := Nat.two_pow_pos _
  have hr : r < 2 ^ (7 * i) := by rw [hI3]; exact Nat.mod_lt _ hpos
  obtain ⟨X, hX⟩ : ∃ X, u % 128 * 2 ^ (7 * i) = X := ⟨_, rfl⟩
  have hXl : X < 18446744073709551616 := by
    have h1 : u % 128 * 2 ^ (7 * i) ≤ 127 * 2 ^ 28 := Nat.mul_le_mul (by omega) hp28
    omega
  have hor : r ||| X = u0 % 2 ^ (7 * (i + 1)) := by
    have h1 := or_add (c := u % 128) hr
    rw [Nat.shiftLeft_eq, hX] at h1
    have h2 := mod_step u0 i
    rw [← hI2, ← hI3, hX] at h2
    rw [h1, h2]
  have h127 : (127 : Int) = ((127 : Nat) : Int) := rfl
  have h7i : (7 : Int) * (i : Int) = ((7 * i : Nat) : Int) := by omega
  have hand : ∀ c : Nat, c &&& 127 = c % 128 := fun c => Nat.and_two_pow_sub_one_eq_mod (n := 7) c
  have hcv : IntKind.u64.wrap ((u % 128 : Nat) : Int) = ((u % 128 : Nat) : Int) := wrapU64 (by omega)
  have hr2 : r < 18446744073709551616 := by omega
  by_cases hw : u < 128
  · have hend : u0 % 2 ^ (7 * (i + 1)) = u0 := by
      refine Nat.mod_eq_of_lt ?_
      rw [show 7 * (i + 1) = 7 * i + 7 by omega, Nat.pow_add]
      have h1 : u0 / 2 ^ (7 * i) < 128 := hI2 ▸ hw
      have h2 := (Nat.div_lt_iff_lt_mul hpos).1 h1
      rw [Nat.mul_comm]; exact h2
    rw [hend] at hor
    rw [numL_lo hw, List.singleton_append]
    have hx : ([u].map b8C)[0]? = some (b8C u) := rfl
    have hc : u &&& 127 = u % 128 := hand u
    clear hI2 hI3 hp28 hpos hr hend
    refine zX ?_; refine yZ ?_; refine zX (zZ ?_); refine xMv rfl rfl rfl rfl ?_; apply zV; rfl; rfl; rfl; (refine yX rfl rfl (zQ (by kernel_rfl)) ?_; exact take1_at (x := u) (D := D) (by omega) (by (exact Upd.here))); apply zV; rfl; rfl; rfl; (apply g_indexDl; rfl; rfl; rfl; (rfl); (assumption)); apply zV; rfl; rfl; rfl; (apply g_load1; rfl; rfl; (exact .e rfl)); refine xAs rfl rfl rfl rfl ?_; refine zY ?_; refine zX (zZ ?_); refine xMv rfl rfl rfl rfl ?_; refine xMv rfl rfl rfl rfl ?_; refine xBi rfl rfl rfl rfl rfl rfl ?_; intro _ _; refine xMv rfl rfl rfl rfl ?_; refine zA rfl (fun h => ?_) (fun h => ?_) <;> ((first | (subst h; rename BV _ true => g; have h := g.eq; clear g) | (subst h; rename BV _ false => g; have h := g.eq; clear g) | skip); (have hp := h; try simp only [q_n] at hp); (try (exfalso; first | omega | (cases hp; done))));
    refine zW rfl rfl rfl rfl ?_; refine zW rfl rfl rfl rfl ?_; refine xPt rfl rfl rfl rfl rfl rfl ?_; refine xMv rfl rfl rfl rfl ?_; apply exl_isW; rfl; (rfl); rfl; rfl; (apply zH; rfl); refine yBi rfl rfl rfl rfl rfl rfl rfl ?_; intro _ _; apply exl_isW; rfl; (rfl); rfl; rfl; (apply zH; rfl); refine zA rfl (fun h => ?_) (fun h => ?_) <;> ((first | (subst h; rename BV _ true => g; have h := g.eq; clear g) | (subst h; rename BV _ false => g; have h := g.eq; clear g) | skip); (have hp := h; try simp only [q_n] at hp); (try (exfalso; first | omega | (cases hp; done))));
    refine zW rfl rfl rfl rfl ?_; refine zW rfl rfl rfl rfl ?_; apply exl_isW; rfl; (rfl); rfl; rfl; (apply g_pick_t; rfl; (rfl); rfl); refine xPt rfl rfl rfl rfl rfl rfl ?_; apply zV; rfl; rfl; rfl; (refine yX rfl rfl (zQ (by kernel_rfl)) ?_; exact want_c _ _); refine zY ?_; refine zX (zZ ?_); refine xMv rfl rfl rfl rfl ?_; refine xMv rfl rfl rfl rfl ?_; apply zV; rfl; rfl; rfl; (exact g_and8 rfl rfl rfl h127 (by omega) (by omega) hc); apply zV; rfl; rfl; rfl; (exact g_conv rfl rfl rfl hcv); refine xMv rfl rfl rfl rfl ?_; apply zV; rfl; rfl; rfl; (apply g_mul; rfl; rfl; rfl; exact ⟨by omega, by omega⟩); apply zV; rfl; rfl; rfl; (exact g_shlU rfl rfl rfl h7i (by omega) hX hXl); apply zV; rfl; rfl; rfl; (exact g_orU rfl rfl rfl rfl hr2 hXl hor); refine xAs rfl rfl rfl rfl ?_; refine zY ?_; refine zX (zZ ?_); refine xMv rfl rfl rfl rfl ?_; refine xBi rfl rfl rfl rfl rfl rfl ?_; intro _ _; refine zY ?_; refine zU rfl (fun h => ?_) (fun h => ?_) <;> ((first | (subst h; rename BV _ true => g; have h := g.eq; clear g) | (subst h; rename BV _ false => g; have h := g.eq; clear g) | skip); (have hp := h; try simp only [q_n] at hp); (try (exfalso; first | omega | (cases hp; done))));
    refine zX (zZ ?_); refine xMv rfl rfl rfl rfl ?_; refine xAs rfl rfl rfl rfl ?_; refine zY ?_; refine yV ?_; simp only [zD, zK, zJ, zT, retA, ↓reduceIte, Nat.reduceEqDiff]; rotate_left; apply exl_isW; rfl; (rfl); rfl; rfl; (apply zH; rfl); refine yBi rfl rfl rfl rfl rfl rfl rfl ?_; intro _ _; refine xPf rfl rfl rfl rfl rfl rfl ?_; refine xMv rfl rfl rfl rfl ?_; refine zA rfl (fun h => ?_) (fun h => ?_) <;> ((first | (subst h; rename BV _ true => g; have h := g.eq; clear g) | (subst h; rename BV _ false => g; have h := g.eq; clear g) | skip); (have hp := h; try simp only [q_n] at hp); (try (exfalso; first | omega | (cases hp; done))));
    apply exl_isW; rfl; (rfl); rfl; rfl; (apply zH; rfl); refine yBi rfl rfl rfl rfl rfl rfl rfl ?_; intro _ _; apply exl_isW; rfl; (rfl); rfl; rfl; (apply zH; rfl); refine zA rfl (fun h => ?_) (fun h => ?_) <;> ((first | (subst h; rename BV _ true => g; have h := g.eq; clear g) | (subst h; rename BV _ false => g; have h := g.eq; clear g) | skip); (have hp := h; try simp only [q_n] at hp); (try (exfalso; first | omega | (cases hp; done))));
    refine zW rfl rfl rfl rfl ?_; refine zW rfl rfl rfl rfl ?_; apply exl_isW; rfl; (rfl); rfl; rfl; (apply g_pick_t; rfl; (rfl); rfl); refine xPt rfl rfl rfl rfl rfl rfl ?_; apply zV; rfl; rfl; rfl; (refine yX rfl rfl (zQ (by kernel_rfl)) ?_; exact want_c _ _); refine zY ?_; refine zX (zZ ?_); refine xMv rfl rfl rfl rfl ?_; refine xMv rfl rfl rfl rfl ?_; apply zV; rfl; rfl; rfl; (exact g_and8 rfl rfl rfl h127 (by omega) (by omega) hc); apply zV; rfl; rfl; rfl; (exact g_conv rfl rfl rfl hcv); refine xMv rfl rfl rfl rfl ?_; apply zV; rfl; rfl; rfl; (apply g_mul; rfl; rfl; rfl; exact ⟨by omega, by omega⟩); apply zV; rfl; rfl; rfl; (exact g_shlU rfl rfl rfl h7i (by omega) hX hXl); apply zV; rfl; rfl; rfl; (exact g_orU rfl rfl rfl rfl hr2 hXl hor); refine xAs rfl rfl rfl rfl ?_; refine zY ?_; refine zX (zZ ?_); refine xMv rfl rfl rfl rfl ?_; refine xBi rfl rfl rfl rfl rfl rfl ?_; intro _ _; refine zY ?_; refine zU rfl (fun h => ?_) (fun h => ?_) <;> ((first | (subst h; rename BV _ true => g; have h := g.eq; clear g) | (subst h; rename BV _ false => g; have h := g.eq; clear g) | skip); (have hp := h; try simp only [q_n] at hp); (try (exfalso; first | omega | (cases hp; done))));
    refine zX (zZ ?_); refine xMv rfl rfl rfl rfl ?_; refine xAs rfl rfl rfl rfl ?_; refine zY ?_; refine yV ?_; simp only [zD, zK, zJ, zT, retA, ↓reduceIte, Nat.reduceEqDiff]; rotate_left
    (all_goals (repeat (rename BV _ _ => hbv; cases hbv)))
    all_goals (try (first | cases ‹true = false› | cases ‹false = true›))
    all_goals
      refine ret_q (σ3 := rdE b D :: σ) .nil (.cons (.ofTmp rfl) .nil) (by repeat (first | exact q_r | apply q_q | apply q_k | exact q_a)) ?_
      exact fin_done .mk
  · have hi4 : i < 4 := by
      refine Nat.lt_of_not_le (fun h => hw ?_)
      have e : i = 4 := by omega
      rw [hI2, e]; omega
    have hnx : u / 128 = u0 / 2 ^ (7 * (i + 1)) := by rw [hI2, Nat.div_div_eq_div_mul, show 7 * (i + 1) = 7 * i + 7 by omega, Nat.pow_add]
    rw [numL_hi hw, List.cons_append]
    have hx : ([u % 128 + 128].map b8C)[0]? = some (b8C (u % 128 + 128)) := rfl
    have hc : (u % 128 + 128) &&& 127 = u % 128 := by rw [hand]; omega
    have hnl : (numL (u / 128) ++ D).length ≤ 90000 := by
      have := numL_len (k := 4) (u := u / 128) (by rw [hnx]; exact Nat.lt_of_le_of_lt (Nat.div_le_self _ _) hu)
      rw [List.length_append]; omega
    clear hI2 hI3 hp28 hpos hr
    obtain ⟨E, hE⟩ : ∃ E, numL (u / 128) ++ D = E := ⟨_, rfl⟩
    rw [hE] at hnl ⊢
    refine zX ?_; refine yZ ?_; refine zX (zZ ?_); refine xMv rfl rfl rfl rfl ?_; apply zV; rfl; rfl; rfl; (refine yX rfl rfl (zQ (by kernel_rfl)) ?_; exact take1_at (x := u % 128 + 128) (D := E) hnl (by (exact Upd.here))); apply zV; rfl; rfl; rfl; (apply g_indexDl; rfl; rfl; rfl; (rfl); (assumption)); apply zV; rfl; rfl; rfl; (apply g_load1; rfl; rfl; (exact .e rfl)); refine xAs rfl rfl rfl rfl ?_; refine zY ?_; refine zX (zZ ?_); refine xMv rfl rfl rfl rfl ?_; refine xMv rfl rfl rfl rfl ?_; refine xBi rfl rfl rfl rfl rfl rfl ?_; intro _ _; refine xMv rfl rfl rfl rfl ?_; refine zA rfl (fun h => ?_) (fun h => ?_) <;> ((first | (subst h; rename BV _ true => g; have h := g.eq; clear g) | (subst h; rename BV _ false => g; have h := g.eq; clear g) | skip); (have hp := h; try simp only [q_n] at hp); (try (exfalso; first | omega | (cases hp; done))));
    refine zW rfl rfl rfl rfl ?_; refine zW rfl rfl rfl rfl ?_; refine xPt rfl rfl rfl rfl rfl rfl ?_; refine xMv rfl rfl rfl rfl ?_; apply exl_isW; rfl; (rfl); rfl; rfl; (apply zH; rfl); refine yBi rfl rfl rfl rfl rfl rfl rfl ?_; intro _ _; apply exl_isW; rfl; (rfl); rfl; rfl; (apply zH; rfl); refine zA rfl (fun h => ?_) (fun h => ?_) <;> ((first | (subst h; rename BV _ true => g; have h := g.eq; clear g) | (subst h; rename BV _ false => g; have h := g.eq; clear g) | skip); (have hp := h; try simp only [q_n] at hp); (try (exfalso; first | omega | (cases hp; done))));
    refine zW rfl rfl rfl rfl ?_; refine zW rfl rfl rfl rfl ?_; apply exl_isW; rfl; (rfl); rfl; rfl; (apply g_pick_t; rfl; (rfl); rfl); refine xPt rfl rfl rfl rfl rfl rfl ?_; apply zV; rfl; rfl; rfl; (refine yX rfl rfl (zQ (by kernel_rfl)) ?_; exact want_c _ _); refine zY ?_; refine zX (zZ ?_); refine xMv rfl rfl rfl rfl ?_; refine xMv rfl rfl rfl rfl ?_; apply zV; rfl; rfl; rfl; (exact g_and8 rfl rfl rfl h127 (by omega) (by omega) hc); apply zV; rfl; rfl; rfl; (exact g_conv rfl rfl rfl hcv); refine xMv rfl rfl rfl rfl ?_; apply zV; rfl; rfl; rfl; (apply g_mul; rfl; rfl; rfl; exact ⟨by omega, by omega⟩); apply zV; rfl; rfl; rfl; (exact g_shlU rfl rfl rfl h7i (by omega) hX hXl); apply zV; rfl; rfl; rfl; (exact g_orU rfl rfl rfl rfl hr2 hXl hor); refine xAs rfl rfl rfl rfl ?_; refine zY ?_; refine zX (zZ ?_); refine xMv rfl rfl rfl rfl ?_; refine xBi rfl rfl rfl rfl rfl rfl ?_; intro _ _; refine zY ?_; refine zU rfl (fun h => ?_) (fun h => ?_) <;> ((first | (subst h; rename BV _ true => g; have h := g.eq; clear g) | (subst h; rename BV _ false => g; have h := g.eq; clear g) | skip); (have hp := h; try simp only [q_n] at hp); (try (exfalso; first | omega | (cases hp; done))));
    refine zG ?_; refine zZ ?_; refine xMv rfl rfl rfl rfl ?_; apply zV; rfl; rfl; rfl; (apply g_add; rfl; rfl; rfl; exact ⟨by omega, by omega⟩); refine xAs rfl rfl rfl rfl ?_; refine zC ?_; simp only [zD, zK, zJ, zT, retA, ↓reduceIte, Nat.reduceEqDiff]; rotate_left; apply exl_isW; rfl; (rfl); rfl; rfl; (apply zH; rfl); refine yBi rfl rfl rfl rfl rfl rfl rfl ?_; intro _ _; refine xPf rfl rfl rfl rfl rfl rfl ?_; refine xMv rfl rfl rfl rfl ?_; refine zA rfl (fun h => ?_) (fun h => ?_) <;> ((first | (subst h; rename BV _ true => g; have h := g.eq; clear g) | (subst h; rename BV _ false => g; have h := g.eq; clear g) | skip); (have hp := h; try simp only [q_n] at hp); (try (exfalso; first | omega | (cases hp; done))));
    apply exl_isW; rfl; (rfl); rfl; rfl; (apply zH; rfl); refine yBi rfl rfl rfl rfl rfl rfl rfl ?_; intro _ _; apply exl_isW; rfl; (rfl); rfl; rfl; (apply zH; rfl); refine zA rfl (fun h => ?_) (fun h => ?_) <;> ((first | (subst h; rename BV _ true => g; have h := g.eq; clear g) | (subst h; rename BV _ false => g; have h := g.eq; clear g) | skip); (have hp := h; try simp only [q_n] at hp); (try (exfalso; first | omega | (cases hp; done))));
    refine zW rfl rfl rfl rfl ?_; refine zW rfl rfl rfl rfl ?_; apply exl_isW; rfl; (rfl); rfl; rfl; (apply g_pick_t; rfl; (rfl); rfl); refine xPt rfl rfl rfl rfl rfl rfl ?_; apply zV; rfl; rfl; rfl; (refine yX rfl rfl (zQ (by kernel_rfl)) ?_; exact want_c _ _); refine zY ?_; refine zX (zZ ?_); refine xMv rfl rfl rfl rfl ?_; refine xMv rfl rfl rfl rfl ?_; apply zV; rfl; rfl; rfl; (exact g_and8 rfl rfl rfl h127 (by omega) (by omega) hc); apply zV; rfl; rfl; rfl; (exact g_conv rfl rfl rfl hcv); refine xMv rfl rfl rfl rfl ?_; apply zV; rfl; rfl; rfl; (apply g_mul; rfl; rfl; rfl; exact ⟨by omega, by omega⟩); apply zV; rfl; rfl; rfl; (exact g_shlU rfl rfl rfl h7i (by omega) hX hXl); apply zV; rfl; rfl; rfl; (exact g_orU rfl rfl rfl rfl hr2 hXl hor); refine xAs rfl rfl rfl rfl ?_; refine zY ?_; refine zX (zZ ?_); refine xMv rfl rfl rfl rfl ?_; refine xBi rfl rfl rfl rfl rfl rfl ?_; intro _ _; refine zY ?_; refine zU rfl (fun h => ?_) (fun h => ?_) <;> ((first | (subst h; rename BV _ true => g; have h := g.eq; clear g) | (subst h; rename BV _ false => g; have h := g.eq; clear g) | skip); (have hp := h; try simp only [q_n] at hp); (try (exfalso; first | omega | (cases hp; done))));
    refine zG ?_; refine zZ ?_; refine xMv rfl rfl rfl rfl ?_; apply zV; rfl; rfl; rfl; (apply g_add; rfl; rfl; rfl; exact ⟨by omega, by omega⟩); refine xAs rfl rfl rfl rfl ?_; refine zC ?_; simp only [zD, zK, zJ, zT, retA, ↓reduceIte, Nat.reduceEqDiff]; rotate_left
    (all_goals (repeat (rename BV _ _ => hbv; cases hbv)))
    all_goals (try (first | cases ‹true = false› | cases ‹false = true›))
    all_goals
      refine ⟨(i + 1, u / 128, u0 % 2 ^ (7 * (i + 1))), ⟨hi4, hnx, rfl, .inr (by dsimp only; omega)⟩, by dsimp only; omega, ?_⟩
      dsimp only
      rw [hE]
      exact (St.le_of (by repeat (first | exact trivial | refine ⟨rfl, ?_⟩)) (by repeat (first | exact q_r | apply q_q | apply q_k | exact q_a)))
end Go.Proofs.YtkhoengjdfmfaaaGreat
namespace Go.Proofs.YtkhoengjdfmfaaaGreat
set_option maxHeartbeats 8000000 in
theorem length_c (b n : Nat) (D : List Nat) (hn : n ≤ D.length) (hD : D.length ≤ 80000) (σ : List Ent) :
    SCall Tryz.prog 161 [.ptr b 0] (rdE b (numL n ++ D) :: σ) (Is (.int .i64 n) (rdE b D :: σ)) := by
  refine scall_of Tryz.func161 rfl (by simp) ?_
  have hq : decide ((n : Int) ≤ (D.length : Int)) = true := decide_eq_true (by omega)
  have hcv : IntKind.u64.wrap ((D.length : Nat) : Int) = ((D.length : Nat) : Int) := wrapU64 (by omega)
  have hcn : IntKind.i64.wrap ((n : Nat) : Int) = ((n : Nat) : Int) := by rw [IntKind.wrap_i64]; omega
  refine zX (zZ ?_); refine xAs rfl rfl rfl rfl ?_; refine zY ?_; refine zX (zZ ?_); refine xMv rfl rfl rfl rfl ?_; apply zV; rfl; rfl; rfl; (refine yX rfl rfl (zQ (by kernel_rfl)) ?_; exact number_c b n D (by omega) hD _); refine xAs rfl rfl rfl rfl ?_; refine zY ?_; refine zX (zZ ?_); refine xMv rfl rfl rfl rfl ?_; refine xMv rfl rfl rfl rfl ?_; refine xMv rfl rfl rfl rfl ?_; apply zV; rfl; rfl; rfl; (apply g_nilCheck; rfl; rfl); refine xFa rfl rfl rfl rfl rfl rfl ?_; refine xLd rfl rfl rfl rfl rfl (.p (by (repeat first | exact q_h | apply q_t | assumption); done) rfl) ?_; apply zV; rfl; rfl; rfl; (apply g_len; rfl; rfl; (exact (List.length_map _).symm)); apply zV; rfl; rfl; rfl; (exact g_conv rfl rfl rfl hcv); refine xBi rfl rfl rfl rfl rfl rfl ?_; intro _ _; rotate_left
  (all_goals (repeat (rename BV _ _ => hbv; cases hbv)))
  all_goals (try (first | cases ‹true = false› | cases ‹false = true›))
  refine zV rfl rfl rfl (yX rfl rfl (zQ (by kernel_rfl)) (want_q _ hq _)) ?_
  refine zY ?_; refine zX (zZ ?_); refine xMv rfl rfl rfl rfl ?_; apply zV; rfl; rfl; rfl; (apply g_conv64; rfl; rfl; rfl; exact ⟨by omega, by omega⟩); refine xAs rfl rfl rfl rfl ?_; refine zY ?_; refine yV ?_; simp only [zD, zK, zJ, zT, retA, ↓reduceIte, Nat.reduceEqDiff]; rotate_left
  (all_goals (repeat (rename BV _ _ => hbv; cases hbv)))
  all_goals (try (first | cases ‹true = false› | cases ‹false = true›))
  refine ret_q (σ3 := rdE b D :: σ) .nil (.cons (.ofTmp rfl) .nil) (by repeat (first | exact q_r | apply q_q | apply q_k | exact q_a)) ?_
  exact fin_done .mk
theorem number_at {b u0 : Nat} {D : List Nat} (hu : u0 < 34359738368) (hD : D.length ≤ 80000) {σ σ' : List Ent} (h : Upd σ (rdE b (numL u0 ++ D)) (rdE b D) σ') :
    SCall Tryz.prog 160 [.ptr b 0] σ (Is (.int .u64 u0) σ') := scall_updI (number_c b u0 D hu hD) h
theorem length_at {b n : Nat} {D : List Nat} (hn : n ≤ D.length) (hD : D.length ≤ 80000) {σ σ' : List Ent} (h : Upd σ (rdE b (numL n ++ D)) (rdE b D) σ') :
    SCall Tryz.prog 161 [.ptr b 0] σ (Is (.int .i64 n) σ') := scall_updI (length_c b n D hn hD) h
set_option maxHeartbeats 8000000 in
theorem valueI_c (b m : Nat) (d : Int) (D : List Nat) (hm : m ≤ 1073741824) (hD : D.length ≤ 70000) (σ : List Ent) :
    SCall Tryz.prog 147 [.ptr b 0, .int .i64 d] (rdE b (1 :: (numL (2 * m) ++ D)) :: σ) (Is (.agg (itC m)) (rdE b D :: σ)) := by
  refine scall_of Tryz.func147 rfl (by simp) ?_
  have hx : ([1].map b8C)[0]? = some (b8C 1) := rfl
  have hcv : IntKind.i64.wrap ((1 : Nat) : Int) = ((1 : Nat) : Int) := by rw [IntKind.wrap_i64]; omega
  have hnl : (numL (2 * m) ++ D).length ≤ 90000 := by
    have := numL_len (k := 4) (u := 2 * m) (by omega)
    rw [List.length_append]; omega
  obtain ⟨E, hE⟩ : ∃ E, numL (2 * m) ++ D = E := ⟨_, rfl⟩
  rw [hE] at hnl ⊢
  have hnu : ∀ {σ σ' : List Ent}, Upd σ (rdE b E) (rdE b D) σ' → SCall Tryz.prog 160 [.ptr b 0] σ (Is (.int .u64 ((2 * m : Nat) : Int)) σ') := fun h => by
    rw [← hE] at h; exact number_at (by omega) (by omega) h
  clear hE
  refine zX (zZ ?_); refine zE rfl rfl rfl (g_alloc rfl) ?_; intro _; refine zY ?_; refine zX (zZ ?_); refine xMv rfl rfl rfl rfl ?_; apply zV; rfl; rfl; rfl; (refine yX rfl rfl (zQ (by kernel_rfl)) ?_; exact take1_at (x := 1) (D := E) hnl (by (exact Upd.there (Upd.here)))); apply zV; rfl; rfl; rfl; (apply g_indexDl; rfl; rfl; rfl; (rfl); (assumption)); apply zV; rfl; rfl; rfl; (apply g_load1; rfl; rfl; (exact .e rfl)); apply zV; rfl; rfl; rfl; (apply g_conv64; rfl; rfl; rfl; exact ⟨by omega, by omega⟩); refine xFa rfl rfl rfl rfl rfl rfl ?_; apply yY; rfl; rfl; (apply zL; rfl; rfl; rfl; (exact Upd.here); (simp only [setL, q_z, AV.cells]; rfl); rfl; rfl; rfl; exact q_b rfl); refine zY ?_; refine zX ?_; refine zX (zZ ?_); refine xFa rfl rfl rfl rfl rfl rfl ?_; refine xLd rfl rfl rfl rfl rfl (.p (by (repeat first | exact q_h | apply q_t | assumption); done) rfl) ?_; refine zY ?_; refine yZ ?_; refine zX (zZ ?_); refine xBi rfl rfl rfl rfl rfl rfl ?_; intro _ _; refine xAs rfl rfl rfl rfl ?_; refine zY ?_; refine zU rfl (fun h => ?_) (fun h => ?_) <;> ((first | (subst h; rename BV _ true => g; have h := g.eq; clear g) | (subst h; rename BV _ false => g; have h := g.eq; clear g) | skip); (have hp := h; try simp only [q_n] at hp); (try (exfalso; first | omega | (cases hp; done))));
  refine zZ ?_; refine xMv rfl rfl rfl rfl ?_; apply zV; rfl; rfl; rfl; (refine yX rfl rfl (zQ (by kernel_rfl)) ?_; exact hnu (by (exact Upd.there (Upd.here)))); apply zV; rfl; rfl; rfl; (refine yX rfl rfl (zQ (by kernel_rfl)) ?_; exact signed_c m hm _); refine xFa rfl rfl rfl rfl rfl rfl ?_; apply yY; rfl; rfl; (apply zL; rfl; rfl; rfl; (exact Upd.here); (simp only [setL, q_z, AV.cells]; rfl); rfl; rfl; rfl; exact q_b rfl); refine zC ?_; refine zX (zZ ?_); refine xLa rfl rfl rfl rfl (by decide) rfl (.p (by (repeat first | exact q_h | apply q_t | assumption); done) rfl rfl) ?_; apply yY; rfl; rfl; (apply zL; rfl; rfl; rfl; (exact Upd.here); (simp only [setL, q_z, AV.cells]; rfl); rfl; rfl; rfl; exact q_b rfl); refine zY ?_; refine yV ?_; simp only [zD, zK, zJ, zT, retA, ↓reduceIte, Nat.reduceEqDiff]; rotate_left
  (all_goals (repeat (rename BV _ _ => hbv; cases hbv)))
  all_goals (try (first | cases ‹true = false› | cases ‹false = true›))
  refine ret_q (σ3 := rdE b D :: σ) .nil ((by repeat (first | exact Res.nil | (apply Res.cons; (first | (apply Res1.ofTmp; rfl) | (apply Res1.ofCell; rfl; rfl; (first | exact .e rfl | exact .p (by (repeat first | exact q_h | apply q_t | assumption); done) rfl | exact .r (by (repeat first | exact q_h | apply q_t | assumption); done) rfl)) | (apply Res1.ofAgg; rfl; rfl; decide; (first | exact .e rfl rfl | exact .p (by (repeat first | exact q_h | apply q_t | assumption); done) rfl rfl | exact .r (by (repeat first | exact q_h | apply q_t | assumption); done) rfl rfl))))))) (by repeat (first | exact q_r | apply q_q | apply q_k | exact q_a)) ?_
  exact fin_done .mk
end Go.Proofs.YtkhoengjdfmfaaaGreat
namespace Go.Proofs.YtkhoengjdfmfaaaGreat
section
variable {α : Type}
def swp2 (L : List α) (i j : Nat) : List α := match L[i]?, L[j]? with
  | some x, some y => (L.set i y).set j x
  | _, _ => L
theorem set_app {A B : List α} {x y : α} : (A ++ x :: B).set A.length y = A ++ y :: B := by simp
theorem swp2_app {A B C : List α} {x y : α} : swp2 (A ++ x :: B ++ y :: C) A.length (A.length + 1 + B.length) = A ++ y :: B ++ x :: C := by
  have h1 : (A ++ x :: B ++ y :: C)[A.length]? = some x := by simp
  have h2 : (A ++ x :: B ++ y :: C)[A.length + 1 + B.length]? = some y := by
    rw [show A ++ x :: B ++ y :: C = (A ++ x :: B) ++ y :: C by simp, List.getElem?_append_right (by simp; omega)]
    simp [show A.length + 1 + B.length - (A.length + (B.length + 1)) = 0 by omega]
  unfold swp2
  rw [h1, h2]
  dsimp only
  rw [show A ++ x :: B ++ y :: C = A ++ x :: (B ++ y :: C) by simp, set_app]
  have e : A ++ y :: (B ++ y :: C) = (A ++ y :: B) ++ y :: C := by simp
  rw [e, show A.length + 1 + B.length = (A ++ y :: B).length by simp; omega, set_app]
theorem swp2_up {A C : List α} {x y : α} : swp2 (A ++ x :: y :: C) A.length (A.length + 1) = A ++ y :: x :: C := by
  have := swp2_app (A := A) (B := []) (C := C) (x := x) (y := y)
  simpa using this
theorem swp2_down {A C : List α} {x y : α} : swp2 (A ++ x :: y :: C) (A.length + 1) A.length = A ++ y :: x :: C := by
  have h1 : (A ++ x :: y :: C)[A.length]? = some x := by simp
  have h2 : (A ++ x :: y :: C)[A.length + 1]? = some y := by
    rw [List.getElem?_append_right (by omega)]; simp
  have h3 := swp2_up (A := A) (C := C) (x := x) (y := y)
  unfold swp2 at h3 ⊢
  rw [h1, h2] at h3 ⊢
  dsimp only at h3 ⊢
  rw [List.set_comm _ _ (by omega)]; exact h3
theorem swap_range {A X B Y C : List α} (h : X.length = Y.length) {k : Nat} (hk : k < X.length) :
    swp2 (A ++ (Y.take k ++ X.drop k) ++ B ++ (X.take k ++ Y.drop k) ++ C) (A.length + k) (A.length + X.length + B.length + k) = A ++ (Y.take (k + 1) ++ X.drop (k + 1)) ++ B ++ (X.take (k + 1) ++ Y.drop (k + 1)) ++ C := by
  obtain ⟨x, hx⟩ : ∃ x, X[k]? = some x := get_some hk
  obtain ⟨y, hy⟩ : ∃ y, Y[k]? = some y := get_some (by omega)
  have dx : X.drop k = x :: X.drop (k + 1) := by
    obtain ⟨h1, h2⟩ := List.getElem?_eq_some_iff.1 hx
    rw [List.drop_eq_getElem_cons h1, h2]
  have dy : Y.drop k = y :: Y.drop (k + 1) := by
    obtain ⟨h1, h2⟩ := List.getElem?_eq_some_iff.1 hy
    rw [List.drop_eq_getElem_cons h1, h2]
  have tx : X.take (k + 1) = X.take k ++ [x] := by rw [List.take_add_one, hx]; rfl
  have ty : Y.take (k + 1) = Y.take k ++ [y] := by rw [List.take_add_one, hy]; rfl
  rw [dx, dy, tx, ty]
  have l1 : (A ++ Y.take k).length = A.length + k := by simp; omega
  have l2 : (A ++ Y.take k).length + 1 + (X.drop (k + 1) ++ B ++ X.take k).length = A.length + X.length + B.length + k := by simp; omega
  have := swp2_app (A := A ++ Y.take k) (B := X.drop (k + 1) ++ B ++ X.take k) (C := Y.drop (k + 1) ++ C) (x := x) (y := y)
  rw [l2, l1] at this
  have e1 : A ++ (Y.take k ++ x :: X.drop (k + 1)) ++ B ++ (X.take k ++ y :: Y.drop (k + 1)) ++ C = A ++ Y.take k ++ x :: (X.drop (k + 1) ++ B ++ X.take k) ++ y :: (Y.drop (k + 1) ++ C) := by simp
  have e2 : A ++ (Y.take k ++ [y] ++ X.drop (k + 1)) ++ B ++ (X.take k ++ [x] ++ Y.drop (k + 1)) ++ C = A ++ Y.take k ++ y :: (X.drop (k + 1) ++ B ++ X.take k) ++ x :: (Y.drop (k + 1) ++ C) := by simp
  rw [e1, e2]; exact this
end
def Left (X Y : List Ey) : Prop := ∀ x ∈ X, ∀ y ∈ Y, x.2.hour = y.2.hour → x.1 < y.1
theorem left_lt {X Y : List Ey} (h : Left X Y) {x y : Ey} (hx : x ∈ X) (hy : y ∈ Y) : (y.2.hour < x.2.hour ↔ ltE y x) ∧ (¬ y.2.hour < x.2.hour ↔ ltE x y) := by
  have := h x hx y hy
  unfold ltE
  constructor <;> constructor <;> intro h <;> omega
structure MergedE (X Y S : List Ey) : Prop where
  perm : S.Perm (X ++ Y)
  up : S.Pairwise ltE
theorem merged_two {A B C D S T : List Ey} (h1 : MergedE A C S) (h2 : MergedE B D T) (hx : ∀ x ∈ A ++ C, ∀ y ∈ B ++ D, ltE x y) : MergedE (A ++ B) (C ++ D) (S ++ T) := by
  refine ⟨?_, List.pairwise_append.2 ⟨h1.up, h2.up, fun x hx' y hy => hx x (h1.perm.mem_iff.1 hx') y (h2.perm.mem_iff.1 hy)⟩⟩
  have := h1.perm.append h2.perm
  refine this.trans ?_
  rw [show A ++ C ++ (B ++ D) = A ++ (C ++ B) ++ D by simp, show A ++ B ++ (C ++ D) = A ++ (B ++ C) ++ D by simp]
  exact ((List.perm_append_comm (l₁ := C) (l₂ := B)).append_left A).append_right D
theorem left_sub {X Y X' Y' : List Ey} (h : Left X Y) (hx : ∀ x ∈ X', x ∈ X) (hy : ∀ y ∈ Y', y ∈ Y) : Left X' Y' := fun x h1 y h2 => h x (hx x h1) y (hy y h2)
theorem merged_one_left {x : Ey} {Y1 Y2 : List Ey} (h : (Y1 ++ Y2).Pairwise ltE) (h1 : ∀ y ∈ Y1, ltE y x) (h2 : ∀ y ∈ Y2, ltE x y) : MergedE [x] (Y1 ++ Y2) (Y1 ++ x :: Y2) := by
  refine ⟨?_, ?_⟩
  · exact List.perm_middle
  · rw [List.pairwise_append] at h ⊢
    refine ⟨h.1, List.pairwise_cons.2 ⟨h2, h.2.1⟩, fun y hy z hz => ?_⟩
    rcases List.mem_cons.1 hz with rfl | hz
    · exact h1 y hy
    · exact h.2.2 y hy z hz
theorem merged_one_right {x : Ey} {Y1 Y2 : List Ey} (h : (Y1 ++ Y2).Pairwise ltE) (h1 : ∀ y ∈ Y1, ltE y x) (h2 : ∀ y ∈ Y2, ltE x y) : MergedE (Y1 ++ Y2) [x] (Y1 ++ x :: Y2) := by
  have := merged_one_left h h1 h2
  exact ⟨this.perm.trans List.perm_append_comm, this.up⟩
theorem cross {A B C D : List Ey} (hX : (A ++ B).Pairwise ltE) (hY : (C ++ D).Pairwise ltE) (h1 : ∀ x ∈ A, ∀ y ∈ D, ltE x y) (h2 : ∀ x ∈ C, ∀ y ∈ B, ltE x y) : ∀ x ∈ A ++ C, ∀ y ∈ B ++ D, ltE x y := by
  rw [List.pairwise_append] at hX hY
  intro x hx y hy
  rcases List.mem_append.1 hx with hx | hx
  · rcases List.mem_append.1 hy with hy | hy
    · exact hX.2.2 x hx y hy
    · exact h1 x hx y hy
  · rcases List.mem_append.1 hy with hy | hy
    · exact h2 x hx y hy
    · exact hY.2.2 x hx y hy
theorem border {A D : List Ey} {a d : Ey} (hA : (A ++ [a]).Pairwise ltE) (hD : (d :: D).Pairwise ltE) (h : ltE a d) : ∀ x ∈ A ++ [a], ∀ y ∈ d :: D, ltE x y := by
  rw [List.pairwise_append] at hA
  rw [List.pairwise_cons] at hD
  have h1 : ∀ x ∈ A ++ [a], ltE x d := fun x hx => by
    rcases List.mem_append.1 hx with hx | hx
    · exact ltE_trans (hA.2.2 x hx a (by simp)) h
    · rw [List.mem_singleton] at hx; subst hx; exact h
  intro x hx y hy
  rcases List.mem_cons.1 hy with rfl | hy
  · exact h1 x hx
  · exact ltE_trans (h1 x hx) (hD.1 y hy)
theorem left_one {X Y : List Ey} {x y : Ey} (h : Left X Y) (hx : x ∈ X) (hy : y ∈ Y) : (¬ y.2.hour < x.2.hour → ltE x y) ∧ (y.2.hour < x.2.hour → ltE y x) := ⟨(left_lt h hx hy).2.1, (left_lt h hx hy).1.1⟩
theorem drop_get {α : Type} {l : List α} {k : Nat} {c : α} (h : l[k]? = some c) : l.drop k = c :: l.drop (k + 1) := by
  obtain ⟨h1, h2⟩ := List.getElem?_eq_some_iff.1 h
  rw [List.drop_eq_getElem_cons h1, h2]
theorem take_get {α : Type} {l : List α} {k : Nat} {c : α} (h : l[k]? = some c) : l.take (k + 1) = l.take k ++ [c] := by rw [List.take_add_one, h]; rfl
theorem take_lt {X : List Ey} (hX : X.Pairwise ltE) {k : Nat} {c z : Ey} (hc : X[k]? = some c) (h : ltE c z) : ∀ x ∈ X.take (k + 1), ltE x z := by
  rw [take_get hc]
  have hp := hX.take (i := k + 1)
  rw [take_get hc, List.pairwise_append] at hp
  intro x hx
  rcases List.mem_append.1 hx with hx | hx
  · exact ltE_trans (hp.2.2 x hx c (by simp)) h
  · rw [List.mem_singleton] at hx; subst hx; exact h
theorem drop_lt {X : List Ey} (hX : X.Pairwise ltE) {k : Nat} {c z : Ey} (hc : X[k]? = some c) (h : ltE z c) : ∀ x ∈ X.drop k, ltE z x := by
  have hp := hX.drop (i := k)
  rw [drop_get hc] at hp ⊢
  rw [List.pairwise_cons] at hp
  intro x hx
  rcases List.mem_cons.1 hx with rfl | hx
  · exact h
  · exact ltE_trans h (hp.1 x hx)
theorem merged_left_at {x : Ey} {Y : List Ey} (hY : Y.Pairwise ltE) (hL : Left [x] Y) {k : Nat} (hk : k ≤ Y.length) (h1 : ∀ y, 0 < k → Y[k - 1]? = some y → y.2.hour < x.2.hour) (h2 : ∀ y, Y[k]? = some y → ¬ y.2.hour < x.2.hour) : MergedE [x] Y (Y.take k ++ x :: Y.drop k) := by
  have := merged_one_left (x := x) (Y1 := Y.take k) (Y2 := Y.drop k) (by rw [List.take_append_drop]; exact hY) ?_ ?_
  · rwa [List.take_append_drop] at this
  · cases k with
    | zero => simp
    | succ k =>
      obtain ⟨c, hc⟩ : ∃ c, Y[k]? = some c := get_some (by omega)
      have := (left_one hL (by simp : x ∈ [x]) (List.mem_of_getElem? hc)).2 (h1 c (by omega) hc)
      exact take_lt hY hc this
  · by_cases hkl : k < Y.length
    · obtain ⟨c, hc⟩ : ∃ c, Y[k]? = some c := get_some hkl
      have := (left_one hL (by simp : x ∈ [x]) (List.mem_of_getElem? hc)).1 (h2 c hc)
      exact drop_lt hY hc this
    · rw [List.drop_of_length_le (by omega)]; simp
theorem merged_right_at {y : Ey} {X : List Ey} (hX : X.Pairwise ltE) (hL : Left X [y]) {k : Nat} (hk : k ≤ X.length) (h1 : ∀ x, 0 < k → X[k - 1]? = some x → ¬ y.2.hour < x.2.hour) (h2 : ∀ x, X[k]? = some x → y.2.hour < x.2.hour) : MergedE X [y] (X.take k ++ y :: X.drop k) := by
  have := merged_one_right (x := y) (Y1 := X.take k) (Y2 := X.drop k) (by rw [List.take_append_drop]; exact hX) ?_ ?_
  · rwa [List.take_append_drop] at this
  · cases k with
    | zero => simp
    | succ k =>
      obtain ⟨c, hc⟩ : ∃ c, X[k]? = some c := get_some (by omega)
      have := (left_one hL (List.mem_of_getElem? hc) (by simp : y ∈ [y])).1 (h1 c (by omega) hc)
      exact take_lt hX hc this
  · by_cases hkl : k < X.length
    · obtain ⟨c, hc⟩ : ∃ c, X[k]? = some c := get_some hkl
      have := (left_one hL (List.mem_of_getElem? hc) (by simp : y ∈ [y])).2 (h2 c hc)
      exact drop_lt hX hc this
    · rw [List.drop_of_length_le (by omega)]; simp
theorem sym_parts {X Y : List Ey} (hX : X.Pairwise ltE) (hY : Y.Pairwise ltE) (hL : Left X Y) {s e : Nat} (hs : s ≤ X.length) (he : e ≤ Y.length)
    (h1 : ∀ x y, 0 < s → X[s - 1]? = some x → Y[e]? = some y → ¬ y.2.hour < x.2.hour) (h2 : ∀ x y, 0 < e → X[s]? = some x → Y[e - 1]? = some y → y.2.hour < x.2.hour) :
    ∀ x ∈ X.take s ++ Y.take e, ∀ y ∈ X.drop s ++ Y.drop e, ltE x y := by
  refine cross (by rw [List.take_append_drop]; exact hX) (by rw [List.take_append_drop]; exact hY) ?_ ?_
  · intro x hx y hy
    cases s with
    | zero => simp at hx
    | succ s =>
      by_cases hel : e < Y.length
      · obtain ⟨c, hc⟩ : ∃ c, X[s]? = some c := get_some (by omega)
        obtain ⟨d, hd⟩ : ∃ d, Y[e]? = some d := get_some hel
        have hlt := (left_one hL (List.mem_of_getElem? hc) (List.mem_of_getElem? hd)).1 (h1 c d (by omega) hc hd)
        have h3 := take_lt hX hc hlt x hx
        exact drop_lt hY hd h3 y hy
      · rw [List.drop_of_length_le (by omega)] at hy; simp at hy
  · intro x hx y hy
    cases e with
    | zero => simp at hx
    | succ e =>
      by_cases hsl : s < X.length
      · obtain ⟨c, hc⟩ : ∃ c, X[s]? = some c := get_some hsl
        obtain ⟨d, hd⟩ : ∃ d, Y[e]? = some d := get_some (by omega)
        have hlt := (left_one hL (List.mem_of_getElem? hc) (List.mem_of_getElem? hd)).2 (h2 c d (by omega) hc hd)
        have h3 := take_lt hY hd hlt x hx
        exact drop_lt hX hc h3 y hy
      · rw [List.drop_of_length_le (by omega)] at hy; simp at hy
theorem ins_up {S1 S2 : List Ey} {x : Ey} (h : (S1 ++ S2).Pairwise ltE) (h1 : ∀ y ∈ S1, ltE y x) (h2 : ∀ y ∈ S2, ltE x y) : (S1 ++ x :: S2).Pairwise ltE := (merged_one_left h h1 h2).up
end Go.Proofs.YtkhoengjdfmfaaaGreat
namespace Go.Proofs.YtkhoengjdfmfaaaGreat
theorem item_two (n : Int) : 2 ≤ (itemL n).length := by
  unfold itemL
  have h : (numL (2 * n.toNat)).length ≠ 0 := fun e => numL_ne _ (List.length_eq_zero_iff.1 e)
  rw [List.length_cons]; omega
theorem itemsL_len : ∀ ns : List Int, ns.length ≤ (ns.flatMap itemL).length
  | [] => Nat.le_refl _
  | n :: ns => by
    have := itemsL_len ns
    have h := item_two n
    rw [List.flatMap_cons, List.length_append, List.length_cons]; omega
theorem items_top : ∀ (ns : List Int), (∀ n ∈ ns, 0 ≤ n ∧ n ≤ 1073741824) → (ns.flatMap itemL).length ≤ 6 * ns.length
  | [], _ => Nat.le_refl _
  | n :: ns, h => by
    have := items_top ns (fun x hx => h x (List.mem_cons_of_mem _ hx))
    have h := item_len (h n List.mem_cons_self)
    rw [List.flatMap_cons, List.length_append, List.length_cons]; omega
theorem valueI_at {b : Nat} {n d : Int} {D : List Nat} (hm : 0 ≤ n ∧ n ≤ 1073741824) (hD : D.length ≤ 70000) {σ σ' : List Ent} (h : Upd σ (rdE b (itemL n ++ D)) (rdE b D) σ') :
    SCall Tryz.prog 147 [.ptr b 0, .int .i64 d] σ (Is (.agg (itC n)) σ') := by
  obtain ⟨m, rfl⟩ : ∃ m : Nat, n = (m : Int) := ⟨n.toNat, by omega⟩
  exact scall_updI (valueI_c b m d D (by omega) hD) h
set_option maxHeartbeats 16000000 in
theorem valueL_c (b : Nat) (ns : List Int) (D : List Nat) (hns : ∀ n ∈ ns, 0 ≤ n ∧ n ≤ 1073741824) (hl : ns.length ≤ 100) (hD : D.length ≤ 60000) (σ : List Ent) :
    SCall Tryz.prog 147 [.ptr b 0, .int .i64 0] (rdE b (encL ns ++ D) :: σ) (Is (.agg (lvC ns)) (rdE b D :: σ)) := by
  refine scall_of Tryz.func147 rfl (by simp) ?_
  have hx : ([3].map b8C)[0]? = some (b8C 3) := rfl
  have hcv : IntKind.i64.wrap ((3 : Nat) : Int) = ((3 : Nat) : Int) := by rw [IntKind.wrap_i64]; omega
  have hit := itemsL_len ns
  have hto := items_top ns hns
  have e0 : encL ns ++ D = 3 :: (numL ns.length ++ (ns.flatMap itemL ++ D)) := by unfold encL; simp
  rw [e0]
  obtain ⟨F, hF⟩ : ∃ F, ns.flatMap itemL ++ D = F := ⟨_, rfl⟩
  have hFl : F.length ≤ 61000 := by rw [← hF, List.length_append]; omega
  have hFn : ns.length ≤ F.length := by rw [← hF, List.length_append]; omega
  obtain ⟨E, hE⟩ : ∃ E, numL ns.length ++ F = E := ⟨_, rfl⟩
  have hnl : E.length ≤ 90000 := by
    have := numL_len (k := 4) (u := ns.length) (by omega)
    rw [← hE, List.length_append]; omega
  have hlc : ∀ {σ σ' : List Ent}, Upd σ (rdE b E) (rdE b F) σ' → SCall Tryz.prog 161 [.ptr b 0] σ (Is (.int .i64 ns.length) σ') := fun h => by
    rw [← hE] at h; exact length_at hFn (by omega) h
  rw [hF, hE]
  clear hE hit hto e0
  refine ex_nilRow 160 4 ?_
  refine zX (zZ ?_); refine zE rfl rfl rfl (g_alloc rfl) ?_; intro _; refine zY ?_; refine zX (zZ ?_); refine xMv rfl rfl rfl rfl ?_; apply zV; rfl; rfl; rfl; (refine yX rfl rfl (zQ (by kernel_rfl)) ?_; exact take1_at (x := 3) (D := E) hnl (by (exact Upd.there (Upd.there (Upd.here))))); apply zV; rfl; rfl; rfl; (apply g_indexDl; rfl; rfl; rfl; (rfl); (assumption)); apply zV; rfl; rfl; rfl; (apply g_load1; rfl; rfl; (exact .e rfl)); apply zV; rfl; rfl; rfl; (apply g_conv64; rfl; rfl; rfl; exact ⟨by omega, by omega⟩); refine xFa rfl rfl rfl rfl rfl rfl ?_; apply yY; rfl; rfl; (apply zL; rfl; rfl; rfl; (exact Upd.here); (simp only [setL, q_z, AV.cells]; rfl); rfl; rfl; rfl; exact q_b rfl); refine zY ?_; refine zX ?_; refine zX (zZ ?_); refine xFa rfl rfl rfl rfl rfl rfl ?_; refine xLd rfl rfl rfl rfl rfl (.p (by (repeat first | exact q_h | apply q_t | assumption); done) rfl) ?_; refine zY ?_; refine yZ ?_; refine zX (zZ ?_); refine xBi rfl rfl rfl rfl rfl rfl ?_; intro _ _; refine xAs rfl rfl rfl rfl ?_; refine zY ?_; refine zU rfl (fun h => ?_) (fun h => ?_) <;> ((first | (subst h; rename BV _ true => g; have h := g.eq; clear g) | (subst h; rename BV _ false => g; have h := g.eq; clear g) | skip); (have hp := h; try simp only [q_n] at hp); (try (exfalso; first | omega | (cases hp; done))));
  refine zX (zZ ?_); refine xBi rfl rfl rfl rfl rfl rfl ?_; intro _ _; refine xAs rfl rfl rfl rfl ?_; refine zY ?_; refine zU rfl (fun h => ?_) (fun h => ?_) <;> ((first | (subst h; rename BV _ true => g; have h := g.eq; clear g) | (subst h; rename BV _ false => g; have h := g.eq; clear g) | skip); (have hp := h; try simp only [q_n] at hp); (try (exfalso; first | omega | (cases hp; done))));
  refine zX (zZ ?_); refine xBi rfl rfl rfl rfl rfl rfl ?_; intro _ _; refine xAs rfl rfl rfl rfl ?_; refine zY ?_; refine zU rfl (fun h => ?_) (fun h => ?_) <;> ((first | (subst h; rename BV _ true => g; have h := g.eq; clear g) | (subst h; rename BV _ false => g; have h := g.eq; clear g) | skip); (have hp := h; try simp only [q_n] at hp); (try (exfalso; first | omega | (cases hp; done))));
  refine zX (zZ ?_); refine xMv rfl rfl rfl rfl ?_; refine xMv rfl rfl rfl rfl ?_; refine xBi rfl rfl rfl rfl rfl rfl ?_; intro _ _; rotate_left
  (all_goals (repeat (rename BV _ _ => hbv; cases hbv)))
  all_goals (try (first | cases ‹true = false› | cases ‹false = true›))
  rename Nat => b4; revert b4
  intro b4
  refine zV rfl rfl rfl (yX rfl rfl (zQ (by kernel_rfl)) (want_q _ (decide_eq_true (by omega)) _)) ?_
  refine zY ?_; refine zX (zZ ?_); refine xMv rfl rfl rfl rfl ?_; apply zV; rfl; rfl; rfl; (refine yX rfl rfl (zQ (by kernel_rfl)) ?_; exact hlc (by (exact Upd.there (Upd.there (Upd.here))))); refine xMv rfl rfl rfl rfl ?_; refine zY ?_; refine yZ ?_; rotate_left
  (all_goals (repeat (rename BV _ _ => hbv; cases hbv)))
  all_goals (try (first | cases ‹true = false› | cases ‹false = true›))
  refine ex_loop (fun (z : Nat × Value × List Nat) => (⟨[(0, .ptr b 0), (1, .int .i64 0), (4, .ptr b4 0), (36, .int .i64 ns.length), (37, .int .i64 z.1)], .cells b4 [.int .i64 3, .int .i64 0, noStr, .slv z.2.1] 160 :: .row z.2.1 160 4 ((ns.take z.1).map itC) :: rdE b z.2.2 :: σ, [], Tryz.f147.ntmps⟩ : St)) (fun z => z.1 ≤ ns.length ∧ z.2.2 = (ns.drop z.1).flatMap itemL ++ D) (fun z => ns.length - z.1) (0, nilS, F) (⟨Nat.zero_le _, hF.symm⟩) (St.le_of (by repeat (first | exact trivial | refine ⟨rfl, ?_⟩)) (by repeat (first | exact q_r | apply q_q | apply q_k))) ?_
  intro z hI
  clear hlc hnl hx hcv hFn
  obtain ⟨k, v, R⟩ := z
  obtain ⟨hI1, hI2⟩ := hI
  dsimp only at hI1 hI2 ⊢
  by_cases hk : k < ns.length
  · obtain ⟨n, hn⟩ : ∃ n, ns[k]? = some n := get_some hk
    have hnb := hns n (List.mem_of_getElem? hn)
    have hdr : ns.drop k = n :: ns.drop (k + 1) := drop_get hn
    obtain ⟨S, hS⟩ : ∃ S, (ns.drop (k + 1)).flatMap itemL ++ D = S := ⟨_, rfl⟩
    have hR : R = itemL n ++ S := by rw [hI2, hdr, List.flatMap_cons, List.append_assoc, hS]
    have hSl : S.length ≤ 70000 := by
      have h1 := items_top (ns.drop (k + 1)) (fun x hx => hns x (List.mem_of_mem_drop hx))
      rw [← hS, List.length_append]
      rw [List.length_drop] at h1; omega
    have hst : (ns.take (k + 1)).map itC = (ns.take k).map itC ++ [itC n] := by rw [List.take_add_one, hn, List.map_append]; rfl
    have htl : ((ns.take k).map itC).length ≤ 100 := by rw [List.length_map, List.length_take]; omega
    rw [hR]
    have hvc : ∀ {σ σ' : List Ent} {d : Int}, Upd σ (rdE b (itemL n ++ S)) (rdE b S) σ' → SCall Tryz.prog 147 [.ptr b 0, .int .i64 d] σ (Is (.agg (itC n)) σ') := fun h => valueI_at hnb hSl h
    clear hns hn hI2 hdr hR hF hFl hI1 hD
    generalize (ns.take k).map itC = T at hst htl ⊢
    generalize itemL n ++ S = R0 at hvc ⊢
    refine zX (zZ ?_); refine xBi rfl rfl rfl rfl rfl rfl ?_; intro _ _; refine zY ?_; refine zX ?_; refine zU rfl (fun h => ?_) (fun h => ?_) <;> ((first | (subst h; rename BV _ true => g; have h := g.eq; clear g) | (subst h; rename BV _ false => g; have h := g.eq; clear g) | skip); (have hp := h; try simp only [q_n] at hp); (try (exfalso; first | omega | (cases hp; done))));
    refine zG ?_; refine zX ?_; refine yZ ?_; rotate_left
    (all_goals (repeat (rename BV _ _ => hbv; cases hbv)))
    all_goals (try (first | cases ‹true = false› | cases ‹false = true›))
    refine ex_drawLK (fun e => e = .cells b4 [.int .i64 3, .int .i64 0, noStr, .slv v] 160) 8 [5, 7] rfl (by kernel_rfl) rfl ?_
    simp only [List.take_succ_cons, List.take_zero, List.drop_succ_cons, List.drop_zero]
    apply zR; rfl; rfl; rfl; (intro σ' hl; (apply zP; rfl; rfl; rfl)); apply zR; rfl; rfl; rfl; (intro σ' hl; (apply g_load1; rfl; rfl; (exact .p (hl _ (by (rfl)) (by (repeat first | exact q_h | apply q_t | assumption); done)) rfl))); apply zR; rfl; rfl; rfl; (intro σ' hl; (apply zH; rfl)); apply zR; rfl; rfl; rfl; (intro σ' hl; (apply zH; rfl)); apply zR; rfl; rfl; rfl; (intro σ' hl; (apply g_add; rfl; rfl; rfl; exact ⟨by omega, by omega⟩)); refine wl_eff rfl rfl rfl (yX rfl rfl (zQ (by kernel_rfl)) (hvc (by (exact Upd.there (Upd.there (Upd.here)))))) ?_; rintro _ _ ⟨⟩; refine ⟨(by (rintro _ (rfl | rfl | rfl) _ <;> exact (by (repeat first | exact q_h | apply q_t | assumption); done))), ?_⟩; apply zR; rfl; rfl; rfl; (intro σ' hl; (exact gop_sealed (g_buildSlice rfl rfl (by decide) rfl rfl (by (simp only [chunkN, List.take_succ_cons, List.take_zero, List.drop_succ_cons, List.drop_zero]; rfl))))); refine wl_eff rfl rfl rfl (by apply g_append; rfl; rfl; rfl; (intro v'; (exact Upd.there (Upd.here))); (exact .d); (intro y hy; simp only [List.mem_map, List.mem_cons, List.not_mem_nil, or_false, List.mem_append] at hy; (focus (obtain ⟨_, _, rfl⟩ := hy; rfl; done))); (refine app_ok ?_ (by kernel_rfl); (try simp only [List.length_append, List.length_map, List.length_cons, List.length_nil, List.length_take, List.length_drop]); omega)) ?_; rintro _ _ ⟨v'⟩; refine ⟨(by (rintro _ (rfl | rfl) _ <;> exact (by (repeat first | exact q_h | apply q_t | assumption); done))), ?_⟩; refine wl_nil ?_; refine xFa rfl rfl rfl rfl rfl rfl ?_; apply yY; rfl; rfl; (apply zL; rfl; rfl; rfl; (exact Upd.here); (simp only [setL, q_z, AV.cells]; rfl); rfl; rfl; rfl; exact q_b rfl); refine zC ?_; refine zZ ?_; apply zV; rfl; rfl; rfl; (apply g_add; rfl; rfl; rfl; exact ⟨by omega, by omega⟩); refine xMv rfl rfl rfl rfl ?_; refine zC ?_; simp only [zD, zK, zJ, zT, retA, ↓reduceIte, Nat.reduceEqDiff]; rotate_left
    (all_goals (repeat (rename BV _ _ => hbv; cases hbv)))
    all_goals (try (first | cases ‹true = false› | cases ‹false = true›))
    rename Value => v2
    refine ⟨(k + 1, v2, S), ⟨hk, hS.symm⟩, by dsimp only; omega, ?_⟩
    dsimp only
    rw [hst]
    exact (St.le_of (by repeat (first | exact trivial | refine ⟨rfl, ?_⟩)) (by repeat (first | exact q_r | apply q_q | apply q_k | exact q_a)))
  · have e : k = ns.length := by omega
    subst e
    have hall : ns.take ns.length = ns := List.take_length
    have hR : R = D := by rw [hI2, List.drop_length]; rfl
    rw [hall, hR]
    clear hI2 hR hns
    refine zX (zZ ?_); refine xBi rfl rfl rfl rfl rfl rfl ?_; intro _ _; refine zY ?_; refine zX ?_; refine zU rfl (fun h => ?_) (fun h => ?_) <;> ((first | (subst h; rename BV _ true => g; have h := g.eq; clear g) | (subst h; rename BV _ false => g; have h := g.eq; clear g) | skip); (have hp := h; try simp only [q_n] at hp); (try (exfalso; first | omega | (cases hp; done))));
    refine ex_exit ?_; refine zX (zZ ?_); refine xLa rfl rfl rfl rfl (by decide) rfl (.p (by (repeat first | exact q_h | apply q_t | assumption); done) rfl rfl) ?_; apply yY; rfl; rfl; (apply zL; rfl; rfl; rfl; (exact Upd.here); (simp only [setL, q_z, AV.cells]; rfl); rfl; rfl; rfl; exact q_b rfl); refine zY ?_; refine yV ?_; simp only [zD, zK, zJ, zT, retA, ↓reduceIte, Nat.reduceEqDiff]; rotate_left
    (all_goals (repeat (rename BV _ _ => hbv; cases hbv)))
    all_goals (try (first | cases ‹true = false› | cases ‹false = true›))
    refine ret_q (σ3 := .row v 160 4 (ns.map itC) :: rdE b D :: σ) .nil ((by repeat (first | exact Res.nil | (apply Res.cons; (first | (apply Res1.ofTmp; rfl) | (apply Res1.ofCell; rfl; rfl; (first | exact .e rfl | exact .p (by (repeat first | exact q_h | apply q_t | assumption); done) rfl | exact .r (by (repeat first | exact q_h | apply q_t | assumption); done) rfl)) | (apply Res1.ofAgg; rfl; rfl; decide; (first | exact .e rfl rfl | exact .p (by (repeat first | exact q_h | apply q_t | assumption); done) rfl rfl | exact .r (by (repeat first | exact q_h | apply q_t | assumption); done) rfl rfl))))))) (by repeat (first | exact q_r | apply q_q | apply q_k | exact q_a)) ?_
    exact fin_seal .here (.agg (.same (.same (.same (.here .nil)))) .nil) (fin_done .mk)
end Go.Proofs.YtkhoengjdfmfaaaGreat
namespace Go.Proofs.YtkhoengjdfmfaaaGreat
theorem two_of {ws : Array Value} (h : ws.size = 2) : ∃ a b, ws = #[a, b] := by
  obtain ⟨l⟩ := ws
  match l, h with
  | [a, b], _ => exact ⟨a, b, rfl⟩
set_option maxHeartbeats 4000000 in
theorem idle_c : Idle Tryz.prog 146 2 := by
  intro ws w hws
  obtain ⟨a, b, rfl⟩ := two_of hws
  refine callsDIn_of_wpSIn Tryz.func146 rfl trivial fun c₀ cs hu => ?_
  apply wpSIn_seq
  apply wpSIn_region
  simp [wpOpsSIn, go_sem, recoverD, hu, Tryz.ntmps146, Exit.thenS]
  apply wpSIn_seq
  apply wpSIn_region
  simp [wpOpsSIn, go_sem, Exit.thenS]
  refine wpSIn_cond (t := false) (by simp [Act.eval, Array.replicate]) ?_
  simp only [Bool.false_eq_true, if_false]
  refine wpSIn_of_wpIn rfl (wpIn_skip ?_)
  cases c₀
  simp_all [bodyPostS, results]
set_option maxHeartbeats 8000000 in
theorem decode_c (ns : List Int) (hns : ∀ n ∈ ns, 0 ≤ n ∧ n ≤ 1073741824) (hl : ns.length ≤ 100) (σ : List Ent) :
    SCall Tryz.prog 123 [bys (encL ns)] σ (Is (.tup [.agg (lvC ns), .int .i64 0]) σ) := by
  refine scall_ofD Tryz.func123 rfl (by simp) ?_
  have hv : ∀ {b : Nat} {σ σ' : List Ent}, Upd σ (rdE b (encL ns)) (rdE b []) σ' → SCall Tryz.prog 147 [.ptr b 0, .int .i64 0] σ (Is (.agg (lvC ns)) σ') := fun {b σ σ'} h => by
    have h0 := fun σ0 => valueL_c b ns [] hns hl (by simp) σ0
    rw [List.append_nil] at h0
    exact scall_updI h0 h
  generalize encL ns = C at hv ⊢
  refine exd_seq ?_
  refine zZ ?_; refine zE rfl rfl rfl (g_alloc rfl) ?_; intro _; refine zE rfl rfl rfl (g_alloc rfl) ?_; intro _; refine zC ?_; rotate_left
  (all_goals (repeat (rename BV _ _ => hbv; cases hbv)))
  all_goals (try (first | cases ‹true = false› | cases ‹false = true›))
  rename Nat => b3; revert b3; rename Nat => b2; revert b2
  intro b2 b3
  refine exd_region (exdl_op rfl rfl (g_makeFunc rfl rfl) ?_)
  rintro _ _ ⟨⟩
  refine exdl_defer rfl (zQ (by kernel_rfl)) idle_c ?_
  refine zX (zZ ?_); refine xMv rfl rfl rfl rfl ?_; apply zV; rfl; rfl; rfl; (apply g_build; rfl; rfl; rfl; rfl); refine zE rfl rfl rfl (g_box rfl rfl) ?_; intro _; refine xAs rfl rfl rfl rfl ?_; refine zY ?_; refine zX (zZ ?_); refine xMv rfl rfl rfl rfl ?_; apply zV; rfl; rfl; rfl; (refine yX rfl rfl (zQ (by kernel_rfl)) ?_; exact hv (by (exact Upd.here))); apply yY; rfl; rfl; (apply zL; rfl; rfl; rfl; (exact Upd.there (Upd.there (Upd.here))); (simp only [setL, q_z, AV.cells]; rfl); rfl; rfl; rfl; exact q_b rfl); refine zY ?_; refine zX (zZ ?_); refine xMv rfl rfl rfl rfl ?_; refine xMv rfl rfl rfl rfl ?_; apply zV; rfl; rfl; rfl; (apply g_nilCheck; rfl; rfl); refine xFa rfl rfl rfl rfl rfl rfl ?_; refine xLd rfl rfl rfl rfl rfl (.p (by (repeat first | exact q_h | apply q_t | assumption); done) rfl) ?_; apply zV; rfl; rfl; rfl; (apply g_len; rfl; rfl; (exact (List.length_map _).symm)); refine xBi rfl rfl rfl rfl rfl rfl ?_; intro _ _; simp only [zD, zK, zJ, zT, retA, ↓reduceIte, Nat.reduceEqDiff]; rotate_left
  (all_goals (repeat (rename BV _ _ => hbv; cases hbv)))
  all_goals (try (first | cases ‹true = false› | cases ‹false = true›))
  refine zV rfl rfl rfl (yX rfl rfl (zQ (by kernel_rfl)) (want_q _ rfl _)) ?_
  refine zY ?_; refine zX (zZ ?_); refine xLa rfl rfl rfl rfl (by decide) rfl (.p (by (repeat first | exact q_h | apply q_t | assumption); done) rfl rfl) ?_; apply yY; rfl; rfl; (apply zL; rfl; rfl; rfl; (exact Upd.there (Upd.there (Upd.here))); (simp only [setL, q_z, AV.cells]; rfl); rfl; rfl; rfl; exact q_b rfl); apply yY; rfl; rfl; (apply zL; rfl; rfl; rfl; (exact Upd.there (Upd.here)); (simp only [setL, q_z, AV.cells]; rfl); rfl; rfl; rfl; exact q_b rfl); refine zY ?_; refine yV ?_; simp only [zD, zK, zJ, zT, retA, ↓reduceIte, Nat.reduceEqDiff]; rotate_left
  (all_goals (repeat (rename BV _ _ => hbv; cases hbv)))
  all_goals (try (first | cases ‹true = false› | cases ‹false = true›))
  refine ret_q (σ3 := σ) .nil ((by repeat (first | exact Res.nil | (apply Res.cons; (first | (apply Res1.ofTmp; rfl) | (apply Res1.ofCell; rfl; rfl; (first | exact .e rfl | exact .p (by (repeat first | exact q_h | apply q_t | assumption); done) rfl | exact .r (by (repeat first | exact q_h | apply q_t | assumption); done) rfl)) | (apply Res1.ofAgg; rfl; rfl; decide; (first | exact .e rfl rfl | exact .p (by (repeat first | exact q_h | apply q_t | assumption); done) rfl rfl | exact .r (by (repeat first | exact q_h | apply q_t | assumption); done) rfl rfl))))))) (by repeat (first | exact q_r | apply q_q | apply q_k | exact q_a)) ?_
  exact fin_done .mk
end Go.Proofs.YtkhoengjdfmfaaaGreat
namespace Go.Proofs.YtkhoengjdfmfaaaGreat
structure Pk where
  f : Int
  t : Int
  d : List Nat
abbrev pkC (p : Pk) : List AV := [.int .i64 p.f, .int .i64 p.t, bys p.d]
abbrev pkV (p : Pk) : AV := .agg (pkC p)
abbrev pks (L : List Pk) : AV := .dl 3 (L.map pkC)
abbrev netC (L : List Pk) : List AV := [pks L, .dl 2 []]
abbrev netV (L : List Pk) : AV := .agg (netC L)
structure OkP (p : Pk) : Prop where
  f0 : 0 ≤ p.f
  t0 : 0 ≤ p.t
  ne : p.f ≠ p.t
  f1 : p.f < 24
  t1 : p.t < 24
  d1 : p.d.length ≤ 1048576
theorem between_c (f t : Int) (σ : List Ent) : SCall Tryz.prog 101 [.int .i64 f, .int .i64 t] σ (Is (.agg [.int .i64 (min f t), .int .i64 (max f t)]) σ) := by
  refine scall_of Tryz.func101 rfl (by simp) ?_
  refine zX (zZ ?_); refine zE rfl rfl rfl (g_alloc rfl) ?_; intro _; refine zY ?_; refine zX (zZ ?_); refine xMv rfl rfl rfl rfl ?_; refine xMv rfl rfl rfl rfl ?_; apply zV; rfl; rfl; rfl; (apply g_min; rfl; rfl); refine xMv rfl rfl rfl rfl ?_; refine xMv rfl rfl rfl rfl ?_; apply zV; rfl; rfl; rfl; (apply g_max; rfl; rfl); apply zV; rfl; rfl; rfl; (apply g_buildArr; rfl; rfl; rfl; rfl); apply yY; rfl; rfl; (apply zL; rfl; rfl; rfl; (exact Upd.here); (simp only [setL, q_z, AV.cells]; rfl); rfl; rfl; rfl; exact q_b rfl); refine zY ?_; refine yV ?_; simp only [zD, zK, zJ, zT, retA, ↓reduceIte, Nat.reduceEqDiff]; rotate_left
  (all_goals (repeat (rename BV _ _ => hbv; cases hbv)))
  all_goals (try (first | cases ‹true = false› | cases ‹false = true›))
  refine ret_is .nil ((by repeat (first | exact Res.nil | (apply Res.cons; (first | (apply Res1.ofTmp; rfl) | (apply Res1.ofCell; rfl; rfl; (first | exact .e rfl | exact .p (by (repeat first | exact q_h | apply q_t | assumption); done) rfl | exact .r (by (repeat first | exact q_h | apply q_t | assumption); done) rfl)) | (apply Res1.ofAgg; rfl; rfl; decide; (first | exact .e rfl rfl | exact .p (by (repeat first | exact q_h | apply q_t | assumption); done) rfl rfl | exact .r (by (repeat first | exact q_h | apply q_t | assumption); done) rfl rfl))))))) (by repeat (first | exact q_r | apply q_q | apply q_k | exact q_a)) ?_
  rfl
theorem link_c (a b : Int) (h : 0 ≤ a ∧ a < b ∧ b < 24) (σ : List Ent) : SCall Tryz.prog 65 [.agg [.int .i64 a, .int .i64 b]] σ (Is (.bool true) σ) := by
  refine scall_of Tryz.func65 rfl (by simp) ?_
  refine zX (zZ ?_); refine zE rfl rfl rfl (g_box rfl rfl) ?_; intro _; refine xAs rfl rfl rfl rfl ?_; refine zY ?_; refine zX (zZ ?_); apply zV; rfl; rfl; rfl; (apply g_indexArr; rfl; rfl; rfl; (exact (rfl : (0:Int) = ((0:Nat):Int))); (exact q_b rfl); rfl); refine xLd rfl rfl rfl rfl rfl (.p (by (repeat first | exact q_h | apply q_t | assumption); done) rfl) ?_; refine xBi rfl rfl rfl rfl rfl rfl ?_; intro _ _; refine xMv rfl rfl rfl rfl ?_; refine zA rfl (fun h => ?_) (fun h => ?_) <;> ((first | (subst h; rename BV _ true => g; have h := g.eq; clear g) | (subst h; rename BV _ false => g; have h := g.eq; clear g) | skip); (have hp := h; try simp only [q_n] at hp); (try (exfalso; first | omega | (cases hp; done))));
  apply exl_isW; rfl; (rfl); rfl; rfl; (apply g_indexArr; rfl; rfl; rfl; (exact (rfl : (0:Int) = ((0:Nat):Int))); (exact q_b rfl); rfl); refine yLd rfl rfl rfl rfl rfl rfl (.p (by (repeat first | exact q_h | apply q_t | assumption); done) rfl) ?_; apply exl_isW; rfl; (rfl); rfl; rfl; (apply g_indexArr; rfl; rfl; rfl; (exact (rfl : (1:Int) = ((1:Nat):Int))); (exact q_b rfl); rfl); refine yLd rfl rfl rfl rfl rfl rfl (.p (by (repeat first | exact q_h | apply q_t | assumption); done) rfl) ?_; refine yBi rfl rfl rfl rfl rfl rfl rfl ?_; intro _ _; refine xPt rfl rfl rfl rfl rfl rfl ?_; refine xMv rfl rfl rfl rfl ?_; refine zA rfl (fun h => ?_) (fun h => ?_) <;> ((first | (subst h; rename BV _ true => g; have h := g.eq; clear g) | (subst h; rename BV _ false => g; have h := g.eq; clear g) | skip); (have hp := h; try simp only [q_n] at hp); (try (exfalso; first | omega | (cases hp; done))));
  apply exl_isW; rfl; (rfl); rfl; rfl; (apply g_indexArr; rfl; rfl; rfl; (exact (rfl : (1:Int) = ((1:Nat):Int))); (exact q_b rfl); rfl); refine yLd rfl rfl rfl rfl rfl rfl (.p (by (repeat first | exact q_h | apply q_t | assumption); done) rfl) ?_; refine yBi rfl rfl rfl rfl rfl rfl rfl ?_; intro _ _; refine xPt rfl rfl rfl rfl rfl rfl ?_; refine xAs rfl rfl rfl rfl ?_; refine zY ?_; refine yV ?_; simp only [zD, zK, zJ, zT, retA, ↓reduceIte, Nat.reduceEqDiff]; rotate_left
  (all_goals (repeat (rename BV _ _ => hbv; cases hbv)))
  all_goals (try (first | cases ‹true = false› | cases ‹false = true›))
  all_goals
    refine ret_is .nil (.cons (.ofTmp rfl) .nil) (by repeat (first | exact q_r | apply q_q | apply q_k | exact q_a)) ?_
    first | rfl | (simp only [oneA, AV.bool.injEq]; exact decide_eq_true (by omega))
theorem packet_c (p : Pk) (h : OkP p) (σ : List Ent) : SCall Tryz.prog 64 [pkV p] σ (Is (.bool true) σ) := by
  refine scall_of Tryz.func64 rfl (by simp) ?_
  have h1 := h.f0
  have h2 := h.t0
  have h3 := h.ne
  have h4 := h.f1
  have h5 := h.t1
  have h6 := h.d1
  have hl := link_c (min p.f p.t) (max p.f p.t) (by omega)
  refine zX (zZ ?_); refine zE rfl rfl rfl (g_box rfl rfl) ?_; intro _; refine xAs rfl rfl rfl rfl ?_; refine zY ?_; refine zX (zZ ?_); refine xFa rfl rfl rfl rfl rfl rfl ?_; refine xLd rfl rfl rfl rfl rfl (.p (by (repeat first | exact q_h | apply q_t | assumption); done) rfl) ?_; refine xFa rfl rfl rfl rfl rfl rfl ?_; refine xLd rfl rfl rfl rfl rfl (.p (by (repeat first | exact q_h | apply q_t | assumption); done) rfl) ?_; apply zV; rfl; rfl; rfl; (refine yX rfl rfl (zQ (by kernel_rfl)) ?_; exact between_c _ _ _); apply exl_isB; rfl; rfl; rfl; (refine yX rfl rfl (zQ (by kernel_rfl)) ?_; exact hl _); intro _ _; refine xMv rfl rfl rfl rfl ?_; refine zA rfl (fun h => ?_) (fun h => ?_) <;> ((first | (subst h; rename BV _ true => g; have h := g.eq; clear g) | (subst h; rename BV _ false => g; have h := g.eq; clear g) | skip); (have hp := h; try simp only [q_n] at hp); (try (exfalso; first | omega | (cases hp; done))));
  refine yFa rfl rfl rfl rfl rfl rfl rfl ?_; refine yLd rfl rfl rfl rfl rfl rfl (.p (by (repeat first | exact q_h | apply q_t | assumption); done) rfl) ?_; apply exl_isW; rfl; (rfl); rfl; rfl; (apply g_len; rfl; rfl; (exact (List.length_map _).symm)); refine yBi rfl rfl rfl rfl rfl rfl rfl ?_; intro _ _; refine xPt rfl rfl rfl rfl rfl rfl ?_; refine xAs rfl rfl rfl rfl ?_; refine zY ?_; refine yV ?_; simp only [zD, zK, zJ, zT, retA, ↓reduceIte, Nat.reduceEqDiff]; rotate_left
  (all_goals (repeat (rename BV _ _ => hbv; cases hbv)))
  all_goals (try (first | cases ‹true = false› | cases ‹false = true›))
  all_goals
    refine ret_is .nil (.cons (.ofTmp rfl) .nil) (by repeat (first | exact q_r | apply q_q | apply q_k | exact q_a)) ?_
    first | rfl | (simp only [oneA, AV.bool.injEq]; exact decide_eq_true (by first | omega | (simp only [List.length_map]; omega)))
theorem check1_c (p : Pk) (h : OkP p) (σ : List Ent) : SCall Tryz.prog 63 [pkV p] σ (Is (.bool false) σ) := by
  refine scall_of Tryz.func63 rfl (by simp) ?_
  refine zX (zZ ?_); refine zE rfl rfl rfl (g_box rfl rfl) ?_; intro _; refine xAs rfl rfl rfl rfl ?_; refine zY ?_; refine zX (zZ ?_); refine xLa rfl rfl rfl rfl (by decide) rfl (.p (by (repeat first | exact q_h | apply q_t | assumption); done) rfl rfl) ?_; apply exl_isB; rfl; rfl; rfl; (refine yX rfl rfl (zQ (by kernel_rfl)) ?_; exact packet_c p h _); intro _ _; apply exl_isB; rfl; rfl; rfl; (apply g_not; rfl); intro _ _; refine xAs rfl rfl rfl rfl ?_; refine zY ?_; refine yV ?_; simp only [zD, zK, zJ, zT, retA, ↓reduceIte, Nat.reduceEqDiff]; rotate_left
  (all_goals (repeat (rename BV _ _ => hbv; cases hbv)))
  all_goals (try (first | cases ‹true = false› | cases ‹false = true›))
  refine ret_is .nil (.cons (.ofTmp rfl) .nil) (by repeat (first | exact q_r | apply q_q | apply q_k | exact q_a)) ?_
  rfl
theorem fPk_idx (l : List Pk) (g : Nat) (first cap : List AV) (p : Pk → Bool) (σ : List Ent) (he : Enters Tryz.prog g) (hf : ∀ (k : Nat) (c : Pk), l[k]? = some c → SCall Tryz.prog g (first ++ [(pkV) c] ++ cap) σ (Is (.bool (p c)) σ)) :
    SCall Tryz.prog 100 [.dl 3 (l.map pkC), .fn (.func g) first cap] σ (Is (.int .i64 (idxFrom p l 0)) σ) := by
  refine scall_of Tryz.func100 rfl (by simp) ?_
  refine zX (zZ ?_); refine xAs rfl rfl rfl rfl ?_; refine zY ?_; refine zX ?_; refine zX (zZ ?_); refine xMv rfl rfl rfl rfl ?_; apply zV; rfl; rfl; rfl; (apply g_len; rfl; rfl; (exact (List.length_map _).symm)); refine xMv rfl rfl rfl rfl ?_; refine zY ?_; refine yZ ?_; rotate_left
  (all_goals (repeat (rename BV _ _ => hbv; cases hbv)))
  all_goals (try (first | cases ‹true = false› | cases ‹false = true›))
  refine ex_len (t := 0) rfl ((List.length_map _).symm) (fun hlen => ?_)
  refine ex_loop (fun (k : Nat) => (⟨[(0, .dl 3 (l.map pkC)), (1, .fn (.func g) first cap), (7, .int .i64 l.length), (8, .int .i64 k)], σ, [], Tryz.f100.ntmps⟩ : St)) (fun k => k ≤ l.length ∧ idxFrom p l 0 = idxFrom p (l.drop k) k) (fun k => l.length - k) 0 (⟨Nat.zero_le _, rfl⟩) (St.le_of (by repeat (first | exact trivial | refine ⟨rfl, ?_⟩)) (by repeat (first | exact q_r | apply q_q | apply q_k))) ?_
  intro k hI
  by_cases hk : k < l.length
  · obtain ⟨c, hc⟩ : ∃ c, l[k]? = some c := ⟨_, List.getElem?_eq_getElem hk⟩
    have hd := idxFrom_drop p hc
    refine zX (zZ ?_); refine xBi rfl rfl rfl rfl rfl rfl ?_; intro _ _; refine zY ?_; refine zX ?_; refine zU rfl (fun h => ?_) (fun h => ?_) <;> ((first | (subst h; rename BV _ true => g; have h := g.eq; clear g) | (subst h; rename BV _ false => g; have h := g.eq; clear g) | skip); (have hp := h; try simp only [q_n] at hp); (try (exfalso; first | omega | (cases hp; done))));
    refine zG ?_; refine zX ?_; refine yZ ?_; refine zX (zZ ?_); refine xMv rfl rfl rfl rfl ?_; refine xAs rfl rfl rfl rfl ?_; refine zY ?_; refine zX (zZ ?_); refine xMv rfl rfl rfl rfl ?_; refine xMv rfl rfl rfl rfl ?_; refine xMv rfl rfl rfl rfl ?_; apply zV; rfl; rfl; rfl; (apply g_indexDl; rfl; rfl; rfl; (rfl); (exact get_map (by assumption))); apply zV; rfl; rfl; rfl; (apply zB; rfl; decide; rfl; (exact .e rfl rfl)); apply zV; rfl; rfl; rfl; (exact yX rfl rfl he (hf k c hc)); refine zY ?_; refine zU rfl (fun h => ?_) (fun h => ?_) <;> ((first | (subst h; rename BV _ true => g; have h := g.eq; clear g) | (subst h; rename BV _ false => g; have h := g.eq; clear g) | skip); (have hp := h; try simp only [q_n] at hp); (try (exfalso; first | omega | (cases hp; done))));
    refine zX (zZ ?_); refine xMv rfl rfl rfl rfl ?_; refine xAs rfl rfl rfl rfl ?_; refine zY ?_; refine yV ?_; simp only [zD, zK, zJ, zT, retA, ↓reduceIte, Nat.reduceEqDiff]; rotate_left; refine zG ?_; refine zZ ?_; apply zV; rfl; rfl; rfl; (apply g_add; rfl; rfl; rfl; exact ⟨by omega, by omega⟩); refine xMv rfl rfl rfl rfl ?_; refine zC ?_; simp only [zD, zK, zJ, zT, retA, ↓reduceIte, Nat.reduceEqDiff]; rotate_left
    (all_goals (repeat (rename BV _ _ => hbv; cases hbv)))
    all_goals (try (first | cases ‹true = false› | cases ‹false = true›))
    · refine ret_is .nil (.cons (.ofTmp rfl) .nil) (List.Sublist.refl _) (int_eq ?_)
      rw [hI.2, hd, if_pos (by assumption)]
    · refine ⟨k + 1, ⟨hk, by rw [hI.2, hd, if_neg (by simp [*])]⟩, by omega, St.le_of (by repeat (first | exact trivial | refine ⟨rfl, ?_⟩)) (by repeat (first | exact q_r | apply q_q | apply q_k))⟩
  · refine zX (zZ ?_); refine xBi rfl rfl rfl rfl rfl rfl ?_; intro _ _; refine zY ?_; refine zX ?_; refine zU rfl (fun h => ?_) (fun h => ?_) <;> ((first | (subst h; rename BV _ true => g; have h := g.eq; clear g) | (subst h; rename BV _ false => g; have h := g.eq; clear g) | skip); (have hp := h; try simp only [q_n] at hp); (try (exfalso; first | omega | (cases hp; done))));
    refine ex_exit ?_; refine zX (zZ ?_); refine xAs rfl rfl rfl rfl ?_; refine zY ?_; refine yV ?_; simp only [zD, zK, zJ, zT, retA, ↓reduceIte, Nat.reduceEqDiff]; rotate_left
    (all_goals (repeat (rename BV _ _ => hbv; cases hbv)))
    all_goals (try (first | cases ‹true = false› | cases ‹false = true›))
    refine ret_is .nil (.cons (.ofTmp rfl) .nil) (List.Sublist.refl _) (int_eq ?_)
    rw [hI.2, List.drop_of_length_le (by omega)]; rfl
theorem fPk_any (l : List Pk) (g : Nat) (first cap : List AV) (p : Pk → Bool) (σ : List Ent) (he : Enters Tryz.prog g) (hf : ∀ (k : Nat) (c : Pk), l[k]? = some c → SCall Tryz.prog g (first ++ [(pkV) c] ++ cap) σ (Is (.bool (p c)) σ)) :
    SCall Tryz.prog 62 [.dl 3 (l.map pkC), .fn (.func g) first cap] σ (Is (.bool (l.any p)) σ) := by
  refine scall_of Tryz.func62 rfl (by simp) ?_
  refine zX (zZ ?_); refine xAs rfl rfl rfl rfl ?_; refine zY ?_; refine zX (zZ ?_); refine xMv rfl rfl rfl rfl ?_; refine xMv rfl rfl rfl rfl ?_; apply zV; rfl; rfl; rfl; (refine yX rfl rfl (zQ (by kernel_rfl)) ?_; exact fPk_idx l g first cap p σ he hf); refine xBi rfl rfl rfl rfl rfl rfl ?_; intro _ _; refine xAs rfl rfl rfl rfl ?_; refine zY ?_; refine yV ?_; simp only [zD, zK, zJ, zT, retA, ↓reduceIte, Nat.reduceEqDiff]; rotate_left
  (all_goals (repeat (rename BV _ _ => hbv; cases hbv)))
  all_goals (try (first | cases ‹true = false› | cases ‹false = true›))
  refine ret_is .nil (.cons (.ofTmp rfl) .nil) (List.Sublist.refl _) (bool_eq ?_)
  exact idxFrom_any p l 0
theorem netcheck_c (L : List Pk) (h : ∀ p ∈ L, OkP p) (hl : L.length ≤ 4096) (σ : List Ent) : SCall Tryz.prog 27 [netV L] σ (Is (.int .i64 0) σ) := by
  refine scall_of Tryz.func27 rfl (by simp) ?_
  have hany : L.any (fun _ => false) = false := by rw [List.any_eq_false]; intro x _; simp
  have hc := fun σ => fPk_any L 63 [] [] (fun _ => false) σ (zQ (by kernel_rfl)) (fun k c hk => check1_c c (h c (List.mem_of_getElem? hk)) σ)
  rw [hany] at hc
  refine zX (zZ ?_); refine zE rfl rfl rfl (g_box rfl rfl) ?_; intro _; refine xAs rfl rfl rfl rfl ?_; refine zY ?_; refine zX ?_; refine zX (zZ ?_); refine xFa rfl rfl rfl rfl rfl rfl ?_; refine xLd rfl rfl rfl rfl rfl (.p (by (repeat first | exact q_h | apply q_t | assumption); done) rfl) ?_; apply zV; rfl; rfl; rfl; (apply g_len; rfl; rfl; (exact (List.length_map _).symm)); refine xBi rfl rfl rfl rfl rfl rfl ?_; intro _ _; refine xMv rfl rfl rfl rfl ?_; refine zA rfl (fun h => ?_) (fun h => ?_) <;> ((first | (subst h; rename BV _ true => g; have h := g.eq; clear g) | (subst h; rename BV _ false => g; have h := g.eq; clear g) | skip); (have hp := h; try simp only [q_n] at hp); (try (exfalso; first | omega | (cases hp; done))));
  refine yFa rfl rfl rfl rfl rfl rfl rfl ?_; refine yLd rfl rfl rfl rfl rfl rfl (.p (by (repeat first | exact q_h | apply q_t | assumption); done) rfl) ?_; apply exl_isBW; rfl; (rfl); rfl; rfl; (refine yX rfl rfl (zQ (by kernel_rfl)) ?_; exact hc _); intro _ _; refine xPf rfl rfl rfl rfl rfl rfl ?_; refine zY ?_; refine zU rfl (fun h => ?_) (fun h => ?_) <;> ((first | (subst h; rename BV _ true => g; have h := g.eq; clear g) | (subst h; rename BV _ false => g; have h := g.eq; clear g) | skip); (have hp := h; try simp only [q_n] at hp); (try (exfalso; first | omega | (cases hp; done))));
  refine zG ?_; refine zX ?_; refine zX (zZ ?_); refine xFa rfl rfl rfl rfl rfl rfl ?_; refine xLd rfl rfl rfl rfl rfl (.p (by (repeat first | exact q_h | apply q_t | assumption); done) rfl) ?_; apply zV; rfl; rfl; rfl; (apply g_len; rfl; rfl; (rfl)); refine xMv rfl rfl rfl rfl ?_; refine zY ?_; refine yZ ?_; rotate_left
  (all_goals (repeat (rename BV _ _ => hbv; cases hbv)))
  all_goals (try (first | cases ‹true = false› | cases ‹false = true›))
  refine ex_loop (fun (z : Unit) => (⟨[(2, .int .i64 0), (15, .dl 2 []), (16, .int .i64 0), (17, .int .i64 0)], σ, [], Tryz.f27.ntmps⟩ : St)) (fun z => True) (fun z => 0) () (trivial) (St.le_of (by repeat (first | exact trivial | refine ⟨rfl, ?_⟩)) (by repeat (first | exact q_r | apply q_q | apply q_k))) ?_
  intro z hI
  refine zX (zZ ?_); refine xBi rfl rfl rfl rfl rfl rfl ?_; intro _ _; refine zY ?_; refine zX ?_; refine zU rfl (fun h => ?_) (fun h => ?_) <;> ((first | (subst h; rename BV _ true => g; have h := g.eq; clear g) | (subst h; rename BV _ false => g; have h := g.eq; clear g) | skip); (have hp := h; try simp only [q_n] at hp); (try (exfalso; first | omega | (cases hp; done))));
  refine ex_exit ?_; refine zX (zZ ?_); refine xAs rfl rfl rfl rfl ?_; refine zY ?_; refine yV ?_; simp only [zD, zK, zJ, zT, retA, ↓reduceIte, Nat.reduceEqDiff]; rotate_left
  (all_goals (repeat (rename BV _ _ => hbv; cases hbv)))
  all_goals (try (first | cases ‹true = false› | cases ‹false = true›))
  refine ret_is .nil (.cons (.ofTmp rfl) .nil) (by repeat (first | exact q_r | apply q_q | apply q_k | exact q_a)) ?_
  rfl
theorem netnew_c (σ : List Ent) : SCall Tryz.prog 45 [] σ (Is (.agg [.slv nilS, .slv nilS]) σ) := by
  refine scall_of Tryz.func45 rfl (by simp) ?_
  refine zX (zZ ?_); refine zE rfl rfl rfl (g_alloc rfl) ?_; intro _; refine zY ?_; refine zX (zZ ?_); refine xLa rfl rfl rfl rfl (by decide) rfl (.p (by (repeat first | exact q_h | apply q_t | assumption); done) rfl rfl) ?_; apply yY; rfl; rfl; (apply zL; rfl; rfl; rfl; (exact Upd.here); (simp only [setL, q_z, AV.cells]; rfl); rfl; rfl; rfl; exact q_b rfl); refine zY ?_; refine yV ?_; simp only [zD, zK, zJ, zT, retA, ↓reduceIte, Nat.reduceEqDiff]; rotate_left
  (all_goals (repeat (rename BV _ _ => hbv; cases hbv)))
  all_goals (try (first | cases ‹true = false› | cases ‹false = true›))
  refine ret_is .nil ((by repeat (first | exact Res.nil | (apply Res.cons; (first | (apply Res1.ofTmp; rfl) | (apply Res1.ofCell; rfl; rfl; (first | exact .e rfl | exact .p (by (repeat first | exact q_h | apply q_t | assumption); done) rfl | exact .r (by (repeat first | exact q_h | apply q_t | assumption); done) rfl)) | (apply Res1.ofAgg; rfl; rfl; decide; (first | exact .e rfl rfl | exact .p (by (repeat first | exact q_h | apply q_t | assumption); done) rfl rfl | exact .r (by (repeat first | exact q_h | apply q_t | assumption); done) rfl rfl))))))) (by repeat (first | exact q_r | apply q_q | apply q_k | exact q_a)) ?_
  rfl
set_option maxHeartbeats 4000000 in
theorem send_c (L : List Pk) (h : ∀ p ∈ L, OkP p) (hl : L.length ≤ 4096) (p : Pk) (hp0 : OkP p) (σ : List Ent) :
    SCall Tryz.prog 83 [netV L, pkV p] σ (Is (if L.length = 4096 then .tup [.agg [.slv nilS, .slv nilS], .int .i64 2] else .tup [netV (L ++ [p]), .int .i64 0]) σ) := by
  refine scall_of Tryz.func83 rfl (by simp) ?_
  have hc := fun σ => netcheck_c L h hl σ
  have hk := fun σ => packet_c p hp0 σ
  clear h hp0
  by_cases he : L.length = 4096
  · rw [if_pos he]
    have he1 : (L.length : Int) = 4096 := by omega
    refine zX (zZ ?_); refine zE rfl rfl rfl (g_box rfl rfl) ?_; intro _; refine zE rfl rfl rfl (g_box rfl rfl) ?_; intro _; refine zE rfl rfl rfl (g_alloc rfl) ?_; intro _; refine xAs rfl rfl rfl rfl ?_; refine zY ?_; refine zX ?_; refine zX (zZ ?_); refine xLa rfl rfl rfl rfl (by decide) rfl (.p (by (repeat first | exact q_h | apply q_t | assumption); done) rfl rfl) ?_; apply zV; rfl; rfl; rfl; (refine yX rfl rfl (zQ (by kernel_rfl)) ?_; exact hc _); refine xBi rfl rfl rfl rfl rfl rfl ?_; intro _ _; refine xMv rfl rfl rfl rfl ?_; refine zA rfl (fun h => ?_) (fun h => ?_) <;> ((first | (subst h; rename BV _ true => g; have h := g.eq; clear g) | (subst h; rename BV _ false => g; have h := g.eq; clear g) | skip); (have hp := h; try simp only [q_n] at hp); (try (exfalso; first | omega | (cases hp; done))));
    refine yLa rfl rfl rfl rfl rfl (by decide) rfl (.p (by (repeat first | exact q_h | apply q_t | assumption); done) rfl rfl) ?_; apply exl_isBW; rfl; (rfl); rfl; rfl; (refine yX rfl rfl (zQ (by kernel_rfl)) ?_; exact hk _); intro _ _; apply exl_isBW; rfl; (rfl); rfl; rfl; (apply g_not; rfl); intro _ _; refine xPf rfl rfl rfl rfl rfl rfl ?_; refine zY ?_; refine zU rfl (fun h => ?_) (fun h => ?_) <;> ((first | (subst h; rename BV _ true => g; have h := g.eq; clear g) | (subst h; rename BV _ false => g; have h := g.eq; clear g) | skip); (have hp := h; try simp only [q_n] at hp); (try (exfalso; first | omega | (cases hp; done))));
    refine zX (zZ ?_); refine xLa rfl rfl rfl rfl (by decide) rfl (.p (by (repeat first | exact q_h | apply q_t | assumption); done) rfl rfl) ?_; apply yY; rfl; rfl; (apply zL; rfl; rfl; rfl; (exact Upd.here); (simp only [setL, q_z, AV.cells]; rfl); rfl; rfl; rfl; exact q_b rfl); refine xAs rfl rfl rfl rfl ?_; refine zY ?_; refine yV ?_; simp only [zD, zK, zJ, zT, retA, ↓reduceIte, Nat.reduceEqDiff]; rotate_left; refine zG ?_; refine zX ?_; refine zX (zZ ?_); refine xFa rfl rfl rfl rfl rfl rfl ?_; refine xLd rfl rfl rfl rfl rfl (.p (by (repeat first | exact q_h | apply q_t | assumption); done) rfl) ?_; apply zV; rfl; rfl; rfl; (apply g_len; rfl; rfl; (exact (List.length_map _).symm)); refine xBi rfl rfl rfl rfl rfl rfl ?_; intro _ _; refine zY ?_; refine zU rfl (fun h => ?_) (fun h => ?_) <;> ((first | (subst h; rename BV _ true => g; have h := g.eq; clear g) | (subst h; rename BV _ false => g; have h := g.eq; clear g) | skip); (have hp := h; try simp only [q_n] at hp); (try (exfalso; first | omega | (cases hp; done))));
    refine zX (zZ ?_); refine xLa rfl rfl rfl rfl (by decide) rfl (.p (by (repeat first | exact q_h | apply q_t | assumption); done) rfl rfl) ?_; apply yY; rfl; rfl; (apply zL; rfl; rfl; rfl; (exact Upd.here); (simp only [setL, q_z, AV.cells]; rfl); rfl; rfl; rfl; exact q_b rfl); refine xAs rfl rfl rfl rfl ?_; refine zY ?_; refine yV ?_; simp only [zD, zK, zJ, zT, retA, ↓reduceIte, Nat.reduceEqDiff]; rotate_left
    (all_goals (repeat (rename BV _ _ => hbv; cases hbv)))
    all_goals (try (first | cases ‹true = false› | cases ‹false = true›))
    refine ret_is .nil ((by repeat (first | exact Res.nil | (apply Res.cons; (first | (apply Res1.ofTmp; rfl) | (apply Res1.ofCell; rfl; rfl; (first | exact .e rfl | exact .p (by (repeat first | exact q_h | apply q_t | assumption); done) rfl | exact .r (by (repeat first | exact q_h | apply q_t | assumption); done) rfl)) | (apply Res1.ofAgg; rfl; rfl; decide; (first | exact .e rfl rfl | exact .p (by (repeat first | exact q_h | apply q_t | assumption); done) rfl rfl | exact .r (by (repeat first | exact q_h | apply q_t | assumption); done) rfl rfl))))))) (by repeat (first | exact q_r | apply q_q | apply q_k | exact q_a)) ?_
    rfl
  · rw [if_neg he]
    have he1 : ¬ (L.length : Int) = 4096 := by omega
    have hat : L.length ≤ (L.map pkC).length := by rw [List.length_map]; exact Nat.le_refl _
    have htl : ((L.map pkC).take L.length).length = L.length := by rw [List.length_take]; omega
    have hput : (L ++ [p]).map pkC = (L.map pkC).take L.length ++ [pkC p] := by rw [List.map_append, List.take_of_length_le (by rw [List.length_map]; exact Nat.le_refl _)]; rfl
    have hres : netV (L ++ [p]) = .agg [.dl 3 ((L.map pkC).take L.length ++ [pkC p]), .dl 2 []] := by show AV.agg [.dl 3 ((L ++ [p]).map pkC), .dl 2 []] = _; rw [hput]
    rw [hres]
    clear hput hres
    refine zX (zZ ?_); refine zE rfl rfl rfl (g_box rfl rfl) ?_; intro _; refine zE rfl rfl rfl (g_box rfl rfl) ?_; intro _; refine zE rfl rfl rfl (g_alloc rfl) ?_; intro _; refine xAs rfl rfl rfl rfl ?_; refine zY ?_; refine zX ?_; refine zX (zZ ?_); refine xLa rfl rfl rfl rfl (by decide) rfl (.p (by (repeat first | exact q_h | apply q_t | assumption); done) rfl rfl) ?_; apply zV; rfl; rfl; rfl; (refine yX rfl rfl (zQ (by kernel_rfl)) ?_; exact hc _); refine xBi rfl rfl rfl rfl rfl rfl ?_; intro _ _; refine xMv rfl rfl rfl rfl ?_; refine zA rfl (fun h => ?_) (fun h => ?_) <;> ((first | (subst h; rename BV _ true => g; have h := g.eq; clear g) | (subst h; rename BV _ false => g; have h := g.eq; clear g) | skip); (have hp := h; try simp only [q_n] at hp); (try (exfalso; first | omega | (cases hp; done))));
    refine yLa rfl rfl rfl rfl rfl (by decide) rfl (.p (by (repeat first | exact q_h | apply q_t | assumption); done) rfl rfl) ?_; apply exl_isBW; rfl; (rfl); rfl; rfl; (refine yX rfl rfl (zQ (by kernel_rfl)) ?_; exact hk _); intro _ _; apply exl_isBW; rfl; (rfl); rfl; rfl; (apply g_not; rfl); intro _ _; refine xPf rfl rfl rfl rfl rfl rfl ?_; refine zY ?_; refine zU rfl (fun h => ?_) (fun h => ?_) <;> ((first | (subst h; rename BV _ true => g; have h := g.eq; clear g) | (subst h; rename BV _ false => g; have h := g.eq; clear g) | skip); (have hp := h; try simp only [q_n] at hp); (try (exfalso; first | omega | (cases hp; done))));
    refine zX (zZ ?_); refine xLa rfl rfl rfl rfl (by decide) rfl (.p (by (repeat first | exact q_h | apply q_t | assumption); done) rfl rfl) ?_; apply yY; rfl; rfl; (apply zL; rfl; rfl; rfl; (exact Upd.here); (simp only [setL, q_z, AV.cells]; rfl); rfl; rfl; rfl; exact q_b rfl); refine xAs rfl rfl rfl rfl ?_; refine zY ?_; refine yV ?_; simp only [zD, zK, zJ, zT, retA, ↓reduceIte, Nat.reduceEqDiff]; rotate_left; refine zG ?_; refine zX ?_; refine zX (zZ ?_); refine xFa rfl rfl rfl rfl rfl rfl ?_; refine xLd rfl rfl rfl rfl rfl (.p (by (repeat first | exact q_h | apply q_t | assumption); done) rfl) ?_; apply zV; rfl; rfl; rfl; (apply g_len; rfl; rfl; (exact (List.length_map _).symm)); refine xBi rfl rfl rfl rfl rfl rfl ?_; intro _ _; refine zY ?_; refine zU rfl (fun h => ?_) (fun h => ?_) <;> ((first | (subst h; rename BV _ true => g; have h := g.eq; clear g) | (subst h; rename BV _ false => g; have h := g.eq; clear g) | skip); (have hp := h; try simp only [q_n] at hp); (try (exfalso; first | omega | (cases hp; done))));
    refine zG ?_; refine zX ?_; refine ex_drawT rfl rfl (by kernel_rfl) rfl ?_; simp only [List.length_cons, List.length_nil, Nat.reduceAdd, Nat.reduceSub, List.take_succ_cons, List.take_zero, List.drop_succ_cons, List.drop_zero]; apply zR; rfl; rfl; rfl; (intro σ' hl; (apply zP; rfl; rfl; rfl)); apply zR; rfl; rfl; rfl; (intro σ' hl; (apply g_load1; rfl; rfl; (exact .p (hl _ (by (exact True.intro)) (by (repeat first | exact q_h | apply q_t | assumption); done)) rfl))); apply zR; rfl; rfl; rfl; (intro σ' hl; (apply zP; rfl; rfl; rfl)); apply zR; rfl; rfl; rfl; (intro σ' hl; (apply g_load1; rfl; rfl; (exact .p (hl _ (by (exact True.intro)) (by (repeat first | exact q_h | apply q_t | assumption); done)) rfl))); apply zR; rfl; rfl; rfl; (intro σ' hl; (apply g_len; rfl; rfl; (exact (List.length_map _).symm))); apply zR; rfl; rfl; rfl; (intro σ' hl; (apply zP; rfl; rfl; rfl)); apply zR; rfl; rfl; rfl; (intro σ' hl; (apply g_load1; rfl; rfl; (exact .p (hl _ (by (exact True.intro)) (by (repeat first | exact q_h | apply q_t | assumption); done)) rfl))); apply zR; rfl; rfl; rfl; (intro σ' hl; (apply g_len; rfl; rfl; (exact (List.length_map _).symm))); apply zR; rfl; rfl; rfl; (intro σ' hl; (exact g_slice3 rfl rfl rfl rfl rfl rfl hat)); apply zR; rfl; rfl; rfl; (intro σ' hl; (apply zB; rfl; decide; rfl; (exact .p (hl _ (by (exact True.intro)) (by (repeat first | exact q_h | apply q_t | assumption); done)) rfl rfl))); apply zR; rfl; rfl; rfl; (intro σ' hl; (exact gop_sealed (g_buildSlice rfl rfl (by decide) rfl rfl (by (simp only [chunkN, List.take_succ_cons, List.take_zero, List.drop_succ_cons, List.drop_zero]; rfl))))); apply zR; rfl; rfl; rfl; (intro σ' hl; (refine g_appendTS rfl rfl rfl (.s .d) ?_; refine app_ok ?_ (by kernel_rfl); rw [htl]; simp; omega)); apply zR; rfl; rfl; rfl; (intro σ' hl; (apply zP; rfl; rfl; rfl)); refine wl_nil ?_; apply yY; rfl; rfl; (apply zL; rfl; rfl; rfl; (exact Upd.there (Upd.there (Upd.here))); (simp only [setL, q_z, AV.cells]; rfl); rfl; rfl; rfl; exact q_b rfl); refine zY ?_; refine zX (zZ ?_); refine xLa rfl rfl rfl rfl (by decide) rfl (.p (by (repeat first | exact q_h | apply q_t | assumption); done) rfl rfl) ?_; apply yY; rfl; rfl; (apply zL; rfl; rfl; rfl; (exact Upd.here); (simp only [setL, q_z, AV.cells]; rfl); rfl; rfl; rfl; exact q_b rfl); refine xAs rfl rfl rfl rfl ?_; refine zY ?_; refine yV ?_; simp only [zD, zK, zJ, zT, retA, ↓reduceIte, Nat.reduceEqDiff]; rotate_left
    (all_goals (repeat (rename BV _ _ => hbv; cases hbv)))
    all_goals (try (first | cases ‹true = false› | cases ‹false = true›))
    refine ret_is .nil ((by repeat (first | exact Res.nil | (apply Res.cons; (first | (apply Res1.ofTmp; rfl) | (apply Res1.ofCell; rfl; rfl; (first | exact .e rfl | exact .p (by (repeat first | exact q_h | apply q_t | assumption); done) rfl | exact .r (by (repeat first | exact q_h | apply q_t | assumption); done) rfl)) | (apply Res1.ofAgg; rfl; rfl; decide; (first | exact .e rfl rfl | exact .p (by (repeat first | exact q_h | apply q_t | assumption); done) rfl rfl | exact .r (by (repeat first | exact q_h | apply q_t | assumption); done) rfl rfl))))))) (by repeat (first | exact q_r | apply q_q | apply q_k | exact q_a)) ?_
    rfl
end Go.Proofs.YtkhoengjdfmfaaaGreat
