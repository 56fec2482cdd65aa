/- Parts of the proof that belong together: Va Vb Ts Tn Tt. -/
import Derived.Test.YtkhoengjdfmfaaaGreatGF05
import Derived.Test.YtkhoengjdfmfaaaGreatGF06
set_option maxRecDepth 10000
set_option maxHeartbeats 8000000
set_option linter.unusedSimpArgs false
set_option linter.unusedVariables false
namespace Go.Proofs.YtkhoengjdfmfaaaGreat
abbrev b8C (n : Nat) : List AV := [.int .u8 (n : Int)]
abbrev bys (l : List Nat) : AV := .dl 1 (l.map b8C)
abbrev rowB (v : Value) (l : List Nat) : Ent := .row v 5 1 (l.map b8C)
abbrev noStr : AV := .str ⟨#[]⟩
abbrev itC (n : Int) : List AV := [.int .i64 1, .int .i64 n, noStr, .slv nilS]
abbrev lvC (ns : List Int) : List AV := [.int .i64 3, .int .i64 0, noStr, .dl 4 (ns.map itC)]
theorem it_get {l : List Int} {k : Nat} {x : Int} (h : l[k]? = some x) : (l.map itC)[k]? = some (itC x) := by rw [List.getElem?_map, h]; rfl
/-- What is said of a row's change, wherever it stands. -/
theorem scall_upd {P : Program} {f : FuncId} {args : List AV} {σ : List Ent} {e : Ent} {F : Value → List Ent} {E : Value → Ent} (h : ∀ σ0, SCall P f args (e :: σ0) (fun r τ => ∃ v', r = .slv v' ∧ τ = E v' :: σ0)) (hu : ∀ v', Upd σ e (E v') (F v')) : SCall P f args σ (fun r τ => ∃ v', r = .slv v' ∧ τ = F v') := by
 obtain ⟨a, c, h1, h2⟩ := (hu nilS).split
 have hp : σ.Perm (e :: (a ++ c)) := by rw [h1]; exact List.perm_middle
 refine ⟨fun X M w vs hg ha => ?_⟩
 refine Calls.mono ((h (a ++ c)).run X M w vs (hg.perm hp) ha) ?_
 rintro e' w' ⟨M', σ', r, v, hm, hg', hr, he, v', h3, h4⟩
 refine ⟨M', F v', r, v, hm, hg'.perm ?_, hr, he, v', h3, rfl⟩
 obtain ⟨a', c', k1, k2⟩ := (hu v').split
 rw [h4, k2]
 have h5 : (e :: (a ++ c)).Perm (e :: (a' ++ c')) := by
  have : (a ++ e :: c).Perm (a' ++ e :: c') := by rw [← h1, ← k1]
  exact List.perm_middle.symm.trans (this.trans List.perm_middle)
 exact ((h5.cons_inv).cons (E v')).trans List.perm_middle.symm
theorem formedI_c (n : Int) (σ : List Ent) : SCall Tryz.prog 162 [.agg (itC n)] σ (Is (.tup [.int .i64 0, .bool true]) σ) := by
 refine zL Tryz.func162 rfl (by simp) ?_
 refine zY (zZ ?_); refine xB ?_; intro _; (iterate 2 refine zP ?_); refine zX (zY (zZ ?_)); refine yG ?_; apply zU; rfl; rfl; rfl; (exact g_eqlStr (q := true) rfl rfl rfl (beq_self_eq_true _)); refine zR ?_; refine wL ?_; apply yZ; rfl; (rfl); rfl; rfl; (apply xH; rfl; rfl; (exact .inr ⟨rfl, rfl⟩)); refine wT ?_; intro _ _; refine xF ?_; refine yG ?_; refine xY ?_; intro _ _; refine zR ?_; refine xT ?_ ?_ <;> (intro h hp k; (try subst k); (try simp only [q_n] at hp); try first | omega | (cases hp; done));
 refine wL ?_; apply yZ; rfl; (rfl); rfl; rfl; (apply xH; rfl; rfl; (exact .inr ⟨rfl, rfl⟩)); refine wT ?_; intro _ _; refine xF ?_; refine yG ?_; refine xY ?_; intro _ _; refine zR ?_; refine xT ?_ ?_ <;> (intro h hp k; (try subst k); (try simp only [q_n] at hp); try first | omega | (cases hp; done));
 refine wL ?_; apply yZ; rfl; (rfl); rfl; rfl; (exact g_eqlStr (q := true) rfl rfl rfl (beq_self_eq_true _)); refine xF ?_; apply zU; rfl; rfl; rfl; (apply g_buildArr <;> rfl); refine xK ?_; intro _; refine yR ?_; refine zX (zY (zY (zZ ?_))); refine yG ?_; refine xY ?_; intro _ _; refine zR ?_; refine xT ?_ ?_ <;> (intro h hp k; (try subst k); (try simp only [q_n] at hp); try first | omega | (cases hp; done));
 refine wL ?_; refine wT ?_; intro _ _; refine yB ?_; refine zR ?_; refine xT ?_ ?_ <;> (intro h hp k; (try subst k); (try simp only [q_n] at hp); try first | omega | (cases hp; done));
 refine wL ?_; apply yZ; rfl; (rfl); rfl; rfl; (apply yT; rfl; rfl; rfl; (exact (rfl : (1:Int) = ((1:Nat):Int))); (exact q_b rfl); rfl); refine yLd ?_; refine yNo ?_; intro _ _; refine yB ?_; refine zX (yN ?_ ?_) <;> (intro h hp k; (try subst k); (try simp only [q_n] at hp); try first | omega | (cases hp; done));
 refine zY (zZ ?_); (iterate 2 refine zP ?_); refine zX (zV ?_); simp only [yX]; rotate_left; refine zW (zY (zY (zZ ?_))); refine yG ?_; refine zD ?_ ?_ <;> (intro h hp; (try simp only [q_n] at hp); try first | omega | (cases hp; done));
 refine zY (zZ ?_); (iterate 2 refine zP ?_); refine zX (zV ?_); simp only [yX]; rotate_left; (iterate 4 refine yC ?_); refine yB ?_; refine yG ?_; refine xY ?_; intro _ _; refine zR ?_; refine xT ?_ ?_ <;> (intro h hp k; (try subst k); (try simp only [q_n] at hp); try first | omega | (cases hp; done));
 (iterate 3 refine yC ?_); refine yB ?_; apply zU; rfl; rfl; rfl; (apply g_buildArr <;> rfl); refine xK ?_; intro _; refine yR ?_; refine zX (zY (zY (zZ ?_))); refine yG ?_; refine xY ?_; intro _ _; refine zR ?_; refine xT ?_ ?_ <;> (intro h hp k; (try subst k); (try simp only [q_n] at hp); try first | omega | (cases hp; done));
 refine wL ?_; refine wT ?_; intro _ _; refine yB ?_; refine zR ?_; refine xT ?_ ?_ <;> (intro h hp k; (try subst k); (try simp only [q_n] at hp); try first | omega | (cases hp; done));
 refine wL ?_; apply yZ; rfl; (rfl); rfl; rfl; (apply yT; rfl; rfl; rfl; (exact (rfl : (1:Int) = ((1:Nat):Int))); (exact q_b rfl); rfl); refine yLd ?_; refine yNo ?_; intro _ _; refine yB ?_; refine zX (yN ?_ ?_) <;> (intro h hp k; (try subst k); (try simp only [q_n] at hp); try first | omega | (cases hp; done));
 refine zY (zZ ?_); (iterate 2 refine zP ?_); refine zX (zV ?_); simp only [yX]; rotate_left; refine zW (zY (zY (zZ ?_))); refine yG ?_; refine zD ?_ ?_ <;> (intro h hp; (try simp only [q_n] at hp); try first | omega | (cases hp; done));
 refine zY (zZ ?_); (iterate 2 refine zP ?_); refine zX (zV ?_); simp only [yX]; rotate_left
 all_goals ((repeat (rename BV _ _ => k; first | cases k | clear k)); try exact zN)
 all_goals
  refine xW ?_
  rfl
theorem formedL_c (ns : List Int) (σ : List Ent) : SCall Tryz.prog 162 [.agg (lvC ns)] σ (Is (.tup [.int .i64 1, .bool true]) σ) := by
 refine zL Tryz.func162 rfl (by simp) ?_
 have h3 : (3 : Int) = ((3 : Nat) : Int) := rfl
 refine zY (zZ ?_); refine xB ?_; intro _; (iterate 2 refine zP ?_); refine zX (zY (zZ ?_)); refine yG ?_; apply zU; rfl; rfl; rfl; (exact g_eqlStr (q := true) rfl rfl rfl (beq_self_eq_true _)); refine zR ?_; refine wL ?_; apply yZ; rfl; (rfl); rfl; rfl; (apply xH; rfl; rfl; (exact (List.length_map _).symm)); refine wT ?_; intro _ _; refine xF ?_; refine yG ?_; refine xY ?_; intro _ _; refine zR ?_; refine xT ?_ ?_ <;> (intro h hp k; (try subst k); (try simp only [q_n] at hp); try first | omega | (cases hp; done));
 refine wL ?_; apply yZ; rfl; (rfl); rfl; rfl; (apply xH; rfl; rfl; (exact (List.length_map _).symm)); refine wT ?_; intro _ _; refine xF ?_; refine yG ?_; refine xY ?_; intro _ _; refine zR ?_; refine xT ?_ ?_ <;> (intro h hp k; (try subst k); (try simp only [q_n] at hp); try first | omega | (cases hp; done));
 refine wL ?_; apply yZ; rfl; (rfl); rfl; rfl; (exact g_eqlStr (q := true) rfl rfl rfl (beq_self_eq_true _)); refine xF ?_; apply zU; rfl; rfl; rfl; (apply g_buildArr <;> rfl); refine xK ?_; intro _; refine yR ?_; refine zX (zY (zY (zZ ?_))); refine yG ?_; refine xY ?_; intro _ _; refine zR ?_; refine xT ?_ ?_ <;> (intro h hp k; (try subst k); (try simp only [q_n] at hp); try first | omega | (cases hp; done));
 refine wL ?_; refine wT ?_; intro _ _; refine yB ?_; refine zR ?_; refine xT ?_ ?_ <;> (intro h hp k; (try subst k); (try simp only [q_n] at hp); try first | omega | (cases hp; done));
 refine wL ?_; apply yZ; rfl; (rfl); rfl; rfl; (apply yT; rfl; rfl; rfl; (rfl); (exact q_b rfl); rfl); refine yLd ?_; refine yNo ?_; intro _ _; refine yB ?_; refine zX (yN ?_ ?_) <;> (intro h hp k; (try subst k); (try simp only [q_n] at hp); try first | omega | (cases hp; done));
 refine zW (zY (zY (zZ ?_))); refine yG ?_; refine zD ?_ ?_ <;> (intro h hp; (try simp only [q_n] at hp); try first | omega | (cases hp; done));
 refine zW (zY (zY (zZ ?_))); refine yG ?_; refine wH ?_; refine zR ?_; refine zX (zT ?_); simp only [zA, zF, zE, zH, yK, ↓reduceIte, Nat.reduceEqDiff]; rotate_left
 all_goals ((repeat (rename BV _ _ => k; first | cases k | clear k)); try exact zN)
 all_goals
  refine pS (t := 55) rfl ((List.length_map _).symm) (fun hlen => ?_)
  refine yD (fun (k : Nat) => (⟨[(2, .int .i64 0), (55, .dl 4 (ns.map itC)), (56, .int .i64 ns.length), (57, .int .i64 k)], σ, [], Tryz.f162.ntmps⟩ : St)) (fun k => k ≤ ns.length) (fun k => ns.length - k) 0 (Nat.zero_le _) (St.le_of (by repeat (first | exact trivial | refine ⟨rfl, ?_⟩)) (by repeat (first | exact q_r | apply q_q | apply q_k))) ?_
  intro k hI
  by_cases hk : k < ns.length
  ·obtain ⟨c, hc⟩ : ∃ c, ns[k]? = some c := yW hk
   have hgc := it_get hc
   refine zY (zZ ?_); refine xY ?_; intro _ _; refine zX (zY (yN ?_ ?_)) <;> (intro h hp k; (try subst k); (try simp only [q_n] at hp); try first | omega | (cases hp; done));
   refine zW (zY (zT ?_)); refine zY (zZ ?_); refine vG ?_; refine yA ?_; refine xK ?_; intro _; refine yR ?_; refine zX (zY (zZ ?_)); refine yA ?_; apply zU; rfl; rfl; rfl; (refine yJ ?_; exact formedI_c _ _); refine zR ?_; (iterate 2 refine tG ?_); (iterate 2 refine zP ?_); refine zX (zY (zY (zZ ?_))); refine zR ?_; refine qY ?_; intro _ _; refine zX (yN ?_ ?_) <;> (intro h hp k; (try subst k); (try simp only [q_n] at hp); try first | omega | (cases hp; done));
   refine zW (zZ (zR ?_)); refine zR ?_; apply zU; rfl; rfl; rfl; (apply g_max <;> rfl); refine zP ?_; refine zQ (zZ (vX ?_)); refine zR ?_; refine zQ ?_; simp only [zA, zF, zE, zH, yK, ↓reduceIte, Nat.reduceEqDiff]; rotate_left
   all_goals ((repeat (rename BV _ _ => k; first | cases k | clear k)); try exact zN)
   refine ⟨k + 1, hk, by omega, ?_⟩
   exact wW
  ·refine zY (zZ ?_); refine xY ?_; intro _ _; refine zX (zY (yN ?_ ?_)) <;> (intro h hp k; (try subst k); (try simp only [q_n] at hp); try first | omega | (cases hp; done));
   refine yQ ?_; refine zY (zZ ?_); refine zR ?_; refine vX ?_; (iterate 2 refine zP ?_); refine zX (zV ?_); simp only [yX]; rotate_left
   all_goals ((repeat (rename BV _ _ => k; first | cases k | clear k)); try exact zN)
   refine xW ?_
   rfl
theorem checkV_c (ns : List Int) (σ : List Ent) : SCall Tryz.prog 149 [.agg (lvC ns)] σ (Is (.int .i64 0) σ) := by
 refine zL Tryz.func149 rfl (by simp) ?_
 refine zY (zZ ?_); refine xB ?_; intro _; refine zP ?_; refine zX (zY (zZ ?_)); refine yA ?_; apply zU; rfl; rfl; rfl; (refine yJ ?_; exact formedL_c _ _); refine zR ?_; (iterate 2 refine tG ?_); (iterate 2 refine zP ?_); refine zX (zY (zT ?_)); refine zY (zZ ?_); refine zR ?_; refine qY ?_; intro _ _; refine zP ?_; refine zX (yN ?_ ?_) <;> (intro h hp k; (try subst k); (try simp only [q_n] at hp); try first | omega | (cases hp; done));
 refine zY (zZ ?_); refine zR ?_; refine xY ?_; intro _ _; refine zP ?_; refine zX (yN ?_ ?_) <;> (intro h hp k; (try subst k); (try simp only [q_n] at hp); try first | omega | (cases hp; done));
 refine zW (zY (zZ ?_)); refine zP ?_; refine zX (zV ?_); simp only [yX]; rotate_left
 all_goals ((repeat (rename BV _ _ => k; first | cases k | clear k)); try exact zN)
 refine xW ?_
 rfl
theorem rowB_snoc (v : Value) (C : List Nat) (w : Nat) : rowB v (C ++ [w]) = .row v 5 1 (C.map b8C ++ [b8C w]) := by simp [rowB]
theorem or128 (u : Nat) : (u % 256) ||| 128 = u % 128 + 128 := by
 have h : ∀ x, x < 256 → x ||| 128 = x % 128 + 128 := by decide
 rw [h _ (Nat.mod_lt _ (by omega))]; omega
theorem numeral0_c (B : List Nat) (u : Nat) (hu : u < 9223372036854775808) (hB : B.length ≤ 100000) (v : Value) (σ : List Ent) :
  SCall Tryz.prog 164 [.slv v, .int .u64 u] (rowB v B :: σ) (fun r τ => ∃ v', r = .slv v' ∧ τ = rowB v' (B ++ tR u) :: σ) := by
 refine zL Tryz.func164 rfl (by simp) ?_
 refine zY (zZ ?_); refine zP ?_; refine zX (zY (zT ?_)); rotate_left
 all_goals ((repeat (rename BV _ _ => k; first | cases k | clear k)); try exact zN)
 refine yD (fun (z : List Nat × Nat × Value) => (⟨[(0, .slv z.2.2), (1, .int .u64 z.2.1)], rowB z.2.2 z.1 :: σ, [], Tryz.f164.ntmps⟩ : St)) (fun z => z.1 ++ tR z.2.1 = B ++ tR u ∧ z.2.1 < 9223372036854775808 ∧ z.1.length + (tR z.2.1).length ≤ 100010) (fun z => z.2.1) (B, u, v) (⟨rfl, hu, by have := numL_len (k := 8) (u := u) (by omega); dsimp only; omega⟩) (St.le_of (by repeat (first | exact trivial | refine ⟨rfl, ?_⟩)) (by repeat (first | exact q_r | apply q_q | apply q_k))) ?_
 intro z hI
 obtain ⟨C, w, x⟩ := z
 obtain ⟨hI1, hI2, hI3⟩ := hI
 dsimp only at hI1 hI2 hI3 ⊢
 clear hu hB
 by_cases hw : w < 128
 ·rw [qT hw] at hI1 hI3
  rw [← hI1]
  have h8 : IntKind.u8.wrap (w : Int) = (w : Int) := wrapU8 (by omega)
  simp only [List.length_singleton] at hI3
  refine zY (zY (zZ ?_)); refine zR ?_; refine zD ?_ ?_ <;> (intro h hp; (try simp only [q_n] at hp); try first | omega | (cases hp; done));
  refine yQ ?_; refine zY (zZ ?_); (iterate 2 refine zR ?_); apply zU; rfl; rfl; rfl; (exact vA rfl rfl rfl h8); refine qS rfl rfl rfl (by exact yV rfl rfl (by decide) rfl rfl (by (simp only [xC, wU]; rfl))) ?_; intro _; apply tQ; rfl; rfl; rfl; (apply xG; rfl; rfl; rfl; (intro v'; (exact Upd.there (Upd.here))); (exact .r (by repeat first | exact q_h | apply q_t | assumption)); (intro y hy; simp only [tC] at hy; (focus (obtain ⟨_, _, rfl⟩ := hy; rfl; done))); (refine wP ?_ (by kernel_rfl); (try simp only [List.length_append, List.length_map, List.length_cons, List.length_nil, List.length_take, List.length_drop]); omega)); intro _; refine zP ?_; refine zX (zV ?_); simp only [yX]; rotate_left
  all_goals ((repeat (rename BV _ _ => k; first | cases k | clear k)); try exact zN)
  rename Value => v2
  refine xX (σ3 := .row v2 5 1 (C.map b8C ++ [b8C w]) :: σ) ?_
  exact zJ ⟨v2, rfl, by rw [rowB_snoc]⟩
 ·rw [numL_hi hw] at hI1 hI3
  have h8 : IntKind.u8.wrap (w : Int) = ((w % 256 : Nat) : Int) := by rw [IntKind.wrap_u8]; omega
  have h128 : (128 : Int) = ((128 : Nat) : Int) := rfl
  have h7 : (7 : Int) = ((7 : Nat) : Int) := rfl
  rw [List.length_cons] at hI3
  have hnx : (C ++ [w % 128 + 128]) ++ tR (w / 128) = B ++ tR u := by rw [← hI1]; simp
  clear hI1
  refine zY (zY (zZ ?_)); refine zR ?_; refine zD ?_ ?_ <;> (intro h hp; (try simp only [q_n] at hp); try first | omega | (cases hp; done));
  refine zW (zY (zT ?_)); refine zZ (zR ?_); refine zR ?_; apply zU; rfl; rfl; rfl; (exact vA rfl rfl rfl h8); apply zU; rfl; rfl; rfl; (exact g_or8 rfl rfl rfl h128 (Nat.mod_lt _ (by omega)) (by omega) (or128 w)); refine qS rfl rfl rfl (by exact yV rfl rfl (by decide) rfl rfl (by (simp only [xC, wU]; rfl))) ?_; intro _; apply tQ; rfl; rfl; rfl; (apply xG; rfl; rfl; rfl; (intro v'; (exact Upd.there (Upd.here))); (exact .r (by repeat first | exact q_h | apply q_t | assumption)); (intro y hy; simp only [tC] at hy; (focus (obtain ⟨_, _, rfl⟩ := hy; rfl; done))); (refine wP ?_ (by kernel_rfl); (try simp only [List.length_append, List.length_map, List.length_cons, List.length_nil, List.length_take, List.length_drop]); omega)); intro _; refine zP ?_; refine zQ (zZ (zR ?_)); apply zU; rfl; rfl; rfl; (exact g_shrU rfl rfl rfl h7 (by omega) (show w / 2 ^ 7 = w / 128 from rfl)); refine zP ?_; refine zQ ?_; simp only [zA, zF, zE, zH, yK, ↓reduceIte, Nat.reduceEqDiff]; rotate_left
  all_goals ((repeat (rename BV _ _ => k; first | cases k | clear k)); try exact zN)
  rename Value => v2
  refine ⟨(C ++ [w % 128 + 128], w / 128, v2), ⟨hnx, by dsimp only; omega, by simp; omega⟩, by dsimp only; omega, ?_⟩
  dsimp only
  rw [rowB_snoc]
  exact wW
theorem unsigned_c (n : Nat) (hn : n ≤ 1073741824) (σ : List Ent) : SCall Tryz.prog 165 [.int .i64 n] σ (Is (.int .u64 ((2 * n : Nat) : Int)) σ) := by
 refine zL Tryz.func165 rfl (by simp) ?_
 have h1 : IntKind.u64.wrap (n : Int) = ((n : Nat) : Int) := tY (by omega)
 have h0 : IntKind.u64.wrap ((0 : Nat) : Int) = ((0 : Nat) : Int) := tY (by omega)
 have hone : (1 : Int) = ((1 : Nat) : Int) := rfl
 have h63 : (63 : Int) = ((63 : Nat) : Int) := rfl
 have hz : n / 2 ^ 63 = 0 := Nat.div_eq_of_lt (by omega)
 refine zY (zZ ?_); refine zP ?_; refine zX (zY (zZ ?_)); refine zR ?_; apply zU; rfl; rfl; rfl; (exact vA rfl rfl rfl h1); apply zU; rfl; rfl; rfl; (exact g_shlU rfl rfl rfl hone (by omega) (show n * 2 ^ 1 = 2 * n by omega) (by omega)); refine zR ?_; apply zU; rfl; rfl; rfl; (exact g_shrI rfl rfl rfl h63 (by omega) hz); apply zU; rfl; rfl; rfl; (exact vA rfl rfl rfl h0); apply zU; rfl; rfl; rfl; (exact g_xorU rfl rfl rfl rfl (by omega) (by omega) (Nat.xor_zero _)); refine zP ?_; refine zX (zV ?_); simp only [yX]; rotate_left
 all_goals ((repeat (rename BV _ _ => k; first | cases k | clear k)); try exact zN)
 refine xW ?_
 rfl
theorem numeral_c {B : List Nat} {u : Nat} {v : Value} {σ : List Ent} {F : Value → List Ent} (hu : u < 9223372036854775808) (hB : B.length ≤ 100000) (hF : ∀ v', Upd σ (rowB v B) (rowB v' (B ++ tR u)) (F v')) :
  SCall Tryz.prog 164 [.slv v, .int .u64 u] σ (fun r τ => ∃ v', r = .slv v' ∧ τ = F v') := scall_upd (fun σ0 => numeral0_c B u hu hB v σ0) hF
/-- A number is written. -/
theorem write1_c (B : List Nat) (n : Nat) (hn : n ≤ 1073741824) (hB : B.length ≤ 90000) (v : Value) (σ : List Ent) :
  SCall Tryz.prog 163 [.slv v, .agg (itC n)] (rowB v B :: σ) (fun r τ => ∃ v', r = .slv v' ∧ τ = rowB v' (B ++ vH n) :: σ) := by
 refine zL Tryz.func163 rfl (by simp) ?_
 have hit : B ++ vH n = (B ++ [1]) ++ tR (2 * n) := by unfold vH; simp
 rw [hit]
 have h1 := rowB_snoc
 refine zY (zZ ?_); refine xB ?_; intro _; refine zP ?_; refine zX (zY ?_); rotate_left
 all_goals ((repeat (rename BV _ _ => k; first | cases k | clear k)); try exact zN)
 rename Nat => b3
 refine uS (fun e => e = .cells b3 (itC n) 160) 7 [0, 1, 3, 4, 2, 5, 6] [4, 6] rfl (by kernel_rfl) rfl (by kernel_rfl) rfl ?_
 simp only [pick, List.filterMap_cons, List.filterMap_nil, List.getElem?_cons_zero, List.getElem?_cons_succ, wU]
 refine xU ?_; apply yY; rfl; rfl; rfl; (intro σ' hl; (exact xE (yV rfl rfl (by decide) rfl rfl (by (simp only [xC, wU]; rfl))))); refine vR ?_; refine vW ?_; refine wE rfl rfl rfl (by apply xG; rfl; rfl; rfl; (intro v'; (exact Upd.there (Upd.here))); (exact .d); (intro y hy; simp only [tC] at hy; (focus (obtain ⟨_, _, rfl⟩ := hy; rfl; done))); (refine wP ?_ (by kernel_rfl); (try simp only [List.length_append, List.length_map, List.length_cons, List.length_nil, List.length_take, List.length_drop]); omega)) ?_; rintro _ _ ⟨v'⟩; refine ⟨(by (rintro _ (rfl | rfl) _ <;> exact (by repeat first | exact q_h | apply q_t | assumption))), ?_⟩; apply yY; rfl; rfl; rfl; (intro σ' hl; (refine yJ ?_; exact unsigned_c n hn _)); refine wE rfl rfl rfl (xJ rfl rfl (zB (by kernel_rfl)) (numeral_c (B := B ++ [1]) (u := 2 * n) (by omega) (by simp; omega) (fun v' => by rw [h1]; exact (by (exact Upd.there (Upd.here)))))) ?_; rintro _ _ ⟨v', rfl, rfl⟩; refine ⟨(by (rintro _ (rfl | rfl | rfl) _ <;> exact (by repeat first | exact q_h | apply q_t | assumption))), ?_⟩; refine zC (zP ?_); refine zX (zV ?_); simp only [yX]; rotate_left
 all_goals ((repeat (rename BV _ _ => k; first | cases k | clear k)); try exact zN)
 refine xX (σ3 := rowB v' (B ++ [1] ++ tR (2 * n)) :: σ) ?_
 exact zJ ⟨v', rfl, rfl⟩
abbrev wrC (bx : Nat) : List AV := [.raw .nilFunc, .fn (.func 163) [] [], .fn (.func 166) [] [], .fn (.func 167) [] [.ptr bx 0]]
theorem newWriter_c (σ : List Ent) : SCall Tryz.prog 150 [] σ (fun r τ => ∃ bw bx, r = .ptr bw 0 ∧ τ = .cells bx [.ptr bw 0] 192 :: .cells bw (wrC bx) 206 :: σ) := by
 refine zL Tryz.func150 rfl (by simp) ?_
 have h3 : (3 : Int) = ((3 : Nat) : Int) := rfl
 refine zY (zZ ?_); refine zP ?_; refine zX (zY (zZ ?_)); apply zU; rfl; rfl; rfl; (apply g_buildArr <;> rfl); refine xB ?_; intro _; refine xK ?_; intro _; refine yR ?_; refine zX (zY (zZ ?_)); refine xLd ?_; apply zU; rfl; rfl; rfl; (apply zK <;> rfl); apply zU; rfl; rfl; rfl; (apply yT; rfl; rfl; rfl; (exact (rfl : (1:Int) = ((1:Nat):Int))); (exact q_b rfl); rfl); refine uZ ?_; refine yR ?_; refine zX (zY (zZ ?_)); refine xLd ?_; apply zU; rfl; rfl; rfl; (apply zK <;> rfl); apply zU; rfl; rfl; rfl; (apply yT; rfl; rfl; rfl; (exact (rfl : (2:Int) = ((2:Nat):Int))); (exact q_b rfl); rfl); refine uZ ?_; refine yR ?_; refine zX (zY (zZ ?_)); refine xLd ?_; apply zU; rfl; rfl; rfl; (apply qG <;> rfl); apply zU; rfl; rfl; rfl; (apply zK <;> rfl); apply zU; rfl; rfl; rfl; (apply yT; rfl; rfl; rfl; (rfl); (exact q_b rfl); rfl); refine uZ ?_; refine yR ?_; refine zX (zY (zZ ?_)); refine xLd ?_; refine zP ?_; refine zX (zV ?_); simp only [yX]; rotate_left
 all_goals ((repeat (rename BV _ _ => k; first | cases k | clear k)); try exact zN)
 rename Nat => bx; revert bx; rename Nat => bw; revert bw
 intro bw bx
 refine xX (σ3 := .cells bx [.ptr bw 0] 192 :: .cells bw (wrC bx) 206 :: σ) ?_
 exact zJ ⟨bw, bx, rfl, rfl⟩
theorem upd_keepsK {kp : Ent → Prop} {σ σ' : List Ent} {e e' : Ent} (hk : ¬ kp e) (h : Upd σ e e' σ') : AddsK kp σ σ' := by
 obtain ⟨a, c, rfl, rfl⟩ := h.split
 intro x hx hm
 rcases List.mem_append.1 hm with hm | hm
 ·simp [hm]
 ·rcases List.mem_cons.1 hm with rfl | hm
  ·exact absurd hx hk
  ·simp [hm]
theorem items_len : ∀ {ns : List Int}, (∀ n ∈ ns, 0 ≤ n ∧ n ≤ 1073741824) → (ns.flatMap vH).length ≤ 6 * ns.length
 | [], _ => Nat.zero_le _
 | n :: ns, h => by
  have h1 := pU (h n (by simp))
  have h2 := items_len (ns := ns) fun m hm => h m (by simp [hm])
  rw [List.flatMap_cons, List.length_append, List.length_cons]; omega
theorem write3_c (ns : List Int) (hns : ∀ n ∈ ns, 0 ≤ n ∧ n ≤ 1073741824) (hl : ns.length ≤ 100) (B : List Nat) (hB : B.length ≤ 1000) (bw bx : Nat) (v : Value) (σ : List Ent) :
  SCall Tryz.prog 167 [.slv v, .agg (lvC ns), .ptr bx 0] (rowB v B :: .cells bx [.ptr bw 0] 192 :: .cells bw (wrC bx) 206 :: σ) (fun r τ => ∃ v', r = .slv v' ∧ τ = rowB v' (B ++ [3] ++ tR ns.length ++ ns.flatMap vH) :: .cells bx [.ptr bw 0] 192 :: .cells bw (wrC bx) 206 :: σ) := by
 refine zL Tryz.func167 rfl (by simp) ?_
 have h1 := rowB_snoc
 have hw : IntKind.u64.wrap ((ns.length : Nat) : Int) = ((ns.length : Nat) : Int) := tY (by omega)
 have hnl := numL_len (k := 1) (u := ns.length) (by omega)
 refine zY (zZ ?_); refine xB ?_; intro _; refine zP ?_; refine zX (zY ?_); rotate_left
 all_goals ((repeat (rename BV _ _ => k; first | cases k | clear k)); try exact zN)
 rename Nat => b4
 refine uS (fun e => e = .cells b4 (lvC ns) 160) 8 [0, 1, 3, 4, 5, 6, 2, 7] [6, 7] rfl (by kernel_rfl) rfl (by kernel_rfl) rfl ?_
 simp only [pick, List.filterMap_cons, List.filterMap_nil, List.getElem?_cons_zero, List.getElem?_cons_succ, wU]
 refine xU ?_; apply yY; rfl; rfl; rfl; (intro σ' hl; (exact xE (yV rfl rfl (by decide) rfl rfl (by (simp only [xC, wU]; rfl))))); refine vR ?_; refine vW ?_; apply yY; rfl; rfl; rfl; (intro σ' hl; (apply xH; rfl; rfl; (exact (List.length_map _).symm))); apply yY; rfl; rfl; rfl; (intro σ' hl; (exact vA rfl rfl rfl hw)); refine wE rfl rfl rfl (by apply xG; rfl; rfl; rfl; (intro v'; (exact Upd.there (Upd.here))); (exact .d); (intro y hy; simp only [tC] at hy; (focus (obtain ⟨_, _, rfl⟩ := hy; rfl; done))); (refine wP ?_ (by kernel_rfl); (try simp only [List.length_append, List.length_map, List.length_cons, List.length_nil, List.length_take, List.length_drop]); omega)) ?_; rintro _ _ ⟨v'⟩; refine ⟨(by (rintro _ (rfl | rfl) _ <;> exact (by repeat first | exact q_h | apply q_t | assumption))), ?_⟩; refine wE rfl rfl rfl (xJ rfl rfl (zB (by kernel_rfl)) (numeral_c (B := B ++ [3]) (u := ns.length) (by omega) (by simp; omega) (fun v' => by rw [h1]; exact (by (exact Upd.there (Upd.here)))))) ?_; rintro _ _ ⟨v', rfl, rfl⟩; refine ⟨(by (rintro _ (rfl | rfl | rfl) _ <;> exact (by repeat first | exact q_h | apply q_t | assumption))), ?_⟩; refine zC (zP ?_); refine zX (zY (zY (zZ ?_))); refine yG ?_; refine wH ?_; refine zR ?_; refine zX (zT ?_); rotate_left
 all_goals ((repeat (rename BV _ _ => k; first | cases k | clear k)); try exact zN)
 have hC : (B ++ [3] ++ tR ns.length).length ≤ 1010 := by simp; omega
 have h00 : B ++ [3] ++ tR ns.length = B ++ [3] ++ tR ns.length ++ (ns.take 0).flatMap vH := by simp
 rw [h00]
 generalize B ++ [3] ++ tR ns.length = C at hC ⊢
 refine yD (fun (z : Nat × Value) => (⟨[(0, .slv z.2), (2, .ptr bx 0), (17, .dl 4 (ns.map itC)), (18, .int .i64 ns.length), (19, .int .i64 z.1)], rowB z.2 (C ++ (ns.take z.1).flatMap vH) :: .cells bx [.ptr bw 0] 192 :: .cells bw (wrC bx) 206 :: σ, [], Tryz.f167.ntmps⟩ : St)) (fun z => z.1 ≤ ns.length) (fun z => ns.length - z.1) (0, v') (Nat.zero_le _) (St.le_of (by repeat (first | exact trivial | refine ⟨rfl, ?_⟩)) (by repeat (first | exact q_r | apply q_q | apply q_k))) ?_
 intro z hI
 obtain ⟨k, w⟩ := z
 dsimp only at hI ⊢
 by_cases hk : k < ns.length
 ·obtain ⟨c, hc⟩ : ∃ c, ns[k]? = some c := yW hk
  have hgc := it_get hc
  have hcb := hns c (List.mem_of_getElem? hc)
  obtain ⟨m, rfl⟩ : ∃ m : Nat, c = m := ⟨c.toNat, by omega⟩
  have hst : C ++ (ns.take (k + 1)).flatMap vH = C ++ (ns.take k).flatMap vH ++ vH m := by rw [List.take_add_one, hc, List.flatMap_append]; simp
  have hil := items_len (ns := ns.take k) fun n hn => hns n (List.mem_of_mem_take hn)
  rw [List.length_take] at hil
  have hDl : (C ++ (ns.take k).flatMap vH).length ≤ 90000 := by rw [List.length_append]; omega
  generalize C ++ (ns.take k).flatMap vH = D at hst hDl ⊢
  clear hns hnl hB hC hil
  refine zY (zZ ?_); refine xY ?_; intro _ _; refine zX (zY (yN ?_ ?_)) <;> (intro h hp k; (try subst k); (try simp only [q_n] at hp); try first | omega | (cases hp; done));
  refine zW (zY (zT ?_)); refine zY (zZ ?_); refine vG ?_; refine yA ?_; refine xK ?_; intro _; refine yR ?_; refine zX ?_; rotate_left
  all_goals ((repeat (rename BV _ _ => k; first | cases k | clear k)); try exact zN)
  refine xN cellsK 10 [9] rfl (by kernel_rfl) rfl ?_
  simp only [wU]
  refine vW ?_; refine vR ?_; refine vW ?_; apply yY; rfl; rfl; rfl; (intro σ' hl; (apply zK <;> rfl)); apply yY; rfl; rfl; rfl; (intro σ' hl; (apply yT; rfl; rfl; rfl; (exact (rfl : (1:Int) = ((1:Nat):Int))); (exact q_b rfl); rfl)); refine vR ?_; refine vW ?_; refine xU ?_; refine qB ?_; refine wE rfl rfl rfl (xJ rfl rfl (zB (by kernel_rfl)) (scall_upd (fun σ0 => write1_c D m (by omega) hDl w σ0) (fun v' => by exact (by (exact Upd.there (Upd.here)))))) ?_; rintro _ _ ⟨v2, rfl, rfl⟩; refine ⟨upd_keepsK (fun h => h) (by (exact Upd.there (Upd.here))), ?_⟩; refine zC (zP ?_); refine zQ (zZ (vX ?_)); refine zR ?_; refine zQ ?_; simp only [zA, zF, zE, zH, yK, ↓reduceIte, Nat.reduceEqDiff]; rotate_left
  all_goals ((repeat (rename BV _ _ => k; first | cases k | clear k)); try exact zN)
  refine ⟨(k + 1, v2), hk, by dsimp only; omega, ?_⟩
  dsimp only
  rw [hst]
  exact wW
 ·have e : k = ns.length := by omega
  subst e
  rw [List.take_length]
  refine zY (zZ ?_); refine xY ?_; intro _ _; refine zX (zY (yN ?_ ?_)) <;> (intro h hp k; (try subst k); (try simp only [q_n] at hp); try first | omega | (cases hp; done));
  refine yQ ?_; refine zY (zZ ?_); refine zR ?_; refine zP ?_; refine zX (zV ?_); simp only [yX]; rotate_left
  all_goals ((repeat (rename BV _ _ => k; first | cases k | clear k)); try exact zN)
  refine xX (σ3 := rowB w (C ++ ns.flatMap vH) :: .cells bx [.ptr bw 0] 192 :: .cells bw (wrC bx) 206 :: σ) ?_
  exact zJ ⟨w, rfl, by simp⟩
def encL (ns : List Int) : List Nat := [3] ++ tR ns.length ++ ns.flatMap vH
theorem enc_msg (s : Sl) : encL (wZ s) = msgS s := by
 unfold encL msgS
 rw [show (wZ s).length = 8 from rfl, qT (by omega)]; rfl
theorem encode_c (ns : List Int) (hns : ∀ n ∈ ns, 0 ≤ n ∧ n ≤ 1073741824) (hl : ns.length ≤ 100) (σ : List Ent) :
  SCall Tryz.prog 126 [.agg (lvC ns)] σ (Is (.tup [bys (encL ns), .int .i64 0]) σ) := by
 refine zL Tryz.func126 rfl (by simp) ?_
 have hw := write3_c ns hns hl [] (by simp)
 have he : ([] : List Nat) ++ [3] ++ tR ns.length ++ ns.flatMap vH = encL ns := rfl
 rw [he] at hw
 have h3 : (3 : Int) = ((3 : Nat) : Int) := rfl
 generalize encL ns = C at hw ⊢
 refine qR 5 1 ?_
 refine zY (zZ ?_); refine xB ?_; intro _; (iterate 2 refine zP ?_); refine zX (zY (zY (zZ ?_))); refine yA ?_; apply zU; rfl; rfl; rfl; (refine yJ ?_; exact checkV_c _ _); refine zP ?_; refine zX (zY (zZ ?_)); refine zR ?_; refine zD ?_ ?_ <;> (intro h hp; (try simp only [q_n] at hp); try first | omega | (cases hp; done));
 refine zW (zY ?_); rotate_left
 all_goals ((repeat (rename BV _ _ => k; first | cases k | clear k)); try exact zN)
 rename Nat => b1
 refine uS cellsK 9 [1, 2, 7, 0, 3, 4, 5, 6, 8] [3, 8] rfl (by kernel_rfl) rfl (by kernel_rfl) rfl ?_
 simp only [pick, List.filterMap_cons, List.filterMap_nil, List.getElem?_cons_zero, List.getElem?_cons_succ, wU]
 refine vR ?_; refine vW ?_; refine qB ?_; refine wE rfl rfl rfl (xJ rfl rfl (zB (by kernel_rfl)) (newWriter_c _)) ?_; rintro _ _ ⟨bw, bx, rfl, rfl⟩; refine ⟨fun e _ h => List.mem_cons_of_mem _ (List.mem_cons_of_mem _ h), ?_⟩; apply yY; rfl; rfl; rfl; (intro σ' hl; (apply zK <;> rfl)); apply yY; rfl; rfl; rfl; (intro σ' hl; (apply yT; rfl; rfl; rfl; (rfl); (exact q_b rfl); rfl)); refine vR ?_; refine vW ?_; refine wE rfl rfl rfl (xJ rfl rfl (zB (by kernel_rfl)) (scall_permu (List.perm_middle (l₁ := [_, _, _])) (hw bw bx nilS _))) ?_; rintro _ _ ⟨v', rfl, rfl⟩; refine ⟨(by intro e hk hm; simp only [List.mem_cons, List.cons_append, List.nil_append] at hm ⊢; rcases hm with h | h | h | rfl | h <;> first | exact hk.elim | simp [h]), ?_⟩; simp only [List.cons_append, List.nil_append]; refine zC (zP ?_); refine zP ?_; refine zX (zV ?_); simp only [yX]; rotate_left
 all_goals ((repeat (rename BV _ _ => k; first | cases k | clear k)); try exact zN)
 refine xX (σ3 := rowB v' C :: σ) ?_
 exact vV .here (.tup (.here (.same .nil)) .nil) (zJ .mk)
theorem fields_c (b : Nat) (σ : List Ent) : SCall Tryz.prog 124 [.ptr b 0] σ (Is (.agg [.ptr b 0, .ptr b 1, .ptr b 2, .ptr b 3, .ptr b 4, .ptr b 5, .ptr b 6, .ptr b 7]) σ) := by
 refine zL Tryz.func124 rfl (by simp) ?_
 refine zY (zZ ?_); refine xK ?_; intro _; refine zX (zY (ex_drawT rfl rfl (by kernel_rfl) rfl ?_)); simp only [List.length_cons, List.length_nil, Nat.reduceAdd, Nat.reduceSub, List.take_succ_cons, List.take_zero, List.drop_succ_cons, List.drop_zero]; refine xU ?_; apply yY; rfl; rfl; rfl; (intro σ' hl; (apply zK <;> rfl)); refine vR ?_; refine xU ?_; apply yY; rfl; rfl; rfl; (intro σ' hl; (apply zK <;> rfl)); refine vR ?_; refine xU ?_; apply yY; rfl; rfl; rfl; (intro σ' hl; (apply zK <;> rfl)); refine vR ?_; refine xU ?_; apply yY; rfl; rfl; rfl; (intro σ' hl; (apply zK <;> rfl)); refine vR ?_; refine xU ?_; apply yY; rfl; rfl; rfl; (intro σ' hl; (apply zK <;> rfl)); refine vR ?_; refine xU ?_; apply yY; rfl; rfl; rfl; (intro σ' hl; (apply zK <;> rfl)); refine vR ?_; refine xU ?_; apply yY; rfl; rfl; rfl; (intro σ' hl; (apply zK <;> rfl)); refine vR ?_; refine xU ?_; apply yY; rfl; rfl; rfl; (intro σ' hl; (apply zK <;> rfl)); refine vR ?_; apply yY; rfl; rfl; rfl; (intro σ' hl; (apply g_buildArr <;> rfl)); refine zC (yR ?_); refine zX (zV ?_); simp only [yX]; rotate_left
 all_goals ((repeat (rename BV _ _ => k; first | cases k | clear k)); try exact zN)
 refine xW ?_
 rfl
theorem slC_get {s : Sl} {k : Nat} {n : Int} (h : (wZ s)[k]? = some n) : (slC s)[k + 0]? = some (.int .i64 n) := by
 rw [Nat.add_zero]
 have : slC s = (wZ s).map (AV.int .i64) := rfl
 rw [this, List.getElem?_map, h]; rfl
theorem ptrs_get {b k : Nat} (h : k < 8) : ([.ptr b 0, .ptr b 1, .ptr b 2, .ptr b 3, .ptr b 4, .ptr b 5, .ptr b 6, .ptr b 7] : List AV)[k]? = some (.ptr b k) := by
 rcases (by omega : k = 0 ∨ k = 1 ∨ k = 2 ∨ k = 3 ∨ k = 4 ∨ k = 5 ∨ k = 6 ∨ k = 7) with rfl | rfl | rfl | rfl | rfl | rfl | rfl | rfl <;> rfl
theorem message_c (s : Sl) (hs : Sendable s) (σ : List Ent) : SCall Tryz.prog 84 [slV s] σ (Is (bys (msgS s)) σ) := by
 refine zL Tryz.func84 rfl (by simp) ?_
 have hen := encode_c (wZ s) hs.nats (show (8 : Nat) ≤ 100 by omega)
 rw [enc_msg] at hen
 refine zY (zZ ?_); refine xB ?_; intro _; refine zP ?_; refine zX (zY (zZ ?_)); refine uA ?_; refine xK ?_; intro _; refine yR ?_; refine zX (zY (zY (zZ ?_))); apply zU; rfl; rfl; rfl; (refine yJ ?_; exact fields_c _ _); refine zR ?_; refine zX (zT ?_); simp only [zA, zF, zE, zH, yK, ↓reduceIte, Nat.reduceEqDiff]; rotate_left
 all_goals ((repeat (rename BV _ _ => k; first | cases k | clear k)); try exact zN)
 rename Nat => b3; revert b3; rename Nat => b1; revert b1
 intro b1 b3
 refine qR 160 4 ?_
 refine yD (fun (z : Nat × Value) => (⟨[(1, .ptr b1 0), (3, .ptr b3 0), (9, .agg [.ptr b1 0, .ptr b1 1, .ptr b1 2, .ptr b1 3, .ptr b1 4, .ptr b1 5, .ptr b1 6, .ptr b1 7]), (10, .int .i64 z.1)], .row z.2 160 4 (((wZ s).take z.1).map itC) :: .cells b3 [.int .i64 3, .int .i64 0, noStr, .slv z.2] 160 :: .cells b1 (slC s) 43 :: σ, [], Tryz.f84.ntmps⟩ : St)) (fun z => z.1 ≤ 8) (fun z => 8 - z.1) (0, nilS) (Nat.zero_le _) (St.le_of (by repeat (first | exact trivial | refine ⟨rfl, ?_⟩)) (by repeat (first | exact q_r | apply q_q | apply q_k))) ?_
 intro z hI
 obtain ⟨k, w⟩ := z
 dsimp only at hI ⊢
 have hfl : (wZ s).length = 8 := rfl
 by_cases hk : k < 8
 ·obtain ⟨n, hn⟩ : ∃ n, (wZ s)[k]? = some n := yW (by omega)
  have hg1 := slC_get hn
  have hg2 := ptrs_get (b := b1) hk
  have hst : ((wZ s).take (k + 1)).map itC = ((wZ s).take k).map itC ++ [itC n] := by rw [List.take_add_one, hn, List.map_append]; rfl
  have htl : (((wZ s).take k).map itC).length ≤ 8 := by rw [List.length_map, List.length_take]; omega
  clear hen hs hn
  generalize ((wZ s).take k).map itC = T at hst htl ⊢
  refine zY (zZ ?_); refine xY ?_; intro _ _; refine zX (zY (yN ?_ ?_)) <;> (intro h hp k; (try subst k); (try simp only [q_n] at hp); try first | omega | (cases hp; done));
  refine zW (zY (zT ?_)); refine zY (zZ ?_); apply zU; rfl; rfl; rfl; (apply g_index1; rfl; rfl; rfl; (rfl); (omega); (assumption)); refine zP ?_; refine zX ?_; rotate_left
  all_goals ((repeat (rename BV _ _ => k; first | cases k | clear k)); try exact zN)
  refine xN cellsK 8 [7] rfl (by kernel_rfl) rfl ?_
  simp only [wU]
  refine vR ?_; refine vW ?_; refine xU ?_; apply yY; rfl; rfl; rfl; (intro σ' hl; (apply zK <;> rfl)); apply yY; rfl; rfl; rfl; (intro σ' hl; exact g_load1 rfl rfl (.p (hl _ True.intro (by repeat first | exact q_h | apply q_t | assumption)) hg1)); apply yY; rfl; rfl; rfl; (intro σ' hl; (apply tK <;> rfl)); apply yY; rfl; rfl; rfl; (intro σ' hl; (exact xE (yV rfl rfl (by decide) rfl rfl (by (simp only [xC, wU]; rfl))))); refine wE rfl rfl rfl (by apply xG; rfl; rfl; rfl; (intro v'; exact (by (exact Upd.here))); (exact .d); (intro y hy; simp only [tC] at hy; (focus (obtain ⟨_, _, rfl⟩ := hy; rfl; done))); (refine wP ?_ (by kernel_rfl); (try simp only [List.length_append, List.length_map, List.length_cons, List.length_nil, List.length_take, List.length_drop]); omega)) ?_; rintro _ _ ⟨v2⟩; refine ⟨upd_keepsK (fun h => h) (by (exact Upd.here)), ?_⟩; refine zC (uZ ?_); refine yR ?_; refine zQ (zZ (vX ?_)); refine zR ?_; refine zQ ?_; simp only [zA, zF, zE, zH, yK, ↓reduceIte, Nat.reduceEqDiff]; rotate_left
  all_goals ((repeat (rename BV _ _ => k; first | cases k | clear k)); try exact zN)
  refine ⟨(k + 1, v2), hk, by dsimp only; omega, ?_⟩
  dsimp only
  rw [hst]
  exact wW
 ·have e : k = 8 := by omega
  subst e
  have hall : (wZ s).take 8 = wZ s := List.take_of_length_le (by omega)
  rw [hall]
  refine ex_shut (v := w) (env' := [(3, .ptr b3 0), (10, .int .i64 ((8 : Nat) : Int))]) .here (.cells (.same (.same (.same (.here .nil)))) (ShutEnts.refl _)) (by repeat (first | exact .nil | refine .same rfl ?_)) ?_
  generalize msgS s = C at hen ⊢
  refine zY (zZ ?_); refine xY ?_; intro _ _; refine zX (zY (yN ?_ ?_)) <;> (intro h hp k; (try subst k); (try simp only [q_n] at hp); try first | omega | (cases hp; done));
  refine yQ ?_; refine zY (zZ ?_); refine yA ?_; apply zU; rfl; rfl; rfl; (refine yJ ?_; exact hen _); refine zR ?_; (iterate 2 refine tG ?_); (iterate 2 refine zP ?_); refine zX (zY (zZ ?_)); refine zR ?_; refine zP ?_; refine zX (zV ?_); simp only [yX]; rotate_left
  all_goals ((repeat (rename BV _ _ => k; first | cases k | clear k)); try exact zN)
  refine xW ?_
  rfl
def vU : Nat → List Nat → Option (Nat × List Nat)
 | _, [] => none
 | i, c :: r => if (i = 0 ∨ c ≠ 0) ∧ (i < 9 ∨ c ≤ 1) then if c < 128 then some (c, r) else (vU (i + 1) r).map fun p => (c - 128 + 128 * p.1, p.2) else none
theorem numD_enc : ∀ (l : List Nat) (i u : Nat) (r : List Nat), vU i l = some (u, r) → (∀ b ∈ l, b < 256) → i ≤ 9 → l = tR u ++ r ∧ u < 2 ^ (64 - 7 * i) ∧ (0 < i → u ≠ 0)
 | [], i, u, r, h, _, _ => by simp [vU] at h
 | c :: l, i, u, r, h, hb, hi => by
  rw [vU] at h
  split at h
  ·rename_i hc
   obtain ⟨hc1, hc2⟩ := hc
   have hcb := hb c (by simp)
   split at h
   ·rename_i hlo
    cases h
    refine ⟨by rw [qT hlo]; rfl, ?_, fun h0 => by omega⟩
    by_cases h9 : i < 9
    ·have h1 : 2 ^ 7 ≤ 2 ^ (64 - 7 * i) := Nat.pow_le_pow_right (by decide) (by omega)
     have : (2 : Nat) ^ 7 = 128 := by decide
     omega
    ·have : i = 9 := by omega
     subst this
     have : (2 : Nat) ^ (64 - 7 * 9) = 2 := by decide
     omega
   ·rename_i hlo
    have h9 : i < 9 := by omega
    cases hn : vU (i + 1) l with
    | none => rw [hn] at h; cases h
    | some p =>
     obtain ⟨v, s⟩ := p
     rw [hn] at h
     cases h
     obtain ⟨e1, e2, e3⟩ := numD_enc l (i + 1) v _ hn (fun b hb' => hb b (by simp [hb'])) (by omega)
     have hv := e3 (by omega)
     have hp : (2 : Nat) ^ (64 - 7 * i) = 128 * 2 ^ (64 - 7 * (i + 1)) := by
      rw [show 64 - 7 * i = 7 + (64 - 7 * (i + 1)) by omega, Nat.pow_add]
     refine ⟨?_, by dsimp only; omega, fun _ => by dsimp only; omega⟩
     dsimp only
     rw [numL_hi (by omega), show (c - 128 + 128 * v) % 128 + 128 = c by omega, show (c - 128 + 128 * v) / 128 = v by omega, e1]
     rfl
  ·cases h
inductive Vt
 | mk (k n : Int) (s : List Nat) (l : List Vt)
def Vt.kind : Vt → Int | .mk k _ _ _ => k
def Vt.num : Vt → Int | .mk _ n _ _ => n
def Vt.list : Vt → List Vt | .mk _ _ _ l => l
def sgn (u : Nat) : Int := if u % 2 = 0 then (u / 2 : Nat) else -((u / 2 : Nat) : Int) - 1
def usg (n : Int) : Nat := if 0 ≤ n then 2 * n.toNat else 2 * (-(n + 1)).toNat + 1
theorem usg_sgn (u : Nat) : usg (sgn u) = u := by
 unfold usg sgn
 by_cases h : u % 2 = 0
 ·rw [if_pos h, if_pos (by omega)]; omega
 ·rw [if_neg h, if_neg (by omega)]; omega
def qZ (f : List Nat → Option (Vt × List Nat)) : Nat → List Nat → Option (List Vt × List Nat)
 | 0, r => some ([], r)
 | n + 1, r => (f r).bind fun p => (qZ f n p.2).map fun q => (p.1 :: q.1, q.2)
def valO (o : Option (List Nat → Option (Vt × List Nat))) : List Nat → Option (Vt × List Nat)
 | [] => none
 | k :: r =>
  if k = 1 then (vU 0 r).map fun p => (.mk 1 (sgn p.1) [] [], p.2)
  else if k = 2 then (vU 0 r).bind fun p => if p.1 ≤ p.2.length then some (.mk 2 0 (p.2.take p.1) [], p.2.drop p.1) else none
  else if k = 3 then o.bind fun f => (vU 0 r).bind fun p => if p.1 ≤ p.2.length then (qZ f p.1 p.2).map fun q => (.mk 3 0 [] q.1, q.2) else none
  else none
def tF : Nat → List Nat → Option (Vt × List Nat)
 | 0 => valO none
 | d + 1 => valO (some (tF d))
def itmL (n : Int) : List Nat := 1 :: tR (usg n)
theorem val_int {d : Nat} {b r : List Nat} {t : Vt} (h : tF d b = some (t, r)) (hk : t.kind = 1) (hb : ∀ x ∈ b, x < 256) : b = itmL t.num ++ r := by
 have h' : ∃ o, valO o b = some (t, r) := by cases d with | zero => exact ⟨_, h⟩ | succ d => exact ⟨_, h⟩
 clear h
 obtain ⟨o, h⟩ := h'
 cases b with
 | nil => cases h
 | cons k b =>
  rw [valO] at h
  split at h
  ·rename_i hk1
   subst hk1
   cases hn : vU 0 b with
   | none => rw [hn] at h; cases h
   | some p =>
    rw [hn] at h
    cases h
    obtain ⟨e, _⟩ := numD_enc b 0 p.1 p.2 hn (fun x hx => hb x (by simp [hx])) (by omega)
    show 1 :: b = 1 :: tR (usg (sgn p.1)) ++ p.2
    rw [usg_sgn, List.cons_append, ← e]
  ·split at h
   ·cases hn : vU 0 b with
    | none => rw [hn] at h; cases h
    | some p =>
     rw [hn] at h
     dsimp only [Option.bind_some] at h
     split at h
     ·cases h; cases hk
     ·cases h
   ·split at h
    ·cases o with
     | none => cases h
     | some f =>
      cases hn : vU 0 b with
      | none => rw [hn] at h; cases h
      | some p =>
       rw [hn] at h
       dsimp only [Option.bind_some] at h
       split at h
       ·cases hl : qZ f p.1 p.2 with
        | none => rw [hl] at h; cases h
        | some q => rw [hl] at h; cases h; cases hk
       ·cases h
    ·cases h
theorem list_ints {d : Nat} : ∀ (n : Nat) (b r : List Nat) (l : List Vt), qZ (tF d) n b = some (l, r) → (∀ t ∈ l, t.kind = 1) → (∀ x ∈ b, x < 256) → b = l.flatMap (fun t => itmL t.num) ++ r ∧ l.length = n
 | 0, b, r, l, h, _, _ => by cases h; simp
 | n + 1, b, r, l, h, hk, hb => by
  rw [qZ] at h
  cases hv : tF d b with
  | none => rw [hv] at h; cases h
  | some p =>
   obtain ⟨t, s⟩ := p
   rw [hv] at h
   dsimp only [Option.bind_some] at h
   cases hl : qZ (tF d) n s with
   | none => rw [hl] at h; cases h
   | some q =>
    obtain ⟨l', r'⟩ := q
    rw [hl] at h
    cases h
    have e1 := val_int hv (hk t (by simp)) hb
    obtain ⟨e2, e3⟩ := list_ints n s _ _ hl (fun x hx => hk x (by simp [hx])) (fun x hx => hb x (by rw [e1]; simp [hx]))
    refine ⟨?_, by simp [e3]⟩
    rw [e1, List.flatMap_cons, List.append_assoc, ← e2]
theorem val_list {d : Nat} {b r : List Nat} {t : Vt} (h : tF d b = some (t, r)) (hk : t.kind = 3) (hi : ∀ x ∈ t.list, x.kind = 1) (hb : ∀ x ∈ b, x < 256) : b = 3 :: tR t.list.length ++ t.list.flatMap (fun t => itmL t.num) ++ r := by
 have h' : ∃ o, valO o b = some (t, r) ∧ ∀ f, o = some f → ∃ d, f = tF d := by
  cases d with
  | zero => exact ⟨_, h, fun f e => by cases e⟩
  | succ d => exact ⟨_, h, fun f e => by cases e; exact ⟨d, rfl⟩⟩
 clear h
 obtain ⟨o, h, ho⟩ := h'
 cases b with
 | nil => cases h
 | cons k b =>
  rw [valO] at h
  split at h
  ·cases hn : vU 0 b with
   | none => rw [hn] at h; cases h
   | some p => rw [hn] at h; cases h; cases hk
  ·split at h
   ·cases hn : vU 0 b with
    | none => rw [hn] at h; cases h
    | some p =>
     rw [hn] at h
     dsimp only [Option.bind_some] at h
     split at h
     ·cases h; cases hk
     ·cases h
   ·split at h
    ·rename_i hk3
     subst hk3
     cases o with
     | none => cases h
     | some f =>
      obtain ⟨d, rfl⟩ := ho f rfl
      cases hn : vU 0 b with
      | none => rw [hn] at h; cases h
      | some p =>
       rw [hn] at h
       dsimp only [Option.bind_some] at h
       obtain ⟨e1, _⟩ := numD_enc b 0 p.1 p.2 hn (fun x hx => hb x (by simp [hx])) (by omega)
       split at h
       ·cases hl : qZ (tF d) p.1 p.2 with
        | none => rw [hl] at h; cases h
        | some q =>
         rw [hl] at h
         cases h
         obtain ⟨e2, e3⟩ := list_ints p.1 p.2 q.2 q.1 hl hi (fun x hx => hb x (by rw [e1]; simp [hx]))
         show 3 :: b = 3 :: tR q.1.length ++ q.1.flatMap (fun t => itmL t.num) ++ q.2
         rw [e3, List.cons_append, List.cons_append, List.append_assoc, ← e2, ← e1]
       ·cases h
    ·cases h
structure Ps where
 k : Int
 a : Int
 t : Int
 i : Int
 s : Sl
def heardS (l : List Sl) (s : Sl) : List Sl := if s.seq = (uJ l s.tab : Nat) ∧ xQ (uT l s) = 0 then uT l s else l
structure Qk where
 f : Int
 t : Int
 s : Sl
 deriving DecidableEq
structure RtQ (B : List (List Sl)) (Q : List Qk) : Prop where
 n1 : 1 ≤ B.length
 n8 : B.length ≤ 8
 ck : ∀ l ∈ B, xQ l = 0
 tab : ∀ l ∈ B, ∀ s ∈ l, s.tab < B.length
 net : ∀ q ∈ Q, 0 ≤ q.f ∧ 0 ≤ q.t ∧ q.f ≠ q.t ∧ q.f < B.length ∧ q.t < B.length ∧ Sendable q.s ∧ q.s.tab < B.length
 few : Q.length ≤ 4096
def doS (B : List (List Sl)) (Q : List Qk) (r : Ps) : Except Int (List (List Sl) × List Qk) :=
 if r.k = 1 then
  if 0 ≤ r.a ∧ r.a < B.length ∧ r.s.tab = r.a then
   (if (vQ (B.getD r.a.toNat []) r.s).2 = 0 then .ok (B.set r.a.toNat (vQ (B.getD r.a.toNat []) r.s).1, Q) else .error (vQ (B.getD r.a.toNat []) r.s).2)
  else .error 1
 else if r.k = 2 then
  if 0 ≤ r.a ∧ r.a < B.length ∧ 0 ≤ r.t ∧ r.t < B.length ∧ r.a ≠ r.t then
   (if Q.length + (B.getD r.a.toNat []).length ≤ 4096 then .ok (B, Q ++ (B.getD r.a.toNat []).map fun s => ⟨r.a, r.t, s⟩) else .error 2)
  else .error 1
 else if r.k = 3 ∨ r.k = 4 ∨ r.k = 5 then
  if r.i < 0 ∨ (Q.length : Int) ≤ r.i then .error 1
  else match Q[r.i.toNat]? with
   | none => .error 1
   | some q =>
    if r.k = 3 then .ok (B.set q.t.toNat (heardS (B.getD q.t.toNat []) q.s), Q.eraseIdx r.i.toNat)
    else if r.k = 4 then .ok (B, Q.eraseIdx r.i.toNat)
    else if Q.length = 4096 then .error 2
    else .ok (B, Q ++ [q])
 else .error 1
structure Hist (B : List (List Sl)) (Q : List Qk) (W : List (List Sl)) : Prop where
 rt : RtQ B Q
 len : W.length = B.length
 own : ∀ t : Nat, t < B.length → qE (B.getD t []) t = W.getD t []
 pre : ∀ l ∈ B, ∀ t : Nat, t < B.length → qE l t <+: W.getD t []
 net : ∀ q ∈ Q, ∀ t : Nat, q.s.tab = t → (W.getD t [])[q.s.seq.toNat]? = some q.s
theorem getD_set {α : Type} (B : List α) (k t : Nat) (x d : α) (hk : k < B.length) : (B.set k x).getD t d = if k = t then x else B.getD t d := by
 rw [List.getD_eq_getElem?_getD, List.getD_eq_getElem?_getD, List.getElem?_set]
 split
 ·rename_i e; subst e
  first
   | rfl
   | (rw [if_pos hk]; rfl)
 ·rfl
theorem getD_mem {α : Type} {B : List α} {t : Nat} {d : α} (h : t < B.length) : B.getD t d ∈ B := by
 rw [List.getD_eq_getElem?_getD, List.getElem?_eq_getElem h]; exact List.getElem_mem h
theorem pre_get {α : Type} {p w : List α} (h : p <+: w) {i : Nat} {x : α} (hx : p[i]? = some x) : w[i]? = some x := by
 obtain ⟨r, rfl⟩ := h
 rw [List.getElem?_append_left (wD hx)]; exact hx
theorem pre_snoc {α : Type} {p w : List α} {x : α} (h : p <+: w) (hx : w[p.length]? = some x) : p ++ [x] <+: w := by
 obtain ⟨r, rfl⟩ := h
 rw [List.getElem?_append_right (Nat.le_refl _), Nat.sub_self] at hx
 cases r with
 | nil => cases hx
 | cons y r => cases hx; exact ⟨r, by simp⟩
theorem eraseIdx_mem {α : Type} {Q : List α} {k : Nat} {x : α} (h : x ∈ Q.eraseIdx k) : x ∈ Q := (List.eraseIdx_sublist Q k).subset h
theorem hist_new {n : Nat} (h1 : 1 ≤ n) (h8 : n ≤ 8) : Hist (List.replicate n []) [] (List.replicate n []) := by
 have hm : ∀ l ∈ List.replicate n ([] : List Sl), l = [] := fun l hl => (List.mem_replicate.1 hl).2
 have hg : ∀ t : Nat, (List.replicate n ([] : List Sl)).getD t [] = [] := fun t => by
  rw [List.getD_eq_getElem?_getD, List.getElem?_replicate]; split <;> rfl
 refine ⟨⟨by simp [h1], by simp [h8], fun l hl => by rw [hm l hl]; rfl, fun l hl s hs => by rw [hm l hl] at hs; simp at hs, by simp, by simp⟩, rfl, fun t _ => by rw [hg]; rfl, fun l hl t _ => by rw [hm l hl, hg]; exact List.prefix_refl _, by simp⟩
theorem sub_of {l : List Sl} (h : BookC l) {s : Sl} (hs : s ∈ l) : (qE l s.tab)[s.seq.toNat]? = some s := by
 obtain ⟨i, hi⟩ := List.getElem?_of_mem (ofT_mem.2 ⟨hs, rfl⟩ : s ∈ qE l s.tab)
 have := (h.each s.tab).seq i s hi
 rw [show s.seq.toNat = i by omega]; exact hi
def wroteS (W : List (List Sl)) (r : Ps) : List (List Sl) := if r.k = 1 then W.set r.a.toNat (W.getD r.a.toNat [] ++ [{ r.s with seq := ((W.getD r.a.toNat []).length : Nat) }]) else W
structure GrewB (B B' : List (List Sl)) : Prop where
 len : B'.length = B.length
 more : ∀ i : Nat, i < B.length → (B.getD i []).length ≤ (B'.getD i []).length
theorem grew_refl (B : List (List Sl)) : GrewB B B := ⟨rfl, fun _ _ => Nat.le_refl _⟩
theorem grew_set {B : List (List Sl)} {k : Nat} {x : List Sl} (hk : k < B.length) (h : (B.getD k []).length ≤ x.length) : GrewB B (B.set k x) :=
 ⟨List.length_set, fun i hi => by rw [getD_set _ _ _ _ _ hk]; split; · rename_i e; subst e; exact h
                                  ·exact Nat.le_refl _⟩
theorem hist_put {B : List (List Sl)} {Q Q' : List Qk} {W W' : List (List Sl)} {k : Nat} {s : Sl} (h : Hist B Q W) (hk : k < B.length) (hc : xQ (uT (B.getD k []) s) = 0) (hst : 0 ≤ s.tab ∧ s.tab < B.length) (hQ : ∀ q ∈ Q', q ∈ Q) (hQl : Q'.length ≤ Q.length)
  (hW : W'.length = W.length) (hWp : ∀ t : Nat, W.getD t [] <+: W'.getD t []) (hpre : qE (B.getD k []) s.tab ++ [s] <+: W'.getD s.tab.toNat [])
  (hown : ∀ t : Nat, t < B.length → qE ((B.set k (uT (B.getD k []) s)).getD t []) t = W'.getD t []) : Hist (B.set k (uT (B.getD k []) s)) Q' W' := by
 have hkm : B.getD k [] ∈ B := getD_mem hk
 have hb := uC (h.rt.ck _ hkm)
 generalize B.getD k [] = l at *
 refine ⟨⟨by simp [h.rt.n1], by simp [h.rt.n8], fun l' hl' => ?_, fun l' hl' x hx => ?_, fun q hq => ?_, by have := h.rt.few; omega⟩, by rw [hW, h.len, List.length_set], fun t ht => hown t (by simpa using ht), fun l' hl' t ht => ?_, fun q hq t ht => pre_get (hWp t) (h.net q (hQ q hq) t ht)⟩
 ·rcases List.mem_or_eq_of_mem_set hl' with hl' | rfl
  ·exact h.rt.ck _ hl'
  ·exact hc
 ·rw [List.length_set]
  rcases List.mem_or_eq_of_mem_set hl' with hl' | rfl
  ·exact h.rt.tab _ hl' x hx
  ·rcases put_mem.1 hx with rfl | hx
   ·exact hst.2
   ·exact h.rt.tab _ hkm x hx
 ·rw [List.length_set]; exact h.rt.net q (hQ q hq)
 ·rw [List.length_set] at ht
  rcases List.mem_or_eq_of_mem_set hl' with hl' | rfl
  ·exact (h.pre _ hl' t ht).trans (hWp t)
  ·rw [ofT_put hb.up]
   split
   ·rename_i e
    rw [show s.tab.toNat = t by omega, e] at hpre; exact hpre
   ·exact (h.pre _ hkm t ht).trans (hWp t)
theorem hist_do {B : List (List Sl)} {Q : List Qk} {W : List (List Sl)} {r : Ps} {B' : List (List Sl)} {Q' : List Qk} (h : Hist B Q W) (hd : doS B Q r = .ok (B', Q')) : Hist B' Q' (wroteS W r) ∧ GrewB B B' ∧ (r.k = 1 → 0 ≤ r.a ∧ r.a < B.length) := by
 unfold doS at hd
 unfold wroteS
 by_cases k1 : r.k = 1
 ·rw [if_pos k1] at hd ⊢
  by_cases hc : 0 ≤ r.a ∧ r.a < B.length ∧ r.s.tab = r.a
  ·rw [if_pos hc] at hd
   obtain ⟨k, hkk⟩ : ∃ k : Nat, r.a = k := ⟨r.a.toNat, by omega⟩
   have hkB : k < B.length := by omega
   have hkm : B.getD k [] ∈ B := getD_mem hkB
   have hck := h.rt.ck _ hkm
   have hb := uC hck
   have hown := h.own k hkB
   rw [show r.a.toNat = k by omega] at hd ⊢
   by_cases hw : (vQ (B.getD k []) r.s).2 = 0
   ·rw [if_pos hw] at hd
    injection hd with hd; injection hd with e1 e2
    subst e1 e2
    have hmany : uJ (B.getD k []) r.s.tab = (W.getD k []).length := by rw [many_len, hc.2.2, hkk, hown]
    have hwr : (vQ (B.getD k []) r.s).1 = uT (B.getD k []) { r.s with seq := ((W.getD k []).length : Nat) } ∧ xQ (uT (B.getD k []) { r.s with seq := ((W.getD k []).length : Nat) }) = 0 := by
     unfold vQ at hw ⊢
     rw [if_neg (by rw [hck]; simp), hmany] at hw ⊢
     by_cases h5 : (B.getD k []).length = 512
     ·rw [if_pos h5] at hw; exact absurd hw (by decide)
     ·rw [if_neg h5] at hw ⊢
      cases hbk : qN (uT (B.getD k []) { r.s with seq := ((W.getD k []).length : Nat) }) with
      | false => rw [hbk] at hw; simp at hw
      | true =>
       refine ⟨by simp, check_zero.2 ⟨?_, hbk⟩⟩
       have := (check_zero.1 hck).1
       rw [put_len]; omega
    obtain ⟨hw1, hw2⟩ := hwr
    rw [hw1]
    have hWk : k < W.length := by rw [h.len]; exact hkB
    obtain ⟨s, hs⟩ : ∃ s : Sl, s = { r.s with seq := ((W.getD k []).length : Nat) } := ⟨_, rfl⟩
    rw [← hs] at hw2 ⊢
    have hst : s.tab = k := by rw [hs]; show r.s.tab = k; omega
    refine ⟨hist_put h hkB hw2 (by omega) (fun q hq => hq) (Nat.le_refl _) List.length_set (fun t => ?_) ?_ (fun t ht => ?_), grew_set hkB (by rw [put_len]; omega), fun _ => ⟨hc.1, hc.2.1⟩⟩
    ·rw [getD_set _ _ _ _ _ hWk]
     split
     ·rename_i e; subst e; exact List.prefix_append _ _
     ·exact List.prefix_refl _
    ·rw [hst, show ((k : Int)).toNat = k by omega, getD_set _ _ _ _ _ hWk, if_pos rfl, hown]
     exact List.prefix_refl _
    ·rw [getD_set _ _ _ _ _ hkB, getD_set _ _ _ _ _ hWk]
     split
     ·rename_i e; subst e
      rw [ofT_put hb.up, if_pos hst, hown]
     ·exact h.own t ht
   ·rw [if_neg hw] at hd; cases hd
  ·rw [if_neg hc] at hd; cases hd
 ·rw [if_neg k1] at hd
  rw [if_neg k1]
  refine ⟨?_, ?_, fun e => absurd e k1⟩ <;> clear k1
  all_goals
   by_cases k2 : r.k = 2
   ·rw [if_pos k2] at hd
    by_cases hc : 0 ≤ r.a ∧ r.a < B.length ∧ 0 ≤ r.t ∧ r.t < B.length ∧ r.a ≠ r.t
    ·rw [if_pos hc] at hd
     split at hd
     ·rename_i hlen
      injection hd with hd; injection hd with e1 e2
      subst e1 e2
      first
       | exact grew_refl _
       | (have hkB : r.a.toNat < B.length := by omega
          have hkm : B.getD r.a.toNat [] ∈ B := getD_mem hkB
          have hck := h.rt.ck _ hkm
          have hb := uC hck
          refine ⟨⟨h.rt.n1, h.rt.n8, h.rt.ck, h.rt.tab, fun q hq => ?_, by simpa using hlen⟩, h.len, h.own, h.pre, fun q hq t ht => ?_⟩
          ·rcases List.mem_append.1 hq with hq | hq
           ·exact h.rt.net q hq
           ·obtain ⟨s, hs, rfl⟩ := List.mem_map.1 hq
            exact ⟨hc.1, hc.2.2.1, hc.2.2.2.2, hc.2.1, hc.2.2.2.1, sendable_book hck hs, h.rt.tab _ hkm s hs⟩
          ·rcases List.mem_append.1 hq with hq | hq
           ·exact h.net q hq t ht
           ·obtain ⟨s, hs, rfl⟩ := List.mem_map.1 hq
            dsimp only at ht ⊢
            have h1 := h.rt.tab _ hkm s hs
            have h2 := sub_of hb hs
            rw [ht] at h2
            exact pre_get (h.pre _ hkm t (by omega)) h2)
     ·cases hd
    ·rw [if_neg hc] at hd; cases hd
   ·rw [if_neg k2] at hd
    by_cases k3 : r.k = 3 ∨ r.k = 4 ∨ r.k = 5
    ·rw [if_pos k3] at hd
     by_cases hi : r.i < 0 ∨ (Q.length : Int) ≤ r.i
     ·rw [if_pos hi] at hd; cases hd
     ·rw [if_neg hi] at hd
      obtain ⟨q, hq⟩ : ∃ q, Q[r.i.toNat]? = some q := yW (by omega)
      rw [hq] at hd
      dsimp only at hd
      have hqm := List.mem_of_getElem? hq
      obtain ⟨n1, n2, n3, n4, n5, n6, n7⟩ := h.rt.net q hqm
      have hkB : q.t.toNat < B.length := by omega
      have hkm : B.getD q.t.toNat [] ∈ B := getD_mem hkB
      have hck := h.rt.ck _ hkm
      have hb := uC hck
      have hlose : Hist B (Q.eraseIdx r.i.toNat) W := ⟨⟨h.rt.n1, h.rt.n8, h.rt.ck, h.rt.tab, fun q hq => h.rt.net q (eraseIdx_mem hq), by have := h.rt.few; have := (List.eraseIdx_sublist Q r.i.toNat).length_le; omega⟩, h.len, h.own, h.pre, fun q hq => h.net q (eraseIdx_mem hq)⟩
      split at hd
      ·injection hd with hd; injection hd with e1 e2
       subst e1 e2
       have hself : ∀ l : List Sl, l = B.getD q.t.toNat [] → B.set q.t.toNat l = B := fun l e => by
        subst e
        refine List.ext_getElem? fun j => ?_
        rw [List.getElem?_set]
        split
        ·rename_i e; subst e
         first
          | (rw [List.getD_eq_getElem?_getD, List.getElem?_eq_getElem hkB]; rfl)
          | (rw [if_pos hkB, List.getD_eq_getElem?_getD, List.getElem?_eq_getElem hkB]; rfl)
        ·rfl
       by_cases hh : q.s.seq = (uJ (B.getD q.t.toNat []) q.s.tab : Nat) ∧ xQ (uT (B.getD q.t.toNat []) q.s) = 0
       ·rw [show heardS (B.getD q.t.toNat []) q.s = uT (B.getD q.t.toNat []) q.s from if_pos hh]
        first
         | exact grew_set hkB (by rw [put_len]; omega)
         | (have hnt := h.net q hqm q.s.tab.toNat (by have := n6.tab; omega)
            have h0 := n6.tab.1
            have hmany : (qE (B.getD q.t.toNat []) q.s.tab).length = q.s.seq.toNat := by have := hh.1; rw [many_len] at this; omega
            refine hist_put h hkB hh.2 ⟨h0, n7⟩ (fun q hq => eraseIdx_mem hq) (List.eraseIdx_sublist Q r.i.toNat).length_le rfl (fun t => List.prefix_refl _) (pre_snoc ?_ (by rw [hmany]; exact hnt)) (fun t ht => ?_)
            ·have := h.pre _ hkm q.s.tab.toNat (by omega)
             rwa [show ((q.s.tab.toNat : Nat) : Int) = q.s.tab by omega] at this
            ·rw [getD_set _ _ _ _ _ hkB]
             split
             ·rename_i e
              rw [ofT_put hb.up]
              have ho := h.own t ht
              split
              ·rename_i e2
               rw [show q.s.tab.toNat = t by omega, ← ho, ← e] at hnt
               rw [e2, ← e] at hmany
               have := wD hnt
               omega
              ·rw [e]; exact ho
             ·exact h.own t ht)
       ·rw [show heardS (B.getD q.t.toNat []) q.s = B.getD q.t.toNat [] from if_neg hh, hself _ rfl]
        first
         | exact grew_refl _
         | exact hlose
      ·split at hd
       ·injection hd with hd; injection hd with e1 e2
        subst e1 e2
        first
         | exact grew_refl _
         | exact hlose
       ·split at hd
        ·cases hd
        ·rename_i hfull
         injection hd with hd; injection hd with e1 e2
         subst e1 e2
         first
          | exact grew_refl _
          | (have hfew := h.rt.few
             refine ⟨⟨h.rt.n1, h.rt.n8, h.rt.ck, h.rt.tab, fun p hp => ?_, by simp; omega⟩, h.len, h.own, h.pre, fun p hp => ?_⟩
             ·rcases List.mem_append.1 hp with hp | hp
              ·exact h.rt.net p hp
              ·rw [List.mem_singleton] at hp; subst hp; exact h.rt.net p hqm
             ·rcases List.mem_append.1 hp with hp | hp
              ·exact h.net p hp
              ·rw [List.mem_singleton] at hp; subst hp; exact h.net p hqm)
    ·rw [if_neg k3] at hd; cases hd
theorem numD_num : ∀ (k u i : Nat) (r : List Nat), u ≤ k → u < 2 ^ (64 - 7 * i) → i ≤ 9 → (0 < i → u ≠ 0) → vU i (tR u ++ r) = some (u, r) := by
 intro k
 induction k with
 | zero =>
  intro u i r hk hu hi hz
  have e : u = 0 := by omega
  subst e
  rw [qT (by decide), List.singleton_append, vU]
  rw [if_pos ⟨by rcases Nat.eq_zero_or_pos i with h | h; exact .inl h; exact absurd rfl (hz h), by right; omega⟩, if_pos (by decide)]
 | succ k ih =>
  intro u i r hk hu hi hz
  by_cases hlo : u < 128
  ·rw [qT hlo, List.singleton_append, vU]
   have h9 : i < 9 ∨ u ≤ 1 := by
    by_cases h : i < 9
    ·exact .inl h
    ·have : i = 9 := by omega
     subst this
     have : (2 : Nat) ^ (64 - 7 * 9) = 2 := by decide
     right; omega
   rw [if_pos ⟨by rcases Nat.eq_zero_or_pos i with h | h; exact .inl h; exact .inr (hz h), h9⟩, if_pos hlo]
  ·have h9 : i < 9 := by
    rcases Nat.lt_or_ge i 9 with h | h
    ·exact h
    ·have : i = 9 := by omega
     subst this
     have : (2 : Nat) ^ (64 - 7 * 9) = 2 := by decide
     omega
   rw [numL_hi hlo, List.cons_append, vU]
   rw [if_pos ⟨.inr (by omega), .inl h9⟩, if_neg (by omega)]
   have hp : (2 : Nat) ^ (64 - 7 * i) = 128 * 2 ^ (64 - 7 * (i + 1)) := by
    rw [show 64 - 7 * i = 7 + (64 - 7 * (i + 1)) by omega, Nat.pow_add]
   rw [ih (u / 128) (i + 1) r (by omega) (by rw [hp] at hu; omega) (by omega) (fun _ => by omega)]
   simp only [Option.map_some, Option.some.injEq, Prod.mk.injEq, and_true]
   omega
theorem numD_some {b r : List Nat} {u : Nat} (h : vU 0 b = some (u, r)) (hb : ∀ x ∈ b, x < 256) : b = tR u ++ r ∧ u < 18446744073709551616 := by
 obtain ⟨h1, h2, _⟩ := numD_enc b 0 u r h hb (by omega)
 exact ⟨h1, by simpa using h2⟩
theorem numD_len : ∀ {b r : List Nat} {i u : Nat}, vU i b = some (u, r) → r.length < b.length
 | [], r, i, u, h => by cases h
 | c :: b, r, i, u, h => by
  rw [vU] at h
  split at h
  ·split at h
   ·cases h; simp
   ·cases hn : vU (i + 1) b with
    | none => rw [hn] at h; cases h
    | some p =>
     rw [hn] at h
     cases h
     have := numD_len (r := p.2) (u := p.1) hn
     simp; omega
  ·cases h
theorem numD_sub {b r : List Nat} {i u : Nat} (h : vU i b = some (u, r)) : ∀ x ∈ r, x ∈ b := by
 induction b generalizing i u r with
 | nil => cases h
 | cons c b ih =>
  rw [vU] at h
  split at h
  ·split at h
   ·cases h; exact fun x hx => List.mem_cons_of_mem _ hx
   ·cases hn : vU (i + 1) b with
    | none => rw [hn] at h; cases h
    | some p => rw [hn] at h; cases h; exact fun x hx => List.mem_cons_of_mem _ (ih hn x hx)
  ·cases h
def Vt.str : Vt → List Nat | .mk _ _ s _ => s
mutual
/-- A value's bytes. -/
def vtB : Vt → List Nat
 | .mk k n s l => if k = 1 then 1 :: tR (usg n) else if k = 2 then 2 :: (tR s.length ++ s) else 3 :: (tR l.length ++ vtBs l)
def vtBs : List Vt → List Nat
 | [] => []
 | t :: l => vtB t ++ vtBs l
end
mutual
/-- A value as it may be, lists lying so deep within one another. -/
def VtOk : Nat → Vt → Prop
 | d, .mk k n s l => (k = 1 ∧ s = [] ∧ l = [] ∧ -9223372036854775808 ≤ n ∧ n < 9223372036854775808) ∨ (k = 2 ∧ n = 0 ∧ l = [] ∧ s.length ≤ 1000 ∧ ∀ x ∈ s, x < 256) ∨ (k = 3 ∧ n = 0 ∧ s = [] ∧ l.length ≤ 1000 ∧ 0 < d ∧ VtsOk (d - 1) l)
def VtsOk : Nat → List Vt → Prop
 | _, [] => True
 | d, t :: l => VtOk d t ∧ VtsOk d l
end
mutual
def vtD : Vt → Nat
 | .mk k _ _ l => if k = 3 then vtDs l + 1 else 0
def vtDs : List Vt → Nat
 | [] => 0
 | t :: l => max (vtD t) (vtDs l)
end
theorem vtsOk_mem {d : Nat} : ∀ {l : List Vt}, VtsOk d l → ∀ t ∈ l, VtOk d t
 | [], _, t, h => by cases h
 | x :: l, hw, t, h => by
  simp only [VtsOk] at hw
  rcases List.mem_cons.1 h with rfl | h
  ·exact hw.1
  ·exact vtsOk_mem hw.2 t h
theorem vtsOk_of {d : Nat} : ∀ {l : List Vt}, (∀ t ∈ l, VtOk d t) → VtsOk d l
 | [], _ => by simp [VtsOk]
 | x :: l, h => by simp only [VtsOk]; exact ⟨h x (by simp), vtsOk_of fun t ht => h t (by simp [ht])⟩
theorem vtBs_app : ∀ (l m : List Vt), vtBs (l ++ m) = vtBs l ++ vtBs m
 | [], m => by simp [vtBs]
 | t :: l, m => by simp only [List.cons_append, vtBs, vtBs_app l m, List.append_assoc]
theorem vtDs_le : ∀ {l : List Vt} {t : Vt}, t ∈ l → vtD t ≤ vtDs l
 | [], t, h => by cases h
 | x :: l, t, h => by
  simp only [vtDs]
  rcases List.mem_cons.1 h with rfl | h
  ·omega
  ·have := vtDs_le h; omega
theorem sgn_rng {u : Nat} (h : u < 18446744073709551616) : -9223372036854775808 ≤ sgn u ∧ sgn u < 9223372036854775808 := by
 unfold sgn
 split <;> omega
structure Rd (d : Nat) (b r : List Nat) (t : Vt) : Prop where
 enc : b = vtB t ++ r
 wf : VtOk d t
 dep : vtD t ≤ d
theorem listD_rd {d : Nat} (hv : ∀ {b r : List Nat} {t : Vt}, tF d b = some (t, r) → (∀ x ∈ b, x < 256) → b.length ≤ 1000 → Rd d b r t) : ∀ (n : Nat) (b r : List Nat) (l : List Vt), qZ (tF d) n b = some (l, r) → (∀ x ∈ b, x < 256) → b.length ≤ 1000 → b = vtBs l ++ r ∧ l.length = n ∧ (∀ t ∈ l, VtOk d t) ∧ vtDs l ≤ d
 | 0, b, r, l, h, _, _ => by cases h; simp [vtBs, vtDs]
 | n + 1, b, r, l, h, hb, hl => by
  rw [qZ] at h
  cases hn : tF d b with
  | none => rw [hn] at h; cases h
  | some p =>
   obtain ⟨t, s⟩ := p
   rw [hn] at h
   dsimp only [Option.bind_some] at h
   cases hq : qZ (tF d) n s with
   | none => rw [hq] at h; cases h
   | some q =>
    obtain ⟨l', r'⟩ := q
    rw [hq] at h
    cases h
    have h1 := hv hn hb hl
    have hsl : s.length ≤ 1000 := by have := h1.enc; rw [this] at hl; simp at hl; omega
    obtain ⟨e1, e2, e3, e4⟩ := listD_rd hv n s _ _ hq (fun x hx => hb x (by rw [h1.enc]; simp [hx])) hsl
    have h2 := h1.dep
    refine ⟨by rw [h1.enc, e1]; simp [vtBs], by simp [e2], fun x hx => ?_, by simp only [vtDs]; omega⟩
    rcases List.mem_cons.1 hx with rfl | hx
    ·exact h1.wf
    ·exact e3 x hx
theorem valO_rd {d : Nat} {o : Option (List Nat → Option (Vt × List Nat))} (ho : ∀ f, o = some f → ∃ d', d = d' + 1 ∧ f = tF d' ∧ ∀ {b r : List Nat} {t : Vt}, tF d' b = some (t, r) → (∀ x ∈ b, x < 256) → b.length ≤ 1000 → Rd d' b r t) :
  ∀ {b r : List Nat} {t : Vt}, valO o b = some (t, r) → (∀ x ∈ b, x < 256) → b.length ≤ 1000 → Rd d b r t := by
 intro b r t h hb hl
 cases b with
 | nil => cases h
 | cons k b =>
  have hb' : ∀ x ∈ b, x < 256 := fun x hx => hb x (by simp [hx])
  rw [List.length_cons] at hl
  rw [valO] at h
  split at h
  ·rename_i hk
   subst hk
   cases hn : vU 0 b with
   | none => rw [hn] at h; cases h
   | some p =>
    obtain ⟨u, s⟩ := p
    rw [hn] at h
    cases h
    obtain ⟨e1, e2⟩ := numD_some hn hb'
    obtain ⟨e3, e4⟩ := sgn_rng e2
    refine ⟨?_, ?_, by simp [vtD]⟩
    ·simp only [vtB, if_true, usg_sgn]; rw [List.cons_append, ← e1]
    ·simp only [VtOk]; exact .inl ⟨trivial, trivial, trivial, e3, e4⟩
  ·split at h
   ·rename_i hk
    subst hk
    cases hn : vU 0 b with
    | none => rw [hn] at h; cases h
    | some p =>
     obtain ⟨u, s⟩ := p
     rw [hn] at h
     dsimp only [Option.bind_some] at h
     split at h
     ·rename_i hle
      cases h
      obtain ⟨e1, e2⟩ := numD_some hn hb'
      have hlen : (s.take u).length = u := by rw [List.length_take]; omega
      have hsl := numD_len hn
      refine ⟨?_, ?_, by simp [vtD]⟩
      ·simp only [vtB, if_neg (show ¬ (2 : Int) = 1 by decide), if_true, hlen]
       rw [List.cons_append, List.append_assoc, List.take_append_drop, ← e1]
      ·simp only [VtOk]
       refine .inr (.inl ⟨trivial, trivial, trivial, by omega, fun x hx => hb' x (numD_sub hn x (List.mem_of_mem_take hx))⟩)
     ·cases h
   ·split at h
    ·rename_i hk
     subst hk
     cases o with
     | none => cases h
     | some f =>
      obtain ⟨d', rfl, rfl, hv⟩ := ho f rfl
      dsimp only [Option.bind_some] at h
      cases hn : vU 0 b with
      | none => rw [hn] at h; cases h
      | some p =>
       obtain ⟨u, s⟩ := p
       rw [hn] at h
       dsimp only [Option.bind_some] at h
       split at h
       ·rename_i hle
        obtain ⟨e1, e2⟩ := numD_some hn hb'
        have hsl := numD_len hn
        cases hq : qZ (tF d') u s with
        | none => rw [hq] at h; cases h
        | some q =>
         obtain ⟨l, r'⟩ := q
         rw [hq] at h
         cases h
         obtain ⟨f1, f2, f3, f4⟩ := listD_rd hv u s r' l hq (fun x hx => hb' x (numD_sub hn x hx)) (by omega)
         refine ⟨?_, ?_, by simp only [vtD, if_true]; omega⟩
         ·simp only [vtB, if_neg (show ¬ (3 : Int) = 1 by decide), if_neg (show ¬ (3 : Int) = 2 by decide), f2]
          rw [List.cons_append, List.append_assoc, ← f1, ← e1]
         ·simp only [VtOk]
          exact .inr (.inr ⟨trivial, trivial, trivial, by omega, by omega, vtsOk_of f3⟩)
       ·cases h
    ·cases h
theorem val_rd : ∀ (d : Nat) {b r : List Nat} {t : Vt}, tF d b = some (t, r) → (∀ x ∈ b, x < 256) → b.length ≤ 1000 → Rd d b r t
 | 0 => fun h hb hl => valO_rd (o := none) (fun f e => by cases e) h hb hl
 | d + 1 => fun h hb hl => valO_rd (o := some (tF d)) (fun f e => by cases e; exact ⟨d, rfl, rfl, val_rd d⟩) h hb hl
def decD (b : List Nat) : Option Vt := match tF 16 b with
 | some (t, []) => some t
 | _ => none
theorem decD_rd {b : List Nat} {t : Vt} (h : decD b = some t) (hb : ∀ x ∈ b, x < 256) (hl : b.length ≤ 1000) : vtB t = b ∧ VtOk 16 t ∧ vtD t ≤ 16 := by
 unfold decD at h
 split at h
 ·rename_i t' ht
  cases h
  have h1 := val_rd 16 ht hb hl
  exact ⟨by have := h1.enc; rw [List.append_nil] at this; exact this.symm, h1.wf, h1.dep⟩
 ·cases h
def ofL (l : List Int) : Sl := ⟨l.getD 0 0, l.getD 1 0, l.getD 2 0, l.getD 3 0, l.getD 4 0, l.getD 5 0, l.getD 6 0, l.getD 7 0⟩
theorem fields_of {l : List Int} (h : l.length = 8) : wZ (ofL l) = l := by
 match l, h with
 | [a, b, c, d, e, f, g, i], _ => rfl
theorem of_fields (s : Sl) : ofL (wZ s) = s := rfl
def eightT (t : Vt) : Option (List Int) := if t.kind = 3 ∧ t.list.length = 8 ∧ ∀ x ∈ t.list, x.kind = 1 then some (t.list.map Vt.num) else none
def pX (b : List Nat) : Option Sl := ((decD b).bind eightT).map ofL
theorem flatMap_same {α β : Type} {f g : α → List β} : ∀ {l : List α}, (∀ x ∈ l, f x = g x) → l.flatMap f = l.flatMap g
 | [], _ => rfl
 | x :: l, h => by rw [List.flatMap_cons, List.flatMap_cons, h x (by simp), flatMap_same fun y hy => h y (by simp [hy])]
theorem slipD_enc {b : List Nat} {s : Sl} (h : pX b = some s) (hb : ∀ x ∈ b, x < 256) (hl : b.length ≤ 1000) (h0 : ∀ n ∈ wZ s, 0 ≤ n) : b = msgS s := by
 unfold pX at h
 cases hd : decD b with
 | none => rw [hd] at h; cases h
 | some t =>
  rw [hd] at h
  dsimp only [Option.bind_some] at h
  unfold eightT at h
  split at h
  ·rename_i hc
   obtain ⟨c1, c2, c3⟩ := hc
   simp only [Option.map_some, Option.some.injEq] at h
   have hf : wZ s = t.list.map Vt.num := by rw [← h, fields_of (by rw [List.length_map, c2])]
   obtain ⟨e1, _, _⟩ := decD_rd hd hb hl
   unfold decD at hd
   split at hd
   ·rename_i t' ht
    cases hd
    have h3 := val_list ht c1 c3 hb
    rw [c2, qT (by decide), List.append_nil] at h3
    rw [h3]
    unfold msgS
    have hit : ∀ n : Int, 0 ≤ n → itmL n = vH n := fun n hn => by unfold itmL vH usg; rw [if_pos hn]
    rw [hf, List.flatMap_map]
    have : ∀ x ∈ t.list, itmL x.num = vH x.num := fun x hx => hit _ (h0 _ (by rw [hf]; exact List.mem_map_of_mem hx))
    show 3 :: 8 :: t.list.flatMap (fun t => itmL t.num) = 3 :: 8 :: t.list.flatMap (fun t => vH t.num)
    rw [flatMap_same this]
   ·cases hd
  ·cases h
theorem valD_itm {d : Nat} {n : Int} {r : List Nat} (h0 : 0 ≤ n) (h1 : n ≤ 1073741824) : tF d (vH n ++ r) = some (.mk 1 n [] [], r) := by
 have hv : ∀ o, valO o (vH n ++ r) = some (.mk 1 n [] [], r) := fun o => by
  unfold vH
  rw [List.cons_append, valO, if_pos rfl, numD_num _ (2 * n.toNat) 0 r (Nat.le_refl _) (by rw [Nat.mul_zero]; omega) (by omega) (by omega)]
  simp only [Option.map_some, Option.some.injEq, Prod.mk.injEq, and_true]
  unfold sgn
  rw [if_pos (by omega)]
  congr 1
  omega
 cases d with
 | zero => exact hv none
 | succ d => exact hv _
theorem listD_itms {d : Nat} {r : List Nat} : ∀ {l : List Int}, (∀ n ∈ l, 0 ≤ n ∧ n ≤ 1073741824) → qZ (tF d) l.length (l.flatMap vH ++ r) = some (l.map fun n => .mk 1 n [] [], r)
 | [], _ => rfl
 | n :: l, h => by
  obtain ⟨h1, h2⟩ := h n (by simp)
  rw [List.length_cons, qZ, List.flatMap_cons, List.append_assoc, valD_itm h1 h2]
  dsimp only [Option.bind_some]
  rw [listD_itms fun m hm => h m (by simp [hm])]
  rfl
theorem slipD_msg {s : Sl} (h : Sendable s) : pX (msgS s) = some s := by
 have hn := h.nats
 have h1 : tF 16 (msgS s) = some (.mk 3 0 [] ((wZ s).map fun n => .mk 1 n [] []), []) := by
  show valO (some (tF 15)) (3 :: 8 :: (wZ s).flatMap vH) = _
  have h8 : vU 0 (8 :: (wZ s).flatMap vH) = some (8, (wZ s).flatMap vH) := by
   rw [vU, if_pos ⟨.inl rfl, .inl (by decide)⟩, if_pos (by decide)]
  rw [valO, if_neg (by decide), if_neg (by decide), if_pos rfl, Option.bind_some, h8, Option.bind_some]
  have hlen : 8 ≤ ((wZ s).flatMap vH).length := by
   have : ∀ l : List Int, l.length ≤ (l.flatMap vH).length := fun l => by
    induction l with
    | nil => simp
    | cons a l ih => rw [List.flatMap_cons, List.length_append, List.length_cons]; unfold vH at *; rw [List.length_cons]; omega
   exact this (wZ s)
  dsimp only
  rw [if_pos hlen]
  have h2 := listD_itms (d := 15) (r := []) hn
  rw [List.append_nil] at h2
  rw [show (8 : Nat) = (wZ s).length from rfl, h2]
  rfl
 unfold pX decD
 rw [h1]
 dsimp only [Option.bind_some]
 unfold eightT
 rw [if_pos ⟨rfl, by show ((wZ s).map _).length = 8; rw [List.length_map]; rfl, fun x hx => by
  have hx' : x ∈ (wZ s).map fun n => Vt.mk 1 n [] [] := hx
  obtain ⟨n, _, rfl⟩ := List.mem_map.1 hx'
  rfl⟩]
 show some (ofL (((wZ s).map fun n => Vt.mk 1 n [] []).map Vt.num)) = some s
 rw [List.map_map]
 show some (ofL ((wZ s).map id)) = some s
 rw [List.map_id]
 exact congrArg some (of_fields s)
end Go.Proofs.YtkhoengjdfmfaaaGreat
